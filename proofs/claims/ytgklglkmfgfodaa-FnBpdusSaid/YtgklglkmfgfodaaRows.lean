/-
  No cell of these rows narrows 'for every input' (looked for: loops, veiled, ifaces, maps, wideKeys, modest, calm, conditions, laid).
  DERIVED. THE GIVEN ROWS OF THIS SEAT. 4 by the template 'for every input the law returns true; each argument reads behind the call as it read before'; 0 by the template 'total and deterministic' (their statements: YtgklglkmfgfodaaTotals.lean).
  GIVEN WITH THE SEED: the statements are not yours to turn. If you find one false, say at which input.
  Laid BY PROGRAM, IN A SANDBOX (cutbox-rows.mjs): the forced cells as the released guide's own fill.sh prints them over the translation fe98da340b8e3ff2… (all of the seat's roots in one cut). By AI agents, Wed Nov 11 2026. No macro, syntax, notation, axiom, sorry.
-/
import Derived.Test.YtgklglkmfgfodaaChecked
import GoSem.Claim
import GoSem.ClaimJoined
import GoSem.ClaimMapViews
import Derived.JoinedTies
import Derived.KernelRfl
namespace Go.Proofs.Ytgklglkmfgfodaa
/- THE CELL 'sum', in the pinned program and in every row, IS THE sha256 OF THE DUMP (.gsa) THAT YtgklglkmfgfodaaProg.lean LOADS. Nothing in Lean hashes anything: it is a label: what it is worth is what the hold of that sum in a sandbox is worth. -/
noncomputable def Try.pinned : Pinned := { name := "ytgklglkmfgfodaa", sum := "fe98da340b8e3ff2ec8152789e2fa67653a6f8242c4cf7df2097c1755734a90e", checked := Try.checked }
namespace Rows
def none {H : Type} : Left H := { results := [], args := [] }

/-- 'laws.FnStorms': WHATEVER THE INPUT: true; the input reads as it did. -/
def fnStormsSpec : ChangeSpec := { name := "fnStorms", fn := fun _ => fun
  | [d] => { results := [.lit (.bool true)], args := [d] }
  | _ => none }
def fnStormsRow : OpenClaim := { program := "ytgklglkmfgfodaa", sum := "fe98da340b8e3ff2ec8152789e2fa67653a6f8242c4cf7df2097c1755734a90e", func := "loop.example/g00470/laws.FnStorms", spec := "fnStorms", apart := false }
def FnStormsSaid : Prop := fnStormsRow.holds Try.pinned (OpenSpec.ofChange fnStormsSpec)

/-- ITS FALSE NEIGHBOUR: 'it returns false'. Refute it at one input. -/
def fnStormsWrong : ChangeSpec := { name := "fnStorms", fn := fun _ => fun
  | [d] => { results := [.lit (.bool false)], args := [d] }
  | _ => none }
def FnStormsWrongFalsely : Prop := fnStormsRow.holds Try.pinned (OpenSpec.ofChange fnStormsWrong)

/-- 'laws.FnTablesAlike': WHATEVER THE INPUT: true; the input reads as it did. -/
def fnTablesAlikeSpec : ChangeSpec := { name := "fnTablesAlike", fn := fun _ => fun
  | [d] => { results := [.lit (.bool true)], args := [d] }
  | _ => none }
def fnTablesAlikeRow : OpenClaim := { program := "ytgklglkmfgfodaa", sum := "fe98da340b8e3ff2ec8152789e2fa67653a6f8242c4cf7df2097c1755734a90e", func := "loop.example/g00470/laws.FnTablesAlike", spec := "fnTablesAlike", apart := false }
def FnTablesAlikeSaid : Prop := fnTablesAlikeRow.holds Try.pinned (OpenSpec.ofChange fnTablesAlikeSpec)

/-- ITS FALSE NEIGHBOUR: 'it returns false'. Refute it at one input. -/
def fnTablesAlikeWrong : ChangeSpec := { name := "fnTablesAlike", fn := fun _ => fun
  | [d] => { results := [.lit (.bool false)], args := [d] }
  | _ => none }
def FnTablesAlikeWrongFalsely : Prop := fnTablesAlikeRow.holds Try.pinned (OpenSpec.ofChange fnTablesAlikeWrong)

/-- 'laws.FnBpdus': WHATEVER THE INPUT: true; the input reads as it did. -/
def fnBpdusSpec : ChangeSpec := { name := "fnBpdus", fn := fun _ => fun
  | [d] => { results := [.lit (.bool true)], args := [d] }
  | _ => none }
def fnBpdusRow : OpenClaim := { program := "ytgklglkmfgfodaa", sum := "fe98da340b8e3ff2ec8152789e2fa67653a6f8242c4cf7df2097c1755734a90e", func := "loop.example/g00470/laws.FnBpdus", spec := "fnBpdus", apart := false }
def FnBpdusSaid : Prop := fnBpdusRow.holds Try.pinned (OpenSpec.ofChange fnBpdusSpec)

/-- ITS FALSE NEIGHBOUR: 'it returns false'. Refute it at one input. -/
def fnBpdusWrong : ChangeSpec := { name := "fnBpdus", fn := fun _ => fun
  | [d] => { results := [.lit (.bool false)], args := [d] }
  | _ => none }
def FnBpdusWrongFalsely : Prop := fnBpdusRow.holds Try.pinned (OpenSpec.ofChange fnBpdusWrong)

/-- 'laws.FnFeeds': WHATEVER THE INPUT: true; the input reads as it did. -/
def fnFeedsSpec : ChangeSpec := { name := "fnFeeds", fn := fun _ => fun
  | [d] => { results := [.lit (.bool true)], args := [d] }
  | _ => none }
def fnFeedsRow : OpenClaim := { program := "ytgklglkmfgfodaa", sum := "fe98da340b8e3ff2ec8152789e2fa67653a6f8242c4cf7df2097c1755734a90e", func := "loop.example/g00470/laws.FnFeeds", spec := "fnFeeds", apart := false }
def FnFeedsSaid : Prop := fnFeedsRow.holds Try.pinned (OpenSpec.ofChange fnFeedsSpec)

/-- ITS FALSE NEIGHBOUR: 'it returns false'. Refute it at one input. -/
def fnFeedsWrong : ChangeSpec := { name := "fnFeeds", fn := fun _ => fun
  | [d] => { results := [.lit (.bool false)], args := [d] }
  | _ => none }
def FnFeedsWrongFalsely : Prop := fnFeedsRow.holds Try.pinned (OpenSpec.ofChange fnFeedsWrong)

/- THE SECOND FORM. 'bulk': how many values and letters a reading holds, each counted each time it is reached (what is shared counts as often as it is met; a slice's spare places count too). A statement '..UptoSaid' is the law's where the arguments, and the package variables that the reading takes, are together of bulk at most 1048576: NARROWER than '..Said'. Prove '..Said' where nothing that the law and all that it calls make is longer than what came in: it says more and counts as full. Else prove '..UptoSaid'. A law counts once. -/
mutual
def uptoBulk {H : Type} : DataW H → Nat
  | .lit (.string bytes) => bytes.length + 1
  | .lit _ => 1
  | .nil => 1
  | .ptr d => uptoBulk d + 1
  | .slice elems spare => uptoBulkAll elems + uptoBulkAll spare + 1
  | .agg parts => uptoBulkAll parts + 1
  | .iface _ d => uptoBulk d + 1
  | .map entries => uptoBulkEntries entries + 1
  | .held _ => 1
def uptoBulkAll {H : Type} : List (DataW H) → Nat
  | [] => 0
  | d :: r => uptoBulk d + uptoBulkAll r
def uptoBulkEntries {H : Type} : List (Lit × DataW H) → Nat
  | [] => 0
  | x :: r => uptoBulkEntry x + uptoBulkEntries r
def uptoBulkEntry {H : Type} : Lit × DataW H → Nat
  | (.string bytes, d) => bytes.length + uptoBulk d + 1
  | (_, d) => uptoBulk d + 1
 end
def uptoSmall : (H : Type) → List (DataW H) → Bool := fun _ ds => decide (uptoBulkAll ds ≤ 1048576)
def OpenSpec.upto (s : _root_.Go.ChangeSpec) : _root_.Go.OpenSpec := { _root_.Go.OpenSpec.ofChange s with cond := some uptoSmall }

/-- 'laws.FnStorms', WHERE WHAT IT READS IS OF BULK AT MOST 1048576: true; the input reads as it did. -/
def fnStormsUptoRow : OpenClaim := { program := "ytgklglkmfgfodaa", sum := "fe98da340b8e3ff2ec8152789e2fa67653a6f8242c4cf7df2097c1755734a90e", func := "loop.example/g00470/laws.FnStorms", spec := "fnStorms", apart := false, narrowed := true }
def FnStormsUptoSaid : Prop := fnStormsUptoRow.holds Try.pinned (OpenSpec.upto fnStormsSpec)

/-- 'laws.FnTablesAlike', WHERE WHAT IT READS IS OF BULK AT MOST 1048576: true; the input reads as it did. -/
def fnTablesAlikeUptoRow : OpenClaim := { program := "ytgklglkmfgfodaa", sum := "fe98da340b8e3ff2ec8152789e2fa67653a6f8242c4cf7df2097c1755734a90e", func := "loop.example/g00470/laws.FnTablesAlike", spec := "fnTablesAlike", apart := false, narrowed := true }
def FnTablesAlikeUptoSaid : Prop := fnTablesAlikeUptoRow.holds Try.pinned (OpenSpec.upto fnTablesAlikeSpec)

/-- 'laws.FnBpdus', WHERE WHAT IT READS IS OF BULK AT MOST 1048576: true; the input reads as it did. -/
def fnBpdusUptoRow : OpenClaim := { program := "ytgklglkmfgfodaa", sum := "fe98da340b8e3ff2ec8152789e2fa67653a6f8242c4cf7df2097c1755734a90e", func := "loop.example/g00470/laws.FnBpdus", spec := "fnBpdus", apart := false, narrowed := true }
def FnBpdusUptoSaid : Prop := fnBpdusUptoRow.holds Try.pinned (OpenSpec.upto fnBpdusSpec)

/-- 'laws.FnFeeds', WHERE WHAT IT READS IS OF BULK AT MOST 1048576: true; the input reads as it did. -/
def fnFeedsUptoRow : OpenClaim := { program := "ytgklglkmfgfodaa", sum := "fe98da340b8e3ff2ec8152789e2fa67653a6f8242c4cf7df2097c1755734a90e", func := "loop.example/g00470/laws.FnFeeds", spec := "fnFeeds", apart := false, narrowed := true }
def FnFeedsUptoSaid : Prop := fnFeedsUptoRow.holds Try.pinned (OpenSpec.upto fnFeedsSpec)

end Rows
end Go.Proofs.Ytgklglkmfgfodaa
