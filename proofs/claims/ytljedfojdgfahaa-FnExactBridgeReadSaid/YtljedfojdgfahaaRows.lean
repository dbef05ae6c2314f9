/-
  No cell of these rows narrows 'for every input' (looked for: loops, veiled, ifaces, maps, wideKeys, modest, calm, conditions, laid).
  DERIVED. THE GIVEN ROWS OF THIS SEAT. 4 by the template 'for every input the law returns true; each argument reads behind the call as it read before'; 0 by the template 'total and deterministic' (their statements: YtljedfojdgfahaaTotals.lean).
  GIVEN WITH THE SEED: the statements are not yours to turn. If you find one false, say at which input.
  Laid BY PROGRAM, IN A SANDBOX (cutbox-rows.mjs): the forced cells as the released guide's own fill.sh prints them over the translation 2662790d8590502d… (all of the seat's roots in one cut). By AI agents, Wed Nov 11 2026. No macro, syntax, notation, axiom, sorry.
-/
import Derived.Test.YtljedfojdgfahaaChecked
import GoSem.Claim
import GoSem.ClaimJoined
import GoSem.ClaimMapViews
import Derived.JoinedTies
import Derived.KernelRfl
namespace Go.Proofs.Ytljedfojdgfahaa
/- THE CELL 'sum', in the pinned program and in every row, IS THE sha256 OF THE DUMP (.gsa) THAT YtljedfojdgfahaaProg.lean LOADS. Nothing in Lean hashes anything: it is a label: what it is worth is what the hold of that sum in a sandbox is worth. -/
noncomputable def Try.pinned : Pinned := { name := "ytljedfojdgfahaa", sum := "2662790d8590502ddb946f82d91fb836b14ecb2f6b03281a538a21e43e3d6ec6", checked := Try.checked }
namespace Rows
def none {H : Type} : Left H := { results := [], args := [] }

/-- 'laws.FnExactAcross': WHATEVER THE INPUT: true; the input reads as it did. -/
def fnExactAcrossSpec : ChangeSpec := { name := "fnExactAcross", fn := fun _ => fun
  | [d1, d2, d3] => { results := [.lit (.bool true)], args := [d1, d2, d3] }
  | _ => none }
def fnExactAcrossRow : OpenClaim := { program := "ytljedfojdgfahaa", sum := "2662790d8590502ddb946f82d91fb836b14ecb2f6b03281a538a21e43e3d6ec6", func := "loop.example/g00470/laws.FnExactAcross", spec := "fnExactAcross", apart := false }
def FnExactAcrossSaid : Prop := fnExactAcrossRow.holds Try.pinned (OpenSpec.ofChange fnExactAcrossSpec)

/-- ITS FALSE NEIGHBOUR: 'it returns false'. Refute it at one input. -/
def fnExactAcrossWrong : ChangeSpec := { name := "fnExactAcross", fn := fun _ => fun
  | [d1, d2, d3] => { results := [.lit (.bool false)], args := [d1, d2, d3] }
  | _ => none }
def FnExactAcrossWrongFalsely : Prop := fnExactAcrossRow.holds Try.pinned (OpenSpec.ofChange fnExactAcrossWrong)

/-- 'laws.FnExactBridgeRead': WHATEVER THE INPUT: true; the input reads as it did. -/
def fnExactBridgeReadSpec : ChangeSpec := { name := "fnExactBridgeRead", fn := fun _ => fun
  | [d] => { results := [.lit (.bool true)], args := [d] }
  | _ => none }
def fnExactBridgeReadRow : OpenClaim := { program := "ytljedfojdgfahaa", sum := "2662790d8590502ddb946f82d91fb836b14ecb2f6b03281a538a21e43e3d6ec6", func := "loop.example/g00470/laws.FnExactBridgeRead", spec := "fnExactBridgeRead", apart := false }
def FnExactBridgeReadSaid : Prop := fnExactBridgeReadRow.holds Try.pinned (OpenSpec.ofChange fnExactBridgeReadSpec)

/-- ITS FALSE NEIGHBOUR: 'it returns false'. Refute it at one input. -/
def fnExactBridgeReadWrong : ChangeSpec := { name := "fnExactBridgeRead", fn := fun _ => fun
  | [d] => { results := [.lit (.bool false)], args := [d] }
  | _ => none }
def FnExactBridgeReadWrongFalsely : Prop := fnExactBridgeReadRow.holds Try.pinned (OpenSpec.ofChange fnExactBridgeReadWrong)

/-- 'laws.FnExactHeardBy': WHATEVER THE INPUT: true; the input reads as it did. -/
def fnExactHeardBySpec : ChangeSpec := { name := "fnExactHeardBy", fn := fun _ => fun
  | [d1, d2] => { results := [.lit (.bool true)], args := [d1, d2] }
  | _ => none }
def fnExactHeardByRow : OpenClaim := { program := "ytljedfojdgfahaa", sum := "2662790d8590502ddb946f82d91fb836b14ecb2f6b03281a538a21e43e3d6ec6", func := "loop.example/g00470/laws.FnExactHeardBy", spec := "fnExactHeardBy", apart := false }
def FnExactHeardBySaid : Prop := fnExactHeardByRow.holds Try.pinned (OpenSpec.ofChange fnExactHeardBySpec)

/-- ITS FALSE NEIGHBOUR: 'it returns false'. Refute it at one input. -/
def fnExactHeardByWrong : ChangeSpec := { name := "fnExactHeardBy", fn := fun _ => fun
  | [d1, d2] => { results := [.lit (.bool false)], args := [d1, d2] }
  | _ => none }
def FnExactHeardByWrongFalsely : Prop := fnExactHeardByRow.holds Try.pinned (OpenSpec.ofChange fnExactHeardByWrong)

/-- 'laws.FnExactFlood': WHATEVER THE INPUT: true; the input reads as it did. -/
def fnExactFloodSpec : ChangeSpec := { name := "fnExactFlood", fn := fun _ => fun
  | [d1, d2] => { results := [.lit (.bool true)], args := [d1, d2] }
  | _ => none }
def fnExactFloodRow : OpenClaim := { program := "ytljedfojdgfahaa", sum := "2662790d8590502ddb946f82d91fb836b14ecb2f6b03281a538a21e43e3d6ec6", func := "loop.example/g00470/laws.FnExactFlood", spec := "fnExactFlood", apart := false }
def FnExactFloodSaid : Prop := fnExactFloodRow.holds Try.pinned (OpenSpec.ofChange fnExactFloodSpec)

/-- ITS FALSE NEIGHBOUR: 'it returns false'. Refute it at one input. -/
def fnExactFloodWrong : ChangeSpec := { name := "fnExactFlood", fn := fun _ => fun
  | [d1, d2] => { results := [.lit (.bool false)], args := [d1, d2] }
  | _ => none }
def FnExactFloodWrongFalsely : Prop := fnExactFloodRow.holds Try.pinned (OpenSpec.ofChange fnExactFloodWrong)

/- THE SECOND FORM. 'bulk': how many values and letters a reading holds, each counted each time it is reached (what is shared counts as often as it is met; a slice's spare places count too). A statement '..UptoSaid' is the law's where the arguments, and the package variables that the reading takes, are together of bulk at most 1048576: NARROWER than '..Said'. Prove '..Said' where nothing that the law and all that it calls make is longer than what came in: it says more and counts as full. Else prove '..UptoSaid'. A law counts once. -/
mutual
def uptoBulk {H : Type} : DataW H → Nat
  | .lit (.string bytes) => bytes.length + 1
  | .lit _ => 1
  | .nil => 1
  | .ptr d => uptoBulk d + 1
  | .slice elems spare => uptoBulkAll elems + uptoBulkAll spare + 1
  | .agg parts => uptoBulkAll parts + 1
  | .iface _ d => uptoBulk d + 1
  | .map entries => uptoBulkEntries entries + 1
  | .held _ => 1
def uptoBulkAll {H : Type} : List (DataW H) → Nat
  | [] => 0
  | d :: r => uptoBulk d + uptoBulkAll r
def uptoBulkEntries {H : Type} : List (Lit × DataW H) → Nat
  | [] => 0
  | x :: r => uptoBulkEntry x + uptoBulkEntries r
def uptoBulkEntry {H : Type} : Lit × DataW H → Nat
  | (.string bytes, d) => bytes.length + uptoBulk d + 1
  | (_, d) => uptoBulk d + 1
 end
def uptoSmall : (H : Type) → List (DataW H) → Bool := fun _ ds => decide (uptoBulkAll ds ≤ 1048576)
def OpenSpec.upto (s : _root_.Go.ChangeSpec) : _root_.Go.OpenSpec := { _root_.Go.OpenSpec.ofChange s with cond := some uptoSmall }

/-- 'laws.FnExactAcross', WHERE WHAT IT READS IS OF BULK AT MOST 1048576: true; the input reads as it did. -/
def fnExactAcrossUptoRow : OpenClaim := { program := "ytljedfojdgfahaa", sum := "2662790d8590502ddb946f82d91fb836b14ecb2f6b03281a538a21e43e3d6ec6", func := "loop.example/g00470/laws.FnExactAcross", spec := "fnExactAcross", apart := false, narrowed := true }
def FnExactAcrossUptoSaid : Prop := fnExactAcrossUptoRow.holds Try.pinned (OpenSpec.upto fnExactAcrossSpec)

/-- 'laws.FnExactBridgeRead', WHERE WHAT IT READS IS OF BULK AT MOST 1048576: true; the input reads as it did. -/
def fnExactBridgeReadUptoRow : OpenClaim := { program := "ytljedfojdgfahaa", sum := "2662790d8590502ddb946f82d91fb836b14ecb2f6b03281a538a21e43e3d6ec6", func := "loop.example/g00470/laws.FnExactBridgeRead", spec := "fnExactBridgeRead", apart := false, narrowed := true }
def FnExactBridgeReadUptoSaid : Prop := fnExactBridgeReadUptoRow.holds Try.pinned (OpenSpec.upto fnExactBridgeReadSpec)

/-- 'laws.FnExactHeardBy', WHERE WHAT IT READS IS OF BULK AT MOST 1048576: true; the input reads as it did. -/
def fnExactHeardByUptoRow : OpenClaim := { program := "ytljedfojdgfahaa", sum := "2662790d8590502ddb946f82d91fb836b14ecb2f6b03281a538a21e43e3d6ec6", func := "loop.example/g00470/laws.FnExactHeardBy", spec := "fnExactHeardBy", apart := false, narrowed := true }
def FnExactHeardByUptoSaid : Prop := fnExactHeardByUptoRow.holds Try.pinned (OpenSpec.upto fnExactHeardBySpec)

/-- 'laws.FnExactFlood', WHERE WHAT IT READS IS OF BULK AT MOST 1048576: true; the input reads as it did. -/
def fnExactFloodUptoRow : OpenClaim := { program := "ytljedfojdgfahaa", sum := "2662790d8590502ddb946f82d91fb836b14ecb2f6b03281a538a21e43e3d6ec6", func := "loop.example/g00470/laws.FnExactFlood", spec := "fnExactFlood", apart := false, narrowed := true }
def FnExactFloodUptoSaid : Prop := fnExactFloodUptoRow.holds Try.pinned (OpenSpec.upto fnExactFloodSpec)

end Rows
end Go.Proofs.Ytljedfojdgfahaa
