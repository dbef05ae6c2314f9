/- FnSnaps: for every input the law returns true, and its arguments read on as they did. No conditions beyond the row's own. -/
import Derived.Test.YtkkpblhaeliofaaRows
import Derived.Test.YtkkpblhaeliofaaFLsnaps
import Derived.WalkKit
import Derived.ProofKit
import Derived.OpenShut
import Derived.ShutString
import Derived.ChangeOld
import Derived.Below
import Derived.SizedLaws
namespace Go.Proofs.Ytkkpblhaeliofaa.fnSnaps
open Go.ChangeShapes Go.WideShapes Go.RowKit Go.Ev Go.Md
open Go.ChangeAt
set_option linter.unusedVariables false
set_option linter.unusedSimpArgs false
theorem own : ownKnob Try.prog.godebug = none := by kernel_rfl
theorem at5 (a0 : List UInt8) (h : (o5 a0).1 = true) : c5 [[.sl false 1 (enS false a0)]] = some (true, (o5 a0).2.1, (o5 a0).2.2) := by
  unfold c5
  simp only [isS_enS, deS_enS, Bool.and_self, Bool.true_and, deS_enS, h]
theorem enc5 : ∀ x : Dens [(.sl (.int .u8))], oks [(.sl (.int .u8))] x → encs [(.sl (.int .u8))] x = (fun (a0 : List UInt8) => [[.sl false 1 (enS false a0)]]) ((x.1.map cvByte) : List UInt8) := by
  intro x hx
  show [[D.sl false 1 (List.map (Ty.enc (.int .u8)) x.1)]] = _
  rw [mapEnc (cv := cvByte) cvByte_enc (x.1) hx.1.2]
  try rfl
theorem pre5 : ∀ x : Dens [(.sl (.int .u8))], oks [(.sl (.int .u8))] x → (o5 ((x.1.map cvByte) : List UInt8)).1 = true := by
  intro x hx
  exact decide_eq_true (by first | exact hx.1.1 | (rw [List.length_map]; exact hx.1.1))
theorem law : ∀ x : Dens [(.sl (.int .u8))], oks [(.sl (.int .u8))] x → c5 (encs [(.sl (.int .u8))] x) = some (true, [[.bool true]], []) := fun x hx => (congrArg c5 (enc5 x hx)).trans (at5 ((x.1.map cvByte) : List UInt8) (pre5 x hx))
set_option maxRecDepth 100000 in
theorem lifted (os : Os) (started : os.Started) (H : Type) (enc : TypeId × Value → H) :
    ReturnsInHanded {} Try.checked os 5 .any (Rows.fnSnapsSpec.pre6 enc Try.prog Try.f5 Rows.fnSnapsRow.domain false) (Rows.fnSnapsSpec.post enc Try.prog Try.f5 false true false false) := by
  refine returnsInHanded_of_change_sized (C := Try.checked) own started (by kernel_rfl) Try.func5
    (ChangeSpec.witness6 (enc := enc) (C := Try.checked) false ⟨#[], #[.slice none 0 0], []⟩ 8 (by kernel_rfl) (by kernel_rfl) (by kernel_rfl) (by kernel_rfl)) ?_
  intro W base args ds gs before hval0 hW hcnd hsz0 _
  have hval : ∀ (j : Nat) t v, Try.f5.params[j]? = some t → args[j]? = some v → Value.okWide Try.prog W .any base t v := hval0
  have hW' := hW
  obtain ⟨p, q, hA0, hV, rfl, hfz, hnd⟩ := hW
  have hA : DataW.TrodAll enc Try.prog W 0 (fun _ => true) true Try.f5.params.toList args.toList ds p := hA0
  have hcall := law_calls (Ts := [(.sl (.int .u8))]) s5 Try.func5 (by kernel_rfl) (tb := 4) (by kernel_rfl) (by kernel_rfl) (by kernel_rfl) (by kernel_rfl) law hval hA
  rw [Try.params5] at hA
  have hA2 := hA
  obtain ⟨v0, vs0, d0, ds0, p0, q0, hargs, rfl, rfl, h0, r0⟩ := trodAll_cons hA
  obtain ⟨rfl, rfl, rfl⟩ := trodAll_nil r0
  obtain rfl : args = #[v0] := by cases args; simp_all
  obtain ⟨rfl, rfl⟩ := trodVars_none hV
  refine hcall.mono fun e W' he => ?_
  obtain ⟨rfl, bel0⟩ := he
  have bel : Below W.heap.size W W' := bel0
  exact ⟨_, rfl, _, _, _, [], _, [], hW', trodAll_mk1 (shut_bool Try.underlying4 _), args_stay (P := Try.prog) (by kernel_rfl) (by kernel_rfl) (by kernel_rfl) (by decide +kernel) hA2 bel, rfl, bel.frame _, fun h => by cases h⟩
theorem over : Rows.fnSnapsRow.holds Try.pinned (OpenSpec.ofChange Rows.fnSnapsSpec) :=
  OpenClaim.holds_of_wide 5 Try.f5 rfl rfl rfl rfl rfl rfl rfl ⟨rfl, rfl, rfl, rfl, rfl⟩ rfl rfl rfl rfl rfl (by kernel_rfl) Try.func5 (by kernel_rfl)
    (of_decide_eq_true (by kernel_rfl)) (by unfold Func.isWrapper; first | (rw [if_pos (by decide +kernel)]; kernel_rfl) | (rw [if_neg (by decide +kernel)]; exact ⟨rfl, rfl⟩))
    (fun os started H enc _ => lifted os started H enc)
theorem proved : Rows.FnSnapsSaid := over
#print axioms proved
end Go.Proofs.Ytkkpblhaeliofaa.fnSnaps
namespace Go.Proofs.Ytkkpblhaeliofaa
/-- The row, under a short name, for the claim. -/
theorem fnSnaps_holds : Rows.FnSnapsSaid := fnSnaps.proved
end Go.Proofs.Ytkkpblhaeliofaa
