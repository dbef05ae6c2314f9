/- FnExactAdmitAll: for every input the law returns true, and its arguments read on as they did. No conditions beyond the row's own. -/
import Derived.Test.YtgmmhnloobedjaaRows
import Derived.Test.YtgmmhnloobedjaaFnsA
import Derived.WalkKit
import Derived.ProofKit
import Derived.OpenShut
import Derived.ShutString
import Derived.ChangeOld
import Derived.Below
import Derived.SizedLaws
namespace Go.Proofs.Ytgmmhnloobedjaa.fnExactAdmitAll
open Go.ChangeShapes Go.WideShapes Go.RowKit Go.Ev
open Go.ChangeAt
set_option linter.unusedVariables false
theorem own : ownKnob Try.prog.godebug = none := by kernel_rfl
theorem law : ∀ x : Dens [(.pair (.int .i64) (.pair (.int .i64) (.int .i64))), (.sl (.int .i64))], oks [(.pair (.int .i64) (.pair (.int .i64) (.int .i64))), (.sl (.int .i64))] x → c4 (encs [(.pair (.int .i64) (.pair (.int .i64) (.int .i64))), (.sl (.int .i64))] x) = some (true, [[.bool true]], []) := fun x hx => congrArg (fun b => some (b, [[D.bool true]], [])) (isRow_enc (.int .i64) x.2.1)
set_option maxRecDepth 100000 in
theorem lifted (os : Os) (started : os.Started) (H : Type) (enc : TypeId × Value → H) :
    ReturnsInHanded {} Try.checked os 4 .any (Rows.fnExactAdmitAllSpec.pre6 enc Try.prog Try.f4 Rows.fnExactAdmitAllRow.domain false) (Rows.fnExactAdmitAllSpec.post enc Try.prog Try.f4 false true false false) := by
  refine returnsInHanded_of_change_sized (C := Try.checked) own started (by kernel_rfl) Try.func4
    (ChangeSpec.witness6 (enc := enc) (C := Try.checked) false ⟨#[], #[.agg #[.int .i64 0, .int .i64 0, .int .i64 0], .slice none 0 0], []⟩ 8 (by kernel_rfl) (by kernel_rfl) (by kernel_rfl) (by kernel_rfl)) ?_
  intro W base args ds gs before hval0 hW hcnd hsz0 _
  have hval : ∀ (j : Nat) t v, Try.f4.params[j]? = some t → args[j]? = some v → Value.okWide Try.prog W .any base t v := hval0
  have hW' := hW
  obtain ⟨p, q, hA0, hV, rfl, hfz, hnd⟩ := hW
  have hA : DataW.TrodAll enc Try.prog W 0 (fun _ => true) true Try.f4.params.toList args.toList ds p := hA0
  have hcall := law_calls (Ts := [(.pair (.int .i64) (.pair (.int .i64) (.int .i64))), (.sl (.int .i64))]) s4 Try.func4 (by kernel_rfl) (tb := 4) (by kernel_rfl) (by kernel_rfl) (by kernel_rfl) law hval hA
  rw [Try.params4] at hA
  have hA2 := hA
  obtain ⟨v0, vs0, d0, ds0, p0, q0, hargs, rfl, rfl, h0, r0⟩ := trodAll_cons hA
  obtain ⟨v1, vs1, d1, ds1, p1, q1, rfl, rfl, rfl, h1, r1⟩ := trodAll_cons r0
  obtain ⟨rfl, rfl, rfl⟩ := trodAll_nil r1
  obtain rfl : args = #[v0, v1] := by cases args; simp_all
  obtain ⟨rfl, rfl⟩ := trodVars_none hV
  refine hcall.mono fun e W' he => ?_
  obtain ⟨rfl, bel0⟩ := he
  have bel : Below W.heap.size W W' := bel0
  exact ⟨_, rfl, _, _, _, [], _, [], hW', trodAll_mk1 (shut_bool Try.underlying4 _), args_stay (P := Try.prog) (by kernel_rfl) (by kernel_rfl) (by kernel_rfl) (by decide +kernel) hA2 bel, rfl, bel.frame _, fun h => by cases h⟩
theorem over : Rows.fnExactAdmitAllRow.holds Try.pinned (OpenSpec.ofChange Rows.fnExactAdmitAllSpec) :=
  OpenClaim.holds_of_wide 4 Try.f4 rfl rfl rfl rfl rfl rfl rfl ⟨rfl, rfl, rfl, rfl, rfl⟩ rfl rfl rfl rfl rfl (by kernel_rfl) Try.func4 (by kernel_rfl)
    (of_decide_eq_true (by kernel_rfl)) (by unfold Func.isWrapper; first | (rw [if_pos (by decide +kernel)]; kernel_rfl) | (rw [if_neg (by decide +kernel)]; exact ⟨rfl, rfl⟩))
    (fun os started H enc _ => lifted os started H enc)
theorem proved : Rows.FnExactAdmitAllSaid := over
#print axioms proved
end Go.Proofs.Ytgmmhnloobedjaa.fnExactAdmitAll
namespace Go.Proofs.Ytgmmhnloobedjaa
/-- The row, under a short name, for the claim. -/
theorem fnExactAdmitAll_holds : Rows.FnExactAdmitAllSaid := fnExactAdmitAll.proved
end Go.Proofs.Ytgmmhnloobedjaa
