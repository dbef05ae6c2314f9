/- FnExactPortBytes: for every input the law returns true, and its arguments read on as they did. No conditions beyond the row's own. -/
import Derived.Test.YtikmcmocecalaaaRows
import Derived.Test.YtikmcmocecalaaaFHpb
import Derived.WalkKit
import Derived.ProofKit
import Derived.OpenShut
import Derived.ShutString
import Derived.ChangeOld
import Derived.Below
import Derived.SizedLaws
namespace Go.Proofs.Ytikmcmocecalaaa.fnExactPortBytes
open Go.ChangeShapes Go.WideShapes Go.RowKit Go.Ev Go.Md
open Go.ChangeAt
set_option linter.unusedVariables false
theorem own : ownKnob Try.prog.godebug = none := by kernel_rfl
theorem at3 (a0 : Port) (h : (o3 a0).1 = true) : c3 [[.bool a0.Up, .bool a0.Has, .int .i64 a0.Vec.Root, .int .i64 a0.Vec.Cost, .int .i64 a0.Vec.Bridge, .int .i64 a0.Vec.Port, .int .i64 a0.Hops, .int .i64 a0.Left, .int .i64 a0.Role, .int .i64 a0.Wait, .bool a0.Open]] = some (true, (o3 a0).2.1, (o3 a0).2.2) := by
  unfold c3
  simp only [isS_enS, deS_enS, Bool.and_self, Bool.true_and, Port.eta, deS_enS, h]
theorem enc3 : ∀ x : Dens [(.pair .bool (.pair .bool (.pair (.pair (.int .i64) (.pair (.int .i64) (.pair (.int .i64) (.int .i64)))) (.pair (.int .i64) (.pair (.int .i64) (.pair (.int .i64) (.pair (.int .i64) .bool)))))))], oks [(.pair .bool (.pair .bool (.pair (.pair (.int .i64) (.pair (.int .i64) (.pair (.int .i64) (.int .i64)))) (.pair (.int .i64) (.pair (.int .i64) (.pair (.int .i64) (.pair (.int .i64) .bool)))))))] x → encs [(.pair .bool (.pair .bool (.pair (.pair (.int .i64) (.pair (.int .i64) (.pair (.int .i64) (.int .i64)))) (.pair (.int .i64) (.pair (.int .i64) (.pair (.int .i64) (.pair (.int .i64) .bool)))))))] x = (fun (a0 : Port) => [[.bool a0.Up, .bool a0.Has, .int .i64 a0.Vec.Root, .int .i64 a0.Vec.Cost, .int .i64 a0.Vec.Bridge, .int .i64 a0.Vec.Port, .int .i64 a0.Hops, .int .i64 a0.Left, .int .i64 a0.Role, .int .i64 a0.Wait, .bool a0.Open]]) (⟨x.1.1, x.1.2.1, ⟨x.1.2.2.1.1, x.1.2.2.1.2.1, x.1.2.2.1.2.2.1, x.1.2.2.1.2.2.2⟩, x.1.2.2.2.1, x.1.2.2.2.2.1, x.1.2.2.2.2.2.1, x.1.2.2.2.2.2.2.1, x.1.2.2.2.2.2.2.2⟩ : Port) := by
  intro x hx
  show [[D.bool x.1.1, D.bool x.1.2.1, D.int .i64 x.1.2.2.1.1, D.int .i64 x.1.2.2.1.2.1, D.int .i64 x.1.2.2.1.2.2.1, D.int .i64 x.1.2.2.1.2.2.2, D.int .i64 x.1.2.2.2.1, D.int .i64 x.1.2.2.2.2.1, D.int .i64 x.1.2.2.2.2.2.1, D.int .i64 x.1.2.2.2.2.2.2.1, D.bool x.1.2.2.2.2.2.2.2]] = _
  rfl
theorem pre3 : ∀ x : Dens [(.pair .bool (.pair .bool (.pair (.pair (.int .i64) (.pair (.int .i64) (.pair (.int .i64) (.int .i64)))) (.pair (.int .i64) (.pair (.int .i64) (.pair (.int .i64) (.pair (.int .i64) .bool)))))))], oks [(.pair .bool (.pair .bool (.pair (.pair (.int .i64) (.pair (.int .i64) (.pair (.int .i64) (.int .i64)))) (.pair (.int .i64) (.pair (.int .i64) (.pair (.int .i64) (.pair (.int .i64) .bool)))))))] x → (o3 (⟨x.1.1, x.1.2.1, ⟨x.1.2.2.1.1, x.1.2.2.1.2.1, x.1.2.2.1.2.2.1, x.1.2.2.1.2.2.2⟩, x.1.2.2.2.1, x.1.2.2.2.2.1, x.1.2.2.2.2.2.1, x.1.2.2.2.2.2.2.1, x.1.2.2.2.2.2.2.2⟩ : Port)).1 = true := by
  intro x hx
  rfl
theorem law : ∀ x : Dens [(.pair .bool (.pair .bool (.pair (.pair (.int .i64) (.pair (.int .i64) (.pair (.int .i64) (.int .i64)))) (.pair (.int .i64) (.pair (.int .i64) (.pair (.int .i64) (.pair (.int .i64) .bool)))))))], oks [(.pair .bool (.pair .bool (.pair (.pair (.int .i64) (.pair (.int .i64) (.pair (.int .i64) (.int .i64)))) (.pair (.int .i64) (.pair (.int .i64) (.pair (.int .i64) (.pair (.int .i64) .bool)))))))] x → c3 (encs [(.pair .bool (.pair .bool (.pair (.pair (.int .i64) (.pair (.int .i64) (.pair (.int .i64) (.int .i64)))) (.pair (.int .i64) (.pair (.int .i64) (.pair (.int .i64) (.pair (.int .i64) .bool)))))))] x) = some (true, [[.bool true]], []) := fun x hx => (congrArg c3 (enc3 x hx)).trans (at3 (⟨x.1.1, x.1.2.1, ⟨x.1.2.2.1.1, x.1.2.2.1.2.1, x.1.2.2.1.2.2.1, x.1.2.2.1.2.2.2⟩, x.1.2.2.2.1, x.1.2.2.2.2.1, x.1.2.2.2.2.2.1, x.1.2.2.2.2.2.2.1, x.1.2.2.2.2.2.2.2⟩ : Port) (pre3 x hx))
set_option maxRecDepth 100000 in
theorem lifted (os : Os) (started : os.Started) (H : Type) (enc : TypeId × Value → H) :
    ReturnsInHanded {} Try.checked os 3 .any (Rows.fnExactPortBytesSpec.pre6 enc Try.prog Try.f3 Rows.fnExactPortBytesRow.domain false) (Rows.fnExactPortBytesSpec.post enc Try.prog Try.f3 false true false false) := by
  refine returnsInHanded_of_change_sized (C := Try.checked) own started (by kernel_rfl) Try.func3
    (ChangeSpec.witness6 (enc := enc) (C := Try.checked) false ⟨#[], #[.agg #[.bool false, .bool false, .int .i64 0, .int .i64 0, .int .i64 0, .int .i64 0, .int .i64 0, .int .i64 0, .int .i64 0, .int .i64 0, .bool false]], []⟩ 8 (by kernel_rfl) (by kernel_rfl) (by kernel_rfl) (by kernel_rfl)) ?_
  intro W base args ds gs before hval0 hW hcnd hsz0 _
  have hval : ∀ (j : Nat) t v, Try.f3.params[j]? = some t → args[j]? = some v → Value.okWide Try.prog W .any base t v := hval0
  have hW' := hW
  obtain ⟨p, q, hA0, hV, rfl, hfz, hnd⟩ := hW
  have hA : DataW.TrodAll enc Try.prog W 0 (fun _ => true) true Try.f3.params.toList args.toList ds p := hA0
  have hcall := law_calls (Ts := [(.pair .bool (.pair .bool (.pair (.pair (.int .i64) (.pair (.int .i64) (.pair (.int .i64) (.int .i64)))) (.pair (.int .i64) (.pair (.int .i64) (.pair (.int .i64) (.pair (.int .i64) .bool)))))))]) s3 Try.func3 (by kernel_rfl) (tb := 4) (by kernel_rfl) (by kernel_rfl) (by kernel_rfl) (by kernel_rfl) law hval hA
  rw [Try.params3] at hA
  have hA2 := hA
  obtain ⟨v0, vs0, d0, ds0, p0, q0, hargs, rfl, rfl, h0, r0⟩ := trodAll_cons hA
  obtain ⟨rfl, rfl, rfl⟩ := trodAll_nil r0
  obtain rfl : args = #[v0] := by cases args; simp_all
  obtain ⟨rfl, rfl⟩ := trodVars_none hV
  refine hcall.mono fun e W' he => ?_
  obtain ⟨rfl, bel0⟩ := he
  have bel : Below W.heap.size W W' := bel0
  exact ⟨_, rfl, _, _, _, [], _, [], hW', trodAll_mk1 (shut_bool Try.underlying4 _), args_stay (P := Try.prog) (by kernel_rfl) (by kernel_rfl) (by kernel_rfl) (by decide +kernel) hA2 bel, rfl, bel.frame _, fun h => by cases h⟩
theorem over : Rows.fnExactPortBytesRow.holds Try.pinned (OpenSpec.ofChange Rows.fnExactPortBytesSpec) :=
  OpenClaim.holds_of_wide 3 Try.f3 rfl rfl rfl rfl rfl rfl rfl ⟨rfl, rfl, rfl, rfl, rfl⟩ rfl rfl rfl rfl rfl (by kernel_rfl) Try.func3 (by kernel_rfl)
    (of_decide_eq_true (by kernel_rfl)) (by unfold Func.isWrapper; first | (rw [if_pos (by decide +kernel)]; kernel_rfl) | (rw [if_neg (by decide +kernel)]; exact ⟨rfl, rfl⟩))
    (fun os started H enc _ => lifted os started H enc)
theorem proved : Rows.FnExactPortBytesSaid := over
#print axioms proved
end Go.Proofs.Ytikmcmocecalaaa.fnExactPortBytes
namespace Go.Proofs.Ytikmcmocecalaaa
/-- The row, under a short name, for the claim. -/
theorem fnExactPortBytes_holds : Rows.FnExactPortBytesSaid := fnExactPortBytes.proved
end Go.Proofs.Ytikmcmocecalaaa
