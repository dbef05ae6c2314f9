/- FnExactBridgeBytes: for every input the law returns true, and its arguments read on as they did. No conditions beyond the row's own. -/
import Derived.Test.YtikmcmocecalaaaRows
import Derived.Test.YtikmcmocecalaaaFHbb
import Derived.WalkKit
import Derived.ProofKit
import Derived.OpenShut
import Derived.ShutString
import Derived.ChangeOld
import Derived.Below
import Derived.SizedLaws
namespace Go.Proofs.Ytikmcmocecalaaa.fnExactBridgeBytes
open Go.ChangeShapes Go.WideShapes Go.RowKit Go.Ev Go.Md
open Go.ChangeAt
set_option linter.unusedVariables false
set_option linter.unusedSimpArgs false
theorem own : ownKnob Try.prog.godebug = none := by kernel_rfl
def cvPort (x : (Ty.den (.pair .bool (.pair .bool (.pair (.pair (.int .i64) (.pair (.int .i64) (.pair (.int .i64) (.int .i64)))) (.pair (.int .i64) (.pair (.int .i64) (.pair (.int .i64) (.pair (.int .i64) .bool))))))))) : Port := ⟨x.1, x.2.1, ⟨x.2.2.1.1, x.2.2.1.2.1, x.2.2.1.2.2.1, x.2.2.1.2.2.2⟩, x.2.2.2.1, x.2.2.2.2.1, x.2.2.2.2.2.1, x.2.2.2.2.2.2.1, x.2.2.2.2.2.2.2⟩
theorem cvPort_enc (x : (Ty.den (.pair .bool (.pair .bool (.pair (.pair (.int .i64) (.pair (.int .i64) (.pair (.int .i64) (.int .i64)))) (.pair (.int .i64) (.pair (.int .i64) (.pair (.int .i64) (.pair (.int .i64) .bool))))))))) (h : Ty.ok (.pair .bool (.pair .bool (.pair (.pair (.int .i64) (.pair (.int .i64) (.pair (.int .i64) (.int .i64)))) (.pair (.int .i64) (.pair (.int .i64) (.pair (.int .i64) (.pair (.int .i64) .bool))))))) x) : Ty.enc (.pair .bool (.pair .bool (.pair (.pair (.int .i64) (.pair (.int .i64) (.pair (.int .i64) (.int .i64)))) (.pair (.int .i64) (.pair (.int .i64) (.pair (.int .i64) (.pair (.int .i64) .bool))))))) x = En.enc false (cvPort x) := rfl
theorem at6 (a0 : Bridge) (h : (o6 a0).1 = true) : c6 [[.int .i64 a0.Id, .sl false 11 (enS false a0.Ports)]] = some (true, (o6 a0).2.1, (o6 a0).2.2) := by
  unfold c6
  simp only [isS_enS, deS_enS, Bool.and_self, Bool.true_and, Bridge.eta, deS_enS, h]
theorem enc6 : ∀ x : Dens [(.pair (.int .i64) (.sl (.pair .bool (.pair .bool (.pair (.pair (.int .i64) (.pair (.int .i64) (.pair (.int .i64) (.int .i64)))) (.pair (.int .i64) (.pair (.int .i64) (.pair (.int .i64) (.pair (.int .i64) .bool)))))))))], oks [(.pair (.int .i64) (.sl (.pair .bool (.pair .bool (.pair (.pair (.int .i64) (.pair (.int .i64) (.pair (.int .i64) (.int .i64)))) (.pair (.int .i64) (.pair (.int .i64) (.pair (.int .i64) (.pair (.int .i64) .bool)))))))))] x → encs [(.pair (.int .i64) (.sl (.pair .bool (.pair .bool (.pair (.pair (.int .i64) (.pair (.int .i64) (.pair (.int .i64) (.int .i64)))) (.pair (.int .i64) (.pair (.int .i64) (.pair (.int .i64) (.pair (.int .i64) .bool)))))))))] x = (fun (a0 : Bridge) => [[.int .i64 a0.Id, .sl false 11 (enS false a0.Ports)]]) (⟨x.1.1, (x.1.2.map cvPort)⟩ : Bridge) := by
  intro x hx
  show [[D.int .i64 x.1.1, D.sl false 11 (List.map (Ty.enc (.pair .bool (.pair .bool (.pair (.pair (.int .i64) (.pair (.int .i64) (.pair (.int .i64) (.int .i64)))) (.pair (.int .i64) (.pair (.int .i64) (.pair (.int .i64) (.pair (.int .i64) .bool)))))))) x.1.2)]] = _
  rw [mapEnc (cv := cvPort) cvPort_enc (x.1.2) hx.1.2.2]
  try rfl
theorem pre6 : ∀ x : Dens [(.pair (.int .i64) (.sl (.pair .bool (.pair .bool (.pair (.pair (.int .i64) (.pair (.int .i64) (.pair (.int .i64) (.int .i64)))) (.pair (.int .i64) (.pair (.int .i64) (.pair (.int .i64) (.pair (.int .i64) .bool)))))))))], oks [(.pair (.int .i64) (.sl (.pair .bool (.pair .bool (.pair (.pair (.int .i64) (.pair (.int .i64) (.pair (.int .i64) (.int .i64)))) (.pair (.int .i64) (.pair (.int .i64) (.pair (.int .i64) (.pair (.int .i64) .bool)))))))))] x → (o6 (⟨x.1.1, (x.1.2.map cvPort)⟩ : Bridge)).1 = true := by
  intro x hx
  exact (by show Bridge.big _ = true; unfold Bridge.big; exact decide_eq_true (by first | exact hx.1.2.1 | (rw [List.length_map]; exact hx.1.2.1)))
theorem law : ∀ x : Dens [(.pair (.int .i64) (.sl (.pair .bool (.pair .bool (.pair (.pair (.int .i64) (.pair (.int .i64) (.pair (.int .i64) (.int .i64)))) (.pair (.int .i64) (.pair (.int .i64) (.pair (.int .i64) (.pair (.int .i64) .bool)))))))))], oks [(.pair (.int .i64) (.sl (.pair .bool (.pair .bool (.pair (.pair (.int .i64) (.pair (.int .i64) (.pair (.int .i64) (.int .i64)))) (.pair (.int .i64) (.pair (.int .i64) (.pair (.int .i64) (.pair (.int .i64) .bool)))))))))] x → c6 (encs [(.pair (.int .i64) (.sl (.pair .bool (.pair .bool (.pair (.pair (.int .i64) (.pair (.int .i64) (.pair (.int .i64) (.int .i64)))) (.pair (.int .i64) (.pair (.int .i64) (.pair (.int .i64) (.pair (.int .i64) .bool)))))))))] x) = some (true, [[.bool true]], []) := fun x hx => (congrArg c6 (enc6 x hx)).trans (at6 (⟨x.1.1, (x.1.2.map cvPort)⟩ : Bridge) (pre6 x hx))
set_option maxRecDepth 100000 in
theorem lifted (os : Os) (started : os.Started) (H : Type) (enc : TypeId × Value → H) :
    ReturnsInHanded {} Try.checked os 6 .any (Rows.fnExactBridgeBytesSpec.pre6 enc Try.prog Try.f6 Rows.fnExactBridgeBytesRow.domain false) (Rows.fnExactBridgeBytesSpec.post enc Try.prog Try.f6 false true false false) := by
  refine returnsInHanded_of_change_sized (C := Try.checked) own started (by kernel_rfl) Try.func6
    (ChangeSpec.witness6 (enc := enc) (C := Try.checked) false ⟨#[], #[.agg #[.int .i64 0, .slice none 0 0]], []⟩ 8 (by kernel_rfl) (by kernel_rfl) (by kernel_rfl) (by kernel_rfl)) ?_
  intro W base args ds gs before hval0 hW hcnd hsz0 _
  have hval : ∀ (j : Nat) t v, Try.f6.params[j]? = some t → args[j]? = some v → Value.okWide Try.prog W .any base t v := hval0
  have hW' := hW
  obtain ⟨p, q, hA0, hV, rfl, hfz, hnd⟩ := hW
  have hA : DataW.TrodAll enc Try.prog W 0 (fun _ => true) true Try.f6.params.toList args.toList ds p := hA0
  have hcall := law_calls (Ts := [(.pair (.int .i64) (.sl (.pair .bool (.pair .bool (.pair (.pair (.int .i64) (.pair (.int .i64) (.pair (.int .i64) (.int .i64)))) (.pair (.int .i64) (.pair (.int .i64) (.pair (.int .i64) (.pair (.int .i64) .bool)))))))))]) s6 Try.func6 (by kernel_rfl) (tb := 4) (by kernel_rfl) (by kernel_rfl) (by kernel_rfl) (by kernel_rfl) law hval hA
  rw [Try.params6] at hA
  have hA2 := hA
  obtain ⟨v0, vs0, d0, ds0, p0, q0, hargs, rfl, rfl, h0, r0⟩ := trodAll_cons hA
  obtain ⟨rfl, rfl, rfl⟩ := trodAll_nil r0
  obtain rfl : args = #[v0] := by cases args; simp_all
  obtain ⟨rfl, rfl⟩ := trodVars_none hV
  refine hcall.mono fun e W' he => ?_
  obtain ⟨rfl, bel0⟩ := he
  have bel : Below W.heap.size W W' := bel0
  exact ⟨_, rfl, _, _, _, [], _, [], hW', trodAll_mk1 (shut_bool Try.underlying4 _), args_stay (P := Try.prog) (by kernel_rfl) (by kernel_rfl) (by kernel_rfl) (by decide +kernel) hA2 bel, rfl, bel.frame _, fun h => by cases h⟩
theorem over : Rows.fnExactBridgeBytesRow.holds Try.pinned (OpenSpec.ofChange Rows.fnExactBridgeBytesSpec) :=
  OpenClaim.holds_of_wide 6 Try.f6 rfl rfl rfl rfl rfl rfl rfl ⟨rfl, rfl, rfl, rfl, rfl⟩ rfl rfl rfl rfl rfl (by kernel_rfl) Try.func6 (by kernel_rfl)
    (of_decide_eq_true (by kernel_rfl)) (by unfold Func.isWrapper; first | (rw [if_pos (by decide +kernel)]; kernel_rfl) | (rw [if_neg (by decide +kernel)]; exact ⟨rfl, rfl⟩))
    (fun os started H enc _ => lifted os started H enc)
theorem proved : Rows.FnExactBridgeBytesSaid := over
#print axioms proved
end Go.Proofs.Ytikmcmocecalaaa.fnExactBridgeBytes
namespace Go.Proofs.Ytikmcmocecalaaa
/-- The row, under a short name, for the claim. -/
theorem fnExactBridgeBytes_holds : Rows.FnExactBridgeBytesSaid := fnExactBridgeBytes.proved
end Go.Proofs.Ytikmcmocecalaaa
