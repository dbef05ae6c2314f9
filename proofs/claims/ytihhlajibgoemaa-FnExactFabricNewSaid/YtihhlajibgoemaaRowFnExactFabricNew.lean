/- FnExactFabricNew: for every input the law returns true, and its arguments read on as they did. No conditions beyond the row's own. -/
import Derived.Test.YtihhlajibgoemaaRows
import Derived.Test.YtihhlajibgoemaaFLfn
import Derived.WalkKit
import Derived.ProofKit
import Derived.OpenShut
import Derived.ShutString
import Derived.ChangeOld
import Derived.Below
import Derived.SizedLaws
namespace Go.Proofs.Ytihhlajibgoemaa.fnExactFabricNew
open Go.ChangeShapes Go.WideShapes Go.RowKit Go.Ev Go.Md
open Go.ChangeAt
set_option linter.unusedVariables false
set_option linter.unusedSimpArgs false
theorem own : ownKnob Try.prog.godebug = none := by kernel_rfl
def cvPort (x : (Ty.den (.pair .bool (.pair .bool (.pair (.pair (.int .i64) (.pair (.int .i64) (.pair (.int .i64) (.int .i64)))) (.pair (.int .i64) (.pair (.int .i64) (.pair (.int .i64) (.pair (.int .i64) .bool))))))))) : Port := ⟨x.1, x.2.1, ⟨x.2.2.1.1, x.2.2.1.2.1, x.2.2.1.2.2.1, x.2.2.1.2.2.2⟩, x.2.2.2.1, x.2.2.2.2.1, x.2.2.2.2.2.1, x.2.2.2.2.2.2.1, x.2.2.2.2.2.2.2⟩
theorem cvPort_enc (x : (Ty.den (.pair .bool (.pair .bool (.pair (.pair (.int .i64) (.pair (.int .i64) (.pair (.int .i64) (.int .i64)))) (.pair (.int .i64) (.pair (.int .i64) (.pair (.int .i64) (.pair (.int .i64) .bool))))))))) (h : Ty.ok (.pair .bool (.pair .bool (.pair (.pair (.int .i64) (.pair (.int .i64) (.pair (.int .i64) (.int .i64)))) (.pair (.int .i64) (.pair (.int .i64) (.pair (.int .i64) (.pair (.int .i64) .bool))))))) x) : Ty.enc (.pair .bool (.pair .bool (.pair (.pair (.int .i64) (.pair (.int .i64) (.pair (.int .i64) (.int .i64)))) (.pair (.int .i64) (.pair (.int .i64) (.pair (.int .i64) (.pair (.int .i64) .bool))))))) x = En.enc false (cvPort x) := rfl
def cvBridge (x : (Ty.den (.pair (.int .i64) (.sl (.pair .bool (.pair .bool (.pair (.pair (.int .i64) (.pair (.int .i64) (.pair (.int .i64) (.int .i64)))) (.pair (.int .i64) (.pair (.int .i64) (.pair (.int .i64) (.pair (.int .i64) .bool))))))))))) : Bridge := ⟨x.1, (x.2.map cvPort)⟩
theorem cvBridge_enc (x : (Ty.den (.pair (.int .i64) (.sl (.pair .bool (.pair .bool (.pair (.pair (.int .i64) (.pair (.int .i64) (.pair (.int .i64) (.int .i64)))) (.pair (.int .i64) (.pair (.int .i64) (.pair (.int .i64) (.pair (.int .i64) .bool))))))))))) (h : Ty.ok (.pair (.int .i64) (.sl (.pair .bool (.pair .bool (.pair (.pair (.int .i64) (.pair (.int .i64) (.pair (.int .i64) (.int .i64)))) (.pair (.int .i64) (.pair (.int .i64) (.pair (.int .i64) (.pair (.int .i64) .bool))))))))) x) : Ty.enc (.pair (.int .i64) (.sl (.pair .bool (.pair .bool (.pair (.pair (.int .i64) (.pair (.int .i64) (.pair (.int .i64) (.int .i64)))) (.pair (.int .i64) (.pair (.int .i64) (.pair (.int .i64) (.pair (.int .i64) .bool))))))))) x = En.enc false (cvBridge x) := by
  show [D.int .i64 x.1, D.sl false 11 (List.map (Ty.enc (.pair .bool (.pair .bool (.pair (.pair (.int .i64) (.pair (.int .i64) (.pair (.int .i64) (.int .i64)))) (.pair (.int .i64) (.pair (.int .i64) (.pair (.int .i64) (.pair (.int .i64) .bool)))))))) x.2)] = _
  rw [mapEnc (cv := cvPort) cvPort_enc x.2 h.2.2]
  rfl
def cvLink (x : (Ty.den (.pair (.int .i64) (.pair (.int .i64) (.pair (.int .i64) (.int .i64)))))) : Link := ⟨x.1, x.2.1, x.2.2.1, x.2.2.2⟩
theorem cvLink_enc (x : (Ty.den (.pair (.int .i64) (.pair (.int .i64) (.pair (.int .i64) (.int .i64)))))) (h : Ty.ok (.pair (.int .i64) (.pair (.int .i64) (.pair (.int .i64) (.int .i64)))) x) : Ty.enc (.pair (.int .i64) (.pair (.int .i64) (.pair (.int .i64) (.int .i64)))) x = En.enc false (cvLink x) := rfl
theorem at3 (a0 : Net) (h : (o3 a0).1 = true) : c3 [[.sl false 2 (enS false a0.Bridges), .sl false 4 (enS false a0.Links)]] = some (true, (o3 a0).2.1, (o3 a0).2.2) := by
  unfold c3
  simp only [isS_enS, deS_enS, Bool.and_self, Bool.true_and, Net.eta, deS_enS, h]
theorem enc3 : ∀ x : Dens [(.pair (.sl (.pair (.int .i64) (.sl (.pair .bool (.pair .bool (.pair (.pair (.int .i64) (.pair (.int .i64) (.pair (.int .i64) (.int .i64)))) (.pair (.int .i64) (.pair (.int .i64) (.pair (.int .i64) (.pair (.int .i64) .bool)))))))))) (.sl (.pair (.int .i64) (.pair (.int .i64) (.pair (.int .i64) (.int .i64))))))], oks [(.pair (.sl (.pair (.int .i64) (.sl (.pair .bool (.pair .bool (.pair (.pair (.int .i64) (.pair (.int .i64) (.pair (.int .i64) (.int .i64)))) (.pair (.int .i64) (.pair (.int .i64) (.pair (.int .i64) (.pair (.int .i64) .bool)))))))))) (.sl (.pair (.int .i64) (.pair (.int .i64) (.pair (.int .i64) (.int .i64))))))] x → encs [(.pair (.sl (.pair (.int .i64) (.sl (.pair .bool (.pair .bool (.pair (.pair (.int .i64) (.pair (.int .i64) (.pair (.int .i64) (.int .i64)))) (.pair (.int .i64) (.pair (.int .i64) (.pair (.int .i64) (.pair (.int .i64) .bool)))))))))) (.sl (.pair (.int .i64) (.pair (.int .i64) (.pair (.int .i64) (.int .i64))))))] x = (fun (a0 : Net) => [[.sl false 2 (enS false a0.Bridges), .sl false 4 (enS false a0.Links)]]) (⟨(x.1.1.map cvBridge), (x.1.2.map cvLink)⟩ : Net) := by
  intro x hx
  show [[D.sl false 2 (List.map (Ty.enc (.pair (.int .i64) (.sl (.pair .bool (.pair .bool (.pair (.pair (.int .i64) (.pair (.int .i64) (.pair (.int .i64) (.int .i64)))) (.pair (.int .i64) (.pair (.int .i64) (.pair (.int .i64) (.pair (.int .i64) .bool)))))))))) x.1.1), D.sl false 4 (List.map (Ty.enc (.pair (.int .i64) (.pair (.int .i64) (.pair (.int .i64) (.int .i64))))) x.1.2)]] = _
  rw [mapEnc (cv := cvBridge) cvBridge_enc (x.1.1) hx.1.1.2]
  rw [mapEnc (cv := cvLink) cvLink_enc (x.1.2) hx.1.2.2]
  try rfl
theorem cvBridge_big (x : (Ty.den (.pair (.int .i64) (.sl (.pair .bool (.pair .bool (.pair (.pair (.int .i64) (.pair (.int .i64) (.pair (.int .i64) (.int .i64)))) (.pair (.int .i64) (.pair (.int .i64) (.pair (.int .i64) (.pair (.int .i64) .bool))))))))))) (h : Ty.ok (.pair (.int .i64) (.sl (.pair .bool (.pair .bool (.pair (.pair (.int .i64) (.pair (.int .i64) (.pair (.int .i64) (.int .i64)))) (.pair (.int .i64) (.pair (.int .i64) (.pair (.int .i64) (.pair (.int .i64) .bool))))))))) x) : Bridge.big (cvBridge x) = true := by
  unfold cvBridge
  exact (by show Bridge.big _ = true; unfold Bridge.big; exact decide_eq_true (by first | exact h.2.1 | (rw [List.length_map]; exact h.2.1)))
theorem pre3 : ∀ x : Dens [(.pair (.sl (.pair (.int .i64) (.sl (.pair .bool (.pair .bool (.pair (.pair (.int .i64) (.pair (.int .i64) (.pair (.int .i64) (.int .i64)))) (.pair (.int .i64) (.pair (.int .i64) (.pair (.int .i64) (.pair (.int .i64) .bool)))))))))) (.sl (.pair (.int .i64) (.pair (.int .i64) (.pair (.int .i64) (.int .i64))))))], oks [(.pair (.sl (.pair (.int .i64) (.sl (.pair .bool (.pair .bool (.pair (.pair (.int .i64) (.pair (.int .i64) (.pair (.int .i64) (.int .i64)))) (.pair (.int .i64) (.pair (.int .i64) (.pair (.int .i64) (.pair (.int .i64) .bool)))))))))) (.sl (.pair (.int .i64) (.pair (.int .i64) (.pair (.int .i64) (.int .i64))))))] x → (o3 (⟨(x.1.1.map cvBridge), (x.1.2.map cvLink)⟩ : Net)).1 = true := by
  intro x hx
  exact (by show Net.big _ = true; unfold Net.big; exact Bool.and_eq_true_iff.2 ⟨Bool.and_eq_true_iff.2 ⟨decide_eq_true (by first | exact hx.1.1.1 | (rw [List.length_map]; exact hx.1.1.1)), List.all_eq_true.2 (fun y hy => by obtain ⟨z, hz, rfl⟩ := List.mem_map.1 hy; exact cvBridge_big z (hx.1.1.2 z hz))⟩, decide_eq_true (by first | exact hx.1.2.1 | (rw [List.length_map]; exact hx.1.2.1))⟩)
theorem law : ∀ x : Dens [(.pair (.sl (.pair (.int .i64) (.sl (.pair .bool (.pair .bool (.pair (.pair (.int .i64) (.pair (.int .i64) (.pair (.int .i64) (.int .i64)))) (.pair (.int .i64) (.pair (.int .i64) (.pair (.int .i64) (.pair (.int .i64) .bool)))))))))) (.sl (.pair (.int .i64) (.pair (.int .i64) (.pair (.int .i64) (.int .i64))))))], oks [(.pair (.sl (.pair (.int .i64) (.sl (.pair .bool (.pair .bool (.pair (.pair (.int .i64) (.pair (.int .i64) (.pair (.int .i64) (.int .i64)))) (.pair (.int .i64) (.pair (.int .i64) (.pair (.int .i64) (.pair (.int .i64) .bool)))))))))) (.sl (.pair (.int .i64) (.pair (.int .i64) (.pair (.int .i64) (.int .i64))))))] x → c3 (encs [(.pair (.sl (.pair (.int .i64) (.sl (.pair .bool (.pair .bool (.pair (.pair (.int .i64) (.pair (.int .i64) (.pair (.int .i64) (.int .i64)))) (.pair (.int .i64) (.pair (.int .i64) (.pair (.int .i64) (.pair (.int .i64) .bool)))))))))) (.sl (.pair (.int .i64) (.pair (.int .i64) (.pair (.int .i64) (.int .i64))))))] x) = some (true, [[.bool true]], []) := fun x hx => (congrArg c3 (enc3 x hx)).trans (at3 (⟨(x.1.1.map cvBridge), (x.1.2.map cvLink)⟩ : Net) (pre3 x hx))
set_option maxRecDepth 100000 in
theorem lifted (os : Os) (started : os.Started) (H : Type) (enc : TypeId × Value → H) :
    ReturnsInHanded {} Try.checked os 3 .any (Rows.fnExactFabricNewSpec.pre6 enc Try.prog Try.f3 Rows.fnExactFabricNewRow.domain false) (Rows.fnExactFabricNewSpec.post enc Try.prog Try.f3 false true false false) := by
  refine returnsInHanded_of_change_sized (C := Try.checked) own started (by kernel_rfl) Try.func3
    (ChangeSpec.witness6 (enc := enc) (C := Try.checked) false ⟨#[], #[.agg #[.slice none 0 0, .slice none 0 0]], []⟩ 8 (by kernel_rfl) (by kernel_rfl) (by kernel_rfl) (by kernel_rfl)) ?_
  intro W base args ds gs before hval0 hW hcnd hsz0 _
  have hval : ∀ (j : Nat) t v, Try.f3.params[j]? = some t → args[j]? = some v → Value.okWide Try.prog W .any base t v := hval0
  have hW' := hW
  obtain ⟨p, q, hA0, hV, rfl, hfz, hnd⟩ := hW
  have hA : DataW.TrodAll enc Try.prog W 0 (fun _ => true) true Try.f3.params.toList args.toList ds p := hA0
  have hcall := law_calls (Ts := [(.pair (.sl (.pair (.int .i64) (.sl (.pair .bool (.pair .bool (.pair (.pair (.int .i64) (.pair (.int .i64) (.pair (.int .i64) (.int .i64)))) (.pair (.int .i64) (.pair (.int .i64) (.pair (.int .i64) (.pair (.int .i64) .bool)))))))))) (.sl (.pair (.int .i64) (.pair (.int .i64) (.pair (.int .i64) (.int .i64))))))]) s3 Try.func3 (by kernel_rfl) (tb := 4) (by kernel_rfl) (by kernel_rfl) (by kernel_rfl) (by kernel_rfl) law hval hA
  rw [Try.params3] at hA
  have hA2 := hA
  obtain ⟨v0, vs0, d0, ds0, p0, q0, hargs, rfl, rfl, h0, r0⟩ := trodAll_cons hA
  obtain ⟨rfl, rfl, rfl⟩ := trodAll_nil r0
  obtain rfl : args = #[v0] := by cases args; simp_all
  obtain ⟨rfl, rfl⟩ := trodVars_none hV
  refine hcall.mono fun e W' he => ?_
  obtain ⟨rfl, bel0⟩ := he
  have bel : Below W.heap.size W W' := bel0
  exact ⟨_, rfl, _, _, _, [], _, [], hW', trodAll_mk1 (shut_bool Try.underlying4 _), args_stay (P := Try.prog) (by kernel_rfl) (by kernel_rfl) (by kernel_rfl) (by decide +kernel) hA2 bel, rfl, bel.frame _, fun h => by cases h⟩
theorem over : Rows.fnExactFabricNewRow.holds Try.pinned (OpenSpec.ofChange Rows.fnExactFabricNewSpec) :=
  OpenClaim.holds_of_wide 3 Try.f3 rfl rfl rfl rfl rfl rfl rfl ⟨rfl, rfl, rfl, rfl, rfl⟩ rfl rfl rfl rfl rfl (by kernel_rfl) Try.func3 (by kernel_rfl)
    (of_decide_eq_true (by kernel_rfl)) (by unfold Func.isWrapper; first | (rw [if_pos (by decide +kernel)]; kernel_rfl) | (rw [if_neg (by decide +kernel)]; exact ⟨rfl, rfl⟩))
    (fun os started H enc _ => lifted os started H enc)
theorem proved : Rows.FnExactFabricNewSaid := over
#print axioms proved
end Go.Proofs.Ytihhlajibgoemaa.fnExactFabricNew
namespace Go.Proofs.Ytihhlajibgoemaa
/-- The row, under a short name, for the claim. -/
theorem fnExactFabricNew_holds : Rows.FnExactFabricNewSaid := fnExactFabricNew.proved
end Go.Proofs.Ytihhlajibgoemaa
