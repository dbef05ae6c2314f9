/- FnExactFromSnap: for every input the law returns true, and its arguments read on as they did. No conditions beyond the row's own. -/
import Derived.Test.YtfeaiokfklkhjaaRows
import Derived.Test.YtfeaiokfklkhjaaFLfs
import Derived.WalkKit
import Derived.ProofKit
import Derived.OpenShut
import Derived.ShutString
import Derived.ChangeOld
import Derived.Below
import Derived.SizedLaws
namespace Go.Proofs.Ytfeaiokfklkhjaa.fnExactFromSnap
open Go.ChangeShapes Go.WideShapes Go.RowKit Go.Ev Go.Md
open Go.ChangeAt
set_option linter.unusedVariables false
set_option linter.unusedSimpArgs false
theorem own : ownKnob Try.prog.godebug = none := by kernel_rfl
def cvIn (x : (Ty.den (.pair (.int .i64) (.pair (.int .i64) (.pair (.pair (.int .i64) (.pair (.int .i64) (.pair (.int .i64) (.int .i64)))) (.pair (.int .i64) .bool)))))) : In := ⟨x.1, x.2.1, ⟨x.2.2.1.1, x.2.2.1.2.1, x.2.2.1.2.2.1, x.2.2.1.2.2.2⟩, x.2.2.2.1, x.2.2.2.2⟩
theorem cvIn_enc (x : (Ty.den (.pair (.int .i64) (.pair (.int .i64) (.pair (.pair (.int .i64) (.pair (.int .i64) (.pair (.int .i64) (.int .i64)))) (.pair (.int .i64) .bool)))))) (h : Ty.ok (.pair (.int .i64) (.pair (.int .i64) (.pair (.pair (.int .i64) (.pair (.int .i64) (.pair (.int .i64) (.int .i64)))) (.pair (.int .i64) .bool)))) x) : Ty.enc (.pair (.int .i64) (.pair (.int .i64) (.pair (.pair (.int .i64) (.pair (.int .i64) (.pair (.int .i64) (.int .i64)))) (.pair (.int .i64) .bool)))) x = En.enc false (cvIn x) := rfl
theorem at5 (a0 : Snap) (a1 : List In) (h : (o5 a0 a1).1 = true) : c5 [[.int .i64 a0.N, .sl false 1 (enS false a0.Bytes)], [.sl false 8 (enS false a1)]] = some (true, (o5 a0 a1).2.1, (o5 a0 a1).2.2) := by
  unfold c5
  simp only [isS_enS, deS_enS, Bool.and_self, Bool.true_and, Snap.eta, deS_enS, h]
theorem enc5 : ∀ x : Dens [(.pair (.int .i64) (.sl (.int .u8))), (.sl (.pair (.int .i64) (.pair (.int .i64) (.pair (.pair (.int .i64) (.pair (.int .i64) (.pair (.int .i64) (.int .i64)))) (.pair (.int .i64) .bool)))))], oks [(.pair (.int .i64) (.sl (.int .u8))), (.sl (.pair (.int .i64) (.pair (.int .i64) (.pair (.pair (.int .i64) (.pair (.int .i64) (.pair (.int .i64) (.int .i64)))) (.pair (.int .i64) .bool)))))] x → encs [(.pair (.int .i64) (.sl (.int .u8))), (.sl (.pair (.int .i64) (.pair (.int .i64) (.pair (.pair (.int .i64) (.pair (.int .i64) (.pair (.int .i64) (.int .i64)))) (.pair (.int .i64) .bool)))))] x = (fun (a0 : Snap) (a1 : List In) => [[.int .i64 a0.N, .sl false 1 (enS false a0.Bytes)], [.sl false 8 (enS false a1)]]) (⟨x.1.1, (x.1.2.map cvByte)⟩ : Snap) ((x.2.1.map cvIn) : List In) := by
  intro x hx
  show [[D.int .i64 x.1.1, D.sl false 1 (List.map (Ty.enc (.int .u8)) x.1.2)], [D.sl false 8 (List.map (Ty.enc (.pair (.int .i64) (.pair (.int .i64) (.pair (.pair (.int .i64) (.pair (.int .i64) (.pair (.int .i64) (.int .i64)))) (.pair (.int .i64) .bool))))) x.2.1)]] = _
  rw [mapEnc (cv := cvByte) cvByte_enc (x.1.2) hx.1.2.2]
  rw [mapEnc (cv := cvIn) cvIn_enc (x.2.1) hx.2.1.2]
  try rfl
theorem pre5 : ∀ x : Dens [(.pair (.int .i64) (.sl (.int .u8))), (.sl (.pair (.int .i64) (.pair (.int .i64) (.pair (.pair (.int .i64) (.pair (.int .i64) (.pair (.int .i64) (.int .i64)))) (.pair (.int .i64) .bool)))))], oks [(.pair (.int .i64) (.sl (.int .u8))), (.sl (.pair (.int .i64) (.pair (.int .i64) (.pair (.pair (.int .i64) (.pair (.int .i64) (.pair (.int .i64) (.int .i64)))) (.pair (.int .i64) .bool)))))] x → (o5 (⟨x.1.1, (x.1.2.map cvByte)⟩ : Snap) ((x.2.1.map cvIn) : List In)).1 = true := by
  intro x hx
  exact Bool.and_eq_true_iff.2 ⟨(by show Snap.big _ = true; unfold Snap.big; exact decide_eq_true (by first | exact hx.1.2.1 | (rw [List.length_map]; exact hx.1.2.1))), decide_eq_true (by first | exact hx.2.1.1 | (rw [List.length_map]; exact hx.2.1.1))⟩
theorem law : ∀ x : Dens [(.pair (.int .i64) (.sl (.int .u8))), (.sl (.pair (.int .i64) (.pair (.int .i64) (.pair (.pair (.int .i64) (.pair (.int .i64) (.pair (.int .i64) (.int .i64)))) (.pair (.int .i64) .bool)))))], oks [(.pair (.int .i64) (.sl (.int .u8))), (.sl (.pair (.int .i64) (.pair (.int .i64) (.pair (.pair (.int .i64) (.pair (.int .i64) (.pair (.int .i64) (.int .i64)))) (.pair (.int .i64) .bool)))))] x → c5 (encs [(.pair (.int .i64) (.sl (.int .u8))), (.sl (.pair (.int .i64) (.pair (.int .i64) (.pair (.pair (.int .i64) (.pair (.int .i64) (.pair (.int .i64) (.int .i64)))) (.pair (.int .i64) .bool)))))] x) = some (true, [[.bool true]], []) := fun x hx => (congrArg c5 (enc5 x hx)).trans (at5 (⟨x.1.1, (x.1.2.map cvByte)⟩ : Snap) ((x.2.1.map cvIn) : List In) (pre5 x hx))
set_option maxRecDepth 100000 in
theorem lifted (os : Os) (started : os.Started) (H : Type) (enc : TypeId × Value → H) :
    ReturnsInHanded {} Try.checked os 5 .any (Rows.fnExactFromSnapSpec.pre6 enc Try.prog Try.f5 Rows.fnExactFromSnapRow.domain false) (Rows.fnExactFromSnapSpec.post enc Try.prog Try.f5 false true false false) := by
  refine returnsInHanded_of_change_sized (C := Try.checked) own started (by kernel_rfl) Try.func5
    (ChangeSpec.witness6 (enc := enc) (C := Try.checked) false ⟨#[], #[.agg #[.int .i64 0, .slice none 0 0], .slice none 0 0], []⟩ 8 (by kernel_rfl) (by kernel_rfl) (by kernel_rfl) (by kernel_rfl)) ?_
  intro W base args ds gs before hval0 hW hcnd hsz0 _
  have hval : ∀ (j : Nat) t v, Try.f5.params[j]? = some t → args[j]? = some v → Value.okWide Try.prog W .any base t v := hval0
  have hW' := hW
  obtain ⟨p, q, hA0, hV, rfl, hfz, hnd⟩ := hW
  have hA : DataW.TrodAll enc Try.prog W 0 (fun _ => true) true Try.f5.params.toList args.toList ds p := hA0
  have hcall := law_calls (Ts := [(.pair (.int .i64) (.sl (.int .u8))), (.sl (.pair (.int .i64) (.pair (.int .i64) (.pair (.pair (.int .i64) (.pair (.int .i64) (.pair (.int .i64) (.int .i64)))) (.pair (.int .i64) .bool)))))]) s5 Try.func5 (by kernel_rfl) (tb := 4) (by kernel_rfl) (by kernel_rfl) (by kernel_rfl) (by kernel_rfl) law hval hA
  rw [Try.params5] at hA
  have hA2 := hA
  obtain ⟨v0, vs0, d0, ds0, p0, q0, hargs, rfl, rfl, h0, r0⟩ := trodAll_cons hA
  obtain ⟨v1, vs1, d1, ds1, p1, q1, rfl, rfl, rfl, h1, r1⟩ := trodAll_cons r0
  obtain ⟨rfl, rfl, rfl⟩ := trodAll_nil r1
  obtain rfl : args = #[v0, v1] := by cases args; simp_all
  obtain ⟨rfl, rfl⟩ := trodVars_none hV
  refine hcall.mono fun e W' he => ?_
  obtain ⟨rfl, bel0⟩ := he
  have bel : Below W.heap.size W W' := bel0
  exact ⟨_, rfl, _, _, _, [], _, [], hW', trodAll_mk1 (shut_bool Try.underlying4 _), args_stay (P := Try.prog) (by kernel_rfl) (by kernel_rfl) (by kernel_rfl) (by decide +kernel) hA2 bel, rfl, bel.frame _, fun h => by cases h⟩
theorem over : Rows.fnExactFromSnapRow.holds Try.pinned (OpenSpec.ofChange Rows.fnExactFromSnapSpec) :=
  OpenClaim.holds_of_wide 5 Try.f5 rfl rfl rfl rfl rfl rfl rfl ⟨rfl, rfl, rfl, rfl, rfl⟩ rfl rfl rfl rfl rfl (by kernel_rfl) Try.func5 (by kernel_rfl)
    (of_decide_eq_true (by kernel_rfl)) (by unfold Func.isWrapper; first | (rw [if_pos (by decide +kernel)]; kernel_rfl) | (rw [if_neg (by decide +kernel)]; exact ⟨rfl, rfl⟩))
    (fun os started H enc _ => lifted os started H enc)
theorem proved : Rows.FnExactFromSnapSaid := over
#print axioms proved
end Go.Proofs.Ytfeaiokfklkhjaa.fnExactFromSnap
namespace Go.Proofs.Ytfeaiokfklkhjaa
/-- The row, under a short name, for the claim. -/
theorem fnExactFromSnap_holds : Rows.FnExactFromSnapSaid := fnExactFromSnap.proved
end Go.Proofs.Ytfeaiokfklkhjaa
