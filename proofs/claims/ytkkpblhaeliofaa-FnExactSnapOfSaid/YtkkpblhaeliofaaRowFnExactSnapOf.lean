/- FnExactSnapOf: for every input the law returns true, and its arguments read on as they did. No conditions beyond the row's own. -/
import Derived.Test.YtkkpblhaeliofaaRows
import Derived.Test.YtkkpblhaeliofaaFLsnap
import Derived.WalkKit
import Derived.ProofKit
import Derived.OpenShut
import Derived.ShutString
import Derived.ChangeOld
import Derived.Below
import Derived.SizedLaws
namespace Go.Proofs.Ytkkpblhaeliofaa.fnExactSnapOf
open Go.ChangeShapes Go.WideShapes Go.RowKit Go.Ev Go.Md
open Go.ChangeAt
set_option linter.unusedVariables false
set_option linter.unusedSimpArgs false
theorem own : ownKnob Try.prog.godebug = none := by kernel_rfl
def cvIn (x : (Ty.den (.pair (.int .i64) (.pair (.int .i64) (.pair (.pair (.int .i64) (.pair (.int .i64) (.pair (.int .i64) (.int .i64)))) (.pair (.int .i64) .bool)))))) : In := ⟨x.1, x.2.1, ⟨x.2.2.1.1, x.2.2.1.2.1, x.2.2.1.2.2.1, x.2.2.1.2.2.2⟩, x.2.2.2.1, x.2.2.2.2⟩
theorem cvIn_enc (x : (Ty.den (.pair (.int .i64) (.pair (.int .i64) (.pair (.pair (.int .i64) (.pair (.int .i64) (.pair (.int .i64) (.int .i64)))) (.pair (.int .i64) .bool)))))) (h : Ty.ok (.pair (.int .i64) (.pair (.int .i64) (.pair (.pair (.int .i64) (.pair (.int .i64) (.pair (.int .i64) (.int .i64)))) (.pair (.int .i64) .bool)))) x) : Ty.enc (.pair (.int .i64) (.pair (.int .i64) (.pair (.pair (.int .i64) (.pair (.int .i64) (.pair (.int .i64) (.int .i64)))) (.pair (.int .i64) .bool)))) x = En.enc false (cvIn x) := rfl
theorem at3 (a0 : Int) (a1 : Int) (a2 : List In) (a3 : Int) (h : (o3 a0 a1 a2 a3).1 = true) : c3 [[.int .i64 a0], [.int .i64 a1], [.sl false 8 (enS false a2)], [.int .i64 a3]] = some (true, (o3 a0 a1 a2 a3).2.1, (o3 a0 a1 a2 a3).2.2) := by
  unfold c3
  simp only [isS_enS, deS_enS, Bool.and_self, Bool.true_and, deS_enS, h]
theorem enc3 : ∀ x : Dens [(.int .i64), (.int .i64), (.sl (.pair (.int .i64) (.pair (.int .i64) (.pair (.pair (.int .i64) (.pair (.int .i64) (.pair (.int .i64) (.int .i64)))) (.pair (.int .i64) .bool))))), (.int .i64)], oks [(.int .i64), (.int .i64), (.sl (.pair (.int .i64) (.pair (.int .i64) (.pair (.pair (.int .i64) (.pair (.int .i64) (.pair (.int .i64) (.int .i64)))) (.pair (.int .i64) .bool))))), (.int .i64)] x → encs [(.int .i64), (.int .i64), (.sl (.pair (.int .i64) (.pair (.int .i64) (.pair (.pair (.int .i64) (.pair (.int .i64) (.pair (.int .i64) (.int .i64)))) (.pair (.int .i64) .bool))))), (.int .i64)] x = (fun (a0 : Int) (a1 : Int) (a2 : List In) (a3 : Int) => [[.int .i64 a0], [.int .i64 a1], [.sl false 8 (enS false a2)], [.int .i64 a3]]) (x.1 : Int) (x.2.1 : Int) ((x.2.2.1.map cvIn) : List In) (x.2.2.2.1 : Int) := by
  intro x hx
  show [[D.int .i64 x.1], [D.int .i64 x.2.1], [D.sl false 8 (List.map (Ty.enc (.pair (.int .i64) (.pair (.int .i64) (.pair (.pair (.int .i64) (.pair (.int .i64) (.pair (.int .i64) (.int .i64)))) (.pair (.int .i64) .bool))))) x.2.2.1)], [D.int .i64 x.2.2.2.1]] = _
  rw [mapEnc (cv := cvIn) cvIn_enc (x.2.2.1) hx.2.2.1.2]
  try rfl
theorem pre3 : ∀ x : Dens [(.int .i64), (.int .i64), (.sl (.pair (.int .i64) (.pair (.int .i64) (.pair (.pair (.int .i64) (.pair (.int .i64) (.pair (.int .i64) (.int .i64)))) (.pair (.int .i64) .bool))))), (.int .i64)], oks [(.int .i64), (.int .i64), (.sl (.pair (.int .i64) (.pair (.int .i64) (.pair (.pair (.int .i64) (.pair (.int .i64) (.pair (.int .i64) (.int .i64)))) (.pair (.int .i64) .bool))))), (.int .i64)] x → (o3 (x.1 : Int) (x.2.1 : Int) ((x.2.2.1.map cvIn) : List In) (x.2.2.2.1 : Int)).1 = true := by
  intro x hx
  exact decide_eq_true (by first | exact hx.2.2.1.1 | (rw [List.length_map]; exact hx.2.2.1.1))
theorem law : ∀ x : Dens [(.int .i64), (.int .i64), (.sl (.pair (.int .i64) (.pair (.int .i64) (.pair (.pair (.int .i64) (.pair (.int .i64) (.pair (.int .i64) (.int .i64)))) (.pair (.int .i64) .bool))))), (.int .i64)], oks [(.int .i64), (.int .i64), (.sl (.pair (.int .i64) (.pair (.int .i64) (.pair (.pair (.int .i64) (.pair (.int .i64) (.pair (.int .i64) (.int .i64)))) (.pair (.int .i64) .bool))))), (.int .i64)] x → c3 (encs [(.int .i64), (.int .i64), (.sl (.pair (.int .i64) (.pair (.int .i64) (.pair (.pair (.int .i64) (.pair (.int .i64) (.pair (.int .i64) (.int .i64)))) (.pair (.int .i64) .bool))))), (.int .i64)] x) = some (true, [[.bool true]], []) := fun x hx => (congrArg c3 (enc3 x hx)).trans (at3 (x.1 : Int) (x.2.1 : Int) ((x.2.2.1.map cvIn) : List In) (x.2.2.2.1 : Int) (pre3 x hx))
set_option maxRecDepth 100000 in
theorem lifted (os : Os) (started : os.Started) (H : Type) (enc : TypeId × Value → H) :
    ReturnsInHanded {} Try.checked os 3 .any (Rows.fnExactSnapOfSpec.pre6 enc Try.prog Try.f3 Rows.fnExactSnapOfRow.domain false) (Rows.fnExactSnapOfSpec.post enc Try.prog Try.f3 false true false false) := by
  refine returnsInHanded_of_change_sized (C := Try.checked) own started (by kernel_rfl) Try.func3
    (ChangeSpec.witness6 (enc := enc) (C := Try.checked) false ⟨#[], #[.int .i64 0, .int .i64 0, .slice none 0 0, .int .i64 0], []⟩ 8 (by kernel_rfl) (by kernel_rfl) (by kernel_rfl) (by kernel_rfl)) ?_
  intro W base args ds gs before hval0 hW hcnd hsz0 _
  have hval : ∀ (j : Nat) t v, Try.f3.params[j]? = some t → args[j]? = some v → Value.okWide Try.prog W .any base t v := hval0
  have hW' := hW
  obtain ⟨p, q, hA0, hV, rfl, hfz, hnd⟩ := hW
  have hA : DataW.TrodAll enc Try.prog W 0 (fun _ => true) true Try.f3.params.toList args.toList ds p := hA0
  have hcall := law_calls (Ts := [(.int .i64), (.int .i64), (.sl (.pair (.int .i64) (.pair (.int .i64) (.pair (.pair (.int .i64) (.pair (.int .i64) (.pair (.int .i64) (.int .i64)))) (.pair (.int .i64) .bool))))), (.int .i64)]) s3 Try.func3 (by kernel_rfl) (tb := 4) (by kernel_rfl) (by kernel_rfl) (by kernel_rfl) (by kernel_rfl) law hval hA
  rw [Try.params3] at hA
  have hA2 := hA
  obtain ⟨v0, vs0, d0, ds0, p0, q0, hargs, rfl, rfl, h0, r0⟩ := trodAll_cons hA
  obtain ⟨v1, vs1, d1, ds1, p1, q1, rfl, rfl, rfl, h1, r1⟩ := trodAll_cons r0
  obtain ⟨v2, vs2, d2, ds2, p2, q2, rfl, rfl, rfl, h2, r2⟩ := trodAll_cons r1
  obtain ⟨v3, vs3, d3, ds3, p3, q3, rfl, rfl, rfl, h3, r3⟩ := trodAll_cons r2
  obtain ⟨rfl, rfl, rfl⟩ := trodAll_nil r3
  obtain rfl : args = #[v0, v1, v2, v3] := by cases args; simp_all
  obtain ⟨rfl, rfl⟩ := trodVars_none hV
  refine hcall.mono fun e W' he => ?_
  obtain ⟨rfl, bel0⟩ := he
  have bel : Below W.heap.size W W' := bel0
  exact ⟨_, rfl, _, _, _, [], _, [], hW', trodAll_mk1 (shut_bool Try.underlying4 _), args_stay (P := Try.prog) (by kernel_rfl) (by kernel_rfl) (by kernel_rfl) (by decide +kernel) hA2 bel, rfl, bel.frame _, fun h => by cases h⟩
theorem over : Rows.fnExactSnapOfRow.holds Try.pinned (OpenSpec.ofChange Rows.fnExactSnapOfSpec) :=
  OpenClaim.holds_of_wide 3 Try.f3 rfl rfl rfl rfl rfl rfl rfl ⟨rfl, rfl, rfl, rfl, rfl⟩ rfl rfl rfl rfl rfl (by kernel_rfl) Try.func3 (by kernel_rfl)
    (of_decide_eq_true (by kernel_rfl)) (by unfold Func.isWrapper; first | (rw [if_pos (by decide +kernel)]; kernel_rfl) | (rw [if_neg (by decide +kernel)]; exact ⟨rfl, rfl⟩))
    (fun os started H enc _ => lifted os started H enc)
theorem proved : Rows.FnExactSnapOfSaid := over
#print axioms proved
end Go.Proofs.Ytkkpblhaeliofaa.fnExactSnapOf
namespace Go.Proofs.Ytkkpblhaeliofaa
/-- The row, under a short name, for the claim. -/
theorem fnExactSnapOf_holds : Rows.FnExactSnapOfSaid := fnExactSnapOf.proved
end Go.Proofs.Ytkkpblhaeliofaa
