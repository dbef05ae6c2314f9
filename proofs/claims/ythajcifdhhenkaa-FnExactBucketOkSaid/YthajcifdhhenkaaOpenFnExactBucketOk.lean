/- What reads as data at the types of FnExactBucketOk's parameters, and the pure statement that is left of it. -/
import Derived.Test.YthajcifdhhenkaaPFnExactBucketOkx1
import Derived.Test.YthajcifdhhenkaaKit
namespace Go.Proofs.Ythajcifdhhenkaa.OpenFnExactBucketOk
open Go.ChangeShapes Go.WideShapes Go.RowKit Go.Proofs.Ythajcifdhhenkaa.PFnExactBucketOk Go.Proofs.Ythajcifdhhenkaa.Kit Go.Proofs.YthajcifdhhenkaaW.PrintWords Go.Proofs.YthajcifdhhenkaaW.PrintLast
set_option linter.unusedVariables false
theorem opens3 : Opens Try.prog 3 (Kd.int .i64) (fun x : Int => (Lit.int .i64 x).wf = true) := opens_int Try.underlying3
theorem opens23 : Opens Try.prog 23 (Kd.pair (Kd.int .i64) (Kd.pair (Kd.int .i64) (Kd.int .i64))) (okPair (fun x : Int => (Lit.int .i64 x).wf = true) (okPair (fun x : Int => (Lit.int .i64 x).wf = true) (fun x : Int => (Lit.int .i64 x).wf = true))) := opens_struct' Try.underlying23 (by kernel_rfl) (opensF_cons rfl (by kernel_rfl) opens3 (opensF_cons rfl (by kernel_rfl) opens3 (opensF_one rfl (by kernel_rfl) opens3)))
/-- The pure statement. -/
def Pure : Prop := ∀ (a0_0 : Int) (a0_1 : Int) (a0_2 : Int), (fun x : Int => (Lit.int .i64 x).wf = true) a0_0 → (fun x : Int => (Lit.int .i64 x).wf = true) a0_1 → (fun x : Int => (Lit.int .i64 x).wf = true) a0_2 → laws_FnExactBucketOk.f a0_0 a0_1 a0_2 = some true
end Go.Proofs.Ythajcifdhhenkaa.OpenFnExactBucketOk
