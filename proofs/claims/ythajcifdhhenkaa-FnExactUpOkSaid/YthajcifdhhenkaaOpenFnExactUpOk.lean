/- What reads as data at the types of FnExactUpOk's parameters, and the pure statement that is left of it. -/
import Derived.Test.YthajcifdhhenkaaPFnExactUpOkx1
import Derived.Test.YthajcifdhhenkaaKit
namespace Go.Proofs.Ythajcifdhhenkaa.OpenFnExactUpOk
open Go.ChangeShapes Go.WideShapes Go.RowKit Go.Proofs.Ythajcifdhhenkaa.PFnExactUpOk Go.Proofs.Ythajcifdhhenkaa.Kit Go.Proofs.YthajcifdhhenkaaW.PrintWords Go.Proofs.YthajcifdhhenkaaW.PrintLast
set_option linter.unusedVariables false
theorem opens3 : Opens Try.prog 3 (Kd.int .i64) (fun x : Int => (Lit.int .i64 x).wf = true) := opens_int Try.underlying3
theorem opens29 : Opens Try.prog 29 (Kd.pair (Kd.int .i64) (Kd.pair (Kd.int .i64) (Kd.pair (Kd.int .i64) (Kd.int .i64)))) (okPair (fun x : Int => (Lit.int .i64 x).wf = true) (okPair (fun x : Int => (Lit.int .i64 x).wf = true) (okPair (fun x : Int => (Lit.int .i64 x).wf = true) (fun x : Int => (Lit.int .i64 x).wf = true)))) := opens_struct' Try.underlying29 (by kernel_rfl) (opensF_cons rfl (by kernel_rfl) opens3 (opensF_cons rfl (by kernel_rfl) opens3 (opensF_cons rfl (by kernel_rfl) opens3 (opensF_one rfl (by kernel_rfl) opens3))))
/-- The pure statement. -/
def Pure : Prop := ∀ (a0_0 : Int) (a0_1 : Int) (a0_2 : Int) (a0_3 : Int), (fun x : Int => (Lit.int .i64 x).wf = true) a0_0 → (fun x : Int => (Lit.int .i64 x).wf = true) a0_1 → (fun x : Int => (Lit.int .i64 x).wf = true) a0_2 → (fun x : Int => (Lit.int .i64 x).wf = true) a0_3 → laws_FnExactUpOk.f a0_0 a0_1 a0_2 a0_3 = some true
end Go.Proofs.Ythajcifdhhenkaa.OpenFnExactUpOk
