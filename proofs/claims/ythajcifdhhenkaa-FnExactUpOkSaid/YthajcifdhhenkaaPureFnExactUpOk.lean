/- FnExactUpOk: the pure statement behind the law: for all arguments of their kinds the law's own function answers true. -/
import Derived.Test.YthajcifdhhenkaaOpenFnExactUpOk
namespace Go.Proofs.Ythajcifdhhenkaa.Pure
open Go.RowKit Go.Proofs.Ythajcifdhhenkaa.PFnExactUpOk Go.Proofs.Ythajcifdhhenkaa.OpenFnExactUpOk Go.Proofs.Ythajcifdhhenkaa.Kit Go.Proofs.YthajcifdhhenkaaW.PrintWords Go.Proofs.YthajcifdhhenkaaW.PrintLast
set_option linter.unusedVariables false
set_option linter.unusedSimpArgs false
theorem l1In_eq (a b c : Int) : spec_l1In.f a b c = some (decide (b ≤ a ∧ a ≤ c)) := by
  unfold spec_l1In.f
  by_cases h : a ≥ b <;> simp [h] <;> omega
theorem inRange_eq (a b c : Int) : impl_inRange.f a b c = some (decide (b ≤ a ∧ a ≤ c)) := by
  unfold impl_inRange.f
  by_cases h : a ≥ b <;> simp [h] <;> omega

theorem pure : OpenFnExactUpOk.Pure := by
  intro a b c d _ _ _ _
  simp only [laws_FnExactUpOk.f, laws_toUp.f, spec_UpOk.f, impl_UpOk.f, impl_isAddr.f, impl_isVlan.f, impl_isPort.f, l1In_eq, inRange_eq, Option.bind_some]
  by_cases h1 : 0 ≤ a ∧ a ≤ 100000 <;> by_cases h2 : 1 ≤ b ∧ b ≤ 9 <;> by_cases h3 : 1 ≤ c ∧ c ≤ 4 <;> simp [h1, h2, h3]

theorem FnExactUpOk : OpenFnExactUpOk.Pure := by
  exact pure
end Go.Proofs.Ythajcifdhhenkaa.Pure
