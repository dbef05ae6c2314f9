/- FnExactBpduOk: the pure statement behind the law: for all arguments of their kinds the law's own function answers true. -/
import Derived.Test.YthajcifdhhenkaaOpenFnExactBpduOk
namespace Go.Proofs.Ythajcifdhhenkaa.Pure
open Go.RowKit Go.Proofs.Ythajcifdhhenkaa.PFnExactBpduOk Go.Proofs.Ythajcifdhhenkaa.OpenFnExactBpduOk Go.Proofs.Ythajcifdhhenkaa.Kit Go.Proofs.YthajcifdhhenkaaW.PrintWords Go.Proofs.YthajcifdhhenkaaW.PrintLast
set_option linter.unusedVariables false
set_option linter.unusedSimpArgs false
theorem l1In_eq (a b c : Int) : spec_l1In.f a b c = some (decide (b ≤ a ∧ a ≤ c)) := by
  unfold spec_l1In.f
  by_cases h : a ≥ b <;> simp [h] <;> omega
theorem inRange_eq (a b c : Int) : impl_inRange.f a b c = some (decide (b ≤ a ∧ a ≤ c)) := by
  unfold impl_inRange.f
  by_cases h : a ≥ b <;> simp [h] <;> omega

def vecOk (r c b p : Int) : Bool := decide (1 ≤ r ∧ r ≤ 9) && (decide (1 ≤ b ∧ b ≤ 9) && (decide (r ≤ b) && (decide (0 ≤ c ∧ c ≤ 20) && (((c == 0) == (r == b)) && decide (0 ≤ p ∧ p ≤ 3)))))
theorem spec_vecOk (r c b p : Int) : spec_VecOk.f r c b p = some (vecOk r c b p) := by
  unfold spec_VecOk.f vecOk
  simp only [l1In_eq, Option.bind_some]
  generalize decide (1 ≤ r ∧ r ≤ 9) = x1
  generalize decide (1 ≤ b ∧ b ≤ 9) = x2
  generalize decide (0 ≤ c ∧ c ≤ 20) = x4
  generalize ((c == 0) == (r == b)) = x5
  generalize decide (0 ≤ p ∧ p ≤ 3) = x6
  by_cases h3 : r ≤ b
  · rw [if_pos h3]; simp only [decide_eq_true h3]; cases x1 <;> cases x2 <;> cases x4 <;> cases x5 <;> rfl
  · rw [if_neg h3]; simp only [decide_eq_false h3]; cases x1 <;> cases x2 <;> rfl
theorem impl_isPort_eq (a : Int) : impl_isPort.f a = some (decide (0 ≤ a ∧ a ≤ 3)) := by
  unfold impl_isPort.f
  simp only [inRange_eq, Option.bind_some]
theorem impl_vecOk (r c b p : Int) : impl_VecOk.f r c b p = some (vecOk r c b p) := by
  unfold impl_VecOk.f vecOk
  simp only [inRange_eq, impl_isPort_eq, Option.bind_some]
  generalize decide (1 ≤ r ∧ r ≤ 9) = x1
  generalize decide (1 ≤ b ∧ b ≤ 9) = x2
  generalize decide (0 ≤ c ∧ c ≤ 20) = x4
  generalize ((c == 0) == (r == b)) = x5
  generalize decide (0 ≤ p ∧ p ≤ 3) = x6
  by_cases h3 : r ≤ b
  · rw [if_neg (show ¬ r > b by omega)]; simp only [decide_eq_true h3]; cases x1 <;> cases x2 <;> cases x4 <;> cases x5 <;> cases x6 <;> rfl
  · rw [if_pos (show r > b by omega)]; simp only [decide_eq_false h3]; cases x1 <;> cases x2 <;> rfl

theorem pure : OpenFnExactBpduOk.Pure := by
  intro a0 a1 a2 a3 a4 a5 a6 a7 a8 a9 a10 _ _ _ _ _ _
  simp only [laws_FnExactBpduOk.f, laws_toBpdu.f, laws_toVec.f, spec_BpduOk.f, impl_BpduOk.f, impl_isHops.f, spec_vecOk, impl_vecOk, l1In_eq, inRange_eq, Option.bind_some]
  by_cases h1 : 0 ≤ a5 ∧ a5 ≤ 3 <;> by_cases h2 : vecOk a6 a7 a8 a9 = true <;> simp [h1, h2]

theorem FnExactBpduOk : OpenFnExactBpduOk.Pure := by
  exact pure
end Go.Proofs.Ythajcifdhhenkaa.Pure
