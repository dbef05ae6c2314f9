/- FnExactBucketOk: the pure statement behind the law: for all arguments of their kinds the law's own function answers true. -/
import Derived.Test.YthajcifdhhenkaaOpenFnExactBucketOk
namespace Go.Proofs.Ythajcifdhhenkaa.Pure
open Go.RowKit Go.Proofs.Ythajcifdhhenkaa.PFnExactBucketOk Go.Proofs.Ythajcifdhhenkaa.OpenFnExactBucketOk Go.Proofs.Ythajcifdhhenkaa.Kit Go.Proofs.YthajcifdhhenkaaW.PrintWords Go.Proofs.YthajcifdhhenkaaW.PrintLast
set_option linter.unusedVariables false
set_option linter.unusedSimpArgs false
theorem l1In_eq (a b c : Int) : spec_l1In.f a b c = some (decide (b ≤ a ∧ a ≤ c)) := by
  unfold spec_l1In.f
  by_cases h : a ≥ b <;> simp [h] <;> omega
theorem inRange_eq (a b c : Int) : impl_inRange.f a b c = some (decide (b ≤ a ∧ a ≤ c)) := by
  unfold impl_inRange.f
  by_cases h : a ≥ b <;> simp [h] <;> omega

def bucketOk (h m p : Int) : Bool := decide ((1 ≤ m ∧ m ≤ 1000) ∧ (0 ≤ p ∧ p ≤ m) ∧ (0 ≤ h ∧ h ≤ m))
theorem spec_bucketOk (h m p : Int) : spec_BucketOk.f h m p = some (bucketOk h m p) := by
  unfold spec_BucketOk.f bucketOk
  simp only [l1In_eq, Option.bind_some]
  by_cases h1 : 1 ≤ m ∧ m ≤ 1000 <;> by_cases h2 : 0 ≤ p ∧ p ≤ m <;> simp [h1, h2]
theorem impl_bucketOk (h m p : Int) : impl_BucketOk.f h m p = some (bucketOk h m p) := by
  unfold impl_BucketOk.f bucketOk
  simp only [inRange_eq, Option.bind_some]
  by_cases h1 : 1 ≤ m ∧ m ≤ 1000 <;> by_cases h2 : 0 ≤ p ∧ p ≤ m <;> simp [h1, h2]

theorem pure : ∀ a b c : Int, (Lit.int .i64 a).wf = true → (Lit.int .i64 b).wf = true → (Lit.int .i64 c).wf = true → laws_FnExactBucketOk.f a b c = some true := by
  intro a b c _ _ _
  simp [laws_FnExactBucketOk.f, laws_toBucket.f, spec_bucketOk, impl_bucketOk]

theorem FnExactBucketOk : OpenFnExactBucketOk.Pure := by
  exact pure
end Go.Proofs.Ythajcifdhhenkaa.Pure
