/- FnExactClaimIn: the pure statement behind the law: for all arguments of their kinds the law's own function answers true. -/
import Derived.Test.YtgmmhnloobedjaaOpenFnExactClaimIn
namespace Go.Proofs.Ytgmmhnloobedjaa.Pure
open Go.RowKit Go.Proofs.Ytgmmhnloobedjaa.PFnExactClaimIn Go.Proofs.Ytgmmhnloobedjaa.OpenFnExactClaimIn Go.Proofs.Ytgmmhnloobedjaa.Kit Go.Proofs.YtgmmhnloobedjaaW.PrintWords Go.Proofs.YtgmmhnloobedjaaW.PrintLast
set_option linter.unusedVariables false
set_option linter.unusedSimpArgs false
theorem l1In_eq (a b c : Int) : spec_l1In.f a b c = some (decide (b ≤ a ∧ a ≤ c)) := by
  unfold spec_l1In.f
  by_cases h : a ≥ b <;> simp [h] <;> omega
theorem inRange_eq (a b c : Int) : impl_inRange.f a b c = some (decide (b ≤ a ∧ a ≤ c)) := by
  unfold impl_inRange.f
  by_cases h : a ≥ b <;> simp [h] <;> omega

def vecOk (r c b p : Int) : Bool := decide (1 ≤ r ∧ r ≤ 9) && (decide (1 ≤ b ∧ b ≤ 9) && (decide (r ≤ b) && (decide (0 ≤ c ∧ c ≤ 20) && (((c == 0) == (r == b)) && decide (0 ≤ p ∧ p ≤ 3)))))
theorem spec_vecOk (r c b p : Int) : spec_VecOk.f r c b p = some (vecOk r c b p) := by
  unfold spec_VecOk.f vecOk
  simp only [l1In_eq, Option.bind_some]
  generalize decide (1 ≤ r ∧ r ≤ 9) = x1
  generalize decide (1 ≤ b ∧ b ≤ 9) = x2
  generalize decide (0 ≤ c ∧ c ≤ 20) = x4
  generalize ((c == 0) == (r == b)) = x5
  generalize decide (0 ≤ p ∧ p ≤ 3) = x6
  by_cases h3 : r ≤ b
  · rw [if_pos h3]; simp only [decide_eq_true h3]; cases x1 <;> cases x2 <;> cases x4 <;> cases x5 <;> rfl
  · rw [if_neg h3]; simp only [decide_eq_false h3]; cases x1 <;> cases x2 <;> rfl
theorem impl_isPort_eq (a : Int) : impl_isPort.f a = some (decide (0 ≤ a ∧ a ≤ 3)) := by
  unfold impl_isPort.f
  simp only [inRange_eq, Option.bind_some]
theorem impl_vecOk (r c b p : Int) : impl_VecOk.f r c b p = some (vecOk r c b p) := by
  unfold impl_VecOk.f vecOk
  simp only [inRange_eq, impl_isPort_eq, Option.bind_some]
  generalize decide (1 ≤ r ∧ r ≤ 9) = x1
  generalize decide (1 ≤ b ∧ b ≤ 9) = x2
  generalize decide (0 ≤ c ∧ c ≤ 20) = x4
  generalize ((c == 0) == (r == b)) = x5
  generalize decide (0 ≤ p ∧ p ≤ 3) = x6
  by_cases h3 : r ≤ b
  · rw [if_neg (show ¬ r > b by omega)]; simp only [decide_eq_true h3]; cases x1 <;> cases x2 <;> cases x4 <;> cases x5 <;> cases x6 <;> rfl
  · rw [if_pos (show r > b by omega)]; simp only [decide_eq_false h3]; cases x1 <;> cases x2 <;> rfl

theorem impl_isHops_eq (a : Int) : impl_isHops.f a = some (decide (0 ≤ a ∧ a ≤ 8)) := by
  unfold impl_isHops.f
  simp only [inRange_eq, Option.bind_some]
theorem spec_inOk (k p r c b q h : Int) (u : Bool) : ∃ x, spec_InOk.f k p r c b q h u = some x ∧ impl_InOk.f k p r c b q h u = some x := by
  unfold spec_InOk.f impl_InOk.f
  simp only [l1In_eq, impl_isPort_eq, impl_isHops_eq, spec_vecOk, impl_vecOk, Option.bind_some]
  generalize decide (0 ≤ p ∧ p ≤ 3) = x1
  generalize vecOk r c b q = x2
  generalize decide (0 ≤ h ∧ h ≤ 8) = x3
  by_cases h1 : k = 1
  · simp only [if_pos h1]; cases x1 <;> cases x2 <;> cases x3 <;> exact ⟨_, rfl, rfl⟩
  · simp only [if_neg h1]
    by_cases h3 : k = 3
    · simp only [if_pos h3]
      cases x1
      · exact ⟨_, rfl, rfl⟩
      · generalize (r == 0 && (c == 0 && (b == 0 && (q == 0)))) = x4
        cases x4 <;> exact ⟨_, rfl, rfl⟩
    · simp only [if_neg h3]
      by_cases h2 : k = 2
      · simp only [if_pos h2]; exact ⟨_, rfl, rfl⟩
      · simp only [if_neg h2]; refine ⟨false, rfl, ?_⟩
        rw [beq_eq_false_iff_ne.2 h2]; rfl
theorem bpduOk_both (a0 a1 a2 a3 a4 : Bool) (a5 a6 a7 a8 a9 a10 : Int) : ∃ x, spec_BpduOk.f a0 a1 a2 a3 a4 a5 a6 a7 a8 a9 a10 = some x ∧ impl_BpduOk.f a0 a1 a2 a3 a4 a5 a6 a7 a8 a9 a10 = some x := by
  simp only [spec_BpduOk.f, impl_BpduOk.f, impl_isHops_eq, spec_vecOk, impl_vecOk, l1In_eq, inRange_eq, Option.bind_some]
  generalize decide (0 ≤ a5 ∧ a5 ≤ 3) = x1
  generalize vecOk a6 a7 a8 a9 = x2
  cases x1 <;> cases x2 <;> exact ⟨_, rfl, rfl⟩

theorem claimIn_both (a0 a1 a2 a3 a4 : Bool) (a5 a6 a7 a8 a9 a10 p : Int) : ∃ x, spec_ClaimIn.f a0 a1 a2 a3 a4 a5 a6 a7 a8 a9 a10 p = some x ∧ impl_ClaimIn.f a0 a1 a2 a3 a4 a5 a6 a7 a8 a9 a10 p = some x := by
  obtain ⟨x, h1, h2⟩ := bpduOk_both a0 a1 a2 a3 a4 a5 a6 a7 a8 a9 a10
  obtain ⟨y, h3, h4⟩ := spec_inOk 1 p a6 a7 a8 a9 a10 false
  simp only [spec_ClaimIn.f, impl_ClaimIn.f, h1, h2, h3, h4, Option.bind_some]
  cases x <;> cases y <;> exact ⟨_, rfl, rfl⟩
theorem pure : OpenFnExactClaimIn.Pure := by
  intro a0 a1 a2 a3 a4 a5 a6 a7 a8 a9 a10 p _ _ _ _ _ _ _
  obtain ⟨⟨x0, x1, x2, x3, x4, x5, x6, x7, x8⟩, h1, h2⟩ := claimIn_both a0 a1 a2 a3 a4 a5 a6 a7 a8 a9 a10 p
  simp [laws_FnExactClaimIn.f, laws_toBpdu.f, laws_toVec.f, h1, h2, laws_eqIn.f, laws_eqVec.f]

theorem FnExactClaimIn : OpenFnExactClaimIn.Pure := by
  exact pure
end Go.Proofs.Ytgmmhnloobedjaa.Pure
