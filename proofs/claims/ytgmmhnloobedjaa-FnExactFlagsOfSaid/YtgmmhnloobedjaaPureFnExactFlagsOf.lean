/- FnExactFlagsOf: the pure statement behind the law: for all arguments of their kinds the law's own function answers true. -/
import Derived.Test.YtgmmhnloobedjaaOpenFnExactFlagsOf
namespace Go.Proofs.Ytgmmhnloobedjaa.Pure
open Go.RowKit Go.Proofs.Ytgmmhnloobedjaa.PFnExactFlagsOf Go.Proofs.Ytgmmhnloobedjaa.OpenFnExactFlagsOf Go.Proofs.Ytgmmhnloobedjaa.Kit Go.Proofs.YtgmmhnloobedjaaW.PrintWords Go.Proofs.YtgmmhnloobedjaaW.PrintLast
set_option linter.unusedVariables false
set_option linter.unusedSimpArgs false
set_option maxHeartbeats 4000000 in
theorem flags_eq (a b c d e : Bool) (x r q p s h : Int) : impl_FlagsOf.f a b c d e x r q p s h = spec_FlagsOf.f a b c d e x r q p s h := by
  unfold impl_FlagsOf.f spec_FlagsOf.f spec_l1Bit.f impl_bit.f impl_roleBits.f
  by_cases h2 : x = 2
  · cases a <;> cases b <;> cases c <;> cases d <;> cases e <;> simp [h2] <;> (unfold wrap64; omega)
  · by_cases h1 : x = 1
    · cases a <;> cases b <;> cases c <;> cases d <;> cases e <;> simp [h1] <;> (unfold wrap64; omega)
    · by_cases h3 : x = 3
      · cases a <;> cases b <;> cases c <;> cases d <;> cases e <;> simp [h3] <;> (unfold wrap64; omega)
      · cases a <;> cases b <;> cases c <;> cases d <;> cases e <;> simp [h1, h2, h3] <;> (unfold wrap64; omega)
theorem flags_some (a b c d e : Bool) (x r q p s h : Int) : ∃ n, spec_FlagsOf.f a b c d e x r q p s h = some n := by
  unfold spec_FlagsOf.f spec_l1Bit.f
  by_cases h2 : x = 2 <;> by_cases h1 : x = 1 <;> by_cases h3 : x = 3 <;> cases a <;> cases b <;> cases c <;> cases d <;> cases e <;> simp [h1, h2, h3]
theorem pure : OpenFnExactFlagsOf.Pure := by
  intro a b c d e x r q p s h _ _ _ _ _ _
  obtain ⟨n, hn⟩ := flags_some a b c d e x r q p s h
  simp [laws_FnExactFlagsOf.f, laws_toBpdu.f, laws_toVec.f, flags_eq, hn]

theorem FnExactFlagsOf : OpenFnExactFlagsOf.Pure := by
  exact pure
end Go.Proofs.Ytgmmhnloobedjaa.Pure
