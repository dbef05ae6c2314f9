/- Every operation that is no call of a loaded function. -/
import Derived.Test.YtljedfojdgfahaaEvEffAll
namespace Go.Ev
open Go.RowKit
set_option linter.unusedVariables false
set_option linter.unusedSimpArgs false

theorem opEff_sound {P : Program} {w : World} {S : FP} {M : Mem} {L : Lay} {ρ : Operand → Value} {R : List Nat} {nx : Nat} {rs : Look} {o : Oper} {vs : List TV} {e : Eff} (hm : MemRep w S M L) (hover : over M rs = M) (hkeys : ∀ r ∈ vs.flatMap TV.roots, r ∈ R) (hfresh : e.new ≠ [] → (M nx).born = false)
    (hv : opsRep w S M L vs ((operandsOf o.op).map ρ)) (he : opEff P nx o vs rs = some e) (hok : e.ok = true) : OpDoes P w S M L ρ o R nx e := by
  have keep : ∀ {x : Operand} {v : TV}, o.op = .move x ∨ o.op = .assign x → vs = [v] → e = ⟨true, fixTV P o.type v, rs, []⟩ → OpDoes P w S M L ρ o R nx e := by
    intro x v ho hvs hE
    subst hE hvs
    obtain ⟨u, hu, h1⟩ := opsRep_one hv
    have hux : u = ρ x := by
      rcases ho with h | h <;> rw [h] at hu <;> simpa [operandsOf, Op.operands] using hu.symm
    subst hux
    refine does_value hm hover (.inl rfl) rfl ⟨ρ x, ?_, fixTV_rep h1⟩
    rcases ho with h | h <;> unfold execOp <;> rw [h] <;> rfl
  unfold opEff at he
  split at he
  · rename_i x v ho
    simp only [Option.some.injEq] at he
    exact keep (.inl ho) rfl he.symm
  · rename_i x v ho
    simp only [Option.some.injEq] at he
    exact keep (.inr ho) rfl he.symm
  · exact opMem_sound hm hover hkeys hfresh hv he hok
end Go.Ev
