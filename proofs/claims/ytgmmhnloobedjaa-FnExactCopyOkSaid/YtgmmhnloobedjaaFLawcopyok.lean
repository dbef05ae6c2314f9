/- Contracts of functions, each by its evaluation. -/
import Derived.Test.YtgmmhnloobedjaaEvLib
import Derived.Test.YtgmmhnloobedjaaProg
import Derived.KernelRfl
import Derived.Test.YtgmmhnloobedjaaFCopy
namespace Go.Ev
open Go.RowKit Go.Md
set_option linter.unusedVariables false
set_option linter.unusedSimpArgs false
set_option maxRecDepth 100000
/- law -/
def c6 : Contract
  | [[.int .i64 u, .sl false 4 es]] => some (isRow false isH es && decide (es.length ≤ 9223372036854775807), [[.bool true]], [])
  | _ => none

theorem r6 (u : Int) (es : List (List D)) (n : Nat) : evFn ⟨Go.Proofs.Try.prog, Hx, 6⟩ T24.call n Go.Proofs.Try.f6 [[.int .i64 u, .sl false 4 es]] = bif decide (szC es (1048576) < 0) then some ([[D.bool true]], []) else bif isHs es then bif isHs (lendRows es) then bif isHs es then bif isHs (lendRows es) then bif copyOk u (lendRows es) != copyOk u (lendRows es) then some ([[D.bool false]], []) else bif isHs es then bif isHs (lendRows es) && isHs (lendRows es) then bif !(u == u && eqRows (lendRows es) (lendRows es)) then some ([[D.bool false]], []) else some ([[D.bool true]], []) else none else none else none else none else none else none := by kernel_rfl
theorem m6 (u : Int) (es : List (List D)) (hpre : (isRow false isH es && decide (es.length ≤ 9223372036854775807)) = true) : evFn ⟨Go.Proofs.Try.prog, Hx, 6⟩ T24.call 0 Go.Proofs.Try.f6 [[.int .i64 u, .sl false 4 es]] = some ([[.bool true]], []) := by
  refine (r6 u es _).trans ?_
  simp only [Bool.and_eq_true, decide_eq_true_eq] at hpre
  obtain ⟨hrow, hlen⟩ := hpre
  rw [isRow_lend rfl hrow]
  by_cases hl : es.length ≤ 1048576
  · rw [szC_small hl]
    have hi : isHs es = true := by simp [isHs, hrow, hl]
    simp [hi, eqRows_self]
  · rw [szC_big hlen hl]
    rfl
theorem s6 : SoundAt Go.Proofs.Try.prog Hx 6 c6 := soundAt_of T24_sound mixed Go.Proofs.Try.func6 (by kernel_rfl) (by
  intro rows r h
  unfold c6 at h
  split at h
  · rename_i u es
    injection h with h
    injection h with hp h
    subst h
    exact ⟨_, m6 u es hp⟩
  · cases h)
def T6 : Table := (6, c6) :: T24
theorem T6_sound : Table.Sound Go.Proofs.Try.prog Hx T6 := Table.sound_cons s6 T24_sound
end Go.Ev
