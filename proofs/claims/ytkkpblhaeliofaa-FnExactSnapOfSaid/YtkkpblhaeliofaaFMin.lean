/- Contracts of functions, each by its evaluation. -/
import Derived.Test.YtkkpblhaeliofaaEvMd
import Derived.Test.YtkkpblhaeliofaaProg
import Derived.KernelRfl
import Derived.Test.YtkkpblhaeliofaaFPort
set_option linter.unusedVariables false
set_option linter.unusedSimpArgs false
set_option maxRecDepth 100000
noncomputable section
open List (getD length drop take set append replicate all isEmpty)
open Int (toNat ofNat)
open Go.IntKind (i64 wrap)
open Go.Proofs.Try (prog f56 func56)
namespace Go.Ev
open Go.RowKit Go.Md
def o56 (a : Int) (b : Int) : Bool × List Row × List Row := (true, [[.int .i64 (if a < b then a else b)]], [])
def c56 : Contract
  | [[.int .i64 a], [.int .i64 b]] => some ((o56 a b).1, (o56 a b).2.1, (o56 a b).2.2)
  | _ => none

theorem r56 (a : Int) (b : Int) (n : Nat) : evFn ⟨prog, Hx, 56⟩ T68.call n f56 [[.int .i64 a], [.int .i64 b]] = bif decide (a < b) then some ([[D.int i64 a]], []) else some ([[D.int i64 b]], []) := by kernel_rfl
theorem m56 (a : Int) (b : Int) (hpre : (o56 a b).1 = true) : evFn ⟨Go.Proofs.Try.prog, Hx, 56⟩ T68.call 0 f56 [[.int .i64 a], [.int .i64 b]] = some (o56 a b).2 := by
  refine (r56 a b _).trans ?_
  show _ = (some ([[.int .i64 (if a < b then a else b)]], []) : Option (List Row × List Row))
  replace hpre : (true) = true := hpre
  by_cases h : a < b <;> simp [h]
theorem s56 : SoundAt Go.Proofs.Try.prog Hx 56 c56 := soundAt_of T68_sound mixed func56 (by kernel_rfl) (by
  intro rows r h
  unfold c56 at h
  split at h
  · rename_i a b
    obtain ⟨hp, hr⟩ := Prod.mk.inj (Option.some.inj h)
    subst hr
    exact ⟨_, m56 a b hp⟩
  · cases h)
def T56 : Table := (56, c56) :: T68
theorem T56_sound : Table.Sound Go.Proofs.Try.prog Hx T56 := Table.sound_cons s56 T68_sound
end Go.Ev
end
