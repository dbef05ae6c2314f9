/- Contracts of functions, each by its evaluation. -/
import Derived.Test.YtgklglkmfgfodaaEvMd
import Derived.Test.YtgklglkmfgfodaaProg
import Derived.KernelRfl
import Derived.Test.YtgklglkmfgfodaaFNum
set_option linter.unusedVariables false
set_option linter.unusedSimpArgs false
set_option maxRecDepth 100000
noncomputable section
open List (getD length drop take set append replicate all isEmpty)
open Int (toNat ofNat)
open Go.IntKind (i64 wrap)
open Go.Proofs.Try (prog f63 func63)
namespace Go.Ev
open Go.RowKit Go.Md
def o63 (a : Int) (b : Int) : Bool × List Row × List Row := (true, [[.int .i64 (if a < b then a else b)]], [])
def c63 : Contract
  | [[.int .i64 a], [.int .i64 b]] => some ((o63 a b).1, (o63 a b).2.1, (o63 a b).2.2)
  | _ => none

theorem r63 (a : Int) (b : Int) (n : Nat) : evFn ⟨prog, Hx, 63⟩ T62.call n f63 [[.int .i64 a], [.int .i64 b]] = bif decide (a < b) then some ([[D.int i64 a]], []) else some ([[D.int i64 b]], []) := by kernel_rfl
theorem m63 (a : Int) (b : Int) (hpre : (o63 a b).1 = true) : evFn ⟨Go.Proofs.Try.prog, Hx, 63⟩ T62.call 0 f63 [[.int .i64 a], [.int .i64 b]] = some (o63 a b).2 := by
  refine (r63 a b _).trans ?_
  show _ = (some ([[.int .i64 (if a < b then a else b)]], []) : Option (List Row × List Row))
  replace hpre : (true) = true := hpre
  by_cases h : a < b <;> simp [h]
theorem s63 : SoundAt Go.Proofs.Try.prog Hx 63 c63 := soundAt_of T62_sound mixed func63 (by kernel_rfl) (by
  intro rows r h
  unfold c63 at h
  split at h
  · rename_i a b
    obtain ⟨hp, hr⟩ := Prod.mk.inj (Option.some.inj h)
    subst hr
    exact ⟨_, m63 a b hp⟩
  · cases h)
def T63 : Table := (63, c63) :: T62
theorem T63_sound : Table.Sound Go.Proofs.Try.prog Hx T63 := Table.sound_cons s63 T62_sound
end Go.Ev
end
