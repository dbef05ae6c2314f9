/- Contracts of functions, each by its evaluation. -/
import Derived.Test.YtljedfojdgfahaaEvMd
import Derived.Test.YtljedfojdgfahaaProg
import Derived.KernelRfl
import Derived.Test.YtljedfojdgfahaaFPort
set_option linter.unusedVariables false
set_option linter.unusedSimpArgs false
set_option maxRecDepth 100000
noncomputable section
open List (getD length drop take set append replicate all isEmpty)
open Int (toNat ofNat)
open Go.IntKind (i64 wrap)
open Go.Proofs.Try (prog)
namespace Go.Ev
open Go.RowKit Go.Md
/- l1Min -/
def o42 (a : Int) (b : Int) : Bool × List Row × List Row := (true, [[.int .i64 (if a < b then a else b)]], [])
def c42 : Contract
  | [[.int .i64 a], [.int .i64 b]] => some ((o42 a b).1, (o42 a b).2.1, (o42 a b).2.2)
  | _ => none

theorem r42 (a : Int) (b : Int) (n : Nat) : evFn ⟨prog, Hx, 42⟩ T84.call n Go.Proofs.Try.f42 [[.int .i64 a], [.int .i64 b]] = bif decide (a < b) then some ([[D.int i64 a]], []) else some ([[D.int i64 b]], []) := by kernel_rfl
theorem m42 (a : Int) (b : Int) (hpre : (o42 a b).1 = true) : evFn ⟨Go.Proofs.Try.prog, Hx, 42⟩ T84.call 0 Go.Proofs.Try.f42 [[.int .i64 a], [.int .i64 b]] = some (o42 a b).2 := by
  refine (r42 a b _).trans ?_
  show _ = (some ([[.int .i64 (if a < b then a else b)]], []) : Option (List Row × List Row))
  replace hpre : (true) = true := hpre
  by_cases h : a < b <;> simp [h]
theorem s42 : SoundAt Go.Proofs.Try.prog Hx 42 c42 := soundAt_of T84_sound mixed Go.Proofs.Try.func42 (by kernel_rfl) (by
  intro rows r h
  unfold c42 at h
  split at h
  · rename_i a b
    obtain ⟨hp, hr⟩ := Prod.mk.inj (Option.some.inj h)
    subst hr
    exact ⟨_, m42 a b hp⟩
  · cases h)
def T42 : Table := (42, c42) :: T84
theorem T42_sound : Table.Sound Go.Proofs.Try.prog Hx T42 := Table.sound_cons s42 T84_sound
end Go.Ev
end
