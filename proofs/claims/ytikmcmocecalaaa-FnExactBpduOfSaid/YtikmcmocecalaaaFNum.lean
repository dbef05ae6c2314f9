/- Contracts of functions, each by its evaluation. -/
import Derived.Test.YtikmcmocecalaaaEvMd
import Derived.Test.YtikmcmocecalaaaProg
import Derived.KernelRfl
set_option linter.unusedVariables false
set_option linter.unusedSimpArgs false
set_option maxRecDepth 100000
noncomputable section
open List (getD length drop take set append replicate all isEmpty)
open Int (toNat ofNat)
open Go.IntKind (i64 wrap)
open Go.Proofs.Try (prog)
namespace Go.Ev
open Go.RowKit Go.Md
def Hx : Hints := { mode := fun f => bif f == 61 then [.give] else bif f == 24 then [.give] else bif f == 12 then [.give] else bif f == 71 then [.give] else bif f == 31 then [.give] else bif f == 37 then [.give] else bif f == 44 then [.give, .lend] else bif f == 69 then [.give] else bif f == 101 then [.give, .lend] else [], resRo := fun f => false, muts := fun f => bif f == 61 then [true] else bif f == 24 then [true] else bif f == 12 then [true] else bif f == 71 then [true] else bif f == 31 then [true] else bif f == 37 then [true] else [] }
def T0 : Table := []
theorem T0_sound : Table.Sound Go.Proofs.Try.prog Hx T0 := Table.sound_nil
theorem mixed : Go.Proofs.Try.prog.follows .mixedOrders = true := by kernel_rfl
end Go.Ev
namespace Go.Md
open Go Go.Ev
def inR (a b c : Int) : Bool := decide (a ≥ b) && decide (a ≤ c)
end Go.Md
namespace Go.Ev
open Go.Md
/- inRange -/
def o78 (n_ : Int) (least : Int) (most : Int) : Bool × List Row × List Row := (true, [[.bool (inR n_ least most)]], [])
def c78 : Contract
  | [[.int .i64 n_], [.int .i64 least], [.int .i64 most]] => some ((o78 n_ least most).1, (o78 n_ least most).2.1, (o78 n_ least most).2.2)
  | _ => none

theorem r78 (n_ : Int) (least : Int) (most : Int) (n : Nat) : evFn ⟨prog, Hx, 78⟩ T0.call n Go.Proofs.Try.f78 [[.int .i64 n_], [.int .i64 least], [.int .i64 most]] = bif decide (n_ ≥ least) then some ([[D.bool (decide (n_ ≤ most))]], []) else some ([[D.bool false]], []) := by kernel_rfl
theorem m78 (n_ : Int) (least : Int) (most : Int) (hpre : (o78 n_ least most).1 = true) : evFn ⟨Go.Proofs.Try.prog, Hx, 78⟩ T0.call 0 Go.Proofs.Try.f78 [[.int .i64 n_], [.int .i64 least], [.int .i64 most]] = some (o78 n_ least most).2 := by
  refine (r78 n_ least most _).trans ?_
  show _ = (some ([[.bool (inR n_ least most)]], []) : Option (List Row × List Row))
  replace hpre : (true) = true := hpre
  unfold inR
  cases decide (n_ ≥ least) <;> rfl
theorem s78 : SoundAt Go.Proofs.Try.prog Hx 78 c78 := soundAt_of T0_sound mixed Go.Proofs.Try.func78 (by kernel_rfl) (by
  intro rows r h
  unfold c78 at h
  split at h
  · rename_i n_ least most
    obtain ⟨hp, hr⟩ := Prod.mk.inj (Option.some.inj h)
    subst hr
    exact ⟨_, m78 n_ least most hp⟩
  · cases h)
def T78 : Table := (78, c78) :: T0
theorem T78_sound : Table.Sound Go.Proofs.Try.prog Hx T78 := Table.sound_cons s78 T0_sound
/- l1In -/
def o74 (x : Int) (lo : Int) (hi : Int) : Bool × List Row × List Row := (true, [[.bool (inR x lo hi)]], [])
def c74 : Contract
  | [[.int .i64 x], [.int .i64 lo], [.int .i64 hi]] => some ((o74 x lo hi).1, (o74 x lo hi).2.1, (o74 x lo hi).2.2)
  | _ => none

theorem r74 (x : Int) (lo : Int) (hi : Int) (n : Nat) : evFn ⟨prog, Hx, 74⟩ T78.call n Go.Proofs.Try.f74 [[.int .i64 x], [.int .i64 lo], [.int .i64 hi]] = bif decide (x ≥ lo) then some ([[D.bool (decide (x ≤ hi))]], []) else some ([[D.bool false]], []) := by kernel_rfl
theorem m74 (x : Int) (lo : Int) (hi : Int) (hpre : (o74 x lo hi).1 = true) : evFn ⟨Go.Proofs.Try.prog, Hx, 74⟩ T78.call 0 Go.Proofs.Try.f74 [[.int .i64 x], [.int .i64 lo], [.int .i64 hi]] = some (o74 x lo hi).2 := by
  refine (r74 x lo hi _).trans ?_
  show _ = (some ([[.bool (inR x lo hi)]], []) : Option (List Row × List Row))
  replace hpre : (true) = true := hpre
  unfold inR
  cases decide (x ≥ lo) <;> rfl
theorem s74 : SoundAt Go.Proofs.Try.prog Hx 74 c74 := soundAt_of T78_sound mixed Go.Proofs.Try.func74 (by kernel_rfl) (by
  intro rows r h
  unfold c74 at h
  split at h
  · rename_i x lo hi
    obtain ⟨hp, hr⟩ := Prod.mk.inj (Option.some.inj h)
    subst hr
    exact ⟨_, m74 x lo hi hp⟩
  · cases h)
def T74 : Table := (74, c74) :: T78
theorem T74_sound : Table.Sound Go.Proofs.Try.prog Hx T74 := Table.sound_cons s74 T78_sound
end Go.Ev
end
