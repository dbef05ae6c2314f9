/- Contracts of functions, each by its evaluation. -/
import Derived.Test.YtihhlajibgoemaaEvMd
import Derived.Test.YtihhlajibgoemaaProg
import Derived.KernelRfl
set_option linter.unusedVariables false
set_option linter.unusedSimpArgs false
set_option maxRecDepth 100000
noncomputable section
open List (getD length drop take set append replicate all isEmpty)
open Int (toNat ofNat)
open Go.IntKind (i64 wrap)
open Go.Proofs.Try (prog f32 f59 func32 func59)
namespace Go.Ev
open Go.RowKit Go.Md
abbrev V_ (l : List C) : TV := .v false l
def Hx : Hints := { mode := fun f => bif f == 49 then [.give] else bif f == 66 then [.give] else bif f == 47 then [.give] else bif f == 48 then [.give] else bif f == 46 then [.give] else bif f == 27 then [.give] else bif f == 26 then [.give] else bif f == 10 then [.give] else bif f == 28 then [.give] else bif f == 11 then [.give] else bif f == 73 then [.ro, .lend] else bif f == 60 then [.ro] else [], resRo := fun f => false, muts := fun f => bif f == 49 then [true] else bif f == 66 then [true] else bif f == 47 then [true] else bif f == 48 then [true] else bif f == 46 then [true] else bif f == 27 then [true] else bif f == 26 then [true] else bif f == 10 then [true] else bif f == 28 then [true] else bif f == 11 then [true] else [] }
def T0 : Table := []
theorem T0_sound : Table.Sound Go.Proofs.Try.prog Hx T0 := Table.sound_nil
theorem mixed : Go.Proofs.Try.prog.follows .mixedOrders = true := by kernel_rfl
end Go.Ev
namespace Go.Md
open Go Go.Ev
def inR (a b c : Int) : Bool := decide (a ≥ b) && decide (a ≤ c)
end Go.Md
namespace Go.Ev
open Go.Md
def o59 (n_ : Int) (least : Int) (most : Int) : Bool × List Row × List Row := (true, [[.bool (inR n_ least most)]], [])
def c59 : Contract
  | [[.int .i64 n_], [.int .i64 least], [.int .i64 most]] => some ((o59 n_ least most).1, (o59 n_ least most).2.1, (o59 n_ least most).2.2)
  | _ => none

theorem r59 (n_ : Int) (least : Int) (most : Int) (n : Nat) : evFn ⟨prog, Hx, 59⟩ T0.call n f59 [[.int .i64 n_], [.int .i64 least], [.int .i64 most]] = bif decide (n_ ≥ least) then some ([[D.bool (decide (n_ ≤ most))]], []) else some ([[D.bool false]], []) := by kernel_rfl
theorem m59 (n_ : Int) (least : Int) (most : Int) (hpre : (o59 n_ least most).1 = true) : evFn ⟨Go.Proofs.Try.prog, Hx, 59⟩ T0.call 0 f59 [[.int .i64 n_], [.int .i64 least], [.int .i64 most]] = some (o59 n_ least most).2 := by
  refine (r59 n_ least most _).trans ?_
  show _ = (some ([[.bool (inR n_ least most)]], []) : Option (List Row × List Row))
  replace hpre : (true) = true := hpre
  unfold inR
  cases decide (n_ ≥ least) <;> rfl
theorem s59 : SoundAt Go.Proofs.Try.prog Hx 59 c59 := soundAt_of T0_sound mixed func59 (by kernel_rfl) (by
  intro rows r h
  unfold c59 at h
  split at h
  · rename_i n_ least most
    obtain ⟨hp, hr⟩ := Prod.mk.inj (Option.some.inj h)
    subst hr
    exact ⟨_, m59 n_ least most hp⟩
  · cases h)
def T59 : Table := (59, c59) :: T0
theorem T59_sound : Table.Sound Go.Proofs.Try.prog Hx T59 := Table.sound_cons s59 T0_sound
def o32 (x : Int) (lo : Int) (hi : Int) : Bool × List Row × List Row := (true, [[.bool (inR x lo hi)]], [])
def c32 : Contract
  | [[.int .i64 x], [.int .i64 lo], [.int .i64 hi]] => some ((o32 x lo hi).1, (o32 x lo hi).2.1, (o32 x lo hi).2.2)
  | _ => none

theorem r32 (x : Int) (lo : Int) (hi : Int) (n : Nat) : evFn ⟨prog, Hx, 32⟩ T59.call n f32 [[.int .i64 x], [.int .i64 lo], [.int .i64 hi]] = bif decide (x ≥ lo) then some ([[D.bool (decide (x ≤ hi))]], []) else some ([[D.bool false]], []) := by kernel_rfl
theorem m32 (x : Int) (lo : Int) (hi : Int) (hpre : (o32 x lo hi).1 = true) : evFn ⟨Go.Proofs.Try.prog, Hx, 32⟩ T59.call 0 f32 [[.int .i64 x], [.int .i64 lo], [.int .i64 hi]] = some (o32 x lo hi).2 := by
  refine (r32 x lo hi _).trans ?_
  show _ = (some ([[.bool (inR x lo hi)]], []) : Option (List Row × List Row))
  replace hpre : (true) = true := hpre
  unfold inR
  cases decide (x ≥ lo) <;> rfl
theorem s32 : SoundAt Go.Proofs.Try.prog Hx 32 c32 := soundAt_of T59_sound mixed func32 (by kernel_rfl) (by
  intro rows r h
  unfold c32 at h
  split at h
  · rename_i x lo hi
    obtain ⟨hp, hr⟩ := Prod.mk.inj (Option.some.inj h)
    subst hr
    exact ⟨_, m32 x lo hi hp⟩
  · cases h)
def T32 : Table := (32, c32) :: T59
theorem T32_sound : Table.Sound Go.Proofs.Try.prog Hx T32 := Table.sound_cons s32 T59_sound
end Go.Ev
end
