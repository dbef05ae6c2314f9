/- Contracts of functions, each by its evaluation. -/
import Derived.Test.YtgklglkmfgfodaaEvMd
import Derived.Test.YtgklglkmfgfodaaProg
import Derived.KernelRfl
set_option linter.unusedVariables false
set_option linter.unusedSimpArgs false
set_option maxRecDepth 100000
noncomputable section
open List (getD length drop take set append replicate all isEmpty)
open Int (toNat ofNat)
open Go.IntKind (i64 wrap)
open Go.Proofs.Try (prog f62 f64 func62 func64)
namespace Go.Ev
open Go.RowKit Go.Md
abbrev V_ (l : List C) : TV := .v false l
def Hx : Hints := { mode := fun f => bif f == 88 then [.inout false] else bif f == 59 then [.inout false, .lend] else bif f == 61 then [.inout false, .lend] else bif f == 60 then [.inout false, .give] else bif f == 58 then [.inout false] else bif f == 98 then [.give, .lend] else bif f == 65 then [.inout false, .lend] else bif f == 80 then [.inout false] else bif f == 83 then [.inout false] else bif f == 95 then [.inout false] else bif f == 96 then [.inout false] else bif f == 93 then [.inout false] else bif f == 94 then [.inout false] else bif f == 68 then [.inout false] else [], resRo := fun f => bif f == 57 then true else false, muts := fun f => [] }
def T0 : Table := []
theorem T0_sound : Table.Sound Go.Proofs.Try.prog Hx T0 := Table.sound_nil
theorem mixed : Go.Proofs.Try.prog.follows .mixedOrders = true := by kernel_rfl
end Go.Ev
namespace Go.Md
open Go Go.Ev
def inR (a b c : Int) : Bool := decide (a ≥ b) && decide (a ≤ c)
end Go.Md
namespace Go.Ev
open Go.Md
def o64 (n_ : Int) (least : Int) (most : Int) : Bool × List Row × List Row := (true, [[.bool (inR n_ least most)]], [])
def c64 : Contract
  | [[.int .i64 n_], [.int .i64 least], [.int .i64 most]] => some ((o64 n_ least most).1, (o64 n_ least most).2.1, (o64 n_ least most).2.2)
  | _ => none

theorem r64 (n_ : Int) (least : Int) (most : Int) (n : Nat) : evFn ⟨prog, Hx, 64⟩ T0.call n f64 [[.int .i64 n_], [.int .i64 least], [.int .i64 most]] = bif decide (n_ ≥ least) then some ([[D.bool (decide (n_ ≤ most))]], []) else some ([[D.bool false]], []) := by kernel_rfl
theorem m64 (n_ : Int) (least : Int) (most : Int) (hpre : (o64 n_ least most).1 = true) : evFn ⟨Go.Proofs.Try.prog, Hx, 64⟩ T0.call 0 f64 [[.int .i64 n_], [.int .i64 least], [.int .i64 most]] = some (o64 n_ least most).2 := by
  refine (r64 n_ least most _).trans ?_
  show _ = (some ([[.bool (inR n_ least most)]], []) : Option (List Row × List Row))
  replace hpre : (true) = true := hpre
  unfold inR
  cases decide (n_ ≥ least) <;> rfl
theorem s64 : SoundAt Go.Proofs.Try.prog Hx 64 c64 := soundAt_of T0_sound mixed func64 (by kernel_rfl) (by
  intro rows r h
  unfold c64 at h
  split at h
  · rename_i n_ least most
    obtain ⟨hp, hr⟩ := Prod.mk.inj (Option.some.inj h)
    subst hr
    exact ⟨_, m64 n_ least most hp⟩
  · cases h)
def T64 : Table := (64, c64) :: T0
theorem T64_sound : Table.Sound Go.Proofs.Try.prog Hx T64 := Table.sound_cons s64 T0_sound
def o62 (x : Int) (lo : Int) (hi : Int) : Bool × List Row × List Row := (true, [[.bool (inR x lo hi)]], [])
def c62 : Contract
  | [[.int .i64 x], [.int .i64 lo], [.int .i64 hi]] => some ((o62 x lo hi).1, (o62 x lo hi).2.1, (o62 x lo hi).2.2)
  | _ => none

theorem r62 (x : Int) (lo : Int) (hi : Int) (n : Nat) : evFn ⟨prog, Hx, 62⟩ T64.call n f62 [[.int .i64 x], [.int .i64 lo], [.int .i64 hi]] = bif decide (x ≥ lo) then some ([[D.bool (decide (x ≤ hi))]], []) else some ([[D.bool false]], []) := by kernel_rfl
theorem m62 (x : Int) (lo : Int) (hi : Int) (hpre : (o62 x lo hi).1 = true) : evFn ⟨Go.Proofs.Try.prog, Hx, 62⟩ T64.call 0 f62 [[.int .i64 x], [.int .i64 lo], [.int .i64 hi]] = some (o62 x lo hi).2 := by
  refine (r62 x lo hi _).trans ?_
  show _ = (some ([[.bool (inR x lo hi)]], []) : Option (List Row × List Row))
  replace hpre : (true) = true := hpre
  unfold inR
  cases decide (x ≥ lo) <;> rfl
theorem s62 : SoundAt Go.Proofs.Try.prog Hx 62 c62 := soundAt_of T64_sound mixed func62 (by kernel_rfl) (by
  intro rows r h
  unfold c62 at h
  split at h
  · rename_i x lo hi
    obtain ⟨hp, hr⟩ := Prod.mk.inj (Option.some.inj h)
    subst hr
    exact ⟨_, m62 x lo hi hp⟩
  · cases h)
def T62 : Table := (62, c62) :: T64
theorem T62_sound : Table.Sound Go.Proofs.Try.prog Hx T62 := Table.sound_cons s62 T64_sound
end Go.Ev
end
