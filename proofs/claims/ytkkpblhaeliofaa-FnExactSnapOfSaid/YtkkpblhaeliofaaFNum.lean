/- Contracts of functions, each by its evaluation. -/
import Derived.Test.YtkkpblhaeliofaaEvMd
import Derived.Test.YtkkpblhaeliofaaProg
import Derived.KernelRfl
set_option linter.unusedVariables false
set_option linter.unusedSimpArgs false
set_option maxRecDepth 100000
noncomputable section
open List (getD length drop take set append replicate all isEmpty)
open Int (toNat ofNat)
open Go.IntKind (i64 wrap)
open Go.Proofs.Try (prog f35 f38 func35 func38)
namespace Go.Ev
open Go.RowKit Go.Md
abbrev V_ (l : List C) : TV := .v false l
def Hx : Hints := { mode := fun f => bif f == 74 then [.inout false] else bif f == 44 then [.inout false, .lend] else bif f == 72 then [.inout false, .lend] else bif f == 60 then [.inout false, .give] else bif f == 41 then [.give] else bif f == 12 then [.give] else bif f == 13 then [.give] else bif f == 48 then [.give, .lend] else bif f == 49 then [.give] else bif f == 52 then [.inout false] else bif f == 82 then [.inout false] else bif f == 53 then [.inout false] else bif f == 55 then [.inout false] else bif f == 57 then [.inout false] else bif f == 113 then [.ro] else bif f == 101 then [.ro, .lend] else bif f == 102 then [.ro] else bif f == 100 then [.inout true] else bif f == 99 then [.inout true] else bif f == 77 then [.inout true, .lend] else bif f == 88 then [.give, .lend] else bif f == 103 then [.inout false] else bif f == 85 then [.inout false] else bif f == 84 then [.inout false] else bif f == 58 then [.inout false] else bif f == 80 then [.inout false] else bif f == 73 then [.inout false] else bif f == 51 then [.inout false] else bif f == 47 then [.inout false] else bif f == 59 then [.inout false] else bif f == 50 then [.inout false, .give] else [], resRo := fun f => bif f == 45 then true else false, muts := fun f => bif f == 41 then [true] else bif f == 12 then [true] else bif f == 13 then [true] else [] }
def T0 : Table := []
theorem T0_sound : Table.Sound Go.Proofs.Try.prog Hx T0 := Table.sound_nil
theorem mixed : Go.Proofs.Try.prog.follows .mixedOrders = true := by kernel_rfl
end Go.Ev
namespace Go.Md
open Go Go.Ev
def inR (a b c : Int) : Bool := decide (a ≥ b) && decide (a ≤ c)
end Go.Md
namespace Go.Ev
open Go.Md
def o38 (n_ : Int) (least : Int) (most : Int) : Bool × List Row × List Row := (true, [[.bool (inR n_ least most)]], [])
def c38 : Contract
  | [[.int .i64 n_], [.int .i64 least], [.int .i64 most]] => some ((o38 n_ least most).1, (o38 n_ least most).2.1, (o38 n_ least most).2.2)
  | _ => none

theorem r38 (n_ : Int) (least : Int) (most : Int) (n : Nat) : evFn ⟨prog, Hx, 38⟩ T0.call n f38 [[.int .i64 n_], [.int .i64 least], [.int .i64 most]] = bif decide (n_ ≥ least) then some ([[D.bool (decide (n_ ≤ most))]], []) else some ([[D.bool false]], []) := by kernel_rfl
theorem m38 (n_ : Int) (least : Int) (most : Int) (hpre : (o38 n_ least most).1 = true) : evFn ⟨Go.Proofs.Try.prog, Hx, 38⟩ T0.call 0 f38 [[.int .i64 n_], [.int .i64 least], [.int .i64 most]] = some (o38 n_ least most).2 := by
  refine (r38 n_ least most _).trans ?_
  show _ = (some ([[.bool (inR n_ least most)]], []) : Option (List Row × List Row))
  replace hpre : (true) = true := hpre
  unfold inR
  cases decide (n_ ≥ least) <;> rfl
theorem s38 : SoundAt Go.Proofs.Try.prog Hx 38 c38 := soundAt_of T0_sound mixed func38 (by kernel_rfl) (by
  intro rows r h
  unfold c38 at h
  split at h
  · rename_i n_ least most
    obtain ⟨hp, hr⟩ := Prod.mk.inj (Option.some.inj h)
    subst hr
    exact ⟨_, m38 n_ least most hp⟩
  · cases h)
def T38 : Table := (38, c38) :: T0
theorem T38_sound : Table.Sound Go.Proofs.Try.prog Hx T38 := Table.sound_cons s38 T0_sound
def o35 (x : Int) (lo : Int) (hi : Int) : Bool × List Row × List Row := (true, [[.bool (inR x lo hi)]], [])
def c35 : Contract
  | [[.int .i64 x], [.int .i64 lo], [.int .i64 hi]] => some ((o35 x lo hi).1, (o35 x lo hi).2.1, (o35 x lo hi).2.2)
  | _ => none

theorem r35 (x : Int) (lo : Int) (hi : Int) (n : Nat) : evFn ⟨prog, Hx, 35⟩ T38.call n f35 [[.int .i64 x], [.int .i64 lo], [.int .i64 hi]] = bif decide (x ≥ lo) then some ([[D.bool (decide (x ≤ hi))]], []) else some ([[D.bool false]], []) := by kernel_rfl
theorem m35 (x : Int) (lo : Int) (hi : Int) (hpre : (o35 x lo hi).1 = true) : evFn ⟨Go.Proofs.Try.prog, Hx, 35⟩ T38.call 0 f35 [[.int .i64 x], [.int .i64 lo], [.int .i64 hi]] = some (o35 x lo hi).2 := by
  refine (r35 x lo hi _).trans ?_
  show _ = (some ([[.bool (inR x lo hi)]], []) : Option (List Row × List Row))
  replace hpre : (true) = true := hpre
  unfold inR
  cases decide (x ≥ lo) <;> rfl
theorem s35 : SoundAt Go.Proofs.Try.prog Hx 35 c35 := soundAt_of T38_sound mixed func35 (by kernel_rfl) (by
  intro rows r h
  unfold c35 at h
  split at h
  · rename_i x lo hi
    obtain ⟨hp, hr⟩ := Prod.mk.inj (Option.some.inj h)
    subst hr
    exact ⟨_, m35 x lo hi hp⟩
  · cases h)
def T35 : Table := (35, c35) :: T38
theorem T35_sound : Table.Sound Go.Proofs.Try.prog Hx T35 := Table.sound_cons s35 T38_sound
end Go.Ev
end
