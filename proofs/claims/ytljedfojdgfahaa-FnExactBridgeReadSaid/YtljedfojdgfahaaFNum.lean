/- Contracts of functions, each by its evaluation. -/
import Derived.Test.YtljedfojdgfahaaEvMd
import Derived.Test.YtljedfojdgfahaaProg
import Derived.KernelRfl
set_option linter.unusedVariables false
set_option linter.unusedSimpArgs false
set_option maxRecDepth 100000
noncomputable section
open List (getD length drop take set append replicate all isEmpty)
open Int (toNat ofNat)
open Go.IntKind (i64 wrap)
open Go.Proofs.Try (prog)
namespace Go.Ev
open Go.RowKit Go.Md
def Hx : Hints := { mode := fun f => bif f == 24 then [.give] else bif f == 17 then [.give] else bif f == 51 then [.give] else bif f == 18 then [.give] else bif f == 57 then [.give] else bif f == 56 then [.give] else bif f == 23 then [.give] else bif f == 29 then [.give] else bif f == 79 then [.give, .lend] else bif f == 81 then [.give] else bif f == 87 then [.ro, .lend] else bif f == 67 then [.ro] else bif f == 68 then [.ro, .lend] else bif f == 38 then [.ro, .lend] else bif f == 69 then [.ro, .lend] else bif f == 55 then [.ro, .lend] else bif f == 45 then [.inout false] else bif f == 77 then [.inout false] else bif f == 46 then [.inout false] else bif f == 41 then [.inout false] else bif f == 43 then [.inout false] else [], resRo := fun f => false, muts := fun f => bif f == 24 then [true] else bif f == 17 then [true] else bif f == 51 then [true] else bif f == 18 then [true] else bif f == 57 then [true] else bif f == 56 then [true] else bif f == 23 then [true] else bif f == 29 then [true] else [] }
def T0 : Table := []
theorem T0_sound : Table.Sound Go.Proofs.Try.prog Hx T0 := Table.sound_nil
theorem mixed : Go.Proofs.Try.prog.follows .mixedOrders = true := by kernel_rfl
end Go.Ev
namespace Go.Md
open Go Go.Ev
def inR (a b c : Int) : Bool := decide (a ≥ b) && decide (a ≤ c)
end Go.Md
namespace Go.Ev
open Go.Md
/- inRange -/
def o54 (n_ : Int) (least : Int) (most : Int) : Bool × List Row × List Row := (true, [[.bool (inR n_ least most)]], [])
def c54 : Contract
  | [[.int .i64 n_], [.int .i64 least], [.int .i64 most]] => some ((o54 n_ least most).1, (o54 n_ least most).2.1, (o54 n_ least most).2.2)
  | _ => none

theorem r54 (n_ : Int) (least : Int) (most : Int) (n : Nat) : evFn ⟨prog, Hx, 54⟩ T0.call n Go.Proofs.Try.f54 [[.int .i64 n_], [.int .i64 least], [.int .i64 most]] = bif decide (n_ ≥ least) then some ([[D.bool (decide (n_ ≤ most))]], []) else some ([[D.bool false]], []) := by kernel_rfl
theorem m54 (n_ : Int) (least : Int) (most : Int) (hpre : (o54 n_ least most).1 = true) : evFn ⟨Go.Proofs.Try.prog, Hx, 54⟩ T0.call 0 Go.Proofs.Try.f54 [[.int .i64 n_], [.int .i64 least], [.int .i64 most]] = some (o54 n_ least most).2 := by
  refine (r54 n_ least most _).trans ?_
  show _ = (some ([[.bool (inR n_ least most)]], []) : Option (List Row × List Row))
  replace hpre : (true) = true := hpre
  unfold inR
  cases decide (n_ ≥ least) <;> rfl
theorem s54 : SoundAt Go.Proofs.Try.prog Hx 54 c54 := soundAt_of T0_sound mixed Go.Proofs.Try.func54 (by kernel_rfl) (by
  intro rows r h
  unfold c54 at h
  split at h
  · rename_i n_ least most
    obtain ⟨hp, hr⟩ := Prod.mk.inj (Option.some.inj h)
    subst hr
    exact ⟨_, m54 n_ least most hp⟩
  · cases h)
def T54 : Table := (54, c54) :: T0
theorem T54_sound : Table.Sound Go.Proofs.Try.prog Hx T54 := Table.sound_cons s54 T0_sound
/- l1In -/
def o53 (x : Int) (lo : Int) (hi : Int) : Bool × List Row × List Row := (true, [[.bool (inR x lo hi)]], [])
def c53 : Contract
  | [[.int .i64 x], [.int .i64 lo], [.int .i64 hi]] => some ((o53 x lo hi).1, (o53 x lo hi).2.1, (o53 x lo hi).2.2)
  | _ => none

theorem r53 (x : Int) (lo : Int) (hi : Int) (n : Nat) : evFn ⟨prog, Hx, 53⟩ T54.call n Go.Proofs.Try.f53 [[.int .i64 x], [.int .i64 lo], [.int .i64 hi]] = bif decide (x ≥ lo) then some ([[D.bool (decide (x ≤ hi))]], []) else some ([[D.bool false]], []) := by kernel_rfl
theorem m53 (x : Int) (lo : Int) (hi : Int) (hpre : (o53 x lo hi).1 = true) : evFn ⟨Go.Proofs.Try.prog, Hx, 53⟩ T54.call 0 Go.Proofs.Try.f53 [[.int .i64 x], [.int .i64 lo], [.int .i64 hi]] = some (o53 x lo hi).2 := by
  refine (r53 x lo hi _).trans ?_
  show _ = (some ([[.bool (inR x lo hi)]], []) : Option (List Row × List Row))
  replace hpre : (true) = true := hpre
  unfold inR
  cases decide (x ≥ lo) <;> rfl
theorem s53 : SoundAt Go.Proofs.Try.prog Hx 53 c53 := soundAt_of T54_sound mixed Go.Proofs.Try.func53 (by kernel_rfl) (by
  intro rows r h
  unfold c53 at h
  split at h
  · rename_i x lo hi
    obtain ⟨hp, hr⟩ := Prod.mk.inj (Option.some.inj h)
    subst hr
    exact ⟨_, m53 x lo hi hp⟩
  · cases h)
def T53 : Table := (53, c53) :: T54
theorem T53_sound : Table.Sound Go.Proofs.Try.prog Hx T53 := Table.sound_cons s53 T54_sound
end Go.Ev
end
