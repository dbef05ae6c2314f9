/- Contracts of functions, each by its evaluation. -/
import Derived.Test.YtgmmhnloobedjaaEvMd
import Derived.Test.YtgmmhnloobedjaaProg
import Derived.KernelRfl
noncomputable section
namespace Go.Ev
open Go.RowKit Go.Md
set_option linter.unusedVariables false
set_option linter.unusedSimpArgs false
set_option maxRecDepth 100000
def Hx : Hints := { mode := fun f => bif f == 56 then [.give] else bif f == 29 then [.give] else bif f == 28 then [.give] else bif f == 34 then [.give] else [], resRo := fun f => false, muts := fun f => bif f == 56 then [true] else bif f == 29 then [true] else bif f == 34 then [true] else [] }
def T0 : Table := []
theorem T0_sound : Table.Sound Go.Proofs.Try.prog Hx T0 := Table.sound_nil
theorem mixed : Go.Proofs.Try.prog.follows .mixedOrders = true := by kernel_rfl
end Go.Ev
namespace Go.Md
open Go Go.Ev
def inR (a b c : Int) : Bool := decide (a ≥ b) && decide (a ≤ c)
end Go.Md
namespace Go.Ev
open Go.Md
/- inRange -/
def o53 (n_ : Int) (least : Int) (most : Int) : Bool × List Row × List Row := (true, [[.bool (inR n_ least most)]], [])
def c53 : Contract
  | [[.int .i64 n_], [.int .i64 least], [.int .i64 most]] => some ((o53 n_ least most).1, (o53 n_ least most).2.1, (o53 n_ least most).2.2)
  | _ => none

theorem r53 (n_ : Int) (least : Int) (most : Int) (n : Nat) : evFn ⟨Go.Proofs.Try.prog, Hx, 53⟩ T0.call n Go.Proofs.Try.f53 [[.int .i64 n_], [.int .i64 least], [.int .i64 most]] = bif decide (n_ ≥ least) then some ([[D.bool (decide (n_ ≤ most))]], []) else some ([[D.bool false]], []) := by kernel_rfl
theorem m53 (n_ : Int) (least : Int) (most : Int) (hpre : (o53 n_ least most).1 = true) : evFn ⟨Go.Proofs.Try.prog, Hx, 53⟩ T0.call 0 Go.Proofs.Try.f53 [[.int .i64 n_], [.int .i64 least], [.int .i64 most]] = some (o53 n_ least most).2 := by
  refine (r53 n_ least most _).trans ?_
  show _ = (some ([[.bool (inR n_ least most)]], []) : Option (List Row × List Row))
  replace hpre : (true) = true := hpre
  unfold inR
  cases decide (n_ ≥ least) <;> rfl
theorem s53 : SoundAt Go.Proofs.Try.prog Hx 53 c53 := soundAt_of T0_sound mixed Go.Proofs.Try.func53 (by kernel_rfl) (by
  intro rows r h
  unfold c53 at h
  split at h
  · rename_i n_ least most
    obtain ⟨hp, hr⟩ := Prod.mk.inj (Option.some.inj h)
    subst hr
    exact ⟨_, m53 n_ least most hp⟩
  · cases h)
def T53 : Table := (53, c53) :: T0
theorem T53_sound : Table.Sound Go.Proofs.Try.prog Hx T53 := Table.sound_cons s53 T0_sound
/- l1In -/
def o50 (x : Int) (lo : Int) (hi : Int) : Bool × List Row × List Row := (true, [[.bool (inR x lo hi)]], [])
def c50 : Contract
  | [[.int .i64 x], [.int .i64 lo], [.int .i64 hi]] => some ((o50 x lo hi).1, (o50 x lo hi).2.1, (o50 x lo hi).2.2)
  | _ => none

theorem r50 (x : Int) (lo : Int) (hi : Int) (n : Nat) : evFn ⟨Go.Proofs.Try.prog, Hx, 50⟩ T53.call n Go.Proofs.Try.f50 [[.int .i64 x], [.int .i64 lo], [.int .i64 hi]] = bif decide (x ≥ lo) then some ([[D.bool (decide (x ≤ hi))]], []) else some ([[D.bool false]], []) := by kernel_rfl
theorem m50 (x : Int) (lo : Int) (hi : Int) (hpre : (o50 x lo hi).1 = true) : evFn ⟨Go.Proofs.Try.prog, Hx, 50⟩ T53.call 0 Go.Proofs.Try.f50 [[.int .i64 x], [.int .i64 lo], [.int .i64 hi]] = some (o50 x lo hi).2 := by
  refine (r50 x lo hi _).trans ?_
  show _ = (some ([[.bool (inR x lo hi)]], []) : Option (List Row × List Row))
  replace hpre : (true) = true := hpre
  unfold inR
  cases decide (x ≥ lo) <;> rfl
theorem s50 : SoundAt Go.Proofs.Try.prog Hx 50 c50 := soundAt_of T53_sound mixed Go.Proofs.Try.func50 (by kernel_rfl) (by
  intro rows r h
  unfold c50 at h
  split at h
  · rename_i x lo hi
    obtain ⟨hp, hr⟩ := Prod.mk.inj (Option.some.inj h)
    subst hr
    exact ⟨_, m50 x lo hi hp⟩
  · cases h)
def T50 : Table := (50, c50) :: T53
theorem T50_sound : Table.Sound Go.Proofs.Try.prog Hx T50 := Table.sound_cons s50 T53_sound
end Go.Ev
end
