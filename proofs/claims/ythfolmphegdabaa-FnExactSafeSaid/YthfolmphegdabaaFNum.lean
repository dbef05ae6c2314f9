/- Contracts of functions, each by its evaluation. -/
import Derived.Test.YthfolmphegdabaaEvMd
import Derived.Test.YthfolmphegdabaaProg
import Derived.KernelRfl
set_option linter.unusedVariables false
set_option linter.unusedSimpArgs false
set_option maxRecDepth 100000
noncomputable section
namespace Go.Ev
open Go.RowKit Go.Md
def Hx : Hints := { mode := fun f => bif f == 22 then [.give] else bif f == 84 then [.give] else bif f == 118 then [.give] else bif f == 32 then [.give] else bif f == 72 then [.give] else bif f == 71 then [.give] else bif f == 21 then [.give] else bif f == 33 then [.give] else bif f == 126 then [.give, .lend] else bif f == 128 then [.give] else bif f == 48 then [.ro] else bif f == 119 then [.ro] else bif f == 141 then [.ro, .lend] else bif f == 114 then [.ro] else bif f == 143 then [.ro, .lend] else bif f == 115 then [.ro, .lend] else bif f == 144 then [.ro, .lend] else bif f == 65 then [.ro, .lend] else [], resRo := fun f => false, muts := fun f => bif f == 22 then [true] else bif f == 84 then [true] else bif f == 118 then [true] else bif f == 32 then [true] else bif f == 72 then [true] else bif f == 71 then [true] else [] }
def T0 : Table := []
theorem T0_sound : Table.Sound Go.Proofs.Try.prog Hx T0 := Table.sound_nil
theorem mixed : Go.Proofs.Try.prog.follows .mixedOrders = true := by kernel_rfl
end Go.Ev
namespace Go.Md
open Go Go.Ev
def inR (a b c : Int) : Bool := decide (a ≥ b) && decide (a ≤ c)
end Go.Md
namespace Go.Ev
open Go.Md
/- inRange -/
def o63 (n_ : Int) (least : Int) (most : Int) : Bool × List Row × List Row := (true, [[.bool (inR n_ least most)]], [])
def c63 : Contract
  | [[.int .i64 n_], [.int .i64 least], [.int .i64 most]] => some ((o63 n_ least most).1, (o63 n_ least most).2.1, (o63 n_ least most).2.2)
  | _ => none

theorem r63 (n_ : Int) (least : Int) (most : Int) (n : Nat) : evFn ⟨Go.Proofs.Try.prog, Hx, 63⟩ T0.call n Go.Proofs.Try.f63 [[.int .i64 n_], [.int .i64 least], [.int .i64 most]] = bif decide (n_ ≥ least) then some ([[D.bool (decide (n_ ≤ most))]], []) else some ([[D.bool false]], []) := by kernel_rfl
theorem m63 (n_ : Int) (least : Int) (most : Int) (hpre : (o63 n_ least most).1 = true) : evFn ⟨Go.Proofs.Try.prog, Hx, 63⟩ T0.call 0 Go.Proofs.Try.f63 [[.int .i64 n_], [.int .i64 least], [.int .i64 most]] = some (o63 n_ least most).2 := by
  refine (r63 n_ least most _).trans ?_
  show _ = (some ([[.bool (inR n_ least most)]], []) : Option (List Row × List Row))
  replace hpre : (true) = true := hpre
  unfold inR
  cases decide (n_ ≥ least) <;> rfl
theorem s63 : SoundAt Go.Proofs.Try.prog Hx 63 c63 := soundAt_of T0_sound mixed Go.Proofs.Try.func63 (by kernel_rfl) (by
  intro rows r h
  unfold c63 at h
  split at h
  · rename_i n_ least most
    obtain ⟨hp, hr⟩ := Prod.mk.inj (Option.some.inj h)
    subst hr
    exact ⟨_, m63 n_ least most hp⟩
  · cases h)
def T63 : Table := (63, c63) :: T0
theorem T63_sound : Table.Sound Go.Proofs.Try.prog Hx T63 := Table.sound_cons s63 T0_sound
/- l1In -/
def o58 (x : Int) (lo : Int) (hi : Int) : Bool × List Row × List Row := (true, [[.bool (inR x lo hi)]], [])
def c58 : Contract
  | [[.int .i64 x], [.int .i64 lo], [.int .i64 hi]] => some ((o58 x lo hi).1, (o58 x lo hi).2.1, (o58 x lo hi).2.2)
  | _ => none

theorem r58 (x : Int) (lo : Int) (hi : Int) (n : Nat) : evFn ⟨Go.Proofs.Try.prog, Hx, 58⟩ T63.call n Go.Proofs.Try.f58 [[.int .i64 x], [.int .i64 lo], [.int .i64 hi]] = bif decide (x ≥ lo) then some ([[D.bool (decide (x ≤ hi))]], []) else some ([[D.bool false]], []) := by kernel_rfl
theorem m58 (x : Int) (lo : Int) (hi : Int) (hpre : (o58 x lo hi).1 = true) : evFn ⟨Go.Proofs.Try.prog, Hx, 58⟩ T63.call 0 Go.Proofs.Try.f58 [[.int .i64 x], [.int .i64 lo], [.int .i64 hi]] = some (o58 x lo hi).2 := by
  refine (r58 x lo hi _).trans ?_
  show _ = (some ([[.bool (inR x lo hi)]], []) : Option (List Row × List Row))
  replace hpre : (true) = true := hpre
  unfold inR
  cases decide (x ≥ lo) <;> rfl
theorem s58 : SoundAt Go.Proofs.Try.prog Hx 58 c58 := soundAt_of T63_sound mixed Go.Proofs.Try.func58 (by kernel_rfl) (by
  intro rows r h
  unfold c58 at h
  split at h
  · rename_i x lo hi
    obtain ⟨hp, hr⟩ := Prod.mk.inj (Option.some.inj h)
    subst hr
    exact ⟨_, m58 x lo hi hp⟩
  · cases h)
def T58 : Table := (58, c58) :: T63
theorem T58_sound : Table.Sound Go.Proofs.Try.prog Hx T58 := Table.sound_cons s58 T63_sound
end Go.Ev
end
