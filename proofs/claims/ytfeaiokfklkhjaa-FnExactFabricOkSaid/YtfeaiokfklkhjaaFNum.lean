/- Contracts of functions, each by its evaluation. -/
import Derived.Test.YtfeaiokfklkhjaaEvMd
import Derived.Test.YtfeaiokfklkhjaaProg
import Derived.KernelRfl
set_option linter.unusedVariables false
set_option linter.unusedSimpArgs false
set_option maxRecDepth 100000
noncomputable section
open List (getD length drop take set append replicate all isEmpty)
open Int (toNat ofNat)
open Go.IntKind (i64 wrap)
open Go.Proofs.Try (prog f57 f62 func57 func62)
namespace Go.Ev
open Go.RowKit Go.Md
abbrev V_ (l : List C) : TV := .v false l
abbrev U : TV := U_
def Hx : Hints := { mode := fun f => bif f == 91 then [.give] else bif f == 136 then [.give] else bif f == 67 then [.give] else bif f == 89 then [.give] else bif f == 90 then [.give] else bif f == 68 then [.give] else bif f == 30 then [.give] else bif f == 29 then [.give] else bif f == 51 then [.give] else bif f == 50 then [.give] else bif f == 16 then [.give] else bif f == 52 then [.give] else bif f == 17 then [.give] else bif f == 28 then [.give] else bif f == 151 then [.give, .lend] else bif f == 153 then [.give] else bif f == 165 then [.ro, .lend] else bif f == 123 then [.ro] else bif f == 106 then [.inout false] else bif f == 149 then [.inout false] else bif f == 107 then [.inout false] else bif f == 97 then [.inout false] else bif f == 99 then [.inout false] else bif f == 182 then [.ro] else bif f == 159 then [.ro, .lend] else bif f == 160 then [.ro] else bif f == 158 then [.inout true] else bif f == 157 then [.inout true] else bif f == 112 then [.inout true, .lend] else bif f == 102 then [.give, .lend] else [], resRo := fun f => false, muts := fun f => bif f == 91 then [true] else bif f == 136 then [true] else bif f == 67 then [true] else bif f == 89 then [true] else bif f == 90 then [true] else bif f == 68 then [true] else bif f == 30 then [true] else bif f == 29 then [true] else bif f == 51 then [true] else bif f == 50 then [true] else bif f == 16 then [true] else bif f == 52 then [true] else bif f == 17 then [true] else bif f == 28 then [true] else [] }
def T0 : Table := []
theorem T0_sound : Table.Sound Go.Proofs.Try.prog Hx T0 := Table.sound_nil
theorem mixed : Go.Proofs.Try.prog.follows .mixedOrders = true := by kernel_rfl
end Go.Ev
namespace Go.Md
open Go Go.Ev
def inR (a b c : Int) : Bool := decide (a ≥ b) && decide (a ≤ c)
end Go.Md
namespace Go.Ev
open Go.Md
def o62 (n_ : Int) (least : Int) (most : Int) : Bool × List Row × List Row := (true, [[.bool (inR n_ least most)]], [])
def c62 : Contract
  | [[.int .i64 n_], [.int .i64 least], [.int .i64 most]] => some ((o62 n_ least most).1, (o62 n_ least most).2.1, (o62 n_ least most).2.2)
  | _ => none
theorem r62 (n_ : Int) (least : Int) (most : Int) (n : Nat) : evFn ⟨prog, Hx, 62⟩ T0.call n f62 [[.int .i64 n_], [.int .i64 least], [.int .i64 most]] = bif decide (n_ ≥ least) then some ([[D.bool (decide (n_ ≤ most))]], []) else some ([[D.bool false]], []) := by kernel_rfl
theorem m62 (n_ : Int) (least : Int) (most : Int) (hpre : (o62 n_ least most).1 = true) : evFn ⟨Go.Proofs.Try.prog, Hx, 62⟩ T0.call 0 f62 [[.int .i64 n_], [.int .i64 least], [.int .i64 most]] = some (o62 n_ least most).2 := by
  refine (r62 n_ least most _).trans ?_
  show _ = (some ([[.bool (inR n_ least most)]], []) : Option (List Row × List Row))
  replace hpre : (true) = true := hpre
  unfold inR
  cases decide (n_ ≥ least) <;> rfl
theorem s62 : SoundAt Go.Proofs.Try.prog Hx 62 c62 := soundAt_of T0_sound mixed func62 (by kernel_rfl) (by
  intro rows r h
  unfold c62 at h
  split at h
  · rename_i n_ least most
    obtain ⟨hp, hr⟩ := Prod.mk.inj (Option.some.inj h)
    subst hr
    exact ⟨_, m62 n_ least most hp⟩
  · cases h)
def T62 : Table := (62, c62) :: T0
theorem T62_sound : Table.Sound Go.Proofs.Try.prog Hx T62 := Table.sound_cons s62 T0_sound
def o57 (x : Int) (lo : Int) (hi : Int) : Bool × List Row × List Row := (true, [[.bool (inR x lo hi)]], [])
def c57 : Contract
  | [[.int .i64 x], [.int .i64 lo], [.int .i64 hi]] => some ((o57 x lo hi).1, (o57 x lo hi).2.1, (o57 x lo hi).2.2)
  | _ => none
theorem r57 (x : Int) (lo : Int) (hi : Int) (n : Nat) : evFn ⟨prog, Hx, 57⟩ T62.call n f57 [[.int .i64 x], [.int .i64 lo], [.int .i64 hi]] = bif decide (x ≥ lo) then some ([[D.bool (decide (x ≤ hi))]], []) else some ([[D.bool false]], []) := by kernel_rfl
theorem m57 (x : Int) (lo : Int) (hi : Int) (hpre : (o57 x lo hi).1 = true) : evFn ⟨Go.Proofs.Try.prog, Hx, 57⟩ T62.call 0 f57 [[.int .i64 x], [.int .i64 lo], [.int .i64 hi]] = some (o57 x lo hi).2 := by
  refine (r57 x lo hi _).trans ?_
  show _ = (some ([[.bool (inR x lo hi)]], []) : Option (List Row × List Row))
  replace hpre : (true) = true := hpre
  unfold inR
  cases decide (x ≥ lo) <;> rfl
theorem s57 : SoundAt Go.Proofs.Try.prog Hx 57 c57 := soundAt_of T62_sound mixed func57 (by kernel_rfl) (by
  intro rows r h
  unfold c57 at h
  split at h
  · rename_i x lo hi
    obtain ⟨hp, hr⟩ := Prod.mk.inj (Option.some.inj h)
    subst hr
    exact ⟨_, m57 x lo hi hp⟩
  · cases h)
def T57 : Table := (57, c57) :: T62
theorem T57_sound : Table.Sound Go.Proofs.Try.prog Hx T57 := Table.sound_cons s57 T62_sound
end Go.Ev
end
