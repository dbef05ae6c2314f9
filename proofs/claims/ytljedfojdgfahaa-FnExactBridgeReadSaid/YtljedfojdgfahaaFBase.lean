/- Contracts of functions, each by its evaluation. -/
import Derived.Test.YtljedfojdgfahaaEvMd
import Derived.Test.YtljedfojdgfahaaProg
import Derived.KernelRfl
import Derived.Test.YtljedfojdgfahaaFNum
set_option linter.unusedVariables false
set_option linter.unusedSimpArgs false
set_option maxRecDepth 100000
noncomputable section
open List (getD length drop take set append replicate all isEmpty)
open Int (toNat ofNat)
open Go.IntKind (i64 wrap)
open Go.Proofs.Try (prog)
namespace Go.Ev
open Go.RowKit Go.Md
end Go.Ev
namespace Go.Md
open Go Go.Ev
def isPortB (n : Int) : Bool := inR n 0 3
def isHopsB (n : Int) : Bool := inR n 0 8
def vecOk (v : Vec) : Bool := inR v.Root 1 9 && (inR v.Bridge 1 9 && (decide (v.Root ≤ v.Bridge) && (inR v.Cost 0 20 && (((v.Cost == 0) == (v.Root == v.Bridge)) && isPortB v.Port))))
def bitI (on : Bool) (f : Int) : Int := bif on then f else 0
def roleB (r : Int) : Int := bif r == 2 then 3 else bif r == 1 then 2 else bif r == 3 then 1 else 0
def flagsOf (b : Bpdu) : Int := bitI b.Change 1 + bitI b.Ask 2 + 4 * roleB b.Role + bitI b.Learn 16 + bitI b.Open 32 + bitI b.Agree 64
theorem bitI_b (on : Bool) {f : Int} (h : 0 ≤ f) : 0 ≤ bitI on f ∧ bitI on f ≤ f := by cases on <;> simp [bitI, h]
theorem bitI_mul (on : Bool) (k : Int) : k * bitI on 1 = bitI on k := by cases on <;> simp [bitI]
theorem roleB_b (r : Int) : 0 ≤ roleB r ∧ roleB r ≤ 3 := by unfold roleB; simp only [Bool.cond_eq_ite]; grind
def bpduOk (b : Bpdu) : Bool := inR b.Role 0 3 && (vecOk b.Vec && isHopsB b.Hops)
end Go.Md
namespace Go.Ev
open Go.Md
/- isPort -/
def o100 (n_ : Int) : Bool × List Row × List Row := (true, [[.bool (isPortB n_)]], [])
def c100 : Contract
  | [[.int .i64 n_]] => some ((o100 n_).1, (o100 n_).2.1, (o100 n_).2.2)
  | _ => none

theorem r100 (n_ : Int) (n : Nat) : evFn ⟨prog, Hx, 100⟩ T53.call n Go.Proofs.Try.f100 [[.int .i64 n_]] = some ([[D.bool (inR n_ (0) (3))]], []) := by kernel_rfl
theorem m100 (n_ : Int) (hpre : (o100 n_).1 = true) : evFn ⟨Go.Proofs.Try.prog, Hx, 100⟩ T53.call 0 Go.Proofs.Try.f100 [[.int .i64 n_]] = some (o100 n_).2 := by
  refine (r100 n_ _).trans ?_
  show _ = (some ([[.bool (isPortB n_)]], []) : Option (List Row × List Row))
  replace hpre : (true) = true := hpre
  rfl
theorem s100 : SoundAt Go.Proofs.Try.prog Hx 100 c100 := soundAt_of T53_sound mixed Go.Proofs.Try.func100 (by kernel_rfl) (by
  intro rows r h
  unfold c100 at h
  split at h
  · rename_i n_
    obtain ⟨hp, hr⟩ := Prod.mk.inj (Option.some.inj h)
    subst hr
    exact ⟨_, m100 n_ hp⟩
  · cases h)
def T100 : Table := (100, c100) :: T53
theorem T100_sound : Table.Sound Go.Proofs.Try.prog Hx T100 := Table.sound_cons s100 T53_sound
/- isHops -/
def o91 (n_ : Int) : Bool × List Row × List Row := (true, [[.bool (isHopsB n_)]], [])
def c91 : Contract
  | [[.int .i64 n_]] => some ((o91 n_).1, (o91 n_).2.1, (o91 n_).2.2)
  | _ => none

theorem r91 (n_ : Int) (n : Nat) : evFn ⟨prog, Hx, 91⟩ T100.call n Go.Proofs.Try.f91 [[.int .i64 n_]] = some ([[D.bool (inR n_ (0) (8))]], []) := by kernel_rfl
theorem m91 (n_ : Int) (hpre : (o91 n_).1 = true) : evFn ⟨Go.Proofs.Try.prog, Hx, 91⟩ T100.call 0 Go.Proofs.Try.f91 [[.int .i64 n_]] = some (o91 n_).2 := by
  refine (r91 n_ _).trans ?_
  show _ = (some ([[.bool (isHopsB n_)]], []) : Option (List Row × List Row))
  replace hpre : (true) = true := hpre
  rfl
theorem s91 : SoundAt Go.Proofs.Try.prog Hx 91 c91 := soundAt_of T100_sound mixed Go.Proofs.Try.func91 (by kernel_rfl) (by
  intro rows r h
  unfold c91 at h
  split at h
  · rename_i n_
    obtain ⟨hp, hr⟩ := Prod.mk.inj (Option.some.inj h)
    subst hr
    exact ⟨_, m91 n_ hp⟩
  · cases h)
def T91 : Table := (91, c91) :: T100
theorem T91_sound : Table.Sound Go.Proofs.Try.prog Hx T91 := Table.sound_cons s91 T100_sound
/- VecOk -/
def o90 (v : Vec) : Bool × List Row × List Row := (true, [[.bool (vecOk v)]], [])
def c90 : Contract
  | [[.int .i64 v_Root, .int .i64 v_Cost, .int .i64 v_Bridge, .int .i64 v_Port]] => some ((o90 ⟨v_Root, v_Cost, v_Bridge, v_Port⟩).1, (o90 ⟨v_Root, v_Cost, v_Bridge, v_Port⟩).2.1, (o90 ⟨v_Root, v_Cost, v_Bridge, v_Port⟩).2.2)
  | _ => none

theorem r90 (v : Vec) (n : Nat) : evFn ⟨prog, Hx, 90⟩ T91.call n Go.Proofs.Try.f90 [[.int .i64 v.Root, .int .i64 v.Cost, .int .i64 v.Bridge, .int .i64 v.Port]] = bif !inR (Vec.Root v) (1) (9) then some ([[D.bool false]], []) else bif !inR (Vec.Bridge v) (1) (9) then some ([[D.bool false]], []) else bif decide (Vec.Root v > Vec.Bridge v) then some ([[D.bool false]], []) else bif !isPortB (Vec.Port v) then some ([[D.bool false]], []) else bif inR (Vec.Cost v) (0) (20) then some ([[D.bool (decide ((Vec.Cost v == 0) = (Vec.Root v == Vec.Bridge v)))]], []) else some ([[D.bool false]], []) := by kernel_rfl
theorem m90 (v : Vec) (hpre : (o90 v).1 = true) : evFn ⟨Go.Proofs.Try.prog, Hx, 90⟩ T91.call 0 Go.Proofs.Try.f90 [[.int .i64 v.Root, .int .i64 v.Cost, .int .i64 v.Bridge, .int .i64 v.Port]] = some (o90 v).2 := by
  refine (r90 v _).trans ?_
  show _ = (some ([[.bool (vecOk v)]], []) : Option (List Row × List Row))
  replace hpre : (true) = true := hpre
  unfold vecOk
  simp only [Bool.cond_eq_ite]
  grind
theorem s90 : SoundAt Go.Proofs.Try.prog Hx 90 c90 := soundAt_of T91_sound mixed Go.Proofs.Try.func90 (by kernel_rfl) (by
  intro rows r h
  unfold c90 at h
  split at h
  · rename_i v_Root v_Cost v_Bridge v_Port
    obtain ⟨hp, hr⟩ := Prod.mk.inj (Option.some.inj h)
    subst hr
    exact ⟨_, m90 ⟨v_Root, v_Cost, v_Bridge, v_Port⟩ hp⟩
  · cases h)
def T90 : Table := (90, c90) :: T91
theorem T90_sound : Table.Sound Go.Proofs.Try.prog Hx T90 := Table.sound_cons s90 T91_sound
/- VecOkS -/
def o97 (v : Vec) : Bool × List Row × List Row := (true, [[.bool (vecOk v)]], [])
def c97 : Contract
  | [[.int .i64 v_Root, .int .i64 v_Cost, .int .i64 v_Bridge, .int .i64 v_Port]] => some ((o97 ⟨v_Root, v_Cost, v_Bridge, v_Port⟩).1, (o97 ⟨v_Root, v_Cost, v_Bridge, v_Port⟩).2.1, (o97 ⟨v_Root, v_Cost, v_Bridge, v_Port⟩).2.2)
  | _ => none

theorem r97 (v : Vec) (n : Nat) : evFn ⟨prog, Hx, 97⟩ T90.call n Go.Proofs.Try.f97 [[.int .i64 v.Root, .int .i64 v.Cost, .int .i64 v.Bridge, .int .i64 v.Port]] = bif inR (Vec.Root v) (1) (9) then bif inR (Vec.Bridge v) (1) (9) then bif decide (Vec.Root v ≤ Vec.Bridge v) then bif inR (Vec.Cost v) (0) (20) then bif decide ((Vec.Cost v == 0) = (Vec.Root v == Vec.Bridge v)) then some ([[D.bool (inR (Vec.Port v) (0) (3))]], []) else some ([[D.bool false]], []) else some ([[D.bool false]], []) else some ([[D.bool false]], []) else some ([[D.bool false]], []) else some ([[D.bool false]], []) := by kernel_rfl
theorem m97 (v : Vec) (hpre : (o97 v).1 = true) : evFn ⟨Go.Proofs.Try.prog, Hx, 97⟩ T90.call 0 Go.Proofs.Try.f97 [[.int .i64 v.Root, .int .i64 v.Cost, .int .i64 v.Bridge, .int .i64 v.Port]] = some (o97 v).2 := by
  refine (r97 v _).trans ?_
  show _ = (some ([[.bool (vecOk v)]], []) : Option (List Row × List Row))
  replace hpre : (true) = true := hpre
  unfold vecOk isPortB
  simp only [Bool.cond_eq_ite]
  grind
theorem s97 : SoundAt Go.Proofs.Try.prog Hx 97 c97 := soundAt_of T90_sound mixed Go.Proofs.Try.func97 (by kernel_rfl) (by
  intro rows r h
  unfold c97 at h
  split at h
  · rename_i v_Root v_Cost v_Bridge v_Port
    obtain ⟨hp, hr⟩ := Prod.mk.inj (Option.some.inj h)
    subst hr
    exact ⟨_, m97 ⟨v_Root, v_Cost, v_Bridge, v_Port⟩ hp⟩
  · cases h)
def T97 : Table := (97, c97) :: T90
theorem T97_sound : Table.Sound Go.Proofs.Try.prog Hx T97 := Table.sound_cons s97 T90_sound
/- bit -/
def o94 (on : Bool) (flag : Int) : Bool × List Row × List Row := (true, [[.int .i64 (bitI on flag)]], [])
def c94 : Contract
  | [[.bool on], [.int .i64 flag]] => some ((o94 on flag).1, (o94 on flag).2.1, (o94 on flag).2.2)
  | _ => none

theorem r94 (on : Bool) (flag : Int) (n : Nat) : evFn ⟨prog, Hx, 94⟩ T97.call n Go.Proofs.Try.f94 [[.bool on], [.int .i64 flag]] = bif on then some ([[D.int i64 flag]], []) else some ([[D.int i64 (0)]], []) := by kernel_rfl
theorem m94 (on : Bool) (flag : Int) (hpre : (o94 on flag).1 = true) : evFn ⟨Go.Proofs.Try.prog, Hx, 94⟩ T97.call 0 Go.Proofs.Try.f94 [[.bool on], [.int .i64 flag]] = some (o94 on flag).2 := by
  refine (r94 on flag _).trans ?_
  show _ = (some ([[.int .i64 (bitI on flag)]], []) : Option (List Row × List Row))
  replace hpre : (true) = true := hpre
  cases on <;> rfl
theorem s94 : SoundAt Go.Proofs.Try.prog Hx 94 c94 := soundAt_of T97_sound mixed Go.Proofs.Try.func94 (by kernel_rfl) (by
  intro rows r h
  unfold c94 at h
  split at h
  · rename_i on flag
    obtain ⟨hp, hr⟩ := Prod.mk.inj (Option.some.inj h)
    subst hr
    exact ⟨_, m94 on flag hp⟩
  · cases h)
def T94 : Table := (94, c94) :: T97
theorem T94_sound : Table.Sound Go.Proofs.Try.prog Hx T94 := Table.sound_cons s94 T97_sound
/- l1Bit -/
def o63 (on : Bool) : Bool × List Row × List Row := (true, [[.int .i64 (bitI on 1)]], [])
def c63 : Contract
  | [[.bool on]] => some ((o63 on).1, (o63 on).2.1, (o63 on).2.2)
  | _ => none

theorem r63 (on : Bool) (n : Nat) : evFn ⟨prog, Hx, 63⟩ T94.call n Go.Proofs.Try.f63 [[.bool on]] = bif on then some ([[D.int i64 (1)]], []) else some ([[D.int i64 (0)]], []) := by kernel_rfl
theorem m63 (on : Bool) (hpre : (o63 on).1 = true) : evFn ⟨Go.Proofs.Try.prog, Hx, 63⟩ T94.call 0 Go.Proofs.Try.f63 [[.bool on]] = some (o63 on).2 := by
  refine (r63 on _).trans ?_
  show _ = (some ([[.int .i64 (bitI on 1)]], []) : Option (List Row × List Row))
  replace hpre : (true) = true := hpre
  cases on <;> rfl
theorem s63 : SoundAt Go.Proofs.Try.prog Hx 63 c63 := soundAt_of T94_sound mixed Go.Proofs.Try.func63 (by kernel_rfl) (by
  intro rows r h
  unfold c63 at h
  split at h
  · rename_i on
    obtain ⟨hp, hr⟩ := Prod.mk.inj (Option.some.inj h)
    subst hr
    exact ⟨_, m63 on hp⟩
  · cases h)
def T63 : Table := (63, c63) :: T94
theorem T63_sound : Table.Sound Go.Proofs.Try.prog Hx T63 := Table.sound_cons s63 T94_sound
end Go.Ev
end
