/- Contracts of functions, each by its evaluation. -/
import Derived.Test.YtkkpblhaeliofaaEvMd
import Derived.Test.YtkkpblhaeliofaaProg
import Derived.KernelRfl
import Derived.Test.YtkkpblhaeliofaaFNum
set_option linter.unusedVariables false
set_option linter.unusedSimpArgs false
set_option maxRecDepth 100000
noncomputable section
open List (getD length drop take set append replicate all isEmpty)
open Int (toNat ofNat)
open Go.IntKind (i64 wrap)
open Go.Proofs.Try (prog f67 f69 f92 f93 f95 f97 func67 func69 func92 func93 func95 func97)
namespace Go.Ev
open Go.RowKit Go.Md
end Go.Ev
namespace Go.Md
open Go Go.Ev
def isPortB (n : Int) : Bool := inR n 0 3
def isHopsB (n : Int) : Bool := inR n 0 8
def vecOk (v : Vec) : Bool := inR v.Root 1 9 && (inR v.Bridge 1 9 && (decide (v.Root ≤ v.Bridge) && (inR v.Cost 0 20 && (((v.Cost == 0) == (v.Root == v.Bridge)) && isPortB v.Port))))
def bitI (on : Bool) (f : Int) : Int := bif on then f else 0
def roleB (r : Int) : Int := bif r == 2 then 3 else bif r == 1 then 2 else bif r == 3 then 1 else 0
def flagsOf (b : Bpdu) : Int := bitI b.Change 1 + bitI b.Ask 2 + 4 * roleB b.Role + bitI b.Learn 16 + bitI b.Open 32 + bitI b.Agree 64
theorem bitI_b (on : Bool) {f : Int} (h : 0 ≤ f) : 0 ≤ bitI on f ∧ bitI on f ≤ f := by cases on <;> simp [bitI, h]
theorem bitI_mul (on : Bool) (k : Int) : k * bitI on 1 = bitI on k := by cases on <;> simp [bitI]
theorem roleB_b (r : Int) : 0 ≤ roleB r ∧ roleB r ≤ 3 := by unfold roleB; simp only [Bool.cond_eq_ite]; grind
def bpduOk (b : Bpdu) : Bool := inR b.Role 0 3 && (vecOk b.Vec && isHopsB b.Hops)
end Go.Md
namespace Go.Ev
open Go.Md
def o97 (n_ : Int) : Bool × List Row × List Row := (true, [[.bool (isPortB n_)]], [])
def c97 : Contract
  | [[.int .i64 n_]] => some ((o97 n_).1, (o97 n_).2.1, (o97 n_).2.2)
  | _ => none

theorem r97 (n_ : Int) (n : Nat) : evFn ⟨prog, Hx, 97⟩ T35.call n f97 [[.int .i64 n_]] = some ([[D.bool (inR n_ (0) (3))]], []) := by kernel_rfl
theorem m97 (n_ : Int) (hpre : (o97 n_).1 = true) : evFn ⟨Go.Proofs.Try.prog, Hx, 97⟩ T35.call 0 f97 [[.int .i64 n_]] = some (o97 n_).2 := by
  refine (r97 n_ _).trans ?_
  show _ = (some ([[.bool (isPortB n_)]], []) : Option (List Row × List Row))
  replace hpre : (true) = true := hpre
  rfl
theorem s97 : SoundAt Go.Proofs.Try.prog Hx 97 c97 := soundAt_of T35_sound mixed func97 (by kernel_rfl) (by
  intro rows r h
  unfold c97 at h
  split at h
  · rename_i n_
    obtain ⟨hp, hr⟩ := Prod.mk.inj (Option.some.inj h)
    subst hr
    exact ⟨_, m97 n_ hp⟩
  · cases h)
def T97 : Table := (97, c97) :: T35
theorem T97_sound : Table.Sound Go.Proofs.Try.prog Hx T97 := Table.sound_cons s97 T35_sound
def o93 (n_ : Int) : Bool × List Row × List Row := (true, [[.bool (isHopsB n_)]], [])
def c93 : Contract
  | [[.int .i64 n_]] => some ((o93 n_).1, (o93 n_).2.1, (o93 n_).2.2)
  | _ => none

theorem r93 (n_ : Int) (n : Nat) : evFn ⟨prog, Hx, 93⟩ T97.call n f93 [[.int .i64 n_]] = some ([[D.bool (inR n_ (0) (8))]], []) := by kernel_rfl
theorem m93 (n_ : Int) (hpre : (o93 n_).1 = true) : evFn ⟨Go.Proofs.Try.prog, Hx, 93⟩ T97.call 0 f93 [[.int .i64 n_]] = some (o93 n_).2 := by
  refine (r93 n_ _).trans ?_
  show _ = (some ([[.bool (isHopsB n_)]], []) : Option (List Row × List Row))
  replace hpre : (true) = true := hpre
  rfl
theorem s93 : SoundAt Go.Proofs.Try.prog Hx 93 c93 := soundAt_of T97_sound mixed func93 (by kernel_rfl) (by
  intro rows r h
  unfold c93 at h
  split at h
  · rename_i n_
    obtain ⟨hp, hr⟩ := Prod.mk.inj (Option.some.inj h)
    subst hr
    exact ⟨_, m93 n_ hp⟩
  · cases h)
def T93 : Table := (93, c93) :: T97
theorem T93_sound : Table.Sound Go.Proofs.Try.prog Hx T93 := Table.sound_cons s93 T97_sound
def o92 (v : Vec) : Bool × List Row × List Row := (true, [[.bool (vecOk v)]], [])
def c92 : Contract
  | [[.int .i64 v_Root, .int .i64 v_Cost, .int .i64 v_Bridge, .int .i64 v_Port]] => some ((o92 ⟨v_Root, v_Cost, v_Bridge, v_Port⟩).1, (o92 ⟨v_Root, v_Cost, v_Bridge, v_Port⟩).2.1, (o92 ⟨v_Root, v_Cost, v_Bridge, v_Port⟩).2.2)
  | _ => none

theorem r92 (v : Vec) (n : Nat) : evFn ⟨prog, Hx, 92⟩ T93.call n f92 [[.int .i64 v.Root, .int .i64 v.Cost, .int .i64 v.Bridge, .int .i64 v.Port]] = bif !inR (Vec.Root v) (1) (9) then some ([[D.bool false]], []) else bif !inR (Vec.Bridge v) (1) (9) then some ([[D.bool false]], []) else bif decide (Vec.Root v > Vec.Bridge v) then some ([[D.bool false]], []) else bif !isPortB (Vec.Port v) then some ([[D.bool false]], []) else bif inR (Vec.Cost v) (0) (20) then some ([[D.bool (decide ((Vec.Cost v == 0) = (Vec.Root v == Vec.Bridge v)))]], []) else some ([[D.bool false]], []) := by kernel_rfl
theorem m92 (v : Vec) (hpre : (o92 v).1 = true) : evFn ⟨Go.Proofs.Try.prog, Hx, 92⟩ T93.call 0 f92 [[.int .i64 v.Root, .int .i64 v.Cost, .int .i64 v.Bridge, .int .i64 v.Port]] = some (o92 v).2 := by
  refine (r92 v _).trans ?_
  show _ = (some ([[.bool (vecOk v)]], []) : Option (List Row × List Row))
  replace hpre : (true) = true := hpre
  unfold vecOk
  simp only [Bool.cond_eq_ite]
  grind
theorem s92 : SoundAt Go.Proofs.Try.prog Hx 92 c92 := soundAt_of T93_sound mixed func92 (by kernel_rfl) (by
  intro rows r h
  unfold c92 at h
  split at h
  · rename_i v_Root v_Cost v_Bridge v_Port
    obtain ⟨hp, hr⟩ := Prod.mk.inj (Option.some.inj h)
    subst hr
    exact ⟨_, m92 ⟨v_Root, v_Cost, v_Bridge, v_Port⟩ hp⟩
  · cases h)
def T92 : Table := (92, c92) :: T93
theorem T92_sound : Table.Sound Go.Proofs.Try.prog Hx T92 := Table.sound_cons s92 T93_sound
def o95 (v : Vec) : Bool × List Row × List Row := (true, [[.bool (vecOk v)]], [])
def c95 : Contract
  | [[.int .i64 v_Root, .int .i64 v_Cost, .int .i64 v_Bridge, .int .i64 v_Port]] => some ((o95 ⟨v_Root, v_Cost, v_Bridge, v_Port⟩).1, (o95 ⟨v_Root, v_Cost, v_Bridge, v_Port⟩).2.1, (o95 ⟨v_Root, v_Cost, v_Bridge, v_Port⟩).2.2)
  | _ => none

theorem r95 (v : Vec) (n : Nat) : evFn ⟨prog, Hx, 95⟩ T92.call n f95 [[.int .i64 v.Root, .int .i64 v.Cost, .int .i64 v.Bridge, .int .i64 v.Port]] = bif inR (Vec.Root v) (1) (9) then bif inR (Vec.Bridge v) (1) (9) then bif decide (Vec.Root v ≤ Vec.Bridge v) then bif inR (Vec.Cost v) (0) (20) then bif decide ((Vec.Cost v == 0) = (Vec.Root v == Vec.Bridge v)) then some ([[D.bool (inR (Vec.Port v) (0) (3))]], []) else some ([[D.bool false]], []) else some ([[D.bool false]], []) else some ([[D.bool false]], []) else some ([[D.bool false]], []) else some ([[D.bool false]], []) := by kernel_rfl
theorem m95 (v : Vec) (hpre : (o95 v).1 = true) : evFn ⟨Go.Proofs.Try.prog, Hx, 95⟩ T92.call 0 f95 [[.int .i64 v.Root, .int .i64 v.Cost, .int .i64 v.Bridge, .int .i64 v.Port]] = some (o95 v).2 := by
  refine (r95 v _).trans ?_
  show _ = (some ([[.bool (vecOk v)]], []) : Option (List Row × List Row))
  replace hpre : (true) = true := hpre
  unfold vecOk isPortB
  simp only [Bool.cond_eq_ite]
  grind
theorem s95 : SoundAt Go.Proofs.Try.prog Hx 95 c95 := soundAt_of T92_sound mixed func95 (by kernel_rfl) (by
  intro rows r h
  unfold c95 at h
  split at h
  · rename_i v_Root v_Cost v_Bridge v_Port
    obtain ⟨hp, hr⟩ := Prod.mk.inj (Option.some.inj h)
    subst hr
    exact ⟨_, m95 ⟨v_Root, v_Cost, v_Bridge, v_Port⟩ hp⟩
  · cases h)
def T95 : Table := (95, c95) :: T92
theorem T95_sound : Table.Sound Go.Proofs.Try.prog Hx T95 := Table.sound_cons s95 T92_sound
def o67 (on : Bool) (flag : Int) : Bool × List Row × List Row := (true, [[.int .i64 (bitI on flag)]], [])
def c67 : Contract
  | [[.bool on], [.int .i64 flag]] => some ((o67 on flag).1, (o67 on flag).2.1, (o67 on flag).2.2)
  | _ => none

theorem r67 (on : Bool) (flag : Int) (n : Nat) : evFn ⟨prog, Hx, 67⟩ T95.call n f67 [[.bool on], [.int .i64 flag]] = bif on then some ([[D.int i64 flag]], []) else some ([[D.int i64 (0)]], []) := by kernel_rfl
theorem m67 (on : Bool) (flag : Int) (hpre : (o67 on flag).1 = true) : evFn ⟨Go.Proofs.Try.prog, Hx, 67⟩ T95.call 0 f67 [[.bool on], [.int .i64 flag]] = some (o67 on flag).2 := by
  refine (r67 on flag _).trans ?_
  show _ = (some ([[.int .i64 (bitI on flag)]], []) : Option (List Row × List Row))
  replace hpre : (true) = true := hpre
  cases on <;> rfl
theorem s67 : SoundAt Go.Proofs.Try.prog Hx 67 c67 := soundAt_of T95_sound mixed func67 (by kernel_rfl) (by
  intro rows r h
  unfold c67 at h
  split at h
  · rename_i on flag
    obtain ⟨hp, hr⟩ := Prod.mk.inj (Option.some.inj h)
    subst hr
    exact ⟨_, m67 on flag hp⟩
  · cases h)
def T67 : Table := (67, c67) :: T95
theorem T67_sound : Table.Sound Go.Proofs.Try.prog Hx T67 := Table.sound_cons s67 T95_sound
def o69 (on : Bool) : Bool × List Row × List Row := (true, [[.int .i64 (bitI on 1)]], [])
def c69 : Contract
  | [[.bool on]] => some ((o69 on).1, (o69 on).2.1, (o69 on).2.2)
  | _ => none

theorem r69 (on : Bool) (n : Nat) : evFn ⟨prog, Hx, 69⟩ T67.call n f69 [[.bool on]] = bif on then some ([[D.int i64 (1)]], []) else some ([[D.int i64 (0)]], []) := by kernel_rfl
theorem m69 (on : Bool) (hpre : (o69 on).1 = true) : evFn ⟨Go.Proofs.Try.prog, Hx, 69⟩ T67.call 0 f69 [[.bool on]] = some (o69 on).2 := by
  refine (r69 on _).trans ?_
  show _ = (some ([[.int .i64 (bitI on 1)]], []) : Option (List Row × List Row))
  replace hpre : (true) = true := hpre
  cases on <;> rfl
theorem s69 : SoundAt Go.Proofs.Try.prog Hx 69 c69 := soundAt_of T67_sound mixed func69 (by kernel_rfl) (by
  intro rows r h
  unfold c69 at h
  split at h
  · rename_i on
    obtain ⟨hp, hr⟩ := Prod.mk.inj (Option.some.inj h)
    subst hr
    exact ⟨_, m69 on hp⟩
  · cases h)
def T69 : Table := (69, c69) :: T67
theorem T69_sound : Table.Sound Go.Proofs.Try.prog Hx T69 := Table.sound_cons s69 T67_sound
end Go.Ev
end
