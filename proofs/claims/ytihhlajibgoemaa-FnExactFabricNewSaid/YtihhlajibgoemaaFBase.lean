/- Contracts of functions, each by its evaluation. -/
import Derived.Test.YtihhlajibgoemaaEvMd
import Derived.Test.YtihhlajibgoemaaProg
import Derived.KernelRfl
import Derived.Test.YtihhlajibgoemaaFNum
set_option linter.unusedVariables false
set_option linter.unusedSimpArgs false
set_option maxRecDepth 100000
noncomputable section
open List (getD length drop take set append replicate all isEmpty)
open Int (toNat ofNat)
open Go.IntKind (i64 wrap)
open Go.Proofs.Try (prog f35 f69 f79 f80 f85 func35 func69 func79 func80 func85)
namespace Go.Ev
open Go.RowKit Go.Md
end Go.Ev
namespace Go.Md
open Go Go.Ev
def isPortB (n : Int) : Bool := inR n 0 3
def isHopsB (n : Int) : Bool := inR n 0 8
def vecOk (v : Vec) : Bool := inR v.Root 1 9 && (inR v.Bridge 1 9 && (decide (v.Root ≤ v.Bridge) && (inR v.Cost 0 20 && (((v.Cost == 0) == (v.Root == v.Bridge)) && isPortB v.Port))))
def bitI (on : Bool) (f : Int) : Int := bif on then f else 0
def roleB (r : Int) : Int := bif r == 2 then 3 else bif r == 1 then 2 else bif r == 3 then 1 else 0
def flagsOf (b : Bpdu) : Int := bitI b.Change 1 + bitI b.Ask 2 + 4 * roleB b.Role + bitI b.Learn 16 + bitI b.Open 32 + bitI b.Agree 64
theorem bitI_b (on : Bool) {f : Int} (h : 0 ≤ f) : 0 ≤ bitI on f ∧ bitI on f ≤ f := by cases on <;> simp [bitI, h]
theorem bitI_mul (on : Bool) (k : Int) : k * bitI on 1 = bitI on k := by cases on <;> simp [bitI]
theorem roleB_b (r : Int) : 0 ≤ roleB r ∧ roleB r ≤ 3 := by unfold roleB; simp only [Bool.cond_eq_ite]; grind
def bpduOk (b : Bpdu) : Bool := inR b.Role 0 3 && (vecOk b.Vec && isHopsB b.Hops)
end Go.Md
namespace Go.Ev
open Go.Md
def o85 (n_ : Int) : Bool × List Row × List Row := (true, [[.bool (isPortB n_)]], [])
def c85 : Contract
  | [[.int .i64 n_]] => some ((o85 n_).1, (o85 n_).2.1, (o85 n_).2.2)
  | _ => none

theorem r85 (n_ : Int) (n : Nat) : evFn ⟨prog, Hx, 85⟩ T32.call n f85 [[.int .i64 n_]] = some ([[D.bool (inR n_ (0) (3))]], []) := by kernel_rfl
theorem m85 (n_ : Int) (hpre : (o85 n_).1 = true) : evFn ⟨Go.Proofs.Try.prog, Hx, 85⟩ T32.call 0 f85 [[.int .i64 n_]] = some (o85 n_).2 := by
  refine (r85 n_ _).trans ?_
  show _ = (some ([[.bool (isPortB n_)]], []) : Option (List Row × List Row))
  replace hpre : (true) = true := hpre
  rfl
theorem s85 : SoundAt Go.Proofs.Try.prog Hx 85 c85 := soundAt_of T32_sound mixed func85 (by kernel_rfl) (by
  intro rows r h
  unfold c85 at h
  split at h
  · rename_i n_
    obtain ⟨hp, hr⟩ := Prod.mk.inj (Option.some.inj h)
    subst hr
    exact ⟨_, m85 n_ hp⟩
  · cases h)
def T85 : Table := (85, c85) :: T32
theorem T85_sound : Table.Sound Go.Proofs.Try.prog Hx T85 := Table.sound_cons s85 T32_sound
def o80 (n_ : Int) : Bool × List Row × List Row := (true, [[.bool (isHopsB n_)]], [])
def c80 : Contract
  | [[.int .i64 n_]] => some ((o80 n_).1, (o80 n_).2.1, (o80 n_).2.2)
  | _ => none

theorem r80 (n_ : Int) (n : Nat) : evFn ⟨prog, Hx, 80⟩ T85.call n f80 [[.int .i64 n_]] = some ([[D.bool (inR n_ (0) (8))]], []) := by kernel_rfl
theorem m80 (n_ : Int) (hpre : (o80 n_).1 = true) : evFn ⟨Go.Proofs.Try.prog, Hx, 80⟩ T85.call 0 f80 [[.int .i64 n_]] = some (o80 n_).2 := by
  refine (r80 n_ _).trans ?_
  show _ = (some ([[.bool (isHopsB n_)]], []) : Option (List Row × List Row))
  replace hpre : (true) = true := hpre
  rfl
theorem s80 : SoundAt Go.Proofs.Try.prog Hx 80 c80 := soundAt_of T85_sound mixed func80 (by kernel_rfl) (by
  intro rows r h
  unfold c80 at h
  split at h
  · rename_i n_
    obtain ⟨hp, hr⟩ := Prod.mk.inj (Option.some.inj h)
    subst hr
    exact ⟨_, m80 n_ hp⟩
  · cases h)
def T80 : Table := (80, c80) :: T85
theorem T80_sound : Table.Sound Go.Proofs.Try.prog Hx T80 := Table.sound_cons s80 T85_sound
def o79 (v : Vec) : Bool × List Row × List Row := (true, [[.bool (vecOk v)]], [])
def c79 : Contract
  | [[.int .i64 v_Root, .int .i64 v_Cost, .int .i64 v_Bridge, .int .i64 v_Port]] => some ((o79 ⟨v_Root, v_Cost, v_Bridge, v_Port⟩).1, (o79 ⟨v_Root, v_Cost, v_Bridge, v_Port⟩).2.1, (o79 ⟨v_Root, v_Cost, v_Bridge, v_Port⟩).2.2)
  | _ => none

theorem r79 (v : Vec) (n : Nat) : evFn ⟨prog, Hx, 79⟩ T80.call n f79 [[.int .i64 v.Root, .int .i64 v.Cost, .int .i64 v.Bridge, .int .i64 v.Port]] = bif !inR (Vec.Root v) (1) (9) then some ([[D.bool false]], []) else bif !inR (Vec.Bridge v) (1) (9) then some ([[D.bool false]], []) else bif decide (Vec.Root v > Vec.Bridge v) then some ([[D.bool false]], []) else bif !isPortB (Vec.Port v) then some ([[D.bool false]], []) else bif inR (Vec.Cost v) (0) (20) then some ([[D.bool (decide ((Vec.Cost v == 0) = (Vec.Root v == Vec.Bridge v)))]], []) else some ([[D.bool false]], []) := by kernel_rfl
theorem m79 (v : Vec) (hpre : (o79 v).1 = true) : evFn ⟨Go.Proofs.Try.prog, Hx, 79⟩ T80.call 0 f79 [[.int .i64 v.Root, .int .i64 v.Cost, .int .i64 v.Bridge, .int .i64 v.Port]] = some (o79 v).2 := by
  refine (r79 v _).trans ?_
  show _ = (some ([[.bool (vecOk v)]], []) : Option (List Row × List Row))
  replace hpre : (true) = true := hpre
  unfold vecOk
  simp only [Bool.cond_eq_ite]
  grind
theorem s79 : SoundAt Go.Proofs.Try.prog Hx 79 c79 := soundAt_of T80_sound mixed func79 (by kernel_rfl) (by
  intro rows r h
  unfold c79 at h
  split at h
  · rename_i v_Root v_Cost v_Bridge v_Port
    obtain ⟨hp, hr⟩ := Prod.mk.inj (Option.some.inj h)
    subst hr
    exact ⟨_, m79 ⟨v_Root, v_Cost, v_Bridge, v_Port⟩ hp⟩
  · cases h)
def T79 : Table := (79, c79) :: T80
theorem T79_sound : Table.Sound Go.Proofs.Try.prog Hx T79 := Table.sound_cons s79 T80_sound
def o69 (v : Vec) : Bool × List Row × List Row := (true, [[.bool (vecOk v)]], [])
def c69 : Contract
  | [[.int .i64 v_Root, .int .i64 v_Cost, .int .i64 v_Bridge, .int .i64 v_Port]] => some ((o69 ⟨v_Root, v_Cost, v_Bridge, v_Port⟩).1, (o69 ⟨v_Root, v_Cost, v_Bridge, v_Port⟩).2.1, (o69 ⟨v_Root, v_Cost, v_Bridge, v_Port⟩).2.2)
  | _ => none

theorem r69 (v : Vec) (n : Nat) : evFn ⟨prog, Hx, 69⟩ T79.call n f69 [[.int .i64 v.Root, .int .i64 v.Cost, .int .i64 v.Bridge, .int .i64 v.Port]] = bif inR (Vec.Root v) (1) (9) then bif inR (Vec.Bridge v) (1) (9) then bif decide (Vec.Root v ≤ Vec.Bridge v) then bif inR (Vec.Cost v) (0) (20) then bif decide ((Vec.Cost v == 0) = (Vec.Root v == Vec.Bridge v)) then some ([[D.bool (inR (Vec.Port v) (0) (3))]], []) else some ([[D.bool false]], []) else some ([[D.bool false]], []) else some ([[D.bool false]], []) else some ([[D.bool false]], []) else some ([[D.bool false]], []) := by kernel_rfl
theorem m69 (v : Vec) (hpre : (o69 v).1 = true) : evFn ⟨Go.Proofs.Try.prog, Hx, 69⟩ T79.call 0 f69 [[.int .i64 v.Root, .int .i64 v.Cost, .int .i64 v.Bridge, .int .i64 v.Port]] = some (o69 v).2 := by
  refine (r69 v _).trans ?_
  show _ = (some ([[.bool (vecOk v)]], []) : Option (List Row × List Row))
  replace hpre : (true) = true := hpre
  unfold vecOk isPortB
  simp only [Bool.cond_eq_ite]
  grind
theorem s69 : SoundAt Go.Proofs.Try.prog Hx 69 c69 := soundAt_of T79_sound mixed func69 (by kernel_rfl) (by
  intro rows r h
  unfold c69 at h
  split at h
  · rename_i v_Root v_Cost v_Bridge v_Port
    obtain ⟨hp, hr⟩ := Prod.mk.inj (Option.some.inj h)
    subst hr
    exact ⟨_, m69 ⟨v_Root, v_Cost, v_Bridge, v_Port⟩ hp⟩
  · cases h)
def T69 : Table := (69, c69) :: T79
theorem T69_sound : Table.Sound Go.Proofs.Try.prog Hx T69 := Table.sound_cons s69 T79_sound
def o35 (on : Bool) : Bool × List Row × List Row := (true, [[.int .i64 (bitI on 1)]], [])
def c35 : Contract
  | [[.bool on]] => some ((o35 on).1, (o35 on).2.1, (o35 on).2.2)
  | _ => none

theorem r35 (on : Bool) (n : Nat) : evFn ⟨prog, Hx, 35⟩ T69.call n f35 [[.bool on]] = bif on then some ([[D.int i64 (1)]], []) else some ([[D.int i64 (0)]], []) := by kernel_rfl
theorem m35 (on : Bool) (hpre : (o35 on).1 = true) : evFn ⟨Go.Proofs.Try.prog, Hx, 35⟩ T69.call 0 f35 [[.bool on]] = some (o35 on).2 := by
  refine (r35 on _).trans ?_
  show _ = (some ([[.int .i64 (bitI on 1)]], []) : Option (List Row × List Row))
  replace hpre : (true) = true := hpre
  cases on <;> rfl
theorem s35 : SoundAt Go.Proofs.Try.prog Hx 35 c35 := soundAt_of T69_sound mixed func35 (by kernel_rfl) (by
  intro rows r h
  unfold c35 at h
  split at h
  · rename_i on
    obtain ⟨hp, hr⟩ := Prod.mk.inj (Option.some.inj h)
    subst hr
    exact ⟨_, m35 on hp⟩
  · cases h)
def T35 : Table := (35, c35) :: T69
theorem T35_sound : Table.Sound Go.Proofs.Try.prog Hx T35 := Table.sound_cons s35 T69_sound
end Go.Ev
end
