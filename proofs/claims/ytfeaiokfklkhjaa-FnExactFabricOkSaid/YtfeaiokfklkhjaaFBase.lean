/- Contracts of functions, each by its evaluation. -/
import Derived.Test.YtfeaiokfklkhjaaEvMd
import Derived.Test.YtfeaiokfklkhjaaProg
import Derived.KernelRfl
import Derived.Test.YtfeaiokfklkhjaaFNum
set_option linter.unusedVariables false
set_option linter.unusedSimpArgs false
set_option maxRecDepth 100000
noncomputable section
open List (getD length drop take set append replicate all isEmpty)
open Int (toNat ofNat)
open Go.IntKind (i64 wrap)
open Go.Proofs.Try (prog f127 f143 f154 f155 f178 f81 func127 func143 func154 func155 func178 func81)
namespace Go.Ev
open Go.RowKit Go.Md
end Go.Ev
namespace Go.Md
open Go Go.Ev
def isPortB (n : Int) : Bool := inR n 0 3
def isHopsB (n : Int) : Bool := inR n 0 8
def vecOk (v : Vec) : Bool := inR v.Root 1 9 && (inR v.Bridge 1 9 && (decide (v.Root ≤ v.Bridge) && (inR v.Cost 0 20 && (((v.Cost == 0) == (v.Root == v.Bridge)) && isPortB v.Port))))
def bitI (on : Bool) (f : Int) : Int := bif on then f else 0
def roleB (r : Int) : Int := bif r == 2 then 3 else bif r == 1 then 2 else bif r == 3 then 1 else 0
def flagsOf (b : Bpdu) : Int := bitI b.Change 1 + bitI b.Ask 2 + 4 * roleB b.Role + bitI b.Learn 16 + bitI b.Open 32 + bitI b.Agree 64
theorem bitI_b (on : Bool) {f : Int} (h : 0 ≤ f) : 0 ≤ bitI on f ∧ bitI on f ≤ f := by cases on <;> simp [bitI, h]
theorem bitI_mul (on : Bool) (k : Int) : k * bitI on 1 = bitI on k := by cases on <;> simp [bitI]
theorem roleB_b (r : Int) : 0 ≤ roleB r ∧ roleB r ≤ 3 := by unfold roleB; simp only [Bool.cond_eq_ite]; grind
def bpduOk (b : Bpdu) : Bool := inR b.Role 0 3 && (vecOk b.Vec && isHopsB b.Hops)
end Go.Md
namespace Go.Ev
open Go.Md
def o127 (n_ : Int) : Bool × List Row × List Row := (true, [[.bool (isPortB n_)]], [])
def c127 : Contract
  | [[.int .i64 n_]] => some ((o127 n_).1, (o127 n_).2.1, (o127 n_).2.2)
  | _ => none
theorem r127 (n_ : Int) (n : Nat) : evFn ⟨prog, Hx, 127⟩ T57.call n f127 [[.int .i64 n_]] = some ([[D.bool (inR n_ (0) (3))]], []) := by kernel_rfl
theorem m127 (n_ : Int) (hpre : (o127 n_).1 = true) : evFn ⟨Go.Proofs.Try.prog, Hx, 127⟩ T57.call 0 f127 [[.int .i64 n_]] = some (o127 n_).2 := by
  refine (r127 n_ _).trans ?_
  show _ = (some ([[.bool (isPortB n_)]], []) : Option (List Row × List Row))
  replace hpre : (true) = true := hpre
  rfl
theorem s127 : SoundAt Go.Proofs.Try.prog Hx 127 c127 := soundAt_of T57_sound mixed func127 (by kernel_rfl) (by
  intro rows r h
  unfold c127 at h
  split at h
  · rename_i n_
    obtain ⟨hp, hr⟩ := Prod.mk.inj (Option.some.inj h)
    subst hr
    exact ⟨_, m127 n_ hp⟩
  · cases h)
def T127 : Table := (127, c127) :: T57
theorem T127_sound : Table.Sound Go.Proofs.Try.prog Hx T127 := Table.sound_cons s127 T57_sound
def o155 (n_ : Int) : Bool × List Row × List Row := (true, [[.bool (isHopsB n_)]], [])
def c155 : Contract
  | [[.int .i64 n_]] => some ((o155 n_).1, (o155 n_).2.1, (o155 n_).2.2)
  | _ => none
theorem r155 (n_ : Int) (n : Nat) : evFn ⟨prog, Hx, 155⟩ T127.call n f155 [[.int .i64 n_]] = some ([[D.bool (inR n_ (0) (8))]], []) := by kernel_rfl
theorem m155 (n_ : Int) (hpre : (o155 n_).1 = true) : evFn ⟨Go.Proofs.Try.prog, Hx, 155⟩ T127.call 0 f155 [[.int .i64 n_]] = some (o155 n_).2 := by
  refine (r155 n_ _).trans ?_
  show _ = (some ([[.bool (isHopsB n_)]], []) : Option (List Row × List Row))
  replace hpre : (true) = true := hpre
  rfl
theorem s155 : SoundAt Go.Proofs.Try.prog Hx 155 c155 := soundAt_of T127_sound mixed func155 (by kernel_rfl) (by
  intro rows r h
  unfold c155 at h
  split at h
  · rename_i n_
    obtain ⟨hp, hr⟩ := Prod.mk.inj (Option.some.inj h)
    subst hr
    exact ⟨_, m155 n_ hp⟩
  · cases h)
def T155 : Table := (155, c155) :: T127
theorem T155_sound : Table.Sound Go.Proofs.Try.prog Hx T155 := Table.sound_cons s155 T127_sound
def o154 (v : Vec) : Bool × List Row × List Row := (true, [[.bool (vecOk v)]], [])
def c154 : Contract
  | [[.int .i64 v_Root, .int .i64 v_Cost, .int .i64 v_Bridge, .int .i64 v_Port]] => some ((o154 ⟨v_Root, v_Cost, v_Bridge, v_Port⟩).1, (o154 ⟨v_Root, v_Cost, v_Bridge, v_Port⟩).2.1, (o154 ⟨v_Root, v_Cost, v_Bridge, v_Port⟩).2.2)
  | _ => none
theorem r154 (v : Vec) (n : Nat) : evFn ⟨prog, Hx, 154⟩ T155.call n f154 [[.int .i64 v.Root, .int .i64 v.Cost, .int .i64 v.Bridge, .int .i64 v.Port]] = bif !inR (Vec.Root v) (1) (9) then some ([[D.bool false]], []) else bif !inR (Vec.Bridge v) (1) (9) then some ([[D.bool false]], []) else bif decide (Vec.Root v > Vec.Bridge v) then some ([[D.bool false]], []) else bif !isPortB (Vec.Port v) then some ([[D.bool false]], []) else bif inR (Vec.Cost v) (0) (20) then some ([[D.bool (decide ((Vec.Cost v == 0) = (Vec.Root v == Vec.Bridge v)))]], []) else some ([[D.bool false]], []) := by kernel_rfl
theorem m154 (v : Vec) (hpre : (o154 v).1 = true) : evFn ⟨Go.Proofs.Try.prog, Hx, 154⟩ T155.call 0 f154 [[.int .i64 v.Root, .int .i64 v.Cost, .int .i64 v.Bridge, .int .i64 v.Port]] = some (o154 v).2 := by
  refine (r154 v _).trans ?_
  show _ = (some ([[.bool (vecOk v)]], []) : Option (List Row × List Row))
  replace hpre : (true) = true := hpre
  unfold vecOk
  simp only [Bool.cond_eq_ite]
  grind
theorem s154 : SoundAt Go.Proofs.Try.prog Hx 154 c154 := soundAt_of T155_sound mixed func154 (by kernel_rfl) (by
  intro rows r h
  unfold c154 at h
  split at h
  · rename_i v_Root v_Cost v_Bridge v_Port
    obtain ⟨hp, hr⟩ := Prod.mk.inj (Option.some.inj h)
    subst hr
    exact ⟨_, m154 ⟨v_Root, v_Cost, v_Bridge, v_Port⟩ hp⟩
  · cases h)
def T154 : Table := (154, c154) :: T155
theorem T154_sound : Table.Sound Go.Proofs.Try.prog Hx T154 := Table.sound_cons s154 T155_sound
def o143 (v : Vec) : Bool × List Row × List Row := (true, [[.bool (vecOk v)]], [])
def c143 : Contract
  | [[.int .i64 v_Root, .int .i64 v_Cost, .int .i64 v_Bridge, .int .i64 v_Port]] => some ((o143 ⟨v_Root, v_Cost, v_Bridge, v_Port⟩).1, (o143 ⟨v_Root, v_Cost, v_Bridge, v_Port⟩).2.1, (o143 ⟨v_Root, v_Cost, v_Bridge, v_Port⟩).2.2)
  | _ => none
theorem r143 (v : Vec) (n : Nat) : evFn ⟨prog, Hx, 143⟩ T154.call n f143 [[.int .i64 v.Root, .int .i64 v.Cost, .int .i64 v.Bridge, .int .i64 v.Port]] = bif inR (Vec.Root v) (1) (9) then bif inR (Vec.Bridge v) (1) (9) then bif decide (Vec.Root v ≤ Vec.Bridge v) then bif inR (Vec.Cost v) (0) (20) then bif decide ((Vec.Cost v == 0) = (Vec.Root v == Vec.Bridge v)) then some ([[D.bool (inR (Vec.Port v) (0) (3))]], []) else some ([[D.bool false]], []) else some ([[D.bool false]], []) else some ([[D.bool false]], []) else some ([[D.bool false]], []) else some ([[D.bool false]], []) := by kernel_rfl
theorem m143 (v : Vec) (hpre : (o143 v).1 = true) : evFn ⟨Go.Proofs.Try.prog, Hx, 143⟩ T154.call 0 f143 [[.int .i64 v.Root, .int .i64 v.Cost, .int .i64 v.Bridge, .int .i64 v.Port]] = some (o143 v).2 := by
  refine (r143 v _).trans ?_
  show _ = (some ([[.bool (vecOk v)]], []) : Option (List Row × List Row))
  replace hpre : (true) = true := hpre
  unfold vecOk isPortB
  simp only [Bool.cond_eq_ite]
  grind
theorem s143 : SoundAt Go.Proofs.Try.prog Hx 143 c143 := soundAt_of T154_sound mixed func143 (by kernel_rfl) (by
  intro rows r h
  unfold c143 at h
  split at h
  · rename_i v_Root v_Cost v_Bridge v_Port
    obtain ⟨hp, hr⟩ := Prod.mk.inj (Option.some.inj h)
    subst hr
    exact ⟨_, m143 ⟨v_Root, v_Cost, v_Bridge, v_Port⟩ hp⟩
  · cases h)
def T143 : Table := (143, c143) :: T154
theorem T143_sound : Table.Sound Go.Proofs.Try.prog Hx T143 := Table.sound_cons s143 T154_sound
def o178 (on : Bool) (flag : Int) : Bool × List Row × List Row := (true, [[.int .i64 (bitI on flag)]], [])
def c178 : Contract
  | [[.bool on], [.int .i64 flag]] => some ((o178 on flag).1, (o178 on flag).2.1, (o178 on flag).2.2)
  | _ => none
theorem r178 (on : Bool) (flag : Int) (n : Nat) : evFn ⟨prog, Hx, 178⟩ T143.call n f178 [[.bool on], [.int .i64 flag]] = bif on then some ([[D.int i64 flag]], []) else some ([[D.int i64 (0)]], []) := by kernel_rfl
theorem m178 (on : Bool) (flag : Int) (hpre : (o178 on flag).1 = true) : evFn ⟨Go.Proofs.Try.prog, Hx, 178⟩ T143.call 0 f178 [[.bool on], [.int .i64 flag]] = some (o178 on flag).2 := by
  refine (r178 on flag _).trans ?_
  show _ = (some ([[.int .i64 (bitI on flag)]], []) : Option (List Row × List Row))
  replace hpre : (true) = true := hpre
  cases on <;> rfl
theorem s178 : SoundAt Go.Proofs.Try.prog Hx 178 c178 := soundAt_of T143_sound mixed func178 (by kernel_rfl) (by
  intro rows r h
  unfold c178 at h
  split at h
  · rename_i on flag
    obtain ⟨hp, hr⟩ := Prod.mk.inj (Option.some.inj h)
    subst hr
    exact ⟨_, m178 on flag hp⟩
  · cases h)
def T178 : Table := (178, c178) :: T143
theorem T178_sound : Table.Sound Go.Proofs.Try.prog Hx T178 := Table.sound_cons s178 T143_sound
def o81 (on : Bool) : Bool × List Row × List Row := (true, [[.int .i64 (bitI on 1)]], [])
def c81 : Contract
  | [[.bool on]] => some ((o81 on).1, (o81 on).2.1, (o81 on).2.2)
  | _ => none
theorem r81 (on : Bool) (n : Nat) : evFn ⟨prog, Hx, 81⟩ T178.call n f81 [[.bool on]] = bif on then some ([[D.int i64 (1)]], []) else some ([[D.int i64 (0)]], []) := by kernel_rfl
theorem m81 (on : Bool) (hpre : (o81 on).1 = true) : evFn ⟨Go.Proofs.Try.prog, Hx, 81⟩ T178.call 0 f81 [[.bool on]] = some (o81 on).2 := by
  refine (r81 on _).trans ?_
  show _ = (some ([[.int .i64 (bitI on 1)]], []) : Option (List Row × List Row))
  replace hpre : (true) = true := hpre
  cases on <;> rfl
theorem s81 : SoundAt Go.Proofs.Try.prog Hx 81 c81 := soundAt_of T178_sound mixed func81 (by kernel_rfl) (by
  intro rows r h
  unfold c81 at h
  split at h
  · rename_i on
    obtain ⟨hp, hr⟩ := Prod.mk.inj (Option.some.inj h)
    subst hr
    exact ⟨_, m81 on hp⟩
  · cases h)
def T81 : Table := (81, c81) :: T178
theorem T81_sound : Table.Sound Go.Proofs.Try.prog Hx T81 := Table.sound_cons s81 T178_sound
end Go.Ev
end
