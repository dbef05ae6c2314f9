/- Contracts of functions, each by its evaluation. -/
import Derived.Test.YtgmmhnloobedjaaEvMd
import Derived.Test.YtgmmhnloobedjaaProg
import Derived.KernelRfl
import Derived.Test.YtgmmhnloobedjaaFNum
noncomputable section
namespace Go.Ev
open Go.RowKit Go.Md
set_option linter.unusedVariables false
set_option linter.unusedSimpArgs false
set_option maxRecDepth 100000
end Go.Ev
namespace Go.Md
open Go Go.Ev
def isPortB (n : Int) : Bool := inR n 0 3
def isHopsB (n : Int) : Bool := inR n 0 8
def vecOk (v : Vec) : Bool := inR v.Root 1 9 && (inR v.Bridge 1 9 && (decide (v.Root ≤ v.Bridge) && (inR v.Cost 0 20 && (((v.Cost == 0) == (v.Root == v.Bridge)) && isPortB v.Port))))
def bitI (on : Bool) (f : Int) : Int := bif on then f else 0
def roleB (r : Int) : Int := bif r == 2 then 3 else bif r == 1 then 2 else bif r == 3 then 1 else 0
def flagsOf (b : Bpdu) : Int := bitI b.Change 1 + bitI b.Ask 2 + 4 * roleB b.Role + bitI b.Learn 16 + bitI b.Open 32 + bitI b.Agree 64
theorem bitI_b (on : Bool) {f : Int} (h : 0 ≤ f) : 0 ≤ bitI on f ∧ bitI on f ≤ f := by cases on <;> simp [bitI, h]
theorem bitI_mul (on : Bool) (k : Int) : k * bitI on 1 = bitI on k := by cases on <;> simp [bitI]
theorem roleB_b (r : Int) : 0 ≤ roleB r ∧ roleB r ≤ 3 := by unfold roleB; simp only [Bool.cond_eq_ite]; grind
def bpduOk (b : Bpdu) : Bool := inR b.Role 0 3 && (vecOk b.Vec && isHopsB b.Hops)
end Go.Md
namespace Go.Ev
open Go.Md
/- isPort -/
def o65 (n_ : Int) : Bool × List Row × List Row := (true, [[.bool (isPortB n_)]], [])
def c65 : Contract
  | [[.int .i64 n_]] => some ((o65 n_).1, (o65 n_).2.1, (o65 n_).2.2)
  | _ => none

theorem r65 (n_ : Int) (n : Nat) : evFn ⟨Go.Proofs.Try.prog, Hx, 65⟩ T50.call n Go.Proofs.Try.f65 [[.int .i64 n_]] = some ([[D.bool (inR n_ (0) (3))]], []) := by kernel_rfl
theorem m65 (n_ : Int) (hpre : (o65 n_).1 = true) : evFn ⟨Go.Proofs.Try.prog, Hx, 65⟩ T50.call 0 Go.Proofs.Try.f65 [[.int .i64 n_]] = some (o65 n_).2 := by
  refine (r65 n_ _).trans ?_
  show _ = (some ([[.bool (isPortB n_)]], []) : Option (List Row × List Row))
  replace hpre : (true) = true := hpre
  rfl
theorem s65 : SoundAt Go.Proofs.Try.prog Hx 65 c65 := soundAt_of T50_sound mixed Go.Proofs.Try.func65 (by kernel_rfl) (by
  intro rows r h
  unfold c65 at h
  split at h
  · rename_i n_
    obtain ⟨hp, hr⟩ := Prod.mk.inj (Option.some.inj h)
    subst hr
    exact ⟨_, m65 n_ hp⟩
  · cases h)
def T65 : Table := (65, c65) :: T50
theorem T65_sound : Table.Sound Go.Proofs.Try.prog Hx T65 := Table.sound_cons s65 T50_sound
/- isHops -/
def o64 (n_ : Int) : Bool × List Row × List Row := (true, [[.bool (isHopsB n_)]], [])
def c64 : Contract
  | [[.int .i64 n_]] => some ((o64 n_).1, (o64 n_).2.1, (o64 n_).2.2)
  | _ => none

theorem r64 (n_ : Int) (n : Nat) : evFn ⟨Go.Proofs.Try.prog, Hx, 64⟩ T65.call n Go.Proofs.Try.f64 [[.int .i64 n_]] = some ([[D.bool (inR n_ (0) (8))]], []) := by kernel_rfl
theorem m64 (n_ : Int) (hpre : (o64 n_).1 = true) : evFn ⟨Go.Proofs.Try.prog, Hx, 64⟩ T65.call 0 Go.Proofs.Try.f64 [[.int .i64 n_]] = some (o64 n_).2 := by
  refine (r64 n_ _).trans ?_
  show _ = (some ([[.bool (isHopsB n_)]], []) : Option (List Row × List Row))
  replace hpre : (true) = true := hpre
  rfl
theorem s64 : SoundAt Go.Proofs.Try.prog Hx 64 c64 := soundAt_of T65_sound mixed Go.Proofs.Try.func64 (by kernel_rfl) (by
  intro rows r h
  unfold c64 at h
  split at h
  · rename_i n_
    obtain ⟨hp, hr⟩ := Prod.mk.inj (Option.some.inj h)
    subst hr
    exact ⟨_, m64 n_ hp⟩
  · cases h)
def T64 : Table := (64, c64) :: T65
theorem T64_sound : Table.Sound Go.Proofs.Try.prog Hx T64 := Table.sound_cons s64 T65_sound
/- VecOk -/
def o63 (v : Vec) : Bool × List Row × List Row := (true, [[.bool (vecOk v)]], [])
def c63 : Contract
  | [[.int .i64 v_Root, .int .i64 v_Cost, .int .i64 v_Bridge, .int .i64 v_Port]] => some ((o63 ⟨v_Root, v_Cost, v_Bridge, v_Port⟩).1, (o63 ⟨v_Root, v_Cost, v_Bridge, v_Port⟩).2.1, (o63 ⟨v_Root, v_Cost, v_Bridge, v_Port⟩).2.2)
  | _ => none

theorem r63 (v : Vec) (n : Nat) : evFn ⟨Go.Proofs.Try.prog, Hx, 63⟩ T64.call n Go.Proofs.Try.f63 [[.int .i64 v.Root, .int .i64 v.Cost, .int .i64 v.Bridge, .int .i64 v.Port]] = bif !inR (Vec.Root v) (1) (9) then some ([[D.bool false]], []) else bif !inR (Vec.Bridge v) (1) (9) then some ([[D.bool false]], []) else bif decide (Vec.Root v > Vec.Bridge v) then some ([[D.bool false]], []) else bif !isPortB (Vec.Port v) then some ([[D.bool false]], []) else bif inR (Vec.Cost v) (0) (20) then some ([[D.bool (decide ((Vec.Cost v == 0) = (Vec.Root v == Vec.Bridge v)))]], []) else some ([[D.bool false]], []) := by kernel_rfl
theorem m63 (v : Vec) (hpre : (o63 v).1 = true) : evFn ⟨Go.Proofs.Try.prog, Hx, 63⟩ T64.call 0 Go.Proofs.Try.f63 [[.int .i64 v.Root, .int .i64 v.Cost, .int .i64 v.Bridge, .int .i64 v.Port]] = some (o63 v).2 := by
  refine (r63 v _).trans ?_
  show _ = (some ([[.bool (vecOk v)]], []) : Option (List Row × List Row))
  replace hpre : (true) = true := hpre
  unfold vecOk
  simp only [Bool.cond_eq_ite]
  grind
theorem s63 : SoundAt Go.Proofs.Try.prog Hx 63 c63 := soundAt_of T64_sound mixed Go.Proofs.Try.func63 (by kernel_rfl) (by
  intro rows r h
  unfold c63 at h
  split at h
  · rename_i v_Root v_Cost v_Bridge v_Port
    obtain ⟨hp, hr⟩ := Prod.mk.inj (Option.some.inj h)
    subst hr
    exact ⟨_, m63 ⟨v_Root, v_Cost, v_Bridge, v_Port⟩ hp⟩
  · cases h)
def T63 : Table := (63, c63) :: T64
theorem T63_sound : Table.Sound Go.Proofs.Try.prog Hx T63 := Table.sound_cons s63 T64_sound
/- VecOkS -/
def o62 (v : Vec) : Bool × List Row × List Row := (true, [[.bool (vecOk v)]], [])
def c62 : Contract
  | [[.int .i64 v_Root, .int .i64 v_Cost, .int .i64 v_Bridge, .int .i64 v_Port]] => some ((o62 ⟨v_Root, v_Cost, v_Bridge, v_Port⟩).1, (o62 ⟨v_Root, v_Cost, v_Bridge, v_Port⟩).2.1, (o62 ⟨v_Root, v_Cost, v_Bridge, v_Port⟩).2.2)
  | _ => none

theorem r62 (v : Vec) (n : Nat) : evFn ⟨Go.Proofs.Try.prog, Hx, 62⟩ T63.call n Go.Proofs.Try.f62 [[.int .i64 v.Root, .int .i64 v.Cost, .int .i64 v.Bridge, .int .i64 v.Port]] = bif inR (Vec.Root v) (1) (9) then bif inR (Vec.Bridge v) (1) (9) then bif decide (Vec.Root v ≤ Vec.Bridge v) then bif inR (Vec.Cost v) (0) (20) then bif decide ((Vec.Cost v == 0) = (Vec.Root v == Vec.Bridge v)) then some ([[D.bool (inR (Vec.Port v) (0) (3))]], []) else some ([[D.bool false]], []) else some ([[D.bool false]], []) else some ([[D.bool false]], []) else some ([[D.bool false]], []) else some ([[D.bool false]], []) := by kernel_rfl
theorem m62 (v : Vec) (hpre : (o62 v).1 = true) : evFn ⟨Go.Proofs.Try.prog, Hx, 62⟩ T63.call 0 Go.Proofs.Try.f62 [[.int .i64 v.Root, .int .i64 v.Cost, .int .i64 v.Bridge, .int .i64 v.Port]] = some (o62 v).2 := by
  refine (r62 v _).trans ?_
  show _ = (some ([[.bool (vecOk v)]], []) : Option (List Row × List Row))
  replace hpre : (true) = true := hpre
  unfold vecOk isPortB
  simp only [Bool.cond_eq_ite]
  grind
theorem s62 : SoundAt Go.Proofs.Try.prog Hx 62 c62 := soundAt_of T63_sound mixed Go.Proofs.Try.func62 (by kernel_rfl) (by
  intro rows r h
  unfold c62 at h
  split at h
  · rename_i v_Root v_Cost v_Bridge v_Port
    obtain ⟨hp, hr⟩ := Prod.mk.inj (Option.some.inj h)
    subst hr
    exact ⟨_, m62 ⟨v_Root, v_Cost, v_Bridge, v_Port⟩ hp⟩
  · cases h)
def T62 : Table := (62, c62) :: T63
theorem T62_sound : Table.Sound Go.Proofs.Try.prog Hx T62 := Table.sound_cons s62 T63_sound
/- bit -/
def o38 (on : Bool) (flag : Int) : Bool × List Row × List Row := (true, [[.int .i64 (bitI on flag)]], [])
def c38 : Contract
  | [[.bool on], [.int .i64 flag]] => some ((o38 on flag).1, (o38 on flag).2.1, (o38 on flag).2.2)
  | _ => none

theorem r38 (on : Bool) (flag : Int) (n : Nat) : evFn ⟨Go.Proofs.Try.prog, Hx, 38⟩ T62.call n Go.Proofs.Try.f38 [[.bool on], [.int .i64 flag]] = bif on then some ([[D.int IntKind.i64 flag]], []) else some ([[D.int IntKind.i64 (0)]], []) := by kernel_rfl
theorem m38 (on : Bool) (flag : Int) (hpre : (o38 on flag).1 = true) : evFn ⟨Go.Proofs.Try.prog, Hx, 38⟩ T62.call 0 Go.Proofs.Try.f38 [[.bool on], [.int .i64 flag]] = some (o38 on flag).2 := by
  refine (r38 on flag _).trans ?_
  show _ = (some ([[.int .i64 (bitI on flag)]], []) : Option (List Row × List Row))
  replace hpre : (true) = true := hpre
  cases on <;> rfl
theorem s38 : SoundAt Go.Proofs.Try.prog Hx 38 c38 := soundAt_of T62_sound mixed Go.Proofs.Try.func38 (by kernel_rfl) (by
  intro rows r h
  unfold c38 at h
  split at h
  · rename_i on flag
    obtain ⟨hp, hr⟩ := Prod.mk.inj (Option.some.inj h)
    subst hr
    exact ⟨_, m38 on flag hp⟩
  · cases h)
def T38 : Table := (38, c38) :: T62
theorem T38_sound : Table.Sound Go.Proofs.Try.prog Hx T38 := Table.sound_cons s38 T62_sound
/- l1Bit -/
def o36 (on : Bool) : Bool × List Row × List Row := (true, [[.int .i64 (bitI on 1)]], [])
def c36 : Contract
  | [[.bool on]] => some ((o36 on).1, (o36 on).2.1, (o36 on).2.2)
  | _ => none

theorem r36 (on : Bool) (n : Nat) : evFn ⟨Go.Proofs.Try.prog, Hx, 36⟩ T38.call n Go.Proofs.Try.f36 [[.bool on]] = bif on then some ([[D.int IntKind.i64 (1)]], []) else some ([[D.int IntKind.i64 (0)]], []) := by kernel_rfl
theorem m36 (on : Bool) (hpre : (o36 on).1 = true) : evFn ⟨Go.Proofs.Try.prog, Hx, 36⟩ T38.call 0 Go.Proofs.Try.f36 [[.bool on]] = some (o36 on).2 := by
  refine (r36 on _).trans ?_
  show _ = (some ([[.int .i64 (bitI on 1)]], []) : Option (List Row × List Row))
  replace hpre : (true) = true := hpre
  cases on <;> rfl
theorem s36 : SoundAt Go.Proofs.Try.prog Hx 36 c36 := soundAt_of T38_sound mixed Go.Proofs.Try.func36 (by kernel_rfl) (by
  intro rows r h
  unfold c36 at h
  split at h
  · rename_i on
    obtain ⟨hp, hr⟩ := Prod.mk.inj (Option.some.inj h)
    subst hr
    exact ⟨_, m36 on hp⟩
  · cases h)
def T36 : Table := (36, c36) :: T38
theorem T36_sound : Table.Sound Go.Proofs.Try.prog Hx T36 := Table.sound_cons s36 T38_sound
/- roleBits -/
def o39 (role : Int) : Bool × List Row × List Row := (true, [[.int .i64 (roleB role)]], [])
def c39 : Contract
  | [[.int .i64 role]] => some ((o39 role).1, (o39 role).2.1, (o39 role).2.2)
  | _ => none

theorem r39 (role : Int) (n : Nat) : evFn ⟨Go.Proofs.Try.prog, Hx, 39⟩ T36.call n Go.Proofs.Try.f39 [[.int .i64 role]] = bif role == 2 then some ([[D.int IntKind.i64 (3)]], []) else bif role == 1 then some ([[D.int IntKind.i64 (2)]], []) else bif role == 3 then some ([[D.int IntKind.i64 (1)]], []) else some ([[D.int IntKind.i64 (0)]], []) := by kernel_rfl
theorem m39 (role : Int) (hpre : (o39 role).1 = true) : evFn ⟨Go.Proofs.Try.prog, Hx, 39⟩ T36.call 0 Go.Proofs.Try.f39 [[.int .i64 role]] = some (o39 role).2 := by
  refine (r39 role _).trans ?_
  show _ = (some ([[.int .i64 (roleB role)]], []) : Option (List Row × List Row))
  replace hpre : (true) = true := hpre
  unfold roleB
  simp only [Bool.cond_eq_ite]
  grind
theorem s39 : SoundAt Go.Proofs.Try.prog Hx 39 c39 := soundAt_of T36_sound mixed Go.Proofs.Try.func39 (by kernel_rfl) (by
  intro rows r h
  unfold c39 at h
  split at h
  · rename_i role
    obtain ⟨hp, hr⟩ := Prod.mk.inj (Option.some.inj h)
    subst hr
    exact ⟨_, m39 role hp⟩
  · cases h)
def T39 : Table := (39, c39) :: T36
theorem T39_sound : Table.Sound Go.Proofs.Try.prog Hx T39 := Table.sound_cons s39 T36_sound
/- FlagsOf -/
def o11 (b : Bpdu) : Bool × List Row × List Row := (true, [[.int .i64 (flagsOf b)]], [])
def c11 : Contract
  | [[.bool b_Change, .bool b_Ask, .bool b_Agree, .bool b_Learn, .bool b_Open, .int .i64 b_Role, .int .i64 b_Vec_Root, .int .i64 b_Vec_Cost, .int .i64 b_Vec_Bridge, .int .i64 b_Vec_Port, .int .i64 b_Hops]] => some ((o11 ⟨b_Change, b_Ask, b_Agree, b_Learn, b_Open, b_Role, ⟨b_Vec_Root, b_Vec_Cost, b_Vec_Bridge, b_Vec_Port⟩, b_Hops⟩).1, (o11 ⟨b_Change, b_Ask, b_Agree, b_Learn, b_Open, b_Role, ⟨b_Vec_Root, b_Vec_Cost, b_Vec_Bridge, b_Vec_Port⟩, b_Hops⟩).2.1, (o11 ⟨b_Change, b_Ask, b_Agree, b_Learn, b_Open, b_Role, ⟨b_Vec_Root, b_Vec_Cost, b_Vec_Bridge, b_Vec_Port⟩, b_Hops⟩).2.2)
  | _ => none

theorem r11 (b : Bpdu) (n : Nat) : evFn ⟨Go.Proofs.Try.prog, Hx, 11⟩ T39.call n Go.Proofs.Try.f11 [[.bool b.Change, .bool b.Ask, .bool b.Agree, .bool b.Learn, .bool b.Open, .int .i64 b.Role, .int .i64 b.Vec.Root, .int .i64 b.Vec.Cost, .int .i64 b.Vec.Bridge, .int .i64 b.Vec.Port, .int .i64 b.Hops]] = some ([[D.int IntKind.i64 (IntKind.wrap IntKind.i64 (IntKind.wrap IntKind.i64 (IntKind.wrap IntKind.i64 (IntKind.wrap IntKind.i64 (IntKind.wrap IntKind.i64 (bitI (Bpdu.Change b) (1) + bitI (Bpdu.Ask b) (2)) + IntKind.wrap IntKind.i64 (4 * roleB (Bpdu.Role b))) + bitI (Bpdu.Learn b) (16)) + bitI (Bpdu.Open b) (32)) + bitI (Bpdu.Agree b) (64)))]], []) := by kernel_rfl
theorem m11 (b : Bpdu) (hpre : (o11 b).1 = true) : evFn ⟨Go.Proofs.Try.prog, Hx, 11⟩ T39.call 0 Go.Proofs.Try.f11 [[.bool b.Change, .bool b.Ask, .bool b.Agree, .bool b.Learn, .bool b.Open, .int .i64 b.Role, .int .i64 b.Vec.Root, .int .i64 b.Vec.Cost, .int .i64 b.Vec.Bridge, .int .i64 b.Vec.Port, .int .i64 b.Hops]] = some (o11 b).2 := by
  refine (r11 b _).trans ?_
  show _ = (some ([[.int .i64 (flagsOf b)]], []) : Option (List Row × List Row))
  replace hpre : (true) = true := hpre
  have h1 := bitI_b b.Change (f := 1) (by omega)
  have h2 := bitI_b b.Ask (f := 2) (by omega)
  have h3 := bitI_b b.Learn (f := 16) (by omega)
  have h4 := bitI_b b.Open (f := 32) (by omega)
  have h5 := bitI_b b.Agree (f := 64) (by omega)
  have h6 := roleB_b b.Role
  unfold flagsOf
  simp (disch := omega) only [wrap_sm]
theorem s11 : SoundAt Go.Proofs.Try.prog Hx 11 c11 := soundAt_of T39_sound mixed Go.Proofs.Try.func11 (by kernel_rfl) (by
  intro rows r h
  unfold c11 at h
  split at h
  · rename_i b_Change b_Ask b_Agree b_Learn b_Open b_Role b_Vec_Root b_Vec_Cost b_Vec_Bridge b_Vec_Port b_Hops
    obtain ⟨hp, hr⟩ := Prod.mk.inj (Option.some.inj h)
    subst hr
    exact ⟨_, m11 ⟨b_Change, b_Ask, b_Agree, b_Learn, b_Open, b_Role, ⟨b_Vec_Root, b_Vec_Cost, b_Vec_Bridge, b_Vec_Port⟩, b_Hops⟩ hp⟩
  · cases h)
def T11 : Table := (11, c11) :: T39
theorem T11_sound : Table.Sound Go.Proofs.Try.prog Hx T11 := Table.sound_cons s11 T39_sound
/- FlagsOfS -/
def o9 (b : Bpdu) : Bool × List Row × List Row := (true, [[.int .i64 (flagsOf b)]], [])
def c9 : Contract
  | [[.bool b_Change, .bool b_Ask, .bool b_Agree, .bool b_Learn, .bool b_Open, .int .i64 b_Role, .int .i64 b_Vec_Root, .int .i64 b_Vec_Cost, .int .i64 b_Vec_Bridge, .int .i64 b_Vec_Port, .int .i64 b_Hops]] => some ((o9 ⟨b_Change, b_Ask, b_Agree, b_Learn, b_Open, b_Role, ⟨b_Vec_Root, b_Vec_Cost, b_Vec_Bridge, b_Vec_Port⟩, b_Hops⟩).1, (o9 ⟨b_Change, b_Ask, b_Agree, b_Learn, b_Open, b_Role, ⟨b_Vec_Root, b_Vec_Cost, b_Vec_Bridge, b_Vec_Port⟩, b_Hops⟩).2.1, (o9 ⟨b_Change, b_Ask, b_Agree, b_Learn, b_Open, b_Role, ⟨b_Vec_Root, b_Vec_Cost, b_Vec_Bridge, b_Vec_Port⟩, b_Hops⟩).2.2)
  | _ => none

theorem r9 (b : Bpdu) (n : Nat) : evFn ⟨Go.Proofs.Try.prog, Hx, 9⟩ T11.call n Go.Proofs.Try.f9 [[.bool b.Change, .bool b.Ask, .bool b.Agree, .bool b.Learn, .bool b.Open, .int .i64 b.Role, .int .i64 b.Vec.Root, .int .i64 b.Vec.Cost, .int .i64 b.Vec.Bridge, .int .i64 b.Vec.Port, .int .i64 b.Hops]] = bif Bpdu.Role b == 2 then some ([[D.int IntKind.i64 (IntKind.wrap IntKind.i64 (IntKind.wrap IntKind.i64 (IntKind.wrap IntKind.i64 (IntKind.wrap IntKind.i64 (IntKind.wrap IntKind.i64 (bitI (Bpdu.Change b) (1) + IntKind.wrap IntKind.i64 (2 * bitI (Bpdu.Ask b) (1))) + IntKind.wrap IntKind.i64 (16 * bitI (Bpdu.Learn b) (1))) + IntKind.wrap IntKind.i64 (32 * bitI (Bpdu.Open b) (1))) + IntKind.wrap IntKind.i64 (64 * bitI (Bpdu.Agree b) (1))) + 12))]], []) else bif Bpdu.Role b == 1 then some ([[D.int IntKind.i64 (IntKind.wrap IntKind.i64 (IntKind.wrap IntKind.i64 (IntKind.wrap IntKind.i64 (IntKind.wrap IntKind.i64 (IntKind.wrap IntKind.i64 (bitI (Bpdu.Change b) (1) + IntKind.wrap IntKind.i64 (2 * bitI (Bpdu.Ask b) (1))) + IntKind.wrap IntKind.i64 (16 * bitI (Bpdu.Learn b) (1))) + IntKind.wrap IntKind.i64 (32 * bitI (Bpdu.Open b) (1))) + IntKind.wrap IntKind.i64 (64 * bitI (Bpdu.Agree b) (1))) + 8))]], []) else bif Bpdu.Role b == 3 then some ([[D.int IntKind.i64 (IntKind.wrap IntKind.i64 (IntKind.wrap IntKind.i64 (IntKind.wrap IntKind.i64 (IntKind.wrap IntKind.i64 (IntKind.wrap IntKind.i64 (bitI (Bpdu.Change b) (1) + IntKind.wrap IntKind.i64 (2 * bitI (Bpdu.Ask b) (1))) + IntKind.wrap IntKind.i64 (16 * bitI (Bpdu.Learn b) (1))) + IntKind.wrap IntKind.i64 (32 * bitI (Bpdu.Open b) (1))) + IntKind.wrap IntKind.i64 (64 * bitI (Bpdu.Agree b) (1))) + 4))]], []) else some ([[D.int IntKind.i64 (IntKind.wrap IntKind.i64 (IntKind.wrap IntKind.i64 (IntKind.wrap IntKind.i64 (IntKind.wrap IntKind.i64 (bitI (Bpdu.Change b) (1) + IntKind.wrap IntKind.i64 (2 * bitI (Bpdu.Ask b) (1))) + IntKind.wrap IntKind.i64 (16 * bitI (Bpdu.Learn b) (1))) + IntKind.wrap IntKind.i64 (32 * bitI (Bpdu.Open b) (1))) + IntKind.wrap IntKind.i64 (64 * bitI (Bpdu.Agree b) (1))))]], []) := by kernel_rfl
theorem m9 (b : Bpdu) (hpre : (o9 b).1 = true) : evFn ⟨Go.Proofs.Try.prog, Hx, 9⟩ T11.call 0 Go.Proofs.Try.f9 [[.bool b.Change, .bool b.Ask, .bool b.Agree, .bool b.Learn, .bool b.Open, .int .i64 b.Role, .int .i64 b.Vec.Root, .int .i64 b.Vec.Cost, .int .i64 b.Vec.Bridge, .int .i64 b.Vec.Port, .int .i64 b.Hops]] = some (o9 b).2 := by
  refine (r9 b _).trans ?_
  show _ = (some ([[.int .i64 (flagsOf b)]], []) : Option (List Row × List Row))
  replace hpre : (true) = true := hpre
  have h1 := bitI_b b.Change (f := 1) (by omega)
  have h2 := bitI_b b.Ask (f := 2) (by omega)
  have h3 := bitI_b b.Learn (f := 16) (by omega)
  have h4 := bitI_b b.Open (f := 32) (by omega)
  have h5 := bitI_b b.Agree (f := 64) (by omega)
  have h6 := roleB_b b.Role
  unfold flagsOf
  simp only [bitI_mul]
  simp (disch := omega) only [wrap_sm]
  unfold roleB
  cases h7 : (b.Role == 2) <;> cases h8 : (b.Role == 1) <;> cases h9 : (b.Role == 3) <;> simp only [cond_true, cond_false] <;> (refine congrArg (fun z => (some ([[D.int IntKind.i64 z]], []) : Option (List Row × List Row))) ?_; omega)
theorem s9 : SoundAt Go.Proofs.Try.prog Hx 9 c9 := soundAt_of T11_sound mixed Go.Proofs.Try.func9 (by kernel_rfl) (by
  intro rows r h
  unfold c9 at h
  split at h
  · rename_i b_Change b_Ask b_Agree b_Learn b_Open b_Role b_Vec_Root b_Vec_Cost b_Vec_Bridge b_Vec_Port b_Hops
    obtain ⟨hp, hr⟩ := Prod.mk.inj (Option.some.inj h)
    subst hr
    exact ⟨_, m9 ⟨b_Change, b_Ask, b_Agree, b_Learn, b_Open, b_Role, ⟨b_Vec_Root, b_Vec_Cost, b_Vec_Bridge, b_Vec_Port⟩, b_Hops⟩ hp⟩
  · cases h)
def T9 : Table := (9, c9) :: T11
theorem T9_sound : Table.Sound Go.Proofs.Try.prog Hx T9 := Table.sound_cons s9 T11_sound
/- BpduOk -/
def o46 (b : Bpdu) : Bool × List Row × List Row := (true, [[.bool (bpduOk b)]], [])
def c46 : Contract
  | [[.bool b_Change, .bool b_Ask, .bool b_Agree, .bool b_Learn, .bool b_Open, .int .i64 b_Role, .int .i64 b_Vec_Root, .int .i64 b_Vec_Cost, .int .i64 b_Vec_Bridge, .int .i64 b_Vec_Port, .int .i64 b_Hops]] => some ((o46 ⟨b_Change, b_Ask, b_Agree, b_Learn, b_Open, b_Role, ⟨b_Vec_Root, b_Vec_Cost, b_Vec_Bridge, b_Vec_Port⟩, b_Hops⟩).1, (o46 ⟨b_Change, b_Ask, b_Agree, b_Learn, b_Open, b_Role, ⟨b_Vec_Root, b_Vec_Cost, b_Vec_Bridge, b_Vec_Port⟩, b_Hops⟩).2.1, (o46 ⟨b_Change, b_Ask, b_Agree, b_Learn, b_Open, b_Role, ⟨b_Vec_Root, b_Vec_Cost, b_Vec_Bridge, b_Vec_Port⟩, b_Hops⟩).2.2)
  | _ => none

theorem r46 (b : Bpdu) (n : Nat) : evFn ⟨Go.Proofs.Try.prog, Hx, 46⟩ T9.call n Go.Proofs.Try.f46 [[.bool b.Change, .bool b.Ask, .bool b.Agree, .bool b.Learn, .bool b.Open, .int .i64 b.Role, .int .i64 b.Vec.Root, .int .i64 b.Vec.Cost, .int .i64 b.Vec.Bridge, .int .i64 b.Vec.Port, .int .i64 b.Hops]] = bif inR (Bpdu.Role b) (0) (3) then bif vecOk (Bpdu.Vec b) then some ([[D.bool (isHopsB (Bpdu.Hops b))]], []) else some ([[D.bool false]], []) else some ([[D.bool false]], []) := by kernel_rfl
theorem m46 (b : Bpdu) (hpre : (o46 b).1 = true) : evFn ⟨Go.Proofs.Try.prog, Hx, 46⟩ T9.call 0 Go.Proofs.Try.f46 [[.bool b.Change, .bool b.Ask, .bool b.Agree, .bool b.Learn, .bool b.Open, .int .i64 b.Role, .int .i64 b.Vec.Root, .int .i64 b.Vec.Cost, .int .i64 b.Vec.Bridge, .int .i64 b.Vec.Port, .int .i64 b.Hops]] = some (o46 b).2 := by
  refine (r46 b _).trans ?_
  show _ = (some ([[.bool (bpduOk b)]], []) : Option (List Row × List Row))
  replace hpre : (true) = true := hpre
  unfold bpduOk
  simp only [Bool.cond_eq_ite]
  grind
theorem s46 : SoundAt Go.Proofs.Try.prog Hx 46 c46 := soundAt_of T9_sound mixed Go.Proofs.Try.func46 (by kernel_rfl) (by
  intro rows r h
  unfold c46 at h
  split at h
  · rename_i b_Change b_Ask b_Agree b_Learn b_Open b_Role b_Vec_Root b_Vec_Cost b_Vec_Bridge b_Vec_Port b_Hops
    obtain ⟨hp, hr⟩ := Prod.mk.inj (Option.some.inj h)
    subst hr
    exact ⟨_, m46 ⟨b_Change, b_Ask, b_Agree, b_Learn, b_Open, b_Role, ⟨b_Vec_Root, b_Vec_Cost, b_Vec_Bridge, b_Vec_Port⟩, b_Hops⟩ hp⟩
  · cases h)
def T46 : Table := (46, c46) :: T9
theorem T46_sound : Table.Sound Go.Proofs.Try.prog Hx T46 := Table.sound_cons s46 T9_sound
/- BpduOkS -/
def o44 (b : Bpdu) : Bool × List Row × List Row := (true, [[.bool (bpduOk b)]], [])
def c44 : Contract
  | [[.bool b_Change, .bool b_Ask, .bool b_Agree, .bool b_Learn, .bool b_Open, .int .i64 b_Role, .int .i64 b_Vec_Root, .int .i64 b_Vec_Cost, .int .i64 b_Vec_Bridge, .int .i64 b_Vec_Port, .int .i64 b_Hops]] => some ((o44 ⟨b_Change, b_Ask, b_Agree, b_Learn, b_Open, b_Role, ⟨b_Vec_Root, b_Vec_Cost, b_Vec_Bridge, b_Vec_Port⟩, b_Hops⟩).1, (o44 ⟨b_Change, b_Ask, b_Agree, b_Learn, b_Open, b_Role, ⟨b_Vec_Root, b_Vec_Cost, b_Vec_Bridge, b_Vec_Port⟩, b_Hops⟩).2.1, (o44 ⟨b_Change, b_Ask, b_Agree, b_Learn, b_Open, b_Role, ⟨b_Vec_Root, b_Vec_Cost, b_Vec_Bridge, b_Vec_Port⟩, b_Hops⟩).2.2)
  | _ => none

theorem r44 (b : Bpdu) (n : Nat) : evFn ⟨Go.Proofs.Try.prog, Hx, 44⟩ T46.call n Go.Proofs.Try.f44 [[.bool b.Change, .bool b.Ask, .bool b.Agree, .bool b.Learn, .bool b.Open, .int .i64 b.Role, .int .i64 b.Vec.Root, .int .i64 b.Vec.Cost, .int .i64 b.Vec.Bridge, .int .i64 b.Vec.Port, .int .i64 b.Hops]] = bif inR (Bpdu.Role b) (0) (3) then bif vecOk (Bpdu.Vec b) then some ([[D.bool (inR (Bpdu.Hops b) (0) (8))]], []) else some ([[D.bool false]], []) else some ([[D.bool false]], []) := by kernel_rfl
theorem m44 (b : Bpdu) (hpre : (o44 b).1 = true) : evFn ⟨Go.Proofs.Try.prog, Hx, 44⟩ T46.call 0 Go.Proofs.Try.f44 [[.bool b.Change, .bool b.Ask, .bool b.Agree, .bool b.Learn, .bool b.Open, .int .i64 b.Role, .int .i64 b.Vec.Root, .int .i64 b.Vec.Cost, .int .i64 b.Vec.Bridge, .int .i64 b.Vec.Port, .int .i64 b.Hops]] = some (o44 b).2 := by
  refine (r44 b _).trans ?_
  show _ = (some ([[.bool (bpduOk b)]], []) : Option (List Row × List Row))
  replace hpre : (true) = true := hpre
  unfold bpduOk isHopsB
  simp only [Bool.cond_eq_ite]
  grind
theorem s44 : SoundAt Go.Proofs.Try.prog Hx 44 c44 := soundAt_of T46_sound mixed Go.Proofs.Try.func44 (by kernel_rfl) (by
  intro rows r h
  unfold c44 at h
  split at h
  · rename_i b_Change b_Ask b_Agree b_Learn b_Open b_Role b_Vec_Root b_Vec_Cost b_Vec_Bridge b_Vec_Port b_Hops
    obtain ⟨hp, hr⟩ := Prod.mk.inj (Option.some.inj h)
    subst hr
    exact ⟨_, m44 ⟨b_Change, b_Ask, b_Agree, b_Learn, b_Open, b_Role, ⟨b_Vec_Root, b_Vec_Cost, b_Vec_Bridge, b_Vec_Port⟩, b_Hops⟩ hp⟩
  · cases h)
def T44 : Table := (44, c44) :: T46
theorem T44_sound : Table.Sound Go.Proofs.Try.prog Hx T44 := Table.sound_cons s44 T46_sound
end Go.Ev
end
