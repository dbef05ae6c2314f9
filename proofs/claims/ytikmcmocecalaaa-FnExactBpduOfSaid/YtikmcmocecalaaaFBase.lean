/- Contracts of functions, each by its evaluation. -/
import Derived.Test.YtikmcmocecalaaaEvMd
import Derived.Test.YtikmcmocecalaaaProg
import Derived.KernelRfl
import Derived.Test.YtikmcmocecalaaaFNum
set_option linter.unusedVariables false
set_option linter.unusedSimpArgs false
set_option maxRecDepth 100000
noncomputable section
open List (getD length drop take set append replicate all isEmpty)
open Int (toNat ofNat)
open Go.IntKind (i64 wrap)
open Go.Proofs.Try (prog)
namespace Go.Ev
open Go.RowKit Go.Md
end Go.Ev
namespace Go.Md
open Go Go.Ev
def isPortB (n : Int) : Bool := inR n 0 3
def isHopsB (n : Int) : Bool := inR n 0 8
def vecOk (v : Vec) : Bool := inR v.Root 1 9 && (inR v.Bridge 1 9 && (decide (v.Root ≤ v.Bridge) && (inR v.Cost 0 20 && (((v.Cost == 0) == (v.Root == v.Bridge)) && isPortB v.Port))))
def bitI (on : Bool) (f : Int) : Int := bif on then f else 0
def roleB (r : Int) : Int := bif r == 2 then 3 else bif r == 1 then 2 else bif r == 3 then 1 else 0
def flagsOf (b : Bpdu) : Int := bitI b.Change 1 + bitI b.Ask 2 + 4 * roleB b.Role + bitI b.Learn 16 + bitI b.Open 32 + bitI b.Agree 64
theorem bitI_b (on : Bool) {f : Int} (h : 0 ≤ f) : 0 ≤ bitI on f ∧ bitI on f ≤ f := by cases on <;> simp [bitI, h]
theorem bitI_mul (on : Bool) (k : Int) : k * bitI on 1 = bitI on k := by cases on <;> simp [bitI]
theorem roleB_b (r : Int) : 0 ≤ roleB r ∧ roleB r ≤ 3 := by unfold roleB; simp only [Bool.cond_eq_ite]; grind
def bpduOk (b : Bpdu) : Bool := inR b.Role 0 3 && (vecOk b.Vec && isHopsB b.Hops)
end Go.Md
namespace Go.Ev
open Go.Md
/- isPort -/
def o91 (n_ : Int) : Bool × List Row × List Row := (true, [[.bool (isPortB n_)]], [])
def c91 : Contract
  | [[.int .i64 n_]] => some ((o91 n_).1, (o91 n_).2.1, (o91 n_).2.2)
  | _ => none

theorem r91 (n_ : Int) (n : Nat) : evFn ⟨prog, Hx, 91⟩ T74.call n Go.Proofs.Try.f91 [[.int .i64 n_]] = some ([[D.bool (inR n_ (0) (3))]], []) := by kernel_rfl
theorem m91 (n_ : Int) (hpre : (o91 n_).1 = true) : evFn ⟨Go.Proofs.Try.prog, Hx, 91⟩ T74.call 0 Go.Proofs.Try.f91 [[.int .i64 n_]] = some (o91 n_).2 := by
  refine (r91 n_ _).trans ?_
  show _ = (some ([[.bool (isPortB n_)]], []) : Option (List Row × List Row))
  replace hpre : (true) = true := hpre
  rfl
theorem s91 : SoundAt Go.Proofs.Try.prog Hx 91 c91 := soundAt_of T74_sound mixed Go.Proofs.Try.func91 (by kernel_rfl) (by
  intro rows r h
  unfold c91 at h
  split at h
  · rename_i n_
    obtain ⟨hp, hr⟩ := Prod.mk.inj (Option.some.inj h)
    subst hr
    exact ⟨_, m91 n_ hp⟩
  · cases h)
def T91 : Table := (91, c91) :: T74
theorem T91_sound : Table.Sound Go.Proofs.Try.prog Hx T91 := Table.sound_cons s91 T74_sound
/- isHops -/
def o77 (n_ : Int) : Bool × List Row × List Row := (true, [[.bool (isHopsB n_)]], [])
def c77 : Contract
  | [[.int .i64 n_]] => some ((o77 n_).1, (o77 n_).2.1, (o77 n_).2.2)
  | _ => none

theorem r77 (n_ : Int) (n : Nat) : evFn ⟨prog, Hx, 77⟩ T91.call n Go.Proofs.Try.f77 [[.int .i64 n_]] = some ([[D.bool (inR n_ (0) (8))]], []) := by kernel_rfl
theorem m77 (n_ : Int) (hpre : (o77 n_).1 = true) : evFn ⟨Go.Proofs.Try.prog, Hx, 77⟩ T91.call 0 Go.Proofs.Try.f77 [[.int .i64 n_]] = some (o77 n_).2 := by
  refine (r77 n_ _).trans ?_
  show _ = (some ([[.bool (isHopsB n_)]], []) : Option (List Row × List Row))
  replace hpre : (true) = true := hpre
  rfl
theorem s77 : SoundAt Go.Proofs.Try.prog Hx 77 c77 := soundAt_of T91_sound mixed Go.Proofs.Try.func77 (by kernel_rfl) (by
  intro rows r h
  unfold c77 at h
  split at h
  · rename_i n_
    obtain ⟨hp, hr⟩ := Prod.mk.inj (Option.some.inj h)
    subst hr
    exact ⟨_, m77 n_ hp⟩
  · cases h)
def T77 : Table := (77, c77) :: T91
theorem T77_sound : Table.Sound Go.Proofs.Try.prog Hx T77 := Table.sound_cons s77 T91_sound
/- VecOk -/
def o76 (v : Vec) : Bool × List Row × List Row := (true, [[.bool (vecOk v)]], [])
def c76 : Contract
  | [[.int .i64 v_Root, .int .i64 v_Cost, .int .i64 v_Bridge, .int .i64 v_Port]] => some ((o76 ⟨v_Root, v_Cost, v_Bridge, v_Port⟩).1, (o76 ⟨v_Root, v_Cost, v_Bridge, v_Port⟩).2.1, (o76 ⟨v_Root, v_Cost, v_Bridge, v_Port⟩).2.2)
  | _ => none

theorem r76 (v : Vec) (n : Nat) : evFn ⟨prog, Hx, 76⟩ T77.call n Go.Proofs.Try.f76 [[.int .i64 v.Root, .int .i64 v.Cost, .int .i64 v.Bridge, .int .i64 v.Port]] = bif !inR (Vec.Root v) (1) (9) then some ([[D.bool false]], []) else bif !inR (Vec.Bridge v) (1) (9) then some ([[D.bool false]], []) else bif decide (Vec.Root v > Vec.Bridge v) then some ([[D.bool false]], []) else bif !isPortB (Vec.Port v) then some ([[D.bool false]], []) else bif inR (Vec.Cost v) (0) (20) then some ([[D.bool (decide ((Vec.Cost v == 0) = (Vec.Root v == Vec.Bridge v)))]], []) else some ([[D.bool false]], []) := by kernel_rfl
theorem m76 (v : Vec) (hpre : (o76 v).1 = true) : evFn ⟨Go.Proofs.Try.prog, Hx, 76⟩ T77.call 0 Go.Proofs.Try.f76 [[.int .i64 v.Root, .int .i64 v.Cost, .int .i64 v.Bridge, .int .i64 v.Port]] = some (o76 v).2 := by
  refine (r76 v _).trans ?_
  show _ = (some ([[.bool (vecOk v)]], []) : Option (List Row × List Row))
  replace hpre : (true) = true := hpre
  unfold vecOk
  simp only [Bool.cond_eq_ite]
  grind
theorem s76 : SoundAt Go.Proofs.Try.prog Hx 76 c76 := soundAt_of T77_sound mixed Go.Proofs.Try.func76 (by kernel_rfl) (by
  intro rows r h
  unfold c76 at h
  split at h
  · rename_i v_Root v_Cost v_Bridge v_Port
    obtain ⟨hp, hr⟩ := Prod.mk.inj (Option.some.inj h)
    subst hr
    exact ⟨_, m76 ⟨v_Root, v_Cost, v_Bridge, v_Port⟩ hp⟩
  · cases h)
def T76 : Table := (76, c76) :: T77
theorem T76_sound : Table.Sound Go.Proofs.Try.prog Hx T76 := Table.sound_cons s76 T77_sound
/- VecOkS -/
def o73 (v : Vec) : Bool × List Row × List Row := (true, [[.bool (vecOk v)]], [])
def c73 : Contract
  | [[.int .i64 v_Root, .int .i64 v_Cost, .int .i64 v_Bridge, .int .i64 v_Port]] => some ((o73 ⟨v_Root, v_Cost, v_Bridge, v_Port⟩).1, (o73 ⟨v_Root, v_Cost, v_Bridge, v_Port⟩).2.1, (o73 ⟨v_Root, v_Cost, v_Bridge, v_Port⟩).2.2)
  | _ => none

theorem r73 (v : Vec) (n : Nat) : evFn ⟨prog, Hx, 73⟩ T76.call n Go.Proofs.Try.f73 [[.int .i64 v.Root, .int .i64 v.Cost, .int .i64 v.Bridge, .int .i64 v.Port]] = bif inR (Vec.Root v) (1) (9) then bif inR (Vec.Bridge v) (1) (9) then bif decide (Vec.Root v ≤ Vec.Bridge v) then bif inR (Vec.Cost v) (0) (20) then bif decide ((Vec.Cost v == 0) = (Vec.Root v == Vec.Bridge v)) then some ([[D.bool (inR (Vec.Port v) (0) (3))]], []) else some ([[D.bool false]], []) else some ([[D.bool false]], []) else some ([[D.bool false]], []) else some ([[D.bool false]], []) else some ([[D.bool false]], []) := by kernel_rfl
theorem m73 (v : Vec) (hpre : (o73 v).1 = true) : evFn ⟨Go.Proofs.Try.prog, Hx, 73⟩ T76.call 0 Go.Proofs.Try.f73 [[.int .i64 v.Root, .int .i64 v.Cost, .int .i64 v.Bridge, .int .i64 v.Port]] = some (o73 v).2 := by
  refine (r73 v _).trans ?_
  show _ = (some ([[.bool (vecOk v)]], []) : Option (List Row × List Row))
  replace hpre : (true) = true := hpre
  unfold vecOk isPortB
  simp only [Bool.cond_eq_ite]
  grind
theorem s73 : SoundAt Go.Proofs.Try.prog Hx 73 c73 := soundAt_of T76_sound mixed Go.Proofs.Try.func73 (by kernel_rfl) (by
  intro rows r h
  unfold c73 at h
  split at h
  · rename_i v_Root v_Cost v_Bridge v_Port
    obtain ⟨hp, hr⟩ := Prod.mk.inj (Option.some.inj h)
    subst hr
    exact ⟨_, m73 ⟨v_Root, v_Cost, v_Bridge, v_Port⟩ hp⟩
  · cases h)
def T73 : Table := (73, c73) :: T76
theorem T73_sound : Table.Sound Go.Proofs.Try.prog Hx T73 := Table.sound_cons s73 T76_sound
/- bit -/
def o43 (on : Bool) (flag : Int) : Bool × List Row × List Row := (true, [[.int .i64 (bitI on flag)]], [])
def c43 : Contract
  | [[.bool on], [.int .i64 flag]] => some ((o43 on flag).1, (o43 on flag).2.1, (o43 on flag).2.2)
  | _ => none

theorem r43 (on : Bool) (flag : Int) (n : Nat) : evFn ⟨prog, Hx, 43⟩ T73.call n Go.Proofs.Try.f43 [[.bool on], [.int .i64 flag]] = bif on then some ([[D.int i64 flag]], []) else some ([[D.int i64 (0)]], []) := by kernel_rfl
theorem m43 (on : Bool) (flag : Int) (hpre : (o43 on flag).1 = true) : evFn ⟨Go.Proofs.Try.prog, Hx, 43⟩ T73.call 0 Go.Proofs.Try.f43 [[.bool on], [.int .i64 flag]] = some (o43 on flag).2 := by
  refine (r43 on flag _).trans ?_
  show _ = (some ([[.int .i64 (bitI on flag)]], []) : Option (List Row × List Row))
  replace hpre : (true) = true := hpre
  cases on <;> rfl
theorem s43 : SoundAt Go.Proofs.Try.prog Hx 43 c43 := soundAt_of T73_sound mixed Go.Proofs.Try.func43 (by kernel_rfl) (by
  intro rows r h
  unfold c43 at h
  split at h
  · rename_i on flag
    obtain ⟨hp, hr⟩ := Prod.mk.inj (Option.some.inj h)
    subst hr
    exact ⟨_, m43 on flag hp⟩
  · cases h)
def T43 : Table := (43, c43) :: T73
theorem T43_sound : Table.Sound Go.Proofs.Try.prog Hx T43 := Table.sound_cons s43 T73_sound
/- l1Bit -/
def o39 (on : Bool) : Bool × List Row × List Row := (true, [[.int .i64 (bitI on 1)]], [])
def c39 : Contract
  | [[.bool on]] => some ((o39 on).1, (o39 on).2.1, (o39 on).2.2)
  | _ => none

theorem r39 (on : Bool) (n : Nat) : evFn ⟨prog, Hx, 39⟩ T43.call n Go.Proofs.Try.f39 [[.bool on]] = bif on then some ([[D.int i64 (1)]], []) else some ([[D.int i64 (0)]], []) := by kernel_rfl
theorem m39 (on : Bool) (hpre : (o39 on).1 = true) : evFn ⟨Go.Proofs.Try.prog, Hx, 39⟩ T43.call 0 Go.Proofs.Try.f39 [[.bool on]] = some (o39 on).2 := by
  refine (r39 on _).trans ?_
  show _ = (some ([[.int .i64 (bitI on 1)]], []) : Option (List Row × List Row))
  replace hpre : (true) = true := hpre
  cases on <;> rfl
theorem s39 : SoundAt Go.Proofs.Try.prog Hx 39 c39 := soundAt_of T43_sound mixed Go.Proofs.Try.func39 (by kernel_rfl) (by
  intro rows r h
  unfold c39 at h
  split at h
  · rename_i on
    obtain ⟨hp, hr⟩ := Prod.mk.inj (Option.some.inj h)
    subst hr
    exact ⟨_, m39 on hp⟩
  · cases h)
def T39 : Table := (39, c39) :: T43
theorem T39_sound : Table.Sound Go.Proofs.Try.prog Hx T39 := Table.sound_cons s39 T43_sound
/- roleBits -/
def o100 (role : Int) : Bool × List Row × List Row := (true, [[.int .i64 (roleB role)]], [])
def c100 : Contract
  | [[.int .i64 role]] => some ((o100 role).1, (o100 role).2.1, (o100 role).2.2)
  | _ => none

theorem r100 (role : Int) (n : Nat) : evFn ⟨prog, Hx, 100⟩ T39.call n Go.Proofs.Try.f100 [[.int .i64 role]] = bif role == 2 then some ([[D.int i64 (3)]], []) else bif role == 1 then some ([[D.int i64 (2)]], []) else bif role == 3 then some ([[D.int i64 (1)]], []) else some ([[D.int i64 (0)]], []) := by kernel_rfl
theorem m100 (role : Int) (hpre : (o100 role).1 = true) : evFn ⟨Go.Proofs.Try.prog, Hx, 100⟩ T39.call 0 Go.Proofs.Try.f100 [[.int .i64 role]] = some (o100 role).2 := by
  refine (r100 role _).trans ?_
  show _ = (some ([[.int .i64 (roleB role)]], []) : Option (List Row × List Row))
  replace hpre : (true) = true := hpre
  unfold roleB
  simp only [Bool.cond_eq_ite]
  grind
theorem s100 : SoundAt Go.Proofs.Try.prog Hx 100 c100 := soundAt_of T39_sound mixed Go.Proofs.Try.func100 (by kernel_rfl) (by
  intro rows r h
  unfold c100 at h
  split at h
  · rename_i role
    obtain ⟨hp, hr⟩ := Prod.mk.inj (Option.some.inj h)
    subst hr
    exact ⟨_, m100 role hp⟩
  · cases h)
def T100 : Table := (100, c100) :: T39
theorem T100_sound : Table.Sound Go.Proofs.Try.prog Hx T100 := Table.sound_cons s100 T39_sound
/- FlagsOf -/
def o84 (b : Bpdu) : Bool × List Row × List Row := (true, [[.int .i64 (flagsOf b)]], [])
def c84 : Contract
  | [[.bool b_Change, .bool b_Ask, .bool b_Agree, .bool b_Learn, .bool b_Open, .int .i64 b_Role, .int .i64 b_Vec_Root, .int .i64 b_Vec_Cost, .int .i64 b_Vec_Bridge, .int .i64 b_Vec_Port, .int .i64 b_Hops]] => some ((o84 ⟨b_Change, b_Ask, b_Agree, b_Learn, b_Open, b_Role, ⟨b_Vec_Root, b_Vec_Cost, b_Vec_Bridge, b_Vec_Port⟩, b_Hops⟩).1, (o84 ⟨b_Change, b_Ask, b_Agree, b_Learn, b_Open, b_Role, ⟨b_Vec_Root, b_Vec_Cost, b_Vec_Bridge, b_Vec_Port⟩, b_Hops⟩).2.1, (o84 ⟨b_Change, b_Ask, b_Agree, b_Learn, b_Open, b_Role, ⟨b_Vec_Root, b_Vec_Cost, b_Vec_Bridge, b_Vec_Port⟩, b_Hops⟩).2.2)
  | _ => none

theorem r84 (b : Bpdu) (n : Nat) : evFn ⟨prog, Hx, 84⟩ T100.call n Go.Proofs.Try.f84 [[.bool b.Change, .bool b.Ask, .bool b.Agree, .bool b.Learn, .bool b.Open, .int .i64 b.Role, .int .i64 b.Vec.Root, .int .i64 b.Vec.Cost, .int .i64 b.Vec.Bridge, .int .i64 b.Vec.Port, .int .i64 b.Hops]] = some ([[D.int i64 (wrap i64 (wrap i64 (wrap i64 (wrap i64 (wrap i64 (bitI (Bpdu.Change b) (1) + bitI (Bpdu.Ask b) (2)) + wrap i64 (4 * roleB (Bpdu.Role b))) + bitI (Bpdu.Learn b) (16)) + bitI (Bpdu.Open b) (32)) + bitI (Bpdu.Agree b) (64)))]], []) := by kernel_rfl
theorem m84 (b : Bpdu) (hpre : (o84 b).1 = true) : evFn ⟨Go.Proofs.Try.prog, Hx, 84⟩ T100.call 0 Go.Proofs.Try.f84 [[.bool b.Change, .bool b.Ask, .bool b.Agree, .bool b.Learn, .bool b.Open, .int .i64 b.Role, .int .i64 b.Vec.Root, .int .i64 b.Vec.Cost, .int .i64 b.Vec.Bridge, .int .i64 b.Vec.Port, .int .i64 b.Hops]] = some (o84 b).2 := by
  refine (r84 b _).trans ?_
  show _ = (some ([[.int .i64 (flagsOf b)]], []) : Option (List Row × List Row))
  replace hpre : (true) = true := hpre
  have h1 := bitI_b b.Change (f := 1) (by omega)
  have h2 := bitI_b b.Ask (f := 2) (by omega)
  have h3 := bitI_b b.Learn (f := 16) (by omega)
  have h4 := bitI_b b.Open (f := 32) (by omega)
  have h5 := bitI_b b.Agree (f := 64) (by omega)
  have h6 := roleB_b b.Role
  unfold flagsOf
  simp (disch := omega) only [wrap_sm]
theorem s84 : SoundAt Go.Proofs.Try.prog Hx 84 c84 := soundAt_of T100_sound mixed Go.Proofs.Try.func84 (by kernel_rfl) (by
  intro rows r h
  unfold c84 at h
  split at h
  · rename_i b_Change b_Ask b_Agree b_Learn b_Open b_Role b_Vec_Root b_Vec_Cost b_Vec_Bridge b_Vec_Port b_Hops
    obtain ⟨hp, hr⟩ := Prod.mk.inj (Option.some.inj h)
    subst hr
    exact ⟨_, m84 ⟨b_Change, b_Ask, b_Agree, b_Learn, b_Open, b_Role, ⟨b_Vec_Root, b_Vec_Cost, b_Vec_Bridge, b_Vec_Port⟩, b_Hops⟩ hp⟩
  · cases h)
def T84 : Table := (84, c84) :: T100
theorem T84_sound : Table.Sound Go.Proofs.Try.prog Hx T84 := Table.sound_cons s84 T100_sound
/- FlagsOfS -/
def o82 (b : Bpdu) : Bool × List Row × List Row := (true, [[.int .i64 (flagsOf b)]], [])
def c82 : Contract
  | [[.bool b_Change, .bool b_Ask, .bool b_Agree, .bool b_Learn, .bool b_Open, .int .i64 b_Role, .int .i64 b_Vec_Root, .int .i64 b_Vec_Cost, .int .i64 b_Vec_Bridge, .int .i64 b_Vec_Port, .int .i64 b_Hops]] => some ((o82 ⟨b_Change, b_Ask, b_Agree, b_Learn, b_Open, b_Role, ⟨b_Vec_Root, b_Vec_Cost, b_Vec_Bridge, b_Vec_Port⟩, b_Hops⟩).1, (o82 ⟨b_Change, b_Ask, b_Agree, b_Learn, b_Open, b_Role, ⟨b_Vec_Root, b_Vec_Cost, b_Vec_Bridge, b_Vec_Port⟩, b_Hops⟩).2.1, (o82 ⟨b_Change, b_Ask, b_Agree, b_Learn, b_Open, b_Role, ⟨b_Vec_Root, b_Vec_Cost, b_Vec_Bridge, b_Vec_Port⟩, b_Hops⟩).2.2)
  | _ => none

theorem r82 (b : Bpdu) (n : Nat) : evFn ⟨prog, Hx, 82⟩ T84.call n Go.Proofs.Try.f82 [[.bool b.Change, .bool b.Ask, .bool b.Agree, .bool b.Learn, .bool b.Open, .int .i64 b.Role, .int .i64 b.Vec.Root, .int .i64 b.Vec.Cost, .int .i64 b.Vec.Bridge, .int .i64 b.Vec.Port, .int .i64 b.Hops]] = bif Bpdu.Role b == 2 then some ([[D.int i64 (wrap i64 (wrap i64 (wrap i64 (wrap i64 (wrap i64 (bitI (Bpdu.Change b) (1) + wrap i64 (2 * bitI (Bpdu.Ask b) (1))) + wrap i64 (16 * bitI (Bpdu.Learn b) (1))) + wrap i64 (32 * bitI (Bpdu.Open b) (1))) + wrap i64 (64 * bitI (Bpdu.Agree b) (1))) + 12))]], []) else bif Bpdu.Role b == 1 then some ([[D.int i64 (wrap i64 (wrap i64 (wrap i64 (wrap i64 (wrap i64 (bitI (Bpdu.Change b) (1) + wrap i64 (2 * bitI (Bpdu.Ask b) (1))) + wrap i64 (16 * bitI (Bpdu.Learn b) (1))) + wrap i64 (32 * bitI (Bpdu.Open b) (1))) + wrap i64 (64 * bitI (Bpdu.Agree b) (1))) + 8))]], []) else bif Bpdu.Role b == 3 then some ([[D.int i64 (wrap i64 (wrap i64 (wrap i64 (wrap i64 (wrap i64 (bitI (Bpdu.Change b) (1) + wrap i64 (2 * bitI (Bpdu.Ask b) (1))) + wrap i64 (16 * bitI (Bpdu.Learn b) (1))) + wrap i64 (32 * bitI (Bpdu.Open b) (1))) + wrap i64 (64 * bitI (Bpdu.Agree b) (1))) + 4))]], []) else some ([[D.int i64 (wrap i64 (wrap i64 (wrap i64 (wrap i64 (bitI (Bpdu.Change b) (1) + wrap i64 (2 * bitI (Bpdu.Ask b) (1))) + wrap i64 (16 * bitI (Bpdu.Learn b) (1))) + wrap i64 (32 * bitI (Bpdu.Open b) (1))) + wrap i64 (64 * bitI (Bpdu.Agree b) (1))))]], []) := by kernel_rfl
theorem m82 (b : Bpdu) (hpre : (o82 b).1 = true) : evFn ⟨Go.Proofs.Try.prog, Hx, 82⟩ T84.call 0 Go.Proofs.Try.f82 [[.bool b.Change, .bool b.Ask, .bool b.Agree, .bool b.Learn, .bool b.Open, .int .i64 b.Role, .int .i64 b.Vec.Root, .int .i64 b.Vec.Cost, .int .i64 b.Vec.Bridge, .int .i64 b.Vec.Port, .int .i64 b.Hops]] = some (o82 b).2 := by
  refine (r82 b _).trans ?_
  show _ = (some ([[.int .i64 (flagsOf b)]], []) : Option (List Row × List Row))
  replace hpre : (true) = true := hpre
  have h1 := bitI_b b.Change (f := 1) (by omega)
  have h2 := bitI_b b.Ask (f := 2) (by omega)
  have h3 := bitI_b b.Learn (f := 16) (by omega)
  have h4 := bitI_b b.Open (f := 32) (by omega)
  have h5 := bitI_b b.Agree (f := 64) (by omega)
  have h6 := roleB_b b.Role
  unfold flagsOf
  simp only [bitI_mul]
  simp (disch := omega) only [wrap_sm]
  unfold roleB
  cases h7 : (b.Role == 2) <;> cases h8 : (b.Role == 1) <;> cases h9 : (b.Role == 3) <;> simp only [cond_true, cond_false] <;> (refine congrArg (fun z => (some ([[D.int IntKind.i64 z]], []) : Option (List Row × List Row))) ?_; omega)
theorem s82 : SoundAt Go.Proofs.Try.prog Hx 82 c82 := soundAt_of T84_sound mixed Go.Proofs.Try.func82 (by kernel_rfl) (by
  intro rows r h
  unfold c82 at h
  split at h
  · rename_i b_Change b_Ask b_Agree b_Learn b_Open b_Role b_Vec_Root b_Vec_Cost b_Vec_Bridge b_Vec_Port b_Hops
    obtain ⟨hp, hr⟩ := Prod.mk.inj (Option.some.inj h)
    subst hr
    exact ⟨_, m82 ⟨b_Change, b_Ask, b_Agree, b_Learn, b_Open, b_Role, ⟨b_Vec_Root, b_Vec_Cost, b_Vec_Bridge, b_Vec_Port⟩, b_Hops⟩ hp⟩
  · cases h)
def T82 : Table := (82, c82) :: T84
theorem T82_sound : Table.Sound Go.Proofs.Try.prog Hx T82 := Table.sound_cons s82 T84_sound
/- BpduOk -/
def o46 (b : Bpdu) : Bool × List Row × List Row := (true, [[.bool (bpduOk b)]], [])
def c46 : Contract
  | [[.bool b_Change, .bool b_Ask, .bool b_Agree, .bool b_Learn, .bool b_Open, .int .i64 b_Role, .int .i64 b_Vec_Root, .int .i64 b_Vec_Cost, .int .i64 b_Vec_Bridge, .int .i64 b_Vec_Port, .int .i64 b_Hops]] => some ((o46 ⟨b_Change, b_Ask, b_Agree, b_Learn, b_Open, b_Role, ⟨b_Vec_Root, b_Vec_Cost, b_Vec_Bridge, b_Vec_Port⟩, b_Hops⟩).1, (o46 ⟨b_Change, b_Ask, b_Agree, b_Learn, b_Open, b_Role, ⟨b_Vec_Root, b_Vec_Cost, b_Vec_Bridge, b_Vec_Port⟩, b_Hops⟩).2.1, (o46 ⟨b_Change, b_Ask, b_Agree, b_Learn, b_Open, b_Role, ⟨b_Vec_Root, b_Vec_Cost, b_Vec_Bridge, b_Vec_Port⟩, b_Hops⟩).2.2)
  | _ => none

theorem r46 (b : Bpdu) (n : Nat) : evFn ⟨prog, Hx, 46⟩ T82.call n Go.Proofs.Try.f46 [[.bool b.Change, .bool b.Ask, .bool b.Agree, .bool b.Learn, .bool b.Open, .int .i64 b.Role, .int .i64 b.Vec.Root, .int .i64 b.Vec.Cost, .int .i64 b.Vec.Bridge, .int .i64 b.Vec.Port, .int .i64 b.Hops]] = bif inR (Bpdu.Role b) (0) (3) then bif vecOk (Bpdu.Vec b) then some ([[D.bool (isHopsB (Bpdu.Hops b))]], []) else some ([[D.bool false]], []) else some ([[D.bool false]], []) := by kernel_rfl
theorem m46 (b : Bpdu) (hpre : (o46 b).1 = true) : evFn ⟨Go.Proofs.Try.prog, Hx, 46⟩ T82.call 0 Go.Proofs.Try.f46 [[.bool b.Change, .bool b.Ask, .bool b.Agree, .bool b.Learn, .bool b.Open, .int .i64 b.Role, .int .i64 b.Vec.Root, .int .i64 b.Vec.Cost, .int .i64 b.Vec.Bridge, .int .i64 b.Vec.Port, .int .i64 b.Hops]] = some (o46 b).2 := by
  refine (r46 b _).trans ?_
  show _ = (some ([[.bool (bpduOk b)]], []) : Option (List Row × List Row))
  replace hpre : (true) = true := hpre
  unfold bpduOk
  simp only [Bool.cond_eq_ite]
  grind
theorem s46 : SoundAt Go.Proofs.Try.prog Hx 46 c46 := soundAt_of T82_sound mixed Go.Proofs.Try.func46 (by kernel_rfl) (by
  intro rows r h
  unfold c46 at h
  split at h
  · rename_i b_Change b_Ask b_Agree b_Learn b_Open b_Role b_Vec_Root b_Vec_Cost b_Vec_Bridge b_Vec_Port b_Hops
    obtain ⟨hp, hr⟩ := Prod.mk.inj (Option.some.inj h)
    subst hr
    exact ⟨_, m46 ⟨b_Change, b_Ask, b_Agree, b_Learn, b_Open, b_Role, ⟨b_Vec_Root, b_Vec_Cost, b_Vec_Bridge, b_Vec_Port⟩, b_Hops⟩ hp⟩
  · cases h)
def T46 : Table := (46, c46) :: T82
theorem T46_sound : Table.Sound Go.Proofs.Try.prog Hx T46 := Table.sound_cons s46 T82_sound
/- BpduOkS -/
def o81 (b : Bpdu) : Bool × List Row × List Row := (true, [[.bool (bpduOk b)]], [])
def c81 : Contract
  | [[.bool b_Change, .bool b_Ask, .bool b_Agree, .bool b_Learn, .bool b_Open, .int .i64 b_Role, .int .i64 b_Vec_Root, .int .i64 b_Vec_Cost, .int .i64 b_Vec_Bridge, .int .i64 b_Vec_Port, .int .i64 b_Hops]] => some ((o81 ⟨b_Change, b_Ask, b_Agree, b_Learn, b_Open, b_Role, ⟨b_Vec_Root, b_Vec_Cost, b_Vec_Bridge, b_Vec_Port⟩, b_Hops⟩).1, (o81 ⟨b_Change, b_Ask, b_Agree, b_Learn, b_Open, b_Role, ⟨b_Vec_Root, b_Vec_Cost, b_Vec_Bridge, b_Vec_Port⟩, b_Hops⟩).2.1, (o81 ⟨b_Change, b_Ask, b_Agree, b_Learn, b_Open, b_Role, ⟨b_Vec_Root, b_Vec_Cost, b_Vec_Bridge, b_Vec_Port⟩, b_Hops⟩).2.2)
  | _ => none

theorem r81 (b : Bpdu) (n : Nat) : evFn ⟨prog, Hx, 81⟩ T46.call n Go.Proofs.Try.f81 [[.bool b.Change, .bool b.Ask, .bool b.Agree, .bool b.Learn, .bool b.Open, .int .i64 b.Role, .int .i64 b.Vec.Root, .int .i64 b.Vec.Cost, .int .i64 b.Vec.Bridge, .int .i64 b.Vec.Port, .int .i64 b.Hops]] = bif inR (Bpdu.Role b) (0) (3) then bif vecOk (Bpdu.Vec b) then some ([[D.bool (inR (Bpdu.Hops b) (0) (8))]], []) else some ([[D.bool false]], []) else some ([[D.bool false]], []) := by kernel_rfl
theorem m81 (b : Bpdu) (hpre : (o81 b).1 = true) : evFn ⟨Go.Proofs.Try.prog, Hx, 81⟩ T46.call 0 Go.Proofs.Try.f81 [[.bool b.Change, .bool b.Ask, .bool b.Agree, .bool b.Learn, .bool b.Open, .int .i64 b.Role, .int .i64 b.Vec.Root, .int .i64 b.Vec.Cost, .int .i64 b.Vec.Bridge, .int .i64 b.Vec.Port, .int .i64 b.Hops]] = some (o81 b).2 := by
  refine (r81 b _).trans ?_
  show _ = (some ([[.bool (bpduOk b)]], []) : Option (List Row × List Row))
  replace hpre : (true) = true := hpre
  unfold bpduOk isHopsB
  simp only [Bool.cond_eq_ite]
  grind
theorem s81 : SoundAt Go.Proofs.Try.prog Hx 81 c81 := soundAt_of T46_sound mixed Go.Proofs.Try.func81 (by kernel_rfl) (by
  intro rows r h
  unfold c81 at h
  split at h
  · rename_i b_Change b_Ask b_Agree b_Learn b_Open b_Role b_Vec_Root b_Vec_Cost b_Vec_Bridge b_Vec_Port b_Hops
    obtain ⟨hp, hr⟩ := Prod.mk.inj (Option.some.inj h)
    subst hr
    exact ⟨_, m81 ⟨b_Change, b_Ask, b_Agree, b_Learn, b_Open, b_Role, ⟨b_Vec_Root, b_Vec_Cost, b_Vec_Bridge, b_Vec_Port⟩, b_Hops⟩ hp⟩
  · cases h)
def T81 : Table := (81, c81) :: T46
theorem T81_sound : Table.Sound Go.Proofs.Try.prog Hx T81 := Table.sound_cons s81 T46_sound
end Go.Ev
end
