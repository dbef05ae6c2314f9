/- Contracts of functions, each by its evaluation. -/
import Derived.Test.YtgklglkmfgfodaaEvMd
import Derived.Test.YtgklglkmfgfodaaProg
import Derived.KernelRfl
import Derived.Test.YtgklglkmfgfodaaFDraw
set_option linter.unusedVariables false
set_option linter.unusedSimpArgs false
set_option maxRecDepth 100000
noncomputable section
open List (getD length drop take set append replicate all isEmpty)
open Int (toNat ofNat)
open Go.IntKind (i64 wrap)
open Go.Proofs.Try (prog f39 f40 f41 f42 f73 f74 f75 f76 f77 f78 f79 func39 func40 func41 func42 func73 func74 func75 func76 func77 func78 func79)
namespace Go.Ev
open Go.RowKit Go.Md
end Go.Ev
namespace Go.Md
open Go Go.Ev
def isPortB (n : Int) : Bool := inR n 0 3
def isHopsB (n : Int) : Bool := inR n 0 8
def vecOk (v : Vec) : Bool := inR v.Root 1 9 && (inR v.Bridge 1 9 && (decide (v.Root ≤ v.Bridge) && (inR v.Cost 0 20 && (((v.Cost == 0) == (v.Root == v.Bridge)) && isPortB v.Port))))
def bitI (on : Bool) (f : Int) : Int := bif on then f else 0
def roleB (r : Int) : Int := bif r == 2 then 3 else bif r == 1 then 2 else bif r == 3 then 1 else 0
def flagsOf (b : Bpdu) : Int := bitI b.Change 1 + bitI b.Ask 2 + 4 * roleB b.Role + bitI b.Learn 16 + bitI b.Open 32 + bitI b.Agree 64
theorem bitI_b (on : Bool) {f : Int} (h : 0 ≤ f) : 0 ≤ bitI on f ∧ bitI on f ≤ f := by cases on <;> simp [bitI, h]
theorem bitI_mul (on : Bool) (k : Int) : k * bitI on 1 = bitI on k := by cases on <;> simp [bitI]
theorem roleB_b (r : Int) : 0 ≤ roleB r ∧ roleB r ≤ 3 := by unfold roleB; simp only [Bool.cond_eq_ite]; grind
def bpduOk (b : Bpdu) : Bool := inR b.Role 0 3 && (vecOk b.Vec && isHopsB b.Hops)
end Go.Md
namespace Go.Ev
open Go.Md
def o79 (n_ : Int) : Bool × List Row × List Row := (true, [[.bool (isPortB n_)]], [])
def c79 : Contract
  | [[.int .i64 n_]] => some ((o79 n_).1, (o79 n_).2.1, (o79 n_).2.2)
  | _ => none

theorem r79 (n_ : Int) (n : Nat) : evFn ⟨prog, Hx, 79⟩ T7.call n f79 [[.int .i64 n_]] = some ([[D.bool (inR n_ (0) (3))]], []) := by kernel_rfl
theorem m79 (n_ : Int) (hpre : (o79 n_).1 = true) : evFn ⟨Go.Proofs.Try.prog, Hx, 79⟩ T7.call 0 f79 [[.int .i64 n_]] = some (o79 n_).2 := by
  refine (r79 n_ _).trans ?_
  show _ = (some ([[.bool (isPortB n_)]], []) : Option (List Row × List Row))
  replace hpre : (true) = true := hpre
  rfl
theorem s79 : SoundAt Go.Proofs.Try.prog Hx 79 c79 := soundAt_of T7_sound mixed func79 (by kernel_rfl) (by
  intro rows r h
  unfold c79 at h
  split at h
  · rename_i n_
    obtain ⟨hp, hr⟩ := Prod.mk.inj (Option.some.inj h)
    subst hr
    exact ⟨_, m79 n_ hp⟩
  · cases h)
def T79 : Table := (79, c79) :: T7
theorem T79_sound : Table.Sound Go.Proofs.Try.prog Hx T79 := Table.sound_cons s79 T7_sound
def o74 (n_ : Int) : Bool × List Row × List Row := (true, [[.bool (isHopsB n_)]], [])
def c74 : Contract
  | [[.int .i64 n_]] => some ((o74 n_).1, (o74 n_).2.1, (o74 n_).2.2)
  | _ => none

theorem r74 (n_ : Int) (n : Nat) : evFn ⟨prog, Hx, 74⟩ T79.call n f74 [[.int .i64 n_]] = some ([[D.bool (inR n_ (0) (8))]], []) := by kernel_rfl
theorem m74 (n_ : Int) (hpre : (o74 n_).1 = true) : evFn ⟨Go.Proofs.Try.prog, Hx, 74⟩ T79.call 0 f74 [[.int .i64 n_]] = some (o74 n_).2 := by
  refine (r74 n_ _).trans ?_
  show _ = (some ([[.bool (isHopsB n_)]], []) : Option (List Row × List Row))
  replace hpre : (true) = true := hpre
  rfl
theorem s74 : SoundAt Go.Proofs.Try.prog Hx 74 c74 := soundAt_of T79_sound mixed func74 (by kernel_rfl) (by
  intro rows r h
  unfold c74 at h
  split at h
  · rename_i n_
    obtain ⟨hp, hr⟩ := Prod.mk.inj (Option.some.inj h)
    subst hr
    exact ⟨_, m74 n_ hp⟩
  · cases h)
def T74 : Table := (74, c74) :: T79
theorem T74_sound : Table.Sound Go.Proofs.Try.prog Hx T74 := Table.sound_cons s74 T79_sound
def o73 (v : Vec) : Bool × List Row × List Row := (true, [[.bool (vecOk v)]], [])
def c73 : Contract
  | [[.int .i64 v_Root, .int .i64 v_Cost, .int .i64 v_Bridge, .int .i64 v_Port]] => some ((o73 ⟨v_Root, v_Cost, v_Bridge, v_Port⟩).1, (o73 ⟨v_Root, v_Cost, v_Bridge, v_Port⟩).2.1, (o73 ⟨v_Root, v_Cost, v_Bridge, v_Port⟩).2.2)
  | _ => none

theorem r73 (v : Vec) (n : Nat) : evFn ⟨prog, Hx, 73⟩ T74.call n f73 [[.int .i64 v.Root, .int .i64 v.Cost, .int .i64 v.Bridge, .int .i64 v.Port]] = bif !inR (Vec.Root v) (1) (9) then some ([[D.bool false]], []) else bif !inR (Vec.Bridge v) (1) (9) then some ([[D.bool false]], []) else bif decide (Vec.Root v > Vec.Bridge v) then some ([[D.bool false]], []) else bif !isPortB (Vec.Port v) then some ([[D.bool false]], []) else bif inR (Vec.Cost v) (0) (20) then some ([[D.bool (decide ((Vec.Cost v == 0) = (Vec.Root v == Vec.Bridge v)))]], []) else some ([[D.bool false]], []) := by kernel_rfl
theorem m73 (v : Vec) (hpre : (o73 v).1 = true) : evFn ⟨Go.Proofs.Try.prog, Hx, 73⟩ T74.call 0 f73 [[.int .i64 v.Root, .int .i64 v.Cost, .int .i64 v.Bridge, .int .i64 v.Port]] = some (o73 v).2 := by
  refine (r73 v _).trans ?_
  show _ = (some ([[.bool (vecOk v)]], []) : Option (List Row × List Row))
  replace hpre : (true) = true := hpre
  unfold vecOk
  simp only [Bool.cond_eq_ite]
  grind
theorem s73 : SoundAt Go.Proofs.Try.prog Hx 73 c73 := soundAt_of T74_sound mixed func73 (by kernel_rfl) (by
  intro rows r h
  unfold c73 at h
  split at h
  · rename_i v_Root v_Cost v_Bridge v_Port
    obtain ⟨hp, hr⟩ := Prod.mk.inj (Option.some.inj h)
    subst hr
    exact ⟨_, m73 ⟨v_Root, v_Cost, v_Bridge, v_Port⟩ hp⟩
  · cases h)
def T73 : Table := (73, c73) :: T74
theorem T73_sound : Table.Sound Go.Proofs.Try.prog Hx T73 := Table.sound_cons s73 T74_sound
def o75 (v : Vec) : Bool × List Row × List Row := (true, [[.bool (vecOk v)]], [])
def c75 : Contract
  | [[.int .i64 v_Root, .int .i64 v_Cost, .int .i64 v_Bridge, .int .i64 v_Port]] => some ((o75 ⟨v_Root, v_Cost, v_Bridge, v_Port⟩).1, (o75 ⟨v_Root, v_Cost, v_Bridge, v_Port⟩).2.1, (o75 ⟨v_Root, v_Cost, v_Bridge, v_Port⟩).2.2)
  | _ => none

theorem r75 (v : Vec) (n : Nat) : evFn ⟨prog, Hx, 75⟩ T73.call n f75 [[.int .i64 v.Root, .int .i64 v.Cost, .int .i64 v.Bridge, .int .i64 v.Port]] = bif inR (Vec.Root v) (1) (9) then bif inR (Vec.Bridge v) (1) (9) then bif decide (Vec.Root v ≤ Vec.Bridge v) then bif inR (Vec.Cost v) (0) (20) then bif decide ((Vec.Cost v == 0) = (Vec.Root v == Vec.Bridge v)) then some ([[D.bool (inR (Vec.Port v) (0) (3))]], []) else some ([[D.bool false]], []) else some ([[D.bool false]], []) else some ([[D.bool false]], []) else some ([[D.bool false]], []) else some ([[D.bool false]], []) := by kernel_rfl
theorem m75 (v : Vec) (hpre : (o75 v).1 = true) : evFn ⟨Go.Proofs.Try.prog, Hx, 75⟩ T73.call 0 f75 [[.int .i64 v.Root, .int .i64 v.Cost, .int .i64 v.Bridge, .int .i64 v.Port]] = some (o75 v).2 := by
  refine (r75 v _).trans ?_
  show _ = (some ([[.bool (vecOk v)]], []) : Option (List Row × List Row))
  replace hpre : (true) = true := hpre
  unfold vecOk isPortB
  simp only [Bool.cond_eq_ite]
  grind
theorem s75 : SoundAt Go.Proofs.Try.prog Hx 75 c75 := soundAt_of T73_sound mixed func75 (by kernel_rfl) (by
  intro rows r h
  unfold c75 at h
  split at h
  · rename_i v_Root v_Cost v_Bridge v_Port
    obtain ⟨hp, hr⟩ := Prod.mk.inj (Option.some.inj h)
    subst hr
    exact ⟨_, m75 ⟨v_Root, v_Cost, v_Bridge, v_Port⟩ hp⟩
  · cases h)
def T75 : Table := (75, c75) :: T73
theorem T75_sound : Table.Sound Go.Proofs.Try.prog Hx T75 := Table.sound_cons s75 T73_sound
def o76 (on : Bool) (flag : Int) : Bool × List Row × List Row := (true, [[.int .i64 (bitI on flag)]], [])
def c76 : Contract
  | [[.bool on], [.int .i64 flag]] => some ((o76 on flag).1, (o76 on flag).2.1, (o76 on flag).2.2)
  | _ => none

theorem r76 (on : Bool) (flag : Int) (n : Nat) : evFn ⟨prog, Hx, 76⟩ T75.call n f76 [[.bool on], [.int .i64 flag]] = bif on then some ([[D.int i64 flag]], []) else some ([[D.int i64 (0)]], []) := by kernel_rfl
theorem m76 (on : Bool) (flag : Int) (hpre : (o76 on flag).1 = true) : evFn ⟨Go.Proofs.Try.prog, Hx, 76⟩ T75.call 0 f76 [[.bool on], [.int .i64 flag]] = some (o76 on flag).2 := by
  refine (r76 on flag _).trans ?_
  show _ = (some ([[.int .i64 (bitI on flag)]], []) : Option (List Row × List Row))
  replace hpre : (true) = true := hpre
  cases on <;> rfl
theorem s76 : SoundAt Go.Proofs.Try.prog Hx 76 c76 := soundAt_of T75_sound mixed func76 (by kernel_rfl) (by
  intro rows r h
  unfold c76 at h
  split at h
  · rename_i on flag
    obtain ⟨hp, hr⟩ := Prod.mk.inj (Option.some.inj h)
    subst hr
    exact ⟨_, m76 on flag hp⟩
  · cases h)
def T76 : Table := (76, c76) :: T75
theorem T76_sound : Table.Sound Go.Proofs.Try.prog Hx T76 := Table.sound_cons s76 T75_sound
def o78 (on : Bool) : Bool × List Row × List Row := (true, [[.int .i64 (bitI on 1)]], [])
def c78 : Contract
  | [[.bool on]] => some ((o78 on).1, (o78 on).2.1, (o78 on).2.2)
  | _ => none

theorem r78 (on : Bool) (n : Nat) : evFn ⟨prog, Hx, 78⟩ T76.call n f78 [[.bool on]] = bif on then some ([[D.int i64 (1)]], []) else some ([[D.int i64 (0)]], []) := by kernel_rfl
theorem m78 (on : Bool) (hpre : (o78 on).1 = true) : evFn ⟨Go.Proofs.Try.prog, Hx, 78⟩ T76.call 0 f78 [[.bool on]] = some (o78 on).2 := by
  refine (r78 on _).trans ?_
  show _ = (some ([[.int .i64 (bitI on 1)]], []) : Option (List Row × List Row))
  replace hpre : (true) = true := hpre
  cases on <;> rfl
theorem s78 : SoundAt Go.Proofs.Try.prog Hx 78 c78 := soundAt_of T76_sound mixed func78 (by kernel_rfl) (by
  intro rows r h
  unfold c78 at h
  split at h
  · rename_i on
    obtain ⟨hp, hr⟩ := Prod.mk.inj (Option.some.inj h)
    subst hr
    exact ⟨_, m78 on hp⟩
  · cases h)
def T78 : Table := (78, c78) :: T76
theorem T78_sound : Table.Sound Go.Proofs.Try.prog Hx T78 := Table.sound_cons s78 T76_sound
def o77 (role : Int) : Bool × List Row × List Row := (true, [[.int .i64 (roleB role)]], [])
def c77 : Contract
  | [[.int .i64 role]] => some ((o77 role).1, (o77 role).2.1, (o77 role).2.2)
  | _ => none

theorem r77 (role : Int) (n : Nat) : evFn ⟨prog, Hx, 77⟩ T78.call n f77 [[.int .i64 role]] = bif role == 2 then some ([[D.int i64 (3)]], []) else bif role == 1 then some ([[D.int i64 (2)]], []) else bif role == 3 then some ([[D.int i64 (1)]], []) else some ([[D.int i64 (0)]], []) := by kernel_rfl
theorem m77 (role : Int) (hpre : (o77 role).1 = true) : evFn ⟨Go.Proofs.Try.prog, Hx, 77⟩ T78.call 0 f77 [[.int .i64 role]] = some (o77 role).2 := by
  refine (r77 role _).trans ?_
  show _ = (some ([[.int .i64 (roleB role)]], []) : Option (List Row × List Row))
  replace hpre : (true) = true := hpre
  unfold roleB
  simp only [Bool.cond_eq_ite]
  grind
theorem s77 : SoundAt Go.Proofs.Try.prog Hx 77 c77 := soundAt_of T78_sound mixed func77 (by kernel_rfl) (by
  intro rows r h
  unfold c77 at h
  split at h
  · rename_i role
    obtain ⟨hp, hr⟩ := Prod.mk.inj (Option.some.inj h)
    subst hr
    exact ⟨_, m77 role hp⟩
  · cases h)
def T77 : Table := (77, c77) :: T78
theorem T77_sound : Table.Sound Go.Proofs.Try.prog Hx T77 := Table.sound_cons s77 T78_sound
def o41 (b : Bpdu) : Bool × List Row × List Row := (true, [[.int .i64 (flagsOf b)]], [])
def c41 : Contract
  | [[.bool b_Change, .bool b_Ask, .bool b_Agree, .bool b_Learn, .bool b_Open, .int .i64 b_Role, .int .i64 b_Vec_Root, .int .i64 b_Vec_Cost, .int .i64 b_Vec_Bridge, .int .i64 b_Vec_Port, .int .i64 b_Hops]] => some ((o41 ⟨b_Change, b_Ask, b_Agree, b_Learn, b_Open, b_Role, ⟨b_Vec_Root, b_Vec_Cost, b_Vec_Bridge, b_Vec_Port⟩, b_Hops⟩).1, (o41 ⟨b_Change, b_Ask, b_Agree, b_Learn, b_Open, b_Role, ⟨b_Vec_Root, b_Vec_Cost, b_Vec_Bridge, b_Vec_Port⟩, b_Hops⟩).2.1, (o41 ⟨b_Change, b_Ask, b_Agree, b_Learn, b_Open, b_Role, ⟨b_Vec_Root, b_Vec_Cost, b_Vec_Bridge, b_Vec_Port⟩, b_Hops⟩).2.2)
  | _ => none

theorem r41 (b : Bpdu) (n : Nat) : evFn ⟨prog, Hx, 41⟩ T77.call n f41 [[.bool b.Change, .bool b.Ask, .bool b.Agree, .bool b.Learn, .bool b.Open, .int .i64 b.Role, .int .i64 b.Vec.Root, .int .i64 b.Vec.Cost, .int .i64 b.Vec.Bridge, .int .i64 b.Vec.Port, .int .i64 b.Hops]] = some ([[D.int i64 (wrap i64 (wrap i64 (wrap i64 (wrap i64 (wrap i64 (bitI (Bpdu.Change b) (1) + bitI (Bpdu.Ask b) (2)) + wrap i64 (4 * roleB (Bpdu.Role b))) + bitI (Bpdu.Learn b) (16)) + bitI (Bpdu.Open b) (32)) + bitI (Bpdu.Agree b) (64)))]], []) := by kernel_rfl
theorem m41 (b : Bpdu) (hpre : (o41 b).1 = true) : evFn ⟨Go.Proofs.Try.prog, Hx, 41⟩ T77.call 0 f41 [[.bool b.Change, .bool b.Ask, .bool b.Agree, .bool b.Learn, .bool b.Open, .int .i64 b.Role, .int .i64 b.Vec.Root, .int .i64 b.Vec.Cost, .int .i64 b.Vec.Bridge, .int .i64 b.Vec.Port, .int .i64 b.Hops]] = some (o41 b).2 := by
  refine (r41 b _).trans ?_
  show _ = (some ([[.int .i64 (flagsOf b)]], []) : Option (List Row × List Row))
  replace hpre : (true) = true := hpre
  have h1 := bitI_b b.Change (f := 1) (by omega)
  have h2 := bitI_b b.Ask (f := 2) (by omega)
  have h3 := bitI_b b.Learn (f := 16) (by omega)
  have h4 := bitI_b b.Open (f := 32) (by omega)
  have h5 := bitI_b b.Agree (f := 64) (by omega)
  have h6 := roleB_b b.Role
  unfold flagsOf
  simp (disch := omega) only [wrap_sm]
theorem s41 : SoundAt Go.Proofs.Try.prog Hx 41 c41 := soundAt_of T77_sound mixed func41 (by kernel_rfl) (by
  intro rows r h
  unfold c41 at h
  split at h
  · rename_i b_Change b_Ask b_Agree b_Learn b_Open b_Role b_Vec_Root b_Vec_Cost b_Vec_Bridge b_Vec_Port b_Hops
    obtain ⟨hp, hr⟩ := Prod.mk.inj (Option.some.inj h)
    subst hr
    exact ⟨_, m41 ⟨b_Change, b_Ask, b_Agree, b_Learn, b_Open, b_Role, ⟨b_Vec_Root, b_Vec_Cost, b_Vec_Bridge, b_Vec_Port⟩, b_Hops⟩ hp⟩
  · cases h)
def T41 : Table := (41, c41) :: T77
theorem T41_sound : Table.Sound Go.Proofs.Try.prog Hx T41 := Table.sound_cons s41 T77_sound
def o42 (b : Bpdu) : Bool × List Row × List Row := (true, [[.int .i64 (flagsOf b)]], [])
def c42 : Contract
  | [[.bool b_Change, .bool b_Ask, .bool b_Agree, .bool b_Learn, .bool b_Open, .int .i64 b_Role, .int .i64 b_Vec_Root, .int .i64 b_Vec_Cost, .int .i64 b_Vec_Bridge, .int .i64 b_Vec_Port, .int .i64 b_Hops]] => some ((o42 ⟨b_Change, b_Ask, b_Agree, b_Learn, b_Open, b_Role, ⟨b_Vec_Root, b_Vec_Cost, b_Vec_Bridge, b_Vec_Port⟩, b_Hops⟩).1, (o42 ⟨b_Change, b_Ask, b_Agree, b_Learn, b_Open, b_Role, ⟨b_Vec_Root, b_Vec_Cost, b_Vec_Bridge, b_Vec_Port⟩, b_Hops⟩).2.1, (o42 ⟨b_Change, b_Ask, b_Agree, b_Learn, b_Open, b_Role, ⟨b_Vec_Root, b_Vec_Cost, b_Vec_Bridge, b_Vec_Port⟩, b_Hops⟩).2.2)
  | _ => none

theorem r42 (b : Bpdu) (n : Nat) : evFn ⟨prog, Hx, 42⟩ T41.call n f42 [[.bool b.Change, .bool b.Ask, .bool b.Agree, .bool b.Learn, .bool b.Open, .int .i64 b.Role, .int .i64 b.Vec.Root, .int .i64 b.Vec.Cost, .int .i64 b.Vec.Bridge, .int .i64 b.Vec.Port, .int .i64 b.Hops]] = bif Bpdu.Role b == 2 then some ([[D.int i64 (wrap i64 (wrap i64 (wrap i64 (wrap i64 (wrap i64 (bitI (Bpdu.Change b) (1) + wrap i64 (2 * bitI (Bpdu.Ask b) (1))) + wrap i64 (16 * bitI (Bpdu.Learn b) (1))) + wrap i64 (32 * bitI (Bpdu.Open b) (1))) + wrap i64 (64 * bitI (Bpdu.Agree b) (1))) + 12))]], []) else bif Bpdu.Role b == 1 then some ([[D.int i64 (wrap i64 (wrap i64 (wrap i64 (wrap i64 (wrap i64 (bitI (Bpdu.Change b) (1) + wrap i64 (2 * bitI (Bpdu.Ask b) (1))) + wrap i64 (16 * bitI (Bpdu.Learn b) (1))) + wrap i64 (32 * bitI (Bpdu.Open b) (1))) + wrap i64 (64 * bitI (Bpdu.Agree b) (1))) + 8))]], []) else bif Bpdu.Role b == 3 then some ([[D.int i64 (wrap i64 (wrap i64 (wrap i64 (wrap i64 (wrap i64 (bitI (Bpdu.Change b) (1) + wrap i64 (2 * bitI (Bpdu.Ask b) (1))) + wrap i64 (16 * bitI (Bpdu.Learn b) (1))) + wrap i64 (32 * bitI (Bpdu.Open b) (1))) + wrap i64 (64 * bitI (Bpdu.Agree b) (1))) + 4))]], []) else some ([[D.int i64 (wrap i64 (wrap i64 (wrap i64 (wrap i64 (bitI (Bpdu.Change b) (1) + wrap i64 (2 * bitI (Bpdu.Ask b) (1))) + wrap i64 (16 * bitI (Bpdu.Learn b) (1))) + wrap i64 (32 * bitI (Bpdu.Open b) (1))) + wrap i64 (64 * bitI (Bpdu.Agree b) (1))))]], []) := by kernel_rfl
theorem m42 (b : Bpdu) (hpre : (o42 b).1 = true) : evFn ⟨Go.Proofs.Try.prog, Hx, 42⟩ T41.call 0 f42 [[.bool b.Change, .bool b.Ask, .bool b.Agree, .bool b.Learn, .bool b.Open, .int .i64 b.Role, .int .i64 b.Vec.Root, .int .i64 b.Vec.Cost, .int .i64 b.Vec.Bridge, .int .i64 b.Vec.Port, .int .i64 b.Hops]] = some (o42 b).2 := by
  refine (r42 b _).trans ?_
  show _ = (some ([[.int .i64 (flagsOf b)]], []) : Option (List Row × List Row))
  replace hpre : (true) = true := hpre
  have h1 := bitI_b b.Change (f := 1) (by omega)
  have h2 := bitI_b b.Ask (f := 2) (by omega)
  have h3 := bitI_b b.Learn (f := 16) (by omega)
  have h4 := bitI_b b.Open (f := 32) (by omega)
  have h5 := bitI_b b.Agree (f := 64) (by omega)
  have h6 := roleB_b b.Role
  unfold flagsOf
  simp only [bitI_mul]
  simp (disch := omega) only [wrap_sm]
  unfold roleB
  cases h7 : (b.Role == 2) <;> cases h8 : (b.Role == 1) <;> cases h9 : (b.Role == 3) <;> simp only [cond_true, cond_false] <;> (refine congrArg (fun z => (some ([[D.int IntKind.i64 z]], []) : Option (List Row × List Row))) ?_; omega)
theorem s42 : SoundAt Go.Proofs.Try.prog Hx 42 c42 := soundAt_of T41_sound mixed func42 (by kernel_rfl) (by
  intro rows r h
  unfold c42 at h
  split at h
  · rename_i b_Change b_Ask b_Agree b_Learn b_Open b_Role b_Vec_Root b_Vec_Cost b_Vec_Bridge b_Vec_Port b_Hops
    obtain ⟨hp, hr⟩ := Prod.mk.inj (Option.some.inj h)
    subst hr
    exact ⟨_, m42 ⟨b_Change, b_Ask, b_Agree, b_Learn, b_Open, b_Role, ⟨b_Vec_Root, b_Vec_Cost, b_Vec_Bridge, b_Vec_Port⟩, b_Hops⟩ hp⟩
  · cases h)
def T42 : Table := (42, c42) :: T41
theorem T42_sound : Table.Sound Go.Proofs.Try.prog Hx T42 := Table.sound_cons s42 T41_sound
def o39 (b : Bpdu) : Bool × List Row × List Row := (true, [[.bool (bpduOk b)]], [])
def c39 : Contract
  | [[.bool b_Change, .bool b_Ask, .bool b_Agree, .bool b_Learn, .bool b_Open, .int .i64 b_Role, .int .i64 b_Vec_Root, .int .i64 b_Vec_Cost, .int .i64 b_Vec_Bridge, .int .i64 b_Vec_Port, .int .i64 b_Hops]] => some ((o39 ⟨b_Change, b_Ask, b_Agree, b_Learn, b_Open, b_Role, ⟨b_Vec_Root, b_Vec_Cost, b_Vec_Bridge, b_Vec_Port⟩, b_Hops⟩).1, (o39 ⟨b_Change, b_Ask, b_Agree, b_Learn, b_Open, b_Role, ⟨b_Vec_Root, b_Vec_Cost, b_Vec_Bridge, b_Vec_Port⟩, b_Hops⟩).2.1, (o39 ⟨b_Change, b_Ask, b_Agree, b_Learn, b_Open, b_Role, ⟨b_Vec_Root, b_Vec_Cost, b_Vec_Bridge, b_Vec_Port⟩, b_Hops⟩).2.2)
  | _ => none

theorem r39 (b : Bpdu) (n : Nat) : evFn ⟨prog, Hx, 39⟩ T42.call n f39 [[.bool b.Change, .bool b.Ask, .bool b.Agree, .bool b.Learn, .bool b.Open, .int .i64 b.Role, .int .i64 b.Vec.Root, .int .i64 b.Vec.Cost, .int .i64 b.Vec.Bridge, .int .i64 b.Vec.Port, .int .i64 b.Hops]] = bif inR (Bpdu.Role b) (0) (3) then bif vecOk (Bpdu.Vec b) then some ([[D.bool (isHopsB (Bpdu.Hops b))]], []) else some ([[D.bool false]], []) else some ([[D.bool false]], []) := by kernel_rfl
theorem m39 (b : Bpdu) (hpre : (o39 b).1 = true) : evFn ⟨Go.Proofs.Try.prog, Hx, 39⟩ T42.call 0 f39 [[.bool b.Change, .bool b.Ask, .bool b.Agree, .bool b.Learn, .bool b.Open, .int .i64 b.Role, .int .i64 b.Vec.Root, .int .i64 b.Vec.Cost, .int .i64 b.Vec.Bridge, .int .i64 b.Vec.Port, .int .i64 b.Hops]] = some (o39 b).2 := by
  refine (r39 b _).trans ?_
  show _ = (some ([[.bool (bpduOk b)]], []) : Option (List Row × List Row))
  replace hpre : (true) = true := hpre
  unfold bpduOk
  simp only [Bool.cond_eq_ite]
  grind
theorem s39 : SoundAt Go.Proofs.Try.prog Hx 39 c39 := soundAt_of T42_sound mixed func39 (by kernel_rfl) (by
  intro rows r h
  unfold c39 at h
  split at h
  · rename_i b_Change b_Ask b_Agree b_Learn b_Open b_Role b_Vec_Root b_Vec_Cost b_Vec_Bridge b_Vec_Port b_Hops
    obtain ⟨hp, hr⟩ := Prod.mk.inj (Option.some.inj h)
    subst hr
    exact ⟨_, m39 ⟨b_Change, b_Ask, b_Agree, b_Learn, b_Open, b_Role, ⟨b_Vec_Root, b_Vec_Cost, b_Vec_Bridge, b_Vec_Port⟩, b_Hops⟩ hp⟩
  · cases h)
def T39 : Table := (39, c39) :: T42
theorem T39_sound : Table.Sound Go.Proofs.Try.prog Hx T39 := Table.sound_cons s39 T42_sound
def o40 (b : Bpdu) : Bool × List Row × List Row := (true, [[.bool (bpduOk b)]], [])
def c40 : Contract
  | [[.bool b_Change, .bool b_Ask, .bool b_Agree, .bool b_Learn, .bool b_Open, .int .i64 b_Role, .int .i64 b_Vec_Root, .int .i64 b_Vec_Cost, .int .i64 b_Vec_Bridge, .int .i64 b_Vec_Port, .int .i64 b_Hops]] => some ((o40 ⟨b_Change, b_Ask, b_Agree, b_Learn, b_Open, b_Role, ⟨b_Vec_Root, b_Vec_Cost, b_Vec_Bridge, b_Vec_Port⟩, b_Hops⟩).1, (o40 ⟨b_Change, b_Ask, b_Agree, b_Learn, b_Open, b_Role, ⟨b_Vec_Root, b_Vec_Cost, b_Vec_Bridge, b_Vec_Port⟩, b_Hops⟩).2.1, (o40 ⟨b_Change, b_Ask, b_Agree, b_Learn, b_Open, b_Role, ⟨b_Vec_Root, b_Vec_Cost, b_Vec_Bridge, b_Vec_Port⟩, b_Hops⟩).2.2)
  | _ => none

theorem r40 (b : Bpdu) (n : Nat) : evFn ⟨prog, Hx, 40⟩ T39.call n f40 [[.bool b.Change, .bool b.Ask, .bool b.Agree, .bool b.Learn, .bool b.Open, .int .i64 b.Role, .int .i64 b.Vec.Root, .int .i64 b.Vec.Cost, .int .i64 b.Vec.Bridge, .int .i64 b.Vec.Port, .int .i64 b.Hops]] = bif inR (Bpdu.Role b) (0) (3) then bif vecOk (Bpdu.Vec b) then some ([[D.bool (inR (Bpdu.Hops b) (0) (8))]], []) else some ([[D.bool false]], []) else some ([[D.bool false]], []) := by kernel_rfl
theorem m40 (b : Bpdu) (hpre : (o40 b).1 = true) : evFn ⟨Go.Proofs.Try.prog, Hx, 40⟩ T39.call 0 f40 [[.bool b.Change, .bool b.Ask, .bool b.Agree, .bool b.Learn, .bool b.Open, .int .i64 b.Role, .int .i64 b.Vec.Root, .int .i64 b.Vec.Cost, .int .i64 b.Vec.Bridge, .int .i64 b.Vec.Port, .int .i64 b.Hops]] = some (o40 b).2 := by
  refine (r40 b _).trans ?_
  show _ = (some ([[.bool (bpduOk b)]], []) : Option (List Row × List Row))
  replace hpre : (true) = true := hpre
  unfold bpduOk isHopsB
  simp only [Bool.cond_eq_ite]
  grind
theorem s40 : SoundAt Go.Proofs.Try.prog Hx 40 c40 := soundAt_of T39_sound mixed func40 (by kernel_rfl) (by
  intro rows r h
  unfold c40 at h
  split at h
  · rename_i b_Change b_Ask b_Agree b_Learn b_Open b_Role b_Vec_Root b_Vec_Cost b_Vec_Bridge b_Vec_Port b_Hops
    obtain ⟨hp, hr⟩ := Prod.mk.inj (Option.some.inj h)
    subst hr
    exact ⟨_, m40 ⟨b_Change, b_Ask, b_Agree, b_Learn, b_Open, b_Role, ⟨b_Vec_Root, b_Vec_Cost, b_Vec_Bridge, b_Vec_Port⟩, b_Hops⟩ hp⟩
  · cases h)
def T40 : Table := (40, c40) :: T39
theorem T40_sound : Table.Sound Go.Proofs.Try.prog Hx T40 := Table.sound_cons s40 T39_sound
end Go.Ev
end
