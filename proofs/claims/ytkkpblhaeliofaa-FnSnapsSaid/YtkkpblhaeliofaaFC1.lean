/- Contracts of functions, each by its evaluation. -/
import Derived.Test.YtkkpblhaeliofaaEvMd
import Derived.Test.YtkkpblhaeliofaaProg
import Derived.KernelRfl
set_option linter.unusedVariables false
set_option linter.unusedSimpArgs false
set_option maxRecDepth 100000
noncomputable section
open List (getD length drop take set append replicate all isEmpty)
open Int (toNat ofNat)
open Go.IntKind (i64 wrap)
open Go.Proofs.Try (prog f35 f38 f48 f56 f63 f66 f67 f68 f69 f78 f91 f92 f93 f94 f95 f97 func35 func38 func48 func56 func63 func66 func67 func68 func69 func78 func91 func92 func93 func94 func95 func97)
namespace Go.Ev
open Go.RowKit Go.Md
abbrev V_ (l : List C) : TV := .v false l
def Hx : Hints := { mode := fun f => bif f == 74 then [.inout false] else bif f == 44 then [.inout false, .lend] else bif f == 72 then [.inout false, .lend] else bif f == 60 then [.inout false, .give] else bif f == 41 then [.give] else bif f == 12 then [.give] else bif f == 13 then [.give] else bif f == 48 then [.give, .lend] else bif f == 49 then [.give] else bif f == 52 then [.inout false] else bif f == 82 then [.inout false] else bif f == 53 then [.inout false] else bif f == 55 then [.inout false] else bif f == 57 then [.inout false] else bif f == 113 then [.ro] else bif f == 101 then [.ro, .lend] else bif f == 102 then [.ro] else bif f == 100 then [.inout true] else bif f == 99 then [.inout true] else bif f == 77 then [.inout true, .lend] else bif f == 88 then [.give, .lend] else bif f == 103 then [.inout false] else bif f == 85 then [.inout false] else bif f == 84 then [.inout false] else bif f == 58 then [.inout false] else bif f == 80 then [.inout false] else bif f == 73 then [.inout false] else bif f == 51 then [.inout false] else bif f == 47 then [.inout false] else bif f == 59 then [.inout false] else bif f == 50 then [.inout false, .give] else [], resRo := fun f => bif f == 45 then true else false, muts := fun f => bif f == 41 then [true] else bif f == 12 then [true] else bif f == 13 then [true] else [] }
def T0 : Table := []
theorem T0_sound : Table.Sound Go.Proofs.Try.prog Hx T0 := Table.sound_nil
theorem mixed : Go.Proofs.Try.prog.follows .mixedOrders = true := by kernel_rfl
end Go.Ev
namespace Go.Md
open Go Go.Ev
def inR (a b c : Int) : Bool := decide (a ≥ b) && decide (a ≤ c)
end Go.Md
namespace Go.Ev
open Go.Md
def o38 (n_ : Int) (least : Int) (most : Int) : Bool × List Row × List Row := (true, [[.bool (inR n_ least most)]], [])
def c38 : Contract
  | [[.int .i64 n_], [.int .i64 least], [.int .i64 most]] => some ((o38 n_ least most).1, (o38 n_ least most).2.1, (o38 n_ least most).2.2)
  | _ => none

theorem r38 (n_ : Int) (least : Int) (most : Int) (n : Nat) : evFn ⟨prog, Hx, 38⟩ T0.call n f38 [[.int .i64 n_], [.int .i64 least], [.int .i64 most]] = bif decide (n_ ≥ least) then some ([[D.bool (decide (n_ ≤ most))]], []) else some ([[D.bool false]], []) := by kernel_rfl
theorem m38 (n_ : Int) (least : Int) (most : Int) (hpre : (o38 n_ least most).1 = true) : evFn ⟨Go.Proofs.Try.prog, Hx, 38⟩ T0.call 0 f38 [[.int .i64 n_], [.int .i64 least], [.int .i64 most]] = some (o38 n_ least most).2 := by
  refine (r38 n_ least most _).trans ?_
  show _ = (some ([[.bool (inR n_ least most)]], []) : Option (List Row × List Row))
  replace hpre : (true) = true := hpre
  unfold inR
  cases decide (n_ ≥ least) <;> rfl
theorem s38 : SoundAt Go.Proofs.Try.prog Hx 38 c38 := soundAt_of T0_sound mixed func38 (by kernel_rfl) (by
  intro rows r h
  unfold c38 at h
  split at h
  · rename_i n_ least most
    obtain ⟨hp, hr⟩ := Prod.mk.inj (Option.some.inj h)
    subst hr
    exact ⟨_, m38 n_ least most hp⟩
  · cases h)
def T38 : Table := (38, c38) :: T0
theorem T38_sound : Table.Sound Go.Proofs.Try.prog Hx T38 := Table.sound_cons s38 T0_sound
def o35 (x : Int) (lo : Int) (hi : Int) : Bool × List Row × List Row := (true, [[.bool (inR x lo hi)]], [])
def c35 : Contract
  | [[.int .i64 x], [.int .i64 lo], [.int .i64 hi]] => some ((o35 x lo hi).1, (o35 x lo hi).2.1, (o35 x lo hi).2.2)
  | _ => none

theorem r35 (x : Int) (lo : Int) (hi : Int) (n : Nat) : evFn ⟨prog, Hx, 35⟩ T38.call n f35 [[.int .i64 x], [.int .i64 lo], [.int .i64 hi]] = bif decide (x ≥ lo) then some ([[D.bool (decide (x ≤ hi))]], []) else some ([[D.bool false]], []) := by kernel_rfl
theorem m35 (x : Int) (lo : Int) (hi : Int) (hpre : (o35 x lo hi).1 = true) : evFn ⟨Go.Proofs.Try.prog, Hx, 35⟩ T38.call 0 f35 [[.int .i64 x], [.int .i64 lo], [.int .i64 hi]] = some (o35 x lo hi).2 := by
  refine (r35 x lo hi _).trans ?_
  show _ = (some ([[.bool (inR x lo hi)]], []) : Option (List Row × List Row))
  replace hpre : (true) = true := hpre
  unfold inR
  cases decide (x ≥ lo) <;> rfl
theorem s35 : SoundAt Go.Proofs.Try.prog Hx 35 c35 := soundAt_of T38_sound mixed func35 (by kernel_rfl) (by
  intro rows r h
  unfold c35 at h
  split at h
  · rename_i x lo hi
    obtain ⟨hp, hr⟩ := Prod.mk.inj (Option.some.inj h)
    subst hr
    exact ⟨_, m35 x lo hi hp⟩
  · cases h)
def T35 : Table := (35, c35) :: T38
theorem T35_sound : Table.Sound Go.Proofs.Try.prog Hx T35 := Table.sound_cons s35 T38_sound
end Go.Ev
namespace Go.Md
open Go Go.Ev
def isPortB (n : Int) : Bool := inR n 0 3
def isHopsB (n : Int) : Bool := inR n 0 8
def vecOk (v : Vec) : Bool := inR v.Root 1 9 && (inR v.Bridge 1 9 && (decide (v.Root ≤ v.Bridge) && (inR v.Cost 0 20 && (((v.Cost == 0) == (v.Root == v.Bridge)) && isPortB v.Port))))
def bitI (on : Bool) (f : Int) : Int := bif on then f else 0
def roleB (r : Int) : Int := bif r == 2 then 3 else bif r == 1 then 2 else bif r == 3 then 1 else 0
def flagsOf (b : Bpdu) : Int := bitI b.Change 1 + bitI b.Ask 2 + 4 * roleB b.Role + bitI b.Learn 16 + bitI b.Open 32 + bitI b.Agree 64
theorem bitI_b (on : Bool) {f : Int} (h : 0 ≤ f) : 0 ≤ bitI on f ∧ bitI on f ≤ f := by cases on <;> simp [bitI, h]
theorem bitI_mul (on : Bool) (k : Int) : k * bitI on 1 = bitI on k := by cases on <;> simp [bitI]
theorem roleB_b (r : Int) : 0 ≤ roleB r ∧ roleB r ≤ 3 := by unfold roleB; simp only [Bool.cond_eq_ite]; grind
def bpduOk (b : Bpdu) : Bool := inR b.Role 0 3 && (vecOk b.Vec && isHopsB b.Hops)
end Go.Md
namespace Go.Ev
open Go.Md
def o97 (n_ : Int) : Bool × List Row × List Row := (true, [[.bool (isPortB n_)]], [])
def c97 : Contract
  | [[.int .i64 n_]] => some ((o97 n_).1, (o97 n_).2.1, (o97 n_).2.2)
  | _ => none

theorem r97 (n_ : Int) (n : Nat) : evFn ⟨prog, Hx, 97⟩ T35.call n f97 [[.int .i64 n_]] = some ([[D.bool (inR n_ (0) (3))]], []) := by kernel_rfl
theorem m97 (n_ : Int) (hpre : (o97 n_).1 = true) : evFn ⟨Go.Proofs.Try.prog, Hx, 97⟩ T35.call 0 f97 [[.int .i64 n_]] = some (o97 n_).2 := by
  refine (r97 n_ _).trans ?_
  show _ = (some ([[.bool (isPortB n_)]], []) : Option (List Row × List Row))
  replace hpre : (true) = true := hpre
  rfl
theorem s97 : SoundAt Go.Proofs.Try.prog Hx 97 c97 := soundAt_of T35_sound mixed func97 (by kernel_rfl) (by
  intro rows r h
  unfold c97 at h
  split at h
  · rename_i n_
    obtain ⟨hp, hr⟩ := Prod.mk.inj (Option.some.inj h)
    subst hr
    exact ⟨_, m97 n_ hp⟩
  · cases h)
def T97 : Table := (97, c97) :: T35
theorem T97_sound : Table.Sound Go.Proofs.Try.prog Hx T97 := Table.sound_cons s97 T35_sound
def o93 (n_ : Int) : Bool × List Row × List Row := (true, [[.bool (isHopsB n_)]], [])
def c93 : Contract
  | [[.int .i64 n_]] => some ((o93 n_).1, (o93 n_).2.1, (o93 n_).2.2)
  | _ => none

theorem r93 (n_ : Int) (n : Nat) : evFn ⟨prog, Hx, 93⟩ T97.call n f93 [[.int .i64 n_]] = some ([[D.bool (inR n_ (0) (8))]], []) := by kernel_rfl
theorem m93 (n_ : Int) (hpre : (o93 n_).1 = true) : evFn ⟨Go.Proofs.Try.prog, Hx, 93⟩ T97.call 0 f93 [[.int .i64 n_]] = some (o93 n_).2 := by
  refine (r93 n_ _).trans ?_
  show _ = (some ([[.bool (isHopsB n_)]], []) : Option (List Row × List Row))
  replace hpre : (true) = true := hpre
  rfl
theorem s93 : SoundAt Go.Proofs.Try.prog Hx 93 c93 := soundAt_of T97_sound mixed func93 (by kernel_rfl) (by
  intro rows r h
  unfold c93 at h
  split at h
  · rename_i n_
    obtain ⟨hp, hr⟩ := Prod.mk.inj (Option.some.inj h)
    subst hr
    exact ⟨_, m93 n_ hp⟩
  · cases h)
def T93 : Table := (93, c93) :: T97
theorem T93_sound : Table.Sound Go.Proofs.Try.prog Hx T93 := Table.sound_cons s93 T97_sound
def o92 (v : Vec) : Bool × List Row × List Row := (true, [[.bool (vecOk v)]], [])
def c92 : Contract
  | [[.int .i64 v_Root, .int .i64 v_Cost, .int .i64 v_Bridge, .int .i64 v_Port]] => some ((o92 ⟨v_Root, v_Cost, v_Bridge, v_Port⟩).1, (o92 ⟨v_Root, v_Cost, v_Bridge, v_Port⟩).2.1, (o92 ⟨v_Root, v_Cost, v_Bridge, v_Port⟩).2.2)
  | _ => none

theorem r92 (v : Vec) (n : Nat) : evFn ⟨prog, Hx, 92⟩ T93.call n f92 [[.int .i64 v.Root, .int .i64 v.Cost, .int .i64 v.Bridge, .int .i64 v.Port]] = bif !inR (Vec.Root v) (1) (9) then some ([[D.bool false]], []) else bif !inR (Vec.Bridge v) (1) (9) then some ([[D.bool false]], []) else bif decide (Vec.Root v > Vec.Bridge v) then some ([[D.bool false]], []) else bif !isPortB (Vec.Port v) then some ([[D.bool false]], []) else bif inR (Vec.Cost v) (0) (20) then some ([[D.bool (decide ((Vec.Cost v == 0) = (Vec.Root v == Vec.Bridge v)))]], []) else some ([[D.bool false]], []) := by kernel_rfl
theorem m92 (v : Vec) (hpre : (o92 v).1 = true) : evFn ⟨Go.Proofs.Try.prog, Hx, 92⟩ T93.call 0 f92 [[.int .i64 v.Root, .int .i64 v.Cost, .int .i64 v.Bridge, .int .i64 v.Port]] = some (o92 v).2 := by
  refine (r92 v _).trans ?_
  show _ = (some ([[.bool (vecOk v)]], []) : Option (List Row × List Row))
  replace hpre : (true) = true := hpre
  unfold vecOk
  simp only [Bool.cond_eq_ite]
  grind
theorem s92 : SoundAt Go.Proofs.Try.prog Hx 92 c92 := soundAt_of T93_sound mixed func92 (by kernel_rfl) (by
  intro rows r h
  unfold c92 at h
  split at h
  · rename_i v_Root v_Cost v_Bridge v_Port
    obtain ⟨hp, hr⟩ := Prod.mk.inj (Option.some.inj h)
    subst hr
    exact ⟨_, m92 ⟨v_Root, v_Cost, v_Bridge, v_Port⟩ hp⟩
  · cases h)
def T92 : Table := (92, c92) :: T93
theorem T92_sound : Table.Sound Go.Proofs.Try.prog Hx T92 := Table.sound_cons s92 T93_sound
def o95 (v : Vec) : Bool × List Row × List Row := (true, [[.bool (vecOk v)]], [])
def c95 : Contract
  | [[.int .i64 v_Root, .int .i64 v_Cost, .int .i64 v_Bridge, .int .i64 v_Port]] => some ((o95 ⟨v_Root, v_Cost, v_Bridge, v_Port⟩).1, (o95 ⟨v_Root, v_Cost, v_Bridge, v_Port⟩).2.1, (o95 ⟨v_Root, v_Cost, v_Bridge, v_Port⟩).2.2)
  | _ => none

theorem r95 (v : Vec) (n : Nat) : evFn ⟨prog, Hx, 95⟩ T92.call n f95 [[.int .i64 v.Root, .int .i64 v.Cost, .int .i64 v.Bridge, .int .i64 v.Port]] = bif inR (Vec.Root v) (1) (9) then bif inR (Vec.Bridge v) (1) (9) then bif decide (Vec.Root v ≤ Vec.Bridge v) then bif inR (Vec.Cost v) (0) (20) then bif decide ((Vec.Cost v == 0) = (Vec.Root v == Vec.Bridge v)) then some ([[D.bool (inR (Vec.Port v) (0) (3))]], []) else some ([[D.bool false]], []) else some ([[D.bool false]], []) else some ([[D.bool false]], []) else some ([[D.bool false]], []) else some ([[D.bool false]], []) := by kernel_rfl
theorem m95 (v : Vec) (hpre : (o95 v).1 = true) : evFn ⟨Go.Proofs.Try.prog, Hx, 95⟩ T92.call 0 f95 [[.int .i64 v.Root, .int .i64 v.Cost, .int .i64 v.Bridge, .int .i64 v.Port]] = some (o95 v).2 := by
  refine (r95 v _).trans ?_
  show _ = (some ([[.bool (vecOk v)]], []) : Option (List Row × List Row))
  replace hpre : (true) = true := hpre
  unfold vecOk isPortB
  simp only [Bool.cond_eq_ite]
  grind
theorem s95 : SoundAt Go.Proofs.Try.prog Hx 95 c95 := soundAt_of T92_sound mixed func95 (by kernel_rfl) (by
  intro rows r h
  unfold c95 at h
  split at h
  · rename_i v_Root v_Cost v_Bridge v_Port
    obtain ⟨hp, hr⟩ := Prod.mk.inj (Option.some.inj h)
    subst hr
    exact ⟨_, m95 ⟨v_Root, v_Cost, v_Bridge, v_Port⟩ hp⟩
  · cases h)
def T95 : Table := (95, c95) :: T92
theorem T95_sound : Table.Sound Go.Proofs.Try.prog Hx T95 := Table.sound_cons s95 T92_sound
def o67 (on : Bool) (flag : Int) : Bool × List Row × List Row := (true, [[.int .i64 (bitI on flag)]], [])
def c67 : Contract
  | [[.bool on], [.int .i64 flag]] => some ((o67 on flag).1, (o67 on flag).2.1, (o67 on flag).2.2)
  | _ => none

theorem r67 (on : Bool) (flag : Int) (n : Nat) : evFn ⟨prog, Hx, 67⟩ T95.call n f67 [[.bool on], [.int .i64 flag]] = bif on then some ([[D.int i64 flag]], []) else some ([[D.int i64 (0)]], []) := by kernel_rfl
theorem m67 (on : Bool) (flag : Int) (hpre : (o67 on flag).1 = true) : evFn ⟨Go.Proofs.Try.prog, Hx, 67⟩ T95.call 0 f67 [[.bool on], [.int .i64 flag]] = some (o67 on flag).2 := by
  refine (r67 on flag _).trans ?_
  show _ = (some ([[.int .i64 (bitI on flag)]], []) : Option (List Row × List Row))
  replace hpre : (true) = true := hpre
  cases on <;> rfl
theorem s67 : SoundAt Go.Proofs.Try.prog Hx 67 c67 := soundAt_of T95_sound mixed func67 (by kernel_rfl) (by
  intro rows r h
  unfold c67 at h
  split at h
  · rename_i on flag
    obtain ⟨hp, hr⟩ := Prod.mk.inj (Option.some.inj h)
    subst hr
    exact ⟨_, m67 on flag hp⟩
  · cases h)
def T67 : Table := (67, c67) :: T95
theorem T67_sound : Table.Sound Go.Proofs.Try.prog Hx T67 := Table.sound_cons s67 T95_sound
def o69 (on : Bool) : Bool × List Row × List Row := (true, [[.int .i64 (bitI on 1)]], [])
def c69 : Contract
  | [[.bool on]] => some ((o69 on).1, (o69 on).2.1, (o69 on).2.2)
  | _ => none

theorem r69 (on : Bool) (n : Nat) : evFn ⟨prog, Hx, 69⟩ T67.call n f69 [[.bool on]] = bif on then some ([[D.int i64 (1)]], []) else some ([[D.int i64 (0)]], []) := by kernel_rfl
theorem m69 (on : Bool) (hpre : (o69 on).1 = true) : evFn ⟨Go.Proofs.Try.prog, Hx, 69⟩ T67.call 0 f69 [[.bool on]] = some (o69 on).2 := by
  refine (r69 on _).trans ?_
  show _ = (some ([[.int .i64 (bitI on 1)]], []) : Option (List Row × List Row))
  replace hpre : (true) = true := hpre
  cases on <;> rfl
theorem s69 : SoundAt Go.Proofs.Try.prog Hx 69 c69 := soundAt_of T67_sound mixed func69 (by kernel_rfl) (by
  intro rows r h
  unfold c69 at h
  split at h
  · rename_i on
    obtain ⟨hp, hr⟩ := Prod.mk.inj (Option.some.inj h)
    subst hr
    exact ⟨_, m69 on hp⟩
  · cases h)
def T69 : Table := (69, c69) :: T67
theorem T69_sound : Table.Sound Go.Proofs.Try.prog Hx T69 := Table.sound_cons s69 T67_sound
end Go.Ev
namespace Go.Md
open Go Go.Ev
def openB (p : Port) : Bool := (p.Role == 1 || p.Role == 2) && p.Wait == 0
def portOk (p : Port) : Bool := (bif p.Has then p.Up && (vecOk p.Vec && (isHopsB p.Hops && inR p.Left 1 3)) else p.Vec.Root == 0 && p.Vec.Cost == 0 && p.Vec.Bridge == 0 && p.Vec.Port == 0 && p.Hops == 0 && p.Left == 0) && (inR p.Role 0 3 && ((p.Role == 0) == !p.Up) && inR p.Wait 0 4 && p.Open == openB p)
end Go.Md
namespace Go.Ev
open Go.Md
def o94 (p : Port) : Bool × List Row × List Row := (true, [[.bool (openB p)]], [])
def c94 : Contract
  | [[.bool p_Up, .bool p_Has, .int .i64 p_Vec_Root, .int .i64 p_Vec_Cost, .int .i64 p_Vec_Bridge, .int .i64 p_Vec_Port, .int .i64 p_Hops, .int .i64 p_Left, .int .i64 p_Role, .int .i64 p_Wait, .bool p_Open]] => some ((o94 ⟨p_Up, p_Has, ⟨p_Vec_Root, p_Vec_Cost, p_Vec_Bridge, p_Vec_Port⟩, p_Hops, p_Left, p_Role, p_Wait, p_Open⟩).1, (o94 ⟨p_Up, p_Has, ⟨p_Vec_Root, p_Vec_Cost, p_Vec_Bridge, p_Vec_Port⟩, p_Hops, p_Left, p_Role, p_Wait, p_Open⟩).2.1, (o94 ⟨p_Up, p_Has, ⟨p_Vec_Root, p_Vec_Cost, p_Vec_Bridge, p_Vec_Port⟩, p_Hops, p_Left, p_Role, p_Wait, p_Open⟩).2.2)
  | _ => none

theorem r94 (p : Port) (n : Nat) : evFn ⟨prog, Hx, 94⟩ T69.call n f94 [[.bool p.Up, .bool p.Has, .int .i64 p.Vec.Root, .int .i64 p.Vec.Cost, .int .i64 p.Vec.Bridge, .int .i64 p.Vec.Port, .int .i64 p.Hops, .int .i64 p.Left, .int .i64 p.Role, .int .i64 p.Wait, .bool p.Open]] = bif Port.Role p == 1 then some ([[D.bool (Port.Wait p == 0)]], []) else bif Port.Role p == 2 then some ([[D.bool (Port.Wait p == 0)]], []) else some ([[D.bool false]], []) := by kernel_rfl
theorem m94 (p : Port) (hpre : (o94 p).1 = true) : evFn ⟨Go.Proofs.Try.prog, Hx, 94⟩ T69.call 0 f94 [[.bool p.Up, .bool p.Has, .int .i64 p.Vec.Root, .int .i64 p.Vec.Cost, .int .i64 p.Vec.Bridge, .int .i64 p.Vec.Port, .int .i64 p.Hops, .int .i64 p.Left, .int .i64 p.Role, .int .i64 p.Wait, .bool p.Open]] = some (o94 p).2 := by
  refine (r94 p _).trans ?_
  show _ = (some ([[.bool (openB p)]], []) : Option (List Row × List Row))
  replace hpre : (true) = true := hpre
  unfold openB
  simp only [Bool.cond_eq_ite]
  grind
theorem s94 : SoundAt Go.Proofs.Try.prog Hx 94 c94 := soundAt_of T69_sound mixed func94 (by kernel_rfl) (by
  intro rows r h
  unfold c94 at h
  split at h
  · rename_i p_Up p_Has p_Vec_Root p_Vec_Cost p_Vec_Bridge p_Vec_Port p_Hops p_Left p_Role p_Wait p_Open
    obtain ⟨hp, hr⟩ := Prod.mk.inj (Option.some.inj h)
    subst hr
    exact ⟨_, m94 ⟨p_Up, p_Has, ⟨p_Vec_Root, p_Vec_Cost, p_Vec_Bridge, p_Vec_Port⟩, p_Hops, p_Left, p_Role, p_Wait, p_Open⟩ hp⟩
  · cases h)
def T94 : Table := (94, c94) :: T69
theorem T94_sound : Table.Sound Go.Proofs.Try.prog Hx T94 := Table.sound_cons s94 T69_sound
def o66 (p : Port) : Bool × List Row × List Row := (true, [[.bool (portOk p)]], [])
def c66 : Contract
  | [[.bool p_Up, .bool p_Has, .int .i64 p_Vec_Root, .int .i64 p_Vec_Cost, .int .i64 p_Vec_Bridge, .int .i64 p_Vec_Port, .int .i64 p_Hops, .int .i64 p_Left, .int .i64 p_Role, .int .i64 p_Wait, .bool p_Open]] => some ((o66 ⟨p_Up, p_Has, ⟨p_Vec_Root, p_Vec_Cost, p_Vec_Bridge, p_Vec_Port⟩, p_Hops, p_Left, p_Role, p_Wait, p_Open⟩).1, (o66 ⟨p_Up, p_Has, ⟨p_Vec_Root, p_Vec_Cost, p_Vec_Bridge, p_Vec_Port⟩, p_Hops, p_Left, p_Role, p_Wait, p_Open⟩).2.1, (o66 ⟨p_Up, p_Has, ⟨p_Vec_Root, p_Vec_Cost, p_Vec_Bridge, p_Vec_Port⟩, p_Hops, p_Left, p_Role, p_Wait, p_Open⟩).2.2)
  | _ => none

theorem r66 (p : Port) (n : Nat) : evFn ⟨prog, Hx, 66⟩ T94.call n f66 [[.bool p.Up, .bool p.Has, .int .i64 p.Vec.Root, .int .i64 p.Vec.Cost, .int .i64 p.Vec.Bridge, .int .i64 p.Vec.Port, .int .i64 p.Hops, .int .i64 p.Left, .int .i64 p.Role, .int .i64 p.Wait, .bool p.Open]] = bif Port.Has p then bif !Port.Up p then some ([[D.bool false]], []) else bif !vecOk (Port.Vec p) then some ([[D.bool false]], []) else bif !isHopsB (Port.Hops p) then some ([[D.bool false]], []) else bif !inR (Port.Left p) (1) (3) then some ([[D.bool false]], []) else bif !Port.Has p then bif !(Vec.Root (Port.Vec p) == 0 && (Vec.Cost (Port.Vec p) == 0 && (Vec.Bridge (Port.Vec p) == 0 && (Vec.Port (Port.Vec p) == 0 && true)))) then some ([[D.bool false]], []) else bif Port.Hops p != 0 then some ([[D.bool false]], []) else bif Port.Left p != 0 then some ([[D.bool false]], []) else bif !inR (Port.Role p) (0) (3) then some ([[D.bool false]], []) else bif decide ((Port.Role p == 0) = Port.Up p) then some ([[D.bool false]], []) else bif !inR (Port.Wait p) (0) (4) then some ([[D.bool false]], []) else some ([[D.bool (decide (Port.Open p = openB p))]], []) else bif !inR (Port.Role p) (0) (3) then some ([[D.bool false]], []) else bif decide ((Port.Role p == 0) = Port.Up p) then some ([[D.bool false]], []) else bif !inR (Port.Wait p) (0) (4) then some ([[D.bool false]], []) else some ([[D.bool (decide (Port.Open p = openB p))]], []) else bif !Port.Has p then bif !(Vec.Root (Port.Vec p) == 0 && (Vec.Cost (Port.Vec p) == 0 && (Vec.Bridge (Port.Vec p) == 0 && (Vec.Port (Port.Vec p) == 0 && true)))) then some ([[D.bool false]], []) else bif Port.Hops p != 0 then some ([[D.bool false]], []) else bif Port.Left p != 0 then some ([[D.bool false]], []) else bif !inR (Port.Role p) (0) (3) then some ([[D.bool false]], []) else bif decide ((Port.Role p == 0) = Port.Up p) then some ([[D.bool false]], []) else bif !inR (Port.Wait p) (0) (4) then some ([[D.bool false]], []) else some ([[D.bool (decide (Port.Open p = openB p))]], []) else bif !inR (Port.Role p) (0) (3) then some ([[D.bool false]], []) else bif decide ((Port.Role p == 0) = Port.Up p) then some ([[D.bool false]], []) else bif !inR (Port.Wait p) (0) (4) then some ([[D.bool false]], []) else some ([[D.bool (decide (Port.Open p = openB p))]], []) := by kernel_rfl
theorem m66 (p : Port) (hpre : (o66 p).1 = true) : evFn ⟨Go.Proofs.Try.prog, Hx, 66⟩ T94.call 0 f66 [[.bool p.Up, .bool p.Has, .int .i64 p.Vec.Root, .int .i64 p.Vec.Cost, .int .i64 p.Vec.Bridge, .int .i64 p.Vec.Port, .int .i64 p.Hops, .int .i64 p.Left, .int .i64 p.Role, .int .i64 p.Wait, .bool p.Open]] = some (o66 p).2 := by
  refine (r66 p _).trans ?_
  show _ = (some ([[.bool (portOk p)]], []) : Option (List Row × List Row))
  replace hpre : (true) = true := hpre
  unfold portOk
  simp only [cond_bool]
  apply bool_fin
  cases p.Has <;> simp only [Bool.cond_eq_ite] <;> grind
theorem s66 : SoundAt Go.Proofs.Try.prog Hx 66 c66 := soundAt_of T94_sound mixed func66 (by kernel_rfl) (by
  intro rows r h
  unfold c66 at h
  split at h
  · rename_i p_Up p_Has p_Vec_Root p_Vec_Cost p_Vec_Bridge p_Vec_Port p_Hops p_Left p_Role p_Wait p_Open
    obtain ⟨hp, hr⟩ := Prod.mk.inj (Option.some.inj h)
    subst hr
    exact ⟨_, m66 ⟨p_Up, p_Has, ⟨p_Vec_Root, p_Vec_Cost, p_Vec_Bridge, p_Vec_Port⟩, p_Hops, p_Left, p_Role, p_Wait, p_Open⟩ hp⟩
  · cases h)
def T66 : Table := (66, c66) :: T94
theorem T66_sound : Table.Sound Go.Proofs.Try.prog Hx T66 := Table.sound_cons s66 T94_sound
def o68 (p : Port) : Bool × List Row × List Row := (true, [[.bool (portOk p)]], [])
def c68 : Contract
  | [[.bool p_Up, .bool p_Has, .int .i64 p_Vec_Root, .int .i64 p_Vec_Cost, .int .i64 p_Vec_Bridge, .int .i64 p_Vec_Port, .int .i64 p_Hops, .int .i64 p_Left, .int .i64 p_Role, .int .i64 p_Wait, .bool p_Open]] => some ((o68 ⟨p_Up, p_Has, ⟨p_Vec_Root, p_Vec_Cost, p_Vec_Bridge, p_Vec_Port⟩, p_Hops, p_Left, p_Role, p_Wait, p_Open⟩).1, (o68 ⟨p_Up, p_Has, ⟨p_Vec_Root, p_Vec_Cost, p_Vec_Bridge, p_Vec_Port⟩, p_Hops, p_Left, p_Role, p_Wait, p_Open⟩).2.1, (o68 ⟨p_Up, p_Has, ⟨p_Vec_Root, p_Vec_Cost, p_Vec_Bridge, p_Vec_Port⟩, p_Hops, p_Left, p_Role, p_Wait, p_Open⟩).2.2)
  | _ => none

theorem r68 (p : Port) (n : Nat) : evFn ⟨prog, Hx, 68⟩ T66.call n f68 [[.bool p.Up, .bool p.Has, .int .i64 p.Vec.Root, .int .i64 p.Vec.Cost, .int .i64 p.Vec.Bridge, .int .i64 p.Vec.Port, .int .i64 p.Hops, .int .i64 p.Left, .int .i64 p.Role, .int .i64 p.Wait, .bool p.Open]] = bif Port.Has p then bif !Port.Up p then some ([[D.bool false]], []) else bif !vecOk (Port.Vec p) then some ([[D.bool false]], []) else bif !inR (Port.Hops p) (0) (8) then some ([[D.bool false]], []) else bif !inR (Port.Left p) (1) (3) then some ([[D.bool false]], []) else bif Port.Role p == 1 then bif inR (Port.Role p) (0) (3) then bif decide ((Port.Role p == 0) = !Port.Up p) then bif inR (Port.Wait p) (0) (4) then some ([[D.bool (decide (Port.Open p = (Port.Wait p == 0)))]], []) else some ([[D.bool false]], []) else some ([[D.bool false]], []) else some ([[D.bool false]], []) else bif inR (Port.Role p) (0) (3) then bif decide ((Port.Role p == 0) = !Port.Up p) then bif inR (Port.Wait p) (0) (4) then bif Port.Role p == 2 then some ([[D.bool (decide (Port.Open p = (Port.Wait p == 0)))]], []) else some ([[D.bool (decide (Port.Open p = false))]], []) else some ([[D.bool false]], []) else some ([[D.bool false]], []) else some ([[D.bool false]], []) else bif !(Vec.Root (Port.Vec p) == 0 && (Vec.Cost (Port.Vec p) == 0 && (Vec.Bridge (Port.Vec p) == 0 && (Vec.Port (Port.Vec p) == 0 && true)))) then some ([[D.bool false]], []) else bif Port.Hops p != 0 then some ([[D.bool false]], []) else bif Port.Left p != 0 then some ([[D.bool false]], []) else bif Port.Role p == 1 then bif inR (Port.Role p) (0) (3) then bif decide ((Port.Role p == 0) = !Port.Up p) then bif inR (Port.Wait p) (0) (4) then some ([[D.bool (decide (Port.Open p = (Port.Wait p == 0)))]], []) else some ([[D.bool false]], []) else some ([[D.bool false]], []) else some ([[D.bool false]], []) else bif inR (Port.Role p) (0) (3) then bif decide ((Port.Role p == 0) = !Port.Up p) then bif inR (Port.Wait p) (0) (4) then bif Port.Role p == 2 then some ([[D.bool (decide (Port.Open p = (Port.Wait p == 0)))]], []) else some ([[D.bool (decide (Port.Open p = false))]], []) else some ([[D.bool false]], []) else some ([[D.bool false]], []) else some ([[D.bool false]], []) := by kernel_rfl
theorem m68 (p : Port) (hpre : (o68 p).1 = true) : evFn ⟨Go.Proofs.Try.prog, Hx, 68⟩ T66.call 0 f68 [[.bool p.Up, .bool p.Has, .int .i64 p.Vec.Root, .int .i64 p.Vec.Cost, .int .i64 p.Vec.Bridge, .int .i64 p.Vec.Port, .int .i64 p.Hops, .int .i64 p.Left, .int .i64 p.Role, .int .i64 p.Wait, .bool p.Open]] = some (o68 p).2 := by
  refine (r68 p _).trans ?_
  show _ = (some ([[.bool (portOk p)]], []) : Option (List Row × List Row))
  replace hpre : (true) = true := hpre
  unfold portOk openB isHopsB
  simp only [cond_bool]
  apply bool_fin
  cases p.Has <;> simp only [Bool.cond_eq_ite] <;> grind
theorem s68 : SoundAt Go.Proofs.Try.prog Hx 68 c68 := soundAt_of T66_sound mixed func68 (by kernel_rfl) (by
  intro rows r h
  unfold c68 at h
  split at h
  · rename_i p_Up p_Has p_Vec_Root p_Vec_Cost p_Vec_Bridge p_Vec_Port p_Hops p_Left p_Role p_Wait p_Open
    obtain ⟨hp, hr⟩ := Prod.mk.inj (Option.some.inj h)
    subst hr
    exact ⟨_, m68 ⟨p_Up, p_Has, ⟨p_Vec_Root, p_Vec_Cost, p_Vec_Bridge, p_Vec_Port⟩, p_Hops, p_Left, p_Role, p_Wait, p_Open⟩ hp⟩
  · cases h)
def T68 : Table := (68, c68) :: T66
theorem T68_sound : Table.Sound Go.Proofs.Try.prog Hx T68 := Table.sound_cons s68 T66_sound
def o56 (a : Int) (b : Int) : Bool × List Row × List Row := (true, [[.int .i64 (if a < b then a else b)]], [])
def c56 : Contract
  | [[.int .i64 a], [.int .i64 b]] => some ((o56 a b).1, (o56 a b).2.1, (o56 a b).2.2)
  | _ => none

theorem r56 (a : Int) (b : Int) (n : Nat) : evFn ⟨prog, Hx, 56⟩ T68.call n f56 [[.int .i64 a], [.int .i64 b]] = bif decide (a < b) then some ([[D.int i64 a]], []) else some ([[D.int i64 b]], []) := by kernel_rfl
theorem m56 (a : Int) (b : Int) (hpre : (o56 a b).1 = true) : evFn ⟨Go.Proofs.Try.prog, Hx, 56⟩ T68.call 0 f56 [[.int .i64 a], [.int .i64 b]] = some (o56 a b).2 := by
  refine (r56 a b _).trans ?_
  show _ = (some ([[.int .i64 (if a < b then a else b)]], []) : Option (List Row × List Row))
  replace hpre : (true) = true := hpre
  by_cases h : a < b <;> simp [h]
theorem s56 : SoundAt Go.Proofs.Try.prog Hx 56 c56 := soundAt_of T68_sound mixed func56 (by kernel_rfl) (by
  intro rows r h
  unfold c56 at h
  split at h
  · rename_i a b
    obtain ⟨hp, hr⟩ := Prod.mk.inj (Option.some.inj h)
    subst hr
    exact ⟨_, m56 a b hp⟩
  · cases h)
def T56 : Table := (56, c56) :: T68
theorem T56_sound : Table.Sound Go.Proofs.Try.prog Hx T56 := Table.sound_cons s56 T68_sound
end Go.Ev
namespace Go.Md
open Go Go.Ev
def putNumN (n : Nat) : List UInt8 := if n > 127 then u8 ((n % 128 + 128 : Nat) : Int) :: putNumN (n / 128) else [u8 (n : Int)]
termination_by n
decreasing_by omega
def putNum (n : Int) : List UInt8 := bif inR n 0 2147483647 then putNumN n.toNat else []
theorem putNumN_length : ∀ (k n : Nat), n < 128 ^ (k + 1) → (putNumN n).length ≤ k + 1
  | 0, n, h => by rw [putNumN, if_neg (by omega)]; simp
  | k + 1, n, h => by
    rw [putNumN]
    split
    · have := putNumN_length k (n / 128) (by rw [Nat.pow_succ] at h; exact Nat.div_lt_of_lt_mul (by rw [Nat.mul_comm]; exact h))
      simp only [List.length_cons]
      omega
    · simp
theorem putNum_length (n : Int) : (putNum n).length ≤ 5 := by
  unfold putNum
  cases hr : inR n 0 2147483647
  · simp
  · unfold inR at hr
    simp only [Bool.and_eq_true, decide_eq_true_eq] at hr
    exact putNumN_length 4 n.toNat (by have : n.toNat ≤ 2147483647 := by omega
                                       omega)
def putNums (xs : List Int) : List UInt8 := xs.flatMap putNum
theorem putNums_length : ∀ xs : List Int, (putNums xs).length ≤ 5 * xs.length
  | [] => Nat.le_refl 0
  | x :: xs => by
    have h1 := putNum_length x
    have h2 := putNums_length xs
    unfold putNums at h2 ⊢
    rw [List.flatMap_cons, List.length_append, List.length_cons]
    omega
end Go.Md
namespace Go.Ev
open Go.Md
def o78 (n_ : Int) : Bool × List Row × List Row := (true, [[.sl true 1 (enS true (putNum n_))]], [])
def c78 : Contract
  | [[.int .i64 n_]] => some ((o78 n_).1, (o78 n_).2.1, (o78 n_).2.2)
  | _ => none

def k78_0 (n : Nat) : Ex → St → RR := kThen (fun st ↦ runCode (Ctx.mk prog Hx (78)) (Table.call T56) n (codeAt [1, 1, 1, 1] (bodyOf f78)) (Lv.mk 4 [] 4) st (kLeave (Ctx.P (Ctx.mk prog Hx (78))) (List.zip (Array.toList (Go.Func.resultTypes f78)) (Array.toList (Go.Func.results f78))) [] [])) (kLeave (Ctx.P (Ctx.mk prog Hx (78))) (List.zip (Array.toList (Go.Func.resultTypes f78)) (Array.toList (Go.Func.results f78))) [] [])
def k78_1 (n : Nat) : Ex → St → RR := kBlock (0) (k78_0 n)
def S78_0 (i0 : Int) (es1 : List (List D)) : St := St.mk (I_ i0 :: U_ :: U_ :: V_ [C.view 0 0 0 [] 1 none] :: u_ 19 []) [Root.mk false 1 es1 0 0 true true false]
def B78_0 (n : Nat) : St → (Ex → St → RR) → RR := runCode (Ctx.mk prog Hx (78)) (Table.call T56) n (codeAt [1, 1, 1, 0, 0, 0] (bodyOf f78)) (Lv.mk 9 [(0, 9)] 4)
def X78_2 (i0 : Int) (es1 : List (List D)) : St := St.mk (I_ i0 :: U_ :: U_ :: V_ [C.view 0 0 0 [] 1 none] :: u_ 19 []) [Root.mk false 1 es1 0 0 true true false]
theorem q78_0 (n : Nat) (i0 : Int) (es1 : List (List D)) (f : St → RR) (K : Ex → St → RR) : B78_0 n (S78_0 i0 es1) (kThen (fun st ↦ f (St.head 0 9 262025 st)) K) = bif decide (i0 > 127) then bif decide ((length es1 + 1) * 1 ≤ 140737488355328) then f (S78_0 (wrap i64 (Int.tdiv i0 (128))) (append es1 [[D.int IntKind.u8 (wrap IntKind.u8 (wrap i64 (128 + Int.tmod i0 (128))))]])) else none else K (Ex.exit 0) (X78_2 i0 es1) := by kernel_rfl
theorem aX78_2 (n : Nat) (i0 : Int) (es1 : List (List D)) : k78_1 n (Ex.exit 0) (X78_2 i0 es1) = bif decide ((length es1 + 1) * 1 ≤ 140737488355328) then some ([[D.sl true 1 (append es1 [[D.int IntKind.u8 (wrap IntKind.u8 i0)]])]], []) else none := by kernel_rfl
theorem r78 (n_ : Int) (n : Nat) : evFn ⟨prog, Hx, 78⟩ T56.call n f78 [[.int .i64 n_]] = bif !inR n_ (0) (2147483647) then some ([[D.sl true 1 []]], []) else loopRun (B78_0 n) 0 9 262025 n (S78_0 n_ []) (k78_1 n) := by kernel_rfl
theorem m78 (n_ : Int) (hpre : (o78 n_).1 = true) : evFn ⟨Go.Proofs.Try.prog, Hx, 78⟩ T56.call (n_.toNat + 1) f78 [[.int .i64 n_]] = some (o78 n_).2 := by
  refine (r78 n_ _).trans ?_
  show _ = (some ([[.sl true 1 (enS true (putNum n_))]], []) : Option (List Row × List Row))
  replace hpre : (true) = true := hpre
  cases hr : inR n_ 0 2147483647
  · unfold putNum
    rw [hr]
    rfl
  have hr' := hr
  unfold inR at hr'
  simp only [Bool.and_eq_true, decide_eq_true_eq] at hr'
  obtain ⟨m, rfl⟩ : ∃ m : Nat, n_ = Int.ofNat m := ⟨n_.toNat, by show _ = ((n_.toNat : Nat) : Int); omega⟩
  have hm : m ≤ 2147483647 := by have : ((m : Nat) : Int) ≤ 2147483647 := hr'.2; omega
  simp only [Bool.not_true, cond_false]
  have hg : putNum (Int.ofNat m) = putNumN m := by unfold putNum; rw [hr]; rfl
  rw [hg]
  refine loop_rule (V := Nat × List UInt8) (fun v => S78_0 (Int.ofNat v.1) (enS true v.2)) (fun v => v.2.length + v.1 ≤ 2147483647) (fun v => v.1) (fun v => some ([[D.sl true 1 (enS true (v.2 ++ putNumN v.1))]], [])) ?_ ((Int.ofNat m).toNat + 1) (m, []) (by simpa using hm) (Nat.lt_succ_self m)
  rintro ⟨k, ys⟩ hp f hf
  simp only at hp
  refine (q78_0 _ _ _ f _).trans ?_
  have h47 : decide ((ys.length + 1) * 1 ≤ 140737488355328) = true := decide_eq_true (by omega)
  have hu : putNumN k = if k > 127 then u8 ((k % 128 + 128 : Nat) : Int) :: putNumN (k / 128) else [u8 (k : Int)] := by rw [putNumN]
  by_cases h : k > 127
  · have h1 : decide (Int.ofNat k > 127) = true := decide_eq_true (by show ((k : Nat) : Int) > 127; omega)
    have h2 : (Int.ofNat k).tdiv 128 = Int.ofNat (k / 128) := rfl
    have h3 : 128 + (Int.ofNat k).tmod 128 = Int.ofNat (k % 128 + 128) := by show _ = (((k % 128 + 128 : Nat)) : Int); have : (Int.ofNat k).tmod 128 = ((k % 128 : Nat) : Int) := rfl; rw [this]; omega
    simp only [h1, h2, h3, enS_length, h47, cond_true, wrap_nat (show k / 128 ≤ 4611686018427387904 by omega), wrap_nat (show k % 128 + 128 ≤ 4611686018427387904 by omega), enS_u8_snoc]
    refine (hf (k / 128, ys ++ [u8 (Int.ofNat (k % 128 + 128))]) (by simp; omega) (by simp only; omega)).trans ?_
    simp only [hu, h, if_true, List.append_assoc, List.singleton_append]
    rfl
  · have h1 : decide (Int.ofNat k > 127) = false := decide_eq_false (by show ¬ ((k : Nat) : Int) > 127; omega)
    simp only [h1, cond_false]
    refine (aX78_2 _ _ _).trans ?_
    simp only [enS_length, h47, cond_true, enS_u8_snoc, hu, h, if_false]
    rfl
theorem s78 : SoundAt Go.Proofs.Try.prog Hx 78 c78 := soundAt_of T56_sound mixed func78 (by kernel_rfl) (by
  intro rows r h
  unfold c78 at h
  split at h
  · rename_i n_
    obtain ⟨hp, hr⟩ := Prod.mk.inj (Option.some.inj h)
    subst hr
    exact ⟨_, m78 n_ hp⟩
  · cases h)
def T78 : Table := (78, c78) :: T56
theorem T78_sound : Table.Sound Go.Proofs.Try.prog Hx T78 := Table.sound_cons s78 T56_sound
def o91 (n_ : Int) : Bool × List Row × List Row := (true, [[.sl true 1 (enS true (putNum n_))]], [])
def c91 : Contract
  | [[.int .i64 n_]] => some ((o91 n_).1, (o91 n_).2.1, (o91 n_).2.2)
  | _ => none

def k91_0 (n : Nat) : Ex → St → RR := kThen (fun st ↦ runCode (Ctx.mk prog Hx (91)) (Table.call T78) n (codeAt [1, 1, 1, 1] (bodyOf f91)) (Lv.mk 4 [] 4) st (kLeave (Ctx.P (Ctx.mk prog Hx (91))) (List.zip (Array.toList (Go.Func.resultTypes f91)) (Array.toList (Go.Func.results f91))) [] [])) (kLeave (Ctx.P (Ctx.mk prog Hx (91))) (List.zip (Array.toList (Go.Func.resultTypes f91)) (Array.toList (Go.Func.results f91))) [] [])
def k91_1 (n : Nat) : Ex → St → RR := kBlock (0) (k91_0 n)
def S91_0 (i0 : Int) (es1 : List (List D)) : St := St.mk (I_ i0 :: U_ :: U_ :: V_ [C.view 1 0 0 [] 1 none] :: u_ 21 []) [Root.mk false 1 [] 0 0 false true false, Root.mk false 1 es1 0 0 true true false]
def B91_0 (n : Nat) : St → (Ex → St → RR) → RR := runCode (Ctx.mk prog Hx (91)) (Table.call T78) n (codeAt [1, 1, 1, 0, 0, 0] (bodyOf f91)) (Lv.mk 9 [(0, 9)] 4)
def X91_2 (i0 : Int) (es1 : List (List D)) : St := St.mk (I_ i0 :: U_ :: U_ :: V_ [C.view 1 0 0 [] 1 none] :: u_ 21 []) [Root.mk false 1 [] 0 0 false true false, Root.mk false 1 es1 0 0 true true false]
theorem q91_0 (n : Nat) (i0 : Int) (es1 : List (List D)) (f : St → RR) (K : Ex → St → RR) : B91_0 n (S91_0 i0 es1) (kThen (fun st ↦ f (St.head 1 9 1048073 st)) K) = bif decide (i0 > 127) then bif decide ((length es1 + 1) * 1 ≤ 140737488355328) then f (S91_0 (wrap i64 (Int.tdiv i0 (128))) (append es1 [[D.int IntKind.u8 (wrap IntKind.u8 (wrap i64 (Int.tmod i0 (128) + 128)))]])) else none else K (Ex.exit 0) (X91_2 i0 es1) := by kernel_rfl
theorem aX91_2 (n : Nat) (i0 : Int) (es1 : List (List D)) : k91_1 n (Ex.exit 0) (X91_2 i0 es1) = bif decide ((length es1 + 1) * 1 ≤ 140737488355328) then some ([[D.sl true 1 (append es1 [[D.int IntKind.u8 (wrap IntKind.u8 i0)]])]], []) else none := by kernel_rfl
theorem r91 (n_ : Int) (n : Nat) : evFn ⟨prog, Hx, 91⟩ T78.call n f91 [[.int .i64 n_]] = bif !inR n_ (0) (2147483647) then some ([[D.sl true 1 []]], []) else loopRun (B91_0 n) 1 9 1048073 n (S91_0 n_ []) (k91_1 n) := by kernel_rfl
theorem m91 (n_ : Int) (hpre : (o91 n_).1 = true) : evFn ⟨Go.Proofs.Try.prog, Hx, 91⟩ T78.call (n_.toNat + 1) f91 [[.int .i64 n_]] = some (o91 n_).2 := by
  refine (r91 n_ _).trans ?_
  show _ = (some ([[.sl true 1 (enS true (putNum n_))]], []) : Option (List Row × List Row))
  replace hpre : (true) = true := hpre
  cases hr : inR n_ 0 2147483647
  · unfold putNum
    rw [hr]
    rfl
  have hr' := hr
  unfold inR at hr'
  simp only [Bool.and_eq_true, decide_eq_true_eq] at hr'
  obtain ⟨m, rfl⟩ : ∃ m : Nat, n_ = Int.ofNat m := ⟨n_.toNat, by show _ = ((n_.toNat : Nat) : Int); omega⟩
  have hm : m ≤ 2147483647 := by have : ((m : Nat) : Int) ≤ 2147483647 := hr'.2; omega
  simp only [Bool.not_true, cond_false]
  have hg : putNum (Int.ofNat m) = putNumN m := by unfold putNum; rw [hr]; rfl
  rw [hg]
  refine loop_rule (V := Nat × List UInt8) (fun v => S91_0 (Int.ofNat v.1) (enS true v.2)) (fun v => v.2.length + v.1 ≤ 2147483647) (fun v => v.1) (fun v => some ([[D.sl true 1 (enS true (v.2 ++ putNumN v.1))]], [])) ?_ ((Int.ofNat m).toNat + 1) (m, []) (by simpa using hm) (Nat.lt_succ_self m)
  rintro ⟨k, ys⟩ hp f hf
  simp only at hp
  refine (q91_0 _ _ _ f _).trans ?_
  have h47 : decide ((ys.length + 1) * 1 ≤ 140737488355328) = true := decide_eq_true (by omega)
  have hu : putNumN k = if k > 127 then u8 ((k % 128 + 128 : Nat) : Int) :: putNumN (k / 128) else [u8 (k : Int)] := by rw [putNumN]
  by_cases h : k > 127
  · have h1 : decide (Int.ofNat k > 127) = true := decide_eq_true (by show ((k : Nat) : Int) > 127; omega)
    have h2 : (Int.ofNat k).tdiv 128 = Int.ofNat (k / 128) := rfl
    have h3 : (Int.ofNat k).tmod 128 + 128 = Int.ofNat (k % 128 + 128) := by show _ = (((k % 128 + 128 : Nat)) : Int); have : (Int.ofNat k).tmod 128 = ((k % 128 : Nat) : Int) := rfl; rw [this]; omega
    simp only [h1, h2, h3, enS_length, h47, cond_true, wrap_nat (show k / 128 ≤ 4611686018427387904 by omega), wrap_nat (show k % 128 + 128 ≤ 4611686018427387904 by omega), enS_u8_snoc]
    refine (hf (k / 128, ys ++ [u8 (Int.ofNat (k % 128 + 128))]) (by simp; omega) (by simp only; omega)).trans ?_
    simp only [hu, h, if_true, List.append_assoc, List.singleton_append]
    rfl
  · have h1 : decide (Int.ofNat k > 127) = false := decide_eq_false (by show ¬ ((k : Nat) : Int) > 127; omega)
    simp only [h1, cond_false]
    refine (aX91_2 _ _ _).trans ?_
    simp only [enS_length, h47, cond_true, enS_u8_snoc, hu, h, if_false]
    rfl
theorem s91 : SoundAt Go.Proofs.Try.prog Hx 91 c91 := soundAt_of T78_sound mixed func91 (by kernel_rfl) (by
  intro rows r h
  unfold c91 at h
  split at h
  · rename_i n_
    obtain ⟨hp, hr⟩ := Prod.mk.inj (Option.some.inj h)
    subst hr
    exact ⟨_, m91 n_ hp⟩
  · cases h)
def T91 : Table := (91, c91) :: T78
theorem T91_sound : Table.Sound Go.Proofs.Try.prog Hx T91 := Table.sound_cons s91 T78_sound
def o48 (b : List UInt8) (list : List Int) : Bool × List Row × List Row := (decide (b.length ≤ 1000000) && decide (list.length ≤ 1000), [[.sl true 1 (enS true (b ++ putNums list))]], [])
def c48 : Contract
  | [[.sl true 1 b], [.sl false 1 list]] => some (isS UInt8 true b && isS Int false list && (o48 (deS UInt8 b) (deS Int list)).1, (o48 (deS UInt8 b) (deS Int list)).2.1, (o48 (deS UInt8 b) (deS Int list)).2.2)
  | _ => none

def k48_0 (n : Nat) : Ex → St → RR := kThen (fun st ↦ runCode (Ctx.mk prog Hx (48)) (Table.call T91) n (codeAt [1, 1] (bodyOf f48)) (Lv.mk 16 [] 16) st (kLeave (Ctx.P (Ctx.mk prog Hx (48))) (List.zip (Array.toList (Go.Func.resultTypes f48)) (Array.toList (Go.Func.results f48))) [] [])) (kLeave (Ctx.P (Ctx.mk prog Hx (48))) (List.zip (Array.toList (Go.Func.resultTypes f48)) (Array.toList (Go.Func.results f48))) [] [])
def k48_1 (n : Nat) : Ex → St → RR := kBlock (0) (k48_0 n)
def S48_0 (b : List UInt8) (list : List Int) (i0 : Int) (es1 : List (List D)) : St := St.mk (V_ [C.view 1 0 0 [] 1 none] :: u_ 6 (V_ [C.d (D.sl false 1 (enS false list))] :: I_ (ofNat (length (enS false list))) :: I_ i0 :: u_ 9 [])) [Root.mk false 1 (enS true b) 0 0 false true false, Root.mk false 1 es1 0 0 true true false]
def B48_0 (n : Nat) : St → (Ex → St → RR) → RR := runCode (Ctx.mk prog Hx (48)) (Table.call T91) n (codeAt [1, 0, 1, 0, 0] (bodyOf f48)) (Lv.mk 897 [(0, 1)] 16)
def X48_2 (b : List UInt8) (es1 : List (List D)) : St := St.mk (V_ [C.view 1 0 0 [] 1 none] :: u_ 18 []) [Root.mk false 1 (enS true b) 0 0 false true false, Root.mk false 1 es1 0 0 true true false]
theorem q48_0 (b : List UInt8) (list : List Int) (n : Nat) (i0 : Int) (es1 : List (List D)) (f : St → RR) (K : Ex → St → RR) : B48_0 n (S48_0 b list i0 es1) (kThen (fun st ↦ f (St.head 1 897 261697 st)) K) = bif decide (i0 < ofNat (length (enS false list))) then bif decide (0 ≤ i0) && decide (i0 < ofNat (length (enS false list))) then bif Leaf.fit false (Leaf.int i64) (getD (getD (enS false list) (toNat i0) []) 0 D.dead) && true then bif (all (enS true (putNum (D.num (getD (getD (enS false list) (toNat i0) []) 0 D.dead)))) fun r ↦ all r D.noSl) && true && decide ((length es1 + length (enS true (putNum (D.num (getD (getD (enS false list) (toNat i0) []) 0 D.dead))))) * 1 ≤ 140737488355328) then f (S48_0 b list (wrap i64 (i0 + 1)) (append es1 (enS true (putNum (D.num (getD (getD (enS false list) (toNat i0) []) 0 D.dead)))))) else none else none else none else K (Ex.exit 0) (X48_2 b es1) := by kernel_rfl
theorem aX48_2 (b : List UInt8) (n : Nat) (es1 : List (List D)) : k48_1 n (Ex.exit 0) (X48_2 b es1) = some ([[D.sl true 1 es1]], []) := by kernel_rfl
theorem r48 (b : List UInt8) (list : List Int) (n : Nat) : evFn ⟨prog, Hx, 48⟩ T91.call n f48 [[.sl true 1 (enS true b)], [.sl false 1 (enS false list)]] = loopRun (B48_0 n) 1 897 261697 n (S48_0 b list (0) (enS true b)) (k48_1 n) := by kernel_rfl
theorem m48 (b : List UInt8) (list : List Int) (hpre : (o48 b list).1 = true) : evFn ⟨Go.Proofs.Try.prog, Hx, 48⟩ T91.call (list.length + 1) f48 [[.sl true 1 (enS true b)], [.sl false 1 (enS false list)]] = some (o48 b list).2 := by
  refine (r48 b list _).trans ?_
  show _ = (some ([[.sl true 1 (enS true (b ++ putNums list))]], []) : Option (List Row × List Row))
  replace hpre : (decide (b.length ≤ 1000000) && decide (list.length ≤ 1000)) = true := hpre
  simp only [Bool.and_eq_true, decide_eq_true_eq] at hpre
  refine loop_list (xs := list) (fun i (ys : List UInt8) => S48_0 b list (Int.ofNat i) (enS true ys)) (fun i ys => ys.length ≤ 1000000 + 5 * i) (fun _ ys rest => some ([[D.sl true 1 (enS true (ys ++ putNums rest))]], [])) ?_ ?_ (list.length + 1) b (by omega) (by simpa using hpre.1)
  · rintro ys _ f
    refine (q48_0 b list _ _ _ f _).trans ?_
    simp only [enS_length, dec_lt, Nat.lt_irrefl, decide_false, cond_false]
    refine (aX48_2 _ _ _).trans ?_
    simp only [putNums, List.flatMap_nil, List.append_nil]
  · rintro i ys hi hl f hf
    refine (q48_0 b list _ _ _ f _).trans ?_
    have hn := putNum_length list[i]
    have h47 : decide ((ys.length + (putNum list[i]).length) * 1 ≤ 140737488355328) = true := decide_eq_true (by omega)
    simp only [enS_length, toNat_of, dec_lt, dec_ge, enS_get _ hi, hi, wrap_succ (show i < 4611686018427387904 by omega), decide_true, cond_true, Bool.and_self, noSl_u8, Bool.and_true, Bool.true_and, En.enc, List.getD_cons_zero, D.num, Leaf.fit, h47, List.append_eq, ← enS_append]
    refine (hf (ys ++ putNum list[i]) (by rw [List.length_append]; omega)).trans ?_
    simp only [putNums, List.flatMap_cons, List.append_assoc]
theorem s48 : SoundAt Go.Proofs.Try.prog Hx 48 c48 := soundAt_of T91_sound mixed func48 (by kernel_rfl) (by
  intro rows r h
  unfold c48 at h
  split at h
  · rename_i b list
    obtain ⟨hp, hr⟩ := Prod.mk.inj (Option.some.inj h)
    subst hr
    simp only [Bool.and_eq_true] at hp
    obtain ⟨⟨hs0, hs1⟩, hp⟩ := hp
    obtain ⟨xs0, rfl⟩ := isS_ex hs0
    obtain ⟨xs1, rfl⟩ := isS_ex hs1
    simp only [deS_enS] at hp ⊢
    exact ⟨_, m48 xs0 xs1 hp⟩
  · cases h)
def T48 : Table := (48, c48) :: T91
theorem T48_sound : Table.Sound Go.Proofs.Try.prog Hx T48 := Table.sound_cons s48 T91_sound
def o63 (list : List Int) : Bool × List Row × List Row := (decide (list.length ≤ 1000), [[.sl true 1 (enS true (putNums list))]], [])
def c63 : Contract
  | [[.sl false 1 list]] => some (isS Int false list && (o63 (deS Int list)).1, (o63 (deS Int list)).2.1, (o63 (deS Int list)).2.2)
  | _ => none

def k63_0 (n : Nat) : Ex → St → RR := kThen (fun st ↦ runCode (Ctx.mk prog Hx (63)) (Table.call T48) n (codeAt [1, 1, 1] (bodyOf f63)) (Lv.mk 4 [] 4) st (kLeave (Ctx.P (Ctx.mk prog Hx (63))) (List.zip (Array.toList (Go.Func.resultTypes f63)) (Array.toList (Go.Func.results f63))) [] [])) (kLeave (Ctx.P (Ctx.mk prog Hx (63))) (List.zip (Array.toList (Go.Func.resultTypes f63)) (Array.toList (Go.Func.results f63))) [] [])
def k63_1 (n : Nat) : Ex → St → RR := kBlock (0) (k63_0 n)
def S63_0 (list : List Int) (i0 : Int) (es1 : List (List D)) : St := St.mk (V_ [C.d (D.sl false 1 (enS false list))] :: U_ :: U_ :: V_ [C.view 1 0 0 [] 1 none] :: I_ i0 :: u_ 15 []) [Root.mk false 1 [] 0 0 false true false, Root.mk false 1 es1 0 0 true true false]
def B63_0 (n : Nat) : St → (Ex → St → RR) → RR := runCode (Ctx.mk prog Hx (63)) (Table.call T48) n (codeAt [1, 1, 0, 1, 0, 0] (bodyOf f63)) (Lv.mk 25 [(0, 8)] 4)
def X63_2 (es1 : List (List D)) : St := St.mk (U_ :: U_ :: U_ :: V_ [C.view 1 0 0 [] 1 none] :: u_ 16 []) [Root.mk false 1 [] 0 0 false true false, Root.mk false 1 es1 0 0 true true false]
theorem q63_0 (list : List Int) (n : Nat) (i0 : Int) (es1 : List (List D)) (f : St → RR) (K : Ex → St → RR) : B63_0 n (S63_0 list i0 es1) (kThen (fun st ↦ f (St.head 1 25 524248 st)) K) = bif decide (i0 < ofNat (length (enS false list))) then bif decide (0 ≤ i0) && decide (i0 < ofNat (length (enS false list))) then bif Leaf.fit false (Leaf.int i64) (getD (getD (enS false list) (toNat i0) []) 0 D.dead) && true then bif (all (enS true (putNum (D.num (getD (getD (enS false list) (toNat i0) []) 0 D.dead)))) fun r ↦ all r D.noSl) && true && decide ((length es1 + length (enS true (putNum (D.num (getD (getD (enS false list) (toNat i0) []) 0 D.dead))))) * 1 ≤ 140737488355328) then f (S63_0 list (wrap i64 (i0 + 1)) (append es1 (enS true (putNum (D.num (getD (getD (enS false list) (toNat i0) []) 0 D.dead)))))) else none else none else none else K (Ex.exit 0) (X63_2 es1) := by kernel_rfl
theorem aX63_2 (n : Nat) (es1 : List (List D)) : k63_1 n (Ex.exit 0) (X63_2 es1) = some ([[D.sl true 1 es1]], []) := by kernel_rfl
theorem r63 (list : List Int) (n : Nat) : evFn ⟨prog, Hx, 63⟩ T48.call n f63 [[.sl false 1 (enS false list)]] = loopRun (B63_0 n) 1 25 524248 n (S63_0 list (0) []) (k63_1 n) := by kernel_rfl
theorem m63 (list : List Int) (hpre : (o63 list).1 = true) : evFn ⟨Go.Proofs.Try.prog, Hx, 63⟩ T48.call (list.length + 1) f63 [[.sl false 1 (enS false list)]] = some (o63 list).2 := by
  refine (r63 list _).trans ?_
  show _ = (some ([[.sl true 1 (enS true (putNums list))]], []) : Option (List Row × List Row))
  replace hpre : (decide (list.length ≤ 1000)) = true := hpre
  simp only [decide_eq_true_eq] at hpre
  refine loop_list (xs := list) (fun i (ys : List UInt8) => S63_0 list (Int.ofNat i) (enS true ys)) (fun i ys => ys.length ≤ 5 * i) (fun _ ys rest => some ([[D.sl true 1 (enS true (ys ++ putNums rest))]], [])) ?_ ?_ (list.length + 1) [] (by omega) (Nat.le_refl 0)
  · rintro ys _ f
    refine (q63_0 list _ _ _ f _).trans ?_
    simp only [enS_length, dec_lt, Nat.lt_irrefl, decide_false, cond_false]
    refine (aX63_2 _ _).trans ?_
    simp only [putNums, List.flatMap_nil, List.append_nil]
  · rintro i ys hi hl f hf
    refine (q63_0 list _ _ _ f _).trans ?_
    have hn := putNum_length list[i]
    have h47 : decide ((ys.length + (putNum list[i]).length) * 1 ≤ 140737488355328) = true := decide_eq_true (by omega)
    simp only [enS_length, toNat_of, dec_lt, dec_ge, enS_get _ hi, hi, wrap_succ (show i < 4611686018427387904 by omega), decide_true, cond_true, Bool.and_self, noSl_u8, Bool.and_true, Bool.true_and, En.enc, List.getD_cons_zero, D.num, Leaf.fit, h47, List.append_eq, ← enS_append]
    refine (hf (ys ++ putNum list[i]) (by rw [List.length_append]; omega)).trans ?_
    simp only [putNums, List.flatMap_cons, List.append_assoc]
theorem s63 : SoundAt Go.Proofs.Try.prog Hx 63 c63 := soundAt_of T48_sound mixed func63 (by kernel_rfl) (by
  intro rows r h
  unfold c63 at h
  split at h
  · rename_i list
    obtain ⟨hp, hr⟩ := Prod.mk.inj (Option.some.inj h)
    subst hr
    simp only [Bool.and_eq_true] at hp
    obtain ⟨hs0, hp⟩ := hp
    obtain ⟨xs0, rfl⟩ := isS_ex hs0
    simp only [deS_enS] at hp ⊢
    exact ⟨_, m63 xs0 hp⟩
  · cases h)
def T63 : Table := (63, c63) :: T48
theorem T63_sound : Table.Sound Go.Proofs.Try.prog Hx T63 := Table.sound_cons s63 T48_sound
end Go.Ev
end
