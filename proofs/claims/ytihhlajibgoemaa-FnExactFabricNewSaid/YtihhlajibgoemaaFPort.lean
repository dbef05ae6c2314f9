/- Contracts of functions, each by its evaluation. -/
import Derived.Test.YtihhlajibgoemaaEvMd
import Derived.Test.YtihhlajibgoemaaProg
import Derived.KernelRfl
import Derived.Test.YtihhlajibgoemaaFBase
set_option linter.unusedVariables false
set_option linter.unusedSimpArgs false
set_option maxRecDepth 100000
noncomputable section
open List (getD length drop take set append replicate all isEmpty)
open Int (toNat ofNat)
open Go.IntKind (i64 wrap)
open Go.Proofs.Try (prog f56 f71 f81 func56 func71 func81)
namespace Go.Ev
open Go.RowKit Go.Md
end Go.Ev
namespace Go.Md
open Go Go.Ev
def openB (p : Port) : Bool := (p.Role == 1 || p.Role == 2) && p.Wait == 0
def portOk (p : Port) : Bool := (bif p.Has then p.Up && (vecOk p.Vec && (isHopsB p.Hops && inR p.Left 1 3)) else p.Vec.Root == 0 && p.Vec.Cost == 0 && p.Vec.Bridge == 0 && p.Vec.Port == 0 && p.Hops == 0 && p.Left == 0) && (inR p.Role 0 3 && ((p.Role == 0) == !p.Up) && inR p.Wait 0 4 && p.Open == openB p)
end Go.Md
namespace Go.Ev
open Go.Md
def o81 (p : Port) : Bool × List Row × List Row := (true, [[.bool (openB p)]], [])
def c81 : Contract
  | [[.bool p_Up, .bool p_Has, .int .i64 p_Vec_Root, .int .i64 p_Vec_Cost, .int .i64 p_Vec_Bridge, .int .i64 p_Vec_Port, .int .i64 p_Hops, .int .i64 p_Left, .int .i64 p_Role, .int .i64 p_Wait, .bool p_Open]] => some ((o81 ⟨p_Up, p_Has, ⟨p_Vec_Root, p_Vec_Cost, p_Vec_Bridge, p_Vec_Port⟩, p_Hops, p_Left, p_Role, p_Wait, p_Open⟩).1, (o81 ⟨p_Up, p_Has, ⟨p_Vec_Root, p_Vec_Cost, p_Vec_Bridge, p_Vec_Port⟩, p_Hops, p_Left, p_Role, p_Wait, p_Open⟩).2.1, (o81 ⟨p_Up, p_Has, ⟨p_Vec_Root, p_Vec_Cost, p_Vec_Bridge, p_Vec_Port⟩, p_Hops, p_Left, p_Role, p_Wait, p_Open⟩).2.2)
  | _ => none

theorem r81 (p : Port) (n : Nat) : evFn ⟨prog, Hx, 81⟩ T35.call n f81 [[.bool p.Up, .bool p.Has, .int .i64 p.Vec.Root, .int .i64 p.Vec.Cost, .int .i64 p.Vec.Bridge, .int .i64 p.Vec.Port, .int .i64 p.Hops, .int .i64 p.Left, .int .i64 p.Role, .int .i64 p.Wait, .bool p.Open]] = bif Port.Role p == 1 then some ([[D.bool (Port.Wait p == 0)]], []) else bif Port.Role p == 2 then some ([[D.bool (Port.Wait p == 0)]], []) else some ([[D.bool false]], []) := by kernel_rfl
theorem m81 (p : Port) (hpre : (o81 p).1 = true) : evFn ⟨Go.Proofs.Try.prog, Hx, 81⟩ T35.call 0 f81 [[.bool p.Up, .bool p.Has, .int .i64 p.Vec.Root, .int .i64 p.Vec.Cost, .int .i64 p.Vec.Bridge, .int .i64 p.Vec.Port, .int .i64 p.Hops, .int .i64 p.Left, .int .i64 p.Role, .int .i64 p.Wait, .bool p.Open]] = some (o81 p).2 := by
  refine (r81 p _).trans ?_
  show _ = (some ([[.bool (openB p)]], []) : Option (List Row × List Row))
  replace hpre : (true) = true := hpre
  unfold openB
  simp only [Bool.cond_eq_ite]
  grind
theorem s81 : SoundAt Go.Proofs.Try.prog Hx 81 c81 := soundAt_of T35_sound mixed func81 (by kernel_rfl) (by
  intro rows r h
  unfold c81 at h
  split at h
  · rename_i p_Up p_Has p_Vec_Root p_Vec_Cost p_Vec_Bridge p_Vec_Port p_Hops p_Left p_Role p_Wait p_Open
    obtain ⟨hp, hr⟩ := Prod.mk.inj (Option.some.inj h)
    subst hr
    exact ⟨_, m81 ⟨p_Up, p_Has, ⟨p_Vec_Root, p_Vec_Cost, p_Vec_Bridge, p_Vec_Port⟩, p_Hops, p_Left, p_Role, p_Wait, p_Open⟩ hp⟩
  · cases h)
def T81 : Table := (81, c81) :: T35
theorem T81_sound : Table.Sound Go.Proofs.Try.prog Hx T81 := Table.sound_cons s81 T35_sound
def o71 (p : Port) : Bool × List Row × List Row := (true, [[.bool (portOk p)]], [])
def c71 : Contract
  | [[.bool p_Up, .bool p_Has, .int .i64 p_Vec_Root, .int .i64 p_Vec_Cost, .int .i64 p_Vec_Bridge, .int .i64 p_Vec_Port, .int .i64 p_Hops, .int .i64 p_Left, .int .i64 p_Role, .int .i64 p_Wait, .bool p_Open]] => some ((o71 ⟨p_Up, p_Has, ⟨p_Vec_Root, p_Vec_Cost, p_Vec_Bridge, p_Vec_Port⟩, p_Hops, p_Left, p_Role, p_Wait, p_Open⟩).1, (o71 ⟨p_Up, p_Has, ⟨p_Vec_Root, p_Vec_Cost, p_Vec_Bridge, p_Vec_Port⟩, p_Hops, p_Left, p_Role, p_Wait, p_Open⟩).2.1, (o71 ⟨p_Up, p_Has, ⟨p_Vec_Root, p_Vec_Cost, p_Vec_Bridge, p_Vec_Port⟩, p_Hops, p_Left, p_Role, p_Wait, p_Open⟩).2.2)
  | _ => none

theorem r71 (p : Port) (n : Nat) : evFn ⟨prog, Hx, 71⟩ T81.call n f71 [[.bool p.Up, .bool p.Has, .int .i64 p.Vec.Root, .int .i64 p.Vec.Cost, .int .i64 p.Vec.Bridge, .int .i64 p.Vec.Port, .int .i64 p.Hops, .int .i64 p.Left, .int .i64 p.Role, .int .i64 p.Wait, .bool p.Open]] = bif Port.Has p then bif !Port.Up p then some ([[D.bool false]], []) else bif !vecOk (Port.Vec p) then some ([[D.bool false]], []) else bif !isHopsB (Port.Hops p) then some ([[D.bool false]], []) else bif !inR (Port.Left p) (1) (3) then some ([[D.bool false]], []) else bif !Port.Has p then bif !(Vec.Root (Port.Vec p) == 0 && (Vec.Cost (Port.Vec p) == 0 && (Vec.Bridge (Port.Vec p) == 0 && (Vec.Port (Port.Vec p) == 0 && true)))) then some ([[D.bool false]], []) else bif Port.Hops p != 0 then some ([[D.bool false]], []) else bif Port.Left p != 0 then some ([[D.bool false]], []) else bif !inR (Port.Role p) (0) (3) then some ([[D.bool false]], []) else bif decide ((Port.Role p == 0) = Port.Up p) then some ([[D.bool false]], []) else bif !inR (Port.Wait p) (0) (4) then some ([[D.bool false]], []) else some ([[D.bool (decide (Port.Open p = openB p))]], []) else bif !inR (Port.Role p) (0) (3) then some ([[D.bool false]], []) else bif decide ((Port.Role p == 0) = Port.Up p) then some ([[D.bool false]], []) else bif !inR (Port.Wait p) (0) (4) then some ([[D.bool false]], []) else some ([[D.bool (decide (Port.Open p = openB p))]], []) else bif !Port.Has p then bif !(Vec.Root (Port.Vec p) == 0 && (Vec.Cost (Port.Vec p) == 0 && (Vec.Bridge (Port.Vec p) == 0 && (Vec.Port (Port.Vec p) == 0 && true)))) then some ([[D.bool false]], []) else bif Port.Hops p != 0 then some ([[D.bool false]], []) else bif Port.Left p != 0 then some ([[D.bool false]], []) else bif !inR (Port.Role p) (0) (3) then some ([[D.bool false]], []) else bif decide ((Port.Role p == 0) = Port.Up p) then some ([[D.bool false]], []) else bif !inR (Port.Wait p) (0) (4) then some ([[D.bool false]], []) else some ([[D.bool (decide (Port.Open p = openB p))]], []) else bif !inR (Port.Role p) (0) (3) then some ([[D.bool false]], []) else bif decide ((Port.Role p == 0) = Port.Up p) then some ([[D.bool false]], []) else bif !inR (Port.Wait p) (0) (4) then some ([[D.bool false]], []) else some ([[D.bool (decide (Port.Open p = openB p))]], []) := by kernel_rfl
theorem m71 (p : Port) (hpre : (o71 p).1 = true) : evFn ⟨Go.Proofs.Try.prog, Hx, 71⟩ T81.call 0 f71 [[.bool p.Up, .bool p.Has, .int .i64 p.Vec.Root, .int .i64 p.Vec.Cost, .int .i64 p.Vec.Bridge, .int .i64 p.Vec.Port, .int .i64 p.Hops, .int .i64 p.Left, .int .i64 p.Role, .int .i64 p.Wait, .bool p.Open]] = some (o71 p).2 := by
  refine (r71 p _).trans ?_
  show _ = (some ([[.bool (portOk p)]], []) : Option (List Row × List Row))
  replace hpre : (true) = true := hpre
  unfold portOk
  simp only [cond_bool]
  apply bool_fin
  cases p.Has <;> simp only [Bool.cond_eq_ite] <;> grind
theorem s71 : SoundAt Go.Proofs.Try.prog Hx 71 c71 := soundAt_of T81_sound mixed func71 (by kernel_rfl) (by
  intro rows r h
  unfold c71 at h
  split at h
  · rename_i p_Up p_Has p_Vec_Root p_Vec_Cost p_Vec_Bridge p_Vec_Port p_Hops p_Left p_Role p_Wait p_Open
    obtain ⟨hp, hr⟩ := Prod.mk.inj (Option.some.inj h)
    subst hr
    exact ⟨_, m71 ⟨p_Up, p_Has, ⟨p_Vec_Root, p_Vec_Cost, p_Vec_Bridge, p_Vec_Port⟩, p_Hops, p_Left, p_Role, p_Wait, p_Open⟩ hp⟩
  · cases h)
def T71 : Table := (71, c71) :: T81
theorem T71_sound : Table.Sound Go.Proofs.Try.prog Hx T71 := Table.sound_cons s71 T81_sound
def o56 (p : Port) : Bool × List Row × List Row := (true, [[.bool (portOk p)]], [])
def c56 : Contract
  | [[.bool p_Up, .bool p_Has, .int .i64 p_Vec_Root, .int .i64 p_Vec_Cost, .int .i64 p_Vec_Bridge, .int .i64 p_Vec_Port, .int .i64 p_Hops, .int .i64 p_Left, .int .i64 p_Role, .int .i64 p_Wait, .bool p_Open]] => some ((o56 ⟨p_Up, p_Has, ⟨p_Vec_Root, p_Vec_Cost, p_Vec_Bridge, p_Vec_Port⟩, p_Hops, p_Left, p_Role, p_Wait, p_Open⟩).1, (o56 ⟨p_Up, p_Has, ⟨p_Vec_Root, p_Vec_Cost, p_Vec_Bridge, p_Vec_Port⟩, p_Hops, p_Left, p_Role, p_Wait, p_Open⟩).2.1, (o56 ⟨p_Up, p_Has, ⟨p_Vec_Root, p_Vec_Cost, p_Vec_Bridge, p_Vec_Port⟩, p_Hops, p_Left, p_Role, p_Wait, p_Open⟩).2.2)
  | _ => none

theorem r56 (p : Port) (n : Nat) : evFn ⟨prog, Hx, 56⟩ T71.call n f56 [[.bool p.Up, .bool p.Has, .int .i64 p.Vec.Root, .int .i64 p.Vec.Cost, .int .i64 p.Vec.Bridge, .int .i64 p.Vec.Port, .int .i64 p.Hops, .int .i64 p.Left, .int .i64 p.Role, .int .i64 p.Wait, .bool p.Open]] = bif Port.Has p then bif !Port.Up p then some ([[D.bool false]], []) else bif !vecOk (Port.Vec p) then some ([[D.bool false]], []) else bif !inR (Port.Hops p) (0) (8) then some ([[D.bool false]], []) else bif !inR (Port.Left p) (1) (3) then some ([[D.bool false]], []) else bif Port.Role p == 1 then bif inR (Port.Role p) (0) (3) then bif decide ((Port.Role p == 0) = !Port.Up p) then bif inR (Port.Wait p) (0) (4) then some ([[D.bool (decide (Port.Open p = (Port.Wait p == 0)))]], []) else some ([[D.bool false]], []) else some ([[D.bool false]], []) else some ([[D.bool false]], []) else bif inR (Port.Role p) (0) (3) then bif decide ((Port.Role p == 0) = !Port.Up p) then bif inR (Port.Wait p) (0) (4) then bif Port.Role p == 2 then some ([[D.bool (decide (Port.Open p = (Port.Wait p == 0)))]], []) else some ([[D.bool (decide (Port.Open p = false))]], []) else some ([[D.bool false]], []) else some ([[D.bool false]], []) else some ([[D.bool false]], []) else bif !(Vec.Root (Port.Vec p) == 0 && (Vec.Cost (Port.Vec p) == 0 && (Vec.Bridge (Port.Vec p) == 0 && (Vec.Port (Port.Vec p) == 0 && true)))) then some ([[D.bool false]], []) else bif Port.Hops p != 0 then some ([[D.bool false]], []) else bif Port.Left p != 0 then some ([[D.bool false]], []) else bif Port.Role p == 1 then bif inR (Port.Role p) (0) (3) then bif decide ((Port.Role p == 0) = !Port.Up p) then bif inR (Port.Wait p) (0) (4) then some ([[D.bool (decide (Port.Open p = (Port.Wait p == 0)))]], []) else some ([[D.bool false]], []) else some ([[D.bool false]], []) else some ([[D.bool false]], []) else bif inR (Port.Role p) (0) (3) then bif decide ((Port.Role p == 0) = !Port.Up p) then bif inR (Port.Wait p) (0) (4) then bif Port.Role p == 2 then some ([[D.bool (decide (Port.Open p = (Port.Wait p == 0)))]], []) else some ([[D.bool (decide (Port.Open p = false))]], []) else some ([[D.bool false]], []) else some ([[D.bool false]], []) else some ([[D.bool false]], []) := by kernel_rfl
theorem m56 (p : Port) (hpre : (o56 p).1 = true) : evFn ⟨Go.Proofs.Try.prog, Hx, 56⟩ T71.call 0 f56 [[.bool p.Up, .bool p.Has, .int .i64 p.Vec.Root, .int .i64 p.Vec.Cost, .int .i64 p.Vec.Bridge, .int .i64 p.Vec.Port, .int .i64 p.Hops, .int .i64 p.Left, .int .i64 p.Role, .int .i64 p.Wait, .bool p.Open]] = some (o56 p).2 := by
  refine (r56 p _).trans ?_
  show _ = (some ([[.bool (portOk p)]], []) : Option (List Row × List Row))
  replace hpre : (true) = true := hpre
  unfold portOk openB isHopsB
  simp only [cond_bool]
  apply bool_fin
  cases p.Has <;> simp only [Bool.cond_eq_ite] <;> grind
theorem s56 : SoundAt Go.Proofs.Try.prog Hx 56 c56 := soundAt_of T71_sound mixed func56 (by kernel_rfl) (by
  intro rows r h
  unfold c56 at h
  split at h
  · rename_i p_Up p_Has p_Vec_Root p_Vec_Cost p_Vec_Bridge p_Vec_Port p_Hops p_Left p_Role p_Wait p_Open
    obtain ⟨hp, hr⟩ := Prod.mk.inj (Option.some.inj h)
    subst hr
    exact ⟨_, m56 ⟨p_Up, p_Has, ⟨p_Vec_Root, p_Vec_Cost, p_Vec_Bridge, p_Vec_Port⟩, p_Hops, p_Left, p_Role, p_Wait, p_Open⟩ hp⟩
  · cases h)
def T56 : Table := (56, c56) :: T71
theorem T56_sound : Table.Sound Go.Proofs.Try.prog Hx T56 := Table.sound_cons s56 T71_sound
end Go.Ev
end
