/- Contracts of functions, each by its evaluation. -/
import Derived.Test.YtljedfojdgfahaaEvMd
import Derived.Test.YtljedfojdgfahaaProg
import Derived.KernelRfl
import Derived.Test.YtljedfojdgfahaaFBase
set_option linter.unusedVariables false
set_option linter.unusedSimpArgs false
set_option maxRecDepth 100000
noncomputable section
open List (getD length drop take set append replicate all isEmpty)
open Int (toNat ofNat)
open Go.IntKind (i64 wrap)
open Go.Proofs.Try (prog)
namespace Go.Ev
open Go.RowKit Go.Md
end Go.Ev
namespace Go.Md
open Go Go.Ev
def openB (p : Port) : Bool := (p.Role == 1 || p.Role == 2) && p.Wait == 0
def portOk (p : Port) : Bool := (bif p.Has then p.Up && (vecOk p.Vec && (isHopsB p.Hops && inR p.Left 1 3)) else p.Vec.Root == 0 && p.Vec.Cost == 0 && p.Vec.Bridge == 0 && p.Vec.Port == 0 && p.Hops == 0 && p.Left == 0) && (inR p.Role 0 3 && ((p.Role == 0) == !p.Up) && inR p.Wait 0 4 && p.Open == openB p)
end Go.Md
namespace Go.Ev
open Go.Md
/- isOpenBy -/
def o92 (p : Port) : Bool × List Row × List Row := (true, [[.bool (openB p)]], [])
def c92 : Contract
  | [[.bool p_Up, .bool p_Has, .int .i64 p_Vec_Root, .int .i64 p_Vec_Cost, .int .i64 p_Vec_Bridge, .int .i64 p_Vec_Port, .int .i64 p_Hops, .int .i64 p_Left, .int .i64 p_Role, .int .i64 p_Wait, .bool p_Open]] => some ((o92 ⟨p_Up, p_Has, ⟨p_Vec_Root, p_Vec_Cost, p_Vec_Bridge, p_Vec_Port⟩, p_Hops, p_Left, p_Role, p_Wait, p_Open⟩).1, (o92 ⟨p_Up, p_Has, ⟨p_Vec_Root, p_Vec_Cost, p_Vec_Bridge, p_Vec_Port⟩, p_Hops, p_Left, p_Role, p_Wait, p_Open⟩).2.1, (o92 ⟨p_Up, p_Has, ⟨p_Vec_Root, p_Vec_Cost, p_Vec_Bridge, p_Vec_Port⟩, p_Hops, p_Left, p_Role, p_Wait, p_Open⟩).2.2)
  | _ => none

theorem r92 (p : Port) (n : Nat) : evFn ⟨prog, Hx, 92⟩ T63.call n Go.Proofs.Try.f92 [[.bool p.Up, .bool p.Has, .int .i64 p.Vec.Root, .int .i64 p.Vec.Cost, .int .i64 p.Vec.Bridge, .int .i64 p.Vec.Port, .int .i64 p.Hops, .int .i64 p.Left, .int .i64 p.Role, .int .i64 p.Wait, .bool p.Open]] = bif Port.Role p == 1 then some ([[D.bool (Port.Wait p == 0)]], []) else bif Port.Role p == 2 then some ([[D.bool (Port.Wait p == 0)]], []) else some ([[D.bool false]], []) := by kernel_rfl
theorem m92 (p : Port) (hpre : (o92 p).1 = true) : evFn ⟨Go.Proofs.Try.prog, Hx, 92⟩ T63.call 0 Go.Proofs.Try.f92 [[.bool p.Up, .bool p.Has, .int .i64 p.Vec.Root, .int .i64 p.Vec.Cost, .int .i64 p.Vec.Bridge, .int .i64 p.Vec.Port, .int .i64 p.Hops, .int .i64 p.Left, .int .i64 p.Role, .int .i64 p.Wait, .bool p.Open]] = some (o92 p).2 := by
  refine (r92 p _).trans ?_
  show _ = (some ([[.bool (openB p)]], []) : Option (List Row × List Row))
  replace hpre : (true) = true := hpre
  unfold openB
  simp only [Bool.cond_eq_ite]
  grind
theorem s92 : SoundAt Go.Proofs.Try.prog Hx 92 c92 := soundAt_of T63_sound mixed Go.Proofs.Try.func92 (by kernel_rfl) (by
  intro rows r h
  unfold c92 at h
  split at h
  · rename_i p_Up p_Has p_Vec_Root p_Vec_Cost p_Vec_Bridge p_Vec_Port p_Hops p_Left p_Role p_Wait p_Open
    obtain ⟨hp, hr⟩ := Prod.mk.inj (Option.some.inj h)
    subst hr
    exact ⟨_, m92 ⟨p_Up, p_Has, ⟨p_Vec_Root, p_Vec_Cost, p_Vec_Bridge, p_Vec_Port⟩, p_Hops, p_Left, p_Role, p_Wait, p_Open⟩ hp⟩
  · cases h)
def T92 : Table := (92, c92) :: T63
theorem T92_sound : Table.Sound Go.Proofs.Try.prog Hx T92 := Table.sound_cons s92 T63_sound
/- PortOk -/
def o78 (p : Port) : Bool × List Row × List Row := (true, [[.bool (portOk p)]], [])
def c78 : Contract
  | [[.bool p_Up, .bool p_Has, .int .i64 p_Vec_Root, .int .i64 p_Vec_Cost, .int .i64 p_Vec_Bridge, .int .i64 p_Vec_Port, .int .i64 p_Hops, .int .i64 p_Left, .int .i64 p_Role, .int .i64 p_Wait, .bool p_Open]] => some ((o78 ⟨p_Up, p_Has, ⟨p_Vec_Root, p_Vec_Cost, p_Vec_Bridge, p_Vec_Port⟩, p_Hops, p_Left, p_Role, p_Wait, p_Open⟩).1, (o78 ⟨p_Up, p_Has, ⟨p_Vec_Root, p_Vec_Cost, p_Vec_Bridge, p_Vec_Port⟩, p_Hops, p_Left, p_Role, p_Wait, p_Open⟩).2.1, (o78 ⟨p_Up, p_Has, ⟨p_Vec_Root, p_Vec_Cost, p_Vec_Bridge, p_Vec_Port⟩, p_Hops, p_Left, p_Role, p_Wait, p_Open⟩).2.2)
  | _ => none

theorem r78 (p : Port) (n : Nat) : evFn ⟨prog, Hx, 78⟩ T92.call n Go.Proofs.Try.f78 [[.bool p.Up, .bool p.Has, .int .i64 p.Vec.Root, .int .i64 p.Vec.Cost, .int .i64 p.Vec.Bridge, .int .i64 p.Vec.Port, .int .i64 p.Hops, .int .i64 p.Left, .int .i64 p.Role, .int .i64 p.Wait, .bool p.Open]] = bif Port.Has p then bif !Port.Up p then some ([[D.bool false]], []) else bif !vecOk (Port.Vec p) then some ([[D.bool false]], []) else bif !isHopsB (Port.Hops p) then some ([[D.bool false]], []) else bif !inR (Port.Left p) (1) (3) then some ([[D.bool false]], []) else bif !Port.Has p then bif !(Vec.Root (Port.Vec p) == 0 && (Vec.Cost (Port.Vec p) == 0 && (Vec.Bridge (Port.Vec p) == 0 && (Vec.Port (Port.Vec p) == 0 && true)))) then some ([[D.bool false]], []) else bif Port.Hops p != 0 then some ([[D.bool false]], []) else bif Port.Left p != 0 then some ([[D.bool false]], []) else bif !inR (Port.Role p) (0) (3) then some ([[D.bool false]], []) else bif decide ((Port.Role p == 0) = Port.Up p) then some ([[D.bool false]], []) else bif !inR (Port.Wait p) (0) (4) then some ([[D.bool false]], []) else some ([[D.bool (decide (Port.Open p = openB p))]], []) else bif !inR (Port.Role p) (0) (3) then some ([[D.bool false]], []) else bif decide ((Port.Role p == 0) = Port.Up p) then some ([[D.bool false]], []) else bif !inR (Port.Wait p) (0) (4) then some ([[D.bool false]], []) else some ([[D.bool (decide (Port.Open p = openB p))]], []) else bif !Port.Has p then bif !(Vec.Root (Port.Vec p) == 0 && (Vec.Cost (Port.Vec p) == 0 && (Vec.Bridge (Port.Vec p) == 0 && (Vec.Port (Port.Vec p) == 0 && true)))) then some ([[D.bool false]], []) else bif Port.Hops p != 0 then some ([[D.bool false]], []) else bif Port.Left p != 0 then some ([[D.bool false]], []) else bif !inR (Port.Role p) (0) (3) then some ([[D.bool false]], []) else bif decide ((Port.Role p == 0) = Port.Up p) then some ([[D.bool false]], []) else bif !inR (Port.Wait p) (0) (4) then some ([[D.bool false]], []) else some ([[D.bool (decide (Port.Open p = openB p))]], []) else bif !inR (Port.Role p) (0) (3) then some ([[D.bool false]], []) else bif decide ((Port.Role p == 0) = Port.Up p) then some ([[D.bool false]], []) else bif !inR (Port.Wait p) (0) (4) then some ([[D.bool false]], []) else some ([[D.bool (decide (Port.Open p = openB p))]], []) := by kernel_rfl
theorem m78 (p : Port) (hpre : (o78 p).1 = true) : evFn ⟨Go.Proofs.Try.prog, Hx, 78⟩ T92.call 0 Go.Proofs.Try.f78 [[.bool p.Up, .bool p.Has, .int .i64 p.Vec.Root, .int .i64 p.Vec.Cost, .int .i64 p.Vec.Bridge, .int .i64 p.Vec.Port, .int .i64 p.Hops, .int .i64 p.Left, .int .i64 p.Role, .int .i64 p.Wait, .bool p.Open]] = some (o78 p).2 := by
  refine (r78 p _).trans ?_
  show _ = (some ([[.bool (portOk p)]], []) : Option (List Row × List Row))
  replace hpre : (true) = true := hpre
  unfold portOk
  simp only [cond_bool]
  apply bool_fin
  cases p.Has <;> simp only [Bool.cond_eq_ite] <;> grind
theorem s78 : SoundAt Go.Proofs.Try.prog Hx 78 c78 := soundAt_of T92_sound mixed Go.Proofs.Try.func78 (by kernel_rfl) (by
  intro rows r h
  unfold c78 at h
  split at h
  · rename_i p_Up p_Has p_Vec_Root p_Vec_Cost p_Vec_Bridge p_Vec_Port p_Hops p_Left p_Role p_Wait p_Open
    obtain ⟨hp, hr⟩ := Prod.mk.inj (Option.some.inj h)
    subst hr
    exact ⟨_, m78 ⟨p_Up, p_Has, ⟨p_Vec_Root, p_Vec_Cost, p_Vec_Bridge, p_Vec_Port⟩, p_Hops, p_Left, p_Role, p_Wait, p_Open⟩ hp⟩
  · cases h)
def T78 : Table := (78, c78) :: T92
theorem T78_sound : Table.Sound Go.Proofs.Try.prog Hx T78 := Table.sound_cons s78 T92_sound
/- PortOkS -/
def o84 (p : Port) : Bool × List Row × List Row := (true, [[.bool (portOk p)]], [])
def c84 : Contract
  | [[.bool p_Up, .bool p_Has, .int .i64 p_Vec_Root, .int .i64 p_Vec_Cost, .int .i64 p_Vec_Bridge, .int .i64 p_Vec_Port, .int .i64 p_Hops, .int .i64 p_Left, .int .i64 p_Role, .int .i64 p_Wait, .bool p_Open]] => some ((o84 ⟨p_Up, p_Has, ⟨p_Vec_Root, p_Vec_Cost, p_Vec_Bridge, p_Vec_Port⟩, p_Hops, p_Left, p_Role, p_Wait, p_Open⟩).1, (o84 ⟨p_Up, p_Has, ⟨p_Vec_Root, p_Vec_Cost, p_Vec_Bridge, p_Vec_Port⟩, p_Hops, p_Left, p_Role, p_Wait, p_Open⟩).2.1, (o84 ⟨p_Up, p_Has, ⟨p_Vec_Root, p_Vec_Cost, p_Vec_Bridge, p_Vec_Port⟩, p_Hops, p_Left, p_Role, p_Wait, p_Open⟩).2.2)
  | _ => none

theorem r84 (p : Port) (n : Nat) : evFn ⟨prog, Hx, 84⟩ T78.call n Go.Proofs.Try.f84 [[.bool p.Up, .bool p.Has, .int .i64 p.Vec.Root, .int .i64 p.Vec.Cost, .int .i64 p.Vec.Bridge, .int .i64 p.Vec.Port, .int .i64 p.Hops, .int .i64 p.Left, .int .i64 p.Role, .int .i64 p.Wait, .bool p.Open]] = bif Port.Has p then bif !Port.Up p then some ([[D.bool false]], []) else bif !vecOk (Port.Vec p) then some ([[D.bool false]], []) else bif !inR (Port.Hops p) (0) (8) then some ([[D.bool false]], []) else bif !inR (Port.Left p) (1) (3) then some ([[D.bool false]], []) else bif Port.Role p == 1 then bif inR (Port.Role p) (0) (3) then bif decide ((Port.Role p == 0) = !Port.Up p) then bif inR (Port.Wait p) (0) (4) then some ([[D.bool (decide (Port.Open p = (Port.Wait p == 0)))]], []) else some ([[D.bool false]], []) else some ([[D.bool false]], []) else some ([[D.bool false]], []) else bif inR (Port.Role p) (0) (3) then bif decide ((Port.Role p == 0) = !Port.Up p) then bif inR (Port.Wait p) (0) (4) then bif Port.Role p == 2 then some ([[D.bool (decide (Port.Open p = (Port.Wait p == 0)))]], []) else some ([[D.bool (decide (Port.Open p = false))]], []) else some ([[D.bool false]], []) else some ([[D.bool false]], []) else some ([[D.bool false]], []) else bif !(Vec.Root (Port.Vec p) == 0 && (Vec.Cost (Port.Vec p) == 0 && (Vec.Bridge (Port.Vec p) == 0 && (Vec.Port (Port.Vec p) == 0 && true)))) then some ([[D.bool false]], []) else bif Port.Hops p != 0 then some ([[D.bool false]], []) else bif Port.Left p != 0 then some ([[D.bool false]], []) else bif Port.Role p == 1 then bif inR (Port.Role p) (0) (3) then bif decide ((Port.Role p == 0) = !Port.Up p) then bif inR (Port.Wait p) (0) (4) then some ([[D.bool (decide (Port.Open p = (Port.Wait p == 0)))]], []) else some ([[D.bool false]], []) else some ([[D.bool false]], []) else some ([[D.bool false]], []) else bif inR (Port.Role p) (0) (3) then bif decide ((Port.Role p == 0) = !Port.Up p) then bif inR (Port.Wait p) (0) (4) then bif Port.Role p == 2 then some ([[D.bool (decide (Port.Open p = (Port.Wait p == 0)))]], []) else some ([[D.bool (decide (Port.Open p = false))]], []) else some ([[D.bool false]], []) else some ([[D.bool false]], []) else some ([[D.bool false]], []) := by kernel_rfl
theorem m84 (p : Port) (hpre : (o84 p).1 = true) : evFn ⟨Go.Proofs.Try.prog, Hx, 84⟩ T78.call 0 Go.Proofs.Try.f84 [[.bool p.Up, .bool p.Has, .int .i64 p.Vec.Root, .int .i64 p.Vec.Cost, .int .i64 p.Vec.Bridge, .int .i64 p.Vec.Port, .int .i64 p.Hops, .int .i64 p.Left, .int .i64 p.Role, .int .i64 p.Wait, .bool p.Open]] = some (o84 p).2 := by
  refine (r84 p _).trans ?_
  show _ = (some ([[.bool (portOk p)]], []) : Option (List Row × List Row))
  replace hpre : (true) = true := hpre
  unfold portOk openB isHopsB
  simp only [cond_bool]
  apply bool_fin
  cases p.Has <;> simp only [Bool.cond_eq_ite] <;> grind
theorem s84 : SoundAt Go.Proofs.Try.prog Hx 84 c84 := soundAt_of T78_sound mixed Go.Proofs.Try.func84 (by kernel_rfl) (by
  intro rows r h
  unfold c84 at h
  split at h
  · rename_i p_Up p_Has p_Vec_Root p_Vec_Cost p_Vec_Bridge p_Vec_Port p_Hops p_Left p_Role p_Wait p_Open
    obtain ⟨hp, hr⟩ := Prod.mk.inj (Option.some.inj h)
    subst hr
    exact ⟨_, m84 ⟨p_Up, p_Has, ⟨p_Vec_Root, p_Vec_Cost, p_Vec_Bridge, p_Vec_Port⟩, p_Hops, p_Left, p_Role, p_Wait, p_Open⟩ hp⟩
  · cases h)
def T84 : Table := (84, c84) :: T78
theorem T84_sound : Table.Sound Go.Proofs.Try.prog Hx T84 := Table.sound_cons s84 T78_sound
end Go.Ev
end
