/- Contracts of functions, each by its evaluation. -/
import Derived.Test.YtfeaiokfklkhjaaEvMd
import Derived.Test.YtfeaiokfklkhjaaProg
import Derived.KernelRfl
import Derived.Test.YtfeaiokfklkhjaaFBase
set_option linter.unusedVariables false
set_option linter.unusedSimpArgs false
set_option maxRecDepth 100000
noncomputable section
open List (getD length drop take set append replicate all isEmpty)
open Int (toNat ofNat)
open Go.IntKind (i64 wrap)
open Go.Proofs.Try (prog f133 f150 f176 func133 func150 func176)
namespace Go.Ev
open Go.RowKit Go.Md
end Go.Ev
namespace Go.Md
open Go Go.Ev
def openB (p : Port) : Bool := (p.Role == 1 || p.Role == 2) && p.Wait == 0
def portOk (p : Port) : Bool := (bif p.Has then p.Up && (vecOk p.Vec && (isHopsB p.Hops && inR p.Left 1 3)) else p.Vec.Root == 0 && p.Vec.Cost == 0 && p.Vec.Bridge == 0 && p.Vec.Port == 0 && p.Hops == 0 && p.Left == 0) && (inR p.Role 0 3 && ((p.Role == 0) == !p.Up) && inR p.Wait 0 4 && p.Open == openB p)
end Go.Md
namespace Go.Ev
open Go.Md
def o176 (p : Port) : Bool × List Row × List Row := (true, [[.bool (openB p)]], [])
def c176 : Contract
  | [[.bool p_Up, .bool p_Has, .int .i64 p_Vec_Root, .int .i64 p_Vec_Cost, .int .i64 p_Vec_Bridge, .int .i64 p_Vec_Port, .int .i64 p_Hops, .int .i64 p_Left, .int .i64 p_Role, .int .i64 p_Wait, .bool p_Open]] => some ((o176 ⟨p_Up, p_Has, ⟨p_Vec_Root, p_Vec_Cost, p_Vec_Bridge, p_Vec_Port⟩, p_Hops, p_Left, p_Role, p_Wait, p_Open⟩).1, (o176 ⟨p_Up, p_Has, ⟨p_Vec_Root, p_Vec_Cost, p_Vec_Bridge, p_Vec_Port⟩, p_Hops, p_Left, p_Role, p_Wait, p_Open⟩).2.1, (o176 ⟨p_Up, p_Has, ⟨p_Vec_Root, p_Vec_Cost, p_Vec_Bridge, p_Vec_Port⟩, p_Hops, p_Left, p_Role, p_Wait, p_Open⟩).2.2)
  | _ => none
theorem r176 (p : Port) (n : Nat) : evFn ⟨prog, Hx, 176⟩ T81.call n f176 [[.bool p.Up, .bool p.Has, .int .i64 p.Vec.Root, .int .i64 p.Vec.Cost, .int .i64 p.Vec.Bridge, .int .i64 p.Vec.Port, .int .i64 p.Hops, .int .i64 p.Left, .int .i64 p.Role, .int .i64 p.Wait, .bool p.Open]] = bif Port.Role p == 1 then some ([[D.bool (Port.Wait p == 0)]], []) else bif Port.Role p == 2 then some ([[D.bool (Port.Wait p == 0)]], []) else some ([[D.bool false]], []) := by kernel_rfl
theorem m176 (p : Port) (hpre : (o176 p).1 = true) : evFn ⟨Go.Proofs.Try.prog, Hx, 176⟩ T81.call 0 f176 [[.bool p.Up, .bool p.Has, .int .i64 p.Vec.Root, .int .i64 p.Vec.Cost, .int .i64 p.Vec.Bridge, .int .i64 p.Vec.Port, .int .i64 p.Hops, .int .i64 p.Left, .int .i64 p.Role, .int .i64 p.Wait, .bool p.Open]] = some (o176 p).2 := by
  refine (r176 p _).trans ?_
  show _ = (some ([[.bool (openB p)]], []) : Option (List Row × List Row))
  replace hpre : (true) = true := hpre
  unfold openB
  simp only [Bool.cond_eq_ite]
  grind
theorem s176 : SoundAt Go.Proofs.Try.prog Hx 176 c176 := soundAt_of T81_sound mixed func176 (by kernel_rfl) (by
  intro rows r h
  unfold c176 at h
  split at h
  · rename_i p_Up p_Has p_Vec_Root p_Vec_Cost p_Vec_Bridge p_Vec_Port p_Hops p_Left p_Role p_Wait p_Open
    obtain ⟨hp, hr⟩ := Prod.mk.inj (Option.some.inj h)
    subst hr
    exact ⟨_, m176 ⟨p_Up, p_Has, ⟨p_Vec_Root, p_Vec_Cost, p_Vec_Bridge, p_Vec_Port⟩, p_Hops, p_Left, p_Role, p_Wait, p_Open⟩ hp⟩
  · cases h)
def T176 : Table := (176, c176) :: T81
theorem T176_sound : Table.Sound Go.Proofs.Try.prog Hx T176 := Table.sound_cons s176 T81_sound
def o150 (p : Port) : Bool × List Row × List Row := (true, [[.bool (portOk p)]], [])
def c150 : Contract
  | [[.bool p_Up, .bool p_Has, .int .i64 p_Vec_Root, .int .i64 p_Vec_Cost, .int .i64 p_Vec_Bridge, .int .i64 p_Vec_Port, .int .i64 p_Hops, .int .i64 p_Left, .int .i64 p_Role, .int .i64 p_Wait, .bool p_Open]] => some ((o150 ⟨p_Up, p_Has, ⟨p_Vec_Root, p_Vec_Cost, p_Vec_Bridge, p_Vec_Port⟩, p_Hops, p_Left, p_Role, p_Wait, p_Open⟩).1, (o150 ⟨p_Up, p_Has, ⟨p_Vec_Root, p_Vec_Cost, p_Vec_Bridge, p_Vec_Port⟩, p_Hops, p_Left, p_Role, p_Wait, p_Open⟩).2.1, (o150 ⟨p_Up, p_Has, ⟨p_Vec_Root, p_Vec_Cost, p_Vec_Bridge, p_Vec_Port⟩, p_Hops, p_Left, p_Role, p_Wait, p_Open⟩).2.2)
  | _ => none
theorem r150 (p : Port) (n : Nat) : evFn ⟨prog, Hx, 150⟩ T176.call n f150 [[.bool p.Up, .bool p.Has, .int .i64 p.Vec.Root, .int .i64 p.Vec.Cost, .int .i64 p.Vec.Bridge, .int .i64 p.Vec.Port, .int .i64 p.Hops, .int .i64 p.Left, .int .i64 p.Role, .int .i64 p.Wait, .bool p.Open]] = bif Port.Has p then bif !Port.Up p then some ([[D.bool false]], []) else bif !vecOk (Port.Vec p) then some ([[D.bool false]], []) else bif !isHopsB (Port.Hops p) then some ([[D.bool false]], []) else bif !inR (Port.Left p) (1) (3) then some ([[D.bool false]], []) else bif !Port.Has p then bif !(Vec.Root (Port.Vec p) == 0 && (Vec.Cost (Port.Vec p) == 0 && (Vec.Bridge (Port.Vec p) == 0 && (Vec.Port (Port.Vec p) == 0 && true)))) then some ([[D.bool false]], []) else bif Port.Hops p != 0 then some ([[D.bool false]], []) else bif Port.Left p != 0 then some ([[D.bool false]], []) else bif !inR (Port.Role p) (0) (3) then some ([[D.bool false]], []) else bif decide ((Port.Role p == 0) = Port.Up p) then some ([[D.bool false]], []) else bif !inR (Port.Wait p) (0) (4) then some ([[D.bool false]], []) else some ([[D.bool (decide (Port.Open p = openB p))]], []) else bif !inR (Port.Role p) (0) (3) then some ([[D.bool false]], []) else bif decide ((Port.Role p == 0) = Port.Up p) then some ([[D.bool false]], []) else bif !inR (Port.Wait p) (0) (4) then some ([[D.bool false]], []) else some ([[D.bool (decide (Port.Open p = openB p))]], []) else bif !Port.Has p then bif !(Vec.Root (Port.Vec p) == 0 && (Vec.Cost (Port.Vec p) == 0 && (Vec.Bridge (Port.Vec p) == 0 && (Vec.Port (Port.Vec p) == 0 && true)))) then some ([[D.bool false]], []) else bif Port.Hops p != 0 then some ([[D.bool false]], []) else bif Port.Left p != 0 then some ([[D.bool false]], []) else bif !inR (Port.Role p) (0) (3) then some ([[D.bool false]], []) else bif decide ((Port.Role p == 0) = Port.Up p) then some ([[D.bool false]], []) else bif !inR (Port.Wait p) (0) (4) then some ([[D.bool false]], []) else some ([[D.bool (decide (Port.Open p = openB p))]], []) else bif !inR (Port.Role p) (0) (3) then some ([[D.bool false]], []) else bif decide ((Port.Role p == 0) = Port.Up p) then some ([[D.bool false]], []) else bif !inR (Port.Wait p) (0) (4) then some ([[D.bool false]], []) else some ([[D.bool (decide (Port.Open p = openB p))]], []) := by kernel_rfl
theorem m150 (p : Port) (hpre : (o150 p).1 = true) : evFn ⟨Go.Proofs.Try.prog, Hx, 150⟩ T176.call 0 f150 [[.bool p.Up, .bool p.Has, .int .i64 p.Vec.Root, .int .i64 p.Vec.Cost, .int .i64 p.Vec.Bridge, .int .i64 p.Vec.Port, .int .i64 p.Hops, .int .i64 p.Left, .int .i64 p.Role, .int .i64 p.Wait, .bool p.Open]] = some (o150 p).2 := by
  refine (r150 p _).trans ?_
  show _ = (some ([[.bool (portOk p)]], []) : Option (List Row × List Row))
  replace hpre : (true) = true := hpre
  unfold portOk
  simp only [cond_bool]
  apply bool_fin
  cases p.Has <;> simp only [Bool.cond_eq_ite] <;> grind
theorem s150 : SoundAt Go.Proofs.Try.prog Hx 150 c150 := soundAt_of T176_sound mixed func150 (by kernel_rfl) (by
  intro rows r h
  unfold c150 at h
  split at h
  · rename_i p_Up p_Has p_Vec_Root p_Vec_Cost p_Vec_Bridge p_Vec_Port p_Hops p_Left p_Role p_Wait p_Open
    obtain ⟨hp, hr⟩ := Prod.mk.inj (Option.some.inj h)
    subst hr
    exact ⟨_, m150 ⟨p_Up, p_Has, ⟨p_Vec_Root, p_Vec_Cost, p_Vec_Bridge, p_Vec_Port⟩, p_Hops, p_Left, p_Role, p_Wait, p_Open⟩ hp⟩
  · cases h)
def T150 : Table := (150, c150) :: T176
theorem T150_sound : Table.Sound Go.Proofs.Try.prog Hx T150 := Table.sound_cons s150 T176_sound
def o133 (p : Port) : Bool × List Row × List Row := (true, [[.bool (portOk p)]], [])
def c133 : Contract
  | [[.bool p_Up, .bool p_Has, .int .i64 p_Vec_Root, .int .i64 p_Vec_Cost, .int .i64 p_Vec_Bridge, .int .i64 p_Vec_Port, .int .i64 p_Hops, .int .i64 p_Left, .int .i64 p_Role, .int .i64 p_Wait, .bool p_Open]] => some ((o133 ⟨p_Up, p_Has, ⟨p_Vec_Root, p_Vec_Cost, p_Vec_Bridge, p_Vec_Port⟩, p_Hops, p_Left, p_Role, p_Wait, p_Open⟩).1, (o133 ⟨p_Up, p_Has, ⟨p_Vec_Root, p_Vec_Cost, p_Vec_Bridge, p_Vec_Port⟩, p_Hops, p_Left, p_Role, p_Wait, p_Open⟩).2.1, (o133 ⟨p_Up, p_Has, ⟨p_Vec_Root, p_Vec_Cost, p_Vec_Bridge, p_Vec_Port⟩, p_Hops, p_Left, p_Role, p_Wait, p_Open⟩).2.2)
  | _ => none
theorem r133 (p : Port) (n : Nat) : evFn ⟨prog, Hx, 133⟩ T150.call n f133 [[.bool p.Up, .bool p.Has, .int .i64 p.Vec.Root, .int .i64 p.Vec.Cost, .int .i64 p.Vec.Bridge, .int .i64 p.Vec.Port, .int .i64 p.Hops, .int .i64 p.Left, .int .i64 p.Role, .int .i64 p.Wait, .bool p.Open]] = bif Port.Has p then bif !Port.Up p then some ([[D.bool false]], []) else bif !vecOk (Port.Vec p) then some ([[D.bool false]], []) else bif !inR (Port.Hops p) (0) (8) then some ([[D.bool false]], []) else bif !inR (Port.Left p) (1) (3) then some ([[D.bool false]], []) else bif Port.Role p == 1 then bif inR (Port.Role p) (0) (3) then bif decide ((Port.Role p == 0) = !Port.Up p) then bif inR (Port.Wait p) (0) (4) then some ([[D.bool (decide (Port.Open p = (Port.Wait p == 0)))]], []) else some ([[D.bool false]], []) else some ([[D.bool false]], []) else some ([[D.bool false]], []) else bif inR (Port.Role p) (0) (3) then bif decide ((Port.Role p == 0) = !Port.Up p) then bif inR (Port.Wait p) (0) (4) then bif Port.Role p == 2 then some ([[D.bool (decide (Port.Open p = (Port.Wait p == 0)))]], []) else some ([[D.bool (decide (Port.Open p = false))]], []) else some ([[D.bool false]], []) else some ([[D.bool false]], []) else some ([[D.bool false]], []) else bif !(Vec.Root (Port.Vec p) == 0 && (Vec.Cost (Port.Vec p) == 0 && (Vec.Bridge (Port.Vec p) == 0 && (Vec.Port (Port.Vec p) == 0 && true)))) then some ([[D.bool false]], []) else bif Port.Hops p != 0 then some ([[D.bool false]], []) else bif Port.Left p != 0 then some ([[D.bool false]], []) else bif Port.Role p == 1 then bif inR (Port.Role p) (0) (3) then bif decide ((Port.Role p == 0) = !Port.Up p) then bif inR (Port.Wait p) (0) (4) then some ([[D.bool (decide (Port.Open p = (Port.Wait p == 0)))]], []) else some ([[D.bool false]], []) else some ([[D.bool false]], []) else some ([[D.bool false]], []) else bif inR (Port.Role p) (0) (3) then bif decide ((Port.Role p == 0) = !Port.Up p) then bif inR (Port.Wait p) (0) (4) then bif Port.Role p == 2 then some ([[D.bool (decide (Port.Open p = (Port.Wait p == 0)))]], []) else some ([[D.bool (decide (Port.Open p = false))]], []) else some ([[D.bool false]], []) else some ([[D.bool false]], []) else some ([[D.bool false]], []) := by kernel_rfl
theorem m133 (p : Port) (hpre : (o133 p).1 = true) : evFn ⟨Go.Proofs.Try.prog, Hx, 133⟩ T150.call 0 f133 [[.bool p.Up, .bool p.Has, .int .i64 p.Vec.Root, .int .i64 p.Vec.Cost, .int .i64 p.Vec.Bridge, .int .i64 p.Vec.Port, .int .i64 p.Hops, .int .i64 p.Left, .int .i64 p.Role, .int .i64 p.Wait, .bool p.Open]] = some (o133 p).2 := by
  refine (r133 p _).trans ?_
  show _ = (some ([[.bool (portOk p)]], []) : Option (List Row × List Row))
  replace hpre : (true) = true := hpre
  unfold portOk openB isHopsB
  simp only [cond_bool]
  apply bool_fin
  cases p.Has <;> simp only [Bool.cond_eq_ite] <;> grind
theorem s133 : SoundAt Go.Proofs.Try.prog Hx 133 c133 := soundAt_of T150_sound mixed func133 (by kernel_rfl) (by
  intro rows r h
  unfold c133 at h
  split at h
  · rename_i p_Up p_Has p_Vec_Root p_Vec_Cost p_Vec_Bridge p_Vec_Port p_Hops p_Left p_Role p_Wait p_Open
    obtain ⟨hp, hr⟩ := Prod.mk.inj (Option.some.inj h)
    subst hr
    exact ⟨_, m133 ⟨p_Up, p_Has, ⟨p_Vec_Root, p_Vec_Cost, p_Vec_Bridge, p_Vec_Port⟩, p_Hops, p_Left, p_Role, p_Wait, p_Open⟩ hp⟩
  · cases h)
def T133 : Table := (133, c133) :: T150
theorem T133_sound : Table.Sound Go.Proofs.Try.prog Hx T133 := Table.sound_cons s133 T150_sound
end Go.Ev
end
