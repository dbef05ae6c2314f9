/- Contracts of functions, each by its evaluation. -/
import Derived.Test.YthfolmphegdabaaEvMd
import Derived.Test.YthfolmphegdabaaProg
import Derived.KernelRfl
import Derived.Test.YthfolmphegdabaaFBase
set_option linter.unusedVariables false
set_option linter.unusedSimpArgs false
set_option maxRecDepth 100000
noncomputable section
namespace Go.Ev
open Go.RowKit Go.Md
end Go.Ev
namespace Go.Md
open Go Go.Ev
def openB (p : Port) : Bool := (p.Role == 1 || p.Role == 2) && p.Wait == 0
def portOk (p : Port) : Bool := (bif p.Has then p.Up && (vecOk p.Vec && (isHopsB p.Hops && inR p.Left 1 3)) else p.Vec.Root == 0 && p.Vec.Cost == 0 && p.Vec.Bridge == 0 && p.Vec.Port == 0 && p.Hops == 0 && p.Left == 0) && (inR p.Role 0 3 && ((p.Role == 0) == !p.Up) && inR p.Wait 0 4 && p.Open == openB p)
end Go.Md
namespace Go.Ev
open Go.Md
/- isOpenBy -/
def o161 (p : Port) : Bool × List Row × List Row := (true, [[.bool (openB p)]], [])
def c161 : Contract
  | [[.bool p_Up, .bool p_Has, .int .i64 p_Vec_Root, .int .i64 p_Vec_Cost, .int .i64 p_Vec_Bridge, .int .i64 p_Vec_Port, .int .i64 p_Hops, .int .i64 p_Left, .int .i64 p_Role, .int .i64 p_Wait, .bool p_Open]] => some ((o161 ⟨p_Up, p_Has, ⟨p_Vec_Root, p_Vec_Cost, p_Vec_Bridge, p_Vec_Port⟩, p_Hops, p_Left, p_Role, p_Wait, p_Open⟩).1, (o161 ⟨p_Up, p_Has, ⟨p_Vec_Root, p_Vec_Cost, p_Vec_Bridge, p_Vec_Port⟩, p_Hops, p_Left, p_Role, p_Wait, p_Open⟩).2.1, (o161 ⟨p_Up, p_Has, ⟨p_Vec_Root, p_Vec_Cost, p_Vec_Bridge, p_Vec_Port⟩, p_Hops, p_Left, p_Role, p_Wait, p_Open⟩).2.2)
  | _ => none

theorem r161 (p : Port) (n : Nat) : evFn ⟨Go.Proofs.Try.prog, Hx, 161⟩ T106.call n Go.Proofs.Try.f161 [[.bool p.Up, .bool p.Has, .int .i64 p.Vec.Root, .int .i64 p.Vec.Cost, .int .i64 p.Vec.Bridge, .int .i64 p.Vec.Port, .int .i64 p.Hops, .int .i64 p.Left, .int .i64 p.Role, .int .i64 p.Wait, .bool p.Open]] = bif Port.Role p == 1 then some ([[D.bool (Port.Wait p == 0)]], []) else bif Port.Role p == 2 then some ([[D.bool (Port.Wait p == 0)]], []) else some ([[D.bool false]], []) := by kernel_rfl
theorem m161 (p : Port) (hpre : (o161 p).1 = true) : evFn ⟨Go.Proofs.Try.prog, Hx, 161⟩ T106.call 0 Go.Proofs.Try.f161 [[.bool p.Up, .bool p.Has, .int .i64 p.Vec.Root, .int .i64 p.Vec.Cost, .int .i64 p.Vec.Bridge, .int .i64 p.Vec.Port, .int .i64 p.Hops, .int .i64 p.Left, .int .i64 p.Role, .int .i64 p.Wait, .bool p.Open]] = some (o161 p).2 := by
  refine (r161 p _).trans ?_
  show _ = (some ([[.bool (openB p)]], []) : Option (List Row × List Row))
  replace hpre : (true) = true := hpre
  unfold openB
  simp only [Bool.cond_eq_ite]
  grind
theorem s161 : SoundAt Go.Proofs.Try.prog Hx 161 c161 := soundAt_of T106_sound mixed Go.Proofs.Try.func161 (by kernel_rfl) (by
  intro rows r h
  unfold c161 at h
  split at h
  · rename_i p_Up p_Has p_Vec_Root p_Vec_Cost p_Vec_Bridge p_Vec_Port p_Hops p_Left p_Role p_Wait p_Open
    obtain ⟨hp, hr⟩ := Prod.mk.inj (Option.some.inj h)
    subst hr
    exact ⟨_, m161 ⟨p_Up, p_Has, ⟨p_Vec_Root, p_Vec_Cost, p_Vec_Bridge, p_Vec_Port⟩, p_Hops, p_Left, p_Role, p_Wait, p_Open⟩ hp⟩
  · cases h)
def T161 : Table := (161, c161) :: T106
theorem T161_sound : Table.Sound Go.Proofs.Try.prog Hx T161 := Table.sound_cons s161 T106_sound
/- PortOk -/
def o139 (p : Port) : Bool × List Row × List Row := (true, [[.bool (portOk p)]], [])
def c139 : Contract
  | [[.bool p_Up, .bool p_Has, .int .i64 p_Vec_Root, .int .i64 p_Vec_Cost, .int .i64 p_Vec_Bridge, .int .i64 p_Vec_Port, .int .i64 p_Hops, .int .i64 p_Left, .int .i64 p_Role, .int .i64 p_Wait, .bool p_Open]] => some ((o139 ⟨p_Up, p_Has, ⟨p_Vec_Root, p_Vec_Cost, p_Vec_Bridge, p_Vec_Port⟩, p_Hops, p_Left, p_Role, p_Wait, p_Open⟩).1, (o139 ⟨p_Up, p_Has, ⟨p_Vec_Root, p_Vec_Cost, p_Vec_Bridge, p_Vec_Port⟩, p_Hops, p_Left, p_Role, p_Wait, p_Open⟩).2.1, (o139 ⟨p_Up, p_Has, ⟨p_Vec_Root, p_Vec_Cost, p_Vec_Bridge, p_Vec_Port⟩, p_Hops, p_Left, p_Role, p_Wait, p_Open⟩).2.2)
  | _ => none

theorem r139 (p : Port) (n : Nat) : evFn ⟨Go.Proofs.Try.prog, Hx, 139⟩ T161.call n Go.Proofs.Try.f139 [[.bool p.Up, .bool p.Has, .int .i64 p.Vec.Root, .int .i64 p.Vec.Cost, .int .i64 p.Vec.Bridge, .int .i64 p.Vec.Port, .int .i64 p.Hops, .int .i64 p.Left, .int .i64 p.Role, .int .i64 p.Wait, .bool p.Open]] = bif Port.Has p then bif !Port.Up p then some ([[D.bool false]], []) else bif !vecOk (Port.Vec p) then some ([[D.bool false]], []) else bif !isHopsB (Port.Hops p) then some ([[D.bool false]], []) else bif !inR (Port.Left p) (1) (3) then some ([[D.bool false]], []) else bif !Port.Has p then bif !(Vec.Root (Port.Vec p) == 0 && (Vec.Cost (Port.Vec p) == 0 && (Vec.Bridge (Port.Vec p) == 0 && (Vec.Port (Port.Vec p) == 0 && true)))) then some ([[D.bool false]], []) else bif Port.Hops p != 0 then some ([[D.bool false]], []) else bif Port.Left p != 0 then some ([[D.bool false]], []) else bif !inR (Port.Role p) (0) (3) then some ([[D.bool false]], []) else bif decide ((Port.Role p == 0) = Port.Up p) then some ([[D.bool false]], []) else bif !inR (Port.Wait p) (0) (4) then some ([[D.bool false]], []) else some ([[D.bool (decide (Port.Open p = openB p))]], []) else bif !inR (Port.Role p) (0) (3) then some ([[D.bool false]], []) else bif decide ((Port.Role p == 0) = Port.Up p) then some ([[D.bool false]], []) else bif !inR (Port.Wait p) (0) (4) then some ([[D.bool false]], []) else some ([[D.bool (decide (Port.Open p = openB p))]], []) else bif !Port.Has p then bif !(Vec.Root (Port.Vec p) == 0 && (Vec.Cost (Port.Vec p) == 0 && (Vec.Bridge (Port.Vec p) == 0 && (Vec.Port (Port.Vec p) == 0 && true)))) then some ([[D.bool false]], []) else bif Port.Hops p != 0 then some ([[D.bool false]], []) else bif Port.Left p != 0 then some ([[D.bool false]], []) else bif !inR (Port.Role p) (0) (3) then some ([[D.bool false]], []) else bif decide ((Port.Role p == 0) = Port.Up p) then some ([[D.bool false]], []) else bif !inR (Port.Wait p) (0) (4) then some ([[D.bool false]], []) else some ([[D.bool (decide (Port.Open p = openB p))]], []) else bif !inR (Port.Role p) (0) (3) then some ([[D.bool false]], []) else bif decide ((Port.Role p == 0) = Port.Up p) then some ([[D.bool false]], []) else bif !inR (Port.Wait p) (0) (4) then some ([[D.bool false]], []) else some ([[D.bool (decide (Port.Open p = openB p))]], []) := by kernel_rfl
theorem m139 (p : Port) (hpre : (o139 p).1 = true) : evFn ⟨Go.Proofs.Try.prog, Hx, 139⟩ T161.call 0 Go.Proofs.Try.f139 [[.bool p.Up, .bool p.Has, .int .i64 p.Vec.Root, .int .i64 p.Vec.Cost, .int .i64 p.Vec.Bridge, .int .i64 p.Vec.Port, .int .i64 p.Hops, .int .i64 p.Left, .int .i64 p.Role, .int .i64 p.Wait, .bool p.Open]] = some (o139 p).2 := by
  refine (r139 p _).trans ?_
  show _ = (some ([[.bool (portOk p)]], []) : Option (List Row × List Row))
  replace hpre : (true) = true := hpre
  unfold portOk
  simp only [cond_bool]
  apply bool_fin
  cases p.Has <;> simp only [Bool.cond_eq_ite] <;> grind
theorem s139 : SoundAt Go.Proofs.Try.prog Hx 139 c139 := soundAt_of T161_sound mixed Go.Proofs.Try.func139 (by kernel_rfl) (by
  intro rows r h
  unfold c139 at h
  split at h
  · rename_i p_Up p_Has p_Vec_Root p_Vec_Cost p_Vec_Bridge p_Vec_Port p_Hops p_Left p_Role p_Wait p_Open
    obtain ⟨hp, hr⟩ := Prod.mk.inj (Option.some.inj h)
    subst hr
    exact ⟨_, m139 ⟨p_Up, p_Has, ⟨p_Vec_Root, p_Vec_Cost, p_Vec_Bridge, p_Vec_Port⟩, p_Hops, p_Left, p_Role, p_Wait, p_Open⟩ hp⟩
  · cases h)
def T139 : Table := (139, c139) :: T161
theorem T139_sound : Table.Sound Go.Proofs.Try.prog Hx T139 := Table.sound_cons s139 T161_sound
/- PortOkS -/
def o137 (p : Port) : Bool × List Row × List Row := (true, [[.bool (portOk p)]], [])
def c137 : Contract
  | [[.bool p_Up, .bool p_Has, .int .i64 p_Vec_Root, .int .i64 p_Vec_Cost, .int .i64 p_Vec_Bridge, .int .i64 p_Vec_Port, .int .i64 p_Hops, .int .i64 p_Left, .int .i64 p_Role, .int .i64 p_Wait, .bool p_Open]] => some ((o137 ⟨p_Up, p_Has, ⟨p_Vec_Root, p_Vec_Cost, p_Vec_Bridge, p_Vec_Port⟩, p_Hops, p_Left, p_Role, p_Wait, p_Open⟩).1, (o137 ⟨p_Up, p_Has, ⟨p_Vec_Root, p_Vec_Cost, p_Vec_Bridge, p_Vec_Port⟩, p_Hops, p_Left, p_Role, p_Wait, p_Open⟩).2.1, (o137 ⟨p_Up, p_Has, ⟨p_Vec_Root, p_Vec_Cost, p_Vec_Bridge, p_Vec_Port⟩, p_Hops, p_Left, p_Role, p_Wait, p_Open⟩).2.2)
  | _ => none

theorem r137 (p : Port) (n : Nat) : evFn ⟨Go.Proofs.Try.prog, Hx, 137⟩ T139.call n Go.Proofs.Try.f137 [[.bool p.Up, .bool p.Has, .int .i64 p.Vec.Root, .int .i64 p.Vec.Cost, .int .i64 p.Vec.Bridge, .int .i64 p.Vec.Port, .int .i64 p.Hops, .int .i64 p.Left, .int .i64 p.Role, .int .i64 p.Wait, .bool p.Open]] = bif Port.Has p then bif !Port.Up p then some ([[D.bool false]], []) else bif !vecOk (Port.Vec p) then some ([[D.bool false]], []) else bif !inR (Port.Hops p) (0) (8) then some ([[D.bool false]], []) else bif !inR (Port.Left p) (1) (3) then some ([[D.bool false]], []) else bif Port.Role p == 1 then bif inR (Port.Role p) (0) (3) then bif decide ((Port.Role p == 0) = !Port.Up p) then bif inR (Port.Wait p) (0) (4) then some ([[D.bool (decide (Port.Open p = (Port.Wait p == 0)))]], []) else some ([[D.bool false]], []) else some ([[D.bool false]], []) else some ([[D.bool false]], []) else bif inR (Port.Role p) (0) (3) then bif decide ((Port.Role p == 0) = !Port.Up p) then bif inR (Port.Wait p) (0) (4) then bif Port.Role p == 2 then some ([[D.bool (decide (Port.Open p = (Port.Wait p == 0)))]], []) else some ([[D.bool (decide (Port.Open p = false))]], []) else some ([[D.bool false]], []) else some ([[D.bool false]], []) else some ([[D.bool false]], []) else bif !(Vec.Root (Port.Vec p) == 0 && (Vec.Cost (Port.Vec p) == 0 && (Vec.Bridge (Port.Vec p) == 0 && (Vec.Port (Port.Vec p) == 0 && true)))) then some ([[D.bool false]], []) else bif Port.Hops p != 0 then some ([[D.bool false]], []) else bif Port.Left p != 0 then some ([[D.bool false]], []) else bif Port.Role p == 1 then bif inR (Port.Role p) (0) (3) then bif decide ((Port.Role p == 0) = !Port.Up p) then bif inR (Port.Wait p) (0) (4) then some ([[D.bool (decide (Port.Open p = (Port.Wait p == 0)))]], []) else some ([[D.bool false]], []) else some ([[D.bool false]], []) else some ([[D.bool false]], []) else bif inR (Port.Role p) (0) (3) then bif decide ((Port.Role p == 0) = !Port.Up p) then bif inR (Port.Wait p) (0) (4) then bif Port.Role p == 2 then some ([[D.bool (decide (Port.Open p = (Port.Wait p == 0)))]], []) else some ([[D.bool (decide (Port.Open p = false))]], []) else some ([[D.bool false]], []) else some ([[D.bool false]], []) else some ([[D.bool false]], []) := by kernel_rfl
theorem m137 (p : Port) (hpre : (o137 p).1 = true) : evFn ⟨Go.Proofs.Try.prog, Hx, 137⟩ T139.call 0 Go.Proofs.Try.f137 [[.bool p.Up, .bool p.Has, .int .i64 p.Vec.Root, .int .i64 p.Vec.Cost, .int .i64 p.Vec.Bridge, .int .i64 p.Vec.Port, .int .i64 p.Hops, .int .i64 p.Left, .int .i64 p.Role, .int .i64 p.Wait, .bool p.Open]] = some (o137 p).2 := by
  refine (r137 p _).trans ?_
  show _ = (some ([[.bool (portOk p)]], []) : Option (List Row × List Row))
  replace hpre : (true) = true := hpre
  unfold portOk openB isHopsB
  simp only [cond_bool]
  apply bool_fin
  cases p.Has <;> simp only [Bool.cond_eq_ite] <;> grind
theorem s137 : SoundAt Go.Proofs.Try.prog Hx 137 c137 := soundAt_of T139_sound mixed Go.Proofs.Try.func137 (by kernel_rfl) (by
  intro rows r h
  unfold c137 at h
  split at h
  · rename_i p_Up p_Has p_Vec_Root p_Vec_Cost p_Vec_Bridge p_Vec_Port p_Hops p_Left p_Role p_Wait p_Open
    obtain ⟨hp, hr⟩ := Prod.mk.inj (Option.some.inj h)
    subst hr
    exact ⟨_, m137 ⟨p_Up, p_Has, ⟨p_Vec_Root, p_Vec_Cost, p_Vec_Bridge, p_Vec_Port⟩, p_Hops, p_Left, p_Role, p_Wait, p_Open⟩ hp⟩
  · cases h)
def T137 : Table := (137, c137) :: T139
theorem T137_sound : Table.Sound Go.Proofs.Try.prog Hx T137 := Table.sound_cons s137 T139_sound
end Go.Ev
end
