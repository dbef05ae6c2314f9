/- Contracts of functions, each by its evaluation. -/
import Derived.Test.YtgklglkmfgfodaaEvMd
import Derived.Test.YtgklglkmfgfodaaProg
import Derived.KernelRfl
import Derived.Test.YtgklglkmfgfodaaFBprt
set_option linter.unusedVariables false
set_option linter.unusedSimpArgs false
set_option maxRecDepth 100000
noncomputable section
open List (getD length drop take set append replicate all isEmpty)
open Int (toNat ofNat)
open Go.IntKind (i64 wrap)
open Go.Proofs.Try (prog f43 f71 func43 func71)
namespace Go.Ev
open Go.RowKit Go.Md
end Go.Ev
namespace Go.Md
open Go Go.Ev
def vec0 (v : Vec) : Bool := v.Root == 0 && (v.Cost == 0 && (v.Bridge == 0 && v.Port == 0))
def in0 (x : In) : Bool := x.Kind == 0 && (x.Port == 0 && (vec0 x.Vec && (x.Hops == 0 && !x.Up)))
def inOk (x : In) : Bool := bif x.Kind == 1 then isPortB x.Port && (vecOk x.Vec && (isHopsB x.Hops && !x.Up)) else bif x.Kind == 3 then isPortB x.Port && (vec0 x.Vec && x.Hops == 0) else x.Kind == 2 && (x.Port == 0 && (vec0 x.Vec && (x.Hops == 0 && !x.Up)))
end Go.Md
namespace Go.Ev
open Go.Md
def o43 (x : In) : Bool × List Row × List Row := (true, [[.bool (inOk x)]], [])
def c43 : Contract
  | [[.int .i64 x_Kind, .int .i64 x_Port, .int .i64 x_Vec_Root, .int .i64 x_Vec_Cost, .int .i64 x_Vec_Bridge, .int .i64 x_Vec_Port, .int .i64 x_Hops, .bool x_Up]] => some ((o43 ⟨x_Kind, x_Port, ⟨x_Vec_Root, x_Vec_Cost, x_Vec_Bridge, x_Vec_Port⟩, x_Hops, x_Up⟩).1, (o43 ⟨x_Kind, x_Port, ⟨x_Vec_Root, x_Vec_Cost, x_Vec_Bridge, x_Vec_Port⟩, x_Hops, x_Up⟩).2.1, (o43 ⟨x_Kind, x_Port, ⟨x_Vec_Root, x_Vec_Cost, x_Vec_Bridge, x_Vec_Port⟩, x_Hops, x_Up⟩).2.2)
  | _ => none

theorem r43 (x : In) (n : Nat) : evFn ⟨prog, Hx, 43⟩ T32.call n f43 [[.int .i64 x.Kind, .int .i64 x.Port, .int .i64 x.Vec.Root, .int .i64 x.Vec.Cost, .int .i64 x.Vec.Bridge, .int .i64 x.Vec.Port, .int .i64 x.Hops, .bool x.Up]] = bif In.Kind x == 1 then bif isPortB (In.Port x) then bif vecOk (In.Vec x) then bif isHopsB (In.Hops x) then some ([[D.bool !In.Up x]], []) else some ([[D.bool false]], []) else some ([[D.bool false]], []) else some ([[D.bool false]], []) else bif In.Kind x == 3 then bif isPortB (In.Port x) then bif Vec.Root (In.Vec x) == 0 && (Vec.Cost (In.Vec x) == 0 && (Vec.Bridge (In.Vec x) == 0 && (Vec.Port (In.Vec x) == 0 && true))) then some ([[D.bool (In.Hops x == 0)]], []) else some ([[D.bool false]], []) else some ([[D.bool false]], []) else some ([[D.bool (In.Kind x == 2 && (In.Port x == 0 && (Vec.Root (In.Vec x) == 0 && (Vec.Cost (In.Vec x) == 0 && (Vec.Bridge (In.Vec x) == 0 && (Vec.Port (In.Vec x) == 0 && true))) && (In.Hops x == 0 && (decide (In.Up x = false) && true)))))]], []) := by kernel_rfl
theorem m43 (x : In) (hpre : (o43 x).1 = true) : evFn ⟨Go.Proofs.Try.prog, Hx, 43⟩ T32.call 0 f43 [[.int .i64 x.Kind, .int .i64 x.Port, .int .i64 x.Vec.Root, .int .i64 x.Vec.Cost, .int .i64 x.Vec.Bridge, .int .i64 x.Vec.Port, .int .i64 x.Hops, .bool x.Up]] = some (o43 x).2 := by
  refine (r43 x _).trans ?_
  show _ = (some ([[.bool (inOk x)]], []) : Option (List Row × List Row))
  replace hpre : (true) = true := hpre
  unfold inOk vec0
  simp only [cond_bool]
  apply bool_fin
  simp only [Bool.cond_eq_ite]
  grind
theorem s43 : SoundAt Go.Proofs.Try.prog Hx 43 c43 := soundAt_of T32_sound mixed func43 (by kernel_rfl) (by
  intro rows r h
  unfold c43 at h
  split at h
  · rename_i x_Kind x_Port x_Vec_Root x_Vec_Cost x_Vec_Bridge x_Vec_Port x_Hops x_Up
    obtain ⟨hp, hr⟩ := Prod.mk.inj (Option.some.inj h)
    subst hr
    exact ⟨_, m43 ⟨x_Kind, x_Port, ⟨x_Vec_Root, x_Vec_Cost, x_Vec_Bridge, x_Vec_Port⟩, x_Hops, x_Up⟩ hp⟩
  · cases h)
def T43 : Table := (43, c43) :: T32
theorem T43_sound : Table.Sound Go.Proofs.Try.prog Hx T43 := Table.sound_cons s43 T32_sound
def o71 (x : In) : Bool × List Row × List Row := (true, [[.bool (inOk x)]], [])
def c71 : Contract
  | [[.int .i64 x_Kind, .int .i64 x_Port, .int .i64 x_Vec_Root, .int .i64 x_Vec_Cost, .int .i64 x_Vec_Bridge, .int .i64 x_Vec_Port, .int .i64 x_Hops, .bool x_Up]] => some ((o71 ⟨x_Kind, x_Port, ⟨x_Vec_Root, x_Vec_Cost, x_Vec_Bridge, x_Vec_Port⟩, x_Hops, x_Up⟩).1, (o71 ⟨x_Kind, x_Port, ⟨x_Vec_Root, x_Vec_Cost, x_Vec_Bridge, x_Vec_Port⟩, x_Hops, x_Up⟩).2.1, (o71 ⟨x_Kind, x_Port, ⟨x_Vec_Root, x_Vec_Cost, x_Vec_Bridge, x_Vec_Port⟩, x_Hops, x_Up⟩).2.2)
  | _ => none

theorem r71 (x : In) (n : Nat) : evFn ⟨prog, Hx, 71⟩ T43.call n f71 [[.int .i64 x.Kind, .int .i64 x.Port, .int .i64 x.Vec.Root, .int .i64 x.Vec.Cost, .int .i64 x.Vec.Bridge, .int .i64 x.Vec.Port, .int .i64 x.Hops, .bool x.Up]] = bif In.Kind x == 1 then bif inR (In.Port x) (0) (3) then bif vecOk (In.Vec x) then bif inR (In.Hops x) (0) (8) then some ([[D.bool !In.Up x]], []) else some ([[D.bool false]], []) else some ([[D.bool false]], []) else some ([[D.bool false]], []) else bif In.Kind x == 3 then bif inR (In.Port x) (0) (3) then bif Vec.Root (In.Vec x) == 0 && (Vec.Cost (In.Vec x) == 0 && (Vec.Bridge (In.Vec x) == 0 && (Vec.Port (In.Vec x) == 0 && true))) then some ([[D.bool (In.Hops x == 0)]], []) else some ([[D.bool false]], []) else some ([[D.bool false]], []) else bif In.Kind x == 2 then some ([[D.bool (In.Kind x == 2 && (In.Port x == 0 && (Vec.Root (In.Vec x) == 0 && (Vec.Cost (In.Vec x) == 0 && (Vec.Bridge (In.Vec x) == 0 && (Vec.Port (In.Vec x) == 0 && true))) && (In.Hops x == 0 && (decide (In.Up x = false) && true)))))]], []) else some ([[D.bool false]], []) := by kernel_rfl
theorem m71 (x : In) (hpre : (o71 x).1 = true) : evFn ⟨Go.Proofs.Try.prog, Hx, 71⟩ T43.call 0 f71 [[.int .i64 x.Kind, .int .i64 x.Port, .int .i64 x.Vec.Root, .int .i64 x.Vec.Cost, .int .i64 x.Vec.Bridge, .int .i64 x.Vec.Port, .int .i64 x.Hops, .bool x.Up]] = some (o71 x).2 := by
  refine (r71 x _).trans ?_
  show _ = (some ([[.bool (inOk x)]], []) : Option (List Row × List Row))
  replace hpre : (true) = true := hpre
  unfold inOk vec0 isPortB isHopsB
  simp only [cond_bool]
  apply bool_fin
  simp only [Bool.cond_eq_ite]
  grind
theorem s71 : SoundAt Go.Proofs.Try.prog Hx 71 c71 := soundAt_of T43_sound mixed func71 (by kernel_rfl) (by
  intro rows r h
  unfold c71 at h
  split at h
  · rename_i x_Kind x_Port x_Vec_Root x_Vec_Cost x_Vec_Bridge x_Vec_Port x_Hops x_Up
    obtain ⟨hp, hr⟩ := Prod.mk.inj (Option.some.inj h)
    subst hr
    exact ⟨_, m71 ⟨x_Kind, x_Port, ⟨x_Vec_Root, x_Vec_Cost, x_Vec_Bridge, x_Vec_Port⟩, x_Hops, x_Up⟩ hp⟩
  · cases h)
def T71 : Table := (71, c71) :: T43
theorem T71_sound : Table.Sound Go.Proofs.Try.prog Hx T71 := Table.sound_cons s71 T43_sound
end Go.Ev
end
