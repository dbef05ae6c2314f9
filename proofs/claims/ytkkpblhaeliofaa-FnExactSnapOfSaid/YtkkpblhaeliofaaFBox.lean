/- Contracts of functions, each by its evaluation. -/
import Derived.Test.YtkkpblhaeliofaaEvMd
import Derived.Test.YtkkpblhaeliofaaProg
import Derived.KernelRfl
import Derived.Test.YtkkpblhaeliofaaFBnew
set_option linter.unusedVariables false
set_option linter.unusedSimpArgs false
set_option maxRecDepth 100000
noncomputable section
open List (getD length drop take set append replicate all isEmpty)
open Int (toNat ofNat)
open Go.IntKind (i64 wrap)
open Go.Proofs.Try (prog f76 f86 func76 func86)
namespace Go.Ev
open Go.RowKit Go.Md
end Go.Ev
namespace Go.Md
open Go Go.Ev
def vec0 (v : Vec) : Bool := v.Root == 0 && (v.Cost == 0 && (v.Bridge == 0 && v.Port == 0))
def in0 (x : In) : Bool := x.Kind == 0 && (x.Port == 0 && (vec0 x.Vec && (x.Hops == 0 && !x.Up)))
def inOk (x : In) : Bool := bif x.Kind == 1 then isPortB x.Port && (vecOk x.Vec && (isHopsB x.Hops && !x.Up)) else bif x.Kind == 3 then isPortB x.Port && (vec0 x.Vec && x.Hops == 0) else x.Kind == 2 && (x.Port == 0 && (vec0 x.Vec && (x.Hops == 0 && !x.Up)))
def isNumB (n : Int) : Bool := inR n 0 100000
def isSideB (s : Int) : Bool := s == 0 || s == 1
theorem side_in (s : Int) : inR s 0 1 = isSideB s := by
  unfold inR isSideB
  rw [Bool.eq_iff_iff]
  simp
  omega
def logOkB (l : List In) : Bool := l.all inOk && decide (l.length ≤ 60)
def minderOk (m : Minder) : Bool := isNumB m.Life && (isNumB m.Epoch && (isNumB m.AckLife && (logOkB m.Log && (inR m.Said 0 (m.Log.length : Int) && (inR m.Acked 0 (m.Log.length : Int) && (m.Up || (m.Epoch == 0 && (decide (m.Log.length = 0) && m.AckLife == 0))))))))
def regOk (r : Reg) : Bool := inR r.Epoch 1 100000 && (isSideB r.Owner && isNumB r.Pair)
def minds (r : Reg) (s : Int) (m : Minder) : Bool := regOk r && (minderOk m && (m.Up && (s == r.Owner && m.Epoch == r.Epoch)))
def wireOk (w : Wire) : Bool := isSideB w.From && (isNumB w.Life && (isNumB w.N && (bif w.Ack then in0 w.In else inOk w.In)))
theorem zero_len (n : Nat) : ((Int.ofNat n) == 0) = decide (n = 0) := by
  rw [Bool.eq_iff_iff]
  simp
end Go.Md
namespace Go.Ev
open Go.Md
def o76 (x : In) : Bool × List Row × List Row := (true, [[.bool (inOk x)]], [])
def c76 : Contract
  | [[.int .i64 x_Kind, .int .i64 x_Port, .int .i64 x_Vec_Root, .int .i64 x_Vec_Cost, .int .i64 x_Vec_Bridge, .int .i64 x_Vec_Port, .int .i64 x_Hops, .bool x_Up]] => some ((o76 ⟨x_Kind, x_Port, ⟨x_Vec_Root, x_Vec_Cost, x_Vec_Bridge, x_Vec_Port⟩, x_Hops, x_Up⟩).1, (o76 ⟨x_Kind, x_Port, ⟨x_Vec_Root, x_Vec_Cost, x_Vec_Bridge, x_Vec_Port⟩, x_Hops, x_Up⟩).2.1, (o76 ⟨x_Kind, x_Port, ⟨x_Vec_Root, x_Vec_Cost, x_Vec_Bridge, x_Vec_Port⟩, x_Hops, x_Up⟩).2.2)
  | _ => none

theorem r76 (x : In) (n : Nat) : evFn ⟨prog, Hx, 76⟩ T34.call n f76 [[.int .i64 x.Kind, .int .i64 x.Port, .int .i64 x.Vec.Root, .int .i64 x.Vec.Cost, .int .i64 x.Vec.Bridge, .int .i64 x.Vec.Port, .int .i64 x.Hops, .bool x.Up]] = bif In.Kind x == 1 then bif isPortB (In.Port x) then bif vecOk (In.Vec x) then bif isHopsB (In.Hops x) then some ([[D.bool !In.Up x]], []) else some ([[D.bool false]], []) else some ([[D.bool false]], []) else some ([[D.bool false]], []) else bif In.Kind x == 3 then bif isPortB (In.Port x) then bif Vec.Root (In.Vec x) == 0 && (Vec.Cost (In.Vec x) == 0 && (Vec.Bridge (In.Vec x) == 0 && (Vec.Port (In.Vec x) == 0 && true))) then some ([[D.bool (In.Hops x == 0)]], []) else some ([[D.bool false]], []) else some ([[D.bool false]], []) else some ([[D.bool (In.Kind x == 2 && (In.Port x == 0 && (Vec.Root (In.Vec x) == 0 && (Vec.Cost (In.Vec x) == 0 && (Vec.Bridge (In.Vec x) == 0 && (Vec.Port (In.Vec x) == 0 && true))) && (In.Hops x == 0 && (decide (In.Up x = false) && true)))))]], []) := by kernel_rfl
theorem m76 (x : In) (hpre : (o76 x).1 = true) : evFn ⟨Go.Proofs.Try.prog, Hx, 76⟩ T34.call 0 f76 [[.int .i64 x.Kind, .int .i64 x.Port, .int .i64 x.Vec.Root, .int .i64 x.Vec.Cost, .int .i64 x.Vec.Bridge, .int .i64 x.Vec.Port, .int .i64 x.Hops, .bool x.Up]] = some (o76 x).2 := by
  refine (r76 x _).trans ?_
  show _ = (some ([[.bool (inOk x)]], []) : Option (List Row × List Row))
  replace hpre : (true) = true := hpre
  unfold inOk vec0
  simp only [cond_bool]
  apply bool_fin
  simp only [Bool.cond_eq_ite]
  grind
theorem s76 : SoundAt Go.Proofs.Try.prog Hx 76 c76 := soundAt_of T34_sound mixed func76 (by kernel_rfl) (by
  intro rows r h
  unfold c76 at h
  split at h
  · rename_i x_Kind x_Port x_Vec_Root x_Vec_Cost x_Vec_Bridge x_Vec_Port x_Hops x_Up
    obtain ⟨hp, hr⟩ := Prod.mk.inj (Option.some.inj h)
    subst hr
    exact ⟨_, m76 ⟨x_Kind, x_Port, ⟨x_Vec_Root, x_Vec_Cost, x_Vec_Bridge, x_Vec_Port⟩, x_Hops, x_Up⟩ hp⟩
  · cases h)
def T76 : Table := (76, c76) :: T34
theorem T76_sound : Table.Sound Go.Proofs.Try.prog Hx T76 := Table.sound_cons s76 T34_sound
def o86 (x : In) : Bool × List Row × List Row := (true, [[.bool (inOk x)]], [])
def c86 : Contract
  | [[.int .i64 x_Kind, .int .i64 x_Port, .int .i64 x_Vec_Root, .int .i64 x_Vec_Cost, .int .i64 x_Vec_Bridge, .int .i64 x_Vec_Port, .int .i64 x_Hops, .bool x_Up]] => some ((o86 ⟨x_Kind, x_Port, ⟨x_Vec_Root, x_Vec_Cost, x_Vec_Bridge, x_Vec_Port⟩, x_Hops, x_Up⟩).1, (o86 ⟨x_Kind, x_Port, ⟨x_Vec_Root, x_Vec_Cost, x_Vec_Bridge, x_Vec_Port⟩, x_Hops, x_Up⟩).2.1, (o86 ⟨x_Kind, x_Port, ⟨x_Vec_Root, x_Vec_Cost, x_Vec_Bridge, x_Vec_Port⟩, x_Hops, x_Up⟩).2.2)
  | _ => none

theorem r86 (x : In) (n : Nat) : evFn ⟨prog, Hx, 86⟩ T76.call n f86 [[.int .i64 x.Kind, .int .i64 x.Port, .int .i64 x.Vec.Root, .int .i64 x.Vec.Cost, .int .i64 x.Vec.Bridge, .int .i64 x.Vec.Port, .int .i64 x.Hops, .bool x.Up]] = bif In.Kind x == 1 then bif inR (In.Port x) (0) (3) then bif vecOk (In.Vec x) then bif inR (In.Hops x) (0) (8) then some ([[D.bool !In.Up x]], []) else some ([[D.bool false]], []) else some ([[D.bool false]], []) else some ([[D.bool false]], []) else bif In.Kind x == 3 then bif inR (In.Port x) (0) (3) then bif Vec.Root (In.Vec x) == 0 && (Vec.Cost (In.Vec x) == 0 && (Vec.Bridge (In.Vec x) == 0 && (Vec.Port (In.Vec x) == 0 && true))) then some ([[D.bool (In.Hops x == 0)]], []) else some ([[D.bool false]], []) else some ([[D.bool false]], []) else bif In.Kind x == 2 then some ([[D.bool (In.Kind x == 2 && (In.Port x == 0 && (Vec.Root (In.Vec x) == 0 && (Vec.Cost (In.Vec x) == 0 && (Vec.Bridge (In.Vec x) == 0 && (Vec.Port (In.Vec x) == 0 && true))) && (In.Hops x == 0 && (decide (In.Up x = false) && true)))))]], []) else some ([[D.bool false]], []) := by kernel_rfl
theorem m86 (x : In) (hpre : (o86 x).1 = true) : evFn ⟨Go.Proofs.Try.prog, Hx, 86⟩ T76.call 0 f86 [[.int .i64 x.Kind, .int .i64 x.Port, .int .i64 x.Vec.Root, .int .i64 x.Vec.Cost, .int .i64 x.Vec.Bridge, .int .i64 x.Vec.Port, .int .i64 x.Hops, .bool x.Up]] = some (o86 x).2 := by
  refine (r86 x _).trans ?_
  show _ = (some ([[.bool (inOk x)]], []) : Option (List Row × List Row))
  replace hpre : (true) = true := hpre
  unfold inOk vec0 isPortB isHopsB
  simp only [cond_bool]
  apply bool_fin
  simp only [Bool.cond_eq_ite]
  grind
theorem s86 : SoundAt Go.Proofs.Try.prog Hx 86 c86 := soundAt_of T76_sound mixed func86 (by kernel_rfl) (by
  intro rows r h
  unfold c86 at h
  split at h
  · rename_i x_Kind x_Port x_Vec_Root x_Vec_Cost x_Vec_Bridge x_Vec_Port x_Hops x_Up
    obtain ⟨hp, hr⟩ := Prod.mk.inj (Option.some.inj h)
    subst hr
    exact ⟨_, m86 ⟨x_Kind, x_Port, ⟨x_Vec_Root, x_Vec_Cost, x_Vec_Bridge, x_Vec_Port⟩, x_Hops, x_Up⟩ hp⟩
  · cases h)
def T86 : Table := (86, c86) :: T76
theorem T86_sound : Table.Sound Go.Proofs.Try.prog Hx T86 := Table.sound_cons s86 T76_sound
end Go.Ev
end
