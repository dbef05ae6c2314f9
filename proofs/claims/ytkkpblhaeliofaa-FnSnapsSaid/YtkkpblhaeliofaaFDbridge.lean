/- Contracts of functions, each by its evaluation. -/
import Derived.Test.YtkkpblhaeliofaaEvMd
import Derived.Test.YtkkpblhaeliofaaProg
import Derived.KernelRfl
import Derived.Test.YtkkpblhaeliofaaFSamebr
set_option linter.unusedVariables false
set_option linter.unusedSimpArgs false
set_option maxRecDepth 100000
noncomputable section
open List (getD length drop take set append replicate all isEmpty)
open Int (toNat ofNat)
open Go.IntKind (i64 wrap)
open Go.Proofs.Try (prog f22 f24 f27 f28 f47 f51 f58 f84 func22 func24 func27 func28 func47 func51 func58 func84)
namespace Go.Ev
open Go.RowKit Go.Md
end Go.Ev
namespace Go.Md
open Go Go.Ev
def P_l7DrawRight (c : TL1Cur) (x : Port × TL1Cur) : Prop := evFn ⟨Go.Proofs.Try.prog, Hx, 84⟩ T17.call 0 f84 [[.sl false 1 c.b, .int .i64 c.i, .int .i64 c.h]] = some ([[.bool x.1.Up, .bool x.1.Has, .int .i64 x.1.Vec.Root, .int .i64 x.1.Vec.Cost, .int .i64 x.1.Vec.Bridge, .int .i64 x.1.Vec.Port, .int .i64 x.1.Hops, .int .i64 x.1.Left, .int .i64 x.1.Role, .int .i64 x.1.Wait, .bool x.1.Open]], [[.sl false 1 x.2.b, .int .i64 x.2.i, .int .i64 x.2.h]]) ∧ (curOk x.2 = true)
noncomputable def w_l7DrawRight (c : TL1Cur) : Port × TL1Cur := @Classical.epsilon (Port × TL1Cur) ⟨(⟨false, false, ⟨0, 0, 0, 0⟩, 0, 0, 0, 0, false⟩, ⟨[], 0, 0⟩)⟩ (P_l7DrawRight c)
noncomputable def v0_l7DrawRight (c : TL1Cur) : Port := (w_l7DrawRight c).1
noncomputable def b0_l7DrawRight (c : TL1Cur) : TL1Cur := (w_l7DrawRight c).2
end Go.Md
namespace Go.Ev
open Go.Md
def o84 (c : TL1Cur) : Bool × List Row × List Row := (curOk c, [[.bool (v0_l7DrawRight c).Up, .bool (v0_l7DrawRight c).Has, .int .i64 (v0_l7DrawRight c).Vec.Root, .int .i64 (v0_l7DrawRight c).Vec.Cost, .int .i64 (v0_l7DrawRight c).Vec.Bridge, .int .i64 (v0_l7DrawRight c).Vec.Port, .int .i64 (v0_l7DrawRight c).Hops, .int .i64 (v0_l7DrawRight c).Left, .int .i64 (v0_l7DrawRight c).Role, .int .i64 (v0_l7DrawRight c).Wait, .bool (v0_l7DrawRight c).Open]], [[.sl false 1 (b0_l7DrawRight c).b, .int .i64 (b0_l7DrawRight c).i, .int .i64 (b0_l7DrawRight c).h]])
def c84 : Contract
  | [[.sl false 1 c_b, .int .i64 c_i, .int .i64 c_h]] => some ((o84 ⟨c_b, c_i, c_h⟩).1, (o84 ⟨c_b, c_i, c_h⟩).2.1, (o84 ⟨c_b, c_i, c_h⟩).2.2)
  | _ => none

def v84_0 : List (List D) := [[D.int i64 (0)], [D.int i64 (2)], [D.int i64 (4)]]
def v84_1 : List Int := deS Int v84_0
def v84_2 (c : TL1Cur) : Bool := curOk (b0_l1Once (b0_l1PickInt (b0_l1Once c (5)) v84_1) (3))
def v84_3 (c : TL1Cur) : Bool := curOk (b0_l1Once (b0_l1Below (b0_l6DrawRight (b0_l1Once (b0_l1PickInt (b0_l1Once c (5)) v84_1) (3))) (4)) (3))
def v84_4 (c : TL1Cur) : Int := wrap i64 (1 + v0_l1Below (b0_l1Once (b0_l1Below (b0_l6DrawRight (b0_l1Once (b0_l1PickInt (b0_l1Once c (5)) v84_1) (3))) (4)) (3)) (3))
def v84_5 (c : TL1Cur) : List Row := [[D.sl false 1 (TL1Cur.b (b0_l1Below (b0_l1Once (b0_l1Below (b0_l6DrawRight (b0_l1Once (b0_l1PickInt (b0_l1Once c (5)) v84_1) (3))) (4)) (3)) (3))), D.int i64 (TL1Cur.i (b0_l1Below (b0_l1Once (b0_l1Below (b0_l6DrawRight (b0_l1Once (b0_l1PickInt (b0_l1Once c (5)) v84_1) (3))) (4)) (3)) (3))), D.int i64 (TL1Cur.h (b0_l1Below (b0_l1Once (b0_l1Below (b0_l6DrawRight (b0_l1Once (b0_l1PickInt (b0_l1Once c (5)) v84_1) (3))) (4)) (3)) (3)))]]
theorem r84 (c : TL1Cur) (n : Nat) : evFn ⟨prog, Hx, 84⟩ T17.call n f84 [[.sl false 1 c.b, .int .i64 c.i, .int .i64 c.h]] = bif curOk c then bif v0_l1Once c (5) then some ([[D.bool false, D.bool false, D.int i64 (0), D.int i64 (0), D.int i64 (0), D.int i64 (0), D.int i64 (0), D.int i64 (0), D.int i64 (0), D.int i64 (0), D.bool false]], [[D.sl false 1 (TL1Cur.b (b0_l1Once c (5))), D.int i64 (TL1Cur.i (b0_l1Once c (5))), D.int i64 (TL1Cur.h (b0_l1Once c (5)))]]) else bif isS Int true v84_0 && (curOk (b0_l1Once c (5)) && (decide (0 < length v84_1) && decide (length v84_1 ≤ 1048576))) then bif curOk (b0_l1PickInt (b0_l1Once c (5)) v84_1) then bif !v0_l1Once (b0_l1PickInt (b0_l1Once c (5)) v84_1) (3) then bif v84_2 c then bif curOk (b0_l6DrawRight (b0_l1Once (b0_l1PickInt (b0_l1Once c (5)) v84_1) (3))) then bif curOk (b0_l1Below (b0_l6DrawRight (b0_l1Once (b0_l1PickInt (b0_l1Once c (5)) v84_1) (3))) (4)) then bif v0_l1Once (b0_l1Below (b0_l6DrawRight (b0_l1Once (b0_l1PickInt (b0_l1Once c (5)) v84_1) (3))) (4)) (3) then bif v84_3 c then some ([En.enc true (turnM (openP (fadeM (claimM (openP (Port.mk true false (Vec.mk (0) (0) (0) (0)) (0) (0) (2) (v0_l1PickInt (b0_l1Once c (5)) v84_1) false)) (v0_l6DrawRight (b0_l1Once (b0_l1PickInt (b0_l1Once c (5)) v84_1) (3))) (v0_l1Below (b0_l6DrawRight (b0_l1Once (b0_l1PickInt (b0_l1Once c (5)) v84_1) (3))) (4))))) (v84_4 c))], v84_5 c) else none else bif v84_3 c then some ([En.enc true (turnM (openP (claimM (openP (Port.mk true false (Vec.mk (0) (0) (0) (0)) (0) (0) (2) (v0_l1PickInt (b0_l1Once c (5)) v84_1) false)) (v0_l6DrawRight (b0_l1Once (b0_l1PickInt (b0_l1Once c (5)) v84_1) (3))) (v0_l1Below (b0_l6DrawRight (b0_l1Once (b0_l1PickInt (b0_l1Once c (5)) v84_1) (3))) (4)))) (v84_4 c))], v84_5 c) else none else none else none else none else bif v84_2 c then some ([En.enc true (turnM (openP (Port.mk true false (Vec.mk (0) (0) (0) (0)) (0) (0) (2) (v0_l1PickInt (b0_l1Once c (5)) v84_1) false)) (wrap i64 (1 + v0_l1Below (b0_l1Once (b0_l1PickInt (b0_l1Once c (5)) v84_1) (3)) (3))))], [[D.sl false 1 (TL1Cur.b (b0_l1Below (b0_l1Once (b0_l1PickInt (b0_l1Once c (5)) v84_1) (3)) (3))), D.int i64 (TL1Cur.i (b0_l1Below (b0_l1Once (b0_l1PickInt (b0_l1Once c (5)) v84_1) (3)) (3))), D.int i64 (TL1Cur.h (b0_l1Below (b0_l1Once (b0_l1PickInt (b0_l1Once c (5)) v84_1) (3)) (3)))]]) else none else none else none else none := by kernel_rfl
def G_l7DrawRight (c : TL1Cur) (r : Option (List Row × List Row)) : Prop := ∃ x : Port × TL1Cur, r = some ([[.bool x.1.Up, .bool x.1.Has, .int .i64 x.1.Vec.Root, .int .i64 x.1.Vec.Cost, .int .i64 x.1.Vec.Bridge, .int .i64 x.1.Vec.Port, .int .i64 x.1.Hops, .int .i64 x.1.Left, .int .i64 x.1.Role, .int .i64 x.1.Wait, .bool x.1.Open]], [[.sl false 1 x.2.b, .int .i64 x.2.i, .int .i64 x.2.h]]) ∧ (curOk x.2 = true)
theorem leaf_l7DrawRight (c : TL1Cur) {z0_Up : Bool} {z0_Has : Bool} {z0_Vec_Root : Int} {z0_Vec_Cost : Int} {z0_Vec_Bridge : Int} {z0_Vec_Port : Int} {z0_Hops : Int} {z0_Left : Int} {z0_Role : Int} {z0_Wait : Int} {z0_Open : Bool} {z1_b : List (List D)} {z1_i : Int} {z1_h : Int} (h : curOk (⟨z1_b, z1_i, z1_h⟩ : TL1Cur) = true) : G_l7DrawRight c (some ([[.bool z0_Up, .bool z0_Has, .int .i64 z0_Vec_Root, .int .i64 z0_Vec_Cost, .int .i64 z0_Vec_Bridge, .int .i64 z0_Vec_Port, .int .i64 z0_Hops, .int .i64 z0_Left, .int .i64 z0_Role, .int .i64 z0_Wait, .bool z0_Open]], [[.sl false 1 z1_b, .int .i64 z1_i, .int .i64 z1_h]])) := ⟨(⟨z0_Up, z0_Has, ⟨z0_Vec_Root, z0_Vec_Cost, z0_Vec_Bridge, z0_Vec_Port⟩, z0_Hops, z0_Left, z0_Role, z0_Wait, z0_Open⟩, ⟨z1_b, z1_i, z1_h⟩), rfl, h⟩
theorem e_l7DrawRight (c : TL1Cur) (hpre : (o84 c).1 = true) : ∃ x, P_l7DrawRight c x := by
  show G_l7DrawRight c _
  refine Eq.mpr (congrArg (G_l7DrawRight c) (r84 c _)) ?_
  replace hpre : (curOk c) = true := hpre
  repeat' first | refine leaf_l7DrawRight _  ?_ | refine g_pre ?_ ?_ | refine g_if (fun _ => ?_) (fun _ => ?_)
  all_goals simp (maxDischargeDepth := 60) [v84_0, v84_1, v84_2, v84_3, v84_4, v84_5, TL1Cur.eta, isS_int_cons, isS_nil, deS, List.map_cons, List.map_nil, List.length_cons, List.length_nil, k_l1Byte, k_l1Below, k_l1Once, k_l1PickInt, k_l6DrawRight, k_l6Draw, k_l8DrawIn, k_l8DrawBent, k_l9DrawList, k_l2Dent, hpre]
theorem p_l7DrawRight (c : TL1Cur) (hpre : (o84 c).1 = true) : curOk (b0_l7DrawRight c) = true := (Classical.epsilon_spec (e_l7DrawRight c hpre)).2
theorem k_l7DrawRight (c : TL1Cur) (hpre : (curOk c) = true) : curOk (b0_l7DrawRight c) = true := (p_l7DrawRight c hpre)
theorem m84 (c : TL1Cur) (hpre : (o84 c).1 = true) : evFn ⟨Go.Proofs.Try.prog, Hx, 84⟩ T17.call 0 f84 [[.sl false 1 c.b, .int .i64 c.i, .int .i64 c.h]] = some (o84 c).2 := (Classical.epsilon_spec (e_l7DrawRight c hpre)).1
theorem s84 : SoundAt Go.Proofs.Try.prog Hx 84 c84 := soundAt_of T17_sound mixed func84 (by kernel_rfl) (by
  intro rows r h
  unfold c84 at h
  split at h
  · rename_i c_b c_i c_h
    obtain ⟨hp, hr⟩ := Prod.mk.inj (Option.some.inj h)
    subst hr
    exact ⟨_, m84 ⟨c_b, c_i, c_h⟩ hp⟩
  · cases h)
def T84 : Table := (84, c84) :: T17
theorem T84_sound : Table.Sound Go.Proofs.Try.prog Hx T84 := Table.sound_cons s84 T17_sound
end Go.Ev
namespace Go.Md
open Go Go.Ev
def P_l7Draw (c : TL1Cur) (x : Port × TL1Cur) : Prop := evFn ⟨Go.Proofs.Try.prog, Hx, 58⟩ T84.call 0 f58 [[.sl false 1 c.b, .int .i64 c.i, .int .i64 c.h]] = some ([[.bool x.1.Up, .bool x.1.Has, .int .i64 x.1.Vec.Root, .int .i64 x.1.Vec.Cost, .int .i64 x.1.Vec.Bridge, .int .i64 x.1.Vec.Port, .int .i64 x.1.Hops, .int .i64 x.1.Left, .int .i64 x.1.Role, .int .i64 x.1.Wait, .bool x.1.Open]], [[.sl false 1 x.2.b, .int .i64 x.2.i, .int .i64 x.2.h]]) ∧ (curOk x.2 = true)
noncomputable def w_l7Draw (c : TL1Cur) : Port × TL1Cur := @Classical.epsilon (Port × TL1Cur) ⟨(⟨false, false, ⟨0, 0, 0, 0⟩, 0, 0, 0, 0, false⟩, ⟨[], 0, 0⟩)⟩ (P_l7Draw c)
noncomputable def v0_l7Draw (c : TL1Cur) : Port := (w_l7Draw c).1
noncomputable def b0_l7Draw (c : TL1Cur) : TL1Cur := (w_l7Draw c).2
end Go.Md
namespace Go.Ev
open Go.Md
def o58 (c : TL1Cur) : Bool × List Row × List Row := (curOk c, [[.bool (v0_l7Draw c).Up, .bool (v0_l7Draw c).Has, .int .i64 (v0_l7Draw c).Vec.Root, .int .i64 (v0_l7Draw c).Vec.Cost, .int .i64 (v0_l7Draw c).Vec.Bridge, .int .i64 (v0_l7Draw c).Vec.Port, .int .i64 (v0_l7Draw c).Hops, .int .i64 (v0_l7Draw c).Left, .int .i64 (v0_l7Draw c).Role, .int .i64 (v0_l7Draw c).Wait, .bool (v0_l7Draw c).Open]], [[.sl false 1 (b0_l7Draw c).b, .int .i64 (b0_l7Draw c).i, .int .i64 (b0_l7Draw c).h]])
def c58 : Contract
  | [[.sl false 1 c_b, .int .i64 c_i, .int .i64 c_h]] => some ((o58 ⟨c_b, c_i, c_h⟩).1, (o58 ⟨c_b, c_i, c_h⟩).2.1, (o58 ⟨c_b, c_i, c_h⟩).2.2)
  | _ => none

theorem r58 (c : TL1Cur) (n : Nat) : evFn ⟨prog, Hx, 58⟩ T84.call n f58 [[.sl false 1 c.b, .int .i64 c.i, .int .i64 c.h]] = bif curOk c then bif curOk (b0_l7DrawRight c) then bif v0_l1Below (b0_l7DrawRight c) (12) == 0 then some ([[D.bool !Port.Up (v0_l7DrawRight c), D.bool (Port.Has (v0_l7DrawRight c)), D.int i64 (Vec.Root (Port.Vec (v0_l7DrawRight c))), D.int i64 (Vec.Cost (Port.Vec (v0_l7DrawRight c))), D.int i64 (Vec.Bridge (Port.Vec (v0_l7DrawRight c))), D.int i64 (Vec.Port (Port.Vec (v0_l7DrawRight c))), D.int i64 (Port.Hops (v0_l7DrawRight c)), D.int i64 (Port.Left (v0_l7DrawRight c)), D.int i64 (Port.Role (v0_l7DrawRight c)), D.int i64 (Port.Wait (v0_l7DrawRight c)), D.bool (Port.Open (v0_l7DrawRight c))]], [[D.sl false 1 (TL1Cur.b (b0_l1Below (b0_l7DrawRight c) (12))), D.int i64 (TL1Cur.i (b0_l1Below (b0_l7DrawRight c) (12))), D.int i64 (TL1Cur.h (b0_l1Below (b0_l7DrawRight c) (12)))]]) else bif v0_l1Below (b0_l7DrawRight c) (12) == 1 then bif curOk (b0_l1Below (b0_l7DrawRight c) (12)) then some ([[D.bool (Port.Up (v0_l7DrawRight c)), D.bool (Port.Has (v0_l7DrawRight c)), D.int i64 (Vec.Root (v0_l6Draw (b0_l1Below (b0_l7DrawRight c) (12)))), D.int i64 (Vec.Cost (v0_l6Draw (b0_l1Below (b0_l7DrawRight c) (12)))), D.int i64 (Vec.Bridge (v0_l6Draw (b0_l1Below (b0_l7DrawRight c) (12)))), D.int i64 (Vec.Port (v0_l6Draw (b0_l1Below (b0_l7DrawRight c) (12)))), D.int i64 (Port.Hops (v0_l7DrawRight c)), D.int i64 (Port.Left (v0_l7DrawRight c)), D.int i64 (Port.Role (v0_l7DrawRight c)), D.int i64 (Port.Wait (v0_l7DrawRight c)), D.bool (Port.Open (v0_l7DrawRight c))]], [[D.sl false 1 (TL1Cur.b (b0_l6Draw (b0_l1Below (b0_l7DrawRight c) (12)))), D.int i64 (TL1Cur.i (b0_l6Draw (b0_l1Below (b0_l7DrawRight c) (12)))), D.int i64 (TL1Cur.h (b0_l6Draw (b0_l1Below (b0_l7DrawRight c) (12))))]]) else none else bif v0_l1Below (b0_l7DrawRight c) (12) == 2 then bif isS Int true [[D.int i64 (0)], [D.int i64 (1)], [D.int i64 (3)], [D.int i64 (4)]] && (curOk (b0_l1Below (b0_l7DrawRight c) (12)) && (decide (0 < length (deS Int [[D.int i64 (0)], [D.int i64 (1)], [D.int i64 (3)], [D.int i64 (4)]])) && decide (length (deS Int [[D.int i64 (0)], [D.int i64 (1)], [D.int i64 (3)], [D.int i64 (4)]]) ≤ 1048576))) then some ([[D.bool (Port.Up (v0_l7DrawRight c)), D.bool (Port.Has (v0_l7DrawRight c)), D.int i64 (Vec.Root (Port.Vec (v0_l7DrawRight c))), D.int i64 (Vec.Cost (Port.Vec (v0_l7DrawRight c))), D.int i64 (Vec.Bridge (Port.Vec (v0_l7DrawRight c))), D.int i64 (Vec.Port (Port.Vec (v0_l7DrawRight c))), D.int i64 (Port.Hops (v0_l7DrawRight c)), D.int i64 (v0_l1PickInt (b0_l1Below (b0_l7DrawRight c) (12)) (deS Int [[D.int i64 (0)], [D.int i64 (1)], [D.int i64 (3)], [D.int i64 (4)]])), D.int i64 (Port.Role (v0_l7DrawRight c)), D.int i64 (Port.Wait (v0_l7DrawRight c)), D.bool (Port.Open (v0_l7DrawRight c))]], [[D.sl false 1 (TL1Cur.b (b0_l1PickInt (b0_l1Below (b0_l7DrawRight c) (12)) (deS Int [[D.int i64 (0)], [D.int i64 (1)], [D.int i64 (3)], [D.int i64 (4)]]))), D.int i64 (TL1Cur.i (b0_l1PickInt (b0_l1Below (b0_l7DrawRight c) (12)) (deS Int [[D.int i64 (0)], [D.int i64 (1)], [D.int i64 (3)], [D.int i64 (4)]]))), D.int i64 (TL1Cur.h (b0_l1PickInt (b0_l1Below (b0_l7DrawRight c) (12)) (deS Int [[D.int i64 (0)], [D.int i64 (1)], [D.int i64 (3)], [D.int i64 (4)]])))]]) else none else bif v0_l1Below (b0_l7DrawRight c) (12) == 3 then bif curOk (b0_l1Below (b0_l7DrawRight c) (12)) then some ([[D.bool (Port.Up (v0_l7DrawRight c)), D.bool (Port.Has (v0_l7DrawRight c)), D.int i64 (Vec.Root (Port.Vec (v0_l7DrawRight c))), D.int i64 (Vec.Cost (Port.Vec (v0_l7DrawRight c))), D.int i64 (Vec.Bridge (Port.Vec (v0_l7DrawRight c))), D.int i64 (Vec.Port (Port.Vec (v0_l7DrawRight c))), D.int i64 (Port.Hops (v0_l7DrawRight c)), D.int i64 (Port.Left (v0_l7DrawRight c)), D.int i64 (wrap i64 (v0_l1Below (b0_l1Below (b0_l7DrawRight c) (12)) (6) - 1)), D.int i64 (Port.Wait (v0_l7DrawRight c)), D.bool (Port.Open (v0_l7DrawRight c))]], [[D.sl false 1 (TL1Cur.b (b0_l1Below (b0_l1Below (b0_l7DrawRight c) (12)) (6))), D.int i64 (TL1Cur.i (b0_l1Below (b0_l1Below (b0_l7DrawRight c) (12)) (6))), D.int i64 (TL1Cur.h (b0_l1Below (b0_l1Below (b0_l7DrawRight c) (12)) (6)))]]) else none else bif v0_l1Below (b0_l7DrawRight c) (12) == 4 then some ([[D.bool (Port.Up (v0_l7DrawRight c)), D.bool (Port.Has (v0_l7DrawRight c)), D.int i64 (Vec.Root (Port.Vec (v0_l7DrawRight c))), D.int i64 (Vec.Cost (Port.Vec (v0_l7DrawRight c))), D.int i64 (Vec.Bridge (Port.Vec (v0_l7DrawRight c))), D.int i64 (Vec.Port (Port.Vec (v0_l7DrawRight c))), D.int i64 (Port.Hops (v0_l7DrawRight c)), D.int i64 (Port.Left (v0_l7DrawRight c)), D.int i64 (Port.Role (v0_l7DrawRight c)), D.int i64 (Port.Wait (v0_l7DrawRight c)), D.bool !Port.Open (v0_l7DrawRight c)]], [[D.sl false 1 (TL1Cur.b (b0_l1Below (b0_l7DrawRight c) (12))), D.int i64 (TL1Cur.i (b0_l1Below (b0_l7DrawRight c) (12))), D.int i64 (TL1Cur.h (b0_l1Below (b0_l7DrawRight c) (12)))]]) else bif v0_l1Below (b0_l7DrawRight c) (12) == 5 then bif isS Int true [[D.int i64 (Int.negSucc 0)], [D.int i64 (4)], [D.int i64 (5)]] && (curOk (b0_l1Below (b0_l7DrawRight c) (12)) && (decide (0 < length (deS Int [[D.int i64 (Int.negSucc 0)], [D.int i64 (4)], [D.int i64 (5)]])) && decide (length (deS Int [[D.int i64 (Int.negSucc 0)], [D.int i64 (4)], [D.int i64 (5)]]) ≤ 1048576))) then some ([[D.bool (Port.Up (v0_l7DrawRight c)), D.bool (Port.Has (v0_l7DrawRight c)), D.int i64 (Vec.Root (Port.Vec (v0_l7DrawRight c))), D.int i64 (Vec.Cost (Port.Vec (v0_l7DrawRight c))), D.int i64 (Vec.Bridge (Port.Vec (v0_l7DrawRight c))), D.int i64 (Vec.Port (Port.Vec (v0_l7DrawRight c))), D.int i64 (Port.Hops (v0_l7DrawRight c)), D.int i64 (Port.Left (v0_l7DrawRight c)), D.int i64 (Port.Role (v0_l7DrawRight c)), D.int i64 (v0_l1PickInt (b0_l1Below (b0_l7DrawRight c) (12)) (deS Int [[D.int i64 (Int.negSucc 0)], [D.int i64 (4)], [D.int i64 (5)]])), D.bool (Port.Open (v0_l7DrawRight c))]], [[D.sl false 1 (TL1Cur.b (b0_l1PickInt (b0_l1Below (b0_l7DrawRight c) (12)) (deS Int [[D.int i64 (Int.negSucc 0)], [D.int i64 (4)], [D.int i64 (5)]]))), D.int i64 (TL1Cur.i (b0_l1PickInt (b0_l1Below (b0_l7DrawRight c) (12)) (deS Int [[D.int i64 (Int.negSucc 0)], [D.int i64 (4)], [D.int i64 (5)]]))), D.int i64 (TL1Cur.h (b0_l1PickInt (b0_l1Below (b0_l7DrawRight c) (12)) (deS Int [[D.int i64 (Int.negSucc 0)], [D.int i64 (4)], [D.int i64 (5)]])))]]) else none else some ([En.enc true (v0_l7DrawRight c)], [[D.sl false 1 (TL1Cur.b (b0_l1Below (b0_l7DrawRight c) (12))), D.int i64 (TL1Cur.i (b0_l1Below (b0_l7DrawRight c) (12))), D.int i64 (TL1Cur.h (b0_l1Below (b0_l7DrawRight c) (12)))]]) else none else none := by kernel_rfl
def G_l7Draw (c : TL1Cur) (r : Option (List Row × List Row)) : Prop := ∃ x : Port × TL1Cur, r = some ([[.bool x.1.Up, .bool x.1.Has, .int .i64 x.1.Vec.Root, .int .i64 x.1.Vec.Cost, .int .i64 x.1.Vec.Bridge, .int .i64 x.1.Vec.Port, .int .i64 x.1.Hops, .int .i64 x.1.Left, .int .i64 x.1.Role, .int .i64 x.1.Wait, .bool x.1.Open]], [[.sl false 1 x.2.b, .int .i64 x.2.i, .int .i64 x.2.h]]) ∧ (curOk x.2 = true)
theorem leaf_l7Draw (c : TL1Cur) {z0_Up : Bool} {z0_Has : Bool} {z0_Vec_Root : Int} {z0_Vec_Cost : Int} {z0_Vec_Bridge : Int} {z0_Vec_Port : Int} {z0_Hops : Int} {z0_Left : Int} {z0_Role : Int} {z0_Wait : Int} {z0_Open : Bool} {z1_b : List (List D)} {z1_i : Int} {z1_h : Int} (h : curOk (⟨z1_b, z1_i, z1_h⟩ : TL1Cur) = true) : G_l7Draw c (some ([[.bool z0_Up, .bool z0_Has, .int .i64 z0_Vec_Root, .int .i64 z0_Vec_Cost, .int .i64 z0_Vec_Bridge, .int .i64 z0_Vec_Port, .int .i64 z0_Hops, .int .i64 z0_Left, .int .i64 z0_Role, .int .i64 z0_Wait, .bool z0_Open]], [[.sl false 1 z1_b, .int .i64 z1_i, .int .i64 z1_h]])) := ⟨(⟨z0_Up, z0_Has, ⟨z0_Vec_Root, z0_Vec_Cost, z0_Vec_Bridge, z0_Vec_Port⟩, z0_Hops, z0_Left, z0_Role, z0_Wait, z0_Open⟩, ⟨z1_b, z1_i, z1_h⟩), rfl, h⟩
theorem e_l7Draw (c : TL1Cur) (hpre : (o58 c).1 = true) : ∃ x, P_l7Draw c x := by
  show G_l7Draw c _
  refine Eq.mpr (congrArg (G_l7Draw c) (r58 c _)) ?_
  replace hpre : (curOk c) = true := hpre
  repeat' first | refine leaf_l7Draw _  ?_ | refine g_pre ?_ ?_ | refine g_if (fun _ => ?_) (fun _ => ?_)
  all_goals simp (maxDischargeDepth := 60) [TL1Cur.eta, isS_int_cons, isS_nil, deS, List.map_cons, List.map_nil, List.length_cons, List.length_nil, k_l1Byte, k_l1Below, k_l1Once, k_l1PickInt, k_l6DrawRight, k_l6Draw, k_l8DrawIn, k_l8DrawBent, k_l9DrawList, k_l2Dent, k_l7DrawRight, hpre]
theorem p_l7Draw (c : TL1Cur) (hpre : (o58 c).1 = true) : curOk (b0_l7Draw c) = true := (Classical.epsilon_spec (e_l7Draw c hpre)).2
theorem k_l7Draw (c : TL1Cur) (hpre : (curOk c) = true) : curOk (b0_l7Draw c) = true := (p_l7Draw c hpre)
theorem m58 (c : TL1Cur) (hpre : (o58 c).1 = true) : evFn ⟨Go.Proofs.Try.prog, Hx, 58⟩ T84.call 0 f58 [[.sl false 1 c.b, .int .i64 c.i, .int .i64 c.h]] = some (o58 c).2 := (Classical.epsilon_spec (e_l7Draw c hpre)).1
theorem s58 : SoundAt Go.Proofs.Try.prog Hx 58 c58 := soundAt_of T84_sound mixed func58 (by kernel_rfl) (by
  intro rows r h
  unfold c58 at h
  split at h
  · rename_i c_b c_i c_h
    obtain ⟨hp, hr⟩ := Prod.mk.inj (Option.some.inj h)
    subst hr
    exact ⟨_, m58 ⟨c_b, c_i, c_h⟩ hp⟩
  · cases h)
def T58 : Table := (58, c58) :: T84
theorem T58_sound : Table.Sound Go.Proofs.Try.prog Hx T58 := Table.sound_cons s58 T84_sound
end Go.Ev
namespace Go.Md
open Go Go.Ev
theorem new_len4 {a b : Int} (h1 : 1 ≤ a) (h2 : a ≤ 9) (h3 : 1 ≤ b) (h4 : b ≤ 4) : 0 < (bridgeNew a b).Ports.length ∧ (bridgeNew a b).Ports.length ≤ 4 := by
  unfold bridgeNew bnOk inR
  rw [decide_eq_true (show a ≥ 1 from h1), decide_eq_true h2, decide_eq_true (show b ≥ 1 from h3), decide_eq_true h4]
  show 0 < (List.replicate b.toNat port0).length ∧ (List.replicate b.toNat port0).length ≤ 4
  rw [List.length_replicate]
  omega
theorem two_ports (xs : List Port) : List.append (enS true xs) [[D.bool false, D.bool false, D.int .i64 0, D.int .i64 0, D.int .i64 0, D.int .i64 0, D.int .i64 0, D.int .i64 0, D.int .i64 0, D.int .i64 0, D.bool false], [D.bool false, D.bool false, D.int .i64 0, D.int .i64 0, D.int .i64 0, D.int .i64 0, D.int .i64 0, D.int .i64 0, D.int .i64 0, D.int .i64 0, D.bool false]] = enS true (xs ++ [port0, port0]) := (enS_append true xs [port0, port0]).symm
theorem snapM_178 (id ports : Int) (l : List In) (n : Int) : (snapM id ports l n).Bytes.length ≤ 178 := by
  unfold snapM
  cases snapOk id ports l n
  · exact Nat.zero_le _
  · exact bridgeBs_length (runB (bridgeNew id ports) (l.take n.toNat))
end Go.Md
namespace Go.Ev
open Go.Md
end Go.Ev
namespace Go.Md
open Go Go.Ev
def P_l8DrawRight (c : TL1Cur) (x : Bridge × TL1Cur) : Prop := evFn ⟨Go.Proofs.Try.prog, Hx, 51⟩ T58.call 20 f51 [[.sl false 1 c.b, .int .i64 c.i, .int .i64 c.h]] = some ([[.int .i64 x.1.Id, .sl true 11 (enS true x.1.Ports)]], [[.sl false 1 x.2.b, .int .i64 x.2.i, .int .i64 x.2.h]]) ∧ ((0 < x.1.Ports.length ∧ x.1.Ports.length ≤ 4) ∧ curOk x.2 = true)
noncomputable def w_l8DrawRight (c : TL1Cur) : Bridge × TL1Cur := @Classical.epsilon (Bridge × TL1Cur) ⟨(⟨0, []⟩, ⟨[], 0, 0⟩)⟩ (P_l8DrawRight c)
noncomputable def v0_l8DrawRight (c : TL1Cur) : Bridge := (w_l8DrawRight c).1
noncomputable def b0_l8DrawRight (c : TL1Cur) : TL1Cur := (w_l8DrawRight c).2
end Go.Md
namespace Go.Ev
open Go.Md
def o51 (c : TL1Cur) : Bool × List Row × List Row := (curOk c, [[.int .i64 (v0_l8DrawRight c).Id, .sl true 11 (enS true (v0_l8DrawRight c).Ports)]], [[.sl false 1 (b0_l8DrawRight c).b, .int .i64 (b0_l8DrawRight c).i, .int .i64 (b0_l8DrawRight c).h]])
def c51 : Contract
  | [[.sl false 1 c_b, .int .i64 c_i, .int .i64 c_h]] => some ((o51 ⟨c_b, c_i, c_h⟩).1, (o51 ⟨c_b, c_i, c_h⟩).2.1, (o51 ⟨c_b, c_i, c_h⟩).2.2)
  | _ => none

def k51_0 (n : Nat) : Ex → St → RR := kThen (fun st ↦ runCode (Ctx.mk prog Hx (51)) (Table.call T58) n (codeAt [1, 1, 1] (bodyOf f51)) (Lv.mk 4 [] 4) st (kLeave (Ctx.P (Ctx.mk prog Hx (51))) (List.zip (Array.toList (Go.Func.resultTypes f51)) (Array.toList (Go.Func.results f51))) [0] [])) (kLeave (Ctx.P (Ctx.mk prog Hx (51))) (List.zip (Array.toList (Go.Func.resultTypes f51)) (Array.toList (Go.Func.results f51))) [0] [])
def k51_1 (n : Nat) : Ex → St → RR := kBlock (0) (k51_0 n)
def S51_0 (c : TL1Cur) (i0 : Int) (es1 : List (List D)) (i2 : Int) (i3 : Int) (i4 : Int) (es5 : List (List D)) : St := St.mk (V_ [C.ptr 0 0 0 [] 3 0 0] :: U_ :: V_ [C.ptr 1 0 0 [] 2 0 0] :: V_ [C.ptr 3 0 0 [] 2 0 0] :: U_ :: I_ i0 :: u_ 42 []) [Root.mk true 3 [[D.sl false 1 es1, D.int i64 i2, D.int i64 i3]] 0 0 true true false, Root.mk true 2 [[D.int i64 (0), D.sl true 11 []]] 0 0 true true false, Root.mk false 11 (enS true (Bridge.Ports (bridgeNew (wrap i64 (1 + v0_l1Below c (6))) (wrap i64 (1 + v0_l1Below (b0_l1Below c (6)) (4)))))) 0 0 false true false, Root.mk true 2 [[D.int i64 i4, D.sl true 11 es5]] 0 0 true true false]
def B51_0 (n : Nat) : St → (Ex → St → RR) → RR := runCode (Ctx.mk prog Hx (51)) (Table.call T58) n (codeAt [1, 1, 0, 1, 0, 0] (bodyOf f51)) (Lv.mk 45 [(0, 13)] 4)
def X51_2 (c : TL1Cur) (es1 : List (List D)) (i2 : Int) (i3 : Int) (i4 : Int) (es5 : List (List D)) : St := St.mk (V_ [C.ptr 0 0 0 [] 3 0 0] :: U_ :: V_ [C.ptr 1 0 0 [] 2 0 0] :: V_ [C.ptr 3 0 0 [] 2 0 0] :: u_ 44 []) [Root.mk true 3 [[D.sl false 1 es1, D.int i64 i2, D.int i64 i3]] 0 0 true true false, Root.mk true 2 [[D.int i64 (0), D.sl true 11 []]] 0 0 true true false, Root.mk false 11 (enS true (Bridge.Ports (bridgeNew (wrap i64 (1 + v0_l1Below c (6))) (wrap i64 (1 + v0_l1Below (b0_l1Below c (6)) (4)))))) 0 0 false true false, Root.mk true 2 [[D.int i64 i4, D.sl true 11 es5]] 0 0 true true false]
theorem q51_0 (c : TL1Cur) (n : Nat) (i0 : Int) (es1 : List (List D)) (i2 : Int) (i3 : Int) (i4 : Int) (es5 : List (List D)) (f : St → RR) (K : Ex → St → RR) : B51_0 n (S51_0 c i0 es1 i2 i3 i4 es5) (kThen (fun st ↦ f (St.head 4 45 17179738144 st)) K) = bif decide (i0 < ofNat (length es5)) then bif curOk (TL1Cur.mk es1 i2 i3) then bif !v0_l1Once (TL1Cur.mk es1 i2 i3) (4) then bif isS Port false (lendRows es5) && decide (length (deS Port (lendRows es5)) ≤ 1048576) then bif deepRows (enS true (Bridge.Ports (reactB (Bridge.mk i4 (deS Port (lendRows es5))) (In.mk (3) i0 (Vec.mk (0) (0) (0) (0)) (0) true)))) && true && (deepRows (enS true (reactO (Bridge.mk i4 (deS Port (lendRows es5))) (In.mk (3) i0 (Vec.mk (0) (0) (0) (0)) (0) true))) && true && true) && true && true then f (S51_0 c (wrap i64 (i0 + 1)) (TL1Cur.b (b0_l1Once (TL1Cur.mk es1 i2 i3) (4))) (TL1Cur.i (b0_l1Once (TL1Cur.mk es1 i2 i3) (4))) (TL1Cur.h (b0_l1Once (TL1Cur.mk es1 i2 i3) (4))) (Bridge.Id (reactB (Bridge.mk i4 (deS Port (lendRows es5))) (In.mk (3) i0 (Vec.mk (0) (0) (0) (0)) (0) true))) (enS true (Bridge.Ports (reactB (Bridge.mk i4 (deS Port (lendRows es5))) (In.mk (3) i0 (Vec.mk (0) (0) (0) (0)) (0) true))))) else none else none else f (S51_0 c (wrap i64 (i0 + 1)) (TL1Cur.b (b0_l1Once (TL1Cur.mk es1 i2 i3) (4))) (TL1Cur.i (b0_l1Once (TL1Cur.mk es1 i2 i3) (4))) (TL1Cur.h (b0_l1Once (TL1Cur.mk es1 i2 i3) (4))) i4 es5) else none else K (Ex.exit 0) (X51_2 c es1 i2 i3 i4 es5) := by kernel_rfl
def k51_3 (n : Nat) : Ex → St → RR := kThen (fun st ↦ runCode (Ctx.mk prog Hx (51)) (Table.call T58) n (codeAt [1, 1, 1, 1] (bodyOf f51)) (Lv.mk 4 [] 4) st (kLeave (Ctx.P (Ctx.mk prog Hx (51))) (List.zip (Array.toList (Go.Func.resultTypes f51)) (Array.toList (Go.Func.results f51))) [0] [])) (kLeave (Ctx.P (Ctx.mk prog Hx (51))) (List.zip (Array.toList (Go.Func.resultTypes f51)) (Array.toList (Go.Func.results f51))) [0] [])
def k51_4 (n : Nat) : Ex → St → RR := kBlock (2) (k51_3 n)
def S51_1 (c : TL1Cur) (i0_ : Int) (es1_ : List (List D)) (i2_ : Int) (i3_ : Int) (i4_ : Int) (es5_ : List (List D)) : St := St.mk (V_ [C.ptr 0 0 0 [] 3 0 0] :: U_ :: V_ [C.ptr 1 0 0 [] 2 0 0] :: V_ [C.ptr 3 0 0 [] 2 0 0] :: U_ :: U_ :: I_ i0_ :: u_ 41 []) [Root.mk true 3 [[D.sl false 1 es1_, D.int i64 i2_, D.int i64 i3_]] 0 0 true true false, Root.mk true 2 [[D.int i64 (0), D.sl true 11 []]] 0 0 true true false, Root.mk false 11 (enS true (Bridge.Ports (bridgeNew (wrap i64 (1 + v0_l1Below c (6))) (wrap i64 (1 + v0_l1Below (b0_l1Below c (6)) (4)))))) 0 0 false true false, Root.mk true 2 [[D.int i64 i4_, D.sl true 11 es5_]] 0 0 true true false]
def B51_1 (n : Nat) : St → (Ex → St → RR) → RR := runCode (Ctx.mk prog Hx (51)) (Table.call T58) n (codeAt [1, 1, 1, 0, 1, 0, 0] (bodyOf f51)) (Lv.mk 77 [(2, 12)] 4)
def X51_5 (c : TL1Cur) (es1_ : List (List D)) (i2_ : Int) (i3_ : Int) (i4_ : Int) (es5_ : List (List D)) : St := St.mk (U_ :: U_ :: V_ [C.ptr 1 0 0 [] 2 0 0] :: V_ [C.ptr 3 0 0 [] 2 0 0] :: u_ 44 []) [Root.mk true 3 [[D.sl false 1 (TL1Cur.b (b0_l1Below (TL1Cur.mk es1_ i2_ i3_) (10))), D.int i64 (TL1Cur.i (b0_l1Below (TL1Cur.mk es1_ i2_ i3_) (10))), D.int i64 (TL1Cur.h (b0_l1Below (TL1Cur.mk es1_ i2_ i3_) (10)))]] 0 1 true true false, Root.mk true 2 [[D.int i64 (0), D.sl true 11 []]] 0 0 true true false, Root.mk false 11 (enS true (Bridge.Ports (bridgeNew (wrap i64 (1 + v0_l1Below c (6))) (wrap i64 (1 + v0_l1Below (b0_l1Below c (6)) (4)))))) 0 0 false true false, Root.mk true 2 [[D.int i64 i4_, D.sl true 11 es5_]] 0 0 true true false]
theorem q51_1 (c : TL1Cur) (n : Nat) (i0_ : Int) (es1_ : List (List D)) (i2_ : Int) (i3_ : Int) (i4_ : Int) (es5_ : List (List D)) (f : St → RR) (K : Ex → St → RR) : B51_1 n (S51_1 c i0_ es1_ i2_ i3_ i4_ es5_) (kThen (fun st ↦ f (St.head 4 77 140720308486208 st)) K) = bif curOk (TL1Cur.mk es1_ i2_ i3_) then bif decide (i0_ < v0_l1Below (TL1Cur.mk es1_ i2_ i3_) (10)) then bif curOk (b0_l1Below (TL1Cur.mk es1_ i2_ i3_) (10)) then bif isS Port false (lendRows es5_) && decide (length (deS Port (lendRows es5_)) ≤ 1048576) then bif deepRows (enS true (Bridge.Ports (reactB (Bridge.mk i4_ (deS Port (lendRows es5_))) (v0_l8DrawIn (b0_l1Below (TL1Cur.mk es1_ i2_ i3_) (10)))))) && true && (deepRows (enS true (reactO (Bridge.mk i4_ (deS Port (lendRows es5_))) (v0_l8DrawIn (b0_l1Below (TL1Cur.mk es1_ i2_ i3_) (10))))) && true && true) && true && true then f (S51_1 c (wrap i64 (i0_ + 1)) (TL1Cur.b (b0_l8DrawIn (b0_l1Below (TL1Cur.mk es1_ i2_ i3_) (10)))) (TL1Cur.i (b0_l8DrawIn (b0_l1Below (TL1Cur.mk es1_ i2_ i3_) (10)))) (TL1Cur.h (b0_l8DrawIn (b0_l1Below (TL1Cur.mk es1_ i2_ i3_) (10)))) (Bridge.Id (reactB (Bridge.mk i4_ (deS Port (lendRows es5_))) (v0_l8DrawIn (b0_l1Below (TL1Cur.mk es1_ i2_ i3_) (10))))) (enS true (Bridge.Ports (reactB (Bridge.mk i4_ (deS Port (lendRows es5_))) (v0_l8DrawIn (b0_l1Below (TL1Cur.mk es1_ i2_ i3_) (10))))))) else none else none else none else K (Ex.exit 2) (X51_5 c es1_ i2_ i3_ i4_ es5_) else none := by kernel_rfl
theorem aX51_5 (c : TL1Cur) (n : Nat) (es1_ : List (List D)) (i2_ : Int) (i3_ : Int) (i4_ : Int) (es5_ : List (List D)) : k51_4 n (Ex.exit 2) (X51_5 c es1_ i2_ i3_ i4_ es5_) = some ([[D.int i64 i4_, D.sl true 11 es5_]], [[D.sl false 1 (TL1Cur.b (b0_l1Below (TL1Cur.mk es1_ i2_ i3_) (10))), D.int i64 (TL1Cur.i (b0_l1Below (TL1Cur.mk es1_ i2_ i3_) (10))), D.int i64 (TL1Cur.h (b0_l1Below (TL1Cur.mk es1_ i2_ i3_) (10)))]]) := by kernel_rfl
theorem aX51_2 (c : TL1Cur) (n : Nat) (es1 : List (List D)) (i2 : Int) (i3 : Int) (i4 : Int) (es5 : List (List D)) : k51_1 n (Ex.exit 0) (X51_2 c es1 i2 i3 i4 es5) = loopRun (B51_1 n) 4 77 140720308486208 n (S51_1 c (0) es1 i2 i3 i4 es5) (k51_4 n) := by kernel_rfl
theorem r51 (c : TL1Cur) (n : Nat) : evFn ⟨prog, Hx, 51⟩ T58.call n f51 [[.sl false 1 c.b, .int .i64 c.i, .int .i64 c.h]] = bif curOk c then bif curOk (b0_l1Below c (6)) then loopRun (B51_0 n) 4 45 17179738144 n (S51_0 c (0) (TL1Cur.b (b0_l1Below (b0_l1Below c (6)) (4))) (TL1Cur.i (b0_l1Below (b0_l1Below c (6)) (4))) (TL1Cur.h (b0_l1Below (b0_l1Below c (6)) (4))) (Bridge.Id (bridgeNew (wrap i64 (1 + v0_l1Below c (6))) (wrap i64 (1 + v0_l1Below (b0_l1Below c (6)) (4))))) (enS true (Bridge.Ports (bridgeNew (wrap i64 (1 + v0_l1Below c (6))) (wrap i64 (1 + v0_l1Below (b0_l1Below c (6)) (4))))))) (k51_1 n) else none else none := by kernel_rfl
def G_l8DrawRight (c : TL1Cur) (r : Option (List Row × List Row)) : Prop := ∃ x : Bridge × TL1Cur, r = some ([[.int .i64 x.1.Id, .sl true 11 (enS true x.1.Ports)]], [[.sl false 1 x.2.b, .int .i64 x.2.i, .int .i64 x.2.h]]) ∧ ((0 < x.1.Ports.length ∧ x.1.Ports.length ≤ 4) ∧ curOk x.2 = true)
theorem leaf_l8DrawRight (c : TL1Cur) {z0_Id : Int} {z0_Ports : List Port} {z1_b : List (List D)} {z1_i : Int} {z1_h : Int} (h : (0 < (⟨z0_Id, z0_Ports⟩ : Bridge).Ports.length ∧ (⟨z0_Id, z0_Ports⟩ : Bridge).Ports.length ≤ 4) ∧ curOk (⟨z1_b, z1_i, z1_h⟩ : TL1Cur) = true) : G_l8DrawRight c (some ([[.int .i64 z0_Id, .sl true 11 (enS true z0_Ports)]], [[.sl false 1 z1_b, .int .i64 z1_i, .int .i64 z1_h]])) := ⟨(⟨z0_Id, z0_Ports⟩, ⟨z1_b, z1_i, z1_h⟩), rfl, h⟩
theorem e_l8DrawRight (c : TL1Cur) (hpre : (o51 c).1 = true) : ∃ x, P_l8DrawRight c x := by
  show G_l8DrawRight c _
  refine Eq.mpr (congrArg (G_l8DrawRight c) (r51 c _)) ?_
  replace hpre : (curOk c) = true := hpre
  have x := p_l1Below c 6 hpre
  have y := p_l1Below _ 4 x.2
  have x1 := x.1.1; have x2 := x.1.2 (by omega)
  have y1 := y.1.1; have y2 := y.1.2 (by omega)
  refine g_pre hpre (g_pre x.2 ?_)
  rw [wrap_sm (show -4611686018427387904 ≤ 1 + v0_l1Below c 6 by omega) (by omega), wrap_sm (show -4611686018427387904 ≤ 1 + v0_l1Below (b0_l1Below c 6) 4 by omega) (by omega)]
  obtain ⟨hn0, hn4⟩ := new_len4 (a := 1 + v0_l1Below c 6) (b := 1 + v0_l1Below (b0_l1Below c 6) 4) (by omega) (by omega) (by omega) (by omega)
  generalize bridgeNew (1 + v0_l1Below c 6) (1 + v0_l1Below (b0_l1Below c 6) 4) = B0 at hn0 hn4 ⊢
  refine g_loop (V := Nat × TL1Cur × Bridge) (fun v => S51_0 c (Int.ofNat v.1) v.2.1.b v.2.1.i v.2.1.h v.2.2.Id (enS true v.2.2.Ports)) (fun v => v.1 ≤ B0.Ports.length ∧ curOk v.2.1 = true ∧ v.2.2.Ports.length = B0.Ports.length) (fun v => B0.Ports.length - v.1) ?_ 20 (0, b0_l1Below (b0_l1Below c 6) 4, B0) ⟨Nat.zero_le _, y.2, rfl⟩ (by show B0.Ports.length - 0 < 20; omega)
  rintro ⟨i, d, b⟩ ⟨h1, h2, h3⟩ f hf
  simp only at h1 h2 h3
  refine g_eq (q51_0 c _ _ _ _ _ _ _ f _) ?_
  simp only [TL1Cur.eta, Bridge.eta, lendRows_enS, deS_enS, isS_enS, deepRows_enS, enS_length, Bool.true_and, Bool.and_self, Bool.and_true, cond_true]
  have hbd : decide (b.Ports.length ≤ 1048576) = true := decide_eq_true (by omega)
  by_cases hi : i < b.Ports.length
  · have e1 : decide (Int.ofNat i < Int.ofNat b.Ports.length) = true := by rw [dec_lt]; exact decide_eq_true hi
    have k := k_l1Once d 4 h2
    refine g_t e1 (g_pre h2 (g_if (fun _ => g_pre hbd ?_) (fun _ => ?_)))
    · rw [wrap_succ (by omega)]
      exact hf (i + 1, b0_l1Once d 4, reactB b _) ⟨by show i + 1 ≤ _; omega, k, by rw [reactB_len]; exact h3⟩ (by show B0.Ports.length - (i + 1) < B0.Ports.length - i; omega)
    · rw [wrap_succ (by omega)]
      exact hf (i + 1, b0_l1Once d 4, b) ⟨by show i + 1 ≤ _; omega, k, h3⟩ (by show B0.Ports.length - (i + 1) < B0.Ports.length - i; omega)
  have e0 : decide (Int.ofNat i < Int.ofNat b.Ports.length) = false := by rw [dec_lt]; exact decide_eq_false hi
  refine g_f e0 (g_eq (aX51_2 _ _ _ _ _ _ _) ?_)
  refine g_loop (V := Nat × TL1Cur × Bridge) (fun v => S51_1 c (Int.ofNat v.1) v.2.1.b v.2.1.i v.2.1.h v.2.2.Id (enS true v.2.2.Ports)) (fun v => v.1 ≤ 10 ∧ curOk v.2.1 = true ∧ v.2.2.Ports.length = B0.Ports.length) (fun v => 10 - v.1) ?_ 20 (0, d, b) ⟨Nat.zero_le _, h2, h3⟩ (by show 10 - 0 < 20; omega)
  clear hf f e0 hi hbd h1 h2 h3
  rintro ⟨i, d, b⟩ ⟨h1, h2, h3⟩ f hf
  simp only at h1 h2 h3
  refine g_eq (q51_1 c _ _ _ _ _ _ _ f _) ?_
  simp only [TL1Cur.eta, Bridge.eta, lendRows_enS, deS_enS, isS_enS, deepRows_enS, enS_length, Bool.true_and, Bool.and_self, Bool.and_true, cond_true]
  have hbd : decide (b.Ports.length ≤ 1048576) = true := decide_eq_true (by omega)
  have k1 := k_l1Below d 10 h2
  refine g_pre h2 (g_if (fun h => ?_) (fun _ => ?_))
  · have hi : i < 10 := by
      have h4 := of_decide_eq_true h
      have h5 := (p_l1Below d 10 h2).1.2 (by omega)
      have h6 : (i : Int) < v0_l1Below d 10 := h4
      omega
    refine g_pre k1 (g_pre hbd ?_)
    rw [wrap_succ (by omega)]
    exact hf (i + 1, b0_l8DrawIn (b0_l1Below d 10), reactB b _) ⟨hi, k_l8DrawIn _ k1, by rw [reactB_len]; exact h3⟩ (by show 10 - (i + 1) < 10 - i; omega)
  · refine g_eq (aX51_5 _ _ _ _ _ _ _) ?_
    simp only [TL1Cur.eta]
    refine leaf_l8DrawRight _  ?_
    exact ⟨by simp only; omega, k1⟩
theorem p_l8DrawRight (c : TL1Cur) (hpre : (o51 c).1 = true) : (0 < (v0_l8DrawRight c).Ports.length ∧ (v0_l8DrawRight c).Ports.length ≤ 4) ∧ curOk (b0_l8DrawRight c) = true := (Classical.epsilon_spec (e_l8DrawRight c hpre)).2
theorem k_l8DrawRight (c : TL1Cur) (hpre : (curOk c) = true) : curOk (b0_l8DrawRight c) = true := (p_l8DrawRight c hpre).2
theorem m51 (c : TL1Cur) (hpre : (o51 c).1 = true) : evFn ⟨Go.Proofs.Try.prog, Hx, 51⟩ T58.call 20 f51 [[.sl false 1 c.b, .int .i64 c.i, .int .i64 c.h]] = some (o51 c).2 := (Classical.epsilon_spec (e_l8DrawRight c hpre)).1
theorem s51 : SoundAt Go.Proofs.Try.prog Hx 51 c51 := soundAt_of T58_sound mixed func51 (by kernel_rfl) (by
  intro rows r h
  unfold c51 at h
  split at h
  · rename_i c_b c_i c_h
    obtain ⟨hp, hr⟩ := Prod.mk.inj (Option.some.inj h)
    subst hr
    exact ⟨_, m51 ⟨c_b, c_i, c_h⟩ hp⟩
  · cases h)
def T51 : Table := (51, c51) :: T58
theorem T51_sound : Table.Sound Go.Proofs.Try.prog Hx T51 := Table.sound_cons s51 T58_sound
end Go.Ev
namespace Go.Md
open Go Go.Ev
def P_l8Draw (c : TL1Cur) (x : Bridge × TL1Cur) : Prop := evFn ⟨Go.Proofs.Try.prog, Hx, 47⟩ T51.call 20 f47 [[.sl false 1 c.b, .int .i64 c.i, .int .i64 c.h]] = some ([[.int .i64 x.1.Id, .sl true 11 (enS true x.1.Ports)]], [[.sl false 1 x.2.b, .int .i64 x.2.i, .int .i64 x.2.h]]) ∧ (x.1.Ports.length ≤ 6 ∧ curOk x.2 = true)
noncomputable def w_l8Draw (c : TL1Cur) : Bridge × TL1Cur := @Classical.epsilon (Bridge × TL1Cur) ⟨(⟨0, []⟩, ⟨[], 0, 0⟩)⟩ (P_l8Draw c)
noncomputable def v0_l8Draw (c : TL1Cur) : Bridge := (w_l8Draw c).1
noncomputable def b0_l8Draw (c : TL1Cur) : TL1Cur := (w_l8Draw c).2
end Go.Md
namespace Go.Ev
open Go.Md
def o47 (c : TL1Cur) : Bool × List Row × List Row := (curOk c, [[.int .i64 (v0_l8Draw c).Id, .sl true 11 (enS true (v0_l8Draw c).Ports)]], [[.sl false 1 (b0_l8Draw c).b, .int .i64 (b0_l8Draw c).i, .int .i64 (b0_l8Draw c).h]])
def c47 : Contract
  | [[.sl false 1 c_b, .int .i64 c_i, .int .i64 c_h]] => some ((o47 ⟨c_b, c_i, c_h⟩).1, (o47 ⟨c_b, c_i, c_h⟩).2.1, (o47 ⟨c_b, c_i, c_h⟩).2.2)
  | _ => none

theorem r47 (c : TL1Cur) (n : Nat) : evFn ⟨prog, Hx, 47⟩ T51.call n f47 [[.sl false 1 c.b, .int .i64 c.i, .int .i64 c.h]] = bif curOk c then bif curOk (b0_l8DrawRight c) then bif v0_l1Below (b0_l8DrawRight c) (8) == 0 then bif isS Int true [[D.int i64 (0)], [D.int i64 (9)], [D.int i64 (10)]] && (curOk (b0_l1Below (b0_l8DrawRight c) (8)) && (decide (0 < length (deS Int [[D.int i64 (0)], [D.int i64 (9)], [D.int i64 (10)]])) && decide (length (deS Int [[D.int i64 (0)], [D.int i64 (9)], [D.int i64 (10)]]) ≤ 1048576))) then some ([[D.int i64 (v0_l1PickInt (b0_l1Below (b0_l8DrawRight c) (8)) (deS Int [[D.int i64 (0)], [D.int i64 (9)], [D.int i64 (10)]])), D.sl true 11 (enS true (Bridge.Ports (v0_l8DrawRight c)))]], [[D.sl false 1 (TL1Cur.b (b0_l1PickInt (b0_l1Below (b0_l8DrawRight c) (8)) (deS Int [[D.int i64 (0)], [D.int i64 (9)], [D.int i64 (10)]]))), D.int i64 (TL1Cur.i (b0_l1PickInt (b0_l1Below (b0_l8DrawRight c) (8)) (deS Int [[D.int i64 (0)], [D.int i64 (9)], [D.int i64 (10)]]))), D.int i64 (TL1Cur.h (b0_l1PickInt (b0_l1Below (b0_l8DrawRight c) (8)) (deS Int [[D.int i64 (0)], [D.int i64 (9)], [D.int i64 (10)]])))]]) else none else bif v0_l1Below (b0_l8DrawRight c) (8) == 1 then bif curOk (b0_l1Below (b0_l8DrawRight c) (8)) then bif decide (0 < ofNat (length (enS true (Bridge.Ports (v0_l8DrawRight c))))) then some ([[D.int i64 (Bridge.Id (v0_l8DrawRight c)), D.sl true 11 (set (enS true (Bridge.Ports (v0_l8DrawRight c))) 0 (En.enc true (v0_l7Draw (b0_l1Below (b0_l8DrawRight c) (8)))))]], [[D.sl false 1 (TL1Cur.b (b0_l7Draw (b0_l1Below (b0_l8DrawRight c) (8)))), D.int i64 (TL1Cur.i (b0_l7Draw (b0_l1Below (b0_l8DrawRight c) (8)))), D.int i64 (TL1Cur.h (b0_l7Draw (b0_l1Below (b0_l8DrawRight c) (8))))]]) else none else none else bif v0_l1Below (b0_l8DrawRight c) (8) == 2 then bif decide ((length (enS true (Bridge.Ports (v0_l8DrawRight c))) + 2) * 80 ≤ 140737488355328) then some ([[D.int i64 (Bridge.Id (v0_l8DrawRight c)), D.sl true 11 (append (enS true (Bridge.Ports (v0_l8DrawRight c))) [[D.bool false, D.bool false, D.int i64 (0), D.int i64 (0), D.int i64 (0), D.int i64 (0), D.int i64 (0), D.int i64 (0), D.int i64 (0), D.int i64 (0), D.bool false], [D.bool false, D.bool false, D.int i64 (0), D.int i64 (0), D.int i64 (0), D.int i64 (0), D.int i64 (0), D.int i64 (0), D.int i64 (0), D.int i64 (0), D.bool false]])]], [[D.sl false 1 (TL1Cur.b (b0_l1Below (b0_l8DrawRight c) (8))), D.int i64 (TL1Cur.i (b0_l1Below (b0_l8DrawRight c) (8))), D.int i64 (TL1Cur.h (b0_l1Below (b0_l8DrawRight c) (8)))]]) else none else some ([En.enc true (v0_l8DrawRight c)], [[D.sl false 1 (TL1Cur.b (b0_l1Below (b0_l8DrawRight c) (8))), D.int i64 (TL1Cur.i (b0_l1Below (b0_l8DrawRight c) (8))), D.int i64 (TL1Cur.h (b0_l1Below (b0_l8DrawRight c) (8)))]]) else none else none := by kernel_rfl
def G_l8Draw (c : TL1Cur) (r : Option (List Row × List Row)) : Prop := ∃ x : Bridge × TL1Cur, r = some ([[.int .i64 x.1.Id, .sl true 11 (enS true x.1.Ports)]], [[.sl false 1 x.2.b, .int .i64 x.2.i, .int .i64 x.2.h]]) ∧ (x.1.Ports.length ≤ 6 ∧ curOk x.2 = true)
theorem leaf_l8Draw (c : TL1Cur) {z0_Id : Int} {z0_Ports : List Port} {z1_b : List (List D)} {z1_i : Int} {z1_h : Int} (h : (⟨z0_Id, z0_Ports⟩ : Bridge).Ports.length ≤ 6 ∧ curOk (⟨z1_b, z1_i, z1_h⟩ : TL1Cur) = true) : G_l8Draw c (some ([[.int .i64 z0_Id, .sl true 11 (enS true z0_Ports)]], [[.sl false 1 z1_b, .int .i64 z1_i, .int .i64 z1_h]])) := ⟨(⟨z0_Id, z0_Ports⟩, ⟨z1_b, z1_i, z1_h⟩), rfl, h⟩
theorem e_l8Draw (c : TL1Cur) (hpre : (o47 c).1 = true) : ∃ x, P_l8Draw c x := by
  show G_l8Draw c _
  refine Eq.mpr (congrArg (G_l8Draw c) (r47 c _)) ?_
  replace hpre : (curOk c) = true := hpre
  have x := p_l8DrawRight c hpre
  have k1 := k_l1Below _ 8 x.2
  obtain ⟨⟨hn0, hn4⟩, hx⟩ := x
  refine g_pre hpre (g_pre hx (g_if (fun _ => g_pre (by simp (maxDischargeDepth := 60) [TL1Cur.eta, isS_int_cons, isS_nil, deS, List.map_cons, List.map_nil, List.length_cons, List.length_nil, k_l1Byte, k_l1Below, k_l1Once, k_l1PickInt, k_l6DrawRight, k_l6Draw, k_l8DrawIn, k_l8DrawBent, k_l9DrawList, k_l2Dent, k_l7DrawRight, k_l7Draw, k_l8DrawRight, k1]) ?_) (fun _ => g_if (fun _ => g_pre k1 (g_pre ?_ ?_)) (fun _ => g_if (fun _ => g_pre ?_ ?_) (fun _ => ?_)))))
  · refine leaf_l8Draw _  ?_
    exact ⟨by simp only; omega, by simp (maxDischargeDepth := 60) [TL1Cur.eta, isS_int_cons, isS_nil, deS, List.map_cons, List.map_nil, List.length_cons, List.length_nil, k_l1Byte, k_l1Below, k_l1Once, k_l1PickInt, k_l6DrawRight, k_l6Draw, k_l8DrawIn, k_l8DrawBent, k_l9DrawList, k_l2Dent, k_l7DrawRight, k_l7Draw, k_l8DrawRight, k1]⟩
  · rw [enS_length]
    exact decide_eq_true (by show (0 : Int) < ((v0_l8DrawRight c).Ports.length : Int); omega)
  · rw [enS_set]
    refine leaf_l8Draw _  ?_
    exact ⟨by rw [List.length_set]; omega, by simp (maxDischargeDepth := 60) [TL1Cur.eta, isS_int_cons, isS_nil, deS, List.map_cons, List.map_nil, List.length_cons, List.length_nil, k_l1Byte, k_l1Below, k_l1Once, k_l1PickInt, k_l6DrawRight, k_l6Draw, k_l8DrawIn, k_l8DrawBent, k_l9DrawList, k_l2Dent, k_l7DrawRight, k_l7Draw, k_l8DrawRight, k1]⟩
  · rw [enS_length]
    exact decide_eq_true (by omega)
  · rw [two_ports]
    refine leaf_l8Draw _  ?_
    exact ⟨by rw [List.length_append]; simp only [List.length_cons, List.length_nil]; omega, k1⟩
  · refine leaf_l8Draw _  ?_
    exact ⟨by simp only; omega, k1⟩
theorem p_l8Draw (c : TL1Cur) (hpre : (o47 c).1 = true) : (v0_l8Draw c).Ports.length ≤ 6 ∧ curOk (b0_l8Draw c) = true := (Classical.epsilon_spec (e_l8Draw c hpre)).2
theorem k_l8Draw (c : TL1Cur) (hpre : (curOk c) = true) : curOk (b0_l8Draw c) = true := (p_l8Draw c hpre).2
theorem m47 (c : TL1Cur) (hpre : (o47 c).1 = true) : evFn ⟨Go.Proofs.Try.prog, Hx, 47⟩ T51.call 20 f47 [[.sl false 1 c.b, .int .i64 c.i, .int .i64 c.h]] = some (o47 c).2 := (Classical.epsilon_spec (e_l8Draw c hpre)).1
theorem s47 : SoundAt Go.Proofs.Try.prog Hx 47 c47 := soundAt_of T51_sound mixed func47 (by kernel_rfl) (by
  intro rows r h
  unfold c47 at h
  split at h
  · rename_i c_b c_i c_h
    obtain ⟨hp, hr⟩ := Prod.mk.inj (Option.some.inj h)
    subst hr
    exact ⟨_, m47 ⟨c_b, c_i, c_h⟩ hp⟩
  · cases h)
def T47 : Table := (47, c47) :: T51
theorem T47_sound : Table.Sound Go.Proofs.Try.prog Hx T47 := Table.sound_cons s47 T51_sound
end Go.Ev
namespace Go.Md
open Go Go.Ev
def P_DrawBridgeBytes (code : List UInt8) (x : Bridge) : Prop := evFn ⟨Go.Proofs.Try.prog, Hx, 22⟩ T47.call (40 + code.length) f22 [[.sl false 1 (enS false code)]] = some ([[.int .i64 x.Id, .sl true 11 (enS true x.Ports)]], []) ∧ (x.Ports.length ≤ 6)
noncomputable def w_DrawBridgeBytes (code : List UInt8) : Bridge := @Classical.epsilon (Bridge) ⟨⟨0, []⟩⟩ (P_DrawBridgeBytes code)
noncomputable def v0_DrawBridgeBytes (code : List UInt8) : Bridge := (w_DrawBridgeBytes code)
end Go.Md
namespace Go.Ev
open Go.Md
def o22 (code : List UInt8) : Bool × List Row × List Row := (decide (code.length ≤ 1048576), [[.int .i64 (v0_DrawBridgeBytes code).Id, .sl true 11 (enS true (v0_DrawBridgeBytes code).Ports)]], [])
def c22 : Contract
  | [[.sl false 1 code]] => some (isS UInt8 false code && (o22 (deS UInt8 code)).1, (o22 (deS UInt8 code)).2.1, (o22 (deS UInt8 code)).2.2)
  | _ => none

theorem r22 (code : List UInt8) (n : Nat) : evFn ⟨prog, Hx, 22⟩ T47.call n f22 [[.sl false 1 (enS false code)]] = bif isS UInt8 false (enS false code) && decide (length (deS UInt8 (enS false code)) ≤ 1048576) then bif curOk (v0_l1New (deS UInt8 (enS false code))) then some ([En.enc true (v0_l8Draw (v0_l1New (deS UInt8 (enS false code))))], []) else none else none := by kernel_rfl
theorem l22_a (c : TL1Cur) (h : curOk c = true) : (v0_l8Draw c).Ports.length ≤ 6 := (p_l8Draw c h).1
def G_DrawBridgeBytes (code : List UInt8) (r : Option (List Row × List Row)) : Prop := ∃ x : Bridge, r = some ([[.int .i64 x.Id, .sl true 11 (enS true x.Ports)]], []) ∧ (x.Ports.length ≤ 6)
theorem leaf_DrawBridgeBytes (code : List UInt8) {z0_Id : Int} {z0_Ports : List Port} (h : (⟨z0_Id, z0_Ports⟩ : Bridge).Ports.length ≤ 6) : G_DrawBridgeBytes code (some ([[.int .i64 z0_Id, .sl true 11 (enS true z0_Ports)]], [])) := ⟨⟨z0_Id, z0_Ports⟩, rfl, h⟩
theorem e_DrawBridgeBytes (code : List UInt8) (hpre : (o22 code).1 = true) : ∃ x, P_DrawBridgeBytes code x := by
  show G_DrawBridgeBytes code _
  refine Eq.mpr (congrArg (G_DrawBridgeBytes code) (r22 code _)) ?_
  replace hpre : (decide (code.length ≤ 1048576)) = true := hpre
  simp only [isS_enS, deS_enS, Bool.true_and]
  have hc := p_l1New code hpre
  repeat' first | refine leaf_DrawBridgeBytes _  ?_ | refine g_pre ?_ ?_ | refine g_if (fun _ => ?_) (fun _ => ?_)
  all_goals simp (maxDischargeDepth := 60) [TL1Cur.eta, isS_int_cons, isS_nil, deS, List.map_cons, List.map_nil, List.length_cons, List.length_nil, k_l1Byte, k_l1Below, k_l1Once, k_l1PickInt, k_l6DrawRight, k_l6Draw, k_l8DrawIn, k_l8DrawBent, k_l9DrawList, k_l2Dent, k_l7DrawRight, k_l7Draw, k_l8DrawRight, k_l8Draw, hpre, hc, of_decide_eq_true hpre, l22_a]
theorem p_DrawBridgeBytes (code : List UInt8) (hpre : (o22 code).1 = true) : (v0_DrawBridgeBytes code).Ports.length ≤ 6 := (Classical.epsilon_spec (e_DrawBridgeBytes code hpre)).2
theorem m22 (code : List UInt8) (hpre : (o22 code).1 = true) : evFn ⟨Go.Proofs.Try.prog, Hx, 22⟩ T47.call (40 + code.length) f22 [[.sl false 1 (enS false code)]] = some (o22 code).2 := (Classical.epsilon_spec (e_DrawBridgeBytes code hpre)).1
theorem s22 : SoundAt Go.Proofs.Try.prog Hx 22 c22 := soundAt_of T47_sound mixed func22 (by kernel_rfl) (by
  intro rows r h
  unfold c22 at h
  split at h
  · rename_i code
    obtain ⟨hp, hr⟩ := Prod.mk.inj (Option.some.inj h)
    subst hr
    simp only [Bool.and_eq_true] at hp
    obtain ⟨hs0, hp⟩ := hp
    obtain ⟨xs0, rfl⟩ := isS_ex hs0
    simp only [deS_enS] at hp ⊢
    exact ⟨_, m22 xs0 hp⟩
  · cases h)
def T22 : Table := (22, c22) :: T47
theorem T22_sound : Table.Sound Go.Proofs.Try.prog Hx T22 := Table.sound_cons s22 T47_sound
end Go.Ev
namespace Go.Md
open Go Go.Ev
def P_DrawBridgeRead (code : List UInt8) (x : (List UInt8)) : Prop := evFn ⟨Go.Proofs.Try.prog, Hx, 24⟩ T22.call (400 + code.length) f24 [[.sl false 1 (enS false code)]] = some ([[.sl true 1 (enS true x)]], []) ∧ (x.length ≤ 1000)
noncomputable def w_DrawBridgeRead (code : List UInt8) : (List UInt8) := @Classical.epsilon ((List UInt8)) ⟨[]⟩ (P_DrawBridgeRead code)
noncomputable def v0_DrawBridgeRead (code : List UInt8) : List UInt8 := (w_DrawBridgeRead code)
end Go.Md
namespace Go.Ev
open Go.Md
def o24 (code : List UInt8) : Bool × List Row × List Row := (decide (code.length ≤ 1048576), [[.sl true 1 (enS true (v0_DrawBridgeRead code))]], [])
def c24 : Contract
  | [[.sl false 1 code]] => some (isS UInt8 false code && (o24 (deS UInt8 code)).1, (o24 (deS UInt8 code)).2.1, (o24 (deS UInt8 code)).2.2)
  | _ => none

theorem r24 (code : List UInt8) (n : Nat) : evFn ⟨prog, Hx, 24⟩ T22.call n f24 [[.sl false 1 (enS false code)]] = bif isS UInt8 false (enS false code) && decide (length (deS UInt8 (enS false code)) ≤ 1048576) then bif curOk (v0_l1New (deS UInt8 (enS false code))) then bif isS Port false (lendRows (enS true (Bridge.Ports (v0_l8DrawRight (v0_l1New (deS UInt8 (enS false code))))))) && decide (length (deS Port (lendRows (enS true (Bridge.Ports (v0_l8DrawRight (v0_l1New (deS UInt8 (enS false code)))))))) ≤ 1048576) then bif deepRows (enS true (bridgeBs (Bridge.mk (Bridge.Id (v0_l8DrawRight (v0_l1New (deS UInt8 (enS false code))))) (deS Port (lendRows (enS true (Bridge.Ports (v0_l8DrawRight (v0_l1New (deS UInt8 (enS false code))))))))))) && true && true && true && true then bif isS UInt8 true (enS true (bridgeBs (Bridge.mk (Bridge.Id (v0_l8DrawRight (v0_l1New (deS UInt8 (enS false code))))) (deS Port (lendRows (enS true (Bridge.Ports (v0_l8DrawRight (v0_l1New (deS UInt8 (enS false code))))))))))) && (curOk (b0_l8DrawRight (v0_l1New (deS UInt8 (enS false code)))) && decide (length (deS UInt8 (enS true (bridgeBs (Bridge.mk (Bridge.Id (v0_l8DrawRight (v0_l1New (deS UInt8 (enS false code))))) (deS Port (lendRows (enS true (Bridge.Ports (v0_l8DrawRight (v0_l1New (deS UInt8 (enS false code)))))))))))) ≤ 1048576)) then some ([[D.sl true 1 (enS true (v0_l2Dent (b0_l8DrawRight (v0_l1New (deS UInt8 (enS false code)))) (deS UInt8 (enS true (bridgeBs (Bridge.mk (Bridge.Id (v0_l8DrawRight (v0_l1New (deS UInt8 (enS false code))))) (deS Port (lendRows (enS true (Bridge.Ports (v0_l8DrawRight (v0_l1New (deS UInt8 (enS false code))))))))))))))]], []) else none else none else none else none else none := by kernel_rfl
def G_DrawBridgeRead (code : List UInt8) (r : Option (List Row × List Row)) : Prop := ∃ x : (List UInt8), r = some ([[.sl true 1 (enS true x)]], []) ∧ (x.length ≤ 1000)
theorem leaf_DrawBridgeRead (code : List UInt8) {z0 : List UInt8} (h : (z0 : List UInt8).length ≤ 1000) : G_DrawBridgeRead code (some ([[.sl true 1 (enS true z0)]], [])) := ⟨z0, rfl, h⟩
theorem e_DrawBridgeRead (code : List UInt8) (hpre : (o24 code).1 = true) : ∃ x, P_DrawBridgeRead code x := by
  show G_DrawBridgeRead code _
  refine Eq.mpr (congrArg (G_DrawBridgeRead code) (r24 code _)) ?_
  replace hpre : (decide (code.length ≤ 1048576)) = true := hpre
  simp only [isS_enS, deS_enS, lendRows_enS, deepRows_enS, Bridge.eta, Bool.true_and, Bool.and_self, Bool.and_true, cond_true]
  have hc := p_l1New code hpre
  have x := p_l8DrawRight _ hc
  have hb := bridgeBs_length (v0_l8DrawRight (v0_l1New code))
  have hp : (curOk (b0_l8DrawRight (v0_l1New code)) && decide ((bridgeBs (v0_l8DrawRight (v0_l1New code))).length ≤ 1048576)) = true := by
    rw [x.2, decide_eq_true (by omega)]
    rfl
  refine g_pre hpre (g_pre hc (g_pre (decide_eq_true (by have := x.1.2; omega)) (g_pre hp ?_)))
  refine leaf_DrawBridgeRead _  ?_
  have := (p_l2Dent _ _ hp).1
  omega
theorem p_DrawBridgeRead (code : List UInt8) (hpre : (o24 code).1 = true) : (v0_DrawBridgeRead code).length ≤ 1000 := (Classical.epsilon_spec (e_DrawBridgeRead code hpre)).2
theorem m24 (code : List UInt8) (hpre : (o24 code).1 = true) : evFn ⟨Go.Proofs.Try.prog, Hx, 24⟩ T22.call (400 + code.length) f24 [[.sl false 1 (enS false code)]] = some (o24 code).2 := (Classical.epsilon_spec (e_DrawBridgeRead code hpre)).1
theorem s24 : SoundAt Go.Proofs.Try.prog Hx 24 c24 := soundAt_of T22_sound mixed func24 (by kernel_rfl) (by
  intro rows r h
  unfold c24 at h
  split at h
  · rename_i code
    obtain ⟨hp, hr⟩ := Prod.mk.inj (Option.some.inj h)
    subst hr
    simp only [Bool.and_eq_true] at hp
    obtain ⟨hs0, hp⟩ := hp
    obtain ⟨xs0, rfl⟩ := isS_ex hs0
    simp only [deS_enS] at hp ⊢
    exact ⟨_, m24 xs0 hp⟩
  · cases h)
def T24 : Table := (24, c24) :: T22
theorem T24_sound : Table.Sound Go.Proofs.Try.prog Hx T24 := Table.sound_cons s24 T22_sound
end Go.Ev
namespace Go.Md
open Go Go.Ev
def P_DrawPortBytes (code : List UInt8) (x : Port) : Prop := evFn ⟨Go.Proofs.Try.prog, Hx, 27⟩ T24.call (40 + code.length) f27 [[.sl false 1 (enS false code)]] = some ([[.bool x.Up, .bool x.Has, .int .i64 x.Vec.Root, .int .i64 x.Vec.Cost, .int .i64 x.Vec.Bridge, .int .i64 x.Vec.Port, .int .i64 x.Hops, .int .i64 x.Left, .int .i64 x.Role, .int .i64 x.Wait, .bool x.Open]], []) ∧ (True)
noncomputable def w_DrawPortBytes (code : List UInt8) : Port := @Classical.epsilon (Port) ⟨⟨false, false, ⟨0, 0, 0, 0⟩, 0, 0, 0, 0, false⟩⟩ (P_DrawPortBytes code)
noncomputable def v0_DrawPortBytes (code : List UInt8) : Port := (w_DrawPortBytes code)
end Go.Md
namespace Go.Ev
open Go.Md
def o27 (code : List UInt8) : Bool × List Row × List Row := (decide (code.length ≤ 1048576), [[.bool (v0_DrawPortBytes code).Up, .bool (v0_DrawPortBytes code).Has, .int .i64 (v0_DrawPortBytes code).Vec.Root, .int .i64 (v0_DrawPortBytes code).Vec.Cost, .int .i64 (v0_DrawPortBytes code).Vec.Bridge, .int .i64 (v0_DrawPortBytes code).Vec.Port, .int .i64 (v0_DrawPortBytes code).Hops, .int .i64 (v0_DrawPortBytes code).Left, .int .i64 (v0_DrawPortBytes code).Role, .int .i64 (v0_DrawPortBytes code).Wait, .bool (v0_DrawPortBytes code).Open]], [])
def c27 : Contract
  | [[.sl false 1 code]] => some (isS UInt8 false code && (o27 (deS UInt8 code)).1, (o27 (deS UInt8 code)).2.1, (o27 (deS UInt8 code)).2.2)
  | _ => none

theorem r27 (code : List UInt8) (n : Nat) : evFn ⟨prog, Hx, 27⟩ T24.call n f27 [[.sl false 1 (enS false code)]] = bif isS UInt8 false (enS false code) && decide (length (deS UInt8 (enS false code)) ≤ 1048576) then bif curOk (v0_l1New (deS UInt8 (enS false code))) then some ([En.enc true (v0_l7Draw (v0_l1New (deS UInt8 (enS false code))))], []) else none else none := by kernel_rfl
def G_DrawPortBytes (code : List UInt8) (r : Option (List Row × List Row)) : Prop := ∃ x : Port, r = some ([[.bool x.Up, .bool x.Has, .int .i64 x.Vec.Root, .int .i64 x.Vec.Cost, .int .i64 x.Vec.Bridge, .int .i64 x.Vec.Port, .int .i64 x.Hops, .int .i64 x.Left, .int .i64 x.Role, .int .i64 x.Wait, .bool x.Open]], []) ∧ (True)
theorem leaf_DrawPortBytes (code : List UInt8) {z0_Up : Bool} {z0_Has : Bool} {z0_Vec_Root : Int} {z0_Vec_Cost : Int} {z0_Vec_Bridge : Int} {z0_Vec_Port : Int} {z0_Hops : Int} {z0_Left : Int} {z0_Role : Int} {z0_Wait : Int} {z0_Open : Bool} (h : True) : G_DrawPortBytes code (some ([[.bool z0_Up, .bool z0_Has, .int .i64 z0_Vec_Root, .int .i64 z0_Vec_Cost, .int .i64 z0_Vec_Bridge, .int .i64 z0_Vec_Port, .int .i64 z0_Hops, .int .i64 z0_Left, .int .i64 z0_Role, .int .i64 z0_Wait, .bool z0_Open]], [])) := ⟨⟨z0_Up, z0_Has, ⟨z0_Vec_Root, z0_Vec_Cost, z0_Vec_Bridge, z0_Vec_Port⟩, z0_Hops, z0_Left, z0_Role, z0_Wait, z0_Open⟩, rfl, h⟩
theorem e_DrawPortBytes (code : List UInt8) (hpre : (o27 code).1 = true) : ∃ x, P_DrawPortBytes code x := by
  show G_DrawPortBytes code _
  refine Eq.mpr (congrArg (G_DrawPortBytes code) (r27 code _)) ?_
  replace hpre : (decide (code.length ≤ 1048576)) = true := hpre
  simp only [isS_enS, deS_enS, Bool.true_and]
  have hc := p_l1New code hpre
  repeat' first | refine leaf_DrawPortBytes _  ?_ | refine g_pre ?_ ?_ | refine g_if (fun _ => ?_) (fun _ => ?_)
  all_goals simp (maxDischargeDepth := 60) [TL1Cur.eta, isS_int_cons, isS_nil, deS, List.map_cons, List.map_nil, List.length_cons, List.length_nil, k_l1Byte, k_l1Below, k_l1Once, k_l1PickInt, k_l6DrawRight, k_l6Draw, k_l8DrawIn, k_l8DrawBent, k_l9DrawList, k_l2Dent, k_l7DrawRight, k_l7Draw, k_l8DrawRight, k_l8Draw, hpre, hc, of_decide_eq_true hpre]
theorem p_DrawPortBytes (code : List UInt8) (hpre : (o27 code).1 = true) : True := (Classical.epsilon_spec (e_DrawPortBytes code hpre)).2
theorem m27 (code : List UInt8) (hpre : (o27 code).1 = true) : evFn ⟨Go.Proofs.Try.prog, Hx, 27⟩ T24.call (40 + code.length) f27 [[.sl false 1 (enS false code)]] = some (o27 code).2 := (Classical.epsilon_spec (e_DrawPortBytes code hpre)).1
theorem s27 : SoundAt Go.Proofs.Try.prog Hx 27 c27 := soundAt_of T24_sound mixed func27 (by kernel_rfl) (by
  intro rows r h
  unfold c27 at h
  split at h
  · rename_i code
    obtain ⟨hp, hr⟩ := Prod.mk.inj (Option.some.inj h)
    subst hr
    simp only [Bool.and_eq_true] at hp
    obtain ⟨hs0, hp⟩ := hp
    obtain ⟨xs0, rfl⟩ := isS_ex hs0
    simp only [deS_enS] at hp ⊢
    exact ⟨_, m27 xs0 hp⟩
  · cases h)
def T27 : Table := (27, c27) :: T24
theorem T27_sound : Table.Sound Go.Proofs.Try.prog Hx T27 := Table.sound_cons s27 T24_sound
end Go.Ev
namespace Go.Md
open Go Go.Ev
def P_DrawFromSnap (code : List UInt8) (x : Snap × (List In)) : Prop := evFn ⟨Go.Proofs.Try.prog, Hx, 28⟩ T27.call (400 + code.length) f28 [[.sl false 1 (enS false code)]] = some ([[.int .i64 x.1.N, .sl true 1 (enS true x.1.Bytes)], [.sl true 8 (enS true x.2)]], []) ∧ (x.1.Bytes.length ≤ 1000 ∧ x.2.length ≤ 7)
noncomputable def w_DrawFromSnap (code : List UInt8) : Snap × (List In) := @Classical.epsilon (Snap × (List In)) ⟨(⟨0, []⟩, [])⟩ (P_DrawFromSnap code)
noncomputable def v0_DrawFromSnap (code : List UInt8) : Snap := (w_DrawFromSnap code).1
noncomputable def v1_DrawFromSnap (code : List UInt8) : List In := (w_DrawFromSnap code).2
end Go.Md
namespace Go.Ev
open Go.Md
def o28 (code : List UInt8) : Bool × List Row × List Row := (decide (code.length ≤ 1048576), [[.int .i64 (v0_DrawFromSnap code).N, .sl true 1 (enS true (v0_DrawFromSnap code).Bytes)], [.sl true 8 (enS true (v1_DrawFromSnap code))]], [])
def c28 : Contract
  | [[.sl false 1 code]] => some (isS UInt8 false code && (o28 (deS UInt8 code)).1, (o28 (deS UInt8 code)).2.1, (o28 (deS UInt8 code)).2.2)
  | _ => none

theorem r28 (code : List UInt8) (n : Nat) : evFn ⟨prog, Hx, 28⟩ T27.call n f28 [[.sl false 1 (enS false code)]] = bif isS UInt8 false (enS false code) && decide (length (deS UInt8 (enS false code)) ≤ 1048576) then bif curOk (v0_l1New (deS UInt8 (enS false code))) then bif curOk (b0_l9DrawList (v0_l1New (deS UInt8 (enS false code)))) then bif curOk (b0_l1Below (b0_l9DrawList (v0_l1New (deS UInt8 (enS false code)))) (5)) then bif curOk (b0_l1Below (b0_l1Below (b0_l9DrawList (v0_l1New (deS UInt8 (enS false code)))) (5)) (4)) then bif isS In false (lendRows (enS true (v0_l9DrawList (v0_l1New (deS UInt8 (enS false code)))))) && decide (length (deS In (lendRows (enS true (v0_l9DrawList (v0_l1New (deS UInt8 (enS false code))))))) ≤ 1048576) then bif deepRows (enS true (Snap.Bytes (snapM (wrap i64 (1 + v0_l1Below (b0_l9DrawList (v0_l1New (deS UInt8 (enS false code)))) (5))) (wrap i64 (1 + v0_l1Below (b0_l1Below (b0_l9DrawList (v0_l1New (deS UInt8 (enS false code)))) (5)) (4))) (deS In (lendRows (enS true (v0_l9DrawList (v0_l1New (deS UInt8 (enS false code))))))) (v0_l1Below (b0_l1Below (b0_l1Below (b0_l9DrawList (v0_l1New (deS UInt8 (enS false code)))) (5)) (4)) (wrap i64 (ofNat (length (enS true (v0_l9DrawList (v0_l1New (deS UInt8 (enS false code)))))) + 1)))))) && true && true && true && true then bif curOk (b0_l1Below (b0_l1Below (b0_l1Below (b0_l9DrawList (v0_l1New (deS UInt8 (enS false code)))) (5)) (4)) (wrap i64 (ofNat (length (enS true (v0_l9DrawList (v0_l1New (deS UInt8 (enS false code)))))) + 1))) then bif v0_l1Below (b0_l1Below (b0_l1Below (b0_l1Below (b0_l9DrawList (v0_l1New (deS UInt8 (enS false code)))) (5)) (4)) (wrap i64 (ofNat (length (enS true (v0_l9DrawList (v0_l1New (deS UInt8 (enS false code)))))) + 1))) (6) == 0 then bif isS Int true [[D.int i64 (Int.negSucc 0)], [D.int i64 (0)], [D.int i64 (99)]] && (curOk (b0_l1Below (b0_l1Below (b0_l1Below (b0_l1Below (b0_l9DrawList (v0_l1New (deS UInt8 (enS false code)))) (5)) (4)) (wrap i64 (ofNat (length (enS true (v0_l9DrawList (v0_l1New (deS UInt8 (enS false code)))))) + 1))) (6)) && (decide (0 < length (deS Int [[D.int i64 (Int.negSucc 0)], [D.int i64 (0)], [D.int i64 (99)]])) && decide (length (deS Int [[D.int i64 (Int.negSucc 0)], [D.int i64 (0)], [D.int i64 (99)]]) ≤ 1048576))) then some ([[D.int i64 (v0_l1PickInt (b0_l1Below (b0_l1Below (b0_l1Below (b0_l1Below (b0_l9DrawList (v0_l1New (deS UInt8 (enS false code)))) (5)) (4)) (wrap i64 (ofNat (length (enS true (v0_l9DrawList (v0_l1New (deS UInt8 (enS false code)))))) + 1))) (6)) (deS Int [[D.int i64 (Int.negSucc 0)], [D.int i64 (0)], [D.int i64 (99)]])), D.sl true 1 (enS true (Snap.Bytes (snapM (wrap i64 (1 + v0_l1Below (b0_l9DrawList (v0_l1New (deS UInt8 (enS false code)))) (5))) (wrap i64 (1 + v0_l1Below (b0_l1Below (b0_l9DrawList (v0_l1New (deS UInt8 (enS false code)))) (5)) (4))) (deS In (lendRows (enS true (v0_l9DrawList (v0_l1New (deS UInt8 (enS false code))))))) (v0_l1Below (b0_l1Below (b0_l1Below (b0_l9DrawList (v0_l1New (deS UInt8 (enS false code)))) (5)) (4)) (wrap i64 (ofNat (length (enS true (v0_l9DrawList (v0_l1New (deS UInt8 (enS false code)))))) + 1))))))], [D.sl true 8 (enS true (v0_l9DrawList (v0_l1New (deS UInt8 (enS false code)))))]], []) else none else bif v0_l1Below (b0_l1Below (b0_l1Below (b0_l1Below (b0_l9DrawList (v0_l1New (deS UInt8 (enS false code)))) (5)) (4)) (wrap i64 (ofNat (length (enS true (v0_l9DrawList (v0_l1New (deS UInt8 (enS false code)))))) + 1))) (6) == 1 then bif isS UInt8 true (enS true (Snap.Bytes (snapM (wrap i64 (1 + v0_l1Below (b0_l9DrawList (v0_l1New (deS UInt8 (enS false code)))) (5))) (wrap i64 (1 + v0_l1Below (b0_l1Below (b0_l9DrawList (v0_l1New (deS UInt8 (enS false code)))) (5)) (4))) (deS In (lendRows (enS true (v0_l9DrawList (v0_l1New (deS UInt8 (enS false code))))))) (v0_l1Below (b0_l1Below (b0_l1Below (b0_l9DrawList (v0_l1New (deS UInt8 (enS false code)))) (5)) (4)) (wrap i64 (ofNat (length (enS true (v0_l9DrawList (v0_l1New (deS UInt8 (enS false code)))))) + 1)))))) && (curOk (b0_l1Below (b0_l1Below (b0_l1Below (b0_l1Below (b0_l9DrawList (v0_l1New (deS UInt8 (enS false code)))) (5)) (4)) (wrap i64 (ofNat (length (enS true (v0_l9DrawList (v0_l1New (deS UInt8 (enS false code)))))) + 1))) (6)) && decide (length (deS UInt8 (enS true (Snap.Bytes (snapM (wrap i64 (1 + v0_l1Below (b0_l9DrawList (v0_l1New (deS UInt8 (enS false code)))) (5))) (wrap i64 (1 + v0_l1Below (b0_l1Below (b0_l9DrawList (v0_l1New (deS UInt8 (enS false code)))) (5)) (4))) (deS In (lendRows (enS true (v0_l9DrawList (v0_l1New (deS UInt8 (enS false code))))))) (v0_l1Below (b0_l1Below (b0_l1Below (b0_l9DrawList (v0_l1New (deS UInt8 (enS false code)))) (5)) (4)) (wrap i64 (ofNat (length (enS true (v0_l9DrawList (v0_l1New (deS UInt8 (enS false code)))))) + 1))))))) ≤ 1048576)) then some ([[D.int i64 (Snap.N (snapM (wrap i64 (1 + v0_l1Below (b0_l9DrawList (v0_l1New (deS UInt8 (enS false code)))) (5))) (wrap i64 (1 + v0_l1Below (b0_l1Below (b0_l9DrawList (v0_l1New (deS UInt8 (enS false code)))) (5)) (4))) (deS In (lendRows (enS true (v0_l9DrawList (v0_l1New (deS UInt8 (enS false code))))))) (v0_l1Below (b0_l1Below (b0_l1Below (b0_l9DrawList (v0_l1New (deS UInt8 (enS false code)))) (5)) (4)) (wrap i64 (ofNat (length (enS true (v0_l9DrawList (v0_l1New (deS UInt8 (enS false code)))))) + 1))))), D.sl true 1 (enS true (v0_l2Dent (b0_l1Below (b0_l1Below (b0_l1Below (b0_l1Below (b0_l9DrawList (v0_l1New (deS UInt8 (enS false code)))) (5)) (4)) (wrap i64 (ofNat (length (enS true (v0_l9DrawList (v0_l1New (deS UInt8 (enS false code)))))) + 1))) (6)) (deS UInt8 (enS true (Snap.Bytes (snapM (wrap i64 (1 + v0_l1Below (b0_l9DrawList (v0_l1New (deS UInt8 (enS false code)))) (5))) (wrap i64 (1 + v0_l1Below (b0_l1Below (b0_l9DrawList (v0_l1New (deS UInt8 (enS false code)))) (5)) (4))) (deS In (lendRows (enS true (v0_l9DrawList (v0_l1New (deS UInt8 (enS false code))))))) (v0_l1Below (b0_l1Below (b0_l1Below (b0_l9DrawList (v0_l1New (deS UInt8 (enS false code)))) (5)) (4)) (wrap i64 (ofNat (length (enS true (v0_l9DrawList (v0_l1New (deS UInt8 (enS false code)))))) + 1)))))))))], [D.sl true 8 (enS true (v0_l9DrawList (v0_l1New (deS UInt8 (enS false code)))))]], []) else none else some ([En.enc true (snapM (wrap i64 (1 + v0_l1Below (b0_l9DrawList (v0_l1New (deS UInt8 (enS false code)))) (5))) (wrap i64 (1 + v0_l1Below (b0_l1Below (b0_l9DrawList (v0_l1New (deS UInt8 (enS false code)))) (5)) (4))) (deS In (lendRows (enS true (v0_l9DrawList (v0_l1New (deS UInt8 (enS false code))))))) (v0_l1Below (b0_l1Below (b0_l1Below (b0_l9DrawList (v0_l1New (deS UInt8 (enS false code)))) (5)) (4)) (wrap i64 (ofNat (length (enS true (v0_l9DrawList (v0_l1New (deS UInt8 (enS false code)))))) + 1)))), [D.sl true 8 (enS true (v0_l9DrawList (v0_l1New (deS UInt8 (enS false code)))))]], []) else none else none else none else none else none else none else none else none := by kernel_rfl
def G_DrawFromSnap (code : List UInt8) (r : Option (List Row × List Row)) : Prop := ∃ x : Snap × (List In), r = some ([[.int .i64 x.1.N, .sl true 1 (enS true x.1.Bytes)], [.sl true 8 (enS true x.2)]], []) ∧ (x.1.Bytes.length ≤ 1000 ∧ x.2.length ≤ 7)
theorem leaf_DrawFromSnap (code : List UInt8) {z0_N : Int} {z0_Bytes : List UInt8} {z1 : List In} (h : (⟨z0_N, z0_Bytes⟩ : Snap).Bytes.length ≤ 1000 ∧ (z1 : List In).length ≤ 7) : G_DrawFromSnap code (some ([[.int .i64 z0_N, .sl true 1 (enS true z0_Bytes)], [.sl true 8 (enS true z1)]], [])) := ⟨(⟨z0_N, z0_Bytes⟩, z1), rfl, h⟩
theorem e_DrawFromSnap (code : List UInt8) (hpre : (o28 code).1 = true) : ∃ x, P_DrawFromSnap code x := by
  show G_DrawFromSnap code _
  refine Eq.mpr (congrArg (G_DrawFromSnap code) (r28 code _)) ?_
  replace hpre : (decide (code.length ≤ 1048576)) = true := hpre
  simp only [isS_enS, deS_enS, lendRows_enS, deepRows_enS, Bool.true_and, Bool.and_self, Bool.and_true, cond_true]
  have hc := p_l1New code hpre
  have x := p_l9DrawList _ hc
  have k1 := k_l1Below _ 5 x.2
  have k2 := k_l1Below _ 4 k1
  have hl : decide ((v0_l9DrawList (v0_l1New code)).length ≤ 1048576) = true := decide_eq_true (by have := x.1; omega)
  have hl7 : (v0_l9DrawList (v0_l1New code)).length ≤ 7 := by have := x.1; omega
  have k3 := k_l1Below _ (IntKind.wrap IntKind.i64 (Int.ofNat (List.length (enS true (v0_l9DrawList (v0_l1New code)))) + 1)) k2
  have k4 := k_l1Below _ 6 k3
  have k5 := k4
  simp only [Int.ofNat_eq_natCast] at k5
  have hS := snapM_178
  refine g_pre hpre (g_pre hc (g_pre x.2 (g_pre k1 (g_pre k2 (g_pre hl (g_pre k3 (g_if (fun _ => g_pre (by simp (maxDischargeDepth := 60) [TL1Cur.eta, isS_int_cons, isS_nil, deS, List.map_cons, List.map_nil, List.length_cons, List.length_nil, k_l1Byte, k_l1Below, k_l1Once, k_l1PickInt, k_l6DrawRight, k_l6Draw, k_l8DrawIn, k_l8DrawBent, k_l9DrawList, k_l2Dent, k_l7DrawRight, k_l7Draw, k_l8DrawRight, k_l8Draw, k5]) ?_) (fun _ => g_if (fun _ => ?_) (fun _ => ?_)))))))))
  · refine leaf_DrawFromSnap _  ?_
    exact ⟨Nat.le_trans (hS _ _ _ _) (by omega), hl7⟩
  · have hp : ∀ a b l n, (curOk (b0_l1Below (b0_l1Below (b0_l1Below (b0_l1Below (b0_l9DrawList (v0_l1New code)) 5) 4) (IntKind.wrap IntKind.i64 (Int.ofNat (List.length (enS true (v0_l9DrawList (v0_l1New code)))) + 1))) 6) && decide ((snapM a b l n).Bytes.length ≤ 1048576)) = true := fun a b l n => by
      rw [k4, decide_eq_true (Nat.le_trans (hS a b l n) (by omega))]
      rfl
    refine g_pre (hp _ _ _ _) ?_
    refine leaf_DrawFromSnap _  ?_
    refine ⟨Nat.le_trans (p_l2Dent _ _ (hp _ _ _ _)).1 (Nat.le_trans (Nat.succ_le_succ (hS _ _ _ _)) (by omega)), hl7⟩
  · refine leaf_DrawFromSnap _  ?_
    exact ⟨Nat.le_trans (hS _ _ _ _) (by omega), hl7⟩
theorem p_DrawFromSnap (code : List UInt8) (hpre : (o28 code).1 = true) : (v0_DrawFromSnap code).Bytes.length ≤ 1000 ∧ (v1_DrawFromSnap code).length ≤ 7 := (Classical.epsilon_spec (e_DrawFromSnap code hpre)).2
theorem m28 (code : List UInt8) (hpre : (o28 code).1 = true) : evFn ⟨Go.Proofs.Try.prog, Hx, 28⟩ T27.call (400 + code.length) f28 [[.sl false 1 (enS false code)]] = some (o28 code).2 := (Classical.epsilon_spec (e_DrawFromSnap code hpre)).1
theorem s28 : SoundAt Go.Proofs.Try.prog Hx 28 c28 := soundAt_of T27_sound mixed func28 (by kernel_rfl) (by
  intro rows r h
  unfold c28 at h
  split at h
  · rename_i code
    obtain ⟨hp, hr⟩ := Prod.mk.inj (Option.some.inj h)
    subst hr
    simp only [Bool.and_eq_true] at hp
    obtain ⟨hs0, hp⟩ := hp
    obtain ⟨xs0, rfl⟩ := isS_ex hs0
    simp only [deS_enS] at hp ⊢
    exact ⟨_, m28 xs0 hp⟩
  · cases h)
def T28 : Table := (28, c28) :: T27
theorem T28_sound : Table.Sound Go.Proofs.Try.prog Hx T28 := Table.sound_cons s28 T27_sound
end Go.Ev
end
