/- Contracts of functions, each by its evaluation. -/
import Derived.Test.YtgklglkmfgfodaaEvMd
import Derived.Test.YtgklglkmfgfodaaProg
import Derived.KernelRfl
import Derived.Test.YtgklglkmfgfodaaFDvec
set_option linter.unusedVariables false
set_option linter.unusedSimpArgs false
set_option maxRecDepth 100000
noncomputable section
open List (getD length drop take set append replicate all isEmpty)
open Int (toNat ofNat)
open Go.IntKind (i64 wrap)
open Go.Proofs.Try (prog f28 f30 f33 f34 f35 f68 func28 func30 func33 func34 func35 func68)
namespace Go.Ev
open Go.RowKit Go.Md
end Go.Ev
namespace Go.Md
open Go Go.Ev
def P_l19Draw (c : TL1Cur) (x : Bpdu × TL1Cur) : Prop := evFn ⟨Go.Proofs.Try.prog, Hx, 68⟩ T94.call 0 f68 [[.sl false 1 c.b, .int .i64 c.i, .int .i64 c.h]] = some ([[.bool x.1.Change, .bool x.1.Ask, .bool x.1.Agree, .bool x.1.Learn, .bool x.1.Open, .int .i64 x.1.Role, .int .i64 x.1.Vec.Root, .int .i64 x.1.Vec.Cost, .int .i64 x.1.Vec.Bridge, .int .i64 x.1.Vec.Port, .int .i64 x.1.Hops]], [[.sl false 1 x.2.b, .int .i64 x.2.i, .int .i64 x.2.h]]) ∧ (curOk x.2 = true)
noncomputable def w_l19Draw (c : TL1Cur) : Bpdu × TL1Cur := @Classical.epsilon (Bpdu × TL1Cur) ⟨(⟨false, false, false, false, false, 0, ⟨0, 0, 0, 0⟩, 0⟩, ⟨[], 0, 0⟩)⟩ (P_l19Draw c)
noncomputable def v0_l19Draw (c : TL1Cur) : Bpdu := (w_l19Draw c).1
noncomputable def b0_l19Draw (c : TL1Cur) : TL1Cur := (w_l19Draw c).2
end Go.Md
namespace Go.Ev
open Go.Md
def o68 (c : TL1Cur) : Bool × List Row × List Row := (curOk c, [[.bool (v0_l19Draw c).Change, .bool (v0_l19Draw c).Ask, .bool (v0_l19Draw c).Agree, .bool (v0_l19Draw c).Learn, .bool (v0_l19Draw c).Open, .int .i64 (v0_l19Draw c).Role, .int .i64 (v0_l19Draw c).Vec.Root, .int .i64 (v0_l19Draw c).Vec.Cost, .int .i64 (v0_l19Draw c).Vec.Bridge, .int .i64 (v0_l19Draw c).Vec.Port, .int .i64 (v0_l19Draw c).Hops]], [[.sl false 1 (b0_l19Draw c).b, .int .i64 (b0_l19Draw c).i, .int .i64 (b0_l19Draw c).h]])
def c68 : Contract
  | [[.sl false 1 c_b, .int .i64 c_i, .int .i64 c_h]] => some ((o68 ⟨c_b, c_i, c_h⟩).1, (o68 ⟨c_b, c_i, c_h⟩).2.1, (o68 ⟨c_b, c_i, c_h⟩).2.2)
  | _ => none

theorem r68 (c : TL1Cur) (n : Nat) : evFn ⟨prog, Hx, 68⟩ T94.call n f68 [[.sl false 1 c.b, .int .i64 c.i, .int .i64 c.h]] = bif curOk c then bif curOk (b0_l1Once c (2)) then bif curOk (b0_l1Once (b0_l1Once c (2)) (2)) then bif curOk (b0_l1Once (b0_l1Once (b0_l1Once c (2)) (2)) (2)) then bif curOk (b0_l1Once (b0_l1Once (b0_l1Once (b0_l1Once c (2)) (2)) (2)) (2)) then bif curOk (b0_l1Once (b0_l1Once (b0_l1Once (b0_l1Once (b0_l1Once c (2)) (2)) (2)) (2)) (2)) then bif curOk (b0_l1Below (b0_l1Once (b0_l1Once (b0_l1Once (b0_l1Once (b0_l1Once c (2)) (2)) (2)) (2)) (2)) (4)) then bif curOk (b0_l6DrawRight (b0_l1Below (b0_l1Once (b0_l1Once (b0_l1Once (b0_l1Once (b0_l1Once c (2)) (2)) (2)) (2)) (2)) (4))) then bif curOk (b0_l1Below (b0_l6DrawRight (b0_l1Below (b0_l1Once (b0_l1Once (b0_l1Once (b0_l1Once (b0_l1Once c (2)) (2)) (2)) (2)) (2)) (4))) (9)) then bif v0_l1Below (b0_l1Below (b0_l6DrawRight (b0_l1Below (b0_l1Once (b0_l1Once (b0_l1Once (b0_l1Once (b0_l1Once c (2)) (2)) (2)) (2)) (2)) (4))) (9)) (10) == 0 then bif isS Int true [[D.int i64 (Int.negSucc 0)], [D.int i64 (3)], [D.int i64 (4)]] && (curOk (b0_l1Below (b0_l1Below (b0_l6DrawRight (b0_l1Below (b0_l1Once (b0_l1Once (b0_l1Once (b0_l1Once (b0_l1Once c (2)) (2)) (2)) (2)) (2)) (4))) (9)) (10)) && (decide (0 < length (deS Int [[D.int i64 (Int.negSucc 0)], [D.int i64 (3)], [D.int i64 (4)]])) && decide (length (deS Int [[D.int i64 (Int.negSucc 0)], [D.int i64 (3)], [D.int i64 (4)]]) ≤ 1048576))) then some ([[D.bool (v0_l1Once c (2)), D.bool (v0_l1Once (b0_l1Once c (2)) (2)), D.bool (v0_l1Once (b0_l1Once (b0_l1Once c (2)) (2)) (2)), D.bool (v0_l1Once (b0_l1Once (b0_l1Once (b0_l1Once c (2)) (2)) (2)) (2)), D.bool (v0_l1Once (b0_l1Once (b0_l1Once (b0_l1Once (b0_l1Once c (2)) (2)) (2)) (2)) (2)), D.int i64 (v0_l1PickInt (b0_l1Below (b0_l1Below (b0_l6DrawRight (b0_l1Below (b0_l1Once (b0_l1Once (b0_l1Once (b0_l1Once (b0_l1Once c (2)) (2)) (2)) (2)) (2)) (4))) (9)) (10)) (deS Int [[D.int i64 (Int.negSucc 0)], [D.int i64 (3)], [D.int i64 (4)]])), D.int i64 (Vec.Root (v0_l6DrawRight (b0_l1Below (b0_l1Once (b0_l1Once (b0_l1Once (b0_l1Once (b0_l1Once c (2)) (2)) (2)) (2)) (2)) (4)))), D.int i64 (Vec.Cost (v0_l6DrawRight (b0_l1Below (b0_l1Once (b0_l1Once (b0_l1Once (b0_l1Once (b0_l1Once c (2)) (2)) (2)) (2)) (2)) (4)))), D.int i64 (Vec.Bridge (v0_l6DrawRight (b0_l1Below (b0_l1Once (b0_l1Once (b0_l1Once (b0_l1Once (b0_l1Once c (2)) (2)) (2)) (2)) (2)) (4)))), D.int i64 (Vec.Port (v0_l6DrawRight (b0_l1Below (b0_l1Once (b0_l1Once (b0_l1Once (b0_l1Once (b0_l1Once c (2)) (2)) (2)) (2)) (2)) (4)))), D.int i64 (v0_l1Below (b0_l6DrawRight (b0_l1Below (b0_l1Once (b0_l1Once (b0_l1Once (b0_l1Once (b0_l1Once c (2)) (2)) (2)) (2)) (2)) (4))) (9))]], [[D.sl false 1 (TL1Cur.b (b0_l1PickInt (b0_l1Below (b0_l1Below (b0_l6DrawRight (b0_l1Below (b0_l1Once (b0_l1Once (b0_l1Once (b0_l1Once (b0_l1Once c (2)) (2)) (2)) (2)) (2)) (4))) (9)) (10)) (deS Int [[D.int i64 (Int.negSucc 0)], [D.int i64 (3)], [D.int i64 (4)]]))), D.int i64 (TL1Cur.i (b0_l1PickInt (b0_l1Below (b0_l1Below (b0_l6DrawRight (b0_l1Below (b0_l1Once (b0_l1Once (b0_l1Once (b0_l1Once (b0_l1Once c (2)) (2)) (2)) (2)) (2)) (4))) (9)) (10)) (deS Int [[D.int i64 (Int.negSucc 0)], [D.int i64 (3)], [D.int i64 (4)]]))), D.int i64 (TL1Cur.h (b0_l1PickInt (b0_l1Below (b0_l1Below (b0_l6DrawRight (b0_l1Below (b0_l1Once (b0_l1Once (b0_l1Once (b0_l1Once (b0_l1Once c (2)) (2)) (2)) (2)) (2)) (4))) (9)) (10)) (deS Int [[D.int i64 (Int.negSucc 0)], [D.int i64 (3)], [D.int i64 (4)]])))]]) else none else bif v0_l1Below (b0_l1Below (b0_l6DrawRight (b0_l1Below (b0_l1Once (b0_l1Once (b0_l1Once (b0_l1Once (b0_l1Once c (2)) (2)) (2)) (2)) (2)) (4))) (9)) (10) == 1 then bif curOk (b0_l1Below (b0_l1Below (b0_l6DrawRight (b0_l1Below (b0_l1Once (b0_l1Once (b0_l1Once (b0_l1Once (b0_l1Once c (2)) (2)) (2)) (2)) (2)) (4))) (9)) (10)) then some ([[D.bool (v0_l1Once c (2)), D.bool (v0_l1Once (b0_l1Once c (2)) (2)), D.bool (v0_l1Once (b0_l1Once (b0_l1Once c (2)) (2)) (2)), D.bool (v0_l1Once (b0_l1Once (b0_l1Once (b0_l1Once c (2)) (2)) (2)) (2)), D.bool (v0_l1Once (b0_l1Once (b0_l1Once (b0_l1Once (b0_l1Once c (2)) (2)) (2)) (2)) (2)), D.int i64 (v0_l1Below (b0_l1Once (b0_l1Once (b0_l1Once (b0_l1Once (b0_l1Once c (2)) (2)) (2)) (2)) (2)) (4)), D.int i64 (Vec.Root (v0_l6Draw (b0_l1Below (b0_l1Below (b0_l6DrawRight (b0_l1Below (b0_l1Once (b0_l1Once (b0_l1Once (b0_l1Once (b0_l1Once c (2)) (2)) (2)) (2)) (2)) (4))) (9)) (10)))), D.int i64 (Vec.Cost (v0_l6Draw (b0_l1Below (b0_l1Below (b0_l6DrawRight (b0_l1Below (b0_l1Once (b0_l1Once (b0_l1Once (b0_l1Once (b0_l1Once c (2)) (2)) (2)) (2)) (2)) (4))) (9)) (10)))), D.int i64 (Vec.Bridge (v0_l6Draw (b0_l1Below (b0_l1Below (b0_l6DrawRight (b0_l1Below (b0_l1Once (b0_l1Once (b0_l1Once (b0_l1Once (b0_l1Once c (2)) (2)) (2)) (2)) (2)) (4))) (9)) (10)))), D.int i64 (Vec.Port (v0_l6Draw (b0_l1Below (b0_l1Below (b0_l6DrawRight (b0_l1Below (b0_l1Once (b0_l1Once (b0_l1Once (b0_l1Once (b0_l1Once c (2)) (2)) (2)) (2)) (2)) (4))) (9)) (10)))), D.int i64 (v0_l1Below (b0_l6DrawRight (b0_l1Below (b0_l1Once (b0_l1Once (b0_l1Once (b0_l1Once (b0_l1Once c (2)) (2)) (2)) (2)) (2)) (4))) (9))]], [[D.sl false 1 (TL1Cur.b (b0_l6Draw (b0_l1Below (b0_l1Below (b0_l6DrawRight (b0_l1Below (b0_l1Once (b0_l1Once (b0_l1Once (b0_l1Once (b0_l1Once c (2)) (2)) (2)) (2)) (2)) (4))) (9)) (10)))), D.int i64 (TL1Cur.i (b0_l6Draw (b0_l1Below (b0_l1Below (b0_l6DrawRight (b0_l1Below (b0_l1Once (b0_l1Once (b0_l1Once (b0_l1Once (b0_l1Once c (2)) (2)) (2)) (2)) (2)) (4))) (9)) (10)))), D.int i64 (TL1Cur.h (b0_l6Draw (b0_l1Below (b0_l1Below (b0_l6DrawRight (b0_l1Below (b0_l1Once (b0_l1Once (b0_l1Once (b0_l1Once (b0_l1Once c (2)) (2)) (2)) (2)) (2)) (4))) (9)) (10))))]]) else none else bif v0_l1Below (b0_l1Below (b0_l6DrawRight (b0_l1Below (b0_l1Once (b0_l1Once (b0_l1Once (b0_l1Once (b0_l1Once c (2)) (2)) (2)) (2)) (2)) (4))) (9)) (10) == 2 then bif isS Int true [[D.int i64 (Int.negSucc 0)], [D.int i64 (8)], [D.int i64 (9)]] && (curOk (b0_l1Below (b0_l1Below (b0_l6DrawRight (b0_l1Below (b0_l1Once (b0_l1Once (b0_l1Once (b0_l1Once (b0_l1Once c (2)) (2)) (2)) (2)) (2)) (4))) (9)) (10)) && (decide (0 < length (deS Int [[D.int i64 (Int.negSucc 0)], [D.int i64 (8)], [D.int i64 (9)]])) && decide (length (deS Int [[D.int i64 (Int.negSucc 0)], [D.int i64 (8)], [D.int i64 (9)]]) ≤ 1048576))) then some ([[D.bool (v0_l1Once c (2)), D.bool (v0_l1Once (b0_l1Once c (2)) (2)), D.bool (v0_l1Once (b0_l1Once (b0_l1Once c (2)) (2)) (2)), D.bool (v0_l1Once (b0_l1Once (b0_l1Once (b0_l1Once c (2)) (2)) (2)) (2)), D.bool (v0_l1Once (b0_l1Once (b0_l1Once (b0_l1Once (b0_l1Once c (2)) (2)) (2)) (2)) (2)), D.int i64 (v0_l1Below (b0_l1Once (b0_l1Once (b0_l1Once (b0_l1Once (b0_l1Once c (2)) (2)) (2)) (2)) (2)) (4)), D.int i64 (Vec.Root (v0_l6DrawRight (b0_l1Below (b0_l1Once (b0_l1Once (b0_l1Once (b0_l1Once (b0_l1Once c (2)) (2)) (2)) (2)) (2)) (4)))), D.int i64 (Vec.Cost (v0_l6DrawRight (b0_l1Below (b0_l1Once (b0_l1Once (b0_l1Once (b0_l1Once (b0_l1Once c (2)) (2)) (2)) (2)) (2)) (4)))), D.int i64 (Vec.Bridge (v0_l6DrawRight (b0_l1Below (b0_l1Once (b0_l1Once (b0_l1Once (b0_l1Once (b0_l1Once c (2)) (2)) (2)) (2)) (2)) (4)))), D.int i64 (Vec.Port (v0_l6DrawRight (b0_l1Below (b0_l1Once (b0_l1Once (b0_l1Once (b0_l1Once (b0_l1Once c (2)) (2)) (2)) (2)) (2)) (4)))), D.int i64 (v0_l1PickInt (b0_l1Below (b0_l1Below (b0_l6DrawRight (b0_l1Below (b0_l1Once (b0_l1Once (b0_l1Once (b0_l1Once (b0_l1Once c (2)) (2)) (2)) (2)) (2)) (4))) (9)) (10)) (deS Int [[D.int i64 (Int.negSucc 0)], [D.int i64 (8)], [D.int i64 (9)]]))]], [[D.sl false 1 (TL1Cur.b (b0_l1PickInt (b0_l1Below (b0_l1Below (b0_l6DrawRight (b0_l1Below (b0_l1Once (b0_l1Once (b0_l1Once (b0_l1Once (b0_l1Once c (2)) (2)) (2)) (2)) (2)) (4))) (9)) (10)) (deS Int [[D.int i64 (Int.negSucc 0)], [D.int i64 (8)], [D.int i64 (9)]]))), D.int i64 (TL1Cur.i (b0_l1PickInt (b0_l1Below (b0_l1Below (b0_l6DrawRight (b0_l1Below (b0_l1Once (b0_l1Once (b0_l1Once (b0_l1Once (b0_l1Once c (2)) (2)) (2)) (2)) (2)) (4))) (9)) (10)) (deS Int [[D.int i64 (Int.negSucc 0)], [D.int i64 (8)], [D.int i64 (9)]]))), D.int i64 (TL1Cur.h (b0_l1PickInt (b0_l1Below (b0_l1Below (b0_l6DrawRight (b0_l1Below (b0_l1Once (b0_l1Once (b0_l1Once (b0_l1Once (b0_l1Once c (2)) (2)) (2)) (2)) (2)) (4))) (9)) (10)) (deS Int [[D.int i64 (Int.negSucc 0)], [D.int i64 (8)], [D.int i64 (9)]])))]]) else none else some ([[D.bool (v0_l1Once c (2)), D.bool (v0_l1Once (b0_l1Once c (2)) (2)), D.bool (v0_l1Once (b0_l1Once (b0_l1Once c (2)) (2)) (2)), D.bool (v0_l1Once (b0_l1Once (b0_l1Once (b0_l1Once c (2)) (2)) (2)) (2)), D.bool (v0_l1Once (b0_l1Once (b0_l1Once (b0_l1Once (b0_l1Once c (2)) (2)) (2)) (2)) (2)), D.int i64 (v0_l1Below (b0_l1Once (b0_l1Once (b0_l1Once (b0_l1Once (b0_l1Once c (2)) (2)) (2)) (2)) (2)) (4)), D.int i64 (Vec.Root (v0_l6DrawRight (b0_l1Below (b0_l1Once (b0_l1Once (b0_l1Once (b0_l1Once (b0_l1Once c (2)) (2)) (2)) (2)) (2)) (4)))), D.int i64 (Vec.Cost (v0_l6DrawRight (b0_l1Below (b0_l1Once (b0_l1Once (b0_l1Once (b0_l1Once (b0_l1Once c (2)) (2)) (2)) (2)) (2)) (4)))), D.int i64 (Vec.Bridge (v0_l6DrawRight (b0_l1Below (b0_l1Once (b0_l1Once (b0_l1Once (b0_l1Once (b0_l1Once c (2)) (2)) (2)) (2)) (2)) (4)))), D.int i64 (Vec.Port (v0_l6DrawRight (b0_l1Below (b0_l1Once (b0_l1Once (b0_l1Once (b0_l1Once (b0_l1Once c (2)) (2)) (2)) (2)) (2)) (4)))), D.int i64 (v0_l1Below (b0_l6DrawRight (b0_l1Below (b0_l1Once (b0_l1Once (b0_l1Once (b0_l1Once (b0_l1Once c (2)) (2)) (2)) (2)) (2)) (4))) (9))]], [[D.sl false 1 (TL1Cur.b (b0_l1Below (b0_l1Below (b0_l6DrawRight (b0_l1Below (b0_l1Once (b0_l1Once (b0_l1Once (b0_l1Once (b0_l1Once c (2)) (2)) (2)) (2)) (2)) (4))) (9)) (10))), D.int i64 (TL1Cur.i (b0_l1Below (b0_l1Below (b0_l6DrawRight (b0_l1Below (b0_l1Once (b0_l1Once (b0_l1Once (b0_l1Once (b0_l1Once c (2)) (2)) (2)) (2)) (2)) (4))) (9)) (10))), D.int i64 (TL1Cur.h (b0_l1Below (b0_l1Below (b0_l6DrawRight (b0_l1Below (b0_l1Once (b0_l1Once (b0_l1Once (b0_l1Once (b0_l1Once c (2)) (2)) (2)) (2)) (2)) (4))) (9)) (10)))]]) else none else none else none else none else none else none else none else none else none := by kernel_rfl
def G_l19Draw (c : TL1Cur) (r : Option (List Row × List Row)) : Prop := ∃ x : Bpdu × TL1Cur, r = some ([[.bool x.1.Change, .bool x.1.Ask, .bool x.1.Agree, .bool x.1.Learn, .bool x.1.Open, .int .i64 x.1.Role, .int .i64 x.1.Vec.Root, .int .i64 x.1.Vec.Cost, .int .i64 x.1.Vec.Bridge, .int .i64 x.1.Vec.Port, .int .i64 x.1.Hops]], [[.sl false 1 x.2.b, .int .i64 x.2.i, .int .i64 x.2.h]]) ∧ (curOk x.2 = true)
theorem leaf_l19Draw (c : TL1Cur) {z0_Change : Bool} {z0_Ask : Bool} {z0_Agree : Bool} {z0_Learn : Bool} {z0_Open : Bool} {z0_Role : Int} {z0_Vec_Root : Int} {z0_Vec_Cost : Int} {z0_Vec_Bridge : Int} {z0_Vec_Port : Int} {z0_Hops : Int} {z1_b : List (List D)} {z1_i : Int} {z1_h : Int} (h : curOk (⟨z1_b, z1_i, z1_h⟩ : TL1Cur) = true) : G_l19Draw c (some ([[.bool z0_Change, .bool z0_Ask, .bool z0_Agree, .bool z0_Learn, .bool z0_Open, .int .i64 z0_Role, .int .i64 z0_Vec_Root, .int .i64 z0_Vec_Cost, .int .i64 z0_Vec_Bridge, .int .i64 z0_Vec_Port, .int .i64 z0_Hops]], [[.sl false 1 z1_b, .int .i64 z1_i, .int .i64 z1_h]])) := ⟨(⟨z0_Change, z0_Ask, z0_Agree, z0_Learn, z0_Open, z0_Role, ⟨z0_Vec_Root, z0_Vec_Cost, z0_Vec_Bridge, z0_Vec_Port⟩, z0_Hops⟩, ⟨z1_b, z1_i, z1_h⟩), rfl, h⟩
theorem e_l19Draw (c : TL1Cur) (hpre : (o68 c).1 = true) : ∃ x, P_l19Draw c x := by
  show G_l19Draw c _
  refine Eq.mpr (congrArg (G_l19Draw c) (r68 c _)) ?_
  replace hpre : (curOk c) = true := hpre
  repeat' first | refine leaf_l19Draw _  ?_ | refine g_pre ?_ ?_ | refine g_if (fun _ => ?_) (fun _ => ?_)
  all_goals simp (maxDischargeDepth := 60) [TL1Cur.eta, isS_int_cons, isS_nil, deS, List.map_cons, List.map_nil, List.length_cons, List.length_nil, k_l1Byte, k_l1Below, k_l1Once, k_l1PickInt, k_l6DrawRight, k_l6Draw, hpre]
theorem p_l19Draw (c : TL1Cur) (hpre : (o68 c).1 = true) : curOk (b0_l19Draw c) = true := (Classical.epsilon_spec (e_l19Draw c hpre)).2
theorem k_l19Draw (c : TL1Cur) (hpre : (curOk c) = true) : curOk (b0_l19Draw c) = true := (p_l19Draw c hpre)
theorem m68 (c : TL1Cur) (hpre : (o68 c).1 = true) : evFn ⟨Go.Proofs.Try.prog, Hx, 68⟩ T94.call 0 f68 [[.sl false 1 c.b, .int .i64 c.i, .int .i64 c.h]] = some (o68 c).2 := (Classical.epsilon_spec (e_l19Draw c hpre)).1
theorem s68 : SoundAt Go.Proofs.Try.prog Hx 68 c68 := soundAt_of T94_sound mixed func68 (by kernel_rfl) (by
  intro rows r h
  unfold c68 at h
  split at h
  · rename_i c_b c_i c_h
    obtain ⟨hp, hr⟩ := Prod.mk.inj (Option.some.inj h)
    subst hr
    exact ⟨_, m68 ⟨c_b, c_i, c_h⟩ hp⟩
  · cases h)
def T68 : Table := (68, c68) :: T94
theorem T68_sound : Table.Sound Go.Proofs.Try.prog Hx T68 := Table.sound_cons s68 T94_sound
end Go.Ev
namespace Go.Md
open Go Go.Ev
def P_DrawBpduOk (code : List UInt8) (x : Bpdu) : Prop := evFn ⟨Go.Proofs.Try.prog, Hx, 33⟩ T68.call (20 + code.length) f33 [[.sl false 1 (enS false code)]] = some ([[.bool x.Change, .bool x.Ask, .bool x.Agree, .bool x.Learn, .bool x.Open, .int .i64 x.Role, .int .i64 x.Vec.Root, .int .i64 x.Vec.Cost, .int .i64 x.Vec.Bridge, .int .i64 x.Vec.Port, .int .i64 x.Hops]], []) ∧ (True)
noncomputable def w_DrawBpduOk (code : List UInt8) : Bpdu := @Classical.epsilon (Bpdu) ⟨⟨false, false, false, false, false, 0, ⟨0, 0, 0, 0⟩, 0⟩⟩ (P_DrawBpduOk code)
noncomputable def v0_DrawBpduOk (code : List UInt8) : Bpdu := (w_DrawBpduOk code)
end Go.Md
namespace Go.Ev
open Go.Md
def o33 (code : List UInt8) : Bool × List Row × List Row := (decide (code.length ≤ 1048576), [[.bool (v0_DrawBpduOk code).Change, .bool (v0_DrawBpduOk code).Ask, .bool (v0_DrawBpduOk code).Agree, .bool (v0_DrawBpduOk code).Learn, .bool (v0_DrawBpduOk code).Open, .int .i64 (v0_DrawBpduOk code).Role, .int .i64 (v0_DrawBpduOk code).Vec.Root, .int .i64 (v0_DrawBpduOk code).Vec.Cost, .int .i64 (v0_DrawBpduOk code).Vec.Bridge, .int .i64 (v0_DrawBpduOk code).Vec.Port, .int .i64 (v0_DrawBpduOk code).Hops]], [])
def c33 : Contract
  | [[.sl false 1 code]] => some (isS UInt8 false code && (o33 (deS UInt8 code)).1, (o33 (deS UInt8 code)).2.1, (o33 (deS UInt8 code)).2.2)
  | _ => none

theorem r33 (code : List UInt8) (n : Nat) : evFn ⟨prog, Hx, 33⟩ T68.call n f33 [[.sl false 1 (enS false code)]] = bif isS UInt8 false (enS false code) && decide (length (deS UInt8 (enS false code)) ≤ 1048576) then bif curOk (v0_l1New (deS UInt8 (enS false code))) then some ([En.enc true (v0_l19Draw (v0_l1New (deS UInt8 (enS false code))))], []) else none else none := by kernel_rfl
def G_DrawBpduOk (code : List UInt8) (r : Option (List Row × List Row)) : Prop := ∃ x : Bpdu, r = some ([[.bool x.Change, .bool x.Ask, .bool x.Agree, .bool x.Learn, .bool x.Open, .int .i64 x.Role, .int .i64 x.Vec.Root, .int .i64 x.Vec.Cost, .int .i64 x.Vec.Bridge, .int .i64 x.Vec.Port, .int .i64 x.Hops]], []) ∧ (True)
theorem leaf_DrawBpduOk (code : List UInt8) {z0_Change : Bool} {z0_Ask : Bool} {z0_Agree : Bool} {z0_Learn : Bool} {z0_Open : Bool} {z0_Role : Int} {z0_Vec_Root : Int} {z0_Vec_Cost : Int} {z0_Vec_Bridge : Int} {z0_Vec_Port : Int} {z0_Hops : Int} (h : True) : G_DrawBpduOk code (some ([[.bool z0_Change, .bool z0_Ask, .bool z0_Agree, .bool z0_Learn, .bool z0_Open, .int .i64 z0_Role, .int .i64 z0_Vec_Root, .int .i64 z0_Vec_Cost, .int .i64 z0_Vec_Bridge, .int .i64 z0_Vec_Port, .int .i64 z0_Hops]], [])) := ⟨⟨z0_Change, z0_Ask, z0_Agree, z0_Learn, z0_Open, z0_Role, ⟨z0_Vec_Root, z0_Vec_Cost, z0_Vec_Bridge, z0_Vec_Port⟩, z0_Hops⟩, rfl, h⟩
theorem e_DrawBpduOk (code : List UInt8) (hpre : (o33 code).1 = true) : ∃ x, P_DrawBpduOk code x := by
  show G_DrawBpduOk code _
  refine Eq.mpr (congrArg (G_DrawBpduOk code) (r33 code _)) ?_
  replace hpre : (decide (code.length ≤ 1048576)) = true := hpre
  simp only [isS_enS, deS_enS, Bool.true_and]
  have hc := p_l1New code hpre
  repeat' first | refine leaf_DrawBpduOk _  ?_ | refine g_pre ?_ ?_ | refine g_if (fun _ => ?_) (fun _ => ?_)
  all_goals simp (maxDischargeDepth := 60) [TL1Cur.eta, isS_int_cons, isS_nil, deS, List.map_cons, List.map_nil, List.length_cons, List.length_nil, k_l1Byte, k_l1Below, k_l1Once, k_l1PickInt, k_l6DrawRight, k_l6Draw, k_l19Draw, hpre, hc, of_decide_eq_true hpre]
theorem p_DrawBpduOk (code : List UInt8) (hpre : (o33 code).1 = true) : True := (Classical.epsilon_spec (e_DrawBpduOk code hpre)).2
theorem m33 (code : List UInt8) (hpre : (o33 code).1 = true) : evFn ⟨Go.Proofs.Try.prog, Hx, 33⟩ T68.call (20 + code.length) f33 [[.sl false 1 (enS false code)]] = some (o33 code).2 := (Classical.epsilon_spec (e_DrawBpduOk code hpre)).1
theorem s33 : SoundAt Go.Proofs.Try.prog Hx 33 c33 := soundAt_of T68_sound mixed func33 (by kernel_rfl) (by
  intro rows r h
  unfold c33 at h
  split at h
  · rename_i code
    obtain ⟨hp, hr⟩ := Prod.mk.inj (Option.some.inj h)
    subst hr
    simp only [Bool.and_eq_true] at hp
    obtain ⟨hs0, hp⟩ := hp
    obtain ⟨xs0, rfl⟩ := isS_ex hs0
    simp only [deS_enS] at hp ⊢
    exact ⟨_, m33 xs0 hp⟩
  · cases h)
def T33 : Table := (33, c33) :: T68
theorem T33_sound : Table.Sound Go.Proofs.Try.prog Hx T33 := Table.sound_cons s33 T68_sound
end Go.Ev
namespace Go.Md
open Go Go.Ev
def P_DrawFlagsOf (code : List UInt8) (x : Bpdu) : Prop := evFn ⟨Go.Proofs.Try.prog, Hx, 34⟩ T33.call (20 + code.length) f34 [[.sl false 1 (enS false code)]] = some ([[.bool x.Change, .bool x.Ask, .bool x.Agree, .bool x.Learn, .bool x.Open, .int .i64 x.Role, .int .i64 x.Vec.Root, .int .i64 x.Vec.Cost, .int .i64 x.Vec.Bridge, .int .i64 x.Vec.Port, .int .i64 x.Hops]], []) ∧ (True)
noncomputable def w_DrawFlagsOf (code : List UInt8) : Bpdu := @Classical.epsilon (Bpdu) ⟨⟨false, false, false, false, false, 0, ⟨0, 0, 0, 0⟩, 0⟩⟩ (P_DrawFlagsOf code)
noncomputable def v0_DrawFlagsOf (code : List UInt8) : Bpdu := (w_DrawFlagsOf code)
end Go.Md
namespace Go.Ev
open Go.Md
def o34 (code : List UInt8) : Bool × List Row × List Row := (decide (code.length ≤ 1048576), [[.bool (v0_DrawFlagsOf code).Change, .bool (v0_DrawFlagsOf code).Ask, .bool (v0_DrawFlagsOf code).Agree, .bool (v0_DrawFlagsOf code).Learn, .bool (v0_DrawFlagsOf code).Open, .int .i64 (v0_DrawFlagsOf code).Role, .int .i64 (v0_DrawFlagsOf code).Vec.Root, .int .i64 (v0_DrawFlagsOf code).Vec.Cost, .int .i64 (v0_DrawFlagsOf code).Vec.Bridge, .int .i64 (v0_DrawFlagsOf code).Vec.Port, .int .i64 (v0_DrawFlagsOf code).Hops]], [])
def c34 : Contract
  | [[.sl false 1 code]] => some (isS UInt8 false code && (o34 (deS UInt8 code)).1, (o34 (deS UInt8 code)).2.1, (o34 (deS UInt8 code)).2.2)
  | _ => none

theorem r34 (code : List UInt8) (n : Nat) : evFn ⟨prog, Hx, 34⟩ T33.call n f34 [[.sl false 1 (enS false code)]] = bif isS UInt8 false (enS false code) && decide (length (deS UInt8 (enS false code)) ≤ 1048576) then bif curOk (v0_l1New (deS UInt8 (enS false code))) then some ([En.enc true (v0_l19Draw (v0_l1New (deS UInt8 (enS false code))))], []) else none else none := by kernel_rfl
def G_DrawFlagsOf (code : List UInt8) (r : Option (List Row × List Row)) : Prop := ∃ x : Bpdu, r = some ([[.bool x.Change, .bool x.Ask, .bool x.Agree, .bool x.Learn, .bool x.Open, .int .i64 x.Role, .int .i64 x.Vec.Root, .int .i64 x.Vec.Cost, .int .i64 x.Vec.Bridge, .int .i64 x.Vec.Port, .int .i64 x.Hops]], []) ∧ (True)
theorem leaf_DrawFlagsOf (code : List UInt8) {z0_Change : Bool} {z0_Ask : Bool} {z0_Agree : Bool} {z0_Learn : Bool} {z0_Open : Bool} {z0_Role : Int} {z0_Vec_Root : Int} {z0_Vec_Cost : Int} {z0_Vec_Bridge : Int} {z0_Vec_Port : Int} {z0_Hops : Int} (h : True) : G_DrawFlagsOf code (some ([[.bool z0_Change, .bool z0_Ask, .bool z0_Agree, .bool z0_Learn, .bool z0_Open, .int .i64 z0_Role, .int .i64 z0_Vec_Root, .int .i64 z0_Vec_Cost, .int .i64 z0_Vec_Bridge, .int .i64 z0_Vec_Port, .int .i64 z0_Hops]], [])) := ⟨⟨z0_Change, z0_Ask, z0_Agree, z0_Learn, z0_Open, z0_Role, ⟨z0_Vec_Root, z0_Vec_Cost, z0_Vec_Bridge, z0_Vec_Port⟩, z0_Hops⟩, rfl, h⟩
theorem e_DrawFlagsOf (code : List UInt8) (hpre : (o34 code).1 = true) : ∃ x, P_DrawFlagsOf code x := by
  show G_DrawFlagsOf code _
  refine Eq.mpr (congrArg (G_DrawFlagsOf code) (r34 code _)) ?_
  replace hpre : (decide (code.length ≤ 1048576)) = true := hpre
  simp only [isS_enS, deS_enS, Bool.true_and]
  have hc := p_l1New code hpre
  repeat' first | refine leaf_DrawFlagsOf _  ?_ | refine g_pre ?_ ?_ | refine g_if (fun _ => ?_) (fun _ => ?_)
  all_goals simp (maxDischargeDepth := 60) [TL1Cur.eta, isS_int_cons, isS_nil, deS, List.map_cons, List.map_nil, List.length_cons, List.length_nil, k_l1Byte, k_l1Below, k_l1Once, k_l1PickInt, k_l6DrawRight, k_l6Draw, k_l19Draw, hpre, hc, of_decide_eq_true hpre]
theorem p_DrawFlagsOf (code : List UInt8) (hpre : (o34 code).1 = true) : True := (Classical.epsilon_spec (e_DrawFlagsOf code hpre)).2
theorem m34 (code : List UInt8) (hpre : (o34 code).1 = true) : evFn ⟨Go.Proofs.Try.prog, Hx, 34⟩ T33.call (20 + code.length) f34 [[.sl false 1 (enS false code)]] = some (o34 code).2 := (Classical.epsilon_spec (e_DrawFlagsOf code hpre)).1
theorem s34 : SoundAt Go.Proofs.Try.prog Hx 34 c34 := soundAt_of T33_sound mixed func34 (by kernel_rfl) (by
  intro rows r h
  unfold c34 at h
  split at h
  · rename_i code
    obtain ⟨hp, hr⟩ := Prod.mk.inj (Option.some.inj h)
    subst hr
    simp only [Bool.and_eq_true] at hp
    obtain ⟨hs0, hp⟩ := hp
    obtain ⟨xs0, rfl⟩ := isS_ex hs0
    simp only [deS_enS] at hp ⊢
    exact ⟨_, m34 xs0 hp⟩
  · cases h)
def T34 : Table := (34, c34) :: T33
theorem T34_sound : Table.Sound Go.Proofs.Try.prog Hx T34 := Table.sound_cons s34 T33_sound
end Go.Ev
namespace Go.Md
open Go Go.Ev
def P_DrawBpduBytes (code : List UInt8) (x : Bpdu) : Prop := evFn ⟨Go.Proofs.Try.prog, Hx, 28⟩ T34.call (20 + code.length) f28 [[.sl false 1 (enS false code)]] = some ([[.bool x.Change, .bool x.Ask, .bool x.Agree, .bool x.Learn, .bool x.Open, .int .i64 x.Role, .int .i64 x.Vec.Root, .int .i64 x.Vec.Cost, .int .i64 x.Vec.Bridge, .int .i64 x.Vec.Port, .int .i64 x.Hops]], []) ∧ (True)
noncomputable def w_DrawBpduBytes (code : List UInt8) : Bpdu := @Classical.epsilon (Bpdu) ⟨⟨false, false, false, false, false, 0, ⟨0, 0, 0, 0⟩, 0⟩⟩ (P_DrawBpduBytes code)
noncomputable def v0_DrawBpduBytes (code : List UInt8) : Bpdu := (w_DrawBpduBytes code)
end Go.Md
namespace Go.Ev
open Go.Md
def o28 (code : List UInt8) : Bool × List Row × List Row := (decide (code.length ≤ 1048576), [[.bool (v0_DrawBpduBytes code).Change, .bool (v0_DrawBpduBytes code).Ask, .bool (v0_DrawBpduBytes code).Agree, .bool (v0_DrawBpduBytes code).Learn, .bool (v0_DrawBpduBytes code).Open, .int .i64 (v0_DrawBpduBytes code).Role, .int .i64 (v0_DrawBpduBytes code).Vec.Root, .int .i64 (v0_DrawBpduBytes code).Vec.Cost, .int .i64 (v0_DrawBpduBytes code).Vec.Bridge, .int .i64 (v0_DrawBpduBytes code).Vec.Port, .int .i64 (v0_DrawBpduBytes code).Hops]], [])
def c28 : Contract
  | [[.sl false 1 code]] => some (isS UInt8 false code && (o28 (deS UInt8 code)).1, (o28 (deS UInt8 code)).2.1, (o28 (deS UInt8 code)).2.2)
  | _ => none

theorem r28 (code : List UInt8) (n : Nat) : evFn ⟨prog, Hx, 28⟩ T34.call n f28 [[.sl false 1 (enS false code)]] = bif isS UInt8 false (enS false code) && decide (length (deS UInt8 (enS false code)) ≤ 1048576) then bif curOk (v0_l1New (deS UInt8 (enS false code))) then some ([En.enc true (v0_l19Draw (v0_l1New (deS UInt8 (enS false code))))], []) else none else none := by kernel_rfl
def G_DrawBpduBytes (code : List UInt8) (r : Option (List Row × List Row)) : Prop := ∃ x : Bpdu, r = some ([[.bool x.Change, .bool x.Ask, .bool x.Agree, .bool x.Learn, .bool x.Open, .int .i64 x.Role, .int .i64 x.Vec.Root, .int .i64 x.Vec.Cost, .int .i64 x.Vec.Bridge, .int .i64 x.Vec.Port, .int .i64 x.Hops]], []) ∧ (True)
theorem leaf_DrawBpduBytes (code : List UInt8) {z0_Change : Bool} {z0_Ask : Bool} {z0_Agree : Bool} {z0_Learn : Bool} {z0_Open : Bool} {z0_Role : Int} {z0_Vec_Root : Int} {z0_Vec_Cost : Int} {z0_Vec_Bridge : Int} {z0_Vec_Port : Int} {z0_Hops : Int} (h : True) : G_DrawBpduBytes code (some ([[.bool z0_Change, .bool z0_Ask, .bool z0_Agree, .bool z0_Learn, .bool z0_Open, .int .i64 z0_Role, .int .i64 z0_Vec_Root, .int .i64 z0_Vec_Cost, .int .i64 z0_Vec_Bridge, .int .i64 z0_Vec_Port, .int .i64 z0_Hops]], [])) := ⟨⟨z0_Change, z0_Ask, z0_Agree, z0_Learn, z0_Open, z0_Role, ⟨z0_Vec_Root, z0_Vec_Cost, z0_Vec_Bridge, z0_Vec_Port⟩, z0_Hops⟩, rfl, h⟩
theorem e_DrawBpduBytes (code : List UInt8) (hpre : (o28 code).1 = true) : ∃ x, P_DrawBpduBytes code x := by
  show G_DrawBpduBytes code _
  refine Eq.mpr (congrArg (G_DrawBpduBytes code) (r28 code _)) ?_
  replace hpre : (decide (code.length ≤ 1048576)) = true := hpre
  simp only [isS_enS, deS_enS, Bool.true_and]
  have hc := p_l1New code hpre
  repeat' first | refine leaf_DrawBpduBytes _  ?_ | refine g_pre ?_ ?_ | refine g_if (fun _ => ?_) (fun _ => ?_)
  all_goals simp (maxDischargeDepth := 60) [TL1Cur.eta, isS_int_cons, isS_nil, deS, List.map_cons, List.map_nil, List.length_cons, List.length_nil, k_l1Byte, k_l1Below, k_l1Once, k_l1PickInt, k_l6DrawRight, k_l6Draw, k_l19Draw, hpre, hc, of_decide_eq_true hpre]
theorem p_DrawBpduBytes (code : List UInt8) (hpre : (o28 code).1 = true) : True := (Classical.epsilon_spec (e_DrawBpduBytes code hpre)).2
theorem m28 (code : List UInt8) (hpre : (o28 code).1 = true) : evFn ⟨Go.Proofs.Try.prog, Hx, 28⟩ T34.call (20 + code.length) f28 [[.sl false 1 (enS false code)]] = some (o28 code).2 := (Classical.epsilon_spec (e_DrawBpduBytes code hpre)).1
theorem s28 : SoundAt Go.Proofs.Try.prog Hx 28 c28 := soundAt_of T34_sound mixed func28 (by kernel_rfl) (by
  intro rows r h
  unfold c28 at h
  split at h
  · rename_i code
    obtain ⟨hp, hr⟩ := Prod.mk.inj (Option.some.inj h)
    subst hr
    simp only [Bool.and_eq_true] at hp
    obtain ⟨hs0, hp⟩ := hp
    obtain ⟨xs0, rfl⟩ := isS_ex hs0
    simp only [deS_enS] at hp ⊢
    exact ⟨_, m28 xs0 hp⟩
  · cases h)
def T28 : Table := (28, c28) :: T34
theorem T28_sound : Table.Sound Go.Proofs.Try.prog Hx T28 := Table.sound_cons s28 T34_sound
end Go.Ev
namespace Go.Md
open Go Go.Ev
theorem bpdu_le (b : Bpdu) : (bpduBs b).length ≤ 36 := by
  unfold bpduBs
  cases bpduOk b
  · exact Nat.zero_le _
  · exact Nat.le_refl _
theorem set_byte (o : Bool) (xs : List UInt8) (i : Nat) (x : Int) : List.set (enS o xs) i [D.int .u8 (IntKind.wrap .u8 x)] = enS o (xs.set i (u8 x)) := by
  rw [← enS_set, u8_enc]
end Go.Md
namespace Go.Ev
open Go.Md
end Go.Ev
namespace Go.Md
open Go Go.Ev
def P_DrawBpduOf (code : List UInt8) (x : (List UInt8)) : Prop := evFn ⟨Go.Proofs.Try.prog, Hx, 30⟩ T28.call (60 + code.length) f30 [[.sl false 1 (enS false code)]] = some ([[.sl true 1 (enS true x)]], []) ∧ (x.length ≤ 100)
noncomputable def w_DrawBpduOf (code : List UInt8) : (List UInt8) := @Classical.epsilon ((List UInt8)) ⟨[]⟩ (P_DrawBpduOf code)
noncomputable def v0_DrawBpduOf (code : List UInt8) : List UInt8 := (w_DrawBpduOf code)
end Go.Md
namespace Go.Ev
open Go.Md
def o30 (code : List UInt8) : Bool × List Row × List Row := (decide (code.length ≤ 1048576), [[.sl true 1 (enS true (v0_DrawBpduOf code))]], [])
def c30 : Contract
  | [[.sl false 1 code]] => some (isS UInt8 false code && (o30 (deS UInt8 code)).1, (o30 (deS UInt8 code)).2.1, (o30 (deS UInt8 code)).2.2)
  | _ => none

theorem r30 (code : List UInt8) (n : Nat) : evFn ⟨prog, Hx, 30⟩ T28.call n f30 [[.sl false 1 (enS false code)]] = bif isS UInt8 false (enS false code) && decide (length (deS UInt8 (enS false code)) ≤ 1048576) then bif curOk (v0_l1New (deS UInt8 (enS false code))) then bif curOk (b0_l19Draw (v0_l1New (deS UInt8 (enS false code)))) then bif v0_l1Below (b0_l19Draw (v0_l1New (deS UInt8 (enS false code)))) (5) == 0 then bif curOk (b0_l1Below (b0_l19Draw (v0_l1New (deS UInt8 (enS false code)))) (5)) then bif decide (0 ≤ v0_l1Below (b0_l1Below (b0_l19Draw (v0_l1New (deS UInt8 (enS false code)))) (5)) (wrap i64 (ofNat (length (enS true (bpduBs (v0_l19Draw (v0_l1New (deS UInt8 (enS false code))))))) + 1))) && decide (v0_l1Below (b0_l1Below (b0_l19Draw (v0_l1New (deS UInt8 (enS false code)))) (5)) (wrap i64 (ofNat (length (enS true (bpduBs (v0_l19Draw (v0_l1New (deS UInt8 (enS false code))))))) + 1)) ≤ ofNat (length (enS true (bpduBs (v0_l19Draw (v0_l1New (deS UInt8 (enS false code)))))))) then some ([[D.sl true 1 (take (toNat (v0_l1Below (b0_l1Below (b0_l19Draw (v0_l1New (deS UInt8 (enS false code)))) (5)) (wrap i64 (ofNat (length (enS true (bpduBs (v0_l19Draw (v0_l1New (deS UInt8 (enS false code))))))) + 1)) - 0)) (enS true (bpduBs (v0_l19Draw (v0_l1New (deS UInt8 (enS false code)))))))]], []) else none else none else bif v0_l1Below (b0_l19Draw (v0_l1New (deS UInt8 (enS false code)))) (5) == 1 then bif decide (ofNat (length (enS true (bpduBs (v0_l19Draw (v0_l1New (deS UInt8 (enS false code))))))) > 0) then bif curOk (b0_l1Below (b0_l19Draw (v0_l1New (deS UInt8 (enS false code)))) (5)) then bif isS Int true [[D.int i64 (0)], [D.int i64 (1)], [D.int i64 (2)], [D.int i64 (128)], [D.int i64 (255)]] && (curOk (b0_l1Below (b0_l1Below (b0_l19Draw (v0_l1New (deS UInt8 (enS false code)))) (5)) (ofNat (length (enS true (bpduBs (v0_l19Draw (v0_l1New (deS UInt8 (enS false code))))))))) && (decide (0 < length (deS Int [[D.int i64 (0)], [D.int i64 (1)], [D.int i64 (2)], [D.int i64 (128)], [D.int i64 (255)]])) && decide (length (deS Int [[D.int i64 (0)], [D.int i64 (1)], [D.int i64 (2)], [D.int i64 (128)], [D.int i64 (255)]]) ≤ 1048576))) then bif decide (0 ≤ v0_l1Below (b0_l1Below (b0_l19Draw (v0_l1New (deS UInt8 (enS false code)))) (5)) (ofNat (length (enS true (bpduBs (v0_l19Draw (v0_l1New (deS UInt8 (enS false code))))))))) && decide (v0_l1Below (b0_l1Below (b0_l19Draw (v0_l1New (deS UInt8 (enS false code)))) (5)) (ofNat (length (enS true (bpduBs (v0_l19Draw (v0_l1New (deS UInt8 (enS false code)))))))) < ofNat (length (enS true (bpduBs (v0_l19Draw (v0_l1New (deS UInt8 (enS false code)))))))) then some ([[D.sl true 1 (set (enS true (bpduBs (v0_l19Draw (v0_l1New (deS UInt8 (enS false code)))))) (0 + toNat (v0_l1Below (b0_l1Below (b0_l19Draw (v0_l1New (deS UInt8 (enS false code)))) (5)) (ofNat (length (enS true (bpduBs (v0_l19Draw (v0_l1New (deS UInt8 (enS false code)))))))))) [D.int IntKind.u8 (wrap IntKind.u8 (v0_l1PickInt (b0_l1Below (b0_l1Below (b0_l19Draw (v0_l1New (deS UInt8 (enS false code)))) (5)) (ofNat (length (enS true (bpduBs (v0_l19Draw (v0_l1New (deS UInt8 (enS false code))))))))) (deS Int [[D.int i64 (0)], [D.int i64 (1)], [D.int i64 (2)], [D.int i64 (128)], [D.int i64 (255)]])))])]], []) else none else none else none else some ([[D.sl true 1 (enS true (bpduBs (v0_l19Draw (v0_l1New (deS UInt8 (enS false code))))))]], []) else some ([[D.sl true 1 (enS true (bpduBs (v0_l19Draw (v0_l1New (deS UInt8 (enS false code))))))]], []) else none else none else none := by kernel_rfl
def G_DrawBpduOf (code : List UInt8) (r : Option (List Row × List Row)) : Prop := ∃ x : (List UInt8), r = some ([[.sl true 1 (enS true x)]], []) ∧ (x.length ≤ 100)
theorem leaf_DrawBpduOf (code : List UInt8) {z0 : List UInt8} (h : (z0 : List UInt8).length ≤ 100) : G_DrawBpduOf code (some ([[.sl true 1 (enS true z0)]], [])) := ⟨z0, rfl, h⟩
theorem e_DrawBpduOf (code : List UInt8) (hpre : (o30 code).1 = true) : ∃ x, P_DrawBpduOf code x := by
  show G_DrawBpduOf code _
  refine Eq.mpr (congrArg (G_DrawBpduOf code) (r30 code _)) ?_
  replace hpre : (decide (code.length ≤ 1048576)) = true := hpre
  simp only [isS_enS, deS_enS, Bool.true_and]
  have hc := p_l1New code hpre
  have k1 := k_l19Draw _ hc
  have k2 := k_l1Below _ 5 k1
  have hB := bpdu_le (v0_l19Draw (v0_l1New code))
  simp only [enS_length]
  generalize bpduBs (v0_l19Draw (v0_l1New code)) = B at hB ⊢
  refine g_pre hpre (g_pre hc (g_pre k1 (g_if (fun _ => g_pre k2 ?_) (fun _ => g_if (fun _ => g_if (fun h => ?_) (fun _ => ?_)) (fun _ => ?_)))))
  · rw [wrap_sm (show -4611686018427387904 ≤ Int.ofNat B.length + 1 by show _ ≤ (B.length : Int) + 1; omega) (by show (B.length : Int) + 1 ≤ _; omega)]
    have y := (p_l1Below (b0_l1Below (b0_l19Draw (v0_l1New code)) 5) (Int.ofNat B.length + 1) k2).1
    generalize v0_l1Below (b0_l1Below (b0_l19Draw (v0_l1New code)) 5) (Int.ofNat B.length + 1) = v at y ⊢
    obtain ⟨y1, y2⟩ := y
    have y2 : v < (B.length : Int) + 1 := y2 (by show (0 : Int) < (B.length : Int) + 1; omega)
    refine g_pre (by rw [decide_eq_true y1, decide_eq_true (show v ≤ Int.ofNat B.length by show v ≤ (B.length : Int); omega)]; rfl) ?_
    rw [enS_take]
    refine leaf_DrawBpduOf _  ?_
    rw [List.length_take]
    omega
  · have h0 : 0 < B.length := by have := of_decide_eq_true h; exact Int.ofNat_lt.1 this
    have y := p_l1Below (b0_l1Below (b0_l19Draw (v0_l1New code)) 5) (Int.ofNat B.length) k2
    have y3 := y.2
    simp only [Int.ofNat_eq_natCast] at y3
    refine g_pre k2 (g_pre (by simp (maxDischargeDepth := 60) [TL1Cur.eta, isS_int_cons, isS_nil, deS, List.map_cons, List.map_nil, List.length_cons, List.length_nil, k_l1Byte, k_l1Below, k_l1Once, k_l1PickInt, k_l6DrawRight, k_l6Draw, k_l19Draw, y3]) ?_)
    have y2 := y.1.2 (by show (0 : Int) < (B.length : Int); omega)
    refine g_pre (by rw [decide_eq_true y.1.1, decide_eq_true y2]; rfl) ?_
    rw [set_byte]
    refine leaf_DrawBpduOf _  ?_
    rw [List.length_set]
    omega
  · refine leaf_DrawBpduOf _  ?_
    omega
  · refine leaf_DrawBpduOf _  ?_
    omega
theorem p_DrawBpduOf (code : List UInt8) (hpre : (o30 code).1 = true) : (v0_DrawBpduOf code).length ≤ 100 := (Classical.epsilon_spec (e_DrawBpduOf code hpre)).2
theorem m30 (code : List UInt8) (hpre : (o30 code).1 = true) : evFn ⟨Go.Proofs.Try.prog, Hx, 30⟩ T28.call (60 + code.length) f30 [[.sl false 1 (enS false code)]] = some (o30 code).2 := (Classical.epsilon_spec (e_DrawBpduOf code hpre)).1
theorem s30 : SoundAt Go.Proofs.Try.prog Hx 30 c30 := soundAt_of T28_sound mixed func30 (by kernel_rfl) (by
  intro rows r h
  unfold c30 at h
  split at h
  · rename_i code
    obtain ⟨hp, hr⟩ := Prod.mk.inj (Option.some.inj h)
    subst hr
    simp only [Bool.and_eq_true] at hp
    obtain ⟨hs0, hp⟩ := hp
    obtain ⟨xs0, rfl⟩ := isS_ex hs0
    simp only [deS_enS] at hp ⊢
    exact ⟨_, m30 xs0 hp⟩
  · cases h)
def T30 : Table := (30, c30) :: T28
theorem T30_sound : Table.Sound Go.Proofs.Try.prog Hx T30 := Table.sound_cons s30 T28_sound
end Go.Ev
namespace Go.Md
open Go Go.Ev
def P_DrawClaimIn (code : List UInt8) (x : Bpdu × Int) : Prop := evFn ⟨Go.Proofs.Try.prog, Hx, 35⟩ T30.call (20 + code.length) f35 [[.sl false 1 (enS false code)]] = some ([[.bool x.1.Change, .bool x.1.Ask, .bool x.1.Agree, .bool x.1.Learn, .bool x.1.Open, .int .i64 x.1.Role, .int .i64 x.1.Vec.Root, .int .i64 x.1.Vec.Cost, .int .i64 x.1.Vec.Bridge, .int .i64 x.1.Vec.Port, .int .i64 x.1.Hops], [.int .i64 x.2]], []) ∧ (True)
noncomputable def w_DrawClaimIn (code : List UInt8) : Bpdu × Int := @Classical.epsilon (Bpdu × Int) ⟨(⟨false, false, false, false, false, 0, ⟨0, 0, 0, 0⟩, 0⟩, 0)⟩ (P_DrawClaimIn code)
noncomputable def v0_DrawClaimIn (code : List UInt8) : Bpdu := (w_DrawClaimIn code).1
noncomputable def v1_DrawClaimIn (code : List UInt8) : Int := (w_DrawClaimIn code).2
end Go.Md
namespace Go.Ev
open Go.Md
def o35 (code : List UInt8) : Bool × List Row × List Row := (decide (code.length ≤ 1048576), [[.bool (v0_DrawClaimIn code).Change, .bool (v0_DrawClaimIn code).Ask, .bool (v0_DrawClaimIn code).Agree, .bool (v0_DrawClaimIn code).Learn, .bool (v0_DrawClaimIn code).Open, .int .i64 (v0_DrawClaimIn code).Role, .int .i64 (v0_DrawClaimIn code).Vec.Root, .int .i64 (v0_DrawClaimIn code).Vec.Cost, .int .i64 (v0_DrawClaimIn code).Vec.Bridge, .int .i64 (v0_DrawClaimIn code).Vec.Port, .int .i64 (v0_DrawClaimIn code).Hops], [.int .i64 (v1_DrawClaimIn code)]], [])
def c35 : Contract
  | [[.sl false 1 code]] => some (isS UInt8 false code && (o35 (deS UInt8 code)).1, (o35 (deS UInt8 code)).2.1, (o35 (deS UInt8 code)).2.2)
  | _ => none

theorem r35 (code : List UInt8) (n : Nat) : evFn ⟨prog, Hx, 35⟩ T30.call n f35 [[.sl false 1 (enS false code)]] = bif isS UInt8 false (enS false code) && decide (length (deS UInt8 (enS false code)) ≤ 1048576) then bif curOk (v0_l1New (deS UInt8 (enS false code))) then bif curOk (b0_l19Draw (v0_l1New (deS UInt8 (enS false code)))) then some ([En.enc true (v0_l19Draw (v0_l1New (deS UInt8 (enS false code)))), [D.int i64 (wrap i64 (v0_l1Below (b0_l19Draw (v0_l1New (deS UInt8 (enS false code)))) (6) - 1))]], []) else none else none else none := by kernel_rfl
def G_DrawClaimIn (code : List UInt8) (r : Option (List Row × List Row)) : Prop := ∃ x : Bpdu × Int, r = some ([[.bool x.1.Change, .bool x.1.Ask, .bool x.1.Agree, .bool x.1.Learn, .bool x.1.Open, .int .i64 x.1.Role, .int .i64 x.1.Vec.Root, .int .i64 x.1.Vec.Cost, .int .i64 x.1.Vec.Bridge, .int .i64 x.1.Vec.Port, .int .i64 x.1.Hops], [.int .i64 x.2]], []) ∧ (True)
theorem leaf_DrawClaimIn (code : List UInt8) {z0_Change : Bool} {z0_Ask : Bool} {z0_Agree : Bool} {z0_Learn : Bool} {z0_Open : Bool} {z0_Role : Int} {z0_Vec_Root : Int} {z0_Vec_Cost : Int} {z0_Vec_Bridge : Int} {z0_Vec_Port : Int} {z0_Hops : Int} {z1 : Int} (h : True) : G_DrawClaimIn code (some ([[.bool z0_Change, .bool z0_Ask, .bool z0_Agree, .bool z0_Learn, .bool z0_Open, .int .i64 z0_Role, .int .i64 z0_Vec_Root, .int .i64 z0_Vec_Cost, .int .i64 z0_Vec_Bridge, .int .i64 z0_Vec_Port, .int .i64 z0_Hops], [.int .i64 z1]], [])) := ⟨(⟨z0_Change, z0_Ask, z0_Agree, z0_Learn, z0_Open, z0_Role, ⟨z0_Vec_Root, z0_Vec_Cost, z0_Vec_Bridge, z0_Vec_Port⟩, z0_Hops⟩, z1), rfl, h⟩
theorem e_DrawClaimIn (code : List UInt8) (hpre : (o35 code).1 = true) : ∃ x, P_DrawClaimIn code x := by
  show G_DrawClaimIn code _
  refine Eq.mpr (congrArg (G_DrawClaimIn code) (r35 code _)) ?_
  replace hpre : (decide (code.length ≤ 1048576)) = true := hpre
  simp only [isS_enS, deS_enS, Bool.true_and]
  have hc := p_l1New code hpre
  repeat' first | refine leaf_DrawClaimIn _  ?_ | refine g_pre ?_ ?_ | refine g_if (fun _ => ?_) (fun _ => ?_)
  all_goals simp (maxDischargeDepth := 60) [TL1Cur.eta, isS_int_cons, isS_nil, deS, List.map_cons, List.map_nil, List.length_cons, List.length_nil, k_l1Byte, k_l1Below, k_l1Once, k_l1PickInt, k_l6DrawRight, k_l6Draw, k_l19Draw, hpre, hc, of_decide_eq_true hpre]
theorem p_DrawClaimIn (code : List UInt8) (hpre : (o35 code).1 = true) : True := (Classical.epsilon_spec (e_DrawClaimIn code hpre)).2
theorem m35 (code : List UInt8) (hpre : (o35 code).1 = true) : evFn ⟨Go.Proofs.Try.prog, Hx, 35⟩ T30.call (20 + code.length) f35 [[.sl false 1 (enS false code)]] = some (o35 code).2 := (Classical.epsilon_spec (e_DrawClaimIn code hpre)).1
theorem s35 : SoundAt Go.Proofs.Try.prog Hx 35 c35 := soundAt_of T30_sound mixed func35 (by kernel_rfl) (by
  intro rows r h
  unfold c35 at h
  split at h
  · rename_i code
    obtain ⟨hp, hr⟩ := Prod.mk.inj (Option.some.inj h)
    subst hr
    simp only [Bool.and_eq_true] at hp
    obtain ⟨hs0, hp⟩ := hp
    obtain ⟨xs0, rfl⟩ := isS_ex hs0
    simp only [deS_enS] at hp ⊢
    exact ⟨_, m35 xs0 hp⟩
  · cases h)
def T35 : Table := (35, c35) :: T30
theorem T35_sound : Table.Sound Go.Proofs.Try.prog Hx T35 := Table.sound_cons s35 T30_sound
end Go.Ev
end
