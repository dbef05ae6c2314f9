/- Contracts of functions, each by its evaluation. -/
import Derived.Test.YtkkpblhaeliofaaEvMd
import Derived.Test.YtkkpblhaeliofaaProg
import Derived.KernelRfl
import Derived.Test.YtkkpblhaeliofaaFDraw
set_option linter.unusedVariables false
set_option linter.unusedSimpArgs false
set_option maxRecDepth 100000
noncomputable section
open List (getD length drop take set append replicate all isEmpty)
open Int (toNat ofNat)
open Go.IntKind (i64 wrap)
open Go.Proofs.Try (prog f103 f16 f43 f59 f73 f80 f85 func103 func16 func43 func59 func73 func80 func85)
namespace Go.Ev
open Go.RowKit Go.Md
end Go.Ev
namespace Go.Md
open Go Go.Ev
def P_l6DrawRight (c : TL1Cur) (x : Vec × TL1Cur) : Prop := evFn ⟨Go.Proofs.Try.prog, Hx, 103⟩ T15.call 0 f103 [[.sl false 1 c.b, .int .i64 c.i, .int .i64 c.h]] = some ([[.int .i64 x.1.Root, .int .i64 x.1.Cost, .int .i64 x.1.Bridge, .int .i64 x.1.Port]], [[.sl false 1 x.2.b, .int .i64 x.2.i, .int .i64 x.2.h]]) ∧ (curOk x.2 = true)
noncomputable def w_l6DrawRight (c : TL1Cur) : Vec × TL1Cur := @Classical.epsilon (Vec × TL1Cur) ⟨(⟨0, 0, 0, 0⟩, ⟨[], 0, 0⟩)⟩ (P_l6DrawRight c)
noncomputable def v0_l6DrawRight (c : TL1Cur) : Vec := (w_l6DrawRight c).1
noncomputable def b0_l6DrawRight (c : TL1Cur) : TL1Cur := (w_l6DrawRight c).2
end Go.Md
namespace Go.Ev
open Go.Md
def o103 (c : TL1Cur) : Bool × List Row × List Row := (curOk c, [[.int .i64 (v0_l6DrawRight c).Root, .int .i64 (v0_l6DrawRight c).Cost, .int .i64 (v0_l6DrawRight c).Bridge, .int .i64 (v0_l6DrawRight c).Port]], [[.sl false 1 (b0_l6DrawRight c).b, .int .i64 (b0_l6DrawRight c).i, .int .i64 (b0_l6DrawRight c).h]])
def c103 : Contract
  | [[.sl false 1 c_b, .int .i64 c_i, .int .i64 c_h]] => some ((o103 ⟨c_b, c_i, c_h⟩).1, (o103 ⟨c_b, c_i, c_h⟩).2.1, (o103 ⟨c_b, c_i, c_h⟩).2.2)
  | _ => none

theorem r103 (c : TL1Cur) (n : Nat) : evFn ⟨prog, Hx, 103⟩ T15.call n f103 [[.sl false 1 c.b, .int .i64 c.i, .int .i64 c.h]] = bif curOk c then bif curOk (b0_l1Below c (4)) then bif curOk (b0_l1Below (b0_l1Below c (4)) (4)) then bif decide (wrap i64 (wrap i64 (1 + v0_l1Below c (4)) + v0_l1Below (b0_l1Below (b0_l1Below c (4)) (4)) (3)) > wrap i64 (1 + v0_l1Below c (4))) then bif curOk (b0_l1Below (b0_l1Below (b0_l1Below c (4)) (4)) (3)) then some ([[D.int i64 (wrap i64 (1 + v0_l1Below c (4))), D.int i64 (wrap i64 (1 + v0_l1Below (b0_l1Below (b0_l1Below (b0_l1Below c (4)) (4)) (3)) (3))), D.int i64 (wrap i64 (wrap i64 (1 + v0_l1Below c (4)) + v0_l1Below (b0_l1Below (b0_l1Below c (4)) (4)) (3))), D.int i64 (v0_l1Below (b0_l1Below c (4)) (4))]], [[D.sl false 1 (TL1Cur.b (b0_l1Below (b0_l1Below (b0_l1Below (b0_l1Below c (4)) (4)) (3)) (3))), D.int i64 (TL1Cur.i (b0_l1Below (b0_l1Below (b0_l1Below (b0_l1Below c (4)) (4)) (3)) (3))), D.int i64 (TL1Cur.h (b0_l1Below (b0_l1Below (b0_l1Below (b0_l1Below c (4)) (4)) (3)) (3)))]]) else none else some ([[D.int i64 (wrap i64 (1 + v0_l1Below c (4))), D.int i64 (0), D.int i64 (wrap i64 (wrap i64 (1 + v0_l1Below c (4)) + v0_l1Below (b0_l1Below (b0_l1Below c (4)) (4)) (3))), D.int i64 (v0_l1Below (b0_l1Below c (4)) (4))]], [[D.sl false 1 (TL1Cur.b (b0_l1Below (b0_l1Below (b0_l1Below c (4)) (4)) (3))), D.int i64 (TL1Cur.i (b0_l1Below (b0_l1Below (b0_l1Below c (4)) (4)) (3))), D.int i64 (TL1Cur.h (b0_l1Below (b0_l1Below (b0_l1Below c (4)) (4)) (3)))]]) else none else none else none := by kernel_rfl
def G_l6DrawRight (c : TL1Cur) (r : Option (List Row × List Row)) : Prop := ∃ x : Vec × TL1Cur, r = some ([[.int .i64 x.1.Root, .int .i64 x.1.Cost, .int .i64 x.1.Bridge, .int .i64 x.1.Port]], [[.sl false 1 x.2.b, .int .i64 x.2.i, .int .i64 x.2.h]]) ∧ (curOk x.2 = true)
theorem leaf_l6DrawRight (c : TL1Cur) {z0_Root : Int} {z0_Cost : Int} {z0_Bridge : Int} {z0_Port : Int} {z1_b : List (List D)} {z1_i : Int} {z1_h : Int} (h : curOk (⟨z1_b, z1_i, z1_h⟩ : TL1Cur) = true) : G_l6DrawRight c (some ([[.int .i64 z0_Root, .int .i64 z0_Cost, .int .i64 z0_Bridge, .int .i64 z0_Port]], [[.sl false 1 z1_b, .int .i64 z1_i, .int .i64 z1_h]])) := ⟨(⟨z0_Root, z0_Cost, z0_Bridge, z0_Port⟩, ⟨z1_b, z1_i, z1_h⟩), rfl, h⟩
theorem e_l6DrawRight (c : TL1Cur) (hpre : (o103 c).1 = true) : ∃ x, P_l6DrawRight c x := by
  show G_l6DrawRight c _
  refine Eq.mpr (congrArg (G_l6DrawRight c) (r103 c _)) ?_
  replace hpre : (curOk c) = true := hpre
  repeat' first | refine leaf_l6DrawRight _  ?_ | refine g_pre ?_ ?_ | refine g_if (fun _ => ?_) (fun _ => ?_)
  all_goals simp (maxDischargeDepth := 60) [TL1Cur.eta, isS_int_cons, isS_nil, deS, List.map_cons, List.map_nil, List.length_cons, List.length_nil, k_l1Byte, k_l1Below, k_l1Once, k_l1PickInt, hpre]
theorem p_l6DrawRight (c : TL1Cur) (hpre : (o103 c).1 = true) : curOk (b0_l6DrawRight c) = true := (Classical.epsilon_spec (e_l6DrawRight c hpre)).2
theorem k_l6DrawRight (c : TL1Cur) (hpre : (curOk c) = true) : curOk (b0_l6DrawRight c) = true := (p_l6DrawRight c hpre)
theorem m103 (c : TL1Cur) (hpre : (o103 c).1 = true) : evFn ⟨Go.Proofs.Try.prog, Hx, 103⟩ T15.call 0 f103 [[.sl false 1 c.b, .int .i64 c.i, .int .i64 c.h]] = some (o103 c).2 := (Classical.epsilon_spec (e_l6DrawRight c hpre)).1
theorem s103 : SoundAt Go.Proofs.Try.prog Hx 103 c103 := soundAt_of T15_sound mixed func103 (by kernel_rfl) (by
  intro rows r h
  unfold c103 at h
  split at h
  · rename_i c_b c_i c_h
    obtain ⟨hp, hr⟩ := Prod.mk.inj (Option.some.inj h)
    subst hr
    exact ⟨_, m103 ⟨c_b, c_i, c_h⟩ hp⟩
  · cases h)
def T103 : Table := (103, c103) :: T15
theorem T103_sound : Table.Sound Go.Proofs.Try.prog Hx T103 := Table.sound_cons s103 T15_sound
end Go.Ev
namespace Go.Md
open Go Go.Ev
def P_l6Draw (c : TL1Cur) (x : Vec × TL1Cur) : Prop := evFn ⟨Go.Proofs.Try.prog, Hx, 85⟩ T103.call 0 f85 [[.sl false 1 c.b, .int .i64 c.i, .int .i64 c.h]] = some ([[.int .i64 x.1.Root, .int .i64 x.1.Cost, .int .i64 x.1.Bridge, .int .i64 x.1.Port]], [[.sl false 1 x.2.b, .int .i64 x.2.i, .int .i64 x.2.h]]) ∧ (curOk x.2 = true)
noncomputable def w_l6Draw (c : TL1Cur) : Vec × TL1Cur := @Classical.epsilon (Vec × TL1Cur) ⟨(⟨0, 0, 0, 0⟩, ⟨[], 0, 0⟩)⟩ (P_l6Draw c)
noncomputable def v0_l6Draw (c : TL1Cur) : Vec := (w_l6Draw c).1
noncomputable def b0_l6Draw (c : TL1Cur) : TL1Cur := (w_l6Draw c).2
end Go.Md
namespace Go.Ev
open Go.Md
def o85 (c : TL1Cur) : Bool × List Row × List Row := (curOk c, [[.int .i64 (v0_l6Draw c).Root, .int .i64 (v0_l6Draw c).Cost, .int .i64 (v0_l6Draw c).Bridge, .int .i64 (v0_l6Draw c).Port]], [[.sl false 1 (b0_l6Draw c).b, .int .i64 (b0_l6Draw c).i, .int .i64 (b0_l6Draw c).h]])
def c85 : Contract
  | [[.sl false 1 c_b, .int .i64 c_i, .int .i64 c_h]] => some ((o85 ⟨c_b, c_i, c_h⟩).1, (o85 ⟨c_b, c_i, c_h⟩).2.1, (o85 ⟨c_b, c_i, c_h⟩).2.2)
  | _ => none

theorem r85 (c : TL1Cur) (n : Nat) : evFn ⟨prog, Hx, 85⟩ T103.call n f85 [[.sl false 1 c.b, .int .i64 c.i, .int .i64 c.h]] = bif curOk c then bif curOk (b0_l6DrawRight c) then bif v0_l1Below (b0_l6DrawRight c) (10) == 0 then bif isS Int true [[D.int i64 (0)], [D.int i64 (9)], [D.int i64 (10)]] && (curOk (b0_l1Below (b0_l6DrawRight c) (10)) && (decide (0 < length (deS Int [[D.int i64 (0)], [D.int i64 (9)], [D.int i64 (10)]])) && decide (length (deS Int [[D.int i64 (0)], [D.int i64 (9)], [D.int i64 (10)]]) ≤ 1048576))) then some ([[D.int i64 (v0_l1PickInt (b0_l1Below (b0_l6DrawRight c) (10)) (deS Int [[D.int i64 (0)], [D.int i64 (9)], [D.int i64 (10)]])), D.int i64 (Vec.Cost (v0_l6DrawRight c)), D.int i64 (Vec.Bridge (v0_l6DrawRight c)), D.int i64 (Vec.Port (v0_l6DrawRight c))]], [[D.sl false 1 (TL1Cur.b (b0_l1PickInt (b0_l1Below (b0_l6DrawRight c) (10)) (deS Int [[D.int i64 (0)], [D.int i64 (9)], [D.int i64 (10)]]))), D.int i64 (TL1Cur.i (b0_l1PickInt (b0_l1Below (b0_l6DrawRight c) (10)) (deS Int [[D.int i64 (0)], [D.int i64 (9)], [D.int i64 (10)]]))), D.int i64 (TL1Cur.h (b0_l1PickInt (b0_l1Below (b0_l6DrawRight c) (10)) (deS Int [[D.int i64 (0)], [D.int i64 (9)], [D.int i64 (10)]])))]]) else none else bif v0_l1Below (b0_l6DrawRight c) (10) == 1 then bif isS Int true [[D.int i64 (Int.negSucc 0)], [D.int i64 (0)], [D.int i64 (20)], [D.int i64 (21)]] && (curOk (b0_l1Below (b0_l6DrawRight c) (10)) && (decide (0 < length (deS Int [[D.int i64 (Int.negSucc 0)], [D.int i64 (0)], [D.int i64 (20)], [D.int i64 (21)]])) && decide (length (deS Int [[D.int i64 (Int.negSucc 0)], [D.int i64 (0)], [D.int i64 (20)], [D.int i64 (21)]]) ≤ 1048576))) then some ([[D.int i64 (Vec.Root (v0_l6DrawRight c)), D.int i64 (v0_l1PickInt (b0_l1Below (b0_l6DrawRight c) (10)) (deS Int [[D.int i64 (Int.negSucc 0)], [D.int i64 (0)], [D.int i64 (20)], [D.int i64 (21)]])), D.int i64 (Vec.Bridge (v0_l6DrawRight c)), D.int i64 (Vec.Port (v0_l6DrawRight c))]], [[D.sl false 1 (TL1Cur.b (b0_l1PickInt (b0_l1Below (b0_l6DrawRight c) (10)) (deS Int [[D.int i64 (Int.negSucc 0)], [D.int i64 (0)], [D.int i64 (20)], [D.int i64 (21)]]))), D.int i64 (TL1Cur.i (b0_l1PickInt (b0_l1Below (b0_l6DrawRight c) (10)) (deS Int [[D.int i64 (Int.negSucc 0)], [D.int i64 (0)], [D.int i64 (20)], [D.int i64 (21)]]))), D.int i64 (TL1Cur.h (b0_l1PickInt (b0_l1Below (b0_l6DrawRight c) (10)) (deS Int [[D.int i64 (Int.negSucc 0)], [D.int i64 (0)], [D.int i64 (20)], [D.int i64 (21)]])))]]) else none else bif v0_l1Below (b0_l6DrawRight c) (10) == 2 then bif isS Int true [[D.int i64 (0)], [D.int i64 (9)], [D.int i64 (10)]] && (curOk (b0_l1Below (b0_l6DrawRight c) (10)) && (decide (0 < length (deS Int [[D.int i64 (0)], [D.int i64 (9)], [D.int i64 (10)]])) && decide (length (deS Int [[D.int i64 (0)], [D.int i64 (9)], [D.int i64 (10)]]) ≤ 1048576))) then some ([[D.int i64 (Vec.Root (v0_l6DrawRight c)), D.int i64 (Vec.Cost (v0_l6DrawRight c)), D.int i64 (v0_l1PickInt (b0_l1Below (b0_l6DrawRight c) (10)) (deS Int [[D.int i64 (0)], [D.int i64 (9)], [D.int i64 (10)]])), D.int i64 (Vec.Port (v0_l6DrawRight c))]], [[D.sl false 1 (TL1Cur.b (b0_l1PickInt (b0_l1Below (b0_l6DrawRight c) (10)) (deS Int [[D.int i64 (0)], [D.int i64 (9)], [D.int i64 (10)]]))), D.int i64 (TL1Cur.i (b0_l1PickInt (b0_l1Below (b0_l6DrawRight c) (10)) (deS Int [[D.int i64 (0)], [D.int i64 (9)], [D.int i64 (10)]]))), D.int i64 (TL1Cur.h (b0_l1PickInt (b0_l1Below (b0_l6DrawRight c) (10)) (deS Int [[D.int i64 (0)], [D.int i64 (9)], [D.int i64 (10)]])))]]) else none else bif v0_l1Below (b0_l6DrawRight c) (10) == 3 then bif isS Int true [[D.int i64 (Int.negSucc 0)], [D.int i64 (3)], [D.int i64 (4)]] && (curOk (b0_l1Below (b0_l6DrawRight c) (10)) && (decide (0 < length (deS Int [[D.int i64 (Int.negSucc 0)], [D.int i64 (3)], [D.int i64 (4)]])) && decide (length (deS Int [[D.int i64 (Int.negSucc 0)], [D.int i64 (3)], [D.int i64 (4)]]) ≤ 1048576))) then some ([[D.int i64 (Vec.Root (v0_l6DrawRight c)), D.int i64 (Vec.Cost (v0_l6DrawRight c)), D.int i64 (Vec.Bridge (v0_l6DrawRight c)), D.int i64 (v0_l1PickInt (b0_l1Below (b0_l6DrawRight c) (10)) (deS Int [[D.int i64 (Int.negSucc 0)], [D.int i64 (3)], [D.int i64 (4)]]))]], [[D.sl false 1 (TL1Cur.b (b0_l1PickInt (b0_l1Below (b0_l6DrawRight c) (10)) (deS Int [[D.int i64 (Int.negSucc 0)], [D.int i64 (3)], [D.int i64 (4)]]))), D.int i64 (TL1Cur.i (b0_l1PickInt (b0_l1Below (b0_l6DrawRight c) (10)) (deS Int [[D.int i64 (Int.negSucc 0)], [D.int i64 (3)], [D.int i64 (4)]]))), D.int i64 (TL1Cur.h (b0_l1PickInt (b0_l1Below (b0_l6DrawRight c) (10)) (deS Int [[D.int i64 (Int.negSucc 0)], [D.int i64 (3)], [D.int i64 (4)]])))]]) else none else some ([En.enc true (v0_l6DrawRight c)], [[D.sl false 1 (TL1Cur.b (b0_l1Below (b0_l6DrawRight c) (10))), D.int i64 (TL1Cur.i (b0_l1Below (b0_l6DrawRight c) (10))), D.int i64 (TL1Cur.h (b0_l1Below (b0_l6DrawRight c) (10)))]]) else none else none := by kernel_rfl
def G_l6Draw (c : TL1Cur) (r : Option (List Row × List Row)) : Prop := ∃ x : Vec × TL1Cur, r = some ([[.int .i64 x.1.Root, .int .i64 x.1.Cost, .int .i64 x.1.Bridge, .int .i64 x.1.Port]], [[.sl false 1 x.2.b, .int .i64 x.2.i, .int .i64 x.2.h]]) ∧ (curOk x.2 = true)
theorem leaf_l6Draw (c : TL1Cur) {z0_Root : Int} {z0_Cost : Int} {z0_Bridge : Int} {z0_Port : Int} {z1_b : List (List D)} {z1_i : Int} {z1_h : Int} (h : curOk (⟨z1_b, z1_i, z1_h⟩ : TL1Cur) = true) : G_l6Draw c (some ([[.int .i64 z0_Root, .int .i64 z0_Cost, .int .i64 z0_Bridge, .int .i64 z0_Port]], [[.sl false 1 z1_b, .int .i64 z1_i, .int .i64 z1_h]])) := ⟨(⟨z0_Root, z0_Cost, z0_Bridge, z0_Port⟩, ⟨z1_b, z1_i, z1_h⟩), rfl, h⟩
theorem e_l6Draw (c : TL1Cur) (hpre : (o85 c).1 = true) : ∃ x, P_l6Draw c x := by
  show G_l6Draw c _
  refine Eq.mpr (congrArg (G_l6Draw c) (r85 c _)) ?_
  replace hpre : (curOk c) = true := hpre
  repeat' first | refine leaf_l6Draw _  ?_ | refine g_pre ?_ ?_ | refine g_if (fun _ => ?_) (fun _ => ?_)
  all_goals simp (maxDischargeDepth := 60) [TL1Cur.eta, isS_int_cons, isS_nil, deS, List.map_cons, List.map_nil, List.length_cons, List.length_nil, k_l1Byte, k_l1Below, k_l1Once, k_l1PickInt, k_l6DrawRight, hpre]
theorem p_l6Draw (c : TL1Cur) (hpre : (o85 c).1 = true) : curOk (b0_l6Draw c) = true := (Classical.epsilon_spec (e_l6Draw c hpre)).2
theorem k_l6Draw (c : TL1Cur) (hpre : (curOk c) = true) : curOk (b0_l6Draw c) = true := (p_l6Draw c hpre)
theorem m85 (c : TL1Cur) (hpre : (o85 c).1 = true) : evFn ⟨Go.Proofs.Try.prog, Hx, 85⟩ T103.call 0 f85 [[.sl false 1 c.b, .int .i64 c.i, .int .i64 c.h]] = some (o85 c).2 := (Classical.epsilon_spec (e_l6Draw c hpre)).1
theorem s85 : SoundAt Go.Proofs.Try.prog Hx 85 c85 := soundAt_of T103_sound mixed func85 (by kernel_rfl) (by
  intro rows r h
  unfold c85 at h
  split at h
  · rename_i c_b c_i c_h
    obtain ⟨hp, hr⟩ := Prod.mk.inj (Option.some.inj h)
    subst hr
    exact ⟨_, m85 ⟨c_b, c_i, c_h⟩ hp⟩
  · cases h)
def T85 : Table := (85, c85) :: T103
theorem T85_sound : Table.Sound Go.Proofs.Try.prog Hx T85 := Table.sound_cons s85 T103_sound
end Go.Ev
namespace Go.Md
open Go Go.Ev
theorem len_snoc {α : Type} (xs : List α) (x : α) : (xs ++ [x]).length = xs.length + 1 := by rw [List.length_append]; rfl
end Go.Md
namespace Go.Ev
open Go.Md
end Go.Ev
namespace Go.Md
open Go Go.Ev
def P_l8DrawIn (c : TL1Cur) (x : In × TL1Cur) : Prop := evFn ⟨Go.Proofs.Try.prog, Hx, 80⟩ T85.call 0 f80 [[.sl false 1 c.b, .int .i64 c.i, .int .i64 c.h]] = some ([[.int .i64 x.1.Kind, .int .i64 x.1.Port, .int .i64 x.1.Vec.Root, .int .i64 x.1.Vec.Cost, .int .i64 x.1.Vec.Bridge, .int .i64 x.1.Vec.Port, .int .i64 x.1.Hops, .bool x.1.Up]], [[.sl false 1 x.2.b, .int .i64 x.2.i, .int .i64 x.2.h]]) ∧ (curOk x.2 = true)
noncomputable def w_l8DrawIn (c : TL1Cur) : In × TL1Cur := @Classical.epsilon (In × TL1Cur) ⟨(⟨0, 0, ⟨0, 0, 0, 0⟩, 0, false⟩, ⟨[], 0, 0⟩)⟩ (P_l8DrawIn c)
noncomputable def v0_l8DrawIn (c : TL1Cur) : In := (w_l8DrawIn c).1
noncomputable def b0_l8DrawIn (c : TL1Cur) : TL1Cur := (w_l8DrawIn c).2
end Go.Md
namespace Go.Ev
open Go.Md
def o80 (c : TL1Cur) : Bool × List Row × List Row := (curOk c, [[.int .i64 (v0_l8DrawIn c).Kind, .int .i64 (v0_l8DrawIn c).Port, .int .i64 (v0_l8DrawIn c).Vec.Root, .int .i64 (v0_l8DrawIn c).Vec.Cost, .int .i64 (v0_l8DrawIn c).Vec.Bridge, .int .i64 (v0_l8DrawIn c).Vec.Port, .int .i64 (v0_l8DrawIn c).Hops, .bool (v0_l8DrawIn c).Up]], [[.sl false 1 (b0_l8DrawIn c).b, .int .i64 (b0_l8DrawIn c).i, .int .i64 (b0_l8DrawIn c).h]])
def c80 : Contract
  | [[.sl false 1 c_b, .int .i64 c_i, .int .i64 c_h]] => some ((o80 ⟨c_b, c_i, c_h⟩).1, (o80 ⟨c_b, c_i, c_h⟩).2.1, (o80 ⟨c_b, c_i, c_h⟩).2.2)
  | _ => none

theorem r80 (c : TL1Cur) (n : Nat) : evFn ⟨prog, Hx, 80⟩ T85.call n f80 [[.sl false 1 c.b, .int .i64 c.i, .int .i64 c.h]] = bif curOk c then bif curOk (b0_l1Below c (4)) then bif v0_l1Below (b0_l1Below c (4)) (4) == 0 then some ([[D.int i64 (2), D.int i64 (0), D.int i64 (0), D.int i64 (0), D.int i64 (0), D.int i64 (0), D.int i64 (0), D.bool false]], [[D.sl false 1 (TL1Cur.b (b0_l1Below (b0_l1Below c (4)) (4))), D.int i64 (TL1Cur.i (b0_l1Below (b0_l1Below c (4)) (4))), D.int i64 (TL1Cur.h (b0_l1Below (b0_l1Below c (4)) (4)))]]) else bif v0_l1Below (b0_l1Below c (4)) (4) == 1 then bif curOk (b0_l1Below (b0_l1Below c (4)) (4)) then some ([[D.int i64 (3), D.int i64 (v0_l1Below c (4)), D.int i64 (0), D.int i64 (0), D.int i64 (0), D.int i64 (0), D.int i64 (0), D.bool !v0_l1Once (b0_l1Below (b0_l1Below c (4)) (4)) (3)]], [[D.sl false 1 (TL1Cur.b (b0_l1Once (b0_l1Below (b0_l1Below c (4)) (4)) (3))), D.int i64 (TL1Cur.i (b0_l1Once (b0_l1Below (b0_l1Below c (4)) (4)) (3))), D.int i64 (TL1Cur.h (b0_l1Once (b0_l1Below (b0_l1Below c (4)) (4)) (3)))]]) else none else bif curOk (b0_l1Below (b0_l1Below c (4)) (4)) then bif curOk (b0_l6DrawRight (b0_l1Below (b0_l1Below c (4)) (4))) then some ([[D.int i64 (1), D.int i64 (v0_l1Below c (4)), D.int i64 (Vec.Root (v0_l6DrawRight (b0_l1Below (b0_l1Below c (4)) (4)))), D.int i64 (Vec.Cost (v0_l6DrawRight (b0_l1Below (b0_l1Below c (4)) (4)))), D.int i64 (Vec.Bridge (v0_l6DrawRight (b0_l1Below (b0_l1Below c (4)) (4)))), D.int i64 (Vec.Port (v0_l6DrawRight (b0_l1Below (b0_l1Below c (4)) (4)))), D.int i64 (v0_l1Below (b0_l6DrawRight (b0_l1Below (b0_l1Below c (4)) (4))) (4)), D.bool false]], [[D.sl false 1 (TL1Cur.b (b0_l1Below (b0_l6DrawRight (b0_l1Below (b0_l1Below c (4)) (4))) (4))), D.int i64 (TL1Cur.i (b0_l1Below (b0_l6DrawRight (b0_l1Below (b0_l1Below c (4)) (4))) (4))), D.int i64 (TL1Cur.h (b0_l1Below (b0_l6DrawRight (b0_l1Below (b0_l1Below c (4)) (4))) (4)))]]) else none else none else none else none := by kernel_rfl
def G_l8DrawIn (c : TL1Cur) (r : Option (List Row × List Row)) : Prop := ∃ x : In × TL1Cur, r = some ([[.int .i64 x.1.Kind, .int .i64 x.1.Port, .int .i64 x.1.Vec.Root, .int .i64 x.1.Vec.Cost, .int .i64 x.1.Vec.Bridge, .int .i64 x.1.Vec.Port, .int .i64 x.1.Hops, .bool x.1.Up]], [[.sl false 1 x.2.b, .int .i64 x.2.i, .int .i64 x.2.h]]) ∧ (curOk x.2 = true)
theorem leaf_l8DrawIn (c : TL1Cur) {z0_Kind : Int} {z0_Port : Int} {z0_Vec_Root : Int} {z0_Vec_Cost : Int} {z0_Vec_Bridge : Int} {z0_Vec_Port : Int} {z0_Hops : Int} {z0_Up : Bool} {z1_b : List (List D)} {z1_i : Int} {z1_h : Int} (h : curOk (⟨z1_b, z1_i, z1_h⟩ : TL1Cur) = true) : G_l8DrawIn c (some ([[.int .i64 z0_Kind, .int .i64 z0_Port, .int .i64 z0_Vec_Root, .int .i64 z0_Vec_Cost, .int .i64 z0_Vec_Bridge, .int .i64 z0_Vec_Port, .int .i64 z0_Hops, .bool z0_Up]], [[.sl false 1 z1_b, .int .i64 z1_i, .int .i64 z1_h]])) := ⟨(⟨z0_Kind, z0_Port, ⟨z0_Vec_Root, z0_Vec_Cost, z0_Vec_Bridge, z0_Vec_Port⟩, z0_Hops, z0_Up⟩, ⟨z1_b, z1_i, z1_h⟩), rfl, h⟩
theorem e_l8DrawIn (c : TL1Cur) (hpre : (o80 c).1 = true) : ∃ x, P_l8DrawIn c x := by
  show G_l8DrawIn c _
  refine Eq.mpr (congrArg (G_l8DrawIn c) (r80 c _)) ?_
  replace hpre : (curOk c) = true := hpre
  repeat' first | refine leaf_l8DrawIn _  ?_ | refine g_pre ?_ ?_ | refine g_if (fun _ => ?_) (fun _ => ?_)
  all_goals simp (maxDischargeDepth := 60) [TL1Cur.eta, isS_int_cons, isS_nil, deS, List.map_cons, List.map_nil, List.length_cons, List.length_nil, k_l1Byte, k_l1Below, k_l1Once, k_l1PickInt, k_l6DrawRight, k_l6Draw, hpre]
theorem p_l8DrawIn (c : TL1Cur) (hpre : (o80 c).1 = true) : curOk (b0_l8DrawIn c) = true := (Classical.epsilon_spec (e_l8DrawIn c hpre)).2
theorem k_l8DrawIn (c : TL1Cur) (hpre : (curOk c) = true) : curOk (b0_l8DrawIn c) = true := (p_l8DrawIn c hpre)
theorem m80 (c : TL1Cur) (hpre : (o80 c).1 = true) : evFn ⟨Go.Proofs.Try.prog, Hx, 80⟩ T85.call 0 f80 [[.sl false 1 c.b, .int .i64 c.i, .int .i64 c.h]] = some (o80 c).2 := (Classical.epsilon_spec (e_l8DrawIn c hpre)).1
theorem s80 : SoundAt Go.Proofs.Try.prog Hx 80 c80 := soundAt_of T85_sound mixed func80 (by kernel_rfl) (by
  intro rows r h
  unfold c80 at h
  split at h
  · rename_i c_b c_i c_h
    obtain ⟨hp, hr⟩ := Prod.mk.inj (Option.some.inj h)
    subst hr
    exact ⟨_, m80 ⟨c_b, c_i, c_h⟩ hp⟩
  · cases h)
def T80 : Table := (80, c80) :: T85
theorem T80_sound : Table.Sound Go.Proofs.Try.prog Hx T80 := Table.sound_cons s80 T85_sound
end Go.Ev
namespace Go.Md
open Go Go.Ev
def P_l8DrawBent (c : TL1Cur) (x : In × TL1Cur) : Prop := evFn ⟨Go.Proofs.Try.prog, Hx, 73⟩ T80.call 0 f73 [[.sl false 1 c.b, .int .i64 c.i, .int .i64 c.h]] = some ([[.int .i64 x.1.Kind, .int .i64 x.1.Port, .int .i64 x.1.Vec.Root, .int .i64 x.1.Vec.Cost, .int .i64 x.1.Vec.Bridge, .int .i64 x.1.Vec.Port, .int .i64 x.1.Hops, .bool x.1.Up]], [[.sl false 1 x.2.b, .int .i64 x.2.i, .int .i64 x.2.h]]) ∧ (curOk x.2 = true)
noncomputable def w_l8DrawBent (c : TL1Cur) : In × TL1Cur := @Classical.epsilon (In × TL1Cur) ⟨(⟨0, 0, ⟨0, 0, 0, 0⟩, 0, false⟩, ⟨[], 0, 0⟩)⟩ (P_l8DrawBent c)
noncomputable def v0_l8DrawBent (c : TL1Cur) : In := (w_l8DrawBent c).1
noncomputable def b0_l8DrawBent (c : TL1Cur) : TL1Cur := (w_l8DrawBent c).2
end Go.Md
namespace Go.Ev
open Go.Md
def o73 (c : TL1Cur) : Bool × List Row × List Row := (curOk c, [[.int .i64 (v0_l8DrawBent c).Kind, .int .i64 (v0_l8DrawBent c).Port, .int .i64 (v0_l8DrawBent c).Vec.Root, .int .i64 (v0_l8DrawBent c).Vec.Cost, .int .i64 (v0_l8DrawBent c).Vec.Bridge, .int .i64 (v0_l8DrawBent c).Vec.Port, .int .i64 (v0_l8DrawBent c).Hops, .bool (v0_l8DrawBent c).Up]], [[.sl false 1 (b0_l8DrawBent c).b, .int .i64 (b0_l8DrawBent c).i, .int .i64 (b0_l8DrawBent c).h]])
def c73 : Contract
  | [[.sl false 1 c_b, .int .i64 c_i, .int .i64 c_h]] => some ((o73 ⟨c_b, c_i, c_h⟩).1, (o73 ⟨c_b, c_i, c_h⟩).2.1, (o73 ⟨c_b, c_i, c_h⟩).2.2)
  | _ => none

theorem r73 (c : TL1Cur) (n : Nat) : evFn ⟨prog, Hx, 73⟩ T80.call n f73 [[.sl false 1 c.b, .int .i64 c.i, .int .i64 c.h]] = bif curOk c then bif curOk (b0_l8DrawIn c) then bif v0_l1Below (b0_l8DrawIn c) (12) == 0 then bif curOk (b0_l1Below (b0_l8DrawIn c) (12)) then some ([[D.int i64 (wrap i64 (v0_l1Below (b0_l1Below (b0_l8DrawIn c) (12)) (6) - 1)), D.int i64 (In.Port (v0_l8DrawIn c)), D.int i64 (Vec.Root (In.Vec (v0_l8DrawIn c))), D.int i64 (Vec.Cost (In.Vec (v0_l8DrawIn c))), D.int i64 (Vec.Bridge (In.Vec (v0_l8DrawIn c))), D.int i64 (Vec.Port (In.Vec (v0_l8DrawIn c))), D.int i64 (In.Hops (v0_l8DrawIn c)), D.bool (In.Up (v0_l8DrawIn c))]], [[D.sl false 1 (TL1Cur.b (b0_l1Below (b0_l1Below (b0_l8DrawIn c) (12)) (6))), D.int i64 (TL1Cur.i (b0_l1Below (b0_l1Below (b0_l8DrawIn c) (12)) (6))), D.int i64 (TL1Cur.h (b0_l1Below (b0_l1Below (b0_l8DrawIn c) (12)) (6)))]]) else none else bif v0_l1Below (b0_l8DrawIn c) (12) == 1 then bif isS Int true [[D.int i64 (Int.negSucc 0)], [D.int i64 (3)], [D.int i64 (4)]] && (curOk (b0_l1Below (b0_l8DrawIn c) (12)) && (decide (0 < length (deS Int [[D.int i64 (Int.negSucc 0)], [D.int i64 (3)], [D.int i64 (4)]])) && decide (length (deS Int [[D.int i64 (Int.negSucc 0)], [D.int i64 (3)], [D.int i64 (4)]]) ≤ 1048576))) then some ([[D.int i64 (In.Kind (v0_l8DrawIn c)), D.int i64 (v0_l1PickInt (b0_l1Below (b0_l8DrawIn c) (12)) (deS Int [[D.int i64 (Int.negSucc 0)], [D.int i64 (3)], [D.int i64 (4)]])), D.int i64 (Vec.Root (In.Vec (v0_l8DrawIn c))), D.int i64 (Vec.Cost (In.Vec (v0_l8DrawIn c))), D.int i64 (Vec.Bridge (In.Vec (v0_l8DrawIn c))), D.int i64 (Vec.Port (In.Vec (v0_l8DrawIn c))), D.int i64 (In.Hops (v0_l8DrawIn c)), D.bool (In.Up (v0_l8DrawIn c))]], [[D.sl false 1 (TL1Cur.b (b0_l1PickInt (b0_l1Below (b0_l8DrawIn c) (12)) (deS Int [[D.int i64 (Int.negSucc 0)], [D.int i64 (3)], [D.int i64 (4)]]))), D.int i64 (TL1Cur.i (b0_l1PickInt (b0_l1Below (b0_l8DrawIn c) (12)) (deS Int [[D.int i64 (Int.negSucc 0)], [D.int i64 (3)], [D.int i64 (4)]]))), D.int i64 (TL1Cur.h (b0_l1PickInt (b0_l1Below (b0_l8DrawIn c) (12)) (deS Int [[D.int i64 (Int.negSucc 0)], [D.int i64 (3)], [D.int i64 (4)]])))]]) else none else bif v0_l1Below (b0_l8DrawIn c) (12) == 2 then bif curOk (b0_l1Below (b0_l8DrawIn c) (12)) then some ([[D.int i64 (In.Kind (v0_l8DrawIn c)), D.int i64 (In.Port (v0_l8DrawIn c)), D.int i64 (Vec.Root (v0_l6Draw (b0_l1Below (b0_l8DrawIn c) (12)))), D.int i64 (Vec.Cost (v0_l6Draw (b0_l1Below (b0_l8DrawIn c) (12)))), D.int i64 (Vec.Bridge (v0_l6Draw (b0_l1Below (b0_l8DrawIn c) (12)))), D.int i64 (Vec.Port (v0_l6Draw (b0_l1Below (b0_l8DrawIn c) (12)))), D.int i64 (In.Hops (v0_l8DrawIn c)), D.bool (In.Up (v0_l8DrawIn c))]], [[D.sl false 1 (TL1Cur.b (b0_l6Draw (b0_l1Below (b0_l8DrawIn c) (12)))), D.int i64 (TL1Cur.i (b0_l6Draw (b0_l1Below (b0_l8DrawIn c) (12)))), D.int i64 (TL1Cur.h (b0_l6Draw (b0_l1Below (b0_l8DrawIn c) (12))))]]) else none else bif v0_l1Below (b0_l8DrawIn c) (12) == 3 then bif isS Int true [[D.int i64 (Int.negSucc 0)], [D.int i64 (8)], [D.int i64 (9)]] && (curOk (b0_l1Below (b0_l8DrawIn c) (12)) && (decide (0 < length (deS Int [[D.int i64 (Int.negSucc 0)], [D.int i64 (8)], [D.int i64 (9)]])) && decide (length (deS Int [[D.int i64 (Int.negSucc 0)], [D.int i64 (8)], [D.int i64 (9)]]) ≤ 1048576))) then some ([[D.int i64 (In.Kind (v0_l8DrawIn c)), D.int i64 (In.Port (v0_l8DrawIn c)), D.int i64 (Vec.Root (In.Vec (v0_l8DrawIn c))), D.int i64 (Vec.Cost (In.Vec (v0_l8DrawIn c))), D.int i64 (Vec.Bridge (In.Vec (v0_l8DrawIn c))), D.int i64 (Vec.Port (In.Vec (v0_l8DrawIn c))), D.int i64 (v0_l1PickInt (b0_l1Below (b0_l8DrawIn c) (12)) (deS Int [[D.int i64 (Int.negSucc 0)], [D.int i64 (8)], [D.int i64 (9)]])), D.bool (In.Up (v0_l8DrawIn c))]], [[D.sl false 1 (TL1Cur.b (b0_l1PickInt (b0_l1Below (b0_l8DrawIn c) (12)) (deS Int [[D.int i64 (Int.negSucc 0)], [D.int i64 (8)], [D.int i64 (9)]]))), D.int i64 (TL1Cur.i (b0_l1PickInt (b0_l1Below (b0_l8DrawIn c) (12)) (deS Int [[D.int i64 (Int.negSucc 0)], [D.int i64 (8)], [D.int i64 (9)]]))), D.int i64 (TL1Cur.h (b0_l1PickInt (b0_l1Below (b0_l8DrawIn c) (12)) (deS Int [[D.int i64 (Int.negSucc 0)], [D.int i64 (8)], [D.int i64 (9)]])))]]) else none else some ([En.enc true (v0_l8DrawIn c)], [[D.sl false 1 (TL1Cur.b (b0_l1Below (b0_l8DrawIn c) (12))), D.int i64 (TL1Cur.i (b0_l1Below (b0_l8DrawIn c) (12))), D.int i64 (TL1Cur.h (b0_l1Below (b0_l8DrawIn c) (12)))]]) else none else none := by kernel_rfl
def G_l8DrawBent (c : TL1Cur) (r : Option (List Row × List Row)) : Prop := ∃ x : In × TL1Cur, r = some ([[.int .i64 x.1.Kind, .int .i64 x.1.Port, .int .i64 x.1.Vec.Root, .int .i64 x.1.Vec.Cost, .int .i64 x.1.Vec.Bridge, .int .i64 x.1.Vec.Port, .int .i64 x.1.Hops, .bool x.1.Up]], [[.sl false 1 x.2.b, .int .i64 x.2.i, .int .i64 x.2.h]]) ∧ (curOk x.2 = true)
theorem leaf_l8DrawBent (c : TL1Cur) {z0_Kind : Int} {z0_Port : Int} {z0_Vec_Root : Int} {z0_Vec_Cost : Int} {z0_Vec_Bridge : Int} {z0_Vec_Port : Int} {z0_Hops : Int} {z0_Up : Bool} {z1_b : List (List D)} {z1_i : Int} {z1_h : Int} (h : curOk (⟨z1_b, z1_i, z1_h⟩ : TL1Cur) = true) : G_l8DrawBent c (some ([[.int .i64 z0_Kind, .int .i64 z0_Port, .int .i64 z0_Vec_Root, .int .i64 z0_Vec_Cost, .int .i64 z0_Vec_Bridge, .int .i64 z0_Vec_Port, .int .i64 z0_Hops, .bool z0_Up]], [[.sl false 1 z1_b, .int .i64 z1_i, .int .i64 z1_h]])) := ⟨(⟨z0_Kind, z0_Port, ⟨z0_Vec_Root, z0_Vec_Cost, z0_Vec_Bridge, z0_Vec_Port⟩, z0_Hops, z0_Up⟩, ⟨z1_b, z1_i, z1_h⟩), rfl, h⟩
theorem e_l8DrawBent (c : TL1Cur) (hpre : (o73 c).1 = true) : ∃ x, P_l8DrawBent c x := by
  show G_l8DrawBent c _
  refine Eq.mpr (congrArg (G_l8DrawBent c) (r73 c _)) ?_
  replace hpre : (curOk c) = true := hpre
  repeat' first | refine leaf_l8DrawBent _  ?_ | refine g_pre ?_ ?_ | refine g_if (fun _ => ?_) (fun _ => ?_)
  all_goals simp (maxDischargeDepth := 60) [TL1Cur.eta, isS_int_cons, isS_nil, deS, List.map_cons, List.map_nil, List.length_cons, List.length_nil, k_l1Byte, k_l1Below, k_l1Once, k_l1PickInt, k_l6DrawRight, k_l6Draw, k_l8DrawIn, hpre]
theorem p_l8DrawBent (c : TL1Cur) (hpre : (o73 c).1 = true) : curOk (b0_l8DrawBent c) = true := (Classical.epsilon_spec (e_l8DrawBent c hpre)).2
theorem k_l8DrawBent (c : TL1Cur) (hpre : (curOk c) = true) : curOk (b0_l8DrawBent c) = true := (p_l8DrawBent c hpre)
theorem m73 (c : TL1Cur) (hpre : (o73 c).1 = true) : evFn ⟨Go.Proofs.Try.prog, Hx, 73⟩ T80.call 0 f73 [[.sl false 1 c.b, .int .i64 c.i, .int .i64 c.h]] = some (o73 c).2 := (Classical.epsilon_spec (e_l8DrawBent c hpre)).1
theorem s73 : SoundAt Go.Proofs.Try.prog Hx 73 c73 := soundAt_of T80_sound mixed func73 (by kernel_rfl) (by
  intro rows r h
  unfold c73 at h
  split at h
  · rename_i c_b c_i c_h
    obtain ⟨hp, hr⟩ := Prod.mk.inj (Option.some.inj h)
    subst hr
    exact ⟨_, m73 ⟨c_b, c_i, c_h⟩ hp⟩
  · cases h)
def T73 : Table := (73, c73) :: T80
theorem T73_sound : Table.Sound Go.Proofs.Try.prog Hx T73 := Table.sound_cons s73 T80_sound
end Go.Ev
namespace Go.Md
open Go Go.Ev
def P_l9DrawList (c : TL1Cur) (x : (List In) × TL1Cur) : Prop := evFn ⟨Go.Proofs.Try.prog, Hx, 59⟩ T73.call 20 f59 [[.sl false 1 c.b, .int .i64 c.i, .int .i64 c.h]] = some ([[.sl true 8 (enS true x.1)]], [[.sl false 1 x.2.b, .int .i64 x.2.i, .int .i64 x.2.h]]) ∧ (x.1.length ≤ 6 ∧ curOk x.2 = true)
noncomputable def w_l9DrawList (c : TL1Cur) : (List In) × TL1Cur := @Classical.epsilon ((List In) × TL1Cur) ⟨([], ⟨[], 0, 0⟩)⟩ (P_l9DrawList c)
noncomputable def v0_l9DrawList (c : TL1Cur) : List In := (w_l9DrawList c).1
noncomputable def b0_l9DrawList (c : TL1Cur) : TL1Cur := (w_l9DrawList c).2
end Go.Md
namespace Go.Ev
open Go.Md
def o59 (c : TL1Cur) : Bool × List Row × List Row := (curOk c, [[.sl true 8 (enS true (v0_l9DrawList c))]], [[.sl false 1 (b0_l9DrawList c).b, .int .i64 (b0_l9DrawList c).i, .int .i64 (b0_l9DrawList c).h]])
def c59 : Contract
  | [[.sl false 1 c_b, .int .i64 c_i, .int .i64 c_h]] => some ((o59 ⟨c_b, c_i, c_h⟩).1, (o59 ⟨c_b, c_i, c_h⟩).2.1, (o59 ⟨c_b, c_i, c_h⟩).2.2)
  | _ => none

def k59_0 (n : Nat) : Ex → St → RR := kThen (fun st ↦ runCode (Ctx.mk prog Hx (59)) (Table.call T73) n (codeAt [1, 1, 1] (bodyOf f59)) (Lv.mk 4 [] 4) st (kLeave (Ctx.P (Ctx.mk prog Hx (59))) (List.zip (Array.toList (Go.Func.resultTypes f59)) (Array.toList (Go.Func.results f59))) [0] [])) (kLeave (Ctx.P (Ctx.mk prog Hx (59))) (List.zip (Array.toList (Go.Func.resultTypes f59)) (Array.toList (Go.Func.results f59))) [0] [])
def k59_1 (n : Nat) : Ex → St → RR := kBlock (0) (k59_0 n)
def S59_0 (i0 : Int) (es1 : List (List D)) (i2 : Int) (i3 : Int) (es4 : List (List D)) : St := St.mk (V_ [C.ptr 0 0 0 [] 3 0 0] :: U_ :: U_ :: V_ [C.view 2 0 0 [] 8 none] :: I_ i0 :: u_ 13 []) [Root.mk true 3 [[D.sl false 1 es1, D.int i64 i2, D.int i64 i3]] 0 0 true true false, Root.mk false 8 [] 0 0 false true false, Root.mk false 8 es4 0 0 true true false]
def B59_0 (n : Nat) : St → (Ex → St → RR) → RR := runCode (Ctx.mk prog Hx (59)) (Table.call T73) n (codeAt [1, 1, 0, 1, 0, 0] (bodyOf f59)) (Lv.mk 25 [(0, 8)] 4)
def X59_2 (es1 : List (List D)) (i2 : Int) (i3 : Int) (es4 : List (List D)) : St := St.mk (U_ :: U_ :: U_ :: V_ [C.view 2 0 0 [] 8 none] :: u_ 14 []) [Root.mk true 3 [[D.sl false 1 (TL1Cur.b (b0_l1Below (TL1Cur.mk es1 i2 i3) (6))), D.int i64 (TL1Cur.i (b0_l1Below (TL1Cur.mk es1 i2 i3) (6))), D.int i64 (TL1Cur.h (b0_l1Below (TL1Cur.mk es1 i2 i3) (6)))]] 0 1 true true false, Root.mk false 8 [] 0 0 false true false, Root.mk false 8 es4 0 0 true true false]
theorem q59_0 (n : Nat) (i0 : Int) (es1 : List (List D)) (i2 : Int) (i3 : Int) (es4 : List (List D)) (f : St → RR) (K : Ex → St → RR) : B59_0 n (S59_0 i0 es1 i2 i3 es4) (kThen (fun st ↦ f (St.head 2 25 131032 st)) K) = bif curOk (TL1Cur.mk es1 i2 i3) then bif decide (i0 < v0_l1Below (TL1Cur.mk es1 i2 i3) (6)) then bif curOk (b0_l1Below (TL1Cur.mk es1 i2 i3) (6)) then bif decide ((length es4 + 1) * 64 ≤ 140737488355328) then f (S59_0 (wrap i64 (i0 + 1)) (TL1Cur.b (b0_l8DrawIn (b0_l1Below (TL1Cur.mk es1 i2 i3) (6)))) (TL1Cur.i (b0_l8DrawIn (b0_l1Below (TL1Cur.mk es1 i2 i3) (6)))) (TL1Cur.h (b0_l8DrawIn (b0_l1Below (TL1Cur.mk es1 i2 i3) (6)))) (append es4 [En.enc true (v0_l8DrawIn (b0_l1Below (TL1Cur.mk es1 i2 i3) (6)))])) else none else none else K (Ex.exit 0) (X59_2 es1 i2 i3 es4) else none := by kernel_rfl
theorem aX59_2 (n : Nat) (es1 : List (List D)) (i2 : Int) (i3 : Int) (es4 : List (List D)) : k59_1 n (Ex.exit 0) (X59_2 es1 i2 i3 es4) = some ([[D.sl true 8 es4]], [[D.sl false 1 (TL1Cur.b (b0_l1Below (TL1Cur.mk es1 i2 i3) (6))), D.int i64 (TL1Cur.i (b0_l1Below (TL1Cur.mk es1 i2 i3) (6))), D.int i64 (TL1Cur.h (b0_l1Below (TL1Cur.mk es1 i2 i3) (6)))]]) := by kernel_rfl
theorem r59 (c : TL1Cur) (n : Nat) : evFn ⟨prog, Hx, 59⟩ T73.call n f59 [[.sl false 1 c.b, .int .i64 c.i, .int .i64 c.h]] = loopRun (B59_0 n) 2 25 131032 n (S59_0 (0) (TL1Cur.b c) (TL1Cur.i c) (TL1Cur.h c) []) (k59_1 n) := by kernel_rfl
def G_l9DrawList (c : TL1Cur) (r : Option (List Row × List Row)) : Prop := ∃ x : (List In) × TL1Cur, r = some ([[.sl true 8 (enS true x.1)]], [[.sl false 1 x.2.b, .int .i64 x.2.i, .int .i64 x.2.h]]) ∧ (x.1.length ≤ 6 ∧ curOk x.2 = true)
theorem leaf_l9DrawList (c : TL1Cur) {z0 : List In} {z1_b : List (List D)} {z1_i : Int} {z1_h : Int} (h : (z0 : List In).length ≤ 6 ∧ curOk (⟨z1_b, z1_i, z1_h⟩ : TL1Cur) = true) : G_l9DrawList c (some ([[.sl true 8 (enS true z0)]], [[.sl false 1 z1_b, .int .i64 z1_i, .int .i64 z1_h]])) := ⟨(z0, ⟨z1_b, z1_i, z1_h⟩), rfl, h⟩
theorem e_l9DrawList (c : TL1Cur) (hpre : (o59 c).1 = true) : ∃ x, P_l9DrawList c x := by
  show G_l9DrawList c _
  refine Eq.mpr (congrArg (G_l9DrawList c) (r59 c _)) ?_
  replace hpre : (curOk c) = true := hpre
  refine g_loop (V := Nat × TL1Cur × List In) (fun v => S59_0 (Int.ofNat v.1) v.2.1.b v.2.1.i v.2.1.h (enS true v.2.2)) (fun v => v.1 ≤ 6 ∧ curOk v.2.1 = true ∧ v.2.2.length ≤ v.1) (fun v => 6 - v.1) ?_ 20 (0, c, []) ⟨Nat.zero_le _, hpre, Nat.le_refl _⟩ (by show 6 - 0 < 20; omega)
  rintro ⟨i, c, l⟩ ⟨h1, h2, h3⟩ f hf
  simp only at h1 h2 h3
  refine g_eq (q59_0 _ _ _ _ _ _ f _) ?_
  simp only [TL1Cur.eta]
  have k1 := k_l1Below c 6 h2
  refine g_pre h2 (g_if (fun h => ?_) (fun h => ?_))
  · have hi : i < 6 := by
      have h4 := of_decide_eq_true h
      have h5 := (p_l1Below c 6 h2).1.2 (by omega)
      have h6 : (i : Int) < v0_l1Below c 6 := h4
      omega
    refine g_pre k1 (g_pre (by rw [enS_length]; exact decide_eq_true (by omega)) ?_)
    rw [wrap_succ (by omega), snoc_en]
    exact hf (i + 1, b0_l8DrawIn _, l ++ [_]) ⟨hi, k_l8DrawIn _ k1, by rw [len_snoc]; exact Nat.succ_le_succ h3⟩ (by show 6 - (i + 1) < 6 - i; omega)
  · refine g_eq (aX59_2 _ _ _ _ _) ?_
    refine leaf_l9DrawList _  ?_
    exact ⟨by omega, k1⟩
theorem p_l9DrawList (c : TL1Cur) (hpre : (o59 c).1 = true) : (v0_l9DrawList c).length ≤ 6 ∧ curOk (b0_l9DrawList c) = true := (Classical.epsilon_spec (e_l9DrawList c hpre)).2
theorem k_l9DrawList (c : TL1Cur) (hpre : (curOk c) = true) : curOk (b0_l9DrawList c) = true := (p_l9DrawList c hpre).2
theorem m59 (c : TL1Cur) (hpre : (o59 c).1 = true) : evFn ⟨Go.Proofs.Try.prog, Hx, 59⟩ T73.call 20 f59 [[.sl false 1 c.b, .int .i64 c.i, .int .i64 c.h]] = some (o59 c).2 := (Classical.epsilon_spec (e_l9DrawList c hpre)).1
theorem s59 : SoundAt Go.Proofs.Try.prog Hx 59 c59 := soundAt_of T73_sound mixed func59 (by kernel_rfl) (by
  intro rows r h
  unfold c59 at h
  split at h
  · rename_i c_b c_i c_h
    obtain ⟨hp, hr⟩ := Prod.mk.inj (Option.some.inj h)
    subst hr
    exact ⟨_, m59 ⟨c_b, c_i, c_h⟩ hp⟩
  · cases h)
def T59 : Table := (59, c59) :: T73
theorem T59_sound : Table.Sound Go.Proofs.Try.prog Hx T59 := Table.sound_cons s59 T73_sound
end Go.Ev
namespace Go.Md
open Go Go.Ev
def P_DrawBridgeOf (code : List UInt8) (x : Int × Int × (List In)) : Prop := evFn ⟨Go.Proofs.Try.prog, Hx, 43⟩ T59.call (20 + code.length) f43 [[.sl false 1 (enS false code)]] = some ([[.int .i64 x.1], [.int .i64 x.2.1], [.sl true 8 (enS true x.2.2)]], []) ∧ (x.2.2.length ≤ 7)
noncomputable def w_DrawBridgeOf (code : List UInt8) : Int × Int × (List In) := @Classical.epsilon (Int × Int × (List In)) ⟨(0, 0, [])⟩ (P_DrawBridgeOf code)
noncomputable def v0_DrawBridgeOf (code : List UInt8) : Int := (w_DrawBridgeOf code).1
noncomputable def v1_DrawBridgeOf (code : List UInt8) : Int := (w_DrawBridgeOf code).2.1
noncomputable def v2_DrawBridgeOf (code : List UInt8) : List In := (w_DrawBridgeOf code).2.2
end Go.Md
namespace Go.Ev
open Go.Md
def o43 (code : List UInt8) : Bool × List Row × List Row := (decide (code.length ≤ 1048576), [[.int .i64 (v0_DrawBridgeOf code)], [.int .i64 (v1_DrawBridgeOf code)], [.sl true 8 (enS true (v2_DrawBridgeOf code))]], [])
def c43 : Contract
  | [[.sl false 1 code]] => some (isS UInt8 false code && (o43 (deS UInt8 code)).1, (o43 (deS UInt8 code)).2.1, (o43 (deS UInt8 code)).2.2)
  | _ => none

theorem r43 (code : List UInt8) (n : Nat) : evFn ⟨prog, Hx, 43⟩ T59.call n f43 [[.sl false 1 (enS false code)]] = bif isS UInt8 false (enS false code) && decide (length (deS UInt8 (enS false code)) ≤ 1048576) then bif curOk (v0_l1New (deS UInt8 (enS false code))) then bif curOk (b0_l1Below (v0_l1New (deS UInt8 (enS false code))) (11)) then bif curOk (b0_l1Below (b0_l1Below (v0_l1New (deS UInt8 (enS false code))) (11)) (6)) then bif curOk (b0_l9DrawList (b0_l1Below (b0_l1Below (v0_l1New (deS UInt8 (enS false code))) (11)) (6))) then bif v0_l1Once (b0_l9DrawList (b0_l1Below (b0_l1Below (v0_l1New (deS UInt8 (enS false code))) (11)) (6))) (4) then bif curOk (b0_l1Once (b0_l9DrawList (b0_l1Below (b0_l1Below (v0_l1New (deS UInt8 (enS false code))) (11)) (6))) (4)) then bif decide ((length (enS true (v0_l9DrawList (b0_l1Below (b0_l1Below (v0_l1New (deS UInt8 (enS false code))) (11)) (6)))) + 1) * 64 ≤ 140737488355328) then some ([[D.int i64 (v0_l1Below (v0_l1New (deS UInt8 (enS false code))) (11))], [D.int i64 (v0_l1Below (b0_l1Below (v0_l1New (deS UInt8 (enS false code))) (11)) (6))], [D.sl true 8 (append (enS true (v0_l9DrawList (b0_l1Below (b0_l1Below (v0_l1New (deS UInt8 (enS false code))) (11)) (6)))) [En.enc true (v0_l8DrawBent (b0_l1Once (b0_l9DrawList (b0_l1Below (b0_l1Below (v0_l1New (deS UInt8 (enS false code))) (11)) (6))) (4)))])]], []) else none else none else some ([[D.int i64 (v0_l1Below (v0_l1New (deS UInt8 (enS false code))) (11))], [D.int i64 (v0_l1Below (b0_l1Below (v0_l1New (deS UInt8 (enS false code))) (11)) (6))], [D.sl true 8 (enS true (v0_l9DrawList (b0_l1Below (b0_l1Below (v0_l1New (deS UInt8 (enS false code))) (11)) (6))))]], []) else none else none else none else none else none := by kernel_rfl
def G_DrawBridgeOf (code : List UInt8) (r : Option (List Row × List Row)) : Prop := ∃ x : Int × Int × (List In), r = some ([[.int .i64 x.1], [.int .i64 x.2.1], [.sl true 8 (enS true x.2.2)]], []) ∧ (x.2.2.length ≤ 7)
theorem leaf_DrawBridgeOf (code : List UInt8) {z0 : Int} {z1 : Int} {z2 : List In} (h : (z2 : List In).length ≤ 7) : G_DrawBridgeOf code (some ([[.int .i64 z0], [.int .i64 z1], [.sl true 8 (enS true z2)]], [])) := ⟨(z0, z1, z2), rfl, h⟩
theorem e_DrawBridgeOf (code : List UInt8) (hpre : (o43 code).1 = true) : ∃ x, P_DrawBridgeOf code x := by
  show G_DrawBridgeOf code _
  refine Eq.mpr (congrArg (G_DrawBridgeOf code) (r43 code _)) ?_
  replace hpre : (decide (code.length ≤ 1048576)) = true := hpre
  simp only [isS_enS, deS_enS, Bool.true_and]
  have hc := p_l1New code hpre
  have k1 := k_l1Below _ 11 hc
  have k2 := k_l1Below _ 6 k1
  have x := p_l9DrawList _ k2
  have k3 := k_l1Once _ 4 x.2
  refine g_pre hpre (g_pre hc (g_pre k1 (g_pre k2 (g_pre x.2 (g_if (fun _ => ?_) (fun _ => ?_))))))
  · refine g_pre k3 (g_pre (by rw [enS_length]; exact decide_eq_true (by have := x.1; omega)) ?_)
    rw [snoc_en]
    refine leaf_DrawBridgeOf _  ?_
    rw [len_snoc]
    have := x.1
    omega
  · refine leaf_DrawBridgeOf _  ?_
    have := x.1
    omega
theorem p_DrawBridgeOf (code : List UInt8) (hpre : (o43 code).1 = true) : (v2_DrawBridgeOf code).length ≤ 7 := (Classical.epsilon_spec (e_DrawBridgeOf code hpre)).2
theorem m43 (code : List UInt8) (hpre : (o43 code).1 = true) : evFn ⟨Go.Proofs.Try.prog, Hx, 43⟩ T59.call (20 + code.length) f43 [[.sl false 1 (enS false code)]] = some (o43 code).2 := (Classical.epsilon_spec (e_DrawBridgeOf code hpre)).1
theorem s43 : SoundAt Go.Proofs.Try.prog Hx 43 c43 := soundAt_of T59_sound mixed func43 (by kernel_rfl) (by
  intro rows r h
  unfold c43 at h
  split at h
  · rename_i code
    obtain ⟨hp, hr⟩ := Prod.mk.inj (Option.some.inj h)
    subst hr
    simp only [Bool.and_eq_true] at hp
    obtain ⟨hs0, hp⟩ := hp
    obtain ⟨xs0, rfl⟩ := isS_ex hs0
    simp only [deS_enS] at hp ⊢
    exact ⟨_, m43 xs0 hp⟩
  · cases h)
def T43 : Table := (43, c43) :: T59
theorem T43_sound : Table.Sound Go.Proofs.Try.prog Hx T43 := Table.sound_cons s43 T59_sound
end Go.Ev
namespace Go.Md
open Go Go.Ev
def P_DrawSnapOf (code : List UInt8) (x : Int × Int × (List In) × Int) : Prop := evFn ⟨Go.Proofs.Try.prog, Hx, 16⟩ T43.call (20 + code.length) f16 [[.sl false 1 (enS false code)]] = some ([[.int .i64 x.1], [.int .i64 x.2.1], [.sl true 8 (enS true x.2.2.1)], [.int .i64 x.2.2.2]], []) ∧ (x.2.2.1.length ≤ 7)
noncomputable def w_DrawSnapOf (code : List UInt8) : Int × Int × (List In) × Int := @Classical.epsilon (Int × Int × (List In) × Int) ⟨(0, 0, [], 0)⟩ (P_DrawSnapOf code)
noncomputable def v0_DrawSnapOf (code : List UInt8) : Int := (w_DrawSnapOf code).1
noncomputable def v1_DrawSnapOf (code : List UInt8) : Int := (w_DrawSnapOf code).2.1
noncomputable def v2_DrawSnapOf (code : List UInt8) : List In := (w_DrawSnapOf code).2.2.1
noncomputable def v3_DrawSnapOf (code : List UInt8) : Int := (w_DrawSnapOf code).2.2.2
end Go.Md
namespace Go.Ev
open Go.Md
def o16 (code : List UInt8) : Bool × List Row × List Row := (decide (code.length ≤ 1048576), [[.int .i64 (v0_DrawSnapOf code)], [.int .i64 (v1_DrawSnapOf code)], [.sl true 8 (enS true (v2_DrawSnapOf code))], [.int .i64 (v3_DrawSnapOf code)]], [])
def c16 : Contract
  | [[.sl false 1 code]] => some (isS UInt8 false code && (o16 (deS UInt8 code)).1, (o16 (deS UInt8 code)).2.1, (o16 (deS UInt8 code)).2.2)
  | _ => none

theorem r16 (code : List UInt8) (n : Nat) : evFn ⟨prog, Hx, 16⟩ T43.call n f16 [[.sl false 1 (enS false code)]] = bif isS UInt8 false (enS false code) && decide (length (deS UInt8 (enS false code)) ≤ 1048576) then bif isS UInt8 false (enS false code) && decide (length (deS UInt8 (enS false code)) ≤ 1048576) then bif curOk (v0_l1New (deS UInt8 (enS false code))) then some ([[D.int i64 (v0_DrawBridgeOf (deS UInt8 (enS false code)))], [D.int i64 (v1_DrawBridgeOf (deS UInt8 (enS false code)))], [D.sl true 8 (enS true (v2_DrawBridgeOf (deS UInt8 (enS false code))))], [D.int i64 (wrap i64 (v0_l1Below (v0_l1New (deS UInt8 (enS false code))) (wrap i64 (ofNat (length (enS true (v2_DrawBridgeOf (deS UInt8 (enS false code))))) + 2)) - 1))]], []) else none else none else none := by kernel_rfl
theorem l16_a (code : List UInt8) (h : decide (code.length ≤ 1048576) = true) : (v2_DrawBridgeOf code).length ≤ 7 := p_DrawBridgeOf code h
def G_DrawSnapOf (code : List UInt8) (r : Option (List Row × List Row)) : Prop := ∃ x : Int × Int × (List In) × Int, r = some ([[.int .i64 x.1], [.int .i64 x.2.1], [.sl true 8 (enS true x.2.2.1)], [.int .i64 x.2.2.2]], []) ∧ (x.2.2.1.length ≤ 7)
theorem leaf_DrawSnapOf (code : List UInt8) {z0 : Int} {z1 : Int} {z2 : List In} {z3 : Int} (h : (z2 : List In).length ≤ 7) : G_DrawSnapOf code (some ([[.int .i64 z0], [.int .i64 z1], [.sl true 8 (enS true z2)], [.int .i64 z3]], [])) := ⟨(z0, z1, z2, z3), rfl, h⟩
theorem e_DrawSnapOf (code : List UInt8) (hpre : (o16 code).1 = true) : ∃ x, P_DrawSnapOf code x := by
  show G_DrawSnapOf code _
  refine Eq.mpr (congrArg (G_DrawSnapOf code) (r16 code _)) ?_
  replace hpre : (decide (code.length ≤ 1048576)) = true := hpre
  simp only [isS_enS, deS_enS, Bool.true_and]
  have hc := p_l1New code hpre
  repeat' first | refine leaf_DrawSnapOf _  ?_ | refine g_pre ?_ ?_ | refine g_if (fun _ => ?_) (fun _ => ?_)
  all_goals simp (maxDischargeDepth := 60) [TL1Cur.eta, isS_int_cons, isS_nil, deS, List.map_cons, List.map_nil, List.length_cons, List.length_nil, k_l1Byte, k_l1Below, k_l1Once, k_l1PickInt, k_l6DrawRight, k_l6Draw, k_l8DrawIn, k_l8DrawBent, k_l9DrawList, hpre, hc, of_decide_eq_true hpre, l16_a]
theorem p_DrawSnapOf (code : List UInt8) (hpre : (o16 code).1 = true) : (v2_DrawSnapOf code).length ≤ 7 := (Classical.epsilon_spec (e_DrawSnapOf code hpre)).2
theorem m16 (code : List UInt8) (hpre : (o16 code).1 = true) : evFn ⟨Go.Proofs.Try.prog, Hx, 16⟩ T43.call (20 + code.length) f16 [[.sl false 1 (enS false code)]] = some (o16 code).2 := (Classical.epsilon_spec (e_DrawSnapOf code hpre)).1
theorem s16 : SoundAt Go.Proofs.Try.prog Hx 16 c16 := soundAt_of T43_sound mixed func16 (by kernel_rfl) (by
  intro rows r h
  unfold c16 at h
  split at h
  · rename_i code
    obtain ⟨hp, hr⟩ := Prod.mk.inj (Option.some.inj h)
    subst hr
    simp only [Bool.and_eq_true] at hp
    obtain ⟨hs0, hp⟩ := hp
    obtain ⟨xs0, rfl⟩ := isS_ex hs0
    simp only [deS_enS] at hp ⊢
    exact ⟨_, m16 xs0 hp⟩
  · cases h)
def T16 : Table := (16, c16) :: T43
theorem T16_sound : Table.Sound Go.Proofs.Try.prog Hx T16 := Table.sound_cons s16 T43_sound
end Go.Ev
end
