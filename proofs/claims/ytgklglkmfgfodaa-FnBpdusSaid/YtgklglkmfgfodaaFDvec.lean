/- Contracts of functions, each by its evaluation. -/
import Derived.Test.YtgklglkmfgfodaaEvMd
import Derived.Test.YtgklglkmfgfodaaProg
import Derived.KernelRfl
import Derived.Test.YtgklglkmfgfodaaFInok
set_option linter.unusedVariables false
set_option linter.unusedSimpArgs false
set_option maxRecDepth 100000
noncomputable section
open List (getD length drop take set append replicate all isEmpty)
open Int (toNat ofNat)
open Go.IntKind (i64 wrap)
open Go.Proofs.Try (prog f93 f94 func93 func94)
namespace Go.Ev
open Go.RowKit Go.Md
end Go.Ev
namespace Go.Md
open Go Go.Ev
def P_l6DrawRight (c : TL1Cur) (x : Vec × TL1Cur) : Prop := evFn ⟨Go.Proofs.Try.prog, Hx, 93⟩ T71.call 0 f93 [[.sl false 1 c.b, .int .i64 c.i, .int .i64 c.h]] = some ([[.int .i64 x.1.Root, .int .i64 x.1.Cost, .int .i64 x.1.Bridge, .int .i64 x.1.Port]], [[.sl false 1 x.2.b, .int .i64 x.2.i, .int .i64 x.2.h]]) ∧ (curOk x.2 = true)
noncomputable def w_l6DrawRight (c : TL1Cur) : Vec × TL1Cur := @Classical.epsilon (Vec × TL1Cur) ⟨(⟨0, 0, 0, 0⟩, ⟨[], 0, 0⟩)⟩ (P_l6DrawRight c)
noncomputable def v0_l6DrawRight (c : TL1Cur) : Vec := (w_l6DrawRight c).1
noncomputable def b0_l6DrawRight (c : TL1Cur) : TL1Cur := (w_l6DrawRight c).2
end Go.Md
namespace Go.Ev
open Go.Md
def o93 (c : TL1Cur) : Bool × List Row × List Row := (curOk c, [[.int .i64 (v0_l6DrawRight c).Root, .int .i64 (v0_l6DrawRight c).Cost, .int .i64 (v0_l6DrawRight c).Bridge, .int .i64 (v0_l6DrawRight c).Port]], [[.sl false 1 (b0_l6DrawRight c).b, .int .i64 (b0_l6DrawRight c).i, .int .i64 (b0_l6DrawRight c).h]])
def c93 : Contract
  | [[.sl false 1 c_b, .int .i64 c_i, .int .i64 c_h]] => some ((o93 ⟨c_b, c_i, c_h⟩).1, (o93 ⟨c_b, c_i, c_h⟩).2.1, (o93 ⟨c_b, c_i, c_h⟩).2.2)
  | _ => none

theorem r93 (c : TL1Cur) (n : Nat) : evFn ⟨prog, Hx, 93⟩ T71.call n f93 [[.sl false 1 c.b, .int .i64 c.i, .int .i64 c.h]] = bif curOk c then bif curOk (b0_l1Below c (4)) then bif curOk (b0_l1Below (b0_l1Below c (4)) (4)) then bif decide (wrap i64 (wrap i64 (1 + v0_l1Below c (4)) + v0_l1Below (b0_l1Below (b0_l1Below c (4)) (4)) (3)) > wrap i64 (1 + v0_l1Below c (4))) then bif curOk (b0_l1Below (b0_l1Below (b0_l1Below c (4)) (4)) (3)) then some ([[D.int i64 (wrap i64 (1 + v0_l1Below c (4))), D.int i64 (wrap i64 (1 + v0_l1Below (b0_l1Below (b0_l1Below (b0_l1Below c (4)) (4)) (3)) (3))), D.int i64 (wrap i64 (wrap i64 (1 + v0_l1Below c (4)) + v0_l1Below (b0_l1Below (b0_l1Below c (4)) (4)) (3))), D.int i64 (v0_l1Below (b0_l1Below c (4)) (4))]], [[D.sl false 1 (TL1Cur.b (b0_l1Below (b0_l1Below (b0_l1Below (b0_l1Below c (4)) (4)) (3)) (3))), D.int i64 (TL1Cur.i (b0_l1Below (b0_l1Below (b0_l1Below (b0_l1Below c (4)) (4)) (3)) (3))), D.int i64 (TL1Cur.h (b0_l1Below (b0_l1Below (b0_l1Below (b0_l1Below c (4)) (4)) (3)) (3)))]]) else none else some ([[D.int i64 (wrap i64 (1 + v0_l1Below c (4))), D.int i64 (0), D.int i64 (wrap i64 (wrap i64 (1 + v0_l1Below c (4)) + v0_l1Below (b0_l1Below (b0_l1Below c (4)) (4)) (3))), D.int i64 (v0_l1Below (b0_l1Below c (4)) (4))]], [[D.sl false 1 (TL1Cur.b (b0_l1Below (b0_l1Below (b0_l1Below c (4)) (4)) (3))), D.int i64 (TL1Cur.i (b0_l1Below (b0_l1Below (b0_l1Below c (4)) (4)) (3))), D.int i64 (TL1Cur.h (b0_l1Below (b0_l1Below (b0_l1Below c (4)) (4)) (3)))]]) else none else none else none := by kernel_rfl
def G_l6DrawRight (c : TL1Cur) (r : Option (List Row × List Row)) : Prop := ∃ x : Vec × TL1Cur, r = some ([[.int .i64 x.1.Root, .int .i64 x.1.Cost, .int .i64 x.1.Bridge, .int .i64 x.1.Port]], [[.sl false 1 x.2.b, .int .i64 x.2.i, .int .i64 x.2.h]]) ∧ (curOk x.2 = true)
theorem leaf_l6DrawRight (c : TL1Cur) {z0_Root : Int} {z0_Cost : Int} {z0_Bridge : Int} {z0_Port : Int} {z1_b : List (List D)} {z1_i : Int} {z1_h : Int} (h : curOk (⟨z1_b, z1_i, z1_h⟩ : TL1Cur) = true) : G_l6DrawRight c (some ([[.int .i64 z0_Root, .int .i64 z0_Cost, .int .i64 z0_Bridge, .int .i64 z0_Port]], [[.sl false 1 z1_b, .int .i64 z1_i, .int .i64 z1_h]])) := ⟨(⟨z0_Root, z0_Cost, z0_Bridge, z0_Port⟩, ⟨z1_b, z1_i, z1_h⟩), rfl, h⟩
theorem e_l6DrawRight (c : TL1Cur) (hpre : (o93 c).1 = true) : ∃ x, P_l6DrawRight c x := by
  show G_l6DrawRight c _
  refine Eq.mpr (congrArg (G_l6DrawRight c) (r93 c _)) ?_
  replace hpre : (curOk c) = true := hpre
  repeat' first | refine leaf_l6DrawRight _  ?_ | refine g_pre ?_ ?_ | refine g_if (fun _ => ?_) (fun _ => ?_)
  all_goals simp (maxDischargeDepth := 60) [TL1Cur.eta, isS_int_cons, isS_nil, deS, List.map_cons, List.map_nil, List.length_cons, List.length_nil, k_l1Byte, k_l1Below, k_l1Once, k_l1PickInt, hpre]
theorem p_l6DrawRight (c : TL1Cur) (hpre : (o93 c).1 = true) : curOk (b0_l6DrawRight c) = true := (Classical.epsilon_spec (e_l6DrawRight c hpre)).2
theorem k_l6DrawRight (c : TL1Cur) (hpre : (curOk c) = true) : curOk (b0_l6DrawRight c) = true := (p_l6DrawRight c hpre)
theorem m93 (c : TL1Cur) (hpre : (o93 c).1 = true) : evFn ⟨Go.Proofs.Try.prog, Hx, 93⟩ T71.call 0 f93 [[.sl false 1 c.b, .int .i64 c.i, .int .i64 c.h]] = some (o93 c).2 := (Classical.epsilon_spec (e_l6DrawRight c hpre)).1
theorem s93 : SoundAt Go.Proofs.Try.prog Hx 93 c93 := soundAt_of T71_sound mixed func93 (by kernel_rfl) (by
  intro rows r h
  unfold c93 at h
  split at h
  · rename_i c_b c_i c_h
    obtain ⟨hp, hr⟩ := Prod.mk.inj (Option.some.inj h)
    subst hr
    exact ⟨_, m93 ⟨c_b, c_i, c_h⟩ hp⟩
  · cases h)
def T93 : Table := (93, c93) :: T71
theorem T93_sound : Table.Sound Go.Proofs.Try.prog Hx T93 := Table.sound_cons s93 T71_sound
end Go.Ev
namespace Go.Md
open Go Go.Ev
def P_l6Draw (c : TL1Cur) (x : Vec × TL1Cur) : Prop := evFn ⟨Go.Proofs.Try.prog, Hx, 94⟩ T93.call 0 f94 [[.sl false 1 c.b, .int .i64 c.i, .int .i64 c.h]] = some ([[.int .i64 x.1.Root, .int .i64 x.1.Cost, .int .i64 x.1.Bridge, .int .i64 x.1.Port]], [[.sl false 1 x.2.b, .int .i64 x.2.i, .int .i64 x.2.h]]) ∧ (curOk x.2 = true)
noncomputable def w_l6Draw (c : TL1Cur) : Vec × TL1Cur := @Classical.epsilon (Vec × TL1Cur) ⟨(⟨0, 0, 0, 0⟩, ⟨[], 0, 0⟩)⟩ (P_l6Draw c)
noncomputable def v0_l6Draw (c : TL1Cur) : Vec := (w_l6Draw c).1
noncomputable def b0_l6Draw (c : TL1Cur) : TL1Cur := (w_l6Draw c).2
end Go.Md
namespace Go.Ev
open Go.Md
def o94 (c : TL1Cur) : Bool × List Row × List Row := (curOk c, [[.int .i64 (v0_l6Draw c).Root, .int .i64 (v0_l6Draw c).Cost, .int .i64 (v0_l6Draw c).Bridge, .int .i64 (v0_l6Draw c).Port]], [[.sl false 1 (b0_l6Draw c).b, .int .i64 (b0_l6Draw c).i, .int .i64 (b0_l6Draw c).h]])
def c94 : Contract
  | [[.sl false 1 c_b, .int .i64 c_i, .int .i64 c_h]] => some ((o94 ⟨c_b, c_i, c_h⟩).1, (o94 ⟨c_b, c_i, c_h⟩).2.1, (o94 ⟨c_b, c_i, c_h⟩).2.2)
  | _ => none

theorem r94 (c : TL1Cur) (n : Nat) : evFn ⟨prog, Hx, 94⟩ T93.call n f94 [[.sl false 1 c.b, .int .i64 c.i, .int .i64 c.h]] = bif curOk c then bif curOk (b0_l6DrawRight c) then bif v0_l1Below (b0_l6DrawRight c) (10) == 0 then bif isS Int true [[D.int i64 (0)], [D.int i64 (9)], [D.int i64 (10)]] && (curOk (b0_l1Below (b0_l6DrawRight c) (10)) && (decide (0 < length (deS Int [[D.int i64 (0)], [D.int i64 (9)], [D.int i64 (10)]])) && decide (length (deS Int [[D.int i64 (0)], [D.int i64 (9)], [D.int i64 (10)]]) ≤ 1048576))) then some ([[D.int i64 (v0_l1PickInt (b0_l1Below (b0_l6DrawRight c) (10)) (deS Int [[D.int i64 (0)], [D.int i64 (9)], [D.int i64 (10)]])), D.int i64 (Vec.Cost (v0_l6DrawRight c)), D.int i64 (Vec.Bridge (v0_l6DrawRight c)), D.int i64 (Vec.Port (v0_l6DrawRight c))]], [[D.sl false 1 (TL1Cur.b (b0_l1PickInt (b0_l1Below (b0_l6DrawRight c) (10)) (deS Int [[D.int i64 (0)], [D.int i64 (9)], [D.int i64 (10)]]))), D.int i64 (TL1Cur.i (b0_l1PickInt (b0_l1Below (b0_l6DrawRight c) (10)) (deS Int [[D.int i64 (0)], [D.int i64 (9)], [D.int i64 (10)]]))), D.int i64 (TL1Cur.h (b0_l1PickInt (b0_l1Below (b0_l6DrawRight c) (10)) (deS Int [[D.int i64 (0)], [D.int i64 (9)], [D.int i64 (10)]])))]]) else none else bif v0_l1Below (b0_l6DrawRight c) (10) == 1 then bif isS Int true [[D.int i64 (Int.negSucc 0)], [D.int i64 (0)], [D.int i64 (20)], [D.int i64 (21)]] && (curOk (b0_l1Below (b0_l6DrawRight c) (10)) && (decide (0 < length (deS Int [[D.int i64 (Int.negSucc 0)], [D.int i64 (0)], [D.int i64 (20)], [D.int i64 (21)]])) && decide (length (deS Int [[D.int i64 (Int.negSucc 0)], [D.int i64 (0)], [D.int i64 (20)], [D.int i64 (21)]]) ≤ 1048576))) then some ([[D.int i64 (Vec.Root (v0_l6DrawRight c)), D.int i64 (v0_l1PickInt (b0_l1Below (b0_l6DrawRight c) (10)) (deS Int [[D.int i64 (Int.negSucc 0)], [D.int i64 (0)], [D.int i64 (20)], [D.int i64 (21)]])), D.int i64 (Vec.Bridge (v0_l6DrawRight c)), D.int i64 (Vec.Port (v0_l6DrawRight c))]], [[D.sl false 1 (TL1Cur.b (b0_l1PickInt (b0_l1Below (b0_l6DrawRight c) (10)) (deS Int [[D.int i64 (Int.negSucc 0)], [D.int i64 (0)], [D.int i64 (20)], [D.int i64 (21)]]))), D.int i64 (TL1Cur.i (b0_l1PickInt (b0_l1Below (b0_l6DrawRight c) (10)) (deS Int [[D.int i64 (Int.negSucc 0)], [D.int i64 (0)], [D.int i64 (20)], [D.int i64 (21)]]))), D.int i64 (TL1Cur.h (b0_l1PickInt (b0_l1Below (b0_l6DrawRight c) (10)) (deS Int [[D.int i64 (Int.negSucc 0)], [D.int i64 (0)], [D.int i64 (20)], [D.int i64 (21)]])))]]) else none else bif v0_l1Below (b0_l6DrawRight c) (10) == 2 then bif isS Int true [[D.int i64 (0)], [D.int i64 (9)], [D.int i64 (10)]] && (curOk (b0_l1Below (b0_l6DrawRight c) (10)) && (decide (0 < length (deS Int [[D.int i64 (0)], [D.int i64 (9)], [D.int i64 (10)]])) && decide (length (deS Int [[D.int i64 (0)], [D.int i64 (9)], [D.int i64 (10)]]) ≤ 1048576))) then some ([[D.int i64 (Vec.Root (v0_l6DrawRight c)), D.int i64 (Vec.Cost (v0_l6DrawRight c)), D.int i64 (v0_l1PickInt (b0_l1Below (b0_l6DrawRight c) (10)) (deS Int [[D.int i64 (0)], [D.int i64 (9)], [D.int i64 (10)]])), D.int i64 (Vec.Port (v0_l6DrawRight c))]], [[D.sl false 1 (TL1Cur.b (b0_l1PickInt (b0_l1Below (b0_l6DrawRight c) (10)) (deS Int [[D.int i64 (0)], [D.int i64 (9)], [D.int i64 (10)]]))), D.int i64 (TL1Cur.i (b0_l1PickInt (b0_l1Below (b0_l6DrawRight c) (10)) (deS Int [[D.int i64 (0)], [D.int i64 (9)], [D.int i64 (10)]]))), D.int i64 (TL1Cur.h (b0_l1PickInt (b0_l1Below (b0_l6DrawRight c) (10)) (deS Int [[D.int i64 (0)], [D.int i64 (9)], [D.int i64 (10)]])))]]) else none else bif v0_l1Below (b0_l6DrawRight c) (10) == 3 then bif isS Int true [[D.int i64 (Int.negSucc 0)], [D.int i64 (3)], [D.int i64 (4)]] && (curOk (b0_l1Below (b0_l6DrawRight c) (10)) && (decide (0 < length (deS Int [[D.int i64 (Int.negSucc 0)], [D.int i64 (3)], [D.int i64 (4)]])) && decide (length (deS Int [[D.int i64 (Int.negSucc 0)], [D.int i64 (3)], [D.int i64 (4)]]) ≤ 1048576))) then some ([[D.int i64 (Vec.Root (v0_l6DrawRight c)), D.int i64 (Vec.Cost (v0_l6DrawRight c)), D.int i64 (Vec.Bridge (v0_l6DrawRight c)), D.int i64 (v0_l1PickInt (b0_l1Below (b0_l6DrawRight c) (10)) (deS Int [[D.int i64 (Int.negSucc 0)], [D.int i64 (3)], [D.int i64 (4)]]))]], [[D.sl false 1 (TL1Cur.b (b0_l1PickInt (b0_l1Below (b0_l6DrawRight c) (10)) (deS Int [[D.int i64 (Int.negSucc 0)], [D.int i64 (3)], [D.int i64 (4)]]))), D.int i64 (TL1Cur.i (b0_l1PickInt (b0_l1Below (b0_l6DrawRight c) (10)) (deS Int [[D.int i64 (Int.negSucc 0)], [D.int i64 (3)], [D.int i64 (4)]]))), D.int i64 (TL1Cur.h (b0_l1PickInt (b0_l1Below (b0_l6DrawRight c) (10)) (deS Int [[D.int i64 (Int.negSucc 0)], [D.int i64 (3)], [D.int i64 (4)]])))]]) else none else some ([En.enc true (v0_l6DrawRight c)], [[D.sl false 1 (TL1Cur.b (b0_l1Below (b0_l6DrawRight c) (10))), D.int i64 (TL1Cur.i (b0_l1Below (b0_l6DrawRight c) (10))), D.int i64 (TL1Cur.h (b0_l1Below (b0_l6DrawRight c) (10)))]]) else none else none := by kernel_rfl
def G_l6Draw (c : TL1Cur) (r : Option (List Row × List Row)) : Prop := ∃ x : Vec × TL1Cur, r = some ([[.int .i64 x.1.Root, .int .i64 x.1.Cost, .int .i64 x.1.Bridge, .int .i64 x.1.Port]], [[.sl false 1 x.2.b, .int .i64 x.2.i, .int .i64 x.2.h]]) ∧ (curOk x.2 = true)
theorem leaf_l6Draw (c : TL1Cur) {z0_Root : Int} {z0_Cost : Int} {z0_Bridge : Int} {z0_Port : Int} {z1_b : List (List D)} {z1_i : Int} {z1_h : Int} (h : curOk (⟨z1_b, z1_i, z1_h⟩ : TL1Cur) = true) : G_l6Draw c (some ([[.int .i64 z0_Root, .int .i64 z0_Cost, .int .i64 z0_Bridge, .int .i64 z0_Port]], [[.sl false 1 z1_b, .int .i64 z1_i, .int .i64 z1_h]])) := ⟨(⟨z0_Root, z0_Cost, z0_Bridge, z0_Port⟩, ⟨z1_b, z1_i, z1_h⟩), rfl, h⟩
theorem e_l6Draw (c : TL1Cur) (hpre : (o94 c).1 = true) : ∃ x, P_l6Draw c x := by
  show G_l6Draw c _
  refine Eq.mpr (congrArg (G_l6Draw c) (r94 c _)) ?_
  replace hpre : (curOk c) = true := hpre
  repeat' first | refine leaf_l6Draw _  ?_ | refine g_pre ?_ ?_ | refine g_if (fun _ => ?_) (fun _ => ?_)
  all_goals simp (maxDischargeDepth := 60) [TL1Cur.eta, isS_int_cons, isS_nil, deS, List.map_cons, List.map_nil, List.length_cons, List.length_nil, k_l1Byte, k_l1Below, k_l1Once, k_l1PickInt, k_l6DrawRight, hpre]
theorem p_l6Draw (c : TL1Cur) (hpre : (o94 c).1 = true) : curOk (b0_l6Draw c) = true := (Classical.epsilon_spec (e_l6Draw c hpre)).2
theorem k_l6Draw (c : TL1Cur) (hpre : (curOk c) = true) : curOk (b0_l6Draw c) = true := (p_l6Draw c hpre)
theorem m94 (c : TL1Cur) (hpre : (o94 c).1 = true) : evFn ⟨Go.Proofs.Try.prog, Hx, 94⟩ T93.call 0 f94 [[.sl false 1 c.b, .int .i64 c.i, .int .i64 c.h]] = some (o94 c).2 := (Classical.epsilon_spec (e_l6Draw c hpre)).1
theorem s94 : SoundAt Go.Proofs.Try.prog Hx 94 c94 := soundAt_of T93_sound mixed func94 (by kernel_rfl) (by
  intro rows r h
  unfold c94 at h
  split at h
  · rename_i c_b c_i c_h
    obtain ⟨hp, hr⟩ := Prod.mk.inj (Option.some.inj h)
    subst hr
    exact ⟨_, m94 ⟨c_b, c_i, c_h⟩ hp⟩
  · cases h)
def T94 : Table := (94, c94) :: T93
theorem T94_sound : Table.Sound Go.Proofs.Try.prog Hx T94 := Table.sound_cons s94 T93_sound
end Go.Ev
end
