/- Contracts of functions, each by its evaluation. -/
import Derived.Test.YtgklglkmfgfodaaEvMd
import Derived.Test.YtgklglkmfgfodaaProg
import Derived.KernelRfl
import Derived.Test.YtgklglkmfgfodaaFBucket
set_option linter.unusedVariables false
set_option linter.unusedSimpArgs false
set_option maxRecDepth 100000
noncomputable section
open List (getD length drop take set append replicate all isEmpty)
open Int (toNat ofNat)
open Go.IntKind (i64 wrap)
open Go.Proofs.Try (prog f11 f14 f15 f16 f3 f58 f8 func11 func14 func15 func16 func3 func58 func8)
namespace Go.Ev
open Go.RowKit Go.Md
end Go.Ev
namespace Go.Md
open Go Go.Ev
def P_l23Draw (c : TL1Cur) (x : Bucket × TL1Cur) : Prop := evFn ⟨Go.Proofs.Try.prog, Hx, 58⟩ T10.call 0 f58 [[.sl false 1 c.b, .int .i64 c.i, .int .i64 c.h]] = some ([[.int .i64 x.1.Have, .int .i64 x.1.Most, .int .i64 x.1.Per]], [[.sl false 1 x.2.b, .int .i64 x.2.i, .int .i64 x.2.h]]) ∧ (curOk x.2 = true)
noncomputable def w_l23Draw (c : TL1Cur) : Bucket × TL1Cur := @Classical.epsilon (Bucket × TL1Cur) ⟨(⟨0, 0, 0⟩, ⟨[], 0, 0⟩)⟩ (P_l23Draw c)
noncomputable def v0_l23Draw (c : TL1Cur) : Bucket := (w_l23Draw c).1
noncomputable def b0_l23Draw (c : TL1Cur) : TL1Cur := (w_l23Draw c).2
end Go.Md
namespace Go.Ev
open Go.Md
def o58 (c : TL1Cur) : Bool × List Row × List Row := (curOk c, [[.int .i64 (v0_l23Draw c).Have, .int .i64 (v0_l23Draw c).Most, .int .i64 (v0_l23Draw c).Per]], [[.sl false 1 (b0_l23Draw c).b, .int .i64 (b0_l23Draw c).i, .int .i64 (b0_l23Draw c).h]])
def c58 : Contract
  | [[.sl false 1 c_b, .int .i64 c_i, .int .i64 c_h]] => some ((o58 ⟨c_b, c_i, c_h⟩).1, (o58 ⟨c_b, c_i, c_h⟩).2.1, (o58 ⟨c_b, c_i, c_h⟩).2.2)
  | _ => none

def v58_0 : List (List D) := [[D.int i64 (1)], [D.int i64 (5)], [D.int i64 (10)], [D.int i64 (1000)]]
def v58_1 : List Int := deS Int v58_0
def v58_2 (c : TL1Cur) : Int := Bucket.Most (buckNew (v0_l1PickInt c v58_1) (v0_l1Below (b0_l1PickInt c v58_1) (2)))
def v58_3 (c : TL1Cur) : Int := wrap i64 (v58_2 c + 1)
def v58_4 (c : TL1Cur) : Int := v0_l1Below (b0_l1Below (b0_l1Below (b0_l1PickInt c v58_1) (2)) (v58_3 c)) (8)
def v58_5 : List D := [D.int i64 (Int.negSucc 0)]
def v58_6 : List (List D) := [[D.int i64 (0)], v58_5, [D.int i64 (1001)]]
def v58_7 (c : TL1Cur) : Bool := curOk (b0_l1Below (b0_l1Below (b0_l1Below (b0_l1PickInt c v58_1) (2)) (v58_3 c)) (8))
def v58_8 : List Int := deS Int v58_6
def v58_9 (c : TL1Cur) : List D := [D.int i64 (Bucket.Per (buckNew (v0_l1PickInt c v58_1) (v0_l1Below (b0_l1PickInt c v58_1) (2))))]
def v58_10 (c : TL1Cur) : List (List D) := [v58_5, [D.int i64 (v58_2 c)], [D.int i64 (v58_3 c)]]
def v58_11 (c : TL1Cur) : List Int := deS Int (v58_10 c)
def v58_12 (c : TL1Cur) : Bool := isS Int true (v58_10 c) && (v58_7 c && (decide (0 < length (v58_11 c)) && decide (length (v58_11 c) ≤ 1048576)))
def v58_13 (c : TL1Cur) : List Row := [[D.sl false 1 (TL1Cur.b (b0_l1PickInt (b0_l1Below (b0_l1Below (b0_l1Below (b0_l1PickInt c v58_1) (2)) (v58_3 c)) (8)) (v58_11 c))), D.int i64 (TL1Cur.i (b0_l1PickInt (b0_l1Below (b0_l1Below (b0_l1Below (b0_l1PickInt c v58_1) (2)) (v58_3 c)) (8)) (v58_11 c))), D.int i64 (TL1Cur.h (b0_l1PickInt (b0_l1Below (b0_l1Below (b0_l1Below (b0_l1PickInt c v58_1) (2)) (v58_3 c)) (8)) (v58_11 c)))]]
def v58_14 (c : TL1Cur) : List D := D.int i64 (v58_2 c) :: v58_9 c
theorem r58 (c : TL1Cur) (n : Nat) : evFn ⟨prog, Hx, 58⟩ T10.call n f58 [[.sl false 1 c.b, .int .i64 c.i, .int .i64 c.h]] = bif isS Int true v58_0 && (curOk c && (decide (0 < length v58_1) && decide (length v58_1 ≤ 1048576))) then bif curOk (b0_l1PickInt c v58_1) then bif curOk (b0_l1Below (b0_l1PickInt c v58_1) (2)) then bif curOk (b0_l1Below (b0_l1Below (b0_l1PickInt c v58_1) (2)) (v58_3 c)) then bif v58_4 c == 0 then bif isS Int true v58_6 && (v58_7 c && (decide (0 < length v58_8) && decide (length v58_8 ≤ 1048576))) then some ([D.int i64 (v0_l1Below (b0_l1Below (b0_l1PickInt c v58_1) (2)) (v58_3 c)) :: D.int i64 (v0_l1PickInt (b0_l1Below (b0_l1Below (b0_l1Below (b0_l1PickInt c v58_1) (2)) (v58_3 c)) (8)) v58_8) :: v58_9 c], [[D.sl false 1 (TL1Cur.b (b0_l1PickInt (b0_l1Below (b0_l1Below (b0_l1Below (b0_l1PickInt c v58_1) (2)) (v58_3 c)) (8)) v58_8)), D.int i64 (TL1Cur.i (b0_l1PickInt (b0_l1Below (b0_l1Below (b0_l1Below (b0_l1PickInt c v58_1) (2)) (v58_3 c)) (8)) v58_8)), D.int i64 (TL1Cur.h (b0_l1PickInt (b0_l1Below (b0_l1Below (b0_l1Below (b0_l1PickInt c v58_1) (2)) (v58_3 c)) (8)) v58_8))]]) else none else bif v58_4 c == 1 then bif v58_12 c then some ([[D.int i64 (v0_l1Below (b0_l1Below (b0_l1PickInt c v58_1) (2)) (v58_3 c)), D.int i64 (v58_2 c), D.int i64 (v0_l1PickInt (b0_l1Below (b0_l1Below (b0_l1Below (b0_l1PickInt c v58_1) (2)) (v58_3 c)) (8)) (v58_11 c))]], v58_13 c) else none else bif v58_4 c == 2 then bif v58_12 c then some ([D.int i64 (v0_l1PickInt (b0_l1Below (b0_l1Below (b0_l1Below (b0_l1PickInt c v58_1) (2)) (v58_3 c)) (8)) (v58_11 c)) :: v58_14 c], v58_13 c) else none else some ([D.int i64 (v0_l1Below (b0_l1Below (b0_l1PickInt c v58_1) (2)) (v58_3 c)) :: v58_14 c], [[D.sl false 1 (TL1Cur.b (b0_l1Below (b0_l1Below (b0_l1Below (b0_l1PickInt c v58_1) (2)) (v58_3 c)) (8))), D.int i64 (TL1Cur.i (b0_l1Below (b0_l1Below (b0_l1Below (b0_l1PickInt c v58_1) (2)) (v58_3 c)) (8))), D.int i64 (TL1Cur.h (b0_l1Below (b0_l1Below (b0_l1Below (b0_l1PickInt c v58_1) (2)) (v58_3 c)) (8)))]]) else none else none else none else none := by kernel_rfl
def G_l23Draw (c : TL1Cur) (r : Option (List Row × List Row)) : Prop := ∃ x : Bucket × TL1Cur, r = some ([[.int .i64 x.1.Have, .int .i64 x.1.Most, .int .i64 x.1.Per]], [[.sl false 1 x.2.b, .int .i64 x.2.i, .int .i64 x.2.h]]) ∧ (curOk x.2 = true)
theorem leaf_l23Draw (c : TL1Cur) {z0_Have : Int} {z0_Most : Int} {z0_Per : Int} {z1_b : List (List D)} {z1_i : Int} {z1_h : Int} (h : curOk (⟨z1_b, z1_i, z1_h⟩ : TL1Cur) = true) : G_l23Draw c (some ([[.int .i64 z0_Have, .int .i64 z0_Most, .int .i64 z0_Per]], [[.sl false 1 z1_b, .int .i64 z1_i, .int .i64 z1_h]])) := ⟨(⟨z0_Have, z0_Most, z0_Per⟩, ⟨z1_b, z1_i, z1_h⟩), rfl, h⟩
theorem e_l23Draw (c : TL1Cur) (hpre : (o58 c).1 = true) : ∃ x, P_l23Draw c x := by
  show G_l23Draw c _
  refine Eq.mpr (congrArg (G_l23Draw c) (r58 c _)) ?_
  replace hpre : (curOk c) = true := hpre
  repeat' first | refine leaf_l23Draw _  ?_ | refine g_pre ?_ ?_ | refine g_if (fun _ => ?_) (fun _ => ?_)
  all_goals simp (maxDischargeDepth := 60) [v58_0, v58_1, v58_2, v58_3, v58_4, v58_5, v58_6, v58_7, v58_8, v58_9, v58_10, v58_11, v58_12, v58_13, v58_14, TL1Cur.eta, isS_int_cons, isS_nil, deS, List.map_cons, List.map_nil, List.length_cons, List.length_nil, k_l1Byte, k_l1Below, k_l1Once, k_l1PickInt, hpre]
theorem p_l23Draw (c : TL1Cur) (hpre : (o58 c).1 = true) : curOk (b0_l23Draw c) = true := (Classical.epsilon_spec (e_l23Draw c hpre)).2
theorem k_l23Draw (c : TL1Cur) (hpre : (curOk c) = true) : curOk (b0_l23Draw c) = true := (p_l23Draw c hpre)
theorem m58 (c : TL1Cur) (hpre : (o58 c).1 = true) : evFn ⟨Go.Proofs.Try.prog, Hx, 58⟩ T10.call 0 f58 [[.sl false 1 c.b, .int .i64 c.i, .int .i64 c.h]] = some (o58 c).2 := (Classical.epsilon_spec (e_l23Draw c hpre)).1
theorem s58 : SoundAt Go.Proofs.Try.prog Hx 58 c58 := soundAt_of T10_sound mixed func58 (by kernel_rfl) (by
  intro rows r h
  unfold c58 at h
  split at h
  · rename_i c_b c_i c_h
    obtain ⟨hp, hr⟩ := Prod.mk.inj (Option.some.inj h)
    subst hr
    exact ⟨_, m58 ⟨c_b, c_i, c_h⟩ hp⟩
  · cases h)
def T58 : Table := (58, c58) :: T10
theorem T58_sound : Table.Sound Go.Proofs.Try.prog Hx T58 := Table.sound_cons s58 T10_sound
end Go.Ev
namespace Go.Md
open Go Go.Ev
def P_DrawBucketTick (code : List UInt8) (x : Bucket) : Prop := evFn ⟨Go.Proofs.Try.prog, Hx, 14⟩ T58.call (2 + code.length) f14 [[.sl false 1 (enS false code)]] = some ([[.int .i64 x.Have, .int .i64 x.Most, .int .i64 x.Per]], []) ∧ (True)
noncomputable def w_DrawBucketTick (code : List UInt8) : Bucket := @Classical.epsilon (Bucket) ⟨⟨0, 0, 0⟩⟩ (P_DrawBucketTick code)
noncomputable def v0_DrawBucketTick (code : List UInt8) : Bucket := (w_DrawBucketTick code)
end Go.Md
namespace Go.Ev
open Go.Md
def o14 (code : List UInt8) : Bool × List Row × List Row := (decide (code.length ≤ 1048576), [[.int .i64 (v0_DrawBucketTick code).Have, .int .i64 (v0_DrawBucketTick code).Most, .int .i64 (v0_DrawBucketTick code).Per]], [])
def c14 : Contract
  | [[.sl false 1 code]] => some (isS UInt8 false code && (o14 (deS UInt8 code)).1, (o14 (deS UInt8 code)).2.1, (o14 (deS UInt8 code)).2.2)
  | _ => none

theorem r14 (code : List UInt8) (n : Nat) : evFn ⟨prog, Hx, 14⟩ T58.call n f14 [[.sl false 1 (enS false code)]] = bif isS UInt8 false (enS false code) && decide (length (deS UInt8 (enS false code)) ≤ 1048576) then bif curOk (v0_l1New (deS UInt8 (enS false code))) then some ([En.enc true (v0_l23Draw (v0_l1New (deS UInt8 (enS false code))))], []) else none else none := by kernel_rfl
def G_DrawBucketTick (code : List UInt8) (r : Option (List Row × List Row)) : Prop := ∃ x : Bucket, r = some ([[.int .i64 x.Have, .int .i64 x.Most, .int .i64 x.Per]], []) ∧ (True)
theorem leaf_DrawBucketTick (code : List UInt8) {z0_Have : Int} {z0_Most : Int} {z0_Per : Int} (h : True) : G_DrawBucketTick code (some ([[.int .i64 z0_Have, .int .i64 z0_Most, .int .i64 z0_Per]], [])) := ⟨⟨z0_Have, z0_Most, z0_Per⟩, rfl, h⟩
theorem e_DrawBucketTick (code : List UInt8) (hpre : (o14 code).1 = true) : ∃ x, P_DrawBucketTick code x := by
  show G_DrawBucketTick code _
  refine Eq.mpr (congrArg (G_DrawBucketTick code) (r14 code _)) ?_
  replace hpre : (decide (code.length ≤ 1048576)) = true := hpre
  simp only [isS_enS, deS_enS, Bool.true_and]
  have hc := p_l1New code hpre
  repeat' first | refine leaf_DrawBucketTick _  ?_ | refine g_pre ?_ ?_ | refine g_if (fun _ => ?_) (fun _ => ?_)
  all_goals simp (maxDischargeDepth := 60) [TL1Cur.eta, isS_int_cons, isS_nil, deS, List.map_cons, List.map_nil, List.length_cons, List.length_nil, k_l1Byte, k_l1Below, k_l1Once, k_l1PickInt, k_l23Draw, hpre, hc, of_decide_eq_true hpre]
theorem p_DrawBucketTick (code : List UInt8) (hpre : (o14 code).1 = true) : True := (Classical.epsilon_spec (e_DrawBucketTick code hpre)).2
theorem m14 (code : List UInt8) (hpre : (o14 code).1 = true) : evFn ⟨Go.Proofs.Try.prog, Hx, 14⟩ T58.call (2 + code.length) f14 [[.sl false 1 (enS false code)]] = some (o14 code).2 := (Classical.epsilon_spec (e_DrawBucketTick code hpre)).1
theorem s14 : SoundAt Go.Proofs.Try.prog Hx 14 c14 := soundAt_of T58_sound mixed func14 (by kernel_rfl) (by
  intro rows r h
  unfold c14 at h
  split at h
  · rename_i code
    obtain ⟨hp, hr⟩ := Prod.mk.inj (Option.some.inj h)
    subst hr
    simp only [Bool.and_eq_true] at hp
    obtain ⟨hs0, hp⟩ := hp
    obtain ⟨xs0, rfl⟩ := isS_ex hs0
    simp only [deS_enS] at hp ⊢
    exact ⟨_, m14 xs0 hp⟩
  · cases h)
def T14 : Table := (14, c14) :: T58
theorem T14_sound : Table.Sound Go.Proofs.Try.prog Hx T14 := Table.sound_cons s14 T58_sound
end Go.Ev
namespace Go.Md
open Go Go.Ev
def P_DrawBucketOk (code : List UInt8) (x : Bucket) : Prop := evFn ⟨Go.Proofs.Try.prog, Hx, 15⟩ T14.call (2 + code.length) f15 [[.sl false 1 (enS false code)]] = some ([[.int .i64 x.Have, .int .i64 x.Most, .int .i64 x.Per]], []) ∧ (True)
noncomputable def w_DrawBucketOk (code : List UInt8) : Bucket := @Classical.epsilon (Bucket) ⟨⟨0, 0, 0⟩⟩ (P_DrawBucketOk code)
noncomputable def v0_DrawBucketOk (code : List UInt8) : Bucket := (w_DrawBucketOk code)
end Go.Md
namespace Go.Ev
open Go.Md
def o15 (code : List UInt8) : Bool × List Row × List Row := (decide (code.length ≤ 1048576), [[.int .i64 (v0_DrawBucketOk code).Have, .int .i64 (v0_DrawBucketOk code).Most, .int .i64 (v0_DrawBucketOk code).Per]], [])
def c15 : Contract
  | [[.sl false 1 code]] => some (isS UInt8 false code && (o15 (deS UInt8 code)).1, (o15 (deS UInt8 code)).2.1, (o15 (deS UInt8 code)).2.2)
  | _ => none

theorem r15 (code : List UInt8) (n : Nat) : evFn ⟨prog, Hx, 15⟩ T14.call n f15 [[.sl false 1 (enS false code)]] = bif isS UInt8 false (enS false code) && decide (length (deS UInt8 (enS false code)) ≤ 1048576) then bif curOk (v0_l1New (deS UInt8 (enS false code))) then some ([En.enc true (v0_l23Draw (v0_l1New (deS UInt8 (enS false code))))], []) else none else none := by kernel_rfl
def G_DrawBucketOk (code : List UInt8) (r : Option (List Row × List Row)) : Prop := ∃ x : Bucket, r = some ([[.int .i64 x.Have, .int .i64 x.Most, .int .i64 x.Per]], []) ∧ (True)
theorem leaf_DrawBucketOk (code : List UInt8) {z0_Have : Int} {z0_Most : Int} {z0_Per : Int} (h : True) : G_DrawBucketOk code (some ([[.int .i64 z0_Have, .int .i64 z0_Most, .int .i64 z0_Per]], [])) := ⟨⟨z0_Have, z0_Most, z0_Per⟩, rfl, h⟩
theorem e_DrawBucketOk (code : List UInt8) (hpre : (o15 code).1 = true) : ∃ x, P_DrawBucketOk code x := by
  show G_DrawBucketOk code _
  refine Eq.mpr (congrArg (G_DrawBucketOk code) (r15 code _)) ?_
  replace hpre : (decide (code.length ≤ 1048576)) = true := hpre
  simp only [isS_enS, deS_enS, Bool.true_and]
  have hc := p_l1New code hpre
  repeat' first | refine leaf_DrawBucketOk _  ?_ | refine g_pre ?_ ?_ | refine g_if (fun _ => ?_) (fun _ => ?_)
  all_goals simp (maxDischargeDepth := 60) [TL1Cur.eta, isS_int_cons, isS_nil, deS, List.map_cons, List.map_nil, List.length_cons, List.length_nil, k_l1Byte, k_l1Below, k_l1Once, k_l1PickInt, k_l23Draw, hpre, hc, of_decide_eq_true hpre]
theorem p_DrawBucketOk (code : List UInt8) (hpre : (o15 code).1 = true) : True := (Classical.epsilon_spec (e_DrawBucketOk code hpre)).2
theorem m15 (code : List UInt8) (hpre : (o15 code).1 = true) : evFn ⟨Go.Proofs.Try.prog, Hx, 15⟩ T14.call (2 + code.length) f15 [[.sl false 1 (enS false code)]] = some (o15 code).2 := (Classical.epsilon_spec (e_DrawBucketOk code hpre)).1
theorem s15 : SoundAt Go.Proofs.Try.prog Hx 15 c15 := soundAt_of T14_sound mixed func15 (by kernel_rfl) (by
  intro rows r h
  unfold c15 at h
  split at h
  · rename_i code
    obtain ⟨hp, hr⟩ := Prod.mk.inj (Option.some.inj h)
    subst hr
    simp only [Bool.and_eq_true] at hp
    obtain ⟨hs0, hp⟩ := hp
    obtain ⟨xs0, rfl⟩ := isS_ex hs0
    simp only [deS_enS] at hp ⊢
    exact ⟨_, m15 xs0 hp⟩
  · cases h)
def T15 : Table := (15, c15) :: T14
theorem T15_sound : Table.Sound Go.Proofs.Try.prog Hx T15 := Table.sound_cons s15 T14_sound
end Go.Ev
namespace Go.Md
open Go Go.Ev
def P_DrawBucketNew (code : List UInt8) (x : Int × Int) : Prop := evFn ⟨Go.Proofs.Try.prog, Hx, 16⟩ T15.call (2 + code.length) f16 [[.sl false 1 (enS false code)]] = some ([[.int .i64 x.1], [.int .i64 x.2]], []) ∧ (True)
noncomputable def w_DrawBucketNew (code : List UInt8) : Int × Int := @Classical.epsilon (Int × Int) ⟨(0, 0)⟩ (P_DrawBucketNew code)
noncomputable def v0_DrawBucketNew (code : List UInt8) : Int := (w_DrawBucketNew code).1
noncomputable def v1_DrawBucketNew (code : List UInt8) : Int := (w_DrawBucketNew code).2
end Go.Md
namespace Go.Ev
open Go.Md
def o16 (code : List UInt8) : Bool × List Row × List Row := (decide (code.length ≤ 1048576), [[.int .i64 (v0_DrawBucketNew code)], [.int .i64 (v1_DrawBucketNew code)]], [])
def c16 : Contract
  | [[.sl false 1 code]] => some (isS UInt8 false code && (o16 (deS UInt8 code)).1, (o16 (deS UInt8 code)).2.1, (o16 (deS UInt8 code)).2.2)
  | _ => none

theorem r16 (code : List UInt8) (n : Nat) : evFn ⟨prog, Hx, 16⟩ T15.call n f16 [[.sl false 1 (enS false code)]] = bif isS UInt8 false (enS false code) && decide (length (deS UInt8 (enS false code)) ≤ 1048576) then bif isS Int true [[D.int i64 (1)], [D.int i64 (5)], [D.int i64 (1000)], [D.int i64 (1001)], [D.int i64 (0)], [D.int i64 (Int.negSucc 0)]] && (curOk (v0_l1New (deS UInt8 (enS false code))) && (decide (0 < length (deS Int [[D.int i64 (1)], [D.int i64 (5)], [D.int i64 (1000)], [D.int i64 (1001)], [D.int i64 (0)], [D.int i64 (Int.negSucc 0)]])) && decide (length (deS Int [[D.int i64 (1)], [D.int i64 (5)], [D.int i64 (1000)], [D.int i64 (1001)], [D.int i64 (0)], [D.int i64 (Int.negSucc 0)]]) ≤ 1048576))) then bif isS Int true [[D.int i64 (0)], [D.int i64 (1)], [D.int i64 (5)], [D.int i64 (6)], [D.int i64 (Int.negSucc 0)]] && (curOk (b0_l1PickInt (v0_l1New (deS UInt8 (enS false code))) (deS Int [[D.int i64 (1)], [D.int i64 (5)], [D.int i64 (1000)], [D.int i64 (1001)], [D.int i64 (0)], [D.int i64 (Int.negSucc 0)]])) && (decide (0 < length (deS Int [[D.int i64 (0)], [D.int i64 (1)], [D.int i64 (5)], [D.int i64 (6)], [D.int i64 (Int.negSucc 0)]])) && decide (length (deS Int [[D.int i64 (0)], [D.int i64 (1)], [D.int i64 (5)], [D.int i64 (6)], [D.int i64 (Int.negSucc 0)]]) ≤ 1048576))) then some ([[D.int i64 (v0_l1PickInt (v0_l1New (deS UInt8 (enS false code))) (deS Int [[D.int i64 (1)], [D.int i64 (5)], [D.int i64 (1000)], [D.int i64 (1001)], [D.int i64 (0)], [D.int i64 (Int.negSucc 0)]]))], [D.int i64 (v0_l1PickInt (b0_l1PickInt (v0_l1New (deS UInt8 (enS false code))) (deS Int [[D.int i64 (1)], [D.int i64 (5)], [D.int i64 (1000)], [D.int i64 (1001)], [D.int i64 (0)], [D.int i64 (Int.negSucc 0)]])) (deS Int [[D.int i64 (0)], [D.int i64 (1)], [D.int i64 (5)], [D.int i64 (6)], [D.int i64 (Int.negSucc 0)]]))]], []) else none else none else none := by kernel_rfl
def G_DrawBucketNew (code : List UInt8) (r : Option (List Row × List Row)) : Prop := ∃ x : Int × Int, r = some ([[.int .i64 x.1], [.int .i64 x.2]], []) ∧ (True)
theorem leaf_DrawBucketNew (code : List UInt8) {z0 : Int} {z1 : Int} (h : True) : G_DrawBucketNew code (some ([[.int .i64 z0], [.int .i64 z1]], [])) := ⟨(z0, z1), rfl, h⟩
theorem e_DrawBucketNew (code : List UInt8) (hpre : (o16 code).1 = true) : ∃ x, P_DrawBucketNew code x := by
  show G_DrawBucketNew code _
  refine Eq.mpr (congrArg (G_DrawBucketNew code) (r16 code _)) ?_
  replace hpre : (decide (code.length ≤ 1048576)) = true := hpre
  simp only [isS_enS, deS_enS, Bool.true_and]
  have hc := p_l1New code hpre
  repeat' first | refine leaf_DrawBucketNew _  ?_ | refine g_pre ?_ ?_ | refine g_if (fun _ => ?_) (fun _ => ?_)
  all_goals simp (maxDischargeDepth := 60) [TL1Cur.eta, isS_int_cons, isS_nil, deS, List.map_cons, List.map_nil, List.length_cons, List.length_nil, k_l1Byte, k_l1Below, k_l1Once, k_l1PickInt, k_l23Draw, hpre, hc, of_decide_eq_true hpre]
theorem p_DrawBucketNew (code : List UInt8) (hpre : (o16 code).1 = true) : True := (Classical.epsilon_spec (e_DrawBucketNew code hpre)).2
theorem m16 (code : List UInt8) (hpre : (o16 code).1 = true) : evFn ⟨Go.Proofs.Try.prog, Hx, 16⟩ T15.call (2 + code.length) f16 [[.sl false 1 (enS false code)]] = some (o16 code).2 := (Classical.epsilon_spec (e_DrawBucketNew code hpre)).1
theorem s16 : SoundAt Go.Proofs.Try.prog Hx 16 c16 := soundAt_of T15_sound mixed func16 (by kernel_rfl) (by
  intro rows r h
  unfold c16 at h
  split at h
  · rename_i code
    obtain ⟨hp, hr⟩ := Prod.mk.inj (Option.some.inj h)
    subst hr
    simp only [Bool.and_eq_true] at hp
    obtain ⟨hs0, hp⟩ := hp
    obtain ⟨xs0, rfl⟩ := isS_ex hs0
    simp only [deS_enS] at hp ⊢
    exact ⟨_, m16 xs0 hp⟩
  · cases h)
def T16 : Table := (16, c16) :: T15
theorem T16_sound : Table.Sound Go.Proofs.Try.prog Hx T16 := Table.sound_cons s16 T15_sound
end Go.Ev
namespace Go.Md
open Go Go.Ev
def P_DrawAdmit (code : List UInt8) (x : Bucket × Int) : Prop := evFn ⟨Go.Proofs.Try.prog, Hx, 11⟩ T16.call (2 + code.length) f11 [[.sl false 1 (enS false code)]] = some ([[.int .i64 x.1.Have, .int .i64 x.1.Most, .int .i64 x.1.Per], [.int .i64 x.2]], []) ∧ (True)
noncomputable def w_DrawAdmit (code : List UInt8) : Bucket × Int := @Classical.epsilon (Bucket × Int) ⟨(⟨0, 0, 0⟩, 0)⟩ (P_DrawAdmit code)
noncomputable def v0_DrawAdmit (code : List UInt8) : Bucket := (w_DrawAdmit code).1
noncomputable def v1_DrawAdmit (code : List UInt8) : Int := (w_DrawAdmit code).2
end Go.Md
namespace Go.Ev
open Go.Md
def o11 (code : List UInt8) : Bool × List Row × List Row := (decide (code.length ≤ 1048576), [[.int .i64 (v0_DrawAdmit code).Have, .int .i64 (v0_DrawAdmit code).Most, .int .i64 (v0_DrawAdmit code).Per], [.int .i64 (v1_DrawAdmit code)]], [])
def c11 : Contract
  | [[.sl false 1 code]] => some (isS UInt8 false code && (o11 (deS UInt8 code)).1, (o11 (deS UInt8 code)).2.1, (o11 (deS UInt8 code)).2.2)
  | _ => none

theorem r11 (code : List UInt8) (n : Nat) : evFn ⟨prog, Hx, 11⟩ T16.call n f11 [[.sl false 1 (enS false code)]] = bif isS UInt8 false (enS false code) && decide (length (deS UInt8 (enS false code)) ≤ 1048576) then bif curOk (v0_l1New (deS UInt8 (enS false code))) then bif isS Int true [[D.int i64 (1)], [D.int i64 (2)], [D.int i64 (5)], [D.int i64 (Bucket.Have (v0_l23Draw (v0_l1New (deS UInt8 (enS false code)))))], [D.int i64 (0)], [D.int i64 (Int.negSucc 0)], [D.int i64 (9223372036854775807)]] && (curOk (b0_l23Draw (v0_l1New (deS UInt8 (enS false code)))) && (decide (0 < length (deS Int [[D.int i64 (1)], [D.int i64 (2)], [D.int i64 (5)], [D.int i64 (Bucket.Have (v0_l23Draw (v0_l1New (deS UInt8 (enS false code)))))], [D.int i64 (0)], [D.int i64 (Int.negSucc 0)], [D.int i64 (9223372036854775807)]])) && decide (length (deS Int [[D.int i64 (1)], [D.int i64 (2)], [D.int i64 (5)], [D.int i64 (Bucket.Have (v0_l23Draw (v0_l1New (deS UInt8 (enS false code)))))], [D.int i64 (0)], [D.int i64 (Int.negSucc 0)], [D.int i64 (9223372036854775807)]]) ≤ 1048576))) then some ([En.enc true (v0_l23Draw (v0_l1New (deS UInt8 (enS false code)))), [D.int i64 (v0_l1PickInt (b0_l23Draw (v0_l1New (deS UInt8 (enS false code)))) (deS Int [[D.int i64 (1)], [D.int i64 (2)], [D.int i64 (5)], [D.int i64 (Bucket.Have (v0_l23Draw (v0_l1New (deS UInt8 (enS false code)))))], [D.int i64 (0)], [D.int i64 (Int.negSucc 0)], [D.int i64 (9223372036854775807)]]))]], []) else none else none else none := by kernel_rfl
def G_DrawAdmit (code : List UInt8) (r : Option (List Row × List Row)) : Prop := ∃ x : Bucket × Int, r = some ([[.int .i64 x.1.Have, .int .i64 x.1.Most, .int .i64 x.1.Per], [.int .i64 x.2]], []) ∧ (True)
theorem leaf_DrawAdmit (code : List UInt8) {z0_Have : Int} {z0_Most : Int} {z0_Per : Int} {z1 : Int} (h : True) : G_DrawAdmit code (some ([[.int .i64 z0_Have, .int .i64 z0_Most, .int .i64 z0_Per], [.int .i64 z1]], [])) := ⟨(⟨z0_Have, z0_Most, z0_Per⟩, z1), rfl, h⟩
theorem e_DrawAdmit (code : List UInt8) (hpre : (o11 code).1 = true) : ∃ x, P_DrawAdmit code x := by
  show G_DrawAdmit code _
  refine Eq.mpr (congrArg (G_DrawAdmit code) (r11 code _)) ?_
  replace hpre : (decide (code.length ≤ 1048576)) = true := hpre
  simp only [isS_enS, deS_enS, Bool.true_and]
  have hc := p_l1New code hpre
  repeat' first | refine leaf_DrawAdmit _  ?_ | refine g_pre ?_ ?_ | refine g_if (fun _ => ?_) (fun _ => ?_)
  all_goals simp (maxDischargeDepth := 60) [TL1Cur.eta, isS_int_cons, isS_nil, deS, List.map_cons, List.map_nil, List.length_cons, List.length_nil, k_l1Byte, k_l1Below, k_l1Once, k_l1PickInt, k_l23Draw, hpre, hc, of_decide_eq_true hpre]
theorem p_DrawAdmit (code : List UInt8) (hpre : (o11 code).1 = true) : True := (Classical.epsilon_spec (e_DrawAdmit code hpre)).2
theorem m11 (code : List UInt8) (hpre : (o11 code).1 = true) : evFn ⟨Go.Proofs.Try.prog, Hx, 11⟩ T16.call (2 + code.length) f11 [[.sl false 1 (enS false code)]] = some (o11 code).2 := (Classical.epsilon_spec (e_DrawAdmit code hpre)).1
theorem s11 : SoundAt Go.Proofs.Try.prog Hx 11 c11 := soundAt_of T16_sound mixed func11 (by kernel_rfl) (by
  intro rows r h
  unfold c11 at h
  split at h
  · rename_i code
    obtain ⟨hp, hr⟩ := Prod.mk.inj (Option.some.inj h)
    subst hr
    simp only [Bool.and_eq_true] at hp
    obtain ⟨hs0, hp⟩ := hp
    obtain ⟨xs0, rfl⟩ := isS_ex hs0
    simp only [deS_enS] at hp ⊢
    exact ⟨_, m11 xs0 hp⟩
  · cases h)
def T11 : Table := (11, c11) :: T16
theorem T11_sound : Table.Sound Go.Proofs.Try.prog Hx T11 := Table.sound_cons s11 T16_sound
end Go.Ev
namespace Go.Md
open Go Go.Ev
theorem storm_end {b : Bucket} {l : List Int} {a : Int} (h1 : buckOk b = true) (h2 : l.length ≤ 200) (ha : a = tickN l) : (bif decide ((admAll b l).2 ≤ IntKind.wrap IntKind.i64 (b.Have + IntKind.wrap IntKind.i64 (a * b.Per))) then bif buckOk (admAll b l).1 then (some ([[D.bool (decide ((admAll b l).2 ≥ 0))]], []) : Go.Ev.RR) else some ([[D.bool false]], []) else some ([[D.bool false]], [])) = some ([[D.bool true]], []) := by
  obtain ⟨a1, a2, a3, a4⟩ := admL_ok l b 0 h1
  have e : admAll b l = admL l b 0 := by unfold admAll; rw [decide_eq_true h2]; rfl
  have hb := buck_b h1
  have hb2 := buck_b a2
  have ht := tickN_nn l
  have hm : tickN l * b.Per ≤ 200 * 1000 := by
    have h1 : tickN l * b.Per ≤ 200 * b.Per := Int.mul_le_mul_of_nonneg_right (by omega) (by omega)
    omega
  have hm0 : 0 ≤ tickN l * b.Per := Int.mul_nonneg ht.1 (by omega)
  rw [e, a2, ha]
  generalize tickN l * b.Per = m at *
  rw [wrap_sm (show -4611686018427387904 ≤ m by omega) (by omega), wrap_sm (show -4611686018427387904 ≤ b.Have + m by omega) (by omega), decide_eq_true (by omega), decide_eq_true (show (admL l b 0).2 ≥ 0 from a3)]
  rfl
theorem storm_tail {b : Bucket} {l : List Int} {r : Go.Ev.RR} (hr : buckOk b = true → l.length ≤ 200 → r = some ([[D.bool true]], [])) : (bif !buckOk b then (bif (admAll b l).2 == 0 then some ([[D.bool ((admAll b l).1.Have == b.Have && ((admAll b l).1.Most == b.Most && (admAll b l).1.Per == b.Per))]], []) else some ([[D.bool false]], [])) else bif decide (Int.ofNat (Go.Ev.enS true l).length > 200) then (bif (admAll b l).2 == 0 then some ([[D.bool ((admAll b l).1.Have == b.Have && ((admAll b l).1.Most == b.Most && (admAll b l).1.Per == b.Per))]], []) else some ([[D.bool false]], [])) else r) = some ([[D.bool true]], []) := by
  rw [enS_length]
  have key : admAll b l = (b, 0) → (bif (admAll b l).2 == 0 then (some ([[D.bool ((admAll b l).1.Have == b.Have && ((admAll b l).1.Most == b.Most && (admAll b l).1.Per == b.Per))]], []) : Go.Ev.RR) else some ([[D.bool false]], [])) = some ([[D.bool true]], []) := by
    intro h
    rw [h]
    simp
  cases h1 : buckOk b
  · refine key ?_
    unfold admAll
    rw [admL_no h1]
    cases decide (l.length ≤ 200) <;> rfl
  by_cases h2 : l.length ≤ 200
  · rw [decide_eq_false (show ¬ Int.ofNat l.length > 200 by show ¬ (l.length : Int) > 200; omega)]
    exact hr h1 h2
  · rw [decide_eq_true (show Int.ofNat l.length > 200 by show (l.length : Int) > 200; omega)]
    refine key ?_
    unfold admAll
    rw [decide_eq_false h2]
    rfl
end Go.Md
namespace Go.Ev
open Go.Md
end Go.Ev
namespace Go.Md
open Go Go.Ev
def P_DrawAdmitAll (code : List UInt8) (x : Bucket × (List Int)) : Prop := evFn ⟨Go.Proofs.Try.prog, Hx, 8⟩ T11.call (300 + code.length) f8 [[.sl false 1 (enS false code)]] = some ([[.int .i64 x.1.Have, .int .i64 x.1.Most, .int .i64 x.1.Per], [.sl true 1 (enS true x.2)]], []) ∧ (x.2.length ≤ 300)
noncomputable def w_DrawAdmitAll (code : List UInt8) : Bucket × (List Int) := @Classical.epsilon (Bucket × (List Int)) ⟨(⟨0, 0, 0⟩, [])⟩ (P_DrawAdmitAll code)
noncomputable def v0_DrawAdmitAll (code : List UInt8) : Bucket := (w_DrawAdmitAll code).1
noncomputable def v1_DrawAdmitAll (code : List UInt8) : List Int := (w_DrawAdmitAll code).2
end Go.Md
namespace Go.Ev
open Go.Md
def o8 (code : List UInt8) : Bool × List Row × List Row := (decide (code.length ≤ 1048576), [[.int .i64 (v0_DrawAdmitAll code).Have, .int .i64 (v0_DrawAdmitAll code).Most, .int .i64 (v0_DrawAdmitAll code).Per], [.sl true 1 (enS true (v1_DrawAdmitAll code))]], [])
def c8 : Contract
  | [[.sl false 1 code]] => some (isS UInt8 false code && (o8 (deS UInt8 code)).1, (o8 (deS UInt8 code)).2.1, (o8 (deS UInt8 code)).2.2)
  | _ => none

def k8_0 (n : Nat) : Ex → St → RR := kThen (fun st ↦ runCode (Ctx.mk prog Hx (8)) (Table.call T11) n (codeAt [1, 1, 1, 1, 1] (bodyOf f8)) (Lv.mk 12 [] 12) st (kLeave (Ctx.P (Ctx.mk prog Hx (8))) (List.zip (Array.toList (Go.Func.resultTypes f8)) (Array.toList (Go.Func.results f8))) [] [])) (kLeave (Ctx.P (Ctx.mk prog Hx (8))) (List.zip (Array.toList (Go.Func.resultTypes f8)) (Array.toList (Go.Func.results f8))) [] [])
def k8_1 (n : Nat) : Ex → St → RR := kBlock (0) (k8_0 n)
def S8_0 (code : List UInt8) (i0 : Int) (es1 : List (List D)) (i2 : Int) (i3 : Int) (es4 : List (List D)) : St := St.mk [U_, U_, V_ [C.ptr 0 0 0 [] 3 0 0], U_, V_ [C.ptr 1 0 0 [] 3 0 0], V_ [C.ptr 2 0 0 [] 3 0 0], V_ [C.view 4 0 0 [] 1 none], I_ i0, U_, U_, U_, U_, U_, U_, U_, U_, U_, U_, U_, U_, U_, U_, U_, U_, U_, U_, U_, U_, U_, U_, U_, U_, U_] [Root.mk true 3 [[D.int i64 (0), D.int i64 (0), D.int i64 (0)]] 0 0 true true false, Root.mk true 3 [[D.sl false 1 es1, D.int i64 i2, D.int i64 i3]] 0 0 true true false, Root.mk true 3 [En.enc true (v0_l23Draw (v0_l1New (deS UInt8 (enS false code))))] 0 0 true true false, Root.mk false 1 [] 0 0 false true false, Root.mk false 1 es4 0 0 true true false]
def B8_0 (n : Nat) : St → (Ex → St → RR) → RR := runCode (Ctx.mk prog Hx (8)) (Table.call T11) n (codeAt [1, 1, 1, 1, 0, 1, 0, 0] (bodyOf f8)) (Lv.mk 244 [(0, 116)] 12)
def X8_2 (code : List UInt8) (i0 : Int) (es1 : List (List D)) (i2 : Int) (i3 : Int) (es4 : List (List D)) : St := St.mk [U_, U_, V_ [C.ptr 0 0 0 [] 3 0 0], U_, V_ [C.ptr 1 0 0 [] 3 0 0], V_ [C.ptr 2 0 0 [] 3 0 0], V_ [C.view 4 0 0 [] 1 none], I_ i0, U_, U_, U_, U_, U_, I_ i0, V_ [C.ptr 1 0 0 [] 3 0 0], I_ (v0_l1Below (TL1Cur.mk es1 i2 i3) (20)), B_ false, U_, U_, U_, U_, U_, U_, U_, U_, U_, U_, U_, U_, U_, U_, U_, U_] [Root.mk true 3 [[D.int i64 (0), D.int i64 (0), D.int i64 (0)]] 0 0 true true false, Root.mk true 3 [[D.sl false 1 (TL1Cur.b (b0_l1Below (TL1Cur.mk es1 i2 i3) (20))), D.int i64 (TL1Cur.i (b0_l1Below (TL1Cur.mk es1 i2 i3) (20))), D.int i64 (TL1Cur.h (b0_l1Below (TL1Cur.mk es1 i2 i3) (20)))]] 0 1 true true false, Root.mk true 3 [En.enc true (v0_l23Draw (v0_l1New (deS UInt8 (enS false code))))] 0 0 true true false, Root.mk false 1 [] 0 0 false true false, Root.mk false 1 es4 0 0 true true false]
theorem q8_0 (code : List UInt8) (n : Nat) (i0 : Int) (es1 : List (List D)) (i2 : Int) (i3 : Int) (es4 : List (List D)) (f : St → RR) (K : Ex → St → RR) : B8_0 n (S8_0 code i0 es1 i2 i3 es4) (kThen (fun st ↦ f (St.head 4 244 33546432 st)) K) = bif curOk (TL1Cur.mk es1 i2 i3) then bif decide (i0 < v0_l1Below (TL1Cur.mk es1 i2 i3) (20)) then bif isS Int true [[D.int i64 (0)], [D.int i64 (0)], [D.int i64 (1)], [D.int i64 (2)], [D.int i64 (4)], [D.int i64 (Int.negSucc 0)]] && (curOk (b0_l1Below (TL1Cur.mk es1 i2 i3) (20)) && (decide (0 < length (deS Int [[D.int i64 (0)], [D.int i64 (0)], [D.int i64 (1)], [D.int i64 (2)], [D.int i64 (4)], [D.int i64 (Int.negSucc 0)]])) && decide (length (deS Int [[D.int i64 (0)], [D.int i64 (0)], [D.int i64 (1)], [D.int i64 (2)], [D.int i64 (4)], [D.int i64 (Int.negSucc 0)]]) ≤ 1048576))) then bif decide ((length es4 + 1) * 8 ≤ 140737488355328) then f (S8_0 code (wrap i64 (i0 + 1)) (TL1Cur.b (b0_l1PickInt (b0_l1Below (TL1Cur.mk es1 i2 i3) (20)) (deS Int [[D.int i64 (0)], [D.int i64 (0)], [D.int i64 (1)], [D.int i64 (2)], [D.int i64 (4)], [D.int i64 (Int.negSucc 0)]]))) (TL1Cur.i (b0_l1PickInt (b0_l1Below (TL1Cur.mk es1 i2 i3) (20)) (deS Int [[D.int i64 (0)], [D.int i64 (0)], [D.int i64 (1)], [D.int i64 (2)], [D.int i64 (4)], [D.int i64 (Int.negSucc 0)]]))) (TL1Cur.h (b0_l1PickInt (b0_l1Below (TL1Cur.mk es1 i2 i3) (20)) (deS Int [[D.int i64 (0)], [D.int i64 (0)], [D.int i64 (1)], [D.int i64 (2)], [D.int i64 (4)], [D.int i64 (Int.negSucc 0)]]))) (append es4 [[D.int i64 (v0_l1PickInt (b0_l1Below (TL1Cur.mk es1 i2 i3) (20)) (deS Int [[D.int i64 (0)], [D.int i64 (0)], [D.int i64 (1)], [D.int i64 (2)], [D.int i64 (4)], [D.int i64 (Int.negSucc 0)]]))]])) else none else none else K (Ex.exit 0) (X8_2 code i0 es1 i2 i3 es4) else none := by kernel_rfl
theorem aX8_2 (code : List UInt8) (n : Nat) (i0 : Int) (es1 : List (List D)) (i2 : Int) (i3 : Int) (es4 : List (List D)) : k8_1 n (Ex.exit 0) (X8_2 code i0 es1 i2 i3 es4) = bif curOk (b0_l1Below (TL1Cur.mk es1 i2 i3) (20)) then bif v0_l1Once (b0_l1Below (TL1Cur.mk es1 i2 i3) (20)) (40) then bif curOk (b0_l1Once (b0_l1Below (TL1Cur.mk es1 i2 i3) (20)) (40)) then bif decide (0 ≤ wrap i64 (200 + v0_l1Below (b0_l1Once (b0_l1Below (TL1Cur.mk es1 i2 i3) (20)) (40)) (2))) && (decide (wrap i64 (200 + v0_l1Below (b0_l1Once (b0_l1Below (TL1Cur.mk es1 i2 i3) (20)) (40)) (2)) ≤ wrap i64 (200 + v0_l1Below (b0_l1Once (b0_l1Below (TL1Cur.mk es1 i2 i3) (20)) (40)) (2))) && decide (toNat (wrap i64 (200 + v0_l1Below (b0_l1Once (b0_l1Below (TL1Cur.mk es1 i2 i3) (20)) (40)) (2))) * 8 ≤ 140737488355328)) then some ([En.enc true (v0_l23Draw (v0_l1New (deS UInt8 (enS false code)))), [D.sl true 1 (replicate (toNat (wrap i64 (200 + v0_l1Below (b0_l1Once (b0_l1Below (TL1Cur.mk es1 i2 i3) (20)) (40)) (2)))) [D.int i64 (0)])]], []) else none else none else some ([En.enc true (v0_l23Draw (v0_l1New (deS UInt8 (enS false code)))), [D.sl true 1 es4]], []) else none := by kernel_rfl
theorem r8 (code : List UInt8) (n : Nat) : evFn ⟨prog, Hx, 8⟩ T11.call n f8 [[.sl false 1 (enS false code)]] = bif isS UInt8 false (enS false code) && decide (length (deS UInt8 (enS false code)) ≤ 1048576) then bif curOk (v0_l1New (deS UInt8 (enS false code))) then loopRun (B8_0 n) 4 244 33546432 n (S8_0 code (0) (TL1Cur.b (b0_l23Draw (v0_l1New (deS UInt8 (enS false code))))) (TL1Cur.i (b0_l23Draw (v0_l1New (deS UInt8 (enS false code))))) (TL1Cur.h (b0_l23Draw (v0_l1New (deS UInt8 (enS false code))))) []) (k8_1 n) else none else none := by kernel_rfl
def G_DrawAdmitAll (code : List UInt8) (r : Option (List Row × List Row)) : Prop := ∃ x : Bucket × (List Int), r = some ([[.int .i64 x.1.Have, .int .i64 x.1.Most, .int .i64 x.1.Per], [.sl true 1 (enS true x.2)]], []) ∧ (x.2.length ≤ 300)
theorem leaf_DrawAdmitAll (code : List UInt8) {z0_Have : Int} {z0_Most : Int} {z0_Per : Int} {z1 : List Int} (h : (z1 : List Int).length ≤ 300) : G_DrawAdmitAll code (some ([[.int .i64 z0_Have, .int .i64 z0_Most, .int .i64 z0_Per], [.sl true 1 (enS true z1)]], [])) := ⟨(⟨z0_Have, z0_Most, z0_Per⟩, z1), rfl, h⟩
theorem e_DrawAdmitAll (code : List UInt8) (hpre : (o8 code).1 = true) : ∃ x, P_DrawAdmitAll code x := by
  show G_DrawAdmitAll code _
  refine Eq.mpr (congrArg (G_DrawAdmitAll code) (r8 code _)) ?_
  replace hpre : (decide (code.length ≤ 1048576)) = true := hpre
  simp only [isS_enS, deS_enS, Bool.true_and]
  have hc := p_l1New code hpre
  refine g_pre hpre (g_pre hc ?_)
  refine g_loop (V := Nat × TL1Cur × List Int) (fun v => S8_0 code (Int.ofNat v.1) v.2.1.b v.2.1.i v.2.1.h (enS true v.2.2)) (fun v => v.1 ≤ 20 ∧ curOk v.2.1 = true ∧ v.2.2.length ≤ v.1) (fun v => 20 - v.1) ?_ (300 + code.length) (0, _, []) ⟨Nat.zero_le _, k_l23Draw _ hc, Nat.zero_le _⟩ (by show 20 - 0 < 300 + code.length; omega)
  rintro ⟨i, c, l⟩ ⟨h1, h2, h3⟩ f hf
  simp only at h1 h2 h3
  refine g_eq (q8_0 code _ _ _ _ _ _ f _) ?_
  simp only [TL1Cur.eta]
  have hb := p_l1Below c 20 h2
  have hb2 := k_l1Below c 20 h2
  refine g_pre h2 (g_if (fun h => ?_) (fun h => ?_))
  · have hi : i < 20 := by
      have h4 := of_decide_eq_true h
      have h5 := hb.1.2 (by omega)
      have h6 : (i : Int) < v0_l1Below c 20 := h4
      omega
    refine g_pre (by simp (maxDischargeDepth := 60) [TL1Cur.eta, isS_int_cons, isS_nil, deS, List.map_cons, List.map_nil, List.length_cons, List.length_nil, k_l1Byte, k_l1Below, k_l1Once, k_l1PickInt, k_l23Draw, h2]) (g_pre (by rw [enS_length]; exact decide_eq_true (by omega)) ?_)
    rw [wrap_succ (by omega), snoc_int]
    exact hf (i + 1, b0_l1PickInt (b0_l1Below c 20) _, l ++ [_]) ⟨hi, by simp (maxDischargeDepth := 60) [TL1Cur.eta, isS_int_cons, isS_nil, deS, List.map_cons, List.map_nil, List.length_cons, List.length_nil, k_l1Byte, k_l1Below, k_l1Once, k_l1PickInt, k_l23Draw, h2], by rw [List.length_append]; simp only [List.length_cons, List.length_nil]; omega⟩ (by show 20 - (i + 1) < 20 - i; omega)
  · refine g_eq (aX8_2 code _ _ _ _ _ _) ?_
    simp only [TL1Cur.eta]
    refine g_pre hb2 (g_if (fun _ => ?_) (fun _ => ?_))
    · have h5 := k_l1Once _ 40 hb2
      refine g_pre h5 ?_
      have h6 := (p_l1Below _ 2 h5).1
      generalize v0_l1Below (b0_l1Once (b0_l1Below c 20) 40) 2 = m at h6 ⊢
      obtain ⟨h6, h7⟩ := h6
      have h7 := h7 (by omega)
      rw [wrap_sm (show -4611686018427387904 ≤ 200 + m by omega) (by omega)]
      refine g_pre (by simp only [Bool.and_eq_true, decide_eq_true_eq]; omega) ?_
      rw [rep_I true]
      refine leaf_DrawAdmitAll _  ?_
      rw [List.length_replicate]
      omega
    · refine leaf_DrawAdmitAll _  ?_
      omega
theorem p_DrawAdmitAll (code : List UInt8) (hpre : (o8 code).1 = true) : (v1_DrawAdmitAll code).length ≤ 300 := (Classical.epsilon_spec (e_DrawAdmitAll code hpre)).2
theorem m8 (code : List UInt8) (hpre : (o8 code).1 = true) : evFn ⟨Go.Proofs.Try.prog, Hx, 8⟩ T11.call (300 + code.length) f8 [[.sl false 1 (enS false code)]] = some (o8 code).2 := (Classical.epsilon_spec (e_DrawAdmitAll code hpre)).1
theorem s8 : SoundAt Go.Proofs.Try.prog Hx 8 c8 := soundAt_of T11_sound mixed func8 (by kernel_rfl) (by
  intro rows r h
  unfold c8 at h
  split at h
  · rename_i code
    obtain ⟨hp, hr⟩ := Prod.mk.inj (Option.some.inj h)
    subst hr
    simp only [Bool.and_eq_true] at hp
    obtain ⟨hs0, hp⟩ := hp
    obtain ⟨xs0, rfl⟩ := isS_ex hs0
    simp only [deS_enS] at hp ⊢
    exact ⟨_, m8 xs0 hp⟩
  · cases h)
def T8 : Table := (8, c8) :: T11
theorem T8_sound : Table.Sound Go.Proofs.Try.prog Hx T8 := Table.sound_cons s8 T11_sound
def o3 (code : List UInt8) : Bool × List Row × List Row := (decide (code.length ≤ 9223372036854775807), [[.bool (true)]], [])
def c3 : Contract
  | [[.sl false 1 code]] => some (isS UInt8 false code && (o3 (deS UInt8 code)).1, (o3 (deS UInt8 code)).2.1, (o3 (deS UInt8 code)).2.2)
  | _ => none

def k3_0 (n : Nat) : Ex → St → RR := kThen (fun st ↦ runCode (Ctx.mk prog Hx (3)) (Table.call T8) n (codeAt [1, 1, 1, 1, 1, 1, 1, 1, 1, 1, 1, 1, 1, 1, 1, 1, 1] (bodyOf f3)) (Lv.mk 4 [] 4) st (kLeave (Ctx.P (Ctx.mk prog Hx (3))) (List.zip (Array.toList (Go.Func.resultTypes f3)) (Array.toList (Go.Func.results f3))) [] [])) (kLeave (Ctx.P (Ctx.mk prog Hx (3))) (List.zip (Array.toList (Go.Func.resultTypes f3)) (Array.toList (Go.Func.results f3))) [] [])
def k3_1 (n : Nat) : Ex → St → RR := kBlock (0) (k3_0 n)
def S3_0 (code : List UInt8) (i0 : Int) (i1 : Int) : St := St.mk [U_, U_, U_, V_ [C.ptr 1 0 0 [] 3 0 0], V_ [C.view 0 0 0 [] 1 none], V_ [C.ptr 2 0 0 [] 3 0 0], I_ (Prod.snd (admAll (v0_DrawAdmitAll (deS UInt8 (enS false code))) (deS Int (lendRows (enS true (v1_DrawAdmitAll (deS UInt8 (enS false code)))))))), U_, U_, U_, U_, U_, U_, U_, U_, U_, U_, U_, U_, U_, U_, U_, U_, I_ i0, I_ i1, U_, U_, U_, U_, U_, U_, U_, U_, U_, U_, U_, U_, U_, U_, U_, U_, U_, U_, U_, U_, U_, U_, U_, U_, U_, U_, U_, U_, U_, U_, U_, U_, U_, U_, U_, U_, U_, U_, U_, U_, U_, U_, U_, U_, U_, U_, U_, U_, U_, U_, U_, U_, U_, U_, U_, U_, U_, U_, U_, U_, U_, U_, U_, U_, U_, U_, U_, U_, U_, U_, U_, U_, U_, U_, U_, U_, U_, U_, U_, U_, U_, U_, U_, U_, U_, U_, U_, U_, U_, U_, U_, U_, U_, U_, U_, U_, U_, U_, U_, U_, U_, U_, U_, U_, U_, U_, U_, U_, U_, U_, U_, U_, U_, U_, U_, U_, U_, U_, U_, U_, U_, U_, U_, U_, U_, U_, U_, U_, U_, U_, U_, U_, U_, U_, U_, U_, U_, U_, U_, U_, U_, U_, U_, U_, U_, U_, U_, U_, U_, U_, U_, U_, U_, U_, U_, U_, U_, U_, U_, U_, U_, U_, U_, U_, U_, U_, U_, U_] [Root.mk false 1 (enS true (v1_DrawAdmitAll (deS UInt8 (enS false code)))) 0 0 true true false, Root.mk true 3 [En.enc true (v0_DrawAdmitAll (deS UInt8 (enS false code)))] 0 0 true true false, Root.mk true 3 [En.enc true (Prod.fst (admAll (v0_DrawAdmitAll (deS UInt8 (enS false code))) (deS Int (lendRows (enS true (v1_DrawAdmitAll (deS UInt8 (enS false code))))))))] 0 0 true true false, Root.mk true 3 [En.enc true (Prod.fst (admAll (v0_DrawAdmitAll (deS UInt8 (enS false code))) (deS Int (lendRows (enS true (v1_DrawAdmitAll (deS UInt8 (enS false code))))))))] 0 0 true true false, Root.mk true 3 [En.enc true (v0_DrawAdmit (deS UInt8 (enS false code)))] 0 0 true true false, Root.mk true 3 [En.enc true (admitB (v0_DrawAdmit (deS UInt8 (enS false code))) (v1_DrawAdmit (deS UInt8 (enS false code))))] 0 0 true true false, Root.mk true 3 [En.enc true (admitB (v0_DrawAdmit (deS UInt8 (enS false code))) (v1_DrawAdmit (deS UInt8 (enS false code))))] 0 0 true true false, Root.mk true 3 [En.enc true (v0_DrawBucketTick (deS UInt8 (enS false code)))] 0 0 true true false, Root.mk true 3 [En.enc true (v0_DrawBucketOk (deS UInt8 (enS false code)))] 0 0 true true false, Root.mk true 3 [En.enc true (buckNew (v0_DrawBucketNew (deS UInt8 (enS false code))) (v1_DrawBucketNew (deS UInt8 (enS false code))))] 0 0 true true false, Root.mk true 3 [En.enc true (buckNew (v0_DrawBucketNew (deS UInt8 (enS false code))) (v1_DrawBucketNew (deS UInt8 (enS false code))))] 0 0 true true false]
def B3_0 (n : Nat) : St → (Ex → St → RR) → RR := runCode (Ctx.mk prog Hx (3)) (Table.call T8) n (codeAt [1, 1, 1, 1, 1, 1, 1, 1, 1, 1, 1, 1, 1, 1, 1, 1, 0, 1, 0, 0] (bodyOf f3)) (Lv.mk 25165944 [(0, 8388712)] 4)
def X3_2 (code : List UInt8) (i0 : Int) (i1 : Int) : St := St.mk [U_, U_, U_, V_ [C.ptr 1 0 0 [] 3 0 0], V_ [C.view 0 0 0 [] 1 none], V_ [C.ptr 2 0 0 [] 3 0 0], I_ (Prod.snd (admAll (v0_DrawAdmitAll (deS UInt8 (enS false code))) (deS Int (lendRows (enS true (v1_DrawAdmitAll (deS UInt8 (enS false code)))))))), U_, U_, U_, U_, U_, U_, U_, U_, U_, U_, U_, U_, U_, U_, U_, U_, I_ i0, I_ i1, U_, U_, U_, U_, U_, U_, U_, U_, U_, U_, U_, U_, U_, U_, U_, U_, U_, U_, U_, U_, U_, U_, U_, U_, U_, U_, U_, U_, U_, U_, U_, U_, U_, U_, U_, U_, U_, U_, U_, U_, U_, U_, U_, U_, U_, U_, U_, U_, U_, U_, U_, U_, U_, U_, U_, U_, U_, U_, U_, U_, U_, U_, U_, U_, U_, U_, U_, U_, U_, U_, U_, U_, U_, U_, U_, U_, U_, U_, U_, U_, U_, U_, U_, U_, U_, U_, U_, U_, U_, U_, U_, U_, U_, U_, U_, U_, U_, U_, U_, U_, U_, U_, U_, U_, U_, U_, U_, U_, U_, U_, U_, U_, U_, U_, U_, U_, U_, U_, U_, U_, U_, U_, U_, U_, U_, U_, U_, U_, U_, U_, U_, U_, U_, U_, U_, U_, U_, U_, I_ i1, V_ [C.view 0 0 0 [] 1 none], I_ (ofNat (length (enS true (v1_DrawAdmitAll (deS UInt8 (enS false code)))))), B_ false, U_, U_, U_, U_, U_, U_, U_, U_, U_, U_, U_, U_, U_, U_, U_, U_, U_, U_, U_, U_, U_, U_, U_, U_, U_, U_] [Root.mk false 1 (enS true (v1_DrawAdmitAll (deS UInt8 (enS false code)))) 0 0 true true false, Root.mk true 3 [En.enc true (v0_DrawAdmitAll (deS UInt8 (enS false code)))] 0 0 true true false, Root.mk true 3 [En.enc true (Prod.fst (admAll (v0_DrawAdmitAll (deS UInt8 (enS false code))) (deS Int (lendRows (enS true (v1_DrawAdmitAll (deS UInt8 (enS false code))))))))] 0 0 true true false, Root.mk true 3 [En.enc true (Prod.fst (admAll (v0_DrawAdmitAll (deS UInt8 (enS false code))) (deS Int (lendRows (enS true (v1_DrawAdmitAll (deS UInt8 (enS false code))))))))] 0 0 true true false, Root.mk true 3 [En.enc true (v0_DrawAdmit (deS UInt8 (enS false code)))] 0 0 true true false, Root.mk true 3 [En.enc true (admitB (v0_DrawAdmit (deS UInt8 (enS false code))) (v1_DrawAdmit (deS UInt8 (enS false code))))] 0 0 true true false, Root.mk true 3 [En.enc true (admitB (v0_DrawAdmit (deS UInt8 (enS false code))) (v1_DrawAdmit (deS UInt8 (enS false code))))] 0 0 true true false, Root.mk true 3 [En.enc true (v0_DrawBucketTick (deS UInt8 (enS false code)))] 0 0 true true false, Root.mk true 3 [En.enc true (v0_DrawBucketOk (deS UInt8 (enS false code)))] 0 0 true true false, Root.mk true 3 [En.enc true (buckNew (v0_DrawBucketNew (deS UInt8 (enS false code))) (v1_DrawBucketNew (deS UInt8 (enS false code))))] 0 0 true true false, Root.mk true 3 [En.enc true (buckNew (v0_DrawBucketNew (deS UInt8 (enS false code))) (v1_DrawBucketNew (deS UInt8 (enS false code))))] 0 0 true true false]
theorem q3_0 (code : List UInt8) (n : Nat) (i0 : Int) (i1 : Int) (f : St → RR) (K : Ex → St → RR) : B3_0 n (S3_0 code i0 i1) (kThen (fun st ↦ f (St.head 11 25165944 95769279291019406424051059718232593712013947701297152 st)) K) = bif decide (i1 < ofNat (length (enS true (v1_DrawAdmitAll (deS UInt8 (enS false code)))))) then bif decide (0 ≤ i1) && decide (i1 < ofNat (length (enS true (v1_DrawAdmitAll (deS UInt8 (enS false code)))))) then bif Leaf.fit true (Leaf.int i64) (getD (getD (enS true (v1_DrawAdmitAll (deS UInt8 (enS false code)))) (0 + toNat i1) []) 0 D.dead) && true then bif D.num (getD (getD (enS true (v1_DrawAdmitAll (deS UInt8 (enS false code)))) (0 + toNat i1) []) 0 D.dead) == 0 then f (S3_0 code (wrap i64 (i0 + 1)) (wrap i64 (i1 + 1))) else f (S3_0 code i0 (wrap i64 (i1 + 1))) else none else none else K (Ex.exit 0) (X3_2 code i0 i1) := by kernel_rfl
theorem aX3_2 (code : List UInt8) (n : Nat) (i0 : Int) (i1 : Int) : k3_1 n (Ex.exit 0) (X3_2 code i0 i1) = bif decide (Prod.snd (admAll (v0_DrawAdmitAll (deS UInt8 (enS false code))) (deS Int (lendRows (enS true (v1_DrawAdmitAll (deS UInt8 (enS false code))))))) ≤ wrap i64 (Bucket.Have (v0_DrawAdmitAll (deS UInt8 (enS false code))) + wrap i64 (i0 * Bucket.Per (v0_DrawAdmitAll (deS UInt8 (enS false code)))))) then bif buckOk (Prod.fst (admAll (v0_DrawAdmitAll (deS UInt8 (enS false code))) (deS Int (lendRows (enS true (v1_DrawAdmitAll (deS UInt8 (enS false code)))))))) then some ([[D.bool (decide (Prod.snd (admAll (v0_DrawAdmitAll (deS UInt8 (enS false code))) (deS Int (lendRows (enS true (v1_DrawAdmitAll (deS UInt8 (enS false code))))))) ≥ 0))]], []) else some ([[D.bool false]], []) else some ([[D.bool false]], []) := by kernel_rfl
def S3_1 (code : List UInt8) (i0 : Int) (i1 : Int) : St := St.mk [U_, U_, U_, V_ [C.ptr 1 0 0 [] 3 0 0], V_ [C.view 0 0 0 [] 1 none], V_ [C.ptr 2 0 0 [] 3 0 0], I_ (Prod.snd (admAll (v0_DrawAdmitAll (deS UInt8 (enS false code))) (deS Int (lendRows (enS true (v1_DrawAdmitAll (deS UInt8 (enS false code)))))))), U_, U_, U_, U_, U_, U_, U_, U_, U_, U_, U_, U_, U_, U_, U_, U_, I_ i0, I_ i1, U_, U_, U_, U_, U_, U_, U_, U_, U_, U_, U_, U_, U_, U_, U_, U_, U_, U_, U_, U_, U_, U_, U_, U_, U_, U_, U_, U_, U_, U_, U_, U_, U_, U_, U_, U_, U_, U_, U_, U_, U_, U_, U_, U_, U_, U_, U_, U_, U_, U_, U_, U_, U_, U_, U_, U_, U_, U_, U_, U_, U_, U_, U_, U_, U_, U_, U_, U_, U_, U_, U_, U_, U_, U_, U_, U_, U_, U_, U_, U_, U_, U_, U_, U_, U_, U_, U_, U_, U_, U_, U_, U_, U_, U_, U_, U_, U_, U_, U_, U_, U_, U_, U_, U_, U_, U_, U_, U_, U_, U_, U_, U_, U_, U_, U_, U_, U_, U_, U_, U_, U_, U_, U_, U_, U_, U_, U_, U_, U_, U_, U_, U_, U_, U_, U_, U_, U_, U_, U_, U_, U_, U_, U_, U_, U_, U_, U_, U_, U_, U_, U_, U_, U_, U_, U_, U_, U_, U_, U_, U_, U_, U_, U_, U_, U_, U_, U_, U_] [Root.mk false 1 (enS true (v1_DrawAdmitAll (deS UInt8 (enS false code)))) 0 0 true true false, Root.mk true 3 [En.enc true (v0_DrawAdmitAll (deS UInt8 (enS false code)))] 0 0 true true false, Root.mk true 3 [En.enc true (Prod.fst (admAll (v0_DrawAdmitAll (deS UInt8 (enS false code))) (deS Int (lendRows (enS true (v1_DrawAdmitAll (deS UInt8 (enS false code))))))))] 0 0 true true false, Root.mk true 3 [En.enc true (Prod.fst (admAll (v0_DrawAdmitAll (deS UInt8 (enS false code))) (deS Int (lendRows (enS true (v1_DrawAdmitAll (deS UInt8 (enS false code))))))))] 0 0 true true false, Root.mk true 3 [En.enc true (v0_DrawAdmit (deS UInt8 (enS false code)))] 0 0 true true false, Root.mk true 3 [En.enc true (admitB (v0_DrawAdmit (deS UInt8 (enS false code))) (v1_DrawAdmit (deS UInt8 (enS false code))))] 0 0 true true false, Root.mk true 3 [En.enc true (admitB (v0_DrawAdmit (deS UInt8 (enS false code))) (v1_DrawAdmit (deS UInt8 (enS false code))))] 0 0 true true false, Root.mk true 3 [En.enc true (v0_DrawBucketTick (deS UInt8 (enS false code)))] 0 0 true true false, Root.mk true 3 [En.enc true (v0_DrawBucketOk (deS UInt8 (enS false code)))] 0 0 true true false, Root.mk true 3 [En.enc true (buckNew (v0_DrawBucketNew (deS UInt8 (enS false code))) (v1_DrawBucketNew (deS UInt8 (enS false code))))] 0 0 true true false, Root.mk true 3 [En.enc true (buckNew (v0_DrawBucketNew (deS UInt8 (enS false code))) (v1_DrawBucketNew (deS UInt8 (enS false code))))] 0 0 true true false]
def B3_1 (n : Nat) : St → (Ex → St → RR) → RR := runCode (Ctx.mk prog Hx (3)) (Table.call T8) n (codeAt [1, 1, 1, 1, 1, 1, 1, 1, 1, 1, 1, 1, 1, 1, 1, 1, 0, 1, 0, 0] (bodyOf f3)) (Lv.mk 25165944 [(0, 8388712)] 4)
def X3_3 (code : List UInt8) (i0 : Int) (i1 : Int) : St := St.mk [U_, U_, U_, V_ [C.ptr 1 0 0 [] 3 0 0], V_ [C.view 0 0 0 [] 1 none], V_ [C.ptr 2 0 0 [] 3 0 0], I_ (Prod.snd (admAll (v0_DrawAdmitAll (deS UInt8 (enS false code))) (deS Int (lendRows (enS true (v1_DrawAdmitAll (deS UInt8 (enS false code)))))))), U_, U_, U_, U_, U_, U_, U_, U_, U_, U_, U_, U_, U_, U_, U_, U_, I_ i0, I_ i1, U_, U_, U_, U_, U_, U_, U_, U_, U_, U_, U_, U_, U_, U_, U_, U_, U_, U_, U_, U_, U_, U_, U_, U_, U_, U_, U_, U_, U_, U_, U_, U_, U_, U_, U_, U_, U_, U_, U_, U_, U_, U_, U_, U_, U_, U_, U_, U_, U_, U_, U_, U_, U_, U_, U_, U_, U_, U_, U_, U_, U_, U_, U_, U_, U_, U_, U_, U_, U_, U_, U_, U_, U_, U_, U_, U_, U_, U_, U_, U_, U_, U_, U_, U_, U_, U_, U_, U_, U_, U_, U_, U_, U_, U_, U_, U_, U_, U_, U_, U_, U_, U_, U_, U_, U_, U_, U_, U_, U_, U_, U_, U_, U_, U_, U_, U_, U_, U_, U_, U_, U_, U_, U_, U_, U_, U_, U_, U_, U_, U_, U_, U_, U_, U_, U_, U_, U_, U_, I_ i1, V_ [C.view 0 0 0 [] 1 none], I_ (ofNat (length (enS true (v1_DrawAdmitAll (deS UInt8 (enS false code)))))), B_ false, U_, U_, U_, U_, U_, U_, U_, U_, U_, U_, U_, U_, U_, U_, U_, U_, U_, U_, U_, U_, U_, U_, U_, U_, U_, U_] [Root.mk false 1 (enS true (v1_DrawAdmitAll (deS UInt8 (enS false code)))) 0 0 true true false, Root.mk true 3 [En.enc true (v0_DrawAdmitAll (deS UInt8 (enS false code)))] 0 0 true true false, Root.mk true 3 [En.enc true (Prod.fst (admAll (v0_DrawAdmitAll (deS UInt8 (enS false code))) (deS Int (lendRows (enS true (v1_DrawAdmitAll (deS UInt8 (enS false code))))))))] 0 0 true true false, Root.mk true 3 [En.enc true (Prod.fst (admAll (v0_DrawAdmitAll (deS UInt8 (enS false code))) (deS Int (lendRows (enS true (v1_DrawAdmitAll (deS UInt8 (enS false code))))))))] 0 0 true true false, Root.mk true 3 [En.enc true (v0_DrawAdmit (deS UInt8 (enS false code)))] 0 0 true true false, Root.mk true 3 [En.enc true (admitB (v0_DrawAdmit (deS UInt8 (enS false code))) (v1_DrawAdmit (deS UInt8 (enS false code))))] 0 0 true true false, Root.mk true 3 [En.enc true (admitB (v0_DrawAdmit (deS UInt8 (enS false code))) (v1_DrawAdmit (deS UInt8 (enS false code))))] 0 0 true true false, Root.mk true 3 [En.enc true (v0_DrawBucketTick (deS UInt8 (enS false code)))] 0 0 true true false, Root.mk true 3 [En.enc true (v0_DrawBucketOk (deS UInt8 (enS false code)))] 0 0 true true false, Root.mk true 3 [En.enc true (buckNew (v0_DrawBucketNew (deS UInt8 (enS false code))) (v1_DrawBucketNew (deS UInt8 (enS false code))))] 0 0 true true false, Root.mk true 3 [En.enc true (buckNew (v0_DrawBucketNew (deS UInt8 (enS false code))) (v1_DrawBucketNew (deS UInt8 (enS false code))))] 0 0 true true false]
theorem q3_1 (code : List UInt8) (n : Nat) (i0 : Int) (i1 : Int) (f : St → RR) (K : Ex → St → RR) : B3_1 n (S3_1 code i0 i1) (kThen (fun st ↦ f (St.head 11 25165944 95769279291019406424051059718232593712013947701297152 st)) K) = bif decide (i1 < ofNat (length (enS true (v1_DrawAdmitAll (deS UInt8 (enS false code)))))) then bif decide (0 ≤ i1) && decide (i1 < ofNat (length (enS true (v1_DrawAdmitAll (deS UInt8 (enS false code)))))) then bif Leaf.fit true (Leaf.int i64) (getD (getD (enS true (v1_DrawAdmitAll (deS UInt8 (enS false code)))) (0 + toNat i1) []) 0 D.dead) && true then bif D.num (getD (getD (enS true (v1_DrawAdmitAll (deS UInt8 (enS false code)))) (0 + toNat i1) []) 0 D.dead) == 0 then f (S3_1 code (wrap i64 (i0 + 1)) (wrap i64 (i1 + 1))) else f (S3_1 code i0 (wrap i64 (i1 + 1))) else none else none else K (Ex.exit 0) (X3_3 code i0 i1) := by kernel_rfl
theorem aX3_3 (code : List UInt8) (n : Nat) (i0 : Int) (i1 : Int) : k3_1 n (Ex.exit 0) (X3_3 code i0 i1) = bif decide (Prod.snd (admAll (v0_DrawAdmitAll (deS UInt8 (enS false code))) (deS Int (lendRows (enS true (v1_DrawAdmitAll (deS UInt8 (enS false code))))))) ≤ wrap i64 (Bucket.Have (v0_DrawAdmitAll (deS UInt8 (enS false code))) + wrap i64 (i0 * Bucket.Per (v0_DrawAdmitAll (deS UInt8 (enS false code)))))) then bif buckOk (Prod.fst (admAll (v0_DrawAdmitAll (deS UInt8 (enS false code))) (deS Int (lendRows (enS true (v1_DrawAdmitAll (deS UInt8 (enS false code)))))))) then some ([[D.bool (decide (Prod.snd (admAll (v0_DrawAdmitAll (deS UInt8 (enS false code))) (deS Int (lendRows (enS true (v1_DrawAdmitAll (deS UInt8 (enS false code))))))) ≥ 0))]], []) else some ([[D.bool false]], []) else some ([[D.bool false]], []) := by kernel_rfl
def S3_2 (code : List UInt8) (i0 : Int) (i1 : Int) : St := St.mk [U_, U_, U_, V_ [C.ptr 1 0 0 [] 3 0 0], V_ [C.view 0 0 0 [] 1 none], V_ [C.ptr 2 0 0 [] 3 0 0], I_ (Prod.snd (admAll (v0_DrawAdmitAll (deS UInt8 (enS false code))) (deS Int (lendRows (enS true (v1_DrawAdmitAll (deS UInt8 (enS false code)))))))), U_, U_, U_, U_, U_, U_, U_, U_, U_, U_, U_, U_, U_, U_, U_, U_, I_ i0, I_ i1, U_, U_, U_, U_, U_, U_, U_, U_, U_, U_, U_, U_, U_, U_, U_, U_, U_, U_, U_, U_, U_, U_, U_, U_, U_, U_, U_, U_, U_, U_, U_, U_, U_, U_, U_, U_, U_, U_, U_, U_, U_, U_, U_, U_, U_, U_, U_, U_, U_, U_, U_, U_, U_, U_, U_, U_, U_, U_, U_, U_, U_, U_, U_, U_, U_, U_, U_, U_, U_, U_, U_, U_, U_, U_, U_, U_, U_, U_, U_, U_, U_, U_, U_, U_, U_, U_, U_, U_, U_, U_, U_, U_, U_, U_, U_, U_, U_, U_, U_, U_, U_, U_, U_, U_, U_, U_, U_, U_, U_, U_, U_, U_, U_, U_, U_, U_, U_, U_, U_, U_, U_, U_, U_, U_, U_, U_, U_, U_, U_, U_, U_, U_, U_, U_, U_, U_, U_, U_, U_, U_, U_, U_, U_, U_, U_, U_, U_, U_, U_, U_, U_, U_, U_, U_, U_, U_, U_, U_, U_, U_, U_, U_, U_, U_, U_, U_, U_, U_] [Root.mk false 1 (enS true (v1_DrawAdmitAll (deS UInt8 (enS false code)))) 0 0 true true false, Root.mk true 3 [En.enc true (v0_DrawAdmitAll (deS UInt8 (enS false code)))] 0 0 true true false, Root.mk true 3 [En.enc true (Prod.fst (admAll (v0_DrawAdmitAll (deS UInt8 (enS false code))) (deS Int (lendRows (enS true (v1_DrawAdmitAll (deS UInt8 (enS false code))))))))] 0 0 true true false, Root.mk true 3 [En.enc true (Prod.fst (admAll (v0_DrawAdmitAll (deS UInt8 (enS false code))) (deS Int (lendRows (enS true (v1_DrawAdmitAll (deS UInt8 (enS false code))))))))] 0 0 true true false, Root.mk true 3 [En.enc true (v0_DrawAdmit (deS UInt8 (enS false code)))] 0 0 true true false, Root.mk true 3 [En.enc true (admitB (v0_DrawAdmit (deS UInt8 (enS false code))) (v1_DrawAdmit (deS UInt8 (enS false code))))] 0 0 true true false, Root.mk true 3 [En.enc true (admitB (v0_DrawAdmit (deS UInt8 (enS false code))) (v1_DrawAdmit (deS UInt8 (enS false code))))] 0 0 true true false, Root.mk true 3 [En.enc true (v0_DrawBucketTick (deS UInt8 (enS false code)))] 0 0 true true false, Root.mk true 3 [En.enc true (v0_DrawBucketOk (deS UInt8 (enS false code)))] 0 0 true true false, Root.mk true 3 [En.enc true (buckNew (v0_DrawBucketNew (deS UInt8 (enS false code))) (v1_DrawBucketNew (deS UInt8 (enS false code))))] 0 0 true true false, Root.mk true 3 [En.enc true (buckNew (v0_DrawBucketNew (deS UInt8 (enS false code))) (v1_DrawBucketNew (deS UInt8 (enS false code))))] 0 0 true true false]
def B3_2 (n : Nat) : St → (Ex → St → RR) → RR := runCode (Ctx.mk prog Hx (3)) (Table.call T8) n (codeAt [1, 1, 1, 1, 1, 1, 1, 1, 1, 1, 1, 1, 1, 1, 1, 1, 0, 1, 0, 0] (bodyOf f3)) (Lv.mk 25165944 [(0, 8388712)] 4)
def X3_4 (code : List UInt8) (i0 : Int) (i1 : Int) : St := St.mk [U_, U_, U_, V_ [C.ptr 1 0 0 [] 3 0 0], V_ [C.view 0 0 0 [] 1 none], V_ [C.ptr 2 0 0 [] 3 0 0], I_ (Prod.snd (admAll (v0_DrawAdmitAll (deS UInt8 (enS false code))) (deS Int (lendRows (enS true (v1_DrawAdmitAll (deS UInt8 (enS false code)))))))), U_, U_, U_, U_, U_, U_, U_, U_, U_, U_, U_, U_, U_, U_, U_, U_, I_ i0, I_ i1, U_, U_, U_, U_, U_, U_, U_, U_, U_, U_, U_, U_, U_, U_, U_, U_, U_, U_, U_, U_, U_, U_, U_, U_, U_, U_, U_, U_, U_, U_, U_, U_, U_, U_, U_, U_, U_, U_, U_, U_, U_, U_, U_, U_, U_, U_, U_, U_, U_, U_, U_, U_, U_, U_, U_, U_, U_, U_, U_, U_, U_, U_, U_, U_, U_, U_, U_, U_, U_, U_, U_, U_, U_, U_, U_, U_, U_, U_, U_, U_, U_, U_, U_, U_, U_, U_, U_, U_, U_, U_, U_, U_, U_, U_, U_, U_, U_, U_, U_, U_, U_, U_, U_, U_, U_, U_, U_, U_, U_, U_, U_, U_, U_, U_, U_, U_, U_, U_, U_, U_, U_, U_, U_, U_, U_, U_, U_, U_, U_, U_, U_, U_, U_, U_, U_, U_, U_, U_, I_ i1, V_ [C.view 0 0 0 [] 1 none], I_ (ofNat (length (enS true (v1_DrawAdmitAll (deS UInt8 (enS false code)))))), B_ false, U_, U_, U_, U_, U_, U_, U_, U_, U_, U_, U_, U_, U_, U_, U_, U_, U_, U_, U_, U_, U_, U_, U_, U_, U_, U_] [Root.mk false 1 (enS true (v1_DrawAdmitAll (deS UInt8 (enS false code)))) 0 0 true true false, Root.mk true 3 [En.enc true (v0_DrawAdmitAll (deS UInt8 (enS false code)))] 0 0 true true false, Root.mk true 3 [En.enc true (Prod.fst (admAll (v0_DrawAdmitAll (deS UInt8 (enS false code))) (deS Int (lendRows (enS true (v1_DrawAdmitAll (deS UInt8 (enS false code))))))))] 0 0 true true false, Root.mk true 3 [En.enc true (Prod.fst (admAll (v0_DrawAdmitAll (deS UInt8 (enS false code))) (deS Int (lendRows (enS true (v1_DrawAdmitAll (deS UInt8 (enS false code))))))))] 0 0 true true false, Root.mk true 3 [En.enc true (v0_DrawAdmit (deS UInt8 (enS false code)))] 0 0 true true false, Root.mk true 3 [En.enc true (admitB (v0_DrawAdmit (deS UInt8 (enS false code))) (v1_DrawAdmit (deS UInt8 (enS false code))))] 0 0 true true false, Root.mk true 3 [En.enc true (admitB (v0_DrawAdmit (deS UInt8 (enS false code))) (v1_DrawAdmit (deS UInt8 (enS false code))))] 0 0 true true false, Root.mk true 3 [En.enc true (v0_DrawBucketTick (deS UInt8 (enS false code)))] 0 0 true true false, Root.mk true 3 [En.enc true (v0_DrawBucketOk (deS UInt8 (enS false code)))] 0 0 true true false, Root.mk true 3 [En.enc true (buckNew (v0_DrawBucketNew (deS UInt8 (enS false code))) (v1_DrawBucketNew (deS UInt8 (enS false code))))] 0 0 true true false, Root.mk true 3 [En.enc true (buckNew (v0_DrawBucketNew (deS UInt8 (enS false code))) (v1_DrawBucketNew (deS UInt8 (enS false code))))] 0 0 true true false]
theorem q3_2 (code : List UInt8) (n : Nat) (i0 : Int) (i1 : Int) (f : St → RR) (K : Ex → St → RR) : B3_2 n (S3_2 code i0 i1) (kThen (fun st ↦ f (St.head 11 25165944 95769279291019406424051059718232593712013947701297152 st)) K) = bif decide (i1 < ofNat (length (enS true (v1_DrawAdmitAll (deS UInt8 (enS false code)))))) then bif decide (0 ≤ i1) && decide (i1 < ofNat (length (enS true (v1_DrawAdmitAll (deS UInt8 (enS false code)))))) then bif Leaf.fit true (Leaf.int i64) (getD (getD (enS true (v1_DrawAdmitAll (deS UInt8 (enS false code)))) (0 + toNat i1) []) 0 D.dead) && true then bif D.num (getD (getD (enS true (v1_DrawAdmitAll (deS UInt8 (enS false code)))) (0 + toNat i1) []) 0 D.dead) == 0 then f (S3_2 code (wrap i64 (i0 + 1)) (wrap i64 (i1 + 1))) else f (S3_2 code i0 (wrap i64 (i1 + 1))) else none else none else K (Ex.exit 0) (X3_4 code i0 i1) := by kernel_rfl
theorem aX3_4 (code : List UInt8) (n : Nat) (i0 : Int) (i1 : Int) : k3_1 n (Ex.exit 0) (X3_4 code i0 i1) = bif decide (Prod.snd (admAll (v0_DrawAdmitAll (deS UInt8 (enS false code))) (deS Int (lendRows (enS true (v1_DrawAdmitAll (deS UInt8 (enS false code))))))) ≤ wrap i64 (Bucket.Have (v0_DrawAdmitAll (deS UInt8 (enS false code))) + wrap i64 (i0 * Bucket.Per (v0_DrawAdmitAll (deS UInt8 (enS false code)))))) then bif buckOk (Prod.fst (admAll (v0_DrawAdmitAll (deS UInt8 (enS false code))) (deS Int (lendRows (enS true (v1_DrawAdmitAll (deS UInt8 (enS false code)))))))) then some ([[D.bool (decide (Prod.snd (admAll (v0_DrawAdmitAll (deS UInt8 (enS false code))) (deS Int (lendRows (enS true (v1_DrawAdmitAll (deS UInt8 (enS false code))))))) ≥ 0))]], []) else some ([[D.bool false]], []) else some ([[D.bool false]], []) := by kernel_rfl
def S3_3 (code : List UInt8) (i0 : Int) (i1 : Int) : St := St.mk [U_, U_, U_, V_ [C.ptr 1 0 0 [] 3 0 0], V_ [C.view 0 0 0 [] 1 none], V_ [C.ptr 2 0 0 [] 3 0 0], I_ (Prod.snd (admAll (v0_DrawAdmitAll (deS UInt8 (enS false code))) (deS Int (lendRows (enS true (v1_DrawAdmitAll (deS UInt8 (enS false code)))))))), U_, U_, U_, U_, U_, U_, U_, U_, U_, U_, U_, U_, U_, U_, U_, U_, I_ i0, I_ i1, U_, U_, U_, U_, U_, U_, U_, U_, U_, U_, U_, U_, U_, U_, U_, U_, U_, U_, U_, U_, U_, U_, U_, U_, U_, U_, U_, U_, U_, U_, U_, U_, U_, U_, U_, U_, U_, U_, U_, U_, U_, U_, U_, U_, U_, U_, U_, U_, U_, U_, U_, U_, U_, U_, U_, U_, U_, U_, U_, U_, U_, U_, U_, U_, U_, U_, U_, U_, U_, U_, U_, U_, U_, U_, U_, U_, U_, U_, U_, U_, U_, U_, U_, U_, U_, U_, U_, U_, U_, U_, U_, U_, U_, U_, U_, U_, U_, U_, U_, U_, U_, U_, U_, U_, U_, U_, U_, U_, U_, U_, U_, U_, U_, U_, U_, U_, U_, U_, U_, U_, U_, U_, U_, U_, U_, U_, U_, U_, U_, U_, U_, U_, U_, U_, U_, U_, U_, U_, U_, U_, U_, U_, U_, U_, U_, U_, U_, U_, U_, U_, U_, U_, U_, U_, U_, U_, U_, U_, U_, U_, U_, U_, U_, U_, U_, U_, U_, U_] [Root.mk false 1 (enS true (v1_DrawAdmitAll (deS UInt8 (enS false code)))) 0 0 true true false, Root.mk true 3 [En.enc true (v0_DrawAdmitAll (deS UInt8 (enS false code)))] 0 0 true true false, Root.mk true 3 [En.enc true (Prod.fst (admAll (v0_DrawAdmitAll (deS UInt8 (enS false code))) (deS Int (lendRows (enS true (v1_DrawAdmitAll (deS UInt8 (enS false code))))))))] 0 0 true true false, Root.mk true 3 [En.enc true (Prod.fst (admAll (v0_DrawAdmitAll (deS UInt8 (enS false code))) (deS Int (lendRows (enS true (v1_DrawAdmitAll (deS UInt8 (enS false code))))))))] 0 0 true true false, Root.mk true 3 [En.enc true (v0_DrawAdmit (deS UInt8 (enS false code)))] 0 0 true true false, Root.mk true 3 [En.enc true (admitB (v0_DrawAdmit (deS UInt8 (enS false code))) (v1_DrawAdmit (deS UInt8 (enS false code))))] 0 0 true true false, Root.mk true 3 [En.enc true (admitB (v0_DrawAdmit (deS UInt8 (enS false code))) (v1_DrawAdmit (deS UInt8 (enS false code))))] 0 0 true true false, Root.mk true 3 [En.enc true (v0_DrawBucketTick (deS UInt8 (enS false code)))] 0 0 true true false, Root.mk true 3 [En.enc true (v0_DrawBucketOk (deS UInt8 (enS false code)))] 0 0 true true false, Root.mk true 3 [En.enc true (buckNew (v0_DrawBucketNew (deS UInt8 (enS false code))) (v1_DrawBucketNew (deS UInt8 (enS false code))))] 0 0 true true false, Root.mk true 3 [En.enc true (buckNew (v0_DrawBucketNew (deS UInt8 (enS false code))) (v1_DrawBucketNew (deS UInt8 (enS false code))))] 0 0 true true false]
def B3_3 (n : Nat) : St → (Ex → St → RR) → RR := runCode (Ctx.mk prog Hx (3)) (Table.call T8) n (codeAt [1, 1, 1, 1, 1, 1, 1, 1, 1, 1, 1, 1, 1, 1, 1, 1, 0, 1, 0, 0] (bodyOf f3)) (Lv.mk 25165944 [(0, 8388712)] 4)
def X3_5 (code : List UInt8) (i0 : Int) (i1 : Int) : St := St.mk [U_, U_, U_, V_ [C.ptr 1 0 0 [] 3 0 0], V_ [C.view 0 0 0 [] 1 none], V_ [C.ptr 2 0 0 [] 3 0 0], I_ (Prod.snd (admAll (v0_DrawAdmitAll (deS UInt8 (enS false code))) (deS Int (lendRows (enS true (v1_DrawAdmitAll (deS UInt8 (enS false code)))))))), U_, U_, U_, U_, U_, U_, U_, U_, U_, U_, U_, U_, U_, U_, U_, U_, I_ i0, I_ i1, U_, U_, U_, U_, U_, U_, U_, U_, U_, U_, U_, U_, U_, U_, U_, U_, U_, U_, U_, U_, U_, U_, U_, U_, U_, U_, U_, U_, U_, U_, U_, U_, U_, U_, U_, U_, U_, U_, U_, U_, U_, U_, U_, U_, U_, U_, U_, U_, U_, U_, U_, U_, U_, U_, U_, U_, U_, U_, U_, U_, U_, U_, U_, U_, U_, U_, U_, U_, U_, U_, U_, U_, U_, U_, U_, U_, U_, U_, U_, U_, U_, U_, U_, U_, U_, U_, U_, U_, U_, U_, U_, U_, U_, U_, U_, U_, U_, U_, U_, U_, U_, U_, U_, U_, U_, U_, U_, U_, U_, U_, U_, U_, U_, U_, U_, U_, U_, U_, U_, U_, U_, U_, U_, U_, U_, U_, U_, U_, U_, U_, U_, U_, U_, U_, U_, U_, U_, U_, I_ i1, V_ [C.view 0 0 0 [] 1 none], I_ (ofNat (length (enS true (v1_DrawAdmitAll (deS UInt8 (enS false code)))))), B_ false, U_, U_, U_, U_, U_, U_, U_, U_, U_, U_, U_, U_, U_, U_, U_, U_, U_, U_, U_, U_, U_, U_, U_, U_, U_, U_] [Root.mk false 1 (enS true (v1_DrawAdmitAll (deS UInt8 (enS false code)))) 0 0 true true false, Root.mk true 3 [En.enc true (v0_DrawAdmitAll (deS UInt8 (enS false code)))] 0 0 true true false, Root.mk true 3 [En.enc true (Prod.fst (admAll (v0_DrawAdmitAll (deS UInt8 (enS false code))) (deS Int (lendRows (enS true (v1_DrawAdmitAll (deS UInt8 (enS false code))))))))] 0 0 true true false, Root.mk true 3 [En.enc true (Prod.fst (admAll (v0_DrawAdmitAll (deS UInt8 (enS false code))) (deS Int (lendRows (enS true (v1_DrawAdmitAll (deS UInt8 (enS false code))))))))] 0 0 true true false, Root.mk true 3 [En.enc true (v0_DrawAdmit (deS UInt8 (enS false code)))] 0 0 true true false, Root.mk true 3 [En.enc true (admitB (v0_DrawAdmit (deS UInt8 (enS false code))) (v1_DrawAdmit (deS UInt8 (enS false code))))] 0 0 true true false, Root.mk true 3 [En.enc true (admitB (v0_DrawAdmit (deS UInt8 (enS false code))) (v1_DrawAdmit (deS UInt8 (enS false code))))] 0 0 true true false, Root.mk true 3 [En.enc true (v0_DrawBucketTick (deS UInt8 (enS false code)))] 0 0 true true false, Root.mk true 3 [En.enc true (v0_DrawBucketOk (deS UInt8 (enS false code)))] 0 0 true true false, Root.mk true 3 [En.enc true (buckNew (v0_DrawBucketNew (deS UInt8 (enS false code))) (v1_DrawBucketNew (deS UInt8 (enS false code))))] 0 0 true true false, Root.mk true 3 [En.enc true (buckNew (v0_DrawBucketNew (deS UInt8 (enS false code))) (v1_DrawBucketNew (deS UInt8 (enS false code))))] 0 0 true true false]
theorem q3_3 (code : List UInt8) (n : Nat) (i0 : Int) (i1 : Int) (f : St → RR) (K : Ex → St → RR) : B3_3 n (S3_3 code i0 i1) (kThen (fun st ↦ f (St.head 11 25165944 95769279291019406424051059718232593712013947701297152 st)) K) = bif decide (i1 < ofNat (length (enS true (v1_DrawAdmitAll (deS UInt8 (enS false code)))))) then bif decide (0 ≤ i1) && decide (i1 < ofNat (length (enS true (v1_DrawAdmitAll (deS UInt8 (enS false code)))))) then bif Leaf.fit true (Leaf.int i64) (getD (getD (enS true (v1_DrawAdmitAll (deS UInt8 (enS false code)))) (0 + toNat i1) []) 0 D.dead) && true then bif D.num (getD (getD (enS true (v1_DrawAdmitAll (deS UInt8 (enS false code)))) (0 + toNat i1) []) 0 D.dead) == 0 then f (S3_3 code (wrap i64 (i0 + 1)) (wrap i64 (i1 + 1))) else f (S3_3 code i0 (wrap i64 (i1 + 1))) else none else none else K (Ex.exit 0) (X3_5 code i0 i1) := by kernel_rfl
theorem aX3_5 (code : List UInt8) (n : Nat) (i0 : Int) (i1 : Int) : k3_1 n (Ex.exit 0) (X3_5 code i0 i1) = bif decide (Prod.snd (admAll (v0_DrawAdmitAll (deS UInt8 (enS false code))) (deS Int (lendRows (enS true (v1_DrawAdmitAll (deS UInt8 (enS false code))))))) ≤ wrap i64 (Bucket.Have (v0_DrawAdmitAll (deS UInt8 (enS false code))) + wrap i64 (i0 * Bucket.Per (v0_DrawAdmitAll (deS UInt8 (enS false code)))))) then bif buckOk (Prod.fst (admAll (v0_DrawAdmitAll (deS UInt8 (enS false code))) (deS Int (lendRows (enS true (v1_DrawAdmitAll (deS UInt8 (enS false code)))))))) then some ([[D.bool (decide (Prod.snd (admAll (v0_DrawAdmitAll (deS UInt8 (enS false code))) (deS Int (lendRows (enS true (v1_DrawAdmitAll (deS UInt8 (enS false code))))))) ≥ 0))]], []) else some ([[D.bool false]], []) else some ([[D.bool false]], []) := by kernel_rfl
theorem r3 (code : List UInt8) (n : Nat) : evFn ⟨prog, Hx, 3⟩ T8.call n f3 [[.sl false 1 (enS false code)]] = bif isS UInt8 false (enS false code) && true then bif decide (ofNat (length (deS UInt8 (enS false code))) > 1048576) then some ([[D.bool true]], []) else bif isS UInt8 false (enS false code) && decide (length (deS UInt8 (enS false code)) ≤ 1048576) then bif isS Int false (lendRows (enS true (v1_DrawAdmitAll (deS UInt8 (enS false code))))) && decide (length (deS Int (lendRows (enS true (v1_DrawAdmitAll (deS UInt8 (enS false code)))))) ≤ 1048576) then bif isS Int false (lendRows (enS true (v1_DrawAdmitAll (deS UInt8 (enS false code))))) && decide (length (deS Int (lendRows (enS true (v1_DrawAdmitAll (deS UInt8 (enS false code)))))) ≤ 1048576) then bif isS UInt8 false (enS false code) && decide (length (deS UInt8 (enS false code)) ≤ 1048576) then bif isS UInt8 false (enS false code) && decide (length (deS UInt8 (enS false code)) ≤ 1048576) then bif isS UInt8 false (enS false code) && decide (length (deS UInt8 (enS false code)) ≤ 1048576) then bif isS UInt8 false (enS false code) && decide (length (deS UInt8 (enS false code)) ≤ 1048576) then bif !(Bucket.Have (Prod.fst (admAll (v0_DrawAdmitAll (deS UInt8 (enS false code))) (deS Int (lendRows (enS true (v1_DrawAdmitAll (deS UInt8 (enS false code)))))))) == Bucket.Have (Prod.fst (admAll (v0_DrawAdmitAll (deS UInt8 (enS false code))) (deS Int (lendRows (enS true (v1_DrawAdmitAll (deS UInt8 (enS false code)))))))) && (Bucket.Most (Prod.fst (admAll (v0_DrawAdmitAll (deS UInt8 (enS false code))) (deS Int (lendRows (enS true (v1_DrawAdmitAll (deS UInt8 (enS false code)))))))) == Bucket.Most (Prod.fst (admAll (v0_DrawAdmitAll (deS UInt8 (enS false code))) (deS Int (lendRows (enS true (v1_DrawAdmitAll (deS UInt8 (enS false code)))))))) && (Bucket.Per (Prod.fst (admAll (v0_DrawAdmitAll (deS UInt8 (enS false code))) (deS Int (lendRows (enS true (v1_DrawAdmitAll (deS UInt8 (enS false code)))))))) == Bucket.Per (Prod.fst (admAll (v0_DrawAdmitAll (deS UInt8 (enS false code))) (deS Int (lendRows (enS true (v1_DrawAdmitAll (deS UInt8 (enS false code)))))))) && true))) then some ([[D.bool false]], []) else bif Prod.snd (admAll (v0_DrawAdmitAll (deS UInt8 (enS false code))) (deS Int (lendRows (enS true (v1_DrawAdmitAll (deS UInt8 (enS false code))))))) != Prod.snd (admAll (v0_DrawAdmitAll (deS UInt8 (enS false code))) (deS Int (lendRows (enS true (v1_DrawAdmitAll (deS UInt8 (enS false code))))))) then some ([[D.bool false]], []) else bif !(Bucket.Have (admitB (v0_DrawAdmit (deS UInt8 (enS false code))) (v1_DrawAdmit (deS UInt8 (enS false code)))) == Bucket.Have (admitB (v0_DrawAdmit (deS UInt8 (enS false code))) (v1_DrawAdmit (deS UInt8 (enS false code)))) && (Bucket.Most (admitB (v0_DrawAdmit (deS UInt8 (enS false code))) (v1_DrawAdmit (deS UInt8 (enS false code)))) == Bucket.Most (admitB (v0_DrawAdmit (deS UInt8 (enS false code))) (v1_DrawAdmit (deS UInt8 (enS false code)))) && (Bucket.Per (admitB (v0_DrawAdmit (deS UInt8 (enS false code))) (v1_DrawAdmit (deS UInt8 (enS false code)))) == Bucket.Per (admitB (v0_DrawAdmit (deS UInt8 (enS false code))) (v1_DrawAdmit (deS UInt8 (enS false code)))) && true))) then some ([[D.bool false]], []) else bif canAdmit (v0_DrawAdmit (deS UInt8 (enS false code))) (v1_DrawAdmit (deS UInt8 (enS false code))) != canAdmit (v0_DrawAdmit (deS UInt8 (enS false code))) (v1_DrawAdmit (deS UInt8 (enS false code))) then some ([[D.bool false]], []) else bif !(Bucket.Have (buckTick (v0_DrawBucketTick (deS UInt8 (enS false code)))) == Bucket.Have (buckTick (v0_DrawBucketTick (deS UInt8 (enS false code)))) && (Bucket.Most (buckTick (v0_DrawBucketTick (deS UInt8 (enS false code)))) == Bucket.Most (buckTick (v0_DrawBucketTick (deS UInt8 (enS false code)))) && (Bucket.Per (buckTick (v0_DrawBucketTick (deS UInt8 (enS false code)))) == Bucket.Per (buckTick (v0_DrawBucketTick (deS UInt8 (enS false code)))) && true))) then some ([[D.bool false]], []) else bif buckOk (v0_DrawBucketOk (deS UInt8 (enS false code))) != buckOk (v0_DrawBucketOk (deS UInt8 (enS false code))) then some ([[D.bool false]], []) else bif !(Bucket.Have (buckNew (v0_DrawBucketNew (deS UInt8 (enS false code))) (v1_DrawBucketNew (deS UInt8 (enS false code)))) == Bucket.Have (buckNew (v0_DrawBucketNew (deS UInt8 (enS false code))) (v1_DrawBucketNew (deS UInt8 (enS false code)))) && (Bucket.Most (buckNew (v0_DrawBucketNew (deS UInt8 (enS false code))) (v1_DrawBucketNew (deS UInt8 (enS false code)))) == Bucket.Most (buckNew (v0_DrawBucketNew (deS UInt8 (enS false code))) (v1_DrawBucketNew (deS UInt8 (enS false code)))) && (Bucket.Per (buckNew (v0_DrawBucketNew (deS UInt8 (enS false code))) (v1_DrawBucketNew (deS UInt8 (enS false code)))) == Bucket.Per (buckNew (v0_DrawBucketNew (deS UInt8 (enS false code))) (v1_DrawBucketNew (deS UInt8 (enS false code)))) && true))) then some ([[D.bool false]], []) else bif buckOk (Bucket.mk (v0_DrawBucketNew (deS UInt8 (enS false code))) (v0_DrawBucketNew (deS UInt8 (enS false code))) (v1_DrawBucketNew (deS UInt8 (enS false code)))) != buckOk (Bucket.mk (v0_DrawBucketNew (deS UInt8 (enS false code))) (v0_DrawBucketNew (deS UInt8 (enS false code))) (v1_DrawBucketNew (deS UInt8 (enS false code)))) then some ([[D.bool false]], []) else bif canAdmit (v0_DrawAdmit (deS UInt8 (enS false code))) (v1_DrawAdmit (deS UInt8 (enS false code))) then bif Bucket.Have (admitB (v0_DrawAdmit (deS UInt8 (enS false code))) (v1_DrawAdmit (deS UInt8 (enS false code)))) != wrap i64 (Bucket.Have (v0_DrawAdmit (deS UInt8 (enS false code))) - v1_DrawAdmit (deS UInt8 (enS false code))) then some ([[D.bool false]], []) else bif !buckOk (admitB (v0_DrawAdmit (deS UInt8 (enS false code))) (v1_DrawAdmit (deS UInt8 (enS false code)))) then some ([[D.bool false]], []) else bif !canAdmit (v0_DrawAdmit (deS UInt8 (enS false code))) (v1_DrawAdmit (deS UInt8 (enS false code))) then bif !(Bucket.Have (admitB (v0_DrawAdmit (deS UInt8 (enS false code))) (v1_DrawAdmit (deS UInt8 (enS false code)))) == Bucket.Have (v0_DrawAdmit (deS UInt8 (enS false code))) && (Bucket.Most (admitB (v0_DrawAdmit (deS UInt8 (enS false code))) (v1_DrawAdmit (deS UInt8 (enS false code)))) == Bucket.Most (v0_DrawAdmit (deS UInt8 (enS false code))) && (Bucket.Per (admitB (v0_DrawAdmit (deS UInt8 (enS false code))) (v1_DrawAdmit (deS UInt8 (enS false code)))) == Bucket.Per (v0_DrawAdmit (deS UInt8 (enS false code))) && true))) then some ([[D.bool false]], []) else bif !buckOk (v0_DrawAdmitAll (deS UInt8 (enS false code))) then bif Prod.snd (admAll (v0_DrawAdmitAll (deS UInt8 (enS false code))) (deS Int (lendRows (enS true (v1_DrawAdmitAll (deS UInt8 (enS false code))))))) == 0 then some ([[D.bool (Bucket.Have (Prod.fst (admAll (v0_DrawAdmitAll (deS UInt8 (enS false code))) (deS Int (lendRows (enS true (v1_DrawAdmitAll (deS UInt8 (enS false code)))))))) == Bucket.Have (v0_DrawAdmitAll (deS UInt8 (enS false code))) && (Bucket.Most (Prod.fst (admAll (v0_DrawAdmitAll (deS UInt8 (enS false code))) (deS Int (lendRows (enS true (v1_DrawAdmitAll (deS UInt8 (enS false code)))))))) == Bucket.Most (v0_DrawAdmitAll (deS UInt8 (enS false code))) && (Bucket.Per (Prod.fst (admAll (v0_DrawAdmitAll (deS UInt8 (enS false code))) (deS Int (lendRows (enS true (v1_DrawAdmitAll (deS UInt8 (enS false code)))))))) == Bucket.Per (v0_DrawAdmitAll (deS UInt8 (enS false code))) && true)))]], []) else some ([[D.bool false]], []) else bif decide (ofNat (length (enS true (v1_DrawAdmitAll (deS UInt8 (enS false code))))) > 200) then bif Prod.snd (admAll (v0_DrawAdmitAll (deS UInt8 (enS false code))) (deS Int (lendRows (enS true (v1_DrawAdmitAll (deS UInt8 (enS false code))))))) == 0 then some ([[D.bool (Bucket.Have (Prod.fst (admAll (v0_DrawAdmitAll (deS UInt8 (enS false code))) (deS Int (lendRows (enS true (v1_DrawAdmitAll (deS UInt8 (enS false code)))))))) == Bucket.Have (v0_DrawAdmitAll (deS UInt8 (enS false code))) && (Bucket.Most (Prod.fst (admAll (v0_DrawAdmitAll (deS UInt8 (enS false code))) (deS Int (lendRows (enS true (v1_DrawAdmitAll (deS UInt8 (enS false code)))))))) == Bucket.Most (v0_DrawAdmitAll (deS UInt8 (enS false code))) && (Bucket.Per (Prod.fst (admAll (v0_DrawAdmitAll (deS UInt8 (enS false code))) (deS Int (lendRows (enS true (v1_DrawAdmitAll (deS UInt8 (enS false code)))))))) == Bucket.Per (v0_DrawAdmitAll (deS UInt8 (enS false code))) && true)))]], []) else some ([[D.bool false]], []) else loopRun (B3_0 n) 11 25165944 95769279291019406424051059718232593712013947701297152 n (S3_0 code (0) (0)) (k3_1 n) else bif !buckOk (v0_DrawAdmitAll (deS UInt8 (enS false code))) then bif Prod.snd (admAll (v0_DrawAdmitAll (deS UInt8 (enS false code))) (deS Int (lendRows (enS true (v1_DrawAdmitAll (deS UInt8 (enS false code))))))) == 0 then some ([[D.bool (Bucket.Have (Prod.fst (admAll (v0_DrawAdmitAll (deS UInt8 (enS false code))) (deS Int (lendRows (enS true (v1_DrawAdmitAll (deS UInt8 (enS false code)))))))) == Bucket.Have (v0_DrawAdmitAll (deS UInt8 (enS false code))) && (Bucket.Most (Prod.fst (admAll (v0_DrawAdmitAll (deS UInt8 (enS false code))) (deS Int (lendRows (enS true (v1_DrawAdmitAll (deS UInt8 (enS false code)))))))) == Bucket.Most (v0_DrawAdmitAll (deS UInt8 (enS false code))) && (Bucket.Per (Prod.fst (admAll (v0_DrawAdmitAll (deS UInt8 (enS false code))) (deS Int (lendRows (enS true (v1_DrawAdmitAll (deS UInt8 (enS false code)))))))) == Bucket.Per (v0_DrawAdmitAll (deS UInt8 (enS false code))) && true)))]], []) else some ([[D.bool false]], []) else bif decide (ofNat (length (enS true (v1_DrawAdmitAll (deS UInt8 (enS false code))))) > 200) then bif Prod.snd (admAll (v0_DrawAdmitAll (deS UInt8 (enS false code))) (deS Int (lendRows (enS true (v1_DrawAdmitAll (deS UInt8 (enS false code))))))) == 0 then some ([[D.bool (Bucket.Have (Prod.fst (admAll (v0_DrawAdmitAll (deS UInt8 (enS false code))) (deS Int (lendRows (enS true (v1_DrawAdmitAll (deS UInt8 (enS false code)))))))) == Bucket.Have (v0_DrawAdmitAll (deS UInt8 (enS false code))) && (Bucket.Most (Prod.fst (admAll (v0_DrawAdmitAll (deS UInt8 (enS false code))) (deS Int (lendRows (enS true (v1_DrawAdmitAll (deS UInt8 (enS false code)))))))) == Bucket.Most (v0_DrawAdmitAll (deS UInt8 (enS false code))) && (Bucket.Per (Prod.fst (admAll (v0_DrawAdmitAll (deS UInt8 (enS false code))) (deS Int (lendRows (enS true (v1_DrawAdmitAll (deS UInt8 (enS false code)))))))) == Bucket.Per (v0_DrawAdmitAll (deS UInt8 (enS false code))) && true)))]], []) else some ([[D.bool false]], []) else loopRun (B3_1 n) 11 25165944 95769279291019406424051059718232593712013947701297152 n (S3_1 code (0) (0)) (k3_1 n) else bif !canAdmit (v0_DrawAdmit (deS UInt8 (enS false code))) (v1_DrawAdmit (deS UInt8 (enS false code))) then bif !(Bucket.Have (admitB (v0_DrawAdmit (deS UInt8 (enS false code))) (v1_DrawAdmit (deS UInt8 (enS false code)))) == Bucket.Have (v0_DrawAdmit (deS UInt8 (enS false code))) && (Bucket.Most (admitB (v0_DrawAdmit (deS UInt8 (enS false code))) (v1_DrawAdmit (deS UInt8 (enS false code)))) == Bucket.Most (v0_DrawAdmit (deS UInt8 (enS false code))) && (Bucket.Per (admitB (v0_DrawAdmit (deS UInt8 (enS false code))) (v1_DrawAdmit (deS UInt8 (enS false code)))) == Bucket.Per (v0_DrawAdmit (deS UInt8 (enS false code))) && true))) then some ([[D.bool false]], []) else bif !buckOk (v0_DrawAdmitAll (deS UInt8 (enS false code))) then bif Prod.snd (admAll (v0_DrawAdmitAll (deS UInt8 (enS false code))) (deS Int (lendRows (enS true (v1_DrawAdmitAll (deS UInt8 (enS false code))))))) == 0 then some ([[D.bool (Bucket.Have (Prod.fst (admAll (v0_DrawAdmitAll (deS UInt8 (enS false code))) (deS Int (lendRows (enS true (v1_DrawAdmitAll (deS UInt8 (enS false code)))))))) == Bucket.Have (v0_DrawAdmitAll (deS UInt8 (enS false code))) && (Bucket.Most (Prod.fst (admAll (v0_DrawAdmitAll (deS UInt8 (enS false code))) (deS Int (lendRows (enS true (v1_DrawAdmitAll (deS UInt8 (enS false code)))))))) == Bucket.Most (v0_DrawAdmitAll (deS UInt8 (enS false code))) && (Bucket.Per (Prod.fst (admAll (v0_DrawAdmitAll (deS UInt8 (enS false code))) (deS Int (lendRows (enS true (v1_DrawAdmitAll (deS UInt8 (enS false code)))))))) == Bucket.Per (v0_DrawAdmitAll (deS UInt8 (enS false code))) && true)))]], []) else some ([[D.bool false]], []) else bif decide (ofNat (length (enS true (v1_DrawAdmitAll (deS UInt8 (enS false code))))) > 200) then bif Prod.snd (admAll (v0_DrawAdmitAll (deS UInt8 (enS false code))) (deS Int (lendRows (enS true (v1_DrawAdmitAll (deS UInt8 (enS false code))))))) == 0 then some ([[D.bool (Bucket.Have (Prod.fst (admAll (v0_DrawAdmitAll (deS UInt8 (enS false code))) (deS Int (lendRows (enS true (v1_DrawAdmitAll (deS UInt8 (enS false code)))))))) == Bucket.Have (v0_DrawAdmitAll (deS UInt8 (enS false code))) && (Bucket.Most (Prod.fst (admAll (v0_DrawAdmitAll (deS UInt8 (enS false code))) (deS Int (lendRows (enS true (v1_DrawAdmitAll (deS UInt8 (enS false code)))))))) == Bucket.Most (v0_DrawAdmitAll (deS UInt8 (enS false code))) && (Bucket.Per (Prod.fst (admAll (v0_DrawAdmitAll (deS UInt8 (enS false code))) (deS Int (lendRows (enS true (v1_DrawAdmitAll (deS UInt8 (enS false code)))))))) == Bucket.Per (v0_DrawAdmitAll (deS UInt8 (enS false code))) && true)))]], []) else some ([[D.bool false]], []) else loopRun (B3_2 n) 11 25165944 95769279291019406424051059718232593712013947701297152 n (S3_2 code (0) (0)) (k3_1 n) else bif !buckOk (v0_DrawAdmitAll (deS UInt8 (enS false code))) then bif Prod.snd (admAll (v0_DrawAdmitAll (deS UInt8 (enS false code))) (deS Int (lendRows (enS true (v1_DrawAdmitAll (deS UInt8 (enS false code))))))) == 0 then some ([[D.bool (Bucket.Have (Prod.fst (admAll (v0_DrawAdmitAll (deS UInt8 (enS false code))) (deS Int (lendRows (enS true (v1_DrawAdmitAll (deS UInt8 (enS false code)))))))) == Bucket.Have (v0_DrawAdmitAll (deS UInt8 (enS false code))) && (Bucket.Most (Prod.fst (admAll (v0_DrawAdmitAll (deS UInt8 (enS false code))) (deS Int (lendRows (enS true (v1_DrawAdmitAll (deS UInt8 (enS false code)))))))) == Bucket.Most (v0_DrawAdmitAll (deS UInt8 (enS false code))) && (Bucket.Per (Prod.fst (admAll (v0_DrawAdmitAll (deS UInt8 (enS false code))) (deS Int (lendRows (enS true (v1_DrawAdmitAll (deS UInt8 (enS false code)))))))) == Bucket.Per (v0_DrawAdmitAll (deS UInt8 (enS false code))) && true)))]], []) else some ([[D.bool false]], []) else bif decide (ofNat (length (enS true (v1_DrawAdmitAll (deS UInt8 (enS false code))))) > 200) then bif Prod.snd (admAll (v0_DrawAdmitAll (deS UInt8 (enS false code))) (deS Int (lendRows (enS true (v1_DrawAdmitAll (deS UInt8 (enS false code))))))) == 0 then some ([[D.bool (Bucket.Have (Prod.fst (admAll (v0_DrawAdmitAll (deS UInt8 (enS false code))) (deS Int (lendRows (enS true (v1_DrawAdmitAll (deS UInt8 (enS false code)))))))) == Bucket.Have (v0_DrawAdmitAll (deS UInt8 (enS false code))) && (Bucket.Most (Prod.fst (admAll (v0_DrawAdmitAll (deS UInt8 (enS false code))) (deS Int (lendRows (enS true (v1_DrawAdmitAll (deS UInt8 (enS false code)))))))) == Bucket.Most (v0_DrawAdmitAll (deS UInt8 (enS false code))) && (Bucket.Per (Prod.fst (admAll (v0_DrawAdmitAll (deS UInt8 (enS false code))) (deS Int (lendRows (enS true (v1_DrawAdmitAll (deS UInt8 (enS false code)))))))) == Bucket.Per (v0_DrawAdmitAll (deS UInt8 (enS false code))) && true)))]], []) else some ([[D.bool false]], []) else loopRun (B3_3 n) 11 25165944 95769279291019406424051059718232593712013947701297152 n (S3_3 code (0) (0)) (k3_1 n) else none else none else none else none else none else none else none else none := by kernel_rfl
theorem l3_c0 (code : List UInt8) (n : Nat) (hc : decide (code.length ≤ 1048576) = true) (h1 : buckOk (v0_DrawAdmitAll code) = true) (h2 : (v1_DrawAdmitAll code).length ≤ 200) : loopRun (B3_0 n) 11 25165944 95769279291019406424051059718232593712013947701297152 (300 + code.length) (S3_0 code 0 0) (k3_1 n) = some ([[D.bool true]], []) := by
  refine loop_list (xs := v1_DrawAdmitAll code) (fun i (a : Int) => S3_0 code a (Int.ofNat i)) (fun i a => 0 ≤ a ∧ a + tickN ((v1_DrawAdmitAll code).drop i) = tickN (v1_DrawAdmitAll code)) (fun _ _ _ => some ([[D.bool true]], [])) ?_ ?_ (300 + code.length) 0 (by omega) ⟨Int.le_refl 0, by rw [List.drop_zero]; omega⟩
  · rintro a ⟨h3, h4⟩ f
    refine (q3_0 code _ _ _ f _).trans ?_
    rw [deS_enS]
    rw [end_lt, cond_false]
    refine (aX3_2 code _ _ _).trans ?_
    rw [deS_enS, lendRows_enS, deS_enS]
    rw [List.drop_length] at h4
    have h4 : a + 0 = tickN (v1_DrawAdmitAll code) := h4
    exact storm_end h1 h2 (by omega)
  · rintro i a hi ⟨h3, h4⟩ f hf
    refine (q3_0 code _ _ _ f _).trans ?_
    rw [deS_enS]
    simp only [enS_length, toNat_of, dec_lt, dec_ge, hi, decide_true, cond_true, Bool.and_self, Bool.and_true, Nat.zero_add, enS_get true hi, En.enc, List.getD_cons_zero, D.num, Leaf.fit, wrap_succ (show i < 4611686018427387904 by omega)]
    rw [List.drop_eq_getElem_cons hi] at h4
    have ht := tickN_nn (v1_DrawAdmitAll code)
    have ht2 := tickN_nn ((v1_DrawAdmitAll code).drop (i + 1))
    have e : tickN ((v1_DrawAdmitAll code)[i] :: (v1_DrawAdmitAll code).drop (i + 1)) = bif (v1_DrawAdmitAll code)[i] == 0 then 1 + tickN ((v1_DrawAdmitAll code).drop (i + 1)) else tickN ((v1_DrawAdmitAll code).drop (i + 1)) := rfl
    rw [e] at h4
    cases hx : (v1_DrawAdmitAll code)[i] == 0
    · rw [hx, cond_false] at h4
      exact hf a ⟨h3, h4⟩
    · rw [hx, cond_true] at h4
      rw [cond_true, wrap_sm (show -4611686018427387904 ≤ a + 1 by omega) (by omega)]
      exact hf (a + 1) ⟨by omega, by omega⟩
theorem l3_c1 (code : List UInt8) (n : Nat) (hc : decide (code.length ≤ 1048576) = true) (h1 : buckOk (v0_DrawAdmitAll code) = true) (h2 : (v1_DrawAdmitAll code).length ≤ 200) : loopRun (B3_1 n) 11 25165944 95769279291019406424051059718232593712013947701297152 (300 + code.length) (S3_1 code 0 0) (k3_1 n) = some ([[D.bool true]], []) := by
  refine loop_list (xs := v1_DrawAdmitAll code) (fun i (a : Int) => S3_1 code a (Int.ofNat i)) (fun i a => 0 ≤ a ∧ a + tickN ((v1_DrawAdmitAll code).drop i) = tickN (v1_DrawAdmitAll code)) (fun _ _ _ => some ([[D.bool true]], [])) ?_ ?_ (300 + code.length) 0 (by omega) ⟨Int.le_refl 0, by rw [List.drop_zero]; omega⟩
  · rintro a ⟨h3, h4⟩ f
    refine (q3_1 code _ _ _ f _).trans ?_
    rw [deS_enS]
    rw [end_lt, cond_false]
    refine (aX3_3 code _ _ _).trans ?_
    rw [deS_enS, lendRows_enS, deS_enS]
    rw [List.drop_length] at h4
    have h4 : a + 0 = tickN (v1_DrawAdmitAll code) := h4
    exact storm_end h1 h2 (by omega)
  · rintro i a hi ⟨h3, h4⟩ f hf
    refine (q3_1 code _ _ _ f _).trans ?_
    rw [deS_enS]
    simp only [enS_length, toNat_of, dec_lt, dec_ge, hi, decide_true, cond_true, Bool.and_self, Bool.and_true, Nat.zero_add, enS_get true hi, En.enc, List.getD_cons_zero, D.num, Leaf.fit, wrap_succ (show i < 4611686018427387904 by omega)]
    rw [List.drop_eq_getElem_cons hi] at h4
    have ht := tickN_nn (v1_DrawAdmitAll code)
    have ht2 := tickN_nn ((v1_DrawAdmitAll code).drop (i + 1))
    have e : tickN ((v1_DrawAdmitAll code)[i] :: (v1_DrawAdmitAll code).drop (i + 1)) = bif (v1_DrawAdmitAll code)[i] == 0 then 1 + tickN ((v1_DrawAdmitAll code).drop (i + 1)) else tickN ((v1_DrawAdmitAll code).drop (i + 1)) := rfl
    rw [e] at h4
    cases hx : (v1_DrawAdmitAll code)[i] == 0
    · rw [hx, cond_false] at h4
      exact hf a ⟨h3, h4⟩
    · rw [hx, cond_true] at h4
      rw [cond_true, wrap_sm (show -4611686018427387904 ≤ a + 1 by omega) (by omega)]
      exact hf (a + 1) ⟨by omega, by omega⟩
theorem l3_c2 (code : List UInt8) (n : Nat) (hc : decide (code.length ≤ 1048576) = true) (h1 : buckOk (v0_DrawAdmitAll code) = true) (h2 : (v1_DrawAdmitAll code).length ≤ 200) : loopRun (B3_2 n) 11 25165944 95769279291019406424051059718232593712013947701297152 (300 + code.length) (S3_2 code 0 0) (k3_1 n) = some ([[D.bool true]], []) := by
  refine loop_list (xs := v1_DrawAdmitAll code) (fun i (a : Int) => S3_2 code a (Int.ofNat i)) (fun i a => 0 ≤ a ∧ a + tickN ((v1_DrawAdmitAll code).drop i) = tickN (v1_DrawAdmitAll code)) (fun _ _ _ => some ([[D.bool true]], [])) ?_ ?_ (300 + code.length) 0 (by omega) ⟨Int.le_refl 0, by rw [List.drop_zero]; omega⟩
  · rintro a ⟨h3, h4⟩ f
    refine (q3_2 code _ _ _ f _).trans ?_
    rw [deS_enS]
    rw [end_lt, cond_false]
    refine (aX3_4 code _ _ _).trans ?_
    rw [deS_enS, lendRows_enS, deS_enS]
    rw [List.drop_length] at h4
    have h4 : a + 0 = tickN (v1_DrawAdmitAll code) := h4
    exact storm_end h1 h2 (by omega)
  · rintro i a hi ⟨h3, h4⟩ f hf
    refine (q3_2 code _ _ _ f _).trans ?_
    rw [deS_enS]
    simp only [enS_length, toNat_of, dec_lt, dec_ge, hi, decide_true, cond_true, Bool.and_self, Bool.and_true, Nat.zero_add, enS_get true hi, En.enc, List.getD_cons_zero, D.num, Leaf.fit, wrap_succ (show i < 4611686018427387904 by omega)]
    rw [List.drop_eq_getElem_cons hi] at h4
    have ht := tickN_nn (v1_DrawAdmitAll code)
    have ht2 := tickN_nn ((v1_DrawAdmitAll code).drop (i + 1))
    have e : tickN ((v1_DrawAdmitAll code)[i] :: (v1_DrawAdmitAll code).drop (i + 1)) = bif (v1_DrawAdmitAll code)[i] == 0 then 1 + tickN ((v1_DrawAdmitAll code).drop (i + 1)) else tickN ((v1_DrawAdmitAll code).drop (i + 1)) := rfl
    rw [e] at h4
    cases hx : (v1_DrawAdmitAll code)[i] == 0
    · rw [hx, cond_false] at h4
      exact hf a ⟨h3, h4⟩
    · rw [hx, cond_true] at h4
      rw [cond_true, wrap_sm (show -4611686018427387904 ≤ a + 1 by omega) (by omega)]
      exact hf (a + 1) ⟨by omega, by omega⟩
theorem l3_c3 (code : List UInt8) (n : Nat) (hc : decide (code.length ≤ 1048576) = true) (h1 : buckOk (v0_DrawAdmitAll code) = true) (h2 : (v1_DrawAdmitAll code).length ≤ 200) : loopRun (B3_3 n) 11 25165944 95769279291019406424051059718232593712013947701297152 (300 + code.length) (S3_3 code 0 0) (k3_1 n) = some ([[D.bool true]], []) := by
  refine loop_list (xs := v1_DrawAdmitAll code) (fun i (a : Int) => S3_3 code a (Int.ofNat i)) (fun i a => 0 ≤ a ∧ a + tickN ((v1_DrawAdmitAll code).drop i) = tickN (v1_DrawAdmitAll code)) (fun _ _ _ => some ([[D.bool true]], [])) ?_ ?_ (300 + code.length) 0 (by omega) ⟨Int.le_refl 0, by rw [List.drop_zero]; omega⟩
  · rintro a ⟨h3, h4⟩ f
    refine (q3_3 code _ _ _ f _).trans ?_
    rw [deS_enS]
    rw [end_lt, cond_false]
    refine (aX3_5 code _ _ _).trans ?_
    rw [deS_enS, lendRows_enS, deS_enS]
    rw [List.drop_length] at h4
    have h4 : a + 0 = tickN (v1_DrawAdmitAll code) := h4
    exact storm_end h1 h2 (by omega)
  · rintro i a hi ⟨h3, h4⟩ f hf
    refine (q3_3 code _ _ _ f _).trans ?_
    rw [deS_enS]
    simp only [enS_length, toNat_of, dec_lt, dec_ge, hi, decide_true, cond_true, Bool.and_self, Bool.and_true, Nat.zero_add, enS_get true hi, En.enc, List.getD_cons_zero, D.num, Leaf.fit, wrap_succ (show i < 4611686018427387904 by omega)]
    rw [List.drop_eq_getElem_cons hi] at h4
    have ht := tickN_nn (v1_DrawAdmitAll code)
    have ht2 := tickN_nn ((v1_DrawAdmitAll code).drop (i + 1))
    have e : tickN ((v1_DrawAdmitAll code)[i] :: (v1_DrawAdmitAll code).drop (i + 1)) = bif (v1_DrawAdmitAll code)[i] == 0 then 1 + tickN ((v1_DrawAdmitAll code).drop (i + 1)) else tickN ((v1_DrawAdmitAll code).drop (i + 1)) := rfl
    rw [e] at h4
    cases hx : (v1_DrawAdmitAll code)[i] == 0
    · rw [hx, cond_false] at h4
      exact hf a ⟨h3, h4⟩
    · rw [hx, cond_true] at h4
      rw [cond_true, wrap_sm (show -4611686018427387904 ≤ a + 1 by omega) (by omega)]
      exact hf (a + 1) ⟨by omega, by omega⟩
theorem m3 (code : List UInt8) (hpre : (o3 code).1 = true) : evFn ⟨Go.Proofs.Try.prog, Hx, 3⟩ T8.call (300 + code.length) f3 [[.sl false 1 (enS false code)]] = some (o3 code).2 := by
  refine (r3 code _).trans ?_
  show _ = (some ([[.bool (true)]], []) : Option (List Row × List Row))
  replace hpre : (decide (code.length ≤ 9223372036854775807)) = true := hpre
  have hT : ∀ x : Int, (Int.ofNat code.length > x) = ((code.length : Int) > x) := fun _ => rfl
  simp only [isS_enS, deS_enS, Bool.and_self, Bool.and_true, Bool.true_and, cond_true, hT]
  refine bif_c (fun _ => rfl) (fun hbig => ?_)
  have hc := big_no hbig
  have hl : (v1_DrawAdmitAll code).length ≤ 300 := p_DrawAdmitAll code hc
  have hld : decide ((v1_DrawAdmitAll code).length ≤ 1048576) = true := decide_eq_true (by omega)
  simp only [lendRows_enS, isS_enS, deS_enS, hc, hld, beq_self_eq_true, bne_self_eq_false, Bool.and_self, Bool.not_true, cond_true, cond_false]
  cases hk : canAdmit (v0_DrawAdmit code) (v1_DrawAdmit code)
  · have e3 : admitB (v0_DrawAdmit code) (v1_DrawAdmit code) = v0_DrawAdmit code := by unfold admitB; rw [hk]; rfl
    simp only [e3, beq_self_eq_true, bne_self_eq_false, Bool.and_self, Bool.not_true, Bool.not_false, cond_true, cond_false]
    exact storm_tail (fun h1 h2 => l3_c2 code _ hc h1 h2)
  · have e4 : buckOk (admitB (v0_DrawAdmit code) (v1_DrawAdmit code)) = true := admit_bok hk
    obtain ⟨h3, h4, h5⟩ := can_b hk
    have hb := buck_b h3
    have e3 : (admitB (v0_DrawAdmit code) (v1_DrawAdmit code)).Have = IntKind.wrap IntKind.i64 ((v0_DrawAdmit code).Have - v1_DrawAdmit code) := by
      rw [wrap_sm (by omega) (by omega)]
      unfold admitB
      rw [hk]
      rfl
    simp only [e3, e4, beq_self_eq_true, bne_self_eq_false, Bool.and_self, Bool.not_true, Bool.not_false, cond_true, cond_false]
    exact storm_tail (fun h1 h2 => l3_c1 code _ hc h1 h2)
theorem s3 : SoundAt Go.Proofs.Try.prog Hx 3 c3 := soundAt_of T8_sound mixed func3 (by kernel_rfl) (by
  intro rows r h
  unfold c3 at h
  split at h
  · rename_i code
    obtain ⟨hp, hr⟩ := Prod.mk.inj (Option.some.inj h)
    subst hr
    simp only [Bool.and_eq_true] at hp
    obtain ⟨hs0, hp⟩ := hp
    obtain ⟨xs0, rfl⟩ := isS_ex hs0
    simp only [deS_enS] at hp ⊢
    exact ⟨_, m3 xs0 hp⟩
  · cases h)
def T3 : Table := (3, c3) :: T8
theorem T3_sound : Table.Sound Go.Proofs.Try.prog Hx T3 := Table.sound_cons s3 T8_sound
end Go.Ev
end
