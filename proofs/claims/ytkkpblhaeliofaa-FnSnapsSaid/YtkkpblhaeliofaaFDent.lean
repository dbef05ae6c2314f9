/- Contracts of functions, each by its evaluation. -/
import Derived.Test.YtkkpblhaeliofaaEvMd
import Derived.Test.YtkkpblhaeliofaaProg
import Derived.KernelRfl
import Derived.Test.YtkkpblhaeliofaaFDvin
set_option linter.unusedVariables false
set_option linter.unusedSimpArgs false
set_option maxRecDepth 100000
noncomputable section
open List (getD length drop take set append replicate all isEmpty)
open Int (toNat ofNat)
open Go.IntKind (i64 wrap)
open Go.Proofs.Try (prog f50 func50)
namespace Go.Ev
open Go.RowKit Go.Md
end Go.Ev
namespace Go.Md
open Go Go.Ev
theorem app_byte (a b : List UInt8) (x : Int) : List.append (enS true a) ([D.int .u8 (IntKind.wrap .u8 x)] :: enS true b) = enS true (a ++ u8 x :: b) := by
  rw [← u8_enc true x]
  exact (enS_append true a (u8 x :: b)).symm
end Go.Md
namespace Go.Ev
open Go.Md
end Go.Ev
namespace Go.Md
open Go Go.Ev
def P_l2Dent (c : TL1Cur) (b : List UInt8) (x : (List UInt8) × TL1Cur) : Prop := evFn ⟨Go.Proofs.Try.prog, Hx, 50⟩ T16.call 0 f50 [[.sl false 1 c.b, .int .i64 c.i, .int .i64 c.h], [.sl true 1 (enS true b)]] = some ([[.sl true 1 (enS true x.1)]], [[.sl false 1 x.2.b, .int .i64 x.2.i, .int .i64 x.2.h]]) ∧ (x.1.length ≤ b.length + 1 ∧ curOk x.2 = true)
noncomputable def w_l2Dent (c : TL1Cur) (b : List UInt8) : (List UInt8) × TL1Cur := @Classical.epsilon ((List UInt8) × TL1Cur) ⟨([], ⟨[], 0, 0⟩)⟩ (P_l2Dent c b)
noncomputable def v0_l2Dent (c : TL1Cur) (b : List UInt8) : List UInt8 := (w_l2Dent c b).1
noncomputable def b0_l2Dent (c : TL1Cur) (b : List UInt8) : TL1Cur := (w_l2Dent c b).2
end Go.Md
namespace Go.Ev
open Go.Md
def o50 (c : TL1Cur) (b : List UInt8) : Bool × List Row × List Row := (curOk c && decide (b.length ≤ 1048576), [[.sl true 1 (enS true (v0_l2Dent c b))]], [[.sl false 1 (b0_l2Dent c b).b, .int .i64 (b0_l2Dent c b).i, .int .i64 (b0_l2Dent c b).h]])
def c50 : Contract
  | [[.sl false 1 c_b, .int .i64 c_i, .int .i64 c_h], [.sl true 1 b]] => some (isS UInt8 true b && (o50 ⟨c_b, c_i, c_h⟩ (deS UInt8 b)).1, (o50 ⟨c_b, c_i, c_h⟩ (deS UInt8 b)).2.1, (o50 ⟨c_b, c_i, c_h⟩ (deS UInt8 b)).2.2)
  | _ => none

theorem r50 (c : TL1Cur) (b : List UInt8) (n : Nat) : evFn ⟨prog, Hx, 50⟩ T16.call n f50 [[.sl false 1 c.b, .int .i64 c.i, .int .i64 c.h], [.sl true 1 (enS true b)]] = bif curOk c then bif curOk (b0_l1Below c (wrap i64 (ofNat (length (enS true b)) + 1))) then bif v0_l1Below (b0_l1Below c (wrap i64 (ofNat (length (enS true b)) + 1))) (5) == 0 then bif decide (0 ≤ v0_l1Below c (wrap i64 (ofNat (length (enS true b)) + 1))) && decide (v0_l1Below c (wrap i64 (ofNat (length (enS true b)) + 1)) ≤ ofNat (length (enS true b))) then some ([[D.sl true 1 (take (toNat (v0_l1Below c (wrap i64 (ofNat (length (enS true b)) + 1)) - 0)) (enS true b))]], [[D.sl false 1 (TL1Cur.b (b0_l1Below (b0_l1Below c (wrap i64 (ofNat (length (enS true b)) + 1))) (5))), D.int i64 (TL1Cur.i (b0_l1Below (b0_l1Below c (wrap i64 (ofNat (length (enS true b)) + 1))) (5))), D.int i64 (TL1Cur.h (b0_l1Below (b0_l1Below c (wrap i64 (ofNat (length (enS true b)) + 1))) (5)))]]) else none else bif v0_l1Below (b0_l1Below c (wrap i64 (ofNat (length (enS true b)) + 1))) (5) == 1 then bif decide (0 ≤ v0_l1Below c (wrap i64 (ofNat (length (enS true b)) + 1))) && decide (v0_l1Below c (wrap i64 (ofNat (length (enS true b)) + 1)) ≤ ofNat (length (enS true b))) then bif (all (take (toNat (v0_l1Below c (wrap i64 (ofNat (length (enS true b)) + 1)) - 0)) (enS true b)) fun r ↦ all r D.noSl) && true && decide ((0 + length (take (toNat (v0_l1Below c (wrap i64 (ofNat (length (enS true b)) + 1)) - 0)) (enS true b))) * 1 ≤ 140737488355328) then bif isS Int true [[D.int i64 (0)], [D.int i64 (1)], [D.int i64 (128)], [D.int i64 (3)]] && (curOk (b0_l1Below (b0_l1Below c (wrap i64 (ofNat (length (enS true b)) + 1))) (5)) && (decide (0 < length (deS Int [[D.int i64 (0)], [D.int i64 (1)], [D.int i64 (128)], [D.int i64 (3)]])) && decide (length (deS Int [[D.int i64 (0)], [D.int i64 (1)], [D.int i64 (128)], [D.int i64 (3)]]) ≤ 1048576))) then bif decide (0 ≤ v0_l1Below c (wrap i64 (ofNat (length (enS true b)) + 1))) && (decide (v0_l1Below c (wrap i64 (ofNat (length (enS true b)) + 1)) ≤ ofNat (length (enS true b))) && decide (ofNat (length (enS true b)) ≤ ofNat (length (enS true b)))) then bif (all (take (toNat (ofNat (length (enS true b)) - v0_l1Below c (wrap i64 (ofNat (length (enS true b)) + 1)))) (drop (0 + toNat (v0_l1Below c (wrap i64 (ofNat (length (enS true b)) + 1)))) (enS true b))) fun r ↦ all r D.noSl) && true && decide ((1 + length (take (toNat (ofNat (length (enS true b)) - v0_l1Below c (wrap i64 (ofNat (length (enS true b)) + 1)))) (drop (0 + toNat (v0_l1Below c (wrap i64 (ofNat (length (enS true b)) + 1)))) (enS true b)))) * 1 ≤ 140737488355328) then bif (all (take (toNat (ofNat (length (enS true b)) - v0_l1Below c (wrap i64 (ofNat (length (enS true b)) + 1)))) (drop (0 + toNat (v0_l1Below c (wrap i64 (ofNat (length (enS true b)) + 1)))) (enS true b))) fun r ↦ all r D.noSl) && true && decide ((length (take (toNat (v0_l1Below c (wrap i64 (ofNat (length (enS true b)) + 1)) - 0)) (enS true b)) + length ([D.int IntKind.u8 (wrap IntKind.u8 (v0_l1PickInt (b0_l1Below (b0_l1Below c (wrap i64 (ofNat (length (enS true b)) + 1))) (5)) (deS Int [[D.int i64 (0)], [D.int i64 (1)], [D.int i64 (128)], [D.int i64 (3)]])))] :: take (toNat (ofNat (length (enS true b)) - v0_l1Below c (wrap i64 (ofNat (length (enS true b)) + 1)))) (drop (0 + toNat (v0_l1Below c (wrap i64 (ofNat (length (enS true b)) + 1)))) (enS true b)))) * 1 ≤ 140737488355328) then some ([[D.sl true 1 (append (take (toNat (v0_l1Below c (wrap i64 (ofNat (length (enS true b)) + 1)) - 0)) (enS true b)) ([D.int IntKind.u8 (wrap IntKind.u8 (v0_l1PickInt (b0_l1Below (b0_l1Below c (wrap i64 (ofNat (length (enS true b)) + 1))) (5)) (deS Int [[D.int i64 (0)], [D.int i64 (1)], [D.int i64 (128)], [D.int i64 (3)]])))] :: take (toNat (ofNat (length (enS true b)) - v0_l1Below c (wrap i64 (ofNat (length (enS true b)) + 1)))) (drop (0 + toNat (v0_l1Below c (wrap i64 (ofNat (length (enS true b)) + 1)))) (enS true b))))]], [[D.sl false 1 (TL1Cur.b (b0_l1PickInt (b0_l1Below (b0_l1Below c (wrap i64 (ofNat (length (enS true b)) + 1))) (5)) (deS Int [[D.int i64 (0)], [D.int i64 (1)], [D.int i64 (128)], [D.int i64 (3)]]))), D.int i64 (TL1Cur.i (b0_l1PickInt (b0_l1Below (b0_l1Below c (wrap i64 (ofNat (length (enS true b)) + 1))) (5)) (deS Int [[D.int i64 (0)], [D.int i64 (1)], [D.int i64 (128)], [D.int i64 (3)]]))), D.int i64 (TL1Cur.h (b0_l1PickInt (b0_l1Below (b0_l1Below c (wrap i64 (ofNat (length (enS true b)) + 1))) (5)) (deS Int [[D.int i64 (0)], [D.int i64 (1)], [D.int i64 (128)], [D.int i64 (3)]])))]]) else none else none else none else none else none else none else some ([[D.sl true 1 (enS true b)]], [[D.sl false 1 (TL1Cur.b (b0_l1Below (b0_l1Below c (wrap i64 (ofNat (length (enS true b)) + 1))) (5))), D.int i64 (TL1Cur.i (b0_l1Below (b0_l1Below c (wrap i64 (ofNat (length (enS true b)) + 1))) (5))), D.int i64 (TL1Cur.h (b0_l1Below (b0_l1Below c (wrap i64 (ofNat (length (enS true b)) + 1))) (5)))]]) else none else none := by kernel_rfl
def G_l2Dent (c : TL1Cur) (b : List UInt8) (r : Option (List Row × List Row)) : Prop := ∃ x : (List UInt8) × TL1Cur, r = some ([[.sl true 1 (enS true x.1)]], [[.sl false 1 x.2.b, .int .i64 x.2.i, .int .i64 x.2.h]]) ∧ (x.1.length ≤ b.length + 1 ∧ curOk x.2 = true)
theorem leaf_l2Dent (c : TL1Cur) (b : List UInt8) {z0 : List UInt8} {z1_b : List (List D)} {z1_i : Int} {z1_h : Int} (h : (z0 : List UInt8).length ≤ b.length + 1 ∧ curOk (⟨z1_b, z1_i, z1_h⟩ : TL1Cur) = true) : G_l2Dent c b (some ([[.sl true 1 (enS true z0)]], [[.sl false 1 z1_b, .int .i64 z1_i, .int .i64 z1_h]])) := ⟨(z0, ⟨z1_b, z1_i, z1_h⟩), rfl, h⟩
theorem e_l2Dent (c : TL1Cur) (b : List UInt8) (hpre : (o50 c b).1 = true) : ∃ x, P_l2Dent c b x := by
  show G_l2Dent c b _
  refine Eq.mpr (congrArg (G_l2Dent c b) (r50 c b _)) ?_
  replace hpre : (curOk c && decide (b.length ≤ 1048576)) = true := hpre
  rw [Bool.and_eq_true, decide_eq_true_eq] at hpre
  obtain ⟨hc, hb⟩ := hpre
  have e0 : IntKind.wrap IntKind.i64 (Int.ofNat b.length + 1) = (b.length : Int) + 1 := wrap_sm (by show _ ≤ (b.length : Int) + 1; omega) (by show (b.length : Int) + 1 ≤ _; omega)
  simp only [enS_length]
  simp only [e0]
  have x := p_l1Below c ((b.length : Int) + 1) hc
  have x2 := x.1.2 (by omega)
  have k1 := k_l1Below _ 5 x.2
  obtain ⟨k, hk⟩ := Int.eq_ofNat_of_zero_le x.1.1
  have hkl : k ≤ b.length := by omega
  have e1 : decide ((k : Int) ≤ Int.ofNat b.length) = true := decide_eq_true (by show (k : Int) ≤ (b.length : Int); omega)
  have e2 : decide (0 ≤ (k : Int)) = true := decide_eq_true (by omega)
  have e3 : decide (Int.ofNat b.length ≤ Int.ofNat b.length) = true := decide_eq_true (Int.le_refl _)
  have e4 : ((k : Int) - 0).toNat = k := by omega
  have e5 : (Int.ofNat b.length - (k : Int)).toNat = b.length - k := by show ((b.length : Int) - (k : Int)).toNat = _; omega
  simp only [hk, e1, e2, e3, e4, e5, Bool.and_self, Nat.zero_add, Int.toNat_natCast, enS_take, enS_drop, noSl_u8, enS_length, List.length_take, List.length_drop]
  refine g_pre hc (g_pre x.2 (g_if (fun _ => g_t rfl ?_) (fun _ => g_if (fun _ => g_t rfl (g_pre (decide_eq_true (by omega)) (g_pre (by simp (maxDischargeDepth := 60) [TL1Cur.eta, isS_int_cons, isS_nil, deS, List.map_cons, List.map_nil, List.length_cons, List.length_nil, k_l1Byte, k_l1Below, k_l1Once, k_l1PickInt, k_l6DrawRight, k_l6Draw, k_l8DrawIn, k_l8DrawBent, k_l9DrawList, k1]) (g_t rfl (g_pre (decide_eq_true (by omega)) (g_pre (decide_eq_true (by rw [List.length_cons, enS_length, List.length_take, List.length_drop]; omega)) ?_)))))) (fun _ => ?_))))
  · refine leaf_l2Dent _ _  ?_
    exact ⟨by rw [List.length_take]; omega, k1⟩
  · rw [app_byte]
    refine leaf_l2Dent _ _  ?_
    refine ⟨by rw [List.length_append, List.length_cons, List.length_take, List.length_take, List.length_drop]; omega, by simp (maxDischargeDepth := 60) [TL1Cur.eta, isS_int_cons, isS_nil, deS, List.map_cons, List.map_nil, List.length_cons, List.length_nil, k_l1Byte, k_l1Below, k_l1Once, k_l1PickInt, k_l6DrawRight, k_l6Draw, k_l8DrawIn, k_l8DrawBent, k_l9DrawList, k1]⟩
  · refine leaf_l2Dent _ _  ?_
    exact ⟨Nat.le_succ _, k1⟩
theorem p_l2Dent (c : TL1Cur) (b : List UInt8) (hpre : (o50 c b).1 = true) : (v0_l2Dent c b).length ≤ b.length + 1 ∧ curOk (b0_l2Dent c b) = true := (Classical.epsilon_spec (e_l2Dent c b hpre)).2
theorem k_l2Dent (c : TL1Cur) (b : List UInt8) (hpre : (curOk c && decide (b.length ≤ 1048576)) = true) : curOk (b0_l2Dent c b) = true := (p_l2Dent c b hpre).2
theorem m50 (c : TL1Cur) (b : List UInt8) (hpre : (o50 c b).1 = true) : evFn ⟨Go.Proofs.Try.prog, Hx, 50⟩ T16.call 0 f50 [[.sl false 1 c.b, .int .i64 c.i, .int .i64 c.h], [.sl true 1 (enS true b)]] = some (o50 c b).2 := (Classical.epsilon_spec (e_l2Dent c b hpre)).1
theorem s50 : SoundAt Go.Proofs.Try.prog Hx 50 c50 := soundAt_of T16_sound mixed func50 (by kernel_rfl) (by
  intro rows r h
  unfold c50 at h
  split at h
  · rename_i c_b c_i c_h b
    obtain ⟨hp, hr⟩ := Prod.mk.inj (Option.some.inj h)
    subst hr
    simp only [Bool.and_eq_true] at hp
    obtain ⟨hs0, hp⟩ := hp
    obtain ⟨xs0, rfl⟩ := isS_ex hs0
    simp only [deS_enS] at hp ⊢
    exact ⟨_, m50 ⟨c_b, c_i, c_h⟩ xs0 hp⟩
  · cases h)
def T50 : Table := (50, c50) :: T16
theorem T50_sound : Table.Sound Go.Proofs.Try.prog Hx T50 := Table.sound_cons s50 T16_sound
end Go.Ev
end
