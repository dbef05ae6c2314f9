/- Contracts of functions, each by its evaluation. -/
import Derived.Test.YtihhlajibgoemaaEvMd
import Derived.Test.YtihhlajibgoemaaProg
import Derived.KernelRfl
import Derived.Test.YtihhlajibgoemaaFFabnew
set_option linter.unusedVariables false
set_option linter.unusedSimpArgs false
set_option maxRecDepth 100000
noncomputable section
open List (getD length drop take set append replicate all isEmpty)
open Int (toNat ofNat)
open Go.IntKind (i64 wrap)
open Go.Proofs.Try (prog f3 func3)
namespace Go.Ev
open Go.RowKit Go.Md
def o3 (aN : Net) : Bool × List Row × List Row := (Net.big aN, [[.bool (true)]], [])
def c3 : Contract
  | [[.sl false 2 aN_Bridges, .sl false 4 aN_Links]] => some (isS Bridge false aN_Bridges && isS Link false aN_Links && (o3 ⟨(deS Bridge aN_Bridges), (deS Link aN_Links)⟩).1, (o3 ⟨(deS Bridge aN_Bridges), (deS Link aN_Links)⟩).2.1, (o3 ⟨(deS Bridge aN_Bridges), (deS Link aN_Links)⟩).2.2)
  | _ => none

def v3_0 (aN : Net) : Bool := isS Bridge false (enS false (Net.Bridges aN)) && isS Link false (enS false (Net.Links aN))
def v3_1 (aN : Net) : List Bridge := deS Bridge (enS false (Net.Bridges aN))
def v3_2 (aN : Net) : List Link := deS Link (enS false (Net.Links aN))
def v3_3 (aN : Net) : Int := szR (Net.wt (Net.mk (v3_1 aN) (v3_2 aN))) (1048576)
def v3_4 (aN : Net) : Bool := v3_0 aN && Net.small (Net.mk (v3_1 aN) (v3_2 aN))
def v3_5 (aN : Net) : List (List D) := enS true (v3_1 aN)
def v3_6 (aN : Net) : List (List D) := lendRows (v3_5 aN)
def v3_7 (aN : Net) : Bool := isS Bridge false (v3_6 aN)
def v3_8 (aN : Net) : List (List D) := enS true (v3_2 aN)
def v3_9 (aN : Net) : List (List D) := lendRows (v3_8 aN)
def v3_10 (aN : Net) : Bool := isS Link false (v3_9 aN)
def v3_11 (aN : Net) : Bool := v3_7 aN && v3_10 aN
def v3_12 (aN : Net) : Bool := Net.small (Net.mk (deS Bridge (v3_6 aN)) (deS Link (v3_9 aN)))
def v3_13 (aN : Net) : Bool := v3_11 aN && v3_12 aN
def v3_14 (aN : Net) : List (List D) := enS true (Net.Bridges (Fabric.Net (fabN (Net.mk (deS Bridge (v3_6 aN)) (deS Link (v3_9 aN))))))
def v3_15 (aN : Net) : List (List D) := enS true (Net.Links (Fabric.Net (fabN (Net.mk (deS Bridge (v3_6 aN)) (deS Link (v3_9 aN))))))
def v3_16 (aN : Net) : List (List D) := enS true (Fabric.Cards (fabN (Net.mk (deS Bridge (v3_6 aN)) (deS Link (v3_9 aN)))))
def v3_17 (aN : Net) : Bool := deepRows (v3_14 aN) && (deepRows (v3_15 aN) && (deepRows (v3_16 aN) && true)) && true && true && true
def v3_18 (aN : Net) : List (List D) := lendRows (v3_14 aN)
def v3_19 (aN : Net) : Bool := isS Bridge false (v3_18 aN)
def v3_20 (aN : Net) : List (List D) := lendRows (v3_15 aN)
def v3_21 (aN : Net) : Bool := isS Link false (v3_20 aN)
def v3_22 (aN : Net) : List (List D) := lendRows (v3_16 aN)
def v3_23 (aN : Net) : Bool := isS Card false (v3_22 aN)
def v3_24 (aN : Net) : Bool := v3_19 aN && v3_21 aN && v3_23 aN && v3_19 aN && v3_21 aN && v3_23 aN && (sameB (Fabric.mk (Net.mk (deS Bridge (v3_18 aN)) (deS Link (v3_20 aN))) (deS Card (v3_22 aN))) (Fabric.mk (Net.mk (deS Bridge (v3_18 aN)) (deS Link (v3_20 aN))) (deS Card (v3_22 aN))) && Fabric.small (Fabric.mk (Net.mk (deS Bridge (v3_18 aN)) (deS Link (v3_20 aN))) (deS Card (v3_22 aN))))
def v3_25 (aN : Net) : Bool := hostsB (Net.mk (deS Bridge (v3_6 aN)) (deS Link (v3_9 aN)))
def v3_26 (aN : Net) : Bool := v3_25 aN != v3_25 aN
def v3_27 (aN : Net) : List Bridge := deS Bridge (v3_5 aN)
def v3_28 (aN : Net) : List Link := deS Link (v3_8 aN)
def v3_29 (aN : Net) : Int := 1 + Net.nTop (Net.mk (v3_27 aN) (v3_28 aN))
def v3_30 (aN : Net) : List Bridge := deS Bridge (v3_14 aN)
def v3_31 (aN : Net) : List Link := deS Link (v3_15 aN)
def v3_32 (aN : Net) : List Card := deS Card (v3_16 aN)
def v3_33 (aN : Net) : Int := 1 + Fabric.nTop (Fabric.mk (Net.mk (v3_30 aN) (v3_31 aN)) (v3_32 aN))
def v3_34 (aN : Net) : List (List D) := lendRows (enS true (Net.Bridges (Fabric.Net (Fabric.mkTop (Fabric.mk (Net.mk (v3_30 aN) (v3_31 aN)) (v3_32 aN)) (1)))))
def v3_35 (aN : Net) : List (List D) := lendRows (enS true (Net.Links (Fabric.Net (Fabric.mkTop (Fabric.mk (Net.mk (v3_30 aN) (v3_31 aN)) (v3_32 aN)) (1)))))
def v3_36 (aN : Net) : List (List D) := lendRows (enS true (Fabric.Cards (Fabric.mkTop (Fabric.mk (Net.mk (v3_30 aN) (v3_31 aN)) (v3_32 aN)) (1))))
def v3_37 (aN : Net) : List Bridge := deS Bridge (v3_34 aN)
def v3_38 (aN : Net) : List Link := deS Link (v3_35 aN)
def v3_39 (aN : Net) : List Card := deS Card (v3_36 aN)
def v3_40 (aN : Net) : Int := 1 + Fabric.nTop (Fabric.mk (Net.mk (v3_37 aN) (v3_38 aN)) (v3_39 aN))
def v3_41 (aN : Net) : Bool := isS Bridge false (v3_34 aN) && isS Link false (v3_35 aN) && isS Card false (v3_36 aN) && (sameB (Fabric.mkTop (Fabric.mk (Net.mk (v3_37 aN) (v3_38 aN)) (v3_39 aN)) (1)) (Fabric.mk (Net.mk (v3_37 aN) (v3_38 aN)) (v3_39 aN)) && (decide (v3_40 aN ≤ 4611686018427387904) && ((decide (length (v3_37 aN) ≤ 1152921504606846976) && all (v3_37 aN) fun x ↦ decide (length (Bridge.Ports x) ≤ 1152921504606846976)) && decide (length (v3_38 aN) ≤ 1152921504606846976) && (decide (length (v3_39 aN) ≤ 1152921504606846976) && all (v3_39 aN) fun x ↦ decide (length (Card.Open x) ≤ 1152921504606846976) && (decide (length (Card.Members x) ≤ 1152921504606846976) && all (Card.Members x) fun x_1 ↦ decide (length (Member.In x_1) ≤ 1152921504606846976)) && decide (length (Card.Table x) ≤ 1152921504606846976)))))
def v3_42 (aN : Net) : Bool := decide (v3_40 aN < 0)
def v3_43 (aN : Net) : Bool := v3_40 aN != v3_33 aN
theorem r3 (aN : Net) (n : Nat) : evFn ⟨prog, Hx, 3⟩ T7.call n f3 [[.sl false 2 (enS false aN.Bridges), .sl false 4 (enS false aN.Links)]] = bif v3_0 aN && Net.big (Net.mk (v3_1 aN) (v3_2 aN)) then bif decide (v3_3 aN < 0) then some ([[D.bool true]], []) else bif v3_4 aN then bif v3_13 aN then bif v3_17 aN then bif v3_4 aN then bif v3_13 aN then bif v3_17 aN then bif v3_24 aN then bif v3_26 aN then some ([[D.bool false]], []) else bif v3_4 aN then bif v3_11 aN && v3_7 aN && v3_10 aN && (sameB (Net.mk (deS Bridge (v3_6 aN)) (deS Link (v3_9 aN))) (Net.mk (deS Bridge (v3_6 aN)) (deS Link (v3_9 aN))) && v3_12 aN) then bif isS Bridge true (v3_5 aN) && isS Link true (v3_8 aN) && (decide (v3_29 aN ≤ 4611686018427387904) && ((decide (length (v3_27 aN) ≤ 1152921504606846976) && all (v3_27 aN) fun x ↦ decide (length (Bridge.Ports x) ≤ 1152921504606846976)) && decide (length (v3_28 aN) ≤ 1152921504606846976))) then bif decide (v3_29 aN < 0) then some ([[D.bool false]], []) else bif v3_24 aN then bif v3_26 aN then some ([[D.bool false]], []) else bif isS Bridge true (v3_14 aN) && isS Link true (v3_15 aN) && isS Card true (v3_16 aN) && (decide (v3_33 aN ≤ 4611686018427387904) && ((decide (length (v3_30 aN) ≤ 1152921504606846976) && all (v3_30 aN) fun x ↦ decide (length (Bridge.Ports x) ≤ 1152921504606846976)) && decide (length (v3_31 aN) ≤ 1152921504606846976) && (decide (length (v3_32 aN) ≤ 1152921504606846976) && all (v3_32 aN) fun x ↦ decide (length (Card.Open x) ≤ 1152921504606846976) && (decide (length (Card.Members x) ≤ 1152921504606846976) && all (Card.Members x) fun x_1 ↦ decide (length (Member.In x_1) ≤ 1152921504606846976)) && decide (length (Card.Table x) ≤ 1152921504606846976)))) then bif v3_41 aN then bif v3_42 aN then some ([[D.bool false]], []) else bif v3_43 aN then some ([[D.bool false]], []) else bif v3_4 aN then bif v3_13 aN then bif v3_17 aN then bif v3_24 aN then bif v3_26 aN then some ([[D.bool false]], []) else bif v3_41 aN then bif v3_42 aN then some ([[D.bool false]], []) else bif v3_43 aN then some ([[D.bool false]], []) else some ([[D.bool true]], []) else none else none else none else none else none else none else none else none else none else none else none else none else none else none else none else none else none else none else none := by kernel_rfl
theorem m3 (aN : Net) (hpre : (o3 aN).1 = true) : evFn ⟨Go.Proofs.Try.prog, Hx, 3⟩ T7.call 0 f3 [[.sl false 2 (enS false aN.Bridges), .sl false 4 (enS false aN.Links)]] = some (o3 aN).2 := by
  refine (r3 aN _).trans ?_
  show _ = (some ([[.bool (true)]], []) : Option (List Row × List Row))
  replace hpre : (Net.big aN) = true := hpre
  rcases szR_cases (Net.wt aN) (1048576) (by omega) with ⟨hw0, he0, hz0⟩ | ⟨_, _, hz0⟩
  case inr => simp only [v3_0, v3_1, v3_2, v3_3, v3_4, v3_5, v3_6, v3_7, v3_8, v3_9, v3_10, v3_11, v3_12, v3_13, v3_14, v3_15, v3_16, v3_17, v3_18, v3_19, v3_20, v3_21, v3_22, v3_23, v3_24, v3_25, v3_26, v3_27, v3_28, v3_29, v3_30, v3_31, v3_32, v3_33, v3_34, v3_35, v3_36, v3_37, v3_38, v3_39, v3_40, v3_41, v3_42, v3_43, hpre, hz0, isS_enS, deS_enS, Bool.and_self, Bool.and_true, Bool.true_and, cond_true, cond_false, TReader.eta, Frame.eta, Heard.eta, Member.eta, Card.eta, Out1.eta, Vec.eta, Port.eta, Bridge.eta, In.eta, Out.eta, Link.eta, Net.eta, TEnd.eta, Minder.eta, Reg.eta, Wire.eta, Box.eta, Deed.eta, Bpdu.eta, Visit.eta, Fabric.eta, Got.eta, TRide.eta, Up.eta, Copy.eta, Bucket.eta, Snap.eta, TL9Cur.eta, TL21In.eta]
  have hsm0 := Net.small_of aN (by omega)
  have n0 : 0 ≤ Net.nTop aN := Net.nTop_pos aN
  have m0 : Net.nTop aN ≤ 100000000 := by have := Net.nTop_le aN; omega
  have x0 := Net.top_ok aN (1) (by omega) (by omega) (by omega)
  simp only [Bool.and_eq_true] at x0
  have y0 : decide (1 + Net.nTop aN < 0) = false := decide_eq_false (by omega)
  have hl0 : Fabric.wt (fabN aN) ≤ 1048576 := fabN_wt aN
  generalize hg0 : fabN aN = g0 at hl0 ⊢
  have nn0 : 0 ≤ Fabric.nTop g0 := Fabric.nTop_pos g0
  have mm0 : Fabric.nTop g0 ≤ 100000000 := by have := Fabric.nTop_le g0; omega
  have ia0 := Fabric.mkTop_idem g0 (1)
  have ib0 := Fabric.nTop_mk g0 (1)
  have ka0 := Fabric.top_ok g0 (1) (by omega) (by omega) hl0
  have kb0 := Fabric.top_ok (Fabric.mkTop g0 (1)) (1) (by omega) (by omega) (by rw [Fabric.wt_mk]; exact hl0)
  simp only [ib0, markS_length, Bool.and_eq_true] at ka0 kb0
  have kc0 := Fabric.small_of g0 hl0
  try simp only [Bool.and_eq_true] at kc0
  have kd0 : decide (1 + Fabric.nTop g0 < 0) = false := decide_eq_false (by omega)
  simp only [v3_0, v3_1, v3_2, v3_3, v3_4, v3_5, v3_6, v3_7, v3_8, v3_9, v3_10, v3_11, v3_12, v3_13, v3_14, v3_15, v3_16, v3_17, v3_18, v3_19, v3_20, v3_21, v3_22, v3_23, v3_24, v3_25, v3_26, v3_27, v3_28, v3_29, v3_30, v3_31, v3_32, v3_33, v3_34, v3_35, v3_36, v3_37, v3_38, v3_39, v3_40, v3_41, v3_42, v3_43, hpre, hz0, hsm0, x0, y0, hg0, ia0, ib0, ka0, kb0, kc0, kd0, isS_enS, deS_enS, lendRows_enS, deepRows_enS, sameB_self, enS_length, markS_length, Bool.and_self, Bool.and_true, Bool.true_and, cond_true, cond_false, Bool.not_true, Bool.not_false, bne_self_eq_false, noSl_u8, TReader.eta, Frame.eta, Heard.eta, Member.eta, Card.eta, Out1.eta, Vec.eta, Port.eta, Bridge.eta, In.eta, Out.eta, Link.eta, Net.eta, TEnd.eta, Minder.eta, Reg.eta, Wire.eta, Box.eta, Deed.eta, Bpdu.eta, Visit.eta, Fabric.eta, Got.eta, TRide.eta, Up.eta, Copy.eta, Bucket.eta, Snap.eta, TL9Cur.eta, TL21In.eta]
theorem s3 : SoundAt Go.Proofs.Try.prog Hx 3 c3 := soundAt_of T7_sound mixed func3 (by kernel_rfl) (by
  intro rows r h
  unfold c3 at h
  split at h
  · rename_i aN_Bridges aN_Links
    obtain ⟨hp, hr⟩ := Prod.mk.inj (Option.some.inj h)
    subst hr
    simp only [Bool.and_eq_true] at hp
    obtain ⟨⟨hs0, hs1⟩, hp⟩ := hp
    obtain ⟨xs0, rfl⟩ := isS_ex hs0
    obtain ⟨xs1, rfl⟩ := isS_ex hs1
    simp only [deS_enS] at hp ⊢
    exact ⟨_, m3 ⟨xs0, xs1⟩ hp⟩
  · cases h)
def T3 : Table := (3, c3) :: T7
theorem T3_sound : Table.Sound Go.Proofs.Try.prog Hx T3 := Table.sound_cons s3 T7_sound
end Go.Ev
end
