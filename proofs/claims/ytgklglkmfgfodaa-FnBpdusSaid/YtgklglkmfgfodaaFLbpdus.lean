/- Contracts of functions, each by its evaluation. -/
import Derived.Test.YtgklglkmfgfodaaEvMd
import Derived.Test.YtgklglkmfgfodaaProg
import Derived.KernelRfl
import Derived.Test.YtgklglkmfgfodaaFClaimin
set_option linter.unusedVariables false
set_option linter.unusedSimpArgs false
set_option maxRecDepth 100000
noncomputable section
open List (getD length drop take set append replicate all isEmpty)
open Int (toNat ofNat)
open Go.IntKind (i64 wrap)
open Go.Proofs.Try (prog f5 func5)
namespace Go.Ev
open Go.RowKit Go.Md
end Go.Ev
namespace Go.Md
open Go Go.Ev
theorem bpM_back {b : List UInt8} (h : (bpM b).2 = true) : bpduBs (bpM b).1 = b := by
  unfold bpM at h ⊢
  cases hc : decide (b.length = 36) && (bpduOk (bpX b) && decide (bpduBs (bpX b) = b))
  · rw [hc] at h
    cases h
  · rw [cond_true]
    simp only [Bool.and_eq_true, decide_eq_true_eq] at hc
    exact hc.2.2
theorem bpM_cut {b : List UInt8} (h : b.length ≠ 36) : (bpM b).2 = false := by
  unfold bpM
  rw [decide_eq_false h]
  rfl
theorem bpdu_none {x : Bpdu} (h : bpduOk x = false) : bpduBs x = [] := by
  unfold bpduBs
  rw [h]
  rfl
theorem claim_yes {b : Bpdu} {p : Int} (h : claimOk b p = true) : claimM b p = ⟨1, p, b.Vec, b.Hops, false⟩ ∧ inOk (⟨1, p, b.Vec, b.Hops, false⟩ : In) = true := by
  have e : claimM b p = ⟨1, p, b.Vec, b.Hops, false⟩ := by unfold claimM; rw [h]; rfl
  refine ⟨e, ?_⟩
  unfold claimOk at h
  rw [Bool.and_eq_true] at h
  exact h.2
theorem all_u8 (o : Bool) (xs : List UInt8) : ((enS o xs).all fun r => fits o [Leaf.int IntKind.u8] r) = true := enS_fits o xs
end Go.Md
namespace Go.Ev
open Go.Md
def o5 (code : List UInt8) : Bool × List Row × List Row := (decide (code.length ≤ 9223372036854775807), [[.bool (true)]], [])
def c5 : Contract
  | [[.sl false 1 code]] => some (isS UInt8 false code && (o5 (deS UInt8 code)).1, (o5 (deS UInt8 code)).2.1, (o5 (deS UInt8 code)).2.2)
  | _ => none

def v5_0 (code : List UInt8) : Bool := isS UInt8 false (enS false code)
def v5_1 (code : List UInt8) : List UInt8 := deS UInt8 (enS false code)
def v5_2 (code : List UInt8) : Int := ofNat (length (v5_1 code))
def v5_3 (code : List UInt8) : Bool := v5_0 code && decide (length (v5_1 code) ≤ 1048576)
def v5_4 (code : List UInt8) : List (List D) := enS true (v0_DrawBpduOf (v5_1 code))
def v5_5 (code : List UInt8) : List (List D) := lendRows (v5_4 code)
def v5_6 (code : List UInt8) : List UInt8 := deS UInt8 (v5_5 code)
def v5_7 (code : List UInt8) : Bool := isS UInt8 false (v5_5 code) && decide (length (v5_6 code) ≤ 1048576)
def v5_8 (code : List UInt8) : List (List D) := enS true (bpduBs (v0_DrawBpduBytes (v5_1 code)))
def v5_9 (code : List UInt8) : Bool := all (v5_8 code) fun r ↦ fits true [Leaf.int IntKind.u8] r
def v5_10 (code : List UInt8) : List UInt8 := ByteArray.toList (ByteArray.mk (Array.mk (List.map (fun r ↦ Nat.toUInt8 (toNat (D.num (getD r (0) D.dead)))) (v5_8 code))))
def v5_11 (code : List UInt8) : Bool := Bpdu.Change (Prod.fst (bpM (v5_6 code)))
def v5_12 (code : List UInt8) : Bool := Bpdu.Ask (Prod.fst (bpM (v5_6 code)))
def v5_13 (code : List UInt8) : Bool := Bpdu.Agree (Prod.fst (bpM (v5_6 code)))
def v5_14 (code : List UInt8) : Bool := Bpdu.Learn (Prod.fst (bpM (v5_6 code)))
def v5_15 (code : List UInt8) : Bool := Bpdu.Open (Prod.fst (bpM (v5_6 code)))
def v5_16 (code : List UInt8) : Int := Bpdu.Role (Prod.fst (bpM (v5_6 code)))
def v5_17 (code : List UInt8) : Int := Vec.Root (Bpdu.Vec (Prod.fst (bpM (v5_6 code))))
def v5_18 (code : List UInt8) : Int := Vec.Cost (Bpdu.Vec (Prod.fst (bpM (v5_6 code))))
def v5_19 (code : List UInt8) : Int := Vec.Bridge (Bpdu.Vec (Prod.fst (bpM (v5_6 code))))
def v5_20 (code : List UInt8) : Int := Vec.Port (Bpdu.Vec (Prod.fst (bpM (v5_6 code))))
def v5_21 (code : List UInt8) : Int := Bpdu.Hops (Prod.fst (bpM (v5_6 code)))
def v5_22 (code : List UInt8) : Bool := Prod.snd (bpM (v5_6 code))
def v5_23 (code : List UInt8) : Bool := bpduOk (v0_DrawBpduOk (v5_1 code))
def v5_24 (code : List UInt8) : Int := flagsOf (v0_DrawFlagsOf (v5_1 code))
def v5_25 (code : List UInt8) : Int := v1_DrawClaimIn (v5_1 code)
def v5_26 (code : List UInt8) : Int := In.Kind (claimM (v0_DrawClaimIn (v5_1 code)) (v5_25 code))
def v5_27 (code : List UInt8) : Int := In.Port (claimM (v0_DrawClaimIn (v5_1 code)) (v5_25 code))
def v5_28 (code : List UInt8) : Int := Vec.Root (In.Vec (claimM (v0_DrawClaimIn (v5_1 code)) (v5_25 code)))
def v5_29 (code : List UInt8) : Int := Vec.Cost (In.Vec (claimM (v0_DrawClaimIn (v5_1 code)) (v5_25 code)))
def v5_30 (code : List UInt8) : Int := Vec.Bridge (In.Vec (claimM (v0_DrawClaimIn (v5_1 code)) (v5_25 code)))
def v5_31 (code : List UInt8) : Int := Vec.Port (In.Vec (claimM (v0_DrawClaimIn (v5_1 code)) (v5_25 code)))
def v5_32 (code : List UInt8) : Int := In.Hops (claimM (v0_DrawClaimIn (v5_1 code)) (v5_25 code))
def v5_33 (code : List UInt8) : Bool := In.Up (claimM (v0_DrawClaimIn (v5_1 code)) (v5_25 code))
def v5_34 (code : List UInt8) : Bool := claimOk (v0_DrawClaimIn (v5_1 code)) (v5_25 code)
def v5_35 (code : List UInt8) : List (List D) := enS true (bpduBs (Prod.fst (bpM (v5_6 code))))
def v5_36 (code : List UInt8) : Int := ofNat (length (v5_8 code))
def v5_37 (code : List UInt8) : List (List D) := lendRows (v5_8 code)
def v5_38 (code : List UInt8) : List UInt8 := deS UInt8 (v5_37 code)
def v5_39 (code : List UInt8) : List (List D) := lendRows (take (toNat (ofNat 35)) (v5_8 code))
def v5_40 (code : List UInt8) : List UInt8 := deS UInt8 (v5_39 code)
def v5_41 (code : List UInt8) : Bool := Bpdu.Change (Prod.fst (bpM (v5_38 code)))
def v5_42 (code : List UInt8) : Bool := Bpdu.Change (v0_DrawBpduBytes (v5_1 code))
def v5_43 (code : List UInt8) : Bool := Bpdu.Ask (Prod.fst (bpM (v5_38 code)))
def v5_44 (code : List UInt8) : Bool := Bpdu.Ask (v0_DrawBpduBytes (v5_1 code))
def v5_45 (code : List UInt8) : Bool := Bpdu.Agree (Prod.fst (bpM (v5_38 code)))
def v5_46 (code : List UInt8) : Bool := Bpdu.Agree (v0_DrawBpduBytes (v5_1 code))
def v5_47 (code : List UInt8) : Bool := Bpdu.Learn (Prod.fst (bpM (v5_38 code)))
def v5_48 (code : List UInt8) : Bool := Bpdu.Learn (v0_DrawBpduBytes (v5_1 code))
def v5_49 (code : List UInt8) : Bool := Bpdu.Open (Prod.fst (bpM (v5_38 code)))
def v5_50 (code : List UInt8) : Bool := Bpdu.Open (v0_DrawBpduBytes (v5_1 code))
theorem r5 (code : List UInt8) (n : Nat) : evFn ⟨prog, Hx, 5⟩ T37.call n f5 [[.sl false 1 (enS false code)]] = bif v5_0 code && true then bif decide (v5_2 code > 1048576) then some ([[D.bool true]], []) else bif v5_3 code then bif v5_3 code then bif v5_7 code then bif v5_7 code then bif v5_3 code then bif v5_3 code then bif v5_3 code then bif v5_9 code then bif v5_9 code then bif !v5_10 code == v5_10 code then some ([[D.bool false]], []) else bif !(decide (v5_11 code = v5_11 code) && (decide (v5_12 code = v5_12 code) && (decide (v5_13 code = v5_13 code) && (decide (v5_14 code = v5_14 code) && (decide (v5_15 code = v5_15 code) && (v5_16 code == v5_16 code && (v5_17 code == v5_17 code && (v5_18 code == v5_18 code && (v5_19 code == v5_19 code && (v5_20 code == v5_20 code && true))) && (v5_21 code == v5_21 code && true)))))))) then some ([[D.bool false]], []) else bif v5_22 code != v5_22 code then some ([[D.bool false]], []) else bif v5_23 code != v5_23 code then some ([[D.bool false]], []) else bif v5_24 code != v5_24 code then some ([[D.bool false]], []) else bif !(v5_26 code == v5_26 code && (v5_27 code == v5_27 code && (v5_28 code == v5_28 code && (v5_29 code == v5_29 code && (v5_30 code == v5_30 code && (v5_31 code == v5_31 code && true))) && (v5_32 code == v5_32 code && (decide (v5_33 code = v5_33 code) && true))))) then some ([[D.bool false]], []) else bif v5_34 code != v5_34 code then some ([[D.bool false]], []) else bif v5_22 code then bif all (v5_35 code) fun r ↦ fits true [Leaf.int IntKind.u8] r then bif all (v5_4 code) fun r ↦ fits true [Leaf.int IntKind.u8] r then bif !ByteArray.toList (ByteArray.mk (Array.mk (List.map (fun r ↦ Nat.toUInt8 (toNat (D.num (getD r (0) D.dead)))) (v5_35 code)))) == ByteArray.toList (ByteArray.mk (Array.mk (List.map (fun r ↦ Nat.toUInt8 (toNat (D.num (getD r (0) D.dead)))) (v5_4 code)))) then some ([[D.bool false]], []) else bif v5_34 code then bif !(v5_28 code == Vec.Root (Bpdu.Vec (v0_DrawClaimIn (v5_1 code))) && (v5_29 code == Vec.Cost (Bpdu.Vec (v0_DrawClaimIn (v5_1 code))) && (v5_30 code == Vec.Bridge (Bpdu.Vec (v0_DrawClaimIn (v5_1 code))) && (v5_31 code == Vec.Port (Bpdu.Vec (v0_DrawClaimIn (v5_1 code))) && true)))) then some ([[D.bool false]], []) else bif v5_32 code != Bpdu.Hops (v0_DrawClaimIn (v5_1 code)) then some ([[D.bool false]], []) else bif !inOk (claimM (v0_DrawClaimIn (v5_1 code)) (v5_25 code)) then some ([[D.bool false]], []) else bif !bpduOk (v0_DrawBpduBytes (v5_1 code)) then some ([[D.bool (v5_36 code == 0)]], []) else bif isS UInt8 false (v5_37 code) && decide (length (v5_38 code) ≤ 1048576) then bif decide (35 ≤ v5_36 code) then bif isS UInt8 false (v5_39 code) && decide (length (v5_40 code) ≤ 1048576) then bif Prod.snd (bpM (v5_38 code)) then bif decide (v5_41 code = v5_42 code) && (decide (v5_43 code = v5_44 code) && (decide (v5_45 code = v5_46 code) && (decide (v5_47 code = v5_48 code) && (decide (v5_49 code = v5_50 code) && (Bpdu.Role (Prod.fst (bpM (v5_38 code))) == Bpdu.Role (v0_DrawBpduBytes (v5_1 code)) && (Vec.Root (Bpdu.Vec (Prod.fst (bpM (v5_38 code)))) == Vec.Root (Bpdu.Vec (v0_DrawBpduBytes (v5_1 code))) && (Vec.Cost (Bpdu.Vec (Prod.fst (bpM (v5_38 code)))) == Vec.Cost (Bpdu.Vec (v0_DrawBpduBytes (v5_1 code))) && (Vec.Bridge (Bpdu.Vec (Prod.fst (bpM (v5_38 code)))) == Vec.Bridge (Bpdu.Vec (v0_DrawBpduBytes (v5_1 code))) && (Vec.Port (Bpdu.Vec (Prod.fst (bpM (v5_38 code)))) == Vec.Port (Bpdu.Vec (v0_DrawBpduBytes (v5_1 code))) && true))) && (Bpdu.Hops (Prod.fst (bpM (v5_38 code))) == Bpdu.Hops (v0_DrawBpduBytes (v5_1 code)) && true))))))) then bif !Prod.snd (bpM (v5_40 code)) then some ([[D.bool (v5_36 code == 36)]], []) else some ([[D.bool false]], []) else some ([[D.bool false]], []) else some ([[D.bool false]], []) else none else none else none else bif !bpduOk (v0_DrawBpduBytes (v5_1 code)) then some ([[D.bool (v5_36 code == 0)]], []) else bif isS UInt8 false (v5_37 code) && decide (length (v5_38 code) ≤ 1048576) then bif decide (35 ≤ v5_36 code) then bif isS UInt8 false (v5_39 code) && decide (length (v5_40 code) ≤ 1048576) then bif Prod.snd (bpM (v5_38 code)) then bif decide (v5_41 code = v5_42 code) && (decide (v5_43 code = v5_44 code) && (decide (v5_45 code = v5_46 code) && (decide (v5_47 code = v5_48 code) && (decide (v5_49 code = v5_50 code) && (Bpdu.Role (Prod.fst (bpM (v5_38 code))) == Bpdu.Role (v0_DrawBpduBytes (v5_1 code)) && (Vec.Root (Bpdu.Vec (Prod.fst (bpM (v5_38 code)))) == Vec.Root (Bpdu.Vec (v0_DrawBpduBytes (v5_1 code))) && (Vec.Cost (Bpdu.Vec (Prod.fst (bpM (v5_38 code)))) == Vec.Cost (Bpdu.Vec (v0_DrawBpduBytes (v5_1 code))) && (Vec.Bridge (Bpdu.Vec (Prod.fst (bpM (v5_38 code)))) == Vec.Bridge (Bpdu.Vec (v0_DrawBpduBytes (v5_1 code))) && (Vec.Port (Bpdu.Vec (Prod.fst (bpM (v5_38 code)))) == Vec.Port (Bpdu.Vec (v0_DrawBpduBytes (v5_1 code))) && true))) && (Bpdu.Hops (Prod.fst (bpM (v5_38 code))) == Bpdu.Hops (v0_DrawBpduBytes (v5_1 code)) && true))))))) then bif !Prod.snd (bpM (v5_40 code)) then some ([[D.bool (v5_36 code == 36)]], []) else some ([[D.bool false]], []) else some ([[D.bool false]], []) else some ([[D.bool false]], []) else none else none else none else none else none else bif v5_34 code then bif !(v5_28 code == Vec.Root (Bpdu.Vec (v0_DrawClaimIn (v5_1 code))) && (v5_29 code == Vec.Cost (Bpdu.Vec (v0_DrawClaimIn (v5_1 code))) && (v5_30 code == Vec.Bridge (Bpdu.Vec (v0_DrawClaimIn (v5_1 code))) && (v5_31 code == Vec.Port (Bpdu.Vec (v0_DrawClaimIn (v5_1 code))) && true)))) then some ([[D.bool false]], []) else bif v5_32 code != Bpdu.Hops (v0_DrawClaimIn (v5_1 code)) then some ([[D.bool false]], []) else bif !inOk (claimM (v0_DrawClaimIn (v5_1 code)) (v5_25 code)) then some ([[D.bool false]], []) else bif !bpduOk (v0_DrawBpduBytes (v5_1 code)) then some ([[D.bool (v5_36 code == 0)]], []) else bif isS UInt8 false (v5_37 code) && decide (length (v5_38 code) ≤ 1048576) then bif decide (35 ≤ v5_36 code) then bif isS UInt8 false (v5_39 code) && decide (length (v5_40 code) ≤ 1048576) then bif Prod.snd (bpM (v5_38 code)) then bif decide (v5_41 code = v5_42 code) && (decide (v5_43 code = v5_44 code) && (decide (v5_45 code = v5_46 code) && (decide (v5_47 code = v5_48 code) && (decide (v5_49 code = v5_50 code) && (Bpdu.Role (Prod.fst (bpM (v5_38 code))) == Bpdu.Role (v0_DrawBpduBytes (v5_1 code)) && (Vec.Root (Bpdu.Vec (Prod.fst (bpM (v5_38 code)))) == Vec.Root (Bpdu.Vec (v0_DrawBpduBytes (v5_1 code))) && (Vec.Cost (Bpdu.Vec (Prod.fst (bpM (v5_38 code)))) == Vec.Cost (Bpdu.Vec (v0_DrawBpduBytes (v5_1 code))) && (Vec.Bridge (Bpdu.Vec (Prod.fst (bpM (v5_38 code)))) == Vec.Bridge (Bpdu.Vec (v0_DrawBpduBytes (v5_1 code))) && (Vec.Port (Bpdu.Vec (Prod.fst (bpM (v5_38 code)))) == Vec.Port (Bpdu.Vec (v0_DrawBpduBytes (v5_1 code))) && true))) && (Bpdu.Hops (Prod.fst (bpM (v5_38 code))) == Bpdu.Hops (v0_DrawBpduBytes (v5_1 code)) && true))))))) then bif !Prod.snd (bpM (v5_40 code)) then some ([[D.bool (v5_36 code == 36)]], []) else some ([[D.bool false]], []) else some ([[D.bool false]], []) else some ([[D.bool false]], []) else none else none else none else bif !bpduOk (v0_DrawBpduBytes (v5_1 code)) then some ([[D.bool (v5_36 code == 0)]], []) else bif isS UInt8 false (v5_37 code) && decide (length (v5_38 code) ≤ 1048576) then bif decide (35 ≤ v5_36 code) then bif isS UInt8 false (v5_39 code) && decide (length (v5_40 code) ≤ 1048576) then bif Prod.snd (bpM (v5_38 code)) then bif decide (v5_41 code = v5_42 code) && (decide (v5_43 code = v5_44 code) && (decide (v5_45 code = v5_46 code) && (decide (v5_47 code = v5_48 code) && (decide (v5_49 code = v5_50 code) && (Bpdu.Role (Prod.fst (bpM (v5_38 code))) == Bpdu.Role (v0_DrawBpduBytes (v5_1 code)) && (Vec.Root (Bpdu.Vec (Prod.fst (bpM (v5_38 code)))) == Vec.Root (Bpdu.Vec (v0_DrawBpduBytes (v5_1 code))) && (Vec.Cost (Bpdu.Vec (Prod.fst (bpM (v5_38 code)))) == Vec.Cost (Bpdu.Vec (v0_DrawBpduBytes (v5_1 code))) && (Vec.Bridge (Bpdu.Vec (Prod.fst (bpM (v5_38 code)))) == Vec.Bridge (Bpdu.Vec (v0_DrawBpduBytes (v5_1 code))) && (Vec.Port (Bpdu.Vec (Prod.fst (bpM (v5_38 code)))) == Vec.Port (Bpdu.Vec (v0_DrawBpduBytes (v5_1 code))) && true))) && (Bpdu.Hops (Prod.fst (bpM (v5_38 code))) == Bpdu.Hops (v0_DrawBpduBytes (v5_1 code)) && true))))))) then bif !Prod.snd (bpM (v5_40 code)) then some ([[D.bool (v5_36 code == 36)]], []) else some ([[D.bool false]], []) else some ([[D.bool false]], []) else some ([[D.bool false]], []) else none else none else none else none else none else none else none else none else none else none else none else none else none := by kernel_rfl
theorem m5 (code : List UInt8) (hpre : (o5 code).1 = true) : evFn ⟨Go.Proofs.Try.prog, Hx, 5⟩ T37.call (60 + code.length) f5 [[.sl false 1 (enS false code)]] = some (o5 code).2 := by
  refine (r5 code _).trans ?_
  show _ = (some ([[.bool (true)]], []) : Option (List Row × List Row))
  replace hpre : (decide (code.length ≤ 9223372036854775807)) = true := hpre
  have hT : ∀ x : Int, (Int.ofNat code.length > x) = ((code.length : Int) > x) := fun _ => rfl
  simp only [v5_0, v5_1, v5_2, v5_3, v5_4, v5_5, v5_6, v5_7, v5_8, v5_9, v5_10, v5_11, v5_12, v5_13, v5_14, v5_15, v5_16, v5_17, v5_18, v5_19, v5_20, v5_21, v5_22, v5_23, v5_24, v5_25, v5_26, v5_27, v5_28, v5_29, v5_30, v5_31, v5_32, v5_33, v5_34, v5_35, v5_36, v5_37, v5_38, v5_39, v5_40, v5_41, v5_42, v5_43, v5_44, v5_45, v5_46, v5_47, v5_48, v5_49, v5_50, isS_enS, deS_enS, Bool.and_self, Bool.and_true, Bool.true_and, cond_true, hT]
  refine bif_c (fun _ => rfl) (fun hbig => ?_)
  have hc := big_no hbig
  have h1 := p_DrawBpduOf code hc
  have d1 : decide ((v0_DrawBpduOf code).length ≤ 1048576) = true := decide_eq_true (by omega)
  simp only [lendRows_enS, isS_enS, deS_enS, deepRows_enS, hc, d1, beq_self_eq_true, bne_self_eq_false, Bool.and_self, Bool.and_true, Bool.true_and, Bool.not_true, cond_true, cond_false]
  have hu : ∀ xs : List UInt8, ((enS true xs).all fun r => fits true [Leaf.int IntKind.u8] r) = true := all_u8 true
  have hraw : (bpM (v0_DrawBpduOf code)).2 = true → bpduBs (bpM (v0_DrawBpduOf code)).1 = v0_DrawBpduOf code := bpM_back
  have hcl : claimOk (v0_DrawClaimIn code) (v1_DrawClaimIn code) = true → claimM (v0_DrawClaimIn code) (v1_DrawClaimIn code) = ⟨1, v1_DrawClaimIn code, (v0_DrawClaimIn code).Vec, (v0_DrawClaimIn code).Hops, false⟩ ∧ inOk (⟨1, v1_DrawClaimIn code, (v0_DrawClaimIn code).Vec, (v0_DrawClaimIn code).Hops, false⟩ : In) = true := claim_yes
  simp only [hu, decide_true, Bool.not_true, cond_true, cond_false]
  generalize v0_DrawBpduOf code = raw at *
  generalize v0_DrawClaimIn code = cb at *
  generalize v1_DrawClaimIn code = cp at *
  generalize v0_DrawBpduBytes code = x at *
  have tail : ∀ r : RR, (bif !bpduOk x then (some ([[D.bool (Int.ofNat (enS true (bpduBs x)).length == 0)]], []) : RR) else r) = (bif !bpduOk x then some ([[D.bool true]], []) else r) := by
    intro r
    cases hk : bpduOk x
    · rw [bpdu_none hk]
      rfl
    · rfl
  simp only [tail]
  have c1 : (Int.ofNat 35).toNat = 35 := rfl
  have tl : bpduOk x = true → bpM (bpduBs x) = (x, true) ∧ (bpduBs x).length = 36 := bp_rt
  have ct : bpduOk x = true → (bpM (List.take 35 (bpduBs x))).2 = false := fun h => bpM_cut (by rw [List.length_take, (tl h).2]; decide)
  have fin : ∀ r1 r2 : RR, (bpduOk x = true → r1 = some ([[D.bool true]], [])) → (bif !bpduOk x then some ([[D.bool true]], []) else r1) = (some ([[D.bool true]], []) : RR) := by
    intro r1 _ h
    cases hk : bpduOk x
    · rfl
    · exact h hk
  cases h5 : (bpM raw).2
  case' true => simp only [hraw h5, beq_self_eq_true, Bool.not_true, cond_false, cond_true]
  all_goals
    cases h6 : claimOk cb cp
    case' true => simp only [(hcl h6).1, (hcl h6).2, beq_self_eq_true, bne_self_eq_false, Bool.not_true, Bool.and_self, cond_false, cond_true]
    all_goals
      try simp only [cond_true, cond_false]
      refine fin _ none (fun hk => ?_)
      simp only [c1, enS_take, lendRows_enS, isS_enS, deS_enS, (tl hk).1, (tl hk).2, ct hk, enS_length, List.length_take, beq_self_eq_true, decide_true, Bool.and_self, Bool.not_false, cond_true]
      rfl
theorem s5 : SoundAt Go.Proofs.Try.prog Hx 5 c5 := soundAt_of T37_sound mixed func5 (by kernel_rfl) (by
  intro rows r h
  unfold c5 at h
  split at h
  · rename_i code
    obtain ⟨hp, hr⟩ := Prod.mk.inj (Option.some.inj h)
    subst hr
    simp only [Bool.and_eq_true] at hp
    obtain ⟨hs0, hp⟩ := hp
    obtain ⟨xs0, rfl⟩ := isS_ex hs0
    simp only [deS_enS] at hp ⊢
    exact ⟨_, m5 xs0 hp⟩
  · cases h)
def T5 : Table := (5, c5) :: T37
theorem T5_sound : Table.Sound Go.Proofs.Try.prog Hx T5 := Table.sound_cons s5 T37_sound
end Go.Ev
end
