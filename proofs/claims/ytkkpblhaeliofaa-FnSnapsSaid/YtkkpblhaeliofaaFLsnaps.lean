/- Contracts of functions, each by its evaluation. -/
import Derived.Test.YtkkpblhaeliofaaEvMd
import Derived.Test.YtkkpblhaeliofaaProg
import Derived.KernelRfl
import Derived.Test.YtkkpblhaeliofaaFDbridge
set_option linter.unusedVariables false
set_option linter.unusedSimpArgs false
set_option maxRecDepth 100000
noncomputable section
open List (getD length drop take set append replicate all isEmpty)
open Int (toNat ofNat)
open Go.IntKind (i64 wrap)
open Go.Proofs.Try (prog f5 func5)
namespace Go.Ev
open Go.RowKit Go.Md
end Go.Ev
namespace Go.Md
open Go Go.Ev
theorem all_u8 (o : Bool) (xs : List UInt8) : ((enS o xs).all fun r => fits o [Leaf.int IntKind.u8] r) = true := enS_fits o xs
theorem brI_back {b : List UInt8} (h : (brI b).2 = true) : bridgeBs (brI b).1 = b := by
  unfold brI at h ⊢
  cases hc : (rdP (min (rCnt b) 4).toNat (rGo b)).2.bad || (!bridgeOk (brAt b (min (rCnt b) 4).toNat) || !decide (bridgeBs (brAt b (min (rCnt b) 4).toNat) = b))
  · rw [cond_false]
    simp only [Bool.or_eq_false_iff, Bool.not_eq_false', decide_eq_true_eq] at hc
    exact hc.2.2
  · rw [hc] at h
    cases h
theorem bridge_none {x : Bridge} (h : bridgeOk x = false) : bridgeBs x = [] := by
  unfold bridgeBs
  rw [h]
  rfl
theorem br_cut {x : Bridge} (h : bridgeOk x = true) : (brI ((bridgeBs x).take ((bridgeBs x).length - 1))).2 = false ∧ 0 < (bridgeBs x).length := by
  have h4 := bridge_four h
  have h' := h
  unfold bridgeOk inR at h'
  simp only [Bool.and_eq_true, decide_eq_true_eq] at h'
  obtain ⟨hall, ⟨h1, h9⟩, h5⟩ := h'
  generalize hb0 : bridgeBs x = b0
  have e0 : b0 = u8 x.Id :: u8 (x.Ports.length : Int) :: (portsBs x.Ports ++ sumBs (sumOf (bridgeRaw x))) := by
    rw [← hb0]
    unfold bridgeBs
    rw [h, cond_true]
    show (putNums [x.Id, (x.Ports.length : Int)] ++ portsBs x.Ports) ++ _ = _
    have e2 : putNums [x.Id, (x.Ports.length : Int)] = [u8 x.Id, u8 (x.Ports.length : Int)] := by
      unfold putNums
      rw [List.flatMap_cons, List.flatMap_cons, List.flatMap_nil, putNum_sm (by omega) (by omega), putNum_sm (by omega) (by omega)]
      rfl
    rw [e2]
    rfl
  have hsl : (sumBs (sumOf (bridgeRaw x))).length = 4 := rfl
  have e : b0.take (b0.length - 1) = u8 x.Id :: u8 (x.Ports.length : Int) :: (portsBs x.Ports ++ (sumBs (sumOf (bridgeRaw x))).take 3) := by
    rw [e0]
    simp only [List.length_cons, List.length_append, hsl]
    rw [show (portsBs x.Ports).length + 4 + 1 + 1 - 1 = ((portsBs x.Ports).length + 3) + 1 + 1 by omega, List.take_succ_cons, List.take_succ_cons, List.take_length_add_append]
  have hlen : 0 < b0.length := by rw [e0]; exact Nat.succ_pos _
  have hne : b0 ≠ b0.take (b0.length - 1) := fun hc => by
    have := congrArg List.length hc
    rw [List.length_take] at this
    omega
  refine ⟨?_, hlen⟩
  generalize b0.take (b0.length - 1) = b at e hne ⊢
  obtain ⟨n0, v0⟩ := rN_u8 (b := b) (a := 0) (j := 0) (x := x.Id) (xs := b) rfl (by rw [e]; exact Nat.succ_pos _) (by rw [e]; rfl) (by omega) (by omega)
  obtain ⟨n1, v1⟩ := rN_u8 (b := b) (a := 0) (j := 1) (x := (x.Ports.length : Int)) (xs := b) rfl (by rw [e]; exact Nat.succ_lt_succ (Nat.succ_pos _)) (by rw [e]; rfl) (by omega) (by omega)
  have s1 : rN (rStart b) = ⟨b, ((0 + 1 : Nat) : Int), false⟩ := n0
  have hid : rId b = x.Id := v0
  have hcnt : rCnt b = (x.Ports.length : Int) := by unfold rCnt; rw [s1]; exact v1
  have hgo : rGo b = ⟨b, ((2 : Nat) : Int), false⟩ := by unfold rGo; rw [s1]; exact n1
  obtain ⟨k, hk⟩ := rdP_rt (b := b) x.Ports ((sumBs (sumOf (bridgeRaw x))).take 3) 2 hall (by rw [e]; rfl)
  have hm : (min (rCnt b) 4).toNat = x.Ports.length := by rw [hcnt]; omega
  have hat : brAt b x.Ports.length = x := by
    unfold brAt
    rw [hid, hgo, hk]
  unfold brI
  rw [hm, hat, hgo, hk, h, hb0, decide_eq_false hne]
  rfl
end Go.Md
namespace Go.Ev
open Go.Md
def o5 (code : List UInt8) : Bool × List Row × List Row := (decide (code.length ≤ 9223372036854775807), [[.bool (true)]], [])
def c5 : Contract
  | [[.sl false 1 code]] => some (isS UInt8 false code && (o5 (deS UInt8 code)).1, (o5 (deS UInt8 code)).2.1, (o5 (deS UInt8 code)).2.2)
  | _ => none

def v5_0 (code : List UInt8) : Bool := isS UInt8 false (enS false code)
def v5_1 (code : List UInt8) : List UInt8 := deS UInt8 (enS false code)
def v5_2 (code : List UInt8) : Int := ofNat (length (v5_1 code))
def v5_3 (code : List UInt8) : Bool := v5_0 code && decide (length (v5_1 code) ≤ 1048576)
def v5_4 (code : List UInt8) : List (List D) := lendRows (enS true (Bridge.Ports (v0_DrawBridgeBytes (v5_1 code))))
def v5_5 (code : List UInt8) : Bool := isS Port false (v5_4 code)
def v5_6 (code : List UInt8) : List Port := deS Port (v5_4 code)
def v5_7 (code : List UInt8) : Bool := decide (length (v5_6 code) ≤ 1048576)
def v5_8 (code : List UInt8) : Bool := v5_5 code && v5_7 code
def v5_9 (code : List UInt8) : List (List D) := enS true (bridgeBs (Bridge.mk (Bridge.Id (v0_DrawBridgeBytes (v5_1 code))) (v5_6 code)))
def v5_10 (code : List UInt8) : Bool := deepRows (v5_9 code) && true && true && true && true
def v5_11 (code : List UInt8) : List (List D) := enS true (v0_DrawBridgeRead (v5_1 code))
def v5_12 (code : List UInt8) : List (List D) := lendRows (v5_11 code)
def v5_13 (code : List UInt8) : List UInt8 := deS UInt8 (v5_12 code)
def v5_14 (code : List UInt8) : Bool := isS UInt8 false (v5_12 code) && decide (length (v5_13 code) ≤ 1048576)
def v5_15 (code : List UInt8) : List (List D) := enS true (Bridge.Ports (Prod.fst (brI (v5_13 code))))
def v5_16 (code : List UInt8) : List (List D) := enS true (Bridge.Ports (Prod.fst (brS (v5_13 code))))
def v5_17 (code : List UInt8) : List (List D) := lendRows (enS true (Snap.Bytes (v0_DrawFromSnap (v5_1 code))))
def v5_18 (code : List UInt8) : List (List D) := lendRows (enS true (v1_DrawFromSnap (v5_1 code)))
def v5_19 (code : List UInt8) : List UInt8 := deS UInt8 (v5_17 code)
def v5_20 (code : List UInt8) : List In := deS In (v5_18 code)
def v5_21 (code : List UInt8) : Bool := isS UInt8 false (v5_17 code) && isS In false (v5_18 code) && (decide (length (v5_19 code) ≤ 1048576) && decide (length (v5_20 code) ≤ 1048576))
def v5_22 (code : List UInt8) : List (List D) := enS true (Bridge.Ports (fsB (Snap.mk (Snap.N (v0_DrawFromSnap (v5_1 code))) (v5_19 code)) (v5_20 code)))
def v5_23 (code : List UInt8) : Bool := deepRows (v5_22 code) && true && true && true && true
def v5_24 (code : List UInt8) : List (List D) := lendRows (enS true (v2_DrawSnapOf (v5_1 code)))
def v5_25 (code : List UInt8) : List In := deS In (v5_24 code)
def v5_26 (code : List UInt8) : Bool := isS In false (v5_24 code) && decide (length (v5_25 code) ≤ 1048576)
def v5_27 (code : List UInt8) : Int := v0_DrawSnapOf (v5_1 code)
def v5_28 (code : List UInt8) : Int := v1_DrawSnapOf (v5_1 code)
def v5_29 (code : List UInt8) : Int := v3_DrawSnapOf (v5_1 code)
def v5_30 (code : List UInt8) : List (List D) := enS true (Snap.Bytes (snapM (v5_27 code) (v5_28 code) (v5_25 code) (v5_29 code)))
def v5_31 (code : List UInt8) : Bool := deepRows (v5_30 code) && true && true && true && true
def v5_32 (code : List UInt8) : Bool := all (v5_9 code) fun r ↦ fits true [Leaf.int IntKind.u8] r
def v5_33 (code : List UInt8) : List UInt8 := ByteArray.toList (ByteArray.mk (Array.mk (List.map (fun r ↦ Nat.toUInt8 (toNat (D.num (getD r (0) D.dead)))) (v5_9 code))))
def v5_34 (code : List UInt8) : Bool := Prod.snd (brI (v5_13 code))
def v5_35 (code : List UInt8) : List (List D) := lendRows (v5_15 code)
def v5_36 (code : List UInt8) : Bool := isS Port false (v5_35 code)
def v5_37 (code : List UInt8) : List (List D) := lendRows (v5_16 code)
def v5_38 (code : List UInt8) : List Port := deS Port (v5_35 code)
def v5_39 (code : List UInt8) : Bool := decide (length (v5_38 code) ≤ 1048576)
def v5_40 (code : List UInt8) : List Port := deS Port (v5_37 code)
def v5_41 (code : List UInt8) : List (List D) := enS true (portBs (v0_DrawPortBytes (v5_1 code)))
def v5_42 (code : List UInt8) : Bool := all (v5_41 code) fun r ↦ fits true [Leaf.int IntKind.u8] r
def v5_43 (code : List UInt8) : List UInt8 := ByteArray.toList (ByteArray.mk (Array.mk (List.map (fun r ↦ Nat.toUInt8 (toNat (D.num (getD r (0) D.dead)))) (v5_41 code))))
def v5_44 (code : List UInt8) : Bool := fsOk (Snap.mk (Snap.N (v0_DrawFromSnap (v5_1 code))) (v5_19 code)) (v5_20 code)
def v5_45 (code : List UInt8) : List (List D) := lendRows (v5_22 code)
def v5_46 (code : List UInt8) : Bool := isS Port false (v5_45 code)
def v5_47 (code : List UInt8) : List Port := deS Port (v5_45 code)
def v5_48 (code : List UInt8) : Bool := decide (length (v5_47 code) ≤ 1048576)
def v5_49 (code : List UInt8) : Bool := snapOk (v5_27 code) (v5_28 code) (v5_25 code) (v5_29 code)
def v5_50 (code : List UInt8) : Int := Snap.N (snapM (v5_27 code) (v5_28 code) (v5_25 code) (v5_29 code))
def v5_51 (code : List UInt8) : Bool := all (v5_30 code) fun r ↦ fits true [Leaf.int IntKind.u8] r
def v5_52 (code : List UInt8) : List UInt8 := ByteArray.toList (ByteArray.mk (Array.mk (List.map (fun r ↦ Nat.toUInt8 (toNat (D.num (getD r (0) D.dead)))) (v5_30 code))))
def v5_53 (code : List UInt8) : List (List D) := enS true (bridgeBs (Bridge.mk (Bridge.Id (Prod.fst (brI (v5_13 code)))) (v5_38 code)))
def v5_54 (code : List UInt8) : Int := ofNat (length (v5_9 code))
def v5_55 (code : List UInt8) : List (List D) := lendRows (v5_9 code)
def v5_56 (code : List UInt8) : List UInt8 := deS UInt8 (v5_55 code)
def v5_57 (code : List UInt8) : List (List D) := enS true (Bridge.Ports (Prod.fst (brI (v5_56 code))))
def v5_58 (code : List UInt8) : Int := wrap i64 (v5_54 code - 1)
def v5_59 (code : List UInt8) : List (List D) := lendRows (take (toNat (v5_58 code - 0)) (v5_9 code))
def v5_60 (code : List UInt8) : List UInt8 := deS UInt8 (v5_59 code)
def v5_61 (code : List UInt8) : List (List D) := lendRows (v5_57 code)
def v5_62 (code : List UInt8) : List Port := deS Port (v5_61 code)
theorem r5 (code : List UInt8) (n : Nat) : evFn ⟨prog, Hx, 5⟩ T28.call n f5 [[.sl false 1 (enS false code)]] = bif v5_0 code && true then bif decide (v5_2 code > 1048576) then some ([[D.bool true]], []) else bif v5_3 code then bif v5_8 code then bif v5_10 code then bif v5_3 code then bif v5_14 code then bif deepRows (v5_15 code) && true && true && true && true then bif v5_14 code then bif deepRows (v5_16 code) && true && true && true && true then bif v5_3 code then bif v5_3 code then bif v5_21 code then bif v5_23 code then bif v5_21 code then bif v5_23 code then bif v5_3 code then bif v5_26 code then bif v5_31 code then bif v5_26 code then bif v5_31 code then bif v5_32 code then bif v5_8 code then bif v5_10 code then bif v5_32 code then bif !v5_33 code == v5_33 code then some ([[D.bool false]], []) else bif v5_34 code != Prod.snd (brS (v5_13 code)) then some ([[D.bool false]], []) else bif v5_36 code && isS Port false (v5_37 code) && (v5_39 code && decide (length (v5_40 code) ≤ 1048576)) then bif !sameB (Bridge.mk (Bridge.Id (Prod.fst (brI (v5_13 code)))) (v5_38 code)) (Bridge.mk (Bridge.Id (Prod.fst (brS (v5_13 code)))) (v5_40 code)) then some ([[D.bool false]], []) else bif v5_42 code then bif v5_42 code then bif !v5_43 code == v5_43 code then some ([[D.bool false]], []) else bif v5_44 code != v5_44 code then some ([[D.bool false]], []) else bif v5_46 code && v5_46 code && (v5_48 code && v5_48 code) then bif !sameB (Bridge.mk (Bridge.Id (fsB (Snap.mk (Snap.N (v0_DrawFromSnap (v5_1 code))) (v5_19 code)) (v5_20 code))) (v5_47 code)) (Bridge.mk (Bridge.Id (fsB (Snap.mk (Snap.N (v0_DrawFromSnap (v5_1 code))) (v5_19 code)) (v5_20 code))) (v5_47 code)) then some ([[D.bool false]], []) else bif v5_49 code != v5_49 code then some ([[D.bool false]], []) else bif v5_50 code != v5_50 code then some ([[D.bool false]], []) else bif v5_51 code then bif v5_51 code then bif !v5_52 code == v5_52 code then some ([[D.bool false]], []) else bif v5_34 code then bif v5_36 code && v5_39 code then bif deepRows (v5_53 code) && true && true && true && true then bif all (v5_53 code) fun r ↦ fits true [Leaf.int IntKind.u8] r then bif all (v5_11 code) fun r ↦ fits true [Leaf.int IntKind.u8] r then bif !ByteArray.toList (ByteArray.mk (Array.mk (List.map (fun r ↦ Nat.toUInt8 (toNat (D.num (getD r (0) D.dead)))) (v5_53 code)))) == ByteArray.toList (ByteArray.mk (Array.mk (List.map (fun r ↦ Nat.toUInt8 (toNat (D.num (getD r (0) D.dead)))) (v5_11 code)))) then some ([[D.bool false]], []) else bif v5_8 code then bif !bridgeOk (Bridge.mk (Bridge.Id (v0_DrawBridgeBytes (v5_1 code))) (v5_6 code)) then some ([[D.bool (v5_54 code == 0)]], []) else bif isS UInt8 false (v5_55 code) && decide (length (v5_56 code) ≤ 1048576) then bif deepRows (v5_57 code) && true && true && true && true then bif decide (0 ≤ v5_58 code) && decide (v5_58 code ≤ v5_54 code) then bif isS UInt8 false (v5_59 code) && decide (length (v5_60 code) ≤ 1048576) then bif deepRows (enS true (Bridge.Ports (Prod.fst (brI (v5_60 code))))) && true && true && true && true then bif Prod.snd (brI (v5_56 code)) then bif isS Port false (v5_61 code) && v5_5 code && (decide (length (v5_62 code) ≤ 1048576) && v5_7 code) then bif sameB (Bridge.mk (Bridge.Id (Prod.fst (brI (v5_56 code)))) (v5_62 code)) (Bridge.mk (Bridge.Id (v0_DrawBridgeBytes (v5_1 code))) (v5_6 code)) then some ([[D.bool !Prod.snd (brI (v5_60 code))]], []) else some ([[D.bool false]], []) else none else some ([[D.bool false]], []) else none else none else none else none else none else none else none else none else none else none else bif v5_8 code then bif !bridgeOk (Bridge.mk (Bridge.Id (v0_DrawBridgeBytes (v5_1 code))) (v5_6 code)) then some ([[D.bool (v5_54 code == 0)]], []) else bif isS UInt8 false (v5_55 code) && decide (length (v5_56 code) ≤ 1048576) then bif deepRows (v5_57 code) && true && true && true && true then bif decide (0 ≤ v5_58 code) && decide (v5_58 code ≤ v5_54 code) then bif isS UInt8 false (v5_59 code) && decide (length (v5_60 code) ≤ 1048576) then bif deepRows (enS true (Bridge.Ports (Prod.fst (brI (v5_60 code))))) && true && true && true && true then bif Prod.snd (brI (v5_56 code)) then bif isS Port false (v5_61 code) && v5_5 code && (decide (length (v5_62 code) ≤ 1048576) && v5_7 code) then bif sameB (Bridge.mk (Bridge.Id (Prod.fst (brI (v5_56 code)))) (v5_62 code)) (Bridge.mk (Bridge.Id (v0_DrawBridgeBytes (v5_1 code))) (v5_6 code)) then some ([[D.bool !Prod.snd (brI (v5_60 code))]], []) else some ([[D.bool false]], []) else none else some ([[D.bool false]], []) else none else none else none else none else none else none else none else none else none else none else none else none else none else none else none else none else none else none else none else none else none else none else none else none else none else none else none else none else none else none else none else none else none else none else none else none := by kernel_rfl
theorem m5 (code : List UInt8) (hpre : (o5 code).1 = true) : evFn ⟨Go.Proofs.Try.prog, Hx, 5⟩ T28.call (400 + code.length) f5 [[.sl false 1 (enS false code)]] = some (o5 code).2 := by
  refine (r5 code _).trans ?_
  show _ = (some ([[.bool (true)]], []) : Option (List Row × List Row))
  replace hpre : (decide (code.length ≤ 9223372036854775807)) = true := hpre
  have hT : ∀ x : Int, (Int.ofNat code.length > x) = ((code.length : Int) > x) := fun _ => rfl
  simp only [v5_0, v5_1, v5_2, v5_3, v5_4, v5_5, v5_6, v5_7, v5_8, v5_9, v5_10, v5_11, v5_12, v5_13, v5_14, v5_15, v5_16, v5_17, v5_18, v5_19, v5_20, v5_21, v5_22, v5_23, v5_24, v5_25, v5_26, v5_27, v5_28, v5_29, v5_30, v5_31, v5_32, v5_33, v5_34, v5_35, v5_36, v5_37, v5_38, v5_39, v5_40, v5_41, v5_42, v5_43, v5_44, v5_45, v5_46, v5_47, v5_48, v5_49, v5_50, v5_51, v5_52, v5_53, v5_54, v5_55, v5_56, v5_57, v5_58, v5_59, v5_60, v5_61, v5_62, isS_enS, deS_enS, Bool.and_self, Bool.and_true, Bool.true_and, cond_true, hT]
  refine bif_c (fun _ => rfl) (fun hbig => ?_)
  have hc := big_no hbig
  have h1 := p_DrawBridgeBytes code hc
  have h2 := p_DrawBridgeRead code hc
  have h3 := p_DrawFromSnap code hc
  have h4 := p_DrawSnapOf code hc
  generalize v0_DrawBridgeBytes code = b at *
  generalize v0_DrawBridgeRead code = raw at *
  generalize v0_DrawFromSnap code = s at *
  generalize v1_DrawFromSnap code = log at *
  generalize v0_DrawSnapOf code = id at *
  generalize v1_DrawSnapOf code = ports at *
  generalize v2_DrawSnapOf code = l at *
  generalize v3_DrawSnapOf code = n at *
  generalize v0_DrawPortBytes code = p at *
  have d1 : decide (b.Ports.length ≤ 1048576) = true := decide_eq_true (by omega)
  have d2 : decide (raw.length ≤ 1048576) = true := decide_eq_true (by omega)
  have d3 : decide (s.Bytes.length ≤ 1048576) = true := decide_eq_true (by omega)
  have d4 : decide (log.length ≤ 1048576) = true := decide_eq_true (by omega)
  have d5 : decide (l.length ≤ 1048576) = true := decide_eq_true (by omega)
  simp only [Snap.eta, Bridge.eta, lendRows_enS, isS_enS, deS_enS, deepRows_enS, hc, d1, d2, d3, d4, d5, beq_self_eq_true, bne_self_eq_false, Bool.and_self, Bool.and_true, Bool.true_and, Bool.not_true, cond_true, cond_false, sameB_self]
  have hu : ∀ xs : List UInt8, ((enS true xs).all fun r => fits true [Leaf.int IntKind.u8] r) = true := all_u8 true
  have l1 : decide ((brI raw).1.Ports.length ≤ 1048576) = true := decide_eq_true (by have := brI_len raw; omega)
  have l2 : decide ((fsB s log).Ports.length ≤ 1048576) = true := decide_eq_true (by have := fsB_len s log; omega)
  have hraw : (brI raw).2 = true → bridgeBs (brI raw).1 = raw := brI_back
  simp only [brS_eq, hu, l1, l2, sameB_self, bne_self_eq_false, Bool.and_self, Bool.not_true, cond_true, cond_false]
  have hB := bridgeBs_length b
  have fin : ∀ r : RR, (bridgeOk b = true → r = some ([[D.bool true]], [])) → (bif !bridgeOk b then some ([[D.bool (Int.ofNat (enS true (bridgeBs b)).length == 0)]], []) else r) = (some ([[D.bool true]], []) : RR) := by
    intro r h
    cases hk : bridgeOk b
    · rw [bridge_none hk]
      rfl
    · exact h hk
  cases h5 : (brI raw).2
  case' true => simp only [hraw h5, beq_self_eq_true, Bool.not_true, cond_false, cond_true]
  all_goals
    try simp only [cond_true, cond_false]
    refine fin _ (fun hk => ?_)
    obtain ⟨hcut, hpos⟩ := br_cut hk
    have hrt := br_rt hk
    have e1 : IntKind.wrap IntKind.i64 (Int.ofNat (enS true (bridgeBs b)).length - 1) = (((bridgeBs b).length - 1 : Nat) : Int) := by
      rw [enS_length, wrap_sm (by show _ ≤ ((bridgeBs b).length : Int) - 1; omega) (by show ((bridgeBs b).length : Int) - 1 ≤ _; omega)]
      show ((bridgeBs b).length : Int) - 1 = _
      omega
    have e2 : decide (0 ≤ (((bridgeBs b).length - 1 : Nat) : Int)) = true := decide_eq_true (by omega)
    have e3 : decide ((((bridgeBs b).length - 1 : Nat) : Int) ≤ Int.ofNat (bridgeBs b).length) = true := decide_eq_true (by show (((bridgeBs b).length - 1 : Nat) : Int) ≤ ((bridgeBs b).length : Int); omega)
    have e4 : decide (((bridgeBs b).take ((bridgeBs b).length - 1)).length ≤ 1048576) = true := decide_eq_true (by rw [List.length_take]; omega)
    have e5 : decide ((bridgeBs b).length ≤ 1048576) = true := decide_eq_true (by omega)
    have e6 : (((((bridgeBs b).length - 1 : Nat) : Int)) - 0).toNat = (bridgeBs b).length - 1 := by omega
    rw [e1]
    rw [e6, enS_take, enS_length]
    simp only [e2, e3, e4, e5, d1, lendRows_enS, isS_enS, deS_enS, hrt, hcut, sameB_self, Bool.and_self, Bool.not_false, cond_true]
theorem s5 : SoundAt Go.Proofs.Try.prog Hx 5 c5 := soundAt_of T28_sound mixed func5 (by kernel_rfl) (by
  intro rows r h
  unfold c5 at h
  split at h
  · rename_i code
    obtain ⟨hp, hr⟩ := Prod.mk.inj (Option.some.inj h)
    subst hr
    simp only [Bool.and_eq_true] at hp
    obtain ⟨hs0, hp⟩ := hp
    obtain ⟨xs0, rfl⟩ := isS_ex hs0
    simp only [deS_enS] at hp ⊢
    exact ⟨_, m5 xs0 hp⟩
  · cases h)
def T5 : Table := (5, c5) :: T28
theorem T5_sound : Table.Sound Go.Proofs.Try.prog Hx T5 := Table.sound_cons s5 T28_sound
end Go.Ev
end
