/- Contracts of functions, each by its evaluation. -/
import Derived.Test.YtkkpblhaeliofaaEvMd
import Derived.Test.YtkkpblhaeliofaaProg
import Derived.KernelRfl
import Derived.Test.YtkkpblhaeliofaaFFsnap2
set_option linter.unusedVariables false
set_option linter.unusedSimpArgs false
set_option maxRecDepth 100000
noncomputable section
open List (getD length drop take set append replicate all isEmpty)
open Int (toNat ofNat)
open Go.IntKind (i64 wrap)
open Go.Proofs.Try (prog)
namespace Go.Ev
open Go.RowKit Go.Md
end Go.Ev
namespace Go.Md
open Go Go.Ev
theorem drop_getD {b xs : List UInt8} {a j : Nat} (h : b.drop a = xs) (hj : j < xs.length) : b.getD (a + j) 0 = xs.getD j 0 ∧ a + j < b.length := by
  have hl : b.length - a = xs.length := by rw [← h, List.length_drop]
  refine ⟨?_, by omega⟩
  rw [← h, List.getD_eq_getElem?_getD, List.getD_eq_getElem?_getD, List.getElem?_drop]
theorem rN_small {b : List UInt8} {a n : Nat} (hn : n < 128) (ha : a < b.length) (hb : (b.getD a 0).toNat = n) : rN ⟨b, (a : Int), false⟩ = ⟨b, ((a + 1 : Nat) : Int), false⟩ ∧ rV ⟨b, (a : Int), false⟩ = (n : Int) := by
  have h := getN_small hn ha hb
  refine ⟨?_, ?_⟩
  · show (⟨b, nAt b (a : Int) false, nBad b (a : Int) false⟩ : TReader) = _
    unfold nAt nBad
    rw [h]
    rfl
  · show nVal b (a : Int) false = _
    unfold nVal
    rw [h]
    rfl
theorem rN_u8 {b xs : List UInt8} {a j : Nat} {x : Int} (h : b.drop a = xs) (hj : j < xs.length) (hx : xs.getD j 0 = u8 x) (h0 : 0 ≤ x) (h1 : x < 128) : rN ⟨b, ((a + j : Nat) : Int), false⟩ = ⟨b, ((a + j + 1 : Nat) : Int), false⟩ ∧ rV ⟨b, ((a + j : Nat) : Int), false⟩ = x := by
  obtain ⟨n, rfl⟩ := Int.eq_ofNat_of_zero_le h0
  obtain ⟨e1, e2⟩ := drop_getD h hj
  exact rN_small (by omega) e2 (by rw [e1, hx]; exact u8_small (by omega))
def flagsP (p : Port) : Int := bitI p.Up 1 + bitI p.Has 2 + bitI p.Open 4
theorem flags_bits (a b c : Bool) : bitS (bitI a 1 + bitI b 2 + bitI c 4) 1 = a ∧ bitS (bitI a 1 + bitI b 2 + bitI c 4) 2 = b ∧ bitS (bitI a 1 + bitI b 2 + bitI c 4) 4 = c := by
  cases a <;> cases b <;> cases c <;> decide
theorem flags_b (p : Port) : 0 ≤ flagsP p ∧ flagsP p ≤ 7 := by
  unfold flagsP bitI
  cases p.Up <;> cases p.Has <;> cases p.Open <;> decide
theorem vec_b {v : Vec} (h : vecOk v = true) : 0 ≤ v.Root ∧ v.Root ≤ 9 ∧ 0 ≤ v.Bridge ∧ v.Bridge ≤ 9 ∧ 0 ≤ v.Cost ∧ v.Cost ≤ 20 ∧ 0 ≤ v.Port ∧ v.Port ≤ 3 := by
  unfold vecOk isPortB inR at h
  simp only [Bool.and_eq_true, decide_eq_true_eq] at h
  omega
theorem port_b {p : Port} (h : portOk p = true) : (0 ≤ p.Role ∧ p.Role ≤ 3) ∧ (0 ≤ p.Wait ∧ p.Wait ≤ 4) ∧ (0 ≤ p.Hops ∧ p.Hops ≤ 8) ∧ (0 ≤ p.Left ∧ p.Left ≤ 3) ∧ 0 ≤ p.Vec.Root ∧ p.Vec.Root ≤ 9 ∧ 0 ≤ p.Vec.Bridge ∧ p.Vec.Bridge ≤ 9 ∧ 0 ≤ p.Vec.Cost ∧ p.Vec.Cost ≤ 20 ∧ 0 ≤ p.Vec.Port ∧ p.Vec.Port ≤ 3 := by
  unfold portOk isHopsB inR at h
  simp only [Bool.and_eq_true, decide_eq_true_eq] at h
  obtain ⟨h1, ⟨⟨h2, h3⟩, h4⟩, h5⟩ := h
  refine ⟨h2, h4, ?_⟩
  cases hh : p.Has
  · rw [hh, cond_false] at h1
    simp only [Bool.and_eq_true, beq_iff_eq] at h1
    omega
  · rw [hh, cond_true] at h1
    simp only [Bool.and_eq_true, decide_eq_true_eq] at h1
    have := vec_b h1.2.1
    omega
theorem putNum_sm {x : Int} (h0 : 0 ≤ x) (h1 : x < 128) : putNum x = [u8 x] := by
  obtain ⟨n, rfl⟩ := Int.eq_ofNat_of_zero_le h0
  exact putNum_small (by omega)
theorem portBs_eq {p : Port} (h : portOk p = true) : portBs p = [u8 (flagsP p), u8 p.Role, u8 p.Wait, u8 p.Hops, u8 p.Left, u8 p.Vec.Root, u8 p.Vec.Cost, u8 p.Vec.Bridge, u8 p.Vec.Port] := by
  have hb := port_b h
  unfold portBs
  rw [h, cond_true]
  unfold putNums
  rw [List.flatMap_cons, List.flatMap_cons, List.flatMap_cons, List.flatMap_cons, List.flatMap_cons, List.flatMap_cons, List.flatMap_cons, List.flatMap_cons, List.flatMap_nil, putNum_sm (x := p.Role) (by omega) (by omega), putNum_sm (x := p.Wait) (by omega) (by omega), putNum_sm (x := p.Hops) (by omega) (by omega), putNum_sm (x := p.Left) (by omega) (by omega), putNum_sm (x := p.Vec.Root) (by omega) (by omega), putNum_sm (x := p.Vec.Cost) (by omega) (by omega), putNum_sm (x := p.Vec.Bridge) (by omega) (by omega), putNum_sm (x := p.Vec.Port) (by omega) (by omega)]
  rfl
theorem rPort_rt {b rest : List UInt8} {a : Nat} {p : Port} (h : portOk p = true) (hd : b.drop a = portBs p ++ rest) : rPort ⟨b, (a : Int), false⟩ = p ∧ r8 ⟨b, (a : Int), false⟩ = ⟨b, ((a + 9 : Nat) : Int), false⟩ := by
  have hb := port_b h
  have hf := flags_b p
  rw [portBs_eq h] at hd
  have hl : ∀ j, j < 9 → j < ([u8 (flagsP p), u8 p.Role, u8 p.Wait, u8 p.Hops, u8 p.Left, u8 p.Vec.Root, u8 p.Vec.Cost, u8 p.Vec.Bridge, u8 p.Vec.Port] ++ rest).length := by
    intro j hj
    rw [List.length_append]
    exact Nat.lt_of_lt_of_le hj (Nat.le_add_right 9 rest.length)
  obtain ⟨o1, o2⟩ := drop_getD hd (hl 0 (by decide))
  have hv : oVal b (a : Int) false = flagsP p := by
    unfold oVal oBad
    rw [decide_eq_true (show (a : Int) < (b.length : Int) by omega)]
    show ((b.getD (Int.toNat (a : Int)) 0).toNat : Int) = _
    rw [Int.toNat_natCast, show b.getD a 0 = u8 (flagsP p) from o1]
    obtain ⟨n, hn⟩ := Int.eq_ofNat_of_zero_le hf.1
    rw [hn, u8_small (by omega)]
  have e0 : r0 ⟨b, (a : Int), false⟩ = ⟨b, ((a + 1 : Nat) : Int), false⟩ := by
    show (⟨b, oAt b (a : Int) false, oBad b (a : Int) false⟩ : TReader) = _
    unfold oAt oBad
    rw [decide_eq_true (show (a : Int) < (b.length : Int) by omega)]
    rfl
  obtain ⟨n1, v1⟩ := rN_u8 hd (hl 1 (by decide)) (x := p.Role) rfl (by omega) (by omega)
  obtain ⟨n2, v2⟩ := rN_u8 hd (hl 2 (by decide)) (x := p.Wait) rfl (by omega) (by omega)
  obtain ⟨n3, v3⟩ := rN_u8 hd (hl 3 (by decide)) (x := p.Hops) rfl (by omega) (by omega)
  obtain ⟨n4, v4⟩ := rN_u8 hd (hl 4 (by decide)) (x := p.Left) rfl (by omega) (by omega)
  obtain ⟨n5, v5⟩ := rN_u8 hd (hl 5 (by decide)) (x := p.Vec.Root) rfl (by omega) (by omega)
  obtain ⟨n6, v6⟩ := rN_u8 hd (hl 6 (by decide)) (x := p.Vec.Cost) rfl (by omega) (by omega)
  obtain ⟨n7, v7⟩ := rN_u8 hd (hl 7 (by decide)) (x := p.Vec.Bridge) rfl (by omega) (by omega)
  obtain ⟨n8, v8⟩ := rN_u8 hd (hl 8 (by decide)) (x := p.Vec.Port) rfl (by omega) (by omega)
  have e1 : r1 ⟨b, (a : Int), false⟩ = ⟨b, ((a + 2 : Nat) : Int), false⟩ := by unfold r1; rw [e0]; exact n1
  have e2 : r2 ⟨b, (a : Int), false⟩ = ⟨b, ((a + 3 : Nat) : Int), false⟩ := by unfold r2; rw [e1]; exact n2
  have e3 : r3 ⟨b, (a : Int), false⟩ = ⟨b, ((a + 4 : Nat) : Int), false⟩ := by unfold r3; rw [e2]; exact n3
  have e4 : r4 ⟨b, (a : Int), false⟩ = ⟨b, ((a + 5 : Nat) : Int), false⟩ := by unfold r4; rw [e3]; exact n4
  have e5 : r5 ⟨b, (a : Int), false⟩ = ⟨b, ((a + 6 : Nat) : Int), false⟩ := by unfold r5; rw [e4]; exact n5
  have e6 : r6 ⟨b, (a : Int), false⟩ = ⟨b, ((a + 7 : Nat) : Int), false⟩ := by unfold r6; rw [e5]; exact n6
  have e7 : r7 ⟨b, (a : Int), false⟩ = ⟨b, ((a + 8 : Nat) : Int), false⟩ := by unfold r7; rw [e6]; exact n7
  have e8 : r8 ⟨b, (a : Int), false⟩ = ⟨b, ((a + 9 : Nat) : Int), false⟩ := by unfold r8; rw [e7]; exact n8
  refine ⟨?_, e8⟩
  unfold rPort
  rw [e0, e1, e2, e3, e4, e5, e6, e7, hv]
  have hfb := flags_bits p.Up p.Has p.Open
  rw [show rV ⟨b, ((a + 1 : Nat) : Int), false⟩ = p.Role from v1, show rV ⟨b, ((a + 2 : Nat) : Int), false⟩ = p.Wait from v2, show rV ⟨b, ((a + 3 : Nat) : Int), false⟩ = p.Hops from v3, show rV ⟨b, ((a + 4 : Nat) : Int), false⟩ = p.Left from v4, show rV ⟨b, ((a + 5 : Nat) : Int), false⟩ = p.Vec.Root from v5, show rV ⟨b, ((a + 6 : Nat) : Int), false⟩ = p.Vec.Cost from v6, show rV ⟨b, ((a + 7 : Nat) : Int), false⟩ = p.Vec.Bridge from v7, show rV ⟨b, ((a + 8 : Nat) : Int), false⟩ = p.Vec.Port from v8]
  unfold flagsP
  rw [hfb.1, hfb.2.1, hfb.2.2]
theorem rdP_rt {b : List UInt8} : ∀ (ps : List Port) (rest : List UInt8) (a : Nat), ps.all portOk = true → b.drop a = portsBs ps ++ rest → ∃ k : Nat, rdP ps.length ⟨b, (a : Int), false⟩ = (ps, ⟨b, (k : Int), false⟩)
  | [], _, a, _, _ => ⟨a, rfl⟩
  | p :: ps, rest, a, h, hd => by
    rw [List.all_cons, Bool.and_eq_true] at h
    have hd' : b.drop a = portBs p ++ (portsBs ps ++ rest) := by
      rw [hd, ← List.append_assoc]
      rfl
    obtain ⟨h1, h2⟩ := rPort_rt h.1 hd'
    have h9 : (portBs p).length = 9 := by rw [portBs_eq h.1]; rfl
    have hd2 : b.drop (a + 9) = portsBs ps ++ rest := by rw [← List.drop_drop, hd', ← h9, List.drop_left']; rfl
    obtain ⟨k, hk⟩ := rdP_rt ps rest (a + 9) h.2 hd2
    refine ⟨k, ?_⟩
    show rdP (ps.length + 1) ⟨b, (a : Int), false⟩ = _
    rw [rdP, cond_false, h1, h2, hk]
theorem br_rt {x : Bridge} (h : bridgeOk x = true) : brI (bridgeBs x) = (x, true) := by
  have h4 := bridge_four h
  have h' := h
  unfold bridgeOk inR at h'
  simp only [Bool.and_eq_true, decide_eq_true_eq] at h'
  obtain ⟨hall, ⟨h1, h9⟩, h5⟩ := h'
  generalize hb : bridgeBs x = b
  have e : b = u8 x.Id :: u8 (x.Ports.length : Int) :: (portsBs x.Ports ++ sumBs (sumOf (bridgeRaw x))) := by
    rw [← hb]
    unfold bridgeBs
    rw [h, cond_true]
    show (putNums [x.Id, (x.Ports.length : Int)] ++ portsBs x.Ports) ++ _ = _
    have e2 : putNums [x.Id, (x.Ports.length : Int)] = [u8 x.Id, u8 (x.Ports.length : Int)] := by
      unfold putNums
      rw [List.flatMap_cons, List.flatMap_cons, List.flatMap_nil, putNum_sm (by omega) (by omega), putNum_sm (by omega) (by omega)]
      rfl
    rw [e2]
    rfl
  obtain ⟨n0, v0⟩ := rN_u8 (b := b) (a := 0) (j := 0) (x := x.Id) (xs := b) rfl (by rw [e]; exact Nat.succ_pos _) (by rw [e]; rfl) (by omega) (by omega)
  obtain ⟨n1, v1⟩ := rN_u8 (b := b) (a := 0) (j := 1) (x := (x.Ports.length : Int)) (xs := b) rfl (by rw [e]; exact Nat.succ_lt_succ (Nat.succ_pos _)) (by rw [e]; rfl) (by omega) (by omega)
  have s1 : rN (rStart b) = ⟨b, ((0 + 1 : Nat) : Int), false⟩ := n0
  have hid : rId b = x.Id := v0
  have hcnt : rCnt b = (x.Ports.length : Int) := by unfold rCnt; rw [s1]; exact v1
  have hgo : rGo b = ⟨b, ((2 : Nat) : Int), false⟩ := by unfold rGo; rw [s1]; exact n1
  obtain ⟨k, hk⟩ := rdP_rt (b := b) x.Ports (sumBs (sumOf (bridgeRaw x))) 2 hall (by rw [e]; rfl)
  have hm : (min (rCnt b) 4).toNat = x.Ports.length := by rw [hcnt]; omega
  have hat : brAt b x.Ports.length = x := by
    unfold brAt
    rw [hid, hgo, hk]
  unfold brI
  rw [hm, hat, hgo, hk, h, hb, decide_eq_true (rfl : b = b)]
  rfl
end Go.Md
namespace Go.Ev
open Go.Md
end Go.Ev
end
