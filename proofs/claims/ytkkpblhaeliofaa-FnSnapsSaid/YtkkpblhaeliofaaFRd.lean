/- Contracts of functions, each by its evaluation. -/
import Derived.Test.YtkkpblhaeliofaaEvMd
import Derived.Test.YtkkpblhaeliofaaProg
import Derived.KernelRfl
import Derived.Test.YtkkpblhaeliofaaFC2
set_option linter.unusedVariables false
set_option linter.unusedSimpArgs false
set_option maxRecDepth 100000
noncomputable section
open List (getD length drop take set append replicate all isEmpty)
open Int (toNat ofNat)
open Go.IntKind (i64 wrap)
open Go.Proofs.Try (prog f25 f26 f52 f53 f54 f55 f57 f81 f82 f83 func25 func26 func52 func53 func54 func55 func57 func81 func82 func83)
namespace Go.Ev
open Go.RowKit Go.Md
end Go.Ev
namespace Go.Md
open Go Go.Ev
theorem and127 (m : Nat) : IntKind.wrap IntKind.i64 (Int.ofNat (BitVec.toNat (BitVec.and (BitVec.ofInt 64 (m : Int)) (BitVec.ofInt 64 127)))) = (m : Int).tmod 128 := by
  have h : BitVec.toNat (BitVec.and (BitVec.ofInt 64 (m : Int)) (BitVec.ofInt 64 127)) = (BitVec.ofInt 64 (m : Int)).toNat % 128 := by
    have := BitVec.toNat_and (BitVec.ofInt 64 (m : Int)) (BitVec.ofInt 64 127)
    show BitVec.toNat (BitVec.ofInt 64 (m : Int) &&& BitVec.ofInt 64 127) = _
    rw [this]
    exact Nat.and_two_pow_sub_one_eq_mod (BitVec.ofInt 64 (m : Int)).toNat 7
  rw [h, BitVec.toNat_ofInt, Go.Ev.wrap_of (by show _ ≤ (((_ % 128 : Nat)) : Int); omega) (by show (((_ % 128 : Nat)) : Int) ≤ _; omega)]
  show ((((m : Int) % 2 ^ 64).toNat % 128 : Nat) : Int) = ((m % 128 : Nat) : Int)
  omega
def gOr (n x : Int) (i : Nat) : Int := IntKind.wrap IntKind.i64 (Int.ofNat (BitVec.toNat (BitVec.or (BitVec.ofInt 64 n) (BitVec.ofInt 64 (IntKind.wrap IntKind.i64 (x.tmod 128 * Int.pow 2 (7 * i)))))))
theorem gOr_def (n x : Int) (i : Nat) : IntKind.wrap IntKind.i64 (Int.ofNat (BitVec.toNat (BitVec.or (BitVec.ofInt 64 n) (BitVec.ofInt 64 (IntKind.wrap IntKind.i64 (x.tmod 128 * Int.pow 2 (7 * i))))))) = gOr n x i := rfl
def getL (b : List UInt8) (a : Nat) : Nat → Nat → Int → Int × Int × Bool
  | 0, _, _ => (0, 0, false)
  | f + 1, i, n =>
    bif decide (a + i < b.length) then
      bif decide (128 ≤ (b.getD (a + i) 0).toNat) then getL b a f (i + 1) (gOr n (((b.getD (a + i) 0).toNat : Nat) : Int) i)
      else bif (decide (0 < i) && decide ((b.getD (a + i) 0).toNat = 0)) || decide (gOr n (((b.getD (a + i) 0).toNat : Nat) : Int) i > 2147483647) then (0, 0, false)
      else (gOr n (((b.getD (a + i) 0).toNat : Nat) : Int) i, Int.ofNat (a + i + 1), true)
    else (0, 0, false)
def getN (b : List UInt8) (at_ : Int) : Int × Int × Bool := bif decide (at_ < 0) then (0, 0, false) else getL b at_.toNat 5 0 0
def outG (g : Int × Int × Bool) : Go.Ev.RR := some ([[D.int .i64 g.1], [D.int .i64 g.2.1], [D.bool g.2.2]], [])
theorem getL_succ (b : List UInt8) (a f i : Nat) (n : Int) : getL b a (f + 1) i n = bif decide (a + i < b.length) then
      bif decide (128 ≤ (b.getD (a + i) 0).toNat) then getL b a f (i + 1) (gOr n (((b.getD (a + i) 0).toNat : Nat) : Int) i)
      else bif (decide (0 < i) && decide ((b.getD (a + i) 0).toNat = 0)) || decide (gOr n (((b.getD (a + i) 0).toNat : Nat) : Int) i > 2147483647) then (0, 0, false)
      else (gOr n (((b.getD (a + i) 0).toNat : Nat) : Int) i, Int.ofNat (a + i + 1), true)
    else (0, 0, false) := rfl
theorem sh_u (i : Nat) (h : i < 5) : (if (IntKind.wrap IntKind.u64 (IntKind.wrap IntKind.i64 (7 * Int.ofNat i))).toNat ≤ 64 then (IntKind.wrap IntKind.u64 (IntKind.wrap IntKind.i64 (7 * Int.ofNat i))).toNat else 64) = 7 * i := by
  match i, h with
  | 0, _ => rfl
  | 1, _ => rfl
  | 2, _ => rfl
  | 3, _ => rfl
  | 4, _ => rfl
theorem sh_i (i : Nat) (h : i < 5) : (if (IntKind.wrap IntKind.i64 (7 * Int.ofNat i)).toNat ≤ 64 then (IntKind.wrap IntKind.i64 (7 * Int.ofNat i)).toNat else 64) = 7 * i := by
  match i, h with
  | 0, _ => rfl
  | 1, _ => rfl
  | 2, _ => rfl
  | 3, _ => rfl
  | 4, _ => rfl
theorem sh_u0 (i : Nat) (h : i < 5) : decide (0 ≤ IntKind.wrap IntKind.u64 (IntKind.wrap IntKind.i64 (7 * Int.ofNat i))) = true := by
  match i, h with
  | 0, _ => rfl
  | 1, _ => rfl
  | 2, _ => rfl
  | 3, _ => rfl
  | 4, _ => rfl
theorem sh_i0 (i : Nat) (h : i < 5) : decide (0 ≤ IntKind.wrap IntKind.i64 (7 * Int.ofNat i)) = true := by
  match i, h with
  | 0, _ => rfl
  | 1, _ => rfl
  | 2, _ => rfl
  | 3, _ => rfl
  | 4, _ => rfl
def nVal (b : List UInt8) (a : Int) (d : Bool) : Int := bif d || !(getN b a).2.2 then 0 else (getN b a).1
def nAt (b : List UInt8) (a : Int) (d : Bool) : Int := bif d || !(getN b a).2.2 then a else (getN b a).2.1
def nBad (b : List UInt8) (a : Int) (d : Bool) : Bool := d || !(getN b a).2.2
def mVal (b : List UInt8) (a : Int) (o : Bool) : Int := nVal b a (!o)
def mAt (b : List UInt8) (a : Int) (o : Bool) : Int := nAt b a (!o)
def mOk (b : List UInt8) (a : Int) (o : Bool) : Bool := !nBad b a (!o)
def oBad (b : List UInt8) (a : Int) (d : Bool) : Bool := d || !decide (a < (b.length : Int))
def oAt (b : List UInt8) (a : Int) (d : Bool) : Int := bif oBad b a d then a else a + 1
def oVal (b : List UInt8) (a : Int) (d : Bool) : Int := bif oBad b a d then 0 else ((b.getD a.toNat 0).toNat : Int)
def rN (r : TReader) : TReader := ⟨r.b, nAt r.b r.at_ r.bad, nBad r.b r.at_ r.bad⟩
def rV (r : TReader) : Int := nVal r.b r.at_ r.bad
def rO (r : TReader) : TReader := ⟨r.b, oAt r.b r.at_ r.bad, oBad r.b r.at_ r.bad⟩
def bitS (f : Int) (k : Int) : Bool := IntKind.wrap IntKind.i64 (Int.ofNat (BitVec.toNat (BitVec.and (BitVec.ofInt 64 f) (BitVec.ofInt 64 k)))) != 0
def r0 (r : TReader) := rO r
def r1 (r : TReader) := rN (r0 r)
def r2 (r : TReader) := rN (r1 r)
def r3 (r : TReader) := rN (r2 r)
def r4 (r : TReader) := rN (r3 r)
def r5 (r : TReader) := rN (r4 r)
def r6 (r : TReader) := rN (r5 r)
def r7 (r : TReader) := rN (r6 r)
def r8 (r : TReader) := rN (r7 r)
def rPort (r : TReader) : Port := ⟨bitS (oVal r.b r.at_ r.bad) 1, bitS (oVal r.b r.at_ r.bad) 2, ⟨rV (r4 r), rV (r5 r), rV (r6 r), rV (r7 r)⟩, rV (r2 r), rV (r3 r), rV (r0 r), rV (r1 r), bitS (oVal r.b r.at_ r.bad) 4⟩
theorem fitU (o : Bool) (x : List UInt8) : ((enS o x).all fun r => fits true [Leaf.int .u8] r) = true := List.all_eq_true.2 (fun r hr => by
  obtain ⟨y, _, rfl⟩ := List.mem_map.1 hr
  rfl)
theorem keyU (o : Bool) (x : List UInt8) : (enS o x).map (fun r => Nat.toUInt8 (Int.toNat (D.num (List.getD r 0 D.dead)))) = x := deS_enS o x
theorem strU (a b : List UInt8) : (ByteArray.toList (ByteArray.mk (Array.mk a)) == ByteArray.toList (ByteArray.mk (Array.mk b))) = decide (a = b) := by
  rw [ByteArray.toList_eq, ByteArray.toList_eq, Bool.eq_iff_iff]
  simp
def rdP : Nat → TReader → List Port × TReader
  | 0, r => ([], r)
  | k + 1, r => bif r.bad then ([], r) else (rPort r :: (rdP k (r8 r)).1, (rdP k (r8 r)).2)
def rStart (b : List UInt8) : TReader := ⟨b, 0, false⟩
def rId (b : List UInt8) : Int := rV (rStart b)
def rCnt (b : List UInt8) : Int := rV (rN (rStart b))
def rGo (b : List UInt8) : TReader := rN (rN (rStart b))
def brAt (b : List UInt8) (k : Nat) : Bridge := ⟨rId b, (rdP k (rGo b)).1⟩
def brI (b : List UInt8) : Bridge × Bool := bif (rdP (min (rCnt b) 4).toNat (rGo b)).2.bad || (!bridgeOk (brAt b (min (rCnt b) 4).toNat) || !decide (bridgeBs (brAt b (min (rCnt b) 4).toNat) = b)) then (⟨0, []⟩, false) else (brAt b (min (rCnt b) 4).toNat, true)
theorem gOr0 : ∀ n : Fin 128, gOr 0 (n.val : Int) 0 = (n.val : Int) := by decide
theorem getN_small {b : List UInt8} {a n : Nat} (hn : n < 128) (ha : a < b.length) (hb : (b.getD a 0).toNat = n) : getN b (a : Int) = ((n : Int), (a : Int) + 1, true) := by
  unfold getN
  rw [show decide ((a : Int) < 0) = false from decide_eq_false (by omega), cond_false, Int.toNat_natCast, getL_succ, Nat.add_zero, decide_eq_true ha, cond_true, hb, show decide (128 ≤ n) = false from decide_eq_false (by omega), cond_false]
  have hg : gOr 0 (n : Int) 0 = (n : Int) := gOr0 ⟨n, hn⟩
  rw [hg, show (decide (0 < 0) && decide (n = 0)) = false by simp, Bool.false_or, show decide ((n : Int) > 2147483647) = false from decide_eq_false (by omega), cond_false]
  rfl
theorem putNum_small {n : Nat} (h : n < 128) : putNum (n : Int) = [u8 (n : Int)] := by
  unfold putNum
  rw [show inR (n : Int) 0 2147483647 = true by unfold inR; simp only [Bool.and_eq_true, decide_eq_true_eq]; omega, cond_true, Int.toNat_natCast, putNumN, if_neg (by omega)]
theorem u8_small {n : Nat} (h : n < 256) : (u8 (n : Int)).toNat = n := by
  have := u8_toNat (n : Int)
  rw [IntKind.wrap_u8] at this
  omega
theorem br_cnt {x : Bridge} {b : List UInt8} (h : bridgeOk x = true) (hb : bridgeBs x = b) : rCnt b = (x.Ports.length : Int) := by
  have h4 := bridge_four h
  have h' := h
  unfold bridgeOk inR at h'
  simp only [Bool.and_eq_true, decide_eq_true_eq] at h'
  obtain ⟨_, ⟨h1, h9⟩, h5⟩ := h'
  obtain ⟨id, hid⟩ := Int.eq_ofNat_of_zero_le (show 0 ≤ x.Id by omega)
  have e : b = u8 (id : Int) :: u8 (x.Ports.length : Int) :: (portsBs x.Ports ++ sumBs (sumOf (bridgeRaw x))) := by
    rw [← hb]
    unfold bridgeBs
    rw [h, cond_true]
    show (putNums [x.Id, (x.Ports.length : Int)] ++ portsBs x.Ports) ++ _ = _
    have e2 : putNums [x.Id, (x.Ports.length : Int)] = [u8 (id : Int), u8 (x.Ports.length : Int)] := by
      unfold putNums
      rw [List.flatMap_cons, List.flatMap_cons, List.flatMap_nil, hid, putNum_small (by omega), putNum_small (by omega)]
      rfl
    rw [e2]
    rfl
  have n0 : getN b ((0 : Nat) : Int) = ((id : Int), ((0 : Nat) : Int) + 1, true) := getN_small (by omega) (by rw [e]; exact Nat.succ_pos _) (by rw [e]; exact u8_small (by omega))
  have n1 : getN b ((1 : Nat) : Int) = (((x.Ports.length : Nat) : Int), ((1 : Nat) : Int) + 1, true) := getN_small (by omega) (by rw [e]; exact Nat.succ_lt_succ (Nat.succ_pos _)) (by rw [e]; exact u8_small (by omega))
  have s1 : rN (rStart b) = ⟨b, 1, false⟩ := by
    show (⟨b, nAt b ((0 : Nat) : Int) false, nBad b ((0 : Nat) : Int) false⟩ : TReader) = _
    unfold nAt nBad
    rw [n0]
    rfl
  unfold rCnt
  rw [s1]
  show nVal b ((1 : Nat) : Int) false = _
  unfold nVal
  rw [n1]
  rfl
theorem rdP_len : ∀ (k : Nat) (r : TReader), (rdP k r).2.bad = false → (rdP k r).1.length = k
  | 0, _, _ => rfl
  | k + 1, r, h => by
    unfold rdP at h ⊢
    cases hb : r.bad
    · rw [hb, cond_false] at h
      rw [cond_false, List.length_cons, rdP_len k _ h]
    · rw [hb, cond_true] at h
      rw [hb] at h
      cases h
def brS (b : List UInt8) : Bridge × Bool := bif (rdP (min (rCnt b) 5).toNat (rGo b)).2.bad || (!bridgeOk (brAt b (min (rCnt b) 5).toNat) || !decide (bridgeBs (brAt b (min (rCnt b) 5).toNat) = b)) then (⟨0, []⟩, false) else (brAt b (min (rCnt b) 5).toNat, true)
theorem brS_eq (b : List UInt8) : brS b = brI b := by
  by_cases h : rCnt b ≤ 4
  · unfold brS brI
    rw [show min (rCnt b) 5 = rCnt b by omega, show min (rCnt b) 4 = rCnt b by omega]
  · unfold brS brI
    rw [show min (rCnt b) 5 = 5 by omega, show min (rCnt b) 4 = 4 by omega]
    have t5 : ((rdP (5 : Int).toNat (rGo b)).2.bad || (!bridgeOk (brAt b (5 : Int).toNat) || !decide (bridgeBs (brAt b (5 : Int).toNat) = b))) = true := by
      cases hb : (rdP (5 : Int).toNat (rGo b)).2.bad
      · have h5 := rdP_len _ _ hb
        have : bridgeOk (brAt b (5 : Int).toNat) = false := by
          cases hk : bridgeOk (brAt b (5 : Int).toNat)
          · rfl
          · have := bridge_four hk
            unfold brAt at this
            simp only at this
            rw [h5] at this
            exact absurd this (by decide)
        rw [this]
        rfl
      · rfl
    have t4 : ((rdP (4 : Int).toNat (rGo b)).2.bad || (!bridgeOk (brAt b (4 : Int).toNat) || !decide (bridgeBs (brAt b (4 : Int).toNat) = b))) = true := by
      cases hb : (rdP (4 : Int).toNat (rGo b)).2.bad
      · have h5 := rdP_len _ _ hb
        cases hk : bridgeOk (brAt b (4 : Int).toNat)
        · rfl
        · cases he : decide (bridgeBs (brAt b (4 : Int).toNat) = b)
          · rfl
          · have h6 := br_cnt hk (of_decide_eq_true he)
            have h7 := bridge_four hk
            omega
      · rfl
    rw [t5, t4]
    rfl
theorem getL_at (b : List UInt8) (a : Nat) : ∀ (f i : Nat) (n : Int), (getL b a f i n).2.2 = true → 0 ≤ (getL b a f i n).2.1 ∧ (getL b a f i n).2.1 ≤ (b.length : Int)
  | 0, _, _, h => by cases h
  | f + 1, i, n, h => by
    rw [getL_succ] at h ⊢
    by_cases h1 : a + i < b.length
    · rw [decide_eq_true h1, cond_true] at h ⊢
      cases h2 : decide (128 ≤ (b.getD (a + i) 0).toNat)
      · rw [h2, cond_false] at h
        rw [cond_false]
        cases h3 : (decide (0 < i) && decide ((b.getD (a + i) 0).toNat = 0)) || decide (gOr n (((b.getD (a + i) 0).toNat : Nat) : Int) i > 2147483647)
        · rw [cond_false]
          exact ⟨by show (0 : Int) ≤ ((a + i + 1 : Nat) : Int); omega, by show ((a + i + 1 : Nat) : Int) ≤ _; omega⟩
        · rw [h3, cond_true] at h
          cases h
      · rw [h2, cond_true] at h
        rw [cond_true]
        exact getL_at b a f (i + 1) _ h
    · rw [decide_eq_false h1, cond_false] at h
      cases h
def okR (b : List UInt8) (r : TReader) : Prop := r.b = b ∧ 0 ≤ r.at_ ∧ r.at_ ≤ (b.length : Int)
theorem okR_N {b : List UInt8} {r : TReader} (h : okR b r) : okR b (rN r) := by
  obtain ⟨h1, h2, h3⟩ := h
  refine ⟨h1, ?_⟩
  show 0 ≤ nAt r.b r.at_ r.bad ∧ nAt r.b r.at_ r.bad ≤ _
  unfold nAt
  cases hd : r.bad || !(getN r.b r.at_).2.2
  · rw [cond_false]
    have h4 : (getN r.b r.at_).2.2 = true := by
      cases h5 : (getN r.b r.at_).2.2
      · rw [h5] at hd; simp at hd
      · rfl
    unfold getN at h4 ⊢
    rw [show decide (r.at_ < 0) = false from decide_eq_false (by omega), cond_false] at h4 ⊢
    rw [h1] at h4 ⊢
    exact getL_at b _ 5 0 0 h4
  · exact ⟨h2, h3⟩
theorem okR_O {b : List UInt8} {r : TReader} (h : okR b r) : okR b (rO r) := by
  obtain ⟨h1, h2, h3⟩ := h
  refine ⟨h1, ?_⟩
  show 0 ≤ oAt r.b r.at_ r.bad ∧ oAt r.b r.at_ r.bad ≤ _
  unfold oAt oBad
  rw [h1]
  cases hd : r.bad || !decide (r.at_ < (b.length : Int))
  · simp only [Bool.or_eq_false_iff, Bool.not_eq_false', decide_eq_true_eq] at hd
    rw [cond_false]
    omega
  · exact ⟨h2, h3⟩
theorem okR_8 {b : List UInt8} {r : TReader} (h : okR b r) : okR b (r8 r) := okR_N (okR_N (okR_N (okR_N (okR_N (okR_N (okR_N (okR_N (okR_O h))))))))
theorem okR_go (b : List UInt8) : okR b (rGo b) := okR_N (okR_N ⟨rfl, Int.le_refl 0, Int.natCast_nonneg _⟩)
def outBr (x : Bridge × Bool) : Go.Ev.RR := some ([[D.int .i64 x.1.Id, D.sl true 11 (Go.Ev.enS true x.1.Ports)], [D.bool x.2]], [])
def brFin (b : List UInt8) (p : List Port × TReader) : Go.Ev.RR := outBr (bif p.2.bad || (!bridgeOk ⟨rId b, p.1⟩ || !decide (bridgeBs ⟨rId b, p.1⟩ = b)) then (⟨0, []⟩, false) else (⟨rId b, p.1⟩, true))
theorem brFin_bad {b : List UInt8} {ps : List Port} {r : TReader} (h : r.bad = true) : brFin b (ps, r) = outBr (⟨0, []⟩, false) := by unfold brFin; rw [show (ps, r).2.bad = true from h]; rfl
theorem brFin_no {b : List UInt8} {ps : List Port} {r : TReader} (h : r.bad = false) (hk : bridgeOk ⟨rId b, ps⟩ = false) : brFin b (ps, r) = outBr (⟨0, []⟩, false) := by unfold brFin; rw [show (ps, r).2.bad = false from h, show bridgeOk ⟨rId b, (ps, r).1⟩ = false from hk]; rfl
theorem brFin_ne {b : List UInt8} {ps : List Port} {r : TReader} (h : r.bad = false) (hk : bridgeOk ⟨rId b, ps⟩ = true) (he : decide (bridgeBs ⟨rId b, ps⟩ = b) = false) : brFin b (ps, r) = outBr (⟨0, []⟩, false) := by unfold brFin; rw [show (ps, r).2.bad = false from h, show bridgeOk ⟨rId b, (ps, r).1⟩ = true from hk, show decide (bridgeBs ⟨rId b, (ps, r).1⟩ = b) = false from he]; rfl
theorem brFin_ok {b : List UInt8} {ps : List Port} {r : TReader} (h : r.bad = false) (hk : bridgeOk ⟨rId b, ps⟩ = true) (he : decide (bridgeBs ⟨rId b, ps⟩ = b) = true) : brFin b (ps, r) = outBr (⟨rId b, ps⟩, true) := by unfold brFin; rw [show (ps, r).2.bad = false from h, show bridgeOk ⟨rId b, (ps, r).1⟩ = true from hk, show decide (bridgeBs ⟨rId b, (ps, r).1⟩ = b) = true from he]; rfl
theorem bs_no {x : Bridge} (h : bridgeOk x = false) : bridgeBs x = [] := by unfold bridgeBs; rw [h]; rfl
theorem bs_pos {x : Bridge} (h : bridgeOk x = true) : 0 < (bridgeBs x).length := by
  unfold bridgeBs
  rw [h, cond_true, List.length_append]
  simp [sumBs]
theorem rdP_go {r : TReader} {ps : List Port} {k i : Nat} (hi : i < k) (hb : r.bad = false) : (ps ++ (rdP (k - i) r).1, (rdP (k - i) r).2) = ((ps ++ [rPort r]) ++ (rdP (k - (i + 1)) (r8 r)).1, (rdP (k - (i + 1)) (r8 r)).2) := by
  rw [show k - i = (k - (i + 1)) + 1 by omega, rdP, hb, cond_false, List.append_assoc]
  rfl
theorem rdP_stop {r : TReader} {ps : List Port} {m : Nat} (h : m = 0 ∨ r.bad = true) : (ps ++ (rdP m r).1, (rdP m r).2) = (ps, r) := by
  cases m with
  | zero => rw [rdP, List.append_nil]
  | succ m =>
    rcases h with h | h
    · cases h
    · rw [rdP, h, cond_true, List.append_nil]
theorem rCnt_s (b : List UInt8) : mVal b (mAt b 0 true) (mOk b 0 true) = rCnt b := by unfold mVal mAt mOk; rw [Bool.not_not]; rfl
theorem rGoA_s (b : List UInt8) : mAt b (mAt b 0 true) (mOk b 0 true) = (rGo b).at_ := by unfold mAt mOk; rw [Bool.not_not]; rfl
theorem rGoB_s (b : List UInt8) : mOk b (mAt b 0 true) (mOk b 0 true) = !(rGo b).bad := by unfold mAt mOk; rw [Bool.not_not]; rfl
end Go.Md
namespace Go.Ev
open Go.Md
def o81 (b : List UInt8) (at_ : Int) : Bool × List Row × List Row := (decide (b.length ≤ 1048576), [[.int .i64 ((getN b at_).1)], [.int .i64 ((getN b at_).2.1)], [.bool ((getN b at_).2.2)]], [])
def c81 : Contract
  | [[.sl false 1 b], [.int .i64 at_]] => some (isS UInt8 false b && (o81 (deS UInt8 b) at_).1, (o81 (deS UInt8 b) at_).2.1, (o81 (deS UInt8 b) at_).2.2)
  | _ => none

def k81_0 (n : Nat) : Ex → St → RR := kThen (fun st ↦ runCode (Ctx.mk prog Hx (81)) (Table.call T30) n (codeAt [1, 1, 1, 1] (bodyOf f81)) (Lv.mk 112 [] 112) st (kLeave (Ctx.P (Ctx.mk prog Hx (81))) (List.zip (Array.toList (Go.Func.resultTypes f81)) (Array.toList (Go.Func.results f81))) [] [])) (kLeave (Ctx.P (Ctx.mk prog Hx (81))) (List.zip (Array.toList (Go.Func.resultTypes f81)) (Array.toList (Go.Func.results f81))) [] [])
def k81_1 (n : Nat) : Ex → St → RR := kBlock (0) (k81_0 n)
def S81_0 (b : List UInt8) (at_ : Int) (i0 : Int) (i1 : Int) : St := St.mk (V_ [C.d (D.sl false 1 (enS false b))] :: I_ at_ :: u_ 5 (I_ i0 :: I_ i1 :: u_ 47 [])) []
def B81_0 (n : Nat) : St → (Ex → St → RR) → RR := runCode (Ctx.mk prog Hx (81)) (Table.call T30) n (codeAt [1, 1, 1, 0, 1, 0, 0] (bodyOf f81)) (Lv.mk 387 [(0, 0)] 112)
def X81_2 : St := St.mk (u_ 4 (I_ (0) :: I_ (0) :: B_ false :: u_ 49 [])) []
def X81_3 : St := St.mk (u_ 4 (I_ (0) :: I_ (0) :: B_ false :: u_ 49 [])) []
def X81_4 (b : List UInt8) (at_ : Int) (i0 : Int) (i1 : Int) : St := St.mk (u_ 4 (I_ (wrap i64 (ofNat (BitVec.toNat (BitVec.or (BitVec.ofInt 64 i0) (BitVec.ofInt 64 (wrap i64 (wrap i64 (ofNat (BitVec.toNat (BitVec.and (BitVec.ofInt 64 (wrap i64 (D.num (getD (getD (enS false b) (toNat (wrap i64 (at_ + i1))) []) 0 D.dead)))) (BitVec.ofInt 64 (127))))) * Int.pow (2) (if toNat (wrap IntKind.u64 (wrap i64 (7 * i1))) ≤ 64 then toNat (wrap IntKind.u64 (wrap i64 (7 * i1))) else 64)))))))) :: I_ (wrap i64 (wrap i64 (at_ + i1) + 1)) :: B_ true :: u_ 49 [])) []
def X81_5 : St := St.mk (u_ 4 (I_ (0) :: I_ (0) :: B_ false :: u_ 49 [])) []
def X81_6 (b : List UInt8) (at_ : Int) (i0 : Int) (i1 : Int) : St := St.mk (u_ 4 (I_ (wrap i64 (ofNat (BitVec.toNat (BitVec.or (BitVec.ofInt 64 i0) (BitVec.ofInt 64 (wrap i64 (wrap i64 (ofNat (BitVec.toNat (BitVec.and (BitVec.ofInt 64 (wrap i64 (D.num (getD (getD (enS false b) (toNat (wrap i64 (at_ + i1))) []) 0 D.dead)))) (BitVec.ofInt 64 (127))))) * Int.pow (2) (if toNat (wrap IntKind.u64 (wrap i64 (7 * i1))) ≤ 64 then toNat (wrap IntKind.u64 (wrap i64 (7 * i1))) else 64)))))))) :: I_ (wrap i64 (wrap i64 (at_ + i1) + 1)) :: B_ true :: u_ 49 [])) []
def X81_7 : St := St.mk (u_ 56 []) []
def X81_8 : St := St.mk (u_ 56 []) []
theorem q81_0 (b : List UInt8) (at_ : Int) (n : Nat) (i0 : Int) (i1 : Int) (f : St → RR) (K : Ex → St → RR) : B81_0 n (S81_0 b at_ i0 i1) (kThen (fun st ↦ f (St.head 0 387 72057594037924848 st)) K) = bif decide (i1 < 5) then bif decide (at_ < wrap i64 (ofNat (length (enS false b)) - i1)) then bif decide (0 ≤ wrap i64 (at_ + i1)) && decide (wrap i64 (at_ + i1) < ofNat (length (enS false b))) then bif Leaf.fit false (Leaf.int IntKind.u8) (getD (getD (enS false b) (toNat (wrap i64 (at_ + i1))) []) 0 D.dead) && true then bif decide (0 ≤ wrap IntKind.u64 (wrap i64 (7 * i1))) then bif decide (wrap i64 (D.num (getD (getD (enS false b) (toNat (wrap i64 (at_ + i1))) []) 0 D.dead)) ≥ 128) then f (S81_0 b at_ (wrap i64 (ofNat (BitVec.toNat (BitVec.or (BitVec.ofInt 64 i0) (BitVec.ofInt 64 (wrap i64 (wrap i64 (ofNat (BitVec.toNat (BitVec.and (BitVec.ofInt 64 (wrap i64 (D.num (getD (getD (enS false b) (toNat (wrap i64 (at_ + i1))) []) 0 D.dead)))) (BitVec.ofInt 64 (127))))) * Int.pow (2) (if toNat (wrap IntKind.u64 (wrap i64 (7 * i1))) ≤ 64 then toNat (wrap IntKind.u64 (wrap i64 (7 * i1))) else 64)))))))) (wrap i64 (i1 + 1))) else bif wrap i64 (D.num (getD (getD (enS false b) (toNat (wrap i64 (at_ + i1))) []) 0 D.dead)) == 0 then bif decide (i1 > 0) then K Ex.ret X81_2 else bif decide (wrap i64 (ofNat (BitVec.toNat (BitVec.or (BitVec.ofInt 64 i0) (BitVec.ofInt 64 (wrap i64 (wrap i64 (ofNat (BitVec.toNat (BitVec.and (BitVec.ofInt 64 (wrap i64 (D.num (getD (getD (enS false b) (toNat (wrap i64 (at_ + i1))) []) 0 D.dead)))) (BitVec.ofInt 64 (127))))) * Int.pow (2) (if toNat (wrap IntKind.u64 (wrap i64 (7 * i1))) ≤ 64 then toNat (wrap IntKind.u64 (wrap i64 (7 * i1))) else 64))))))) > 2147483647) then K Ex.ret X81_3 else K Ex.ret (X81_4 b at_ i0 i1) else bif decide (wrap i64 (ofNat (BitVec.toNat (BitVec.or (BitVec.ofInt 64 i0) (BitVec.ofInt 64 (wrap i64 (wrap i64 (ofNat (BitVec.toNat (BitVec.and (BitVec.ofInt 64 (wrap i64 (D.num (getD (getD (enS false b) (toNat (wrap i64 (at_ + i1))) []) 0 D.dead)))) (BitVec.ofInt 64 (127))))) * Int.pow (2) (if toNat (wrap IntKind.u64 (wrap i64 (7 * i1))) ≤ 64 then toNat (wrap IntKind.u64 (wrap i64 (7 * i1))) else 64))))))) > 2147483647) then K Ex.ret X81_5 else K Ex.ret (X81_6 b at_ i0 i1) else none else none else none else K (Ex.exit 0) X81_7 else K (Ex.exit 0) X81_8 := by kernel_rfl
theorem aX81_2 (n : Nat) : k81_1 n Ex.ret X81_2 = some ([[D.int i64 (0)], [D.int i64 (0)], [D.bool false]], []) := by kernel_rfl
theorem aX81_3 (n : Nat) : k81_1 n Ex.ret X81_3 = some ([[D.int i64 (0)], [D.int i64 (0)], [D.bool false]], []) := by kernel_rfl
theorem aX81_4 (b : List UInt8) (at_ : Int) (n : Nat) (i0 : Int) (i1 : Int) : k81_1 n Ex.ret (X81_4 b at_ i0 i1) = some ([[D.int i64 (wrap i64 (ofNat (BitVec.toNat (BitVec.or (BitVec.ofInt 64 i0) (BitVec.ofInt 64 (wrap i64 (wrap i64 (ofNat (BitVec.toNat (BitVec.and (BitVec.ofInt 64 (wrap i64 (D.num (getD (getD (enS false b) (toNat (wrap i64 (at_ + i1))) []) 0 D.dead)))) (BitVec.ofInt 64 (127))))) * Int.pow (2) (if toNat (wrap IntKind.u64 (wrap i64 (7 * i1))) ≤ 64 then toNat (wrap IntKind.u64 (wrap i64 (7 * i1))) else 64))))))))], [D.int i64 (wrap i64 (wrap i64 (at_ + i1) + 1))], [D.bool true]], []) := by kernel_rfl
theorem aX81_5 (n : Nat) : k81_1 n Ex.ret X81_5 = some ([[D.int i64 (0)], [D.int i64 (0)], [D.bool false]], []) := by kernel_rfl
theorem aX81_6 (b : List UInt8) (at_ : Int) (n : Nat) (i0 : Int) (i1 : Int) : k81_1 n Ex.ret (X81_6 b at_ i0 i1) = some ([[D.int i64 (wrap i64 (ofNat (BitVec.toNat (BitVec.or (BitVec.ofInt 64 i0) (BitVec.ofInt 64 (wrap i64 (wrap i64 (ofNat (BitVec.toNat (BitVec.and (BitVec.ofInt 64 (wrap i64 (D.num (getD (getD (enS false b) (toNat (wrap i64 (at_ + i1))) []) 0 D.dead)))) (BitVec.ofInt 64 (127))))) * Int.pow (2) (if toNat (wrap IntKind.u64 (wrap i64 (7 * i1))) ≤ 64 then toNat (wrap IntKind.u64 (wrap i64 (7 * i1))) else 64))))))))], [D.int i64 (wrap i64 (wrap i64 (at_ + i1) + 1))], [D.bool true]], []) := by kernel_rfl
theorem aX81_7 (n : Nat) : k81_1 n (Ex.exit 0) X81_7 = some ([[D.int i64 (0)], [D.int i64 (0)], [D.bool false]], []) := by kernel_rfl
theorem aX81_8 (n : Nat) : k81_1 n (Ex.exit 0) X81_8 = some ([[D.int i64 (0)], [D.int i64 (0)], [D.bool false]], []) := by kernel_rfl
theorem r81 (b : List UInt8) (at_ : Int) (n : Nat) : evFn ⟨prog, Hx, 81⟩ T30.call n f81 [[.sl false 1 (enS false b)], [.int .i64 at_]] = bif decide (at_ < 0) then some ([[D.int i64 (0)], [D.int i64 (0)], [D.bool false]], []) else loopRun (B81_0 n) 0 387 72057594037924848 n (S81_0 b at_ (0) (0)) (k81_1 n) := by kernel_rfl
theorem m81 (b : List UInt8) (at_ : Int) (hpre : (o81 b at_).1 = true) : evFn ⟨Go.Proofs.Try.prog, Hx, 81⟩ T30.call (6 + b.length) f81 [[.sl false 1 (enS false b)], [.int .i64 at_]] = some (o81 b at_).2 := by
  refine (r81 b at_ _).trans ?_
  show _ = (some ([[.int .i64 ((getN b at_).1)], [.int .i64 ((getN b at_).2.1)], [.bool ((getN b at_).2.2)]], []) : Option (List Row × List Row))
  replace hpre : (decide (b.length ≤ 1048576)) = true := hpre
  have hlen := of_decide_eq_true hpre
  show _ = outG (getN b at_)
  unfold getN
  cases hneg : decide (at_ < 0)
  case true =>
    rfl
  obtain ⟨a, rfl⟩ := Int.eq_ofNat_of_zero_le (show 0 ≤ at_ by have := of_decide_eq_false hneg; omega)
  refine bif_f hneg ?_
  rw [cond_false]
  show _ = outG (getL b a 5 0 0)
  refine loop_rule (V := Nat × Int) (fun v => S81_0 b (Int.ofNat a) v.2 (Int.ofNat v.1)) (fun v => v.1 ≤ 5) (fun v => 5 - v.1) (fun v => outG (getL b a (5 - v.1) v.1 v.2)) ?_ (6 + b.length) (0, 0) (Nat.zero_le _) (by show 5 - 0 < 6 + b.length; omega)
  rintro ⟨i, n⟩ hp f hf
  have hp : i ≤ 5 := hp
  refine (q81_0 b (Int.ofNat a) _ _ _ f _).trans ?_
  show _ = outG (getL b a (5 - i) i n)
  by_cases h5 : i < 5
  case neg =>
    obtain rfl : i = 5 := by omega
    exact bif_f rfl (aX81_8 _)
  have h5d : decide (Int.ofNat i < 5) = true := decide_eq_true (by show (i : Int) < 5; omega)
  refine bif_t h5d ?_
  rw [show 5 - i = (4 - i) + 1 by omega, getL_succ]
  have w1 : IntKind.wrap IntKind.i64 (Int.ofNat b.length - Int.ofNat i) = Int.ofNat b.length - Int.ofNat i := wrap_of (by show _ ≤ (b.length : Int) - (i : Int); omega) (by show (b.length : Int) - (i : Int) ≤ _; omega)
  by_cases hlt : a + i < b.length
  case neg =>
    rw [decide_eq_false hlt, cond_false]
    refine bif_f (by rw [enS_length, w1]; exact decide_eq_false (by show ¬ ((a : Int) < (b.length : Int) - (i : Int)); omega)) ?_
    exact aX81_7 _
  rw [decide_eq_true hlt, cond_true]
  refine bif_t (by rw [enS_length, w1]; exact decide_eq_true (by show (a : Int) < (b.length : Int) - (i : Int); omega)) ?_
  have hg : b.getD (a + i) 0 = b[a + i] := by rw [List.getD_eq_getElem?_getD, List.getElem?_eq_getElem hlt]; rfl
  rw [hg]
  have w2 : IntKind.wrap IntKind.i64 (Int.ofNat a + Int.ofNat i) = Int.ofNat (a + i) := wrap_of (by show _ ≤ (a : Int) + (i : Int); omega) (by show (a : Int) + (i : Int) ≤ _; omega)
  have w3 : IntKind.wrap IntKind.i64 (Int.ofNat (a + i) + 1) = Int.ofNat (a + i + 1) := wrap_of (by show _ ≤ ((a + i : Nat) : Int) + 1; omega) (by show ((a + i : Nat) : Int) + 1 ≤ _; omega)
  have hb : b[a + i].toNat < 256 := b[a + i].toNat_lt
  have w4 : IntKind.wrap IntKind.i64 ((b[a + i].toNat : Nat) : Int) = ((b[a + i].toNat : Nat) : Int) := wrap_of (by omega) (by omega)
  have w5 : IntKind.wrap IntKind.i64 (Int.ofNat i + 1) = Int.ofNat (i + 1) := wrap_succ (by omega)
  have g1 : (enS false b).getD (a + i) [] = [D.int .u8 ((b[a + i].toNat : Nat) : Int)] := enS_get false hlt
  have c1 : (decide (0 ≤ Int.ofNat (a + i)) && decide (Int.ofNat (a + i) < Int.ofNat b.length)) = true := by rw [decide_eq_true (show 0 ≤ Int.ofNat (a + i) from Int.natCast_nonneg _), decide_eq_true (show Int.ofNat (a + i) < Int.ofNat b.length from Int.ofNat_lt.2 hlt)]; rfl
  have d3 : decide (Int.ofNat i > 0) = decide (0 < i) := decide_eq_decide.2 (by show (i : Int) > 0 ↔ _; omega)
  have d2 : (((b[a + i].toNat : Nat) : Int) == 0) = decide (b[a + i].toNat = 0) := by rw [Bool.eq_iff_iff, beq_iff_eq, decide_eq_true_eq]; omega
  have d1 : decide (((b[a + i].toNat : Nat) : Int) ≥ 128) = decide (128 ≤ b[a + i].toNat) := decide_eq_decide.2 (by omega)
  have sh := sh_u i h5
  have s0 := sh_u0 i h5
  simp only [enS_length, w2, c1, g1, toNat_of, List.getD_cons_zero, Leaf.fit, beq_self_eq_true, Bool.and_true, cond_true, s0, sh, D.num, w4, and127, gOr_def, w5, d1, d2, d3]
  generalize hG : gOr n ((b[a + i].toNat : Nat) : Int) i = G
  have fin4 : k81_1 (6 + b.length) .ret (X81_4 b (Int.ofNat a) n (Int.ofNat i)) = outG (G, Int.ofNat (a + i + 1), true) := by
    refine (aX81_4 _ _ _ _ _).trans ?_
    simp only [w2, g1, toNat_of, List.getD_cons_zero, sh, D.num, w4, and127, gOr_def, w3, hG]
    rfl
  have fin6 : k81_1 (6 + b.length) .ret (X81_6 b (Int.ofNat a) n (Int.ofNat i)) = outG (G, Int.ofNat (a + i + 1), true) := by
    refine (aX81_6 _ _ _ _ _).trans ?_
    simp only [w2, g1, toNat_of, List.getD_cons_zero, sh, D.num, w4, and127, gOr_def, w3, hG]
    rfl
  cases A : decide (128 ≤ b[a + i].toNat)
  · rw [cond_false, cond_false]
    cases B : decide (b[a + i].toNat = 0)
    · rw [cond_false]
      cases E : decide (G > 2147483647)
      · simp only [Bool.and_false, Bool.or_false, cond_false]
        exact fin6
      · simp only [Bool.and_false, Bool.false_or, cond_true]
        exact aX81_5 _
    · rw [cond_true]
      cases C : decide (0 < i)
      · rw [cond_false]
        cases E : decide (G > 2147483647)
        · simp only [Bool.false_and, Bool.or_false, cond_false]
          exact fin4
        · simp only [Bool.false_and, Bool.false_or, cond_true]
          exact aX81_3 _
      · simp only [Bool.and_self, Bool.true_or, cond_true]
        exact aX81_2 _
  · rw [cond_true, cond_true]
    have := hf (i + 1, G) (by show i + 1 ≤ 5; omega) (by show 5 - (i + 1) < 5 - i; omega)
    rw [show 4 - i = 5 - (i + 1) by omega]
    exact this
theorem s81 : SoundAt Go.Proofs.Try.prog Hx 81 c81 := soundAt_of T30_sound mixed func81 (by kernel_rfl) (by
  intro rows r h
  unfold c81 at h
  split at h
  · rename_i b at_
    obtain ⟨hp, hr⟩ := Prod.mk.inj (Option.some.inj h)
    subst hr
    simp only [Bool.and_eq_true] at hp
    obtain ⟨hs0, hp⟩ := hp
    obtain ⟨xs0, rfl⟩ := isS_ex hs0
    simp only [deS_enS] at hp ⊢
    exact ⟨_, m81 xs0 at_ hp⟩
  · cases h)
def T81 : Table := (81, c81) :: T30
theorem T81_sound : Table.Sound Go.Proofs.Try.prog Hx T81 := Table.sound_cons s81 T30_sound
def o83 (b : List UInt8) (at_ : Int) : Bool × List Row × List Row := (decide (b.length ≤ 1048576), [[.int .i64 ((getN b at_).1)], [.int .i64 ((getN b at_).2.1)], [.bool ((getN b at_).2.2)]], [])
def c83 : Contract
  | [[.sl false 1 b], [.int .i64 at_]] => some (isS UInt8 false b && (o83 (deS UInt8 b) at_).1, (o83 (deS UInt8 b) at_).2.1, (o83 (deS UInt8 b) at_).2.2)
  | _ => none

def k83_0 (n : Nat) : Ex → St → RR := kThen (fun st ↦ runCode (Ctx.mk prog Hx (83)) (Table.call T81) n (codeAt [1, 1, 1] (bodyOf f83)) (Lv.mk 112 [] 112) st (kLeave (Ctx.P (Ctx.mk prog Hx (83))) (List.zip (Array.toList (Go.Func.resultTypes f83)) (Array.toList (Go.Func.results f83))) [] [])) (kLeave (Ctx.P (Ctx.mk prog Hx (83))) (List.zip (Array.toList (Go.Func.resultTypes f83)) (Array.toList (Go.Func.results f83))) [] [])
def k83_1 (n : Nat) : Ex → St → RR := kBlock (0) (k83_0 n)
def S83_0 (b : List UInt8) (at_ : Int) (i0 : Int) (i1 : Int) : St := St.mk (V_ [C.d (D.sl false 1 (enS false b))] :: I_ at_ :: u_ 5 (I_ i0 :: I_ i1 :: u_ 46 [])) []
def B83_0 (n : Nat) : St → (Ex → St → RR) → RR := runCode (Ctx.mk prog Hx (83)) (Table.call T81) n (codeAt [1, 1, 0, 1, 0, 0] (bodyOf f83)) (Lv.mk 387 [(0, 0)] 112)
def X83_2 : St := St.mk (u_ 4 (I_ (0) :: I_ (0) :: B_ false :: u_ 48 [])) []
def X83_3 : St := St.mk (u_ 4 (I_ (0) :: I_ (0) :: B_ false :: u_ 48 [])) []
def X83_4 : St := St.mk (u_ 4 (I_ (0) :: I_ (0) :: B_ false :: u_ 48 [])) []
def X83_5 : St := St.mk (u_ 4 (I_ (0) :: I_ (0) :: B_ false :: u_ 48 [])) []
def X83_6 (b : List UInt8) (at_ : Int) (i0 : Int) (i1 : Int) : St := St.mk (u_ 4 (I_ (wrap i64 (ofNat (BitVec.toNat (BitVec.or (BitVec.ofInt 64 i0) (BitVec.ofInt 64 (wrap i64 (Int.tmod (wrap i64 (D.num (getD (getD (enS false b) (toNat (wrap i64 (at_ + i1))) []) 0 D.dead))) (128) * Int.pow (2) (if toNat (wrap i64 (7 * i1)) ≤ 64 then toNat (wrap i64 (7 * i1)) else 64)))))))) :: I_ (wrap i64 (wrap i64 (at_ + i1) + 1)) :: B_ true :: u_ 48 [])) []
def X83_7 : St := St.mk (u_ 4 (I_ (0) :: I_ (0) :: B_ false :: u_ 48 [])) []
def X83_8 (b : List UInt8) (at_ : Int) (i0 : Int) (i1 : Int) : St := St.mk (u_ 4 (I_ (wrap i64 (ofNat (BitVec.toNat (BitVec.or (BitVec.ofInt 64 i0) (BitVec.ofInt 64 (wrap i64 (Int.tmod (wrap i64 (D.num (getD (getD (enS false b) (toNat (wrap i64 (at_ + i1))) []) 0 D.dead))) (128) * Int.pow (2) (if toNat (wrap i64 (7 * i1)) ≤ 64 then toNat (wrap i64 (7 * i1)) else 64)))))))) :: I_ (wrap i64 (wrap i64 (at_ + i1) + 1)) :: B_ true :: u_ 48 [])) []
def X83_9 : St := St.mk (u_ 55 []) []
theorem q83_0 (b : List UInt8) (at_ : Int) (n : Nat) (i0 : Int) (i1 : Int) (f : St → RR) (K : Ex → St → RR) : B83_0 n (S83_0 b at_ i0 i1) (kThen (fun st ↦ f (St.head 0 387 36028797018963952 st)) K) = bif decide (i1 < 5) then bif decide (at_ < 0) then K Ex.ret X83_2 else bif decide (at_ ≥ wrap i64 (ofNat (length (enS false b)) - i1)) then K Ex.ret X83_3 else bif decide (0 ≤ wrap i64 (at_ + i1)) && decide (wrap i64 (at_ + i1) < ofNat (length (enS false b))) then bif Leaf.fit false (Leaf.int IntKind.u8) (getD (getD (enS false b) (toNat (wrap i64 (at_ + i1))) []) 0 D.dead) && true then bif decide (0 ≤ wrap i64 (7 * i1)) then bif decide (wrap i64 (D.num (getD (getD (enS false b) (toNat (wrap i64 (at_ + i1))) []) 0 D.dead)) < 128) then bif decide (i1 > 0) then bif wrap i64 (D.num (getD (getD (enS false b) (toNat (wrap i64 (at_ + i1))) []) 0 D.dead)) == 0 then K Ex.ret X83_4 else bif decide (wrap i64 (ofNat (BitVec.toNat (BitVec.or (BitVec.ofInt 64 i0) (BitVec.ofInt 64 (wrap i64 (Int.tmod (wrap i64 (D.num (getD (getD (enS false b) (toNat (wrap i64 (at_ + i1))) []) 0 D.dead))) (128) * Int.pow (2) (if toNat (wrap i64 (7 * i1)) ≤ 64 then toNat (wrap i64 (7 * i1)) else 64))))))) > 2147483647) then K Ex.ret X83_5 else K Ex.ret (X83_6 b at_ i0 i1) else bif decide (wrap i64 (ofNat (BitVec.toNat (BitVec.or (BitVec.ofInt 64 i0) (BitVec.ofInt 64 (wrap i64 (Int.tmod (wrap i64 (D.num (getD (getD (enS false b) (toNat (wrap i64 (at_ + i1))) []) 0 D.dead))) (128) * Int.pow (2) (if toNat (wrap i64 (7 * i1)) ≤ 64 then toNat (wrap i64 (7 * i1)) else 64))))))) > 2147483647) then K Ex.ret X83_7 else K Ex.ret (X83_8 b at_ i0 i1) else f (S83_0 b at_ (wrap i64 (ofNat (BitVec.toNat (BitVec.or (BitVec.ofInt 64 i0) (BitVec.ofInt 64 (wrap i64 (Int.tmod (wrap i64 (D.num (getD (getD (enS false b) (toNat (wrap i64 (at_ + i1))) []) 0 D.dead))) (128) * Int.pow (2) (if toNat (wrap i64 (7 * i1)) ≤ 64 then toNat (wrap i64 (7 * i1)) else 64)))))))) (wrap i64 (i1 + 1))) else none else none else none else K (Ex.exit 0) X83_9 := by kernel_rfl
theorem aX83_2 (n : Nat) : k83_1 n Ex.ret X83_2 = some ([[D.int i64 (0)], [D.int i64 (0)], [D.bool false]], []) := by kernel_rfl
theorem aX83_3 (n : Nat) : k83_1 n Ex.ret X83_3 = some ([[D.int i64 (0)], [D.int i64 (0)], [D.bool false]], []) := by kernel_rfl
theorem aX83_4 (n : Nat) : k83_1 n Ex.ret X83_4 = some ([[D.int i64 (0)], [D.int i64 (0)], [D.bool false]], []) := by kernel_rfl
theorem aX83_5 (n : Nat) : k83_1 n Ex.ret X83_5 = some ([[D.int i64 (0)], [D.int i64 (0)], [D.bool false]], []) := by kernel_rfl
theorem aX83_6 (b : List UInt8) (at_ : Int) (n : Nat) (i0 : Int) (i1 : Int) : k83_1 n Ex.ret (X83_6 b at_ i0 i1) = some ([[D.int i64 (wrap i64 (ofNat (BitVec.toNat (BitVec.or (BitVec.ofInt 64 i0) (BitVec.ofInt 64 (wrap i64 (Int.tmod (wrap i64 (D.num (getD (getD (enS false b) (toNat (wrap i64 (at_ + i1))) []) 0 D.dead))) (128) * Int.pow (2) (if toNat (wrap i64 (7 * i1)) ≤ 64 then toNat (wrap i64 (7 * i1)) else 64))))))))], [D.int i64 (wrap i64 (wrap i64 (at_ + i1) + 1))], [D.bool true]], []) := by kernel_rfl
theorem aX83_7 (n : Nat) : k83_1 n Ex.ret X83_7 = some ([[D.int i64 (0)], [D.int i64 (0)], [D.bool false]], []) := by kernel_rfl
theorem aX83_8 (b : List UInt8) (at_ : Int) (n : Nat) (i0 : Int) (i1 : Int) : k83_1 n Ex.ret (X83_8 b at_ i0 i1) = some ([[D.int i64 (wrap i64 (ofNat (BitVec.toNat (BitVec.or (BitVec.ofInt 64 i0) (BitVec.ofInt 64 (wrap i64 (Int.tmod (wrap i64 (D.num (getD (getD (enS false b) (toNat (wrap i64 (at_ + i1))) []) 0 D.dead))) (128) * Int.pow (2) (if toNat (wrap i64 (7 * i1)) ≤ 64 then toNat (wrap i64 (7 * i1)) else 64))))))))], [D.int i64 (wrap i64 (wrap i64 (at_ + i1) + 1))], [D.bool true]], []) := by kernel_rfl
theorem aX83_9 (n : Nat) : k83_1 n (Ex.exit 0) X83_9 = some ([[D.int i64 (0)], [D.int i64 (0)], [D.bool false]], []) := by kernel_rfl
theorem r83 (b : List UInt8) (at_ : Int) (n : Nat) : evFn ⟨prog, Hx, 83⟩ T81.call n f83 [[.sl false 1 (enS false b)], [.int .i64 at_]] = loopRun (B83_0 n) 0 387 36028797018963952 n (S83_0 b at_ (0) (0)) (k83_1 n) := by kernel_rfl
theorem m83 (b : List UInt8) (at_ : Int) (hpre : (o83 b at_).1 = true) : evFn ⟨Go.Proofs.Try.prog, Hx, 83⟩ T81.call (6 + b.length) f83 [[.sl false 1 (enS false b)], [.int .i64 at_]] = some (o83 b at_).2 := by
  refine (r83 b at_ _).trans ?_
  show _ = (some ([[.int .i64 ((getN b at_).1)], [.int .i64 ((getN b at_).2.1)], [.bool ((getN b at_).2.2)]], []) : Option (List Row × List Row))
  replace hpre : (decide (b.length ≤ 1048576)) = true := hpre
  have hlen := of_decide_eq_true hpre
  show _ = outG (getN b at_)
  unfold getN
  cases hneg : decide (at_ < 0)
  case true =>
    refine loop_rule (V := Unit) (fun _ => S83_0 b at_ 0 0) (fun _ => True) (fun _ => 0) (fun _ => outG (0, 0, false)) ?_ (6 + b.length) () trivial (by omega)
    rintro _ _ f _
    refine (q83_0 b at_ _ _ _ f _).trans ?_
    refine bif_t rfl (bif_t hneg ?_)
    exact aX83_2 _
  obtain ⟨a, rfl⟩ := Int.eq_ofNat_of_zero_le (show 0 ≤ at_ by have := of_decide_eq_false hneg; omega)
  rw [cond_false]
  show _ = outG (getL b a 5 0 0)
  refine loop_rule (V := Nat × Int) (fun v => S83_0 b (Int.ofNat a) v.2 (Int.ofNat v.1)) (fun v => v.1 ≤ 5) (fun v => 5 - v.1) (fun v => outG (getL b a (5 - v.1) v.1 v.2)) ?_ (6 + b.length) (0, 0) (Nat.zero_le _) (by show 5 - 0 < 6 + b.length; omega)
  rintro ⟨i, n⟩ hp f hf
  have hp : i ≤ 5 := hp
  refine (q83_0 b (Int.ofNat a) _ _ _ f _).trans ?_
  show _ = outG (getL b a (5 - i) i n)
  by_cases h5 : i < 5
  case neg =>
    obtain rfl : i = 5 := by omega
    exact bif_f rfl (aX83_9 _)
  have h5d : decide (Int.ofNat i < 5) = true := decide_eq_true (by show (i : Int) < 5; omega)
  refine bif_t h5d ?_
  rw [show 5 - i = (4 - i) + 1 by omega, getL_succ]
  have w1 : IntKind.wrap IntKind.i64 (Int.ofNat b.length - Int.ofNat i) = Int.ofNat b.length - Int.ofNat i := wrap_of (by show _ ≤ (b.length : Int) - (i : Int); omega) (by show (b.length : Int) - (i : Int) ≤ _; omega)
  by_cases hlt : a + i < b.length
  case neg =>
    rw [decide_eq_false hlt, cond_false]
    refine bif_f hneg (bif_t (by rw [enS_length, w1]; exact decide_eq_true (by show ((a : Int) ≥ (b.length : Int) - (i : Int)); omega)) ?_)
    exact aX83_3 _
  rw [decide_eq_true hlt, cond_true]
  refine bif_f hneg (bif_f (by rw [enS_length, w1]; exact decide_eq_false (by show ¬ ((a : Int) ≥ (b.length : Int) - (i : Int)); omega)) ?_)
  have hg : b.getD (a + i) 0 = b[a + i] := by rw [List.getD_eq_getElem?_getD, List.getElem?_eq_getElem hlt]; rfl
  rw [hg]
  have w2 : IntKind.wrap IntKind.i64 (Int.ofNat a + Int.ofNat i) = Int.ofNat (a + i) := wrap_of (by show _ ≤ (a : Int) + (i : Int); omega) (by show (a : Int) + (i : Int) ≤ _; omega)
  have w3 : IntKind.wrap IntKind.i64 (Int.ofNat (a + i) + 1) = Int.ofNat (a + i + 1) := wrap_of (by show _ ≤ ((a + i : Nat) : Int) + 1; omega) (by show ((a + i : Nat) : Int) + 1 ≤ _; omega)
  have hb : b[a + i].toNat < 256 := b[a + i].toNat_lt
  have w4 : IntKind.wrap IntKind.i64 ((b[a + i].toNat : Nat) : Int) = ((b[a + i].toNat : Nat) : Int) := wrap_of (by omega) (by omega)
  have w5 : IntKind.wrap IntKind.i64 (Int.ofNat i + 1) = Int.ofNat (i + 1) := wrap_succ (by omega)
  have g1 : (enS false b).getD (a + i) [] = [D.int .u8 ((b[a + i].toNat : Nat) : Int)] := enS_get false hlt
  have c1 : (decide (0 ≤ Int.ofNat (a + i)) && decide (Int.ofNat (a + i) < Int.ofNat b.length)) = true := by rw [decide_eq_true (show 0 ≤ Int.ofNat (a + i) from Int.natCast_nonneg _), decide_eq_true (show Int.ofNat (a + i) < Int.ofNat b.length from Int.ofNat_lt.2 hlt)]; rfl
  have d3 : decide (Int.ofNat i > 0) = decide (0 < i) := decide_eq_decide.2 (by show (i : Int) > 0 ↔ _; omega)
  have d2 : (((b[a + i].toNat : Nat) : Int) == 0) = decide (b[a + i].toNat = 0) := by rw [Bool.eq_iff_iff, beq_iff_eq, decide_eq_true_eq]; omega
  have d1 : decide (((b[a + i].toNat : Nat) : Int) < 128) = !decide (128 ≤ b[a + i].toNat) := by rw [Bool.eq_iff_iff]; simp only [decide_eq_true_eq, Bool.not_eq_true', decide_eq_false_iff_not]; omega
  have sh := sh_i i h5
  have s0 := sh_i0 i h5
  simp only [enS_length, w2, c1, g1, toNat_of, List.getD_cons_zero, Leaf.fit, beq_self_eq_true, Bool.and_true, cond_true, s0, sh, D.num, w4, gOr_def, w5, d1, d2, d3]
  generalize hG : gOr n ((b[a + i].toNat : Nat) : Int) i = G
  have fin6 : k83_1 (6 + b.length) .ret (X83_6 b (Int.ofNat a) n (Int.ofNat i)) = outG (G, Int.ofNat (a + i + 1), true) := by
    refine (aX83_6 _ _ _ _ _).trans ?_
    simp only [w2, g1, toNat_of, List.getD_cons_zero, sh, D.num, w4, gOr_def, w3, hG]
    rfl
  have fin8 : k83_1 (6 + b.length) .ret (X83_8 b (Int.ofNat a) n (Int.ofNat i)) = outG (G, Int.ofNat (a + i + 1), true) := by
    refine (aX83_8 _ _ _ _ _).trans ?_
    simp only [w2, g1, toNat_of, List.getD_cons_zero, sh, D.num, w4, gOr_def, w3, hG]
    rfl
  cases A : decide (128 ≤ b[a + i].toNat)
  · rw [Bool.not_false, cond_true, cond_false]
    cases C : decide (0 < i)
    · rw [cond_false]
      cases E : decide (G > 2147483647)
      · simp only [Bool.false_and, Bool.or_false, cond_false]
        exact fin8
      · simp only [Bool.false_and, Bool.false_or, cond_true]
        exact aX83_7 _
    · rw [cond_true]
      cases B : decide (b[a + i].toNat = 0)
      · rw [cond_false]
        cases E : decide (G > 2147483647)
        · simp only [Bool.and_false, Bool.or_false, cond_false]
          exact fin6
        · simp only [Bool.and_false, Bool.false_or, cond_true]
          exact aX83_5 _
      · simp only [Bool.and_self, Bool.true_or, cond_true]
        exact aX83_4 _
  · rw [Bool.not_true, cond_false, cond_true]
    have := hf (i + 1, G) (by show i + 1 ≤ 5; omega) (by show 5 - (i + 1) < 5 - i; omega)
    rw [show 4 - i = 5 - (i + 1) by omega]
    exact this
theorem s83 : SoundAt Go.Proofs.Try.prog Hx 83 c83 := soundAt_of T81_sound mixed func83 (by kernel_rfl) (by
  intro rows r h
  unfold c83 at h
  split at h
  · rename_i b at_
    obtain ⟨hp, hr⟩ := Prod.mk.inj (Option.some.inj h)
    subst hr
    simp only [Bool.and_eq_true] at hp
    obtain ⟨hs0, hp⟩ := hp
    obtain ⟨xs0, rfl⟩ := isS_ex hs0
    simp only [deS_enS] at hp ⊢
    exact ⟨_, m83 xs0 at_ hp⟩
  · cases h)
def T83 : Table := (83, c83) :: T81
theorem T83_sound : Table.Sound Go.Proofs.Try.prog Hx T83 := Table.sound_cons s83 T81_sound
def o52 (r : TReader) : Bool × List Row × List Row := (decide (r.b.length ≤ 1048576), [[.int .i64 (nVal r.b r.at_ r.bad)]], [[.sl false 1 (enS false (TReader.mk r.b (nAt r.b r.at_ r.bad) (nBad r.b r.at_ r.bad)).b), .int .i64 (TReader.mk r.b (nAt r.b r.at_ r.bad) (nBad r.b r.at_ r.bad)).at_, .bool (TReader.mk r.b (nAt r.b r.at_ r.bad) (nBad r.b r.at_ r.bad)).bad]])
def c52 : Contract
  | [[.sl false 1 r_b, .int .i64 r_at_, .bool r_bad]] => some (isS UInt8 false r_b && (o52 ⟨(deS UInt8 r_b), r_at_, r_bad⟩).1, (o52 ⟨(deS UInt8 r_b), r_at_, r_bad⟩).2.1, (o52 ⟨(deS UInt8 r_b), r_at_, r_bad⟩).2.2)
  | _ => none

theorem r52 (r : TReader) (n : Nat) : evFn ⟨prog, Hx, 52⟩ T83.call n f52 [[.sl false 1 (enS false r.b), .int .i64 r.at_, .bool r.bad]] = bif isS UInt8 false (enS false (TReader.b r)) && decide (length (deS UInt8 (enS false (TReader.b r))) ≤ 1048576) then bif TReader.bad r then some ([[D.int i64 (0)]], [[D.sl false 1 (enS false (TReader.b r)), D.int i64 (TReader.at_ r), D.bool true]]) else bif !Prod.snd (Prod.snd (getN (deS UInt8 (enS false (TReader.b r))) (TReader.at_ r))) then some ([[D.int i64 (0)]], [[D.sl false 1 (enS false (TReader.b r)), D.int i64 (TReader.at_ r), D.bool true]]) else some ([[D.int i64 (Prod.fst (getN (deS UInt8 (enS false (TReader.b r))) (TReader.at_ r)))]], [[D.sl false 1 (enS false (TReader.b r)), D.int i64 (Prod.fst (Prod.snd (getN (deS UInt8 (enS false (TReader.b r))) (TReader.at_ r)))), D.bool (TReader.bad r)]]) else none := by kernel_rfl
theorem m52 (r : TReader) (hpre : (o52 r).1 = true) : evFn ⟨Go.Proofs.Try.prog, Hx, 52⟩ T83.call 0 f52 [[.sl false 1 (enS false r.b), .int .i64 r.at_, .bool r.bad]] = some (o52 r).2 := by
  refine (r52 r _).trans ?_
  show _ = (some ([[.int .i64 (nVal r.b r.at_ r.bad)]], [[.sl false 1 (enS false (TReader.mk r.b (nAt r.b r.at_ r.bad) (nBad r.b r.at_ r.bad)).b), .int .i64 (TReader.mk r.b (nAt r.b r.at_ r.bad) (nBad r.b r.at_ r.bad)).at_, .bool (TReader.mk r.b (nAt r.b r.at_ r.bad) (nBad r.b r.at_ r.bad)).bad]]) : Option (List Row × List Row))
  replace hpre : (decide (r.b.length ≤ 1048576)) = true := hpre
  simp only [isS_enS, deS_enS, hpre, Bool.and_self, cond_true]
  unfold nVal nAt nBad
  cases r.bad <;> cases (getN r.b r.at_).2.2 <;> rfl
theorem s52 : SoundAt Go.Proofs.Try.prog Hx 52 c52 := soundAt_of T83_sound mixed func52 (by kernel_rfl) (by
  intro rows r h
  unfold c52 at h
  split at h
  · rename_i r_b r_at_ r_bad
    obtain ⟨hp, hr⟩ := Prod.mk.inj (Option.some.inj h)
    subst hr
    simp only [Bool.and_eq_true] at hp
    obtain ⟨hs0, hp⟩ := hp
    obtain ⟨xs0, rfl⟩ := isS_ex hs0
    simp only [deS_enS] at hp ⊢
    exact ⟨_, m52 ⟨xs0, r_at_, r_bad⟩ hp⟩
  · cases h)
def T52 : Table := (52, c52) :: T83
theorem T52_sound : Table.Sound Go.Proofs.Try.prog Hx T52 := Table.sound_cons s52 T83_sound
def o82 (r : TReader) : Bool × List Row × List Row := (decide (r.b.length ≤ 1048576) && (decide (0 ≤ r.at_) && decide (r.at_ ≤ 1048576)), [[.int .i64 (oVal r.b r.at_ r.bad)]], [[.sl false 1 (enS false (TReader.mk r.b (oAt r.b r.at_ r.bad) (oBad r.b r.at_ r.bad)).b), .int .i64 (TReader.mk r.b (oAt r.b r.at_ r.bad) (oBad r.b r.at_ r.bad)).at_, .bool (TReader.mk r.b (oAt r.b r.at_ r.bad) (oBad r.b r.at_ r.bad)).bad]])
def c82 : Contract
  | [[.sl false 1 r_b, .int .i64 r_at_, .bool r_bad]] => some (isS UInt8 false r_b && (o82 ⟨(deS UInt8 r_b), r_at_, r_bad⟩).1, (o82 ⟨(deS UInt8 r_b), r_at_, r_bad⟩).2.1, (o82 ⟨(deS UInt8 r_b), r_at_, r_bad⟩).2.2)
  | _ => none

theorem r82 (r : TReader) (n : Nat) : evFn ⟨prog, Hx, 82⟩ T52.call n f82 [[.sl false 1 (enS false r.b), .int .i64 r.at_, .bool r.bad]] = bif TReader.bad r then some ([[D.int i64 (0)]], [[D.sl false 1 (enS false (TReader.b r)), D.int i64 (TReader.at_ r), D.bool true]]) else bif decide (TReader.at_ r ≥ ofNat (length (enS false (TReader.b r)))) then some ([[D.int i64 (0)]], [[D.sl false 1 (enS false (TReader.b r)), D.int i64 (TReader.at_ r), D.bool true]]) else bif decide (0 ≤ wrap i64 (wrap i64 (TReader.at_ r + 1) - 1)) && decide (wrap i64 (wrap i64 (TReader.at_ r + 1) - 1) < ofNat (length (enS false (TReader.b r)))) then bif Leaf.fit false (Leaf.int IntKind.u8) (getD (getD (enS false (TReader.b r)) (toNat (wrap i64 (wrap i64 (TReader.at_ r + 1) - 1))) []) 0 D.dead) && true then some ([[D.int i64 (wrap i64 (D.num (getD (getD (enS false (TReader.b r)) (toNat (wrap i64 (wrap i64 (TReader.at_ r + 1) - 1))) []) 0 D.dead)))]], [[D.sl false 1 (enS false (TReader.b r)), D.int i64 (wrap i64 (TReader.at_ r + 1)), D.bool (TReader.bad r)]]) else none else none := by kernel_rfl
theorem m82 (r : TReader) (hpre : (o82 r).1 = true) : evFn ⟨Go.Proofs.Try.prog, Hx, 82⟩ T52.call 0 f82 [[.sl false 1 (enS false r.b), .int .i64 r.at_, .bool r.bad]] = some (o82 r).2 := by
  refine (r82 r _).trans ?_
  show _ = (some ([[.int .i64 (oVal r.b r.at_ r.bad)]], [[.sl false 1 (enS false (TReader.mk r.b (oAt r.b r.at_ r.bad) (oBad r.b r.at_ r.bad)).b), .int .i64 (TReader.mk r.b (oAt r.b r.at_ r.bad) (oBad r.b r.at_ r.bad)).at_, .bool (TReader.mk r.b (oAt r.b r.at_ r.bad) (oBad r.b r.at_ r.bad)).bad]]) : Option (List Row × List Row))
  replace hpre : (decide (r.b.length ≤ 1048576) && (decide (0 ≤ r.at_) && decide (r.at_ ≤ 1048576))) = true := hpre
  simp only [Bool.and_eq_true, decide_eq_true_eq] at hpre
  obtain ⟨hl, h0, h1⟩ := hpre
  have w1 : IntKind.wrap IntKind.i64 (r.at_ + 1) = r.at_ + 1 := wrap_of (by omega) (by omega)
  have w2 : IntKind.wrap IntKind.i64 (r.at_ + 1 - 1) = r.at_ := by rw [show r.at_ + 1 - 1 = r.at_ by omega]; exact wrap_of (by omega) (by omega)
  unfold oVal oAt oBad
  cases r.bad
  · by_cases h : r.at_ < (r.b.length : Int)
    · have c1 : decide (r.at_ ≥ Int.ofNat r.b.length) = false := decide_eq_false (by show ¬ (r.at_ ≥ (r.b.length : Int)); omega)
      have c2 : (decide (0 ≤ r.at_) && decide (r.at_ < Int.ofNat r.b.length)) = true := by rw [decide_eq_true h0, decide_eq_true (show r.at_ < Int.ofNat r.b.length from h)]; rfl
      have hk : r.at_.toNat < r.b.length := by omega
      have g1 : (enS false r.b).getD r.at_.toNat [] = [D.int .u8 ((r.b[r.at_.toNat].toNat : Nat) : Int)] := enS_get false hk
      have hg : r.b.getD r.at_.toNat 0 = r.b[r.at_.toNat] := by rw [List.getD_eq_getElem?_getD, List.getElem?_eq_getElem hk]; rfl
      have hb : r.b[r.at_.toNat].toNat < 256 := r.b[r.at_.toNat].toNat_lt
      have w4 : IntKind.wrap IntKind.i64 ((r.b[r.at_.toNat].toNat : Nat) : Int) = ((r.b[r.at_.toNat].toNat : Nat) : Int) := wrap_of (by omega) (by omega)
      simp only [cond_false, enS_length, c1, w1, w2, c2, cond_true, g1, List.getD_cons_zero, Leaf.fit, beq_self_eq_true, Bool.and_true, D.num, w4, decide_eq_true h, Bool.not_true, Bool.or_false, hg, decide_true]
    · have c1 : decide (r.at_ ≥ Int.ofNat r.b.length) = true := decide_eq_true (by show r.at_ ≥ (r.b.length : Int); omega)
      simp only [cond_false, enS_length, c1, cond_true, decide_eq_false h, Bool.not_false, Bool.or_true]
  · rfl
theorem s82 : SoundAt Go.Proofs.Try.prog Hx 82 c82 := soundAt_of T52_sound mixed func82 (by kernel_rfl) (by
  intro rows r h
  unfold c82 at h
  split at h
  · rename_i r_b r_at_ r_bad
    obtain ⟨hp, hr⟩ := Prod.mk.inj (Option.some.inj h)
    subst hr
    simp only [Bool.and_eq_true] at hp
    obtain ⟨hs0, hp⟩ := hp
    obtain ⟨xs0, rfl⟩ := isS_ex hs0
    simp only [deS_enS] at hp ⊢
    exact ⟨_, m82 ⟨xs0, r_at_, r_bad⟩ hp⟩
  · cases h)
def T82 : Table := (82, c82) :: T52
theorem T82_sound : Table.Sound Go.Proofs.Try.prog Hx T82 := Table.sound_cons s82 T52_sound
def o53 (r : TReader) : Bool × List Row × List Row := (decide (r.b.length ≤ 1048576) && (decide (0 ≤ r.at_) && decide (r.at_ ≤ 1048576)), [[.bool (rPort r).Up, .bool (rPort r).Has, .int .i64 (rPort r).Vec.Root, .int .i64 (rPort r).Vec.Cost, .int .i64 (rPort r).Vec.Bridge, .int .i64 (rPort r).Vec.Port, .int .i64 (rPort r).Hops, .int .i64 (rPort r).Left, .int .i64 (rPort r).Role, .int .i64 (rPort r).Wait, .bool (rPort r).Open]], [[.sl false 1 (enS false (r8 r).b), .int .i64 (r8 r).at_, .bool (r8 r).bad]])
def c53 : Contract
  | [[.sl false 1 r_b, .int .i64 r_at_, .bool r_bad]] => some (isS UInt8 false r_b && (o53 ⟨(deS UInt8 r_b), r_at_, r_bad⟩).1, (o53 ⟨(deS UInt8 r_b), r_at_, r_bad⟩).2.1, (o53 ⟨(deS UInt8 r_b), r_at_, r_bad⟩).2.2)
  | _ => none

def v53_0 (r : TReader) : List UInt8 := deS UInt8 (enS false (TReader.b r))
def v53_1 (r : TReader) : List (List D) := enS false (v53_0 r)
def v53_2 (r : TReader) : List UInt8 := deS UInt8 (v53_1 r)
def v53_3 (r : TReader) : List (List D) := enS false (v53_2 r)
def v53_4 (r : TReader) : List UInt8 := deS UInt8 (v53_3 r)
def v53_5 (r : TReader) : List (List D) := enS false (v53_4 r)
def v53_6 (r : TReader) : List UInt8 := deS UInt8 (v53_5 r)
def v53_7 (r : TReader) : List (List D) := enS false (v53_6 r)
def v53_8 (r : TReader) : List UInt8 := deS UInt8 (v53_7 r)
def v53_9 (r : TReader) : List (List D) := enS false (v53_8 r)
def v53_10 (r : TReader) : List UInt8 := deS UInt8 (v53_9 r)
def v53_11 (r : TReader) : List (List D) := enS false (v53_10 r)
def v53_12 (r : TReader) : List UInt8 := deS UInt8 (v53_11 r)
def v53_13 (r : TReader) : List (List D) := enS false (v53_12 r)
def v53_14 (r : TReader) : List UInt8 := deS UInt8 (v53_13 r)
def v53_15 (r : TReader) : List (List D) := enS false (v53_14 r)
def v53_16 (r : TReader) : List UInt8 := deS UInt8 (v53_15 r)
def v53_17 (r : TReader) : Int := oAt (v53_0 r) (TReader.at_ r) (TReader.bad r)
def v53_18 (r : TReader) : Bool := oBad (v53_0 r) (TReader.at_ r) (TReader.bad r)
def v53_19 (r : TReader) : Int := nAt (v53_2 r) (v53_17 r) (v53_18 r)
def v53_20 (r : TReader) : Bool := nBad (v53_2 r) (v53_17 r) (v53_18 r)
def v53_21 (r : TReader) : Int := nAt (v53_4 r) (v53_19 r) (v53_20 r)
def v53_22 (r : TReader) : Bool := nBad (v53_4 r) (v53_19 r) (v53_20 r)
def v53_23 (r : TReader) : Int := nAt (v53_6 r) (v53_21 r) (v53_22 r)
def v53_24 (r : TReader) : Bool := nBad (v53_6 r) (v53_21 r) (v53_22 r)
def v53_25 (r : TReader) : Int := nAt (v53_8 r) (v53_23 r) (v53_24 r)
def v53_26 (r : TReader) : Bool := nBad (v53_8 r) (v53_23 r) (v53_24 r)
def v53_27 (r : TReader) : Int := nAt (v53_10 r) (v53_25 r) (v53_26 r)
def v53_28 (r : TReader) : Bool := nBad (v53_10 r) (v53_25 r) (v53_26 r)
def v53_29 (r : TReader) : Int := nAt (v53_12 r) (v53_27 r) (v53_28 r)
def v53_30 (r : TReader) : Bool := nBad (v53_12 r) (v53_27 r) (v53_28 r)
def v53_31 (r : TReader) : Int := nAt (v53_14 r) (v53_29 r) (v53_30 r)
def v53_32 (r : TReader) : Bool := nBad (v53_14 r) (v53_29 r) (v53_30 r)
theorem r53 (r : TReader) (n : Nat) : evFn ⟨prog, Hx, 53⟩ T82.call n f53 [[.sl false 1 (enS false r.b), .int .i64 r.at_, .bool r.bad]] = bif isS UInt8 false (enS false (TReader.b r)) && (decide (length (v53_0 r) ≤ 1048576) && (decide (0 ≤ TReader.at_ r) && decide (TReader.at_ r ≤ 1048576))) then bif isS UInt8 false (v53_1 r) && decide (length (v53_2 r) ≤ 1048576) then bif isS UInt8 false (v53_3 r) && decide (length (v53_4 r) ≤ 1048576) then bif isS UInt8 false (v53_5 r) && decide (length (v53_6 r) ≤ 1048576) then bif isS UInt8 false (v53_7 r) && decide (length (v53_8 r) ≤ 1048576) then bif isS UInt8 false (v53_9 r) && decide (length (v53_10 r) ≤ 1048576) then bif isS UInt8 false (v53_11 r) && decide (length (v53_12 r) ≤ 1048576) then bif isS UInt8 false (v53_13 r) && decide (length (v53_14 r) ≤ 1048576) then bif isS UInt8 false (v53_15 r) && decide (length (v53_16 r) ≤ 1048576) then some ([[D.bool (wrap i64 (ofNat (BitVec.toNat (BitVec.and (BitVec.ofInt 64 (oVal (v53_0 r) (TReader.at_ r) (TReader.bad r))) (BitVec.ofInt 64 (1))))) != 0), D.bool (wrap i64 (ofNat (BitVec.toNat (BitVec.and (BitVec.ofInt 64 (oVal (v53_0 r) (TReader.at_ r) (TReader.bad r))) (BitVec.ofInt 64 (2))))) != 0), D.int i64 (nVal (v53_10 r) (v53_25 r) (v53_26 r)), D.int i64 (nVal (v53_12 r) (v53_27 r) (v53_28 r)), D.int i64 (nVal (v53_14 r) (v53_29 r) (v53_30 r)), D.int i64 (nVal (v53_16 r) (v53_31 r) (v53_32 r)), D.int i64 (nVal (v53_6 r) (v53_21 r) (v53_22 r)), D.int i64 (nVal (v53_8 r) (v53_23 r) (v53_24 r)), D.int i64 (nVal (v53_2 r) (v53_17 r) (v53_18 r)), D.int i64 (nVal (v53_4 r) (v53_19 r) (v53_20 r)), D.bool (wrap i64 (ofNat (BitVec.toNat (BitVec.and (BitVec.ofInt 64 (oVal (v53_0 r) (TReader.at_ r) (TReader.bad r))) (BitVec.ofInt 64 (4))))) != 0)]], [[D.sl false 1 (enS false (v53_16 r)), D.int i64 (nAt (v53_16 r) (v53_31 r) (v53_32 r)), D.bool (nBad (v53_16 r) (v53_31 r) (v53_32 r))]]) else none else none else none else none else none else none else none else none else none := by kernel_rfl
theorem m53 (r : TReader) (hpre : (o53 r).1 = true) : evFn ⟨Go.Proofs.Try.prog, Hx, 53⟩ T82.call 0 f53 [[.sl false 1 (enS false r.b), .int .i64 r.at_, .bool r.bad]] = some (o53 r).2 := by
  refine (r53 r _).trans ?_
  show _ = (some ([[.bool (rPort r).Up, .bool (rPort r).Has, .int .i64 (rPort r).Vec.Root, .int .i64 (rPort r).Vec.Cost, .int .i64 (rPort r).Vec.Bridge, .int .i64 (rPort r).Vec.Port, .int .i64 (rPort r).Hops, .int .i64 (rPort r).Left, .int .i64 (rPort r).Role, .int .i64 (rPort r).Wait, .bool (rPort r).Open]], [[.sl false 1 (enS false (r8 r).b), .int .i64 (r8 r).at_, .bool (r8 r).bad]]) : Option (List Row × List Row))
  replace hpre : (decide (r.b.length ≤ 1048576) && (decide (0 ≤ r.at_) && decide (r.at_ ≤ 1048576))) = true := hpre
  simp only [Bool.and_eq_true] at hpre
  have hl : decide (r.b.length ≤ 1048576) = true := hpre.1
  have v0 : v53_0 r = r.b := deS_enS false r.b
  have v2 : v53_2 r = r.b := by show deS UInt8 (enS false (v53_0 r)) = _; rw [deS_enS, v0]
  have v4 : v53_4 r = r.b := by show deS UInt8 (enS false (v53_2 r)) = _; rw [deS_enS, v2]
  have v6 : v53_6 r = r.b := by show deS UInt8 (enS false (v53_4 r)) = _; rw [deS_enS, v4]
  have v8 : v53_8 r = r.b := by show deS UInt8 (enS false (v53_6 r)) = _; rw [deS_enS, v6]
  have v10 : v53_10 r = r.b := by show deS UInt8 (enS false (v53_8 r)) = _; rw [deS_enS, v8]
  have v12 : v53_12 r = r.b := by show deS UInt8 (enS false (v53_10 r)) = _; rw [deS_enS, v10]
  have v14 : v53_14 r = r.b := by show deS UInt8 (enS false (v53_12 r)) = _; rw [deS_enS, v12]
  have v16 : v53_16 r = r.b := by show deS UInt8 (enS false (v53_14 r)) = _; rw [deS_enS, v14]
  have a0 : v53_17 r = (r0 r).at_ := by show oAt (v53_0 r) r.at_ r.bad = _; rw [v0]; rfl
  have b0 : v53_18 r = (r0 r).bad := by show oBad (v53_0 r) r.at_ r.bad = _; rw [v0]; rfl
  have a1 : v53_19 r = (r1 r).at_ := by show nAt (v53_2 r) (v53_17 r) (v53_18 r) = _; rw [v2, a0, b0]; rfl
  have b1 : v53_20 r = (r1 r).bad := by show nBad (v53_2 r) (v53_17 r) (v53_18 r) = _; rw [v2, a0, b0]; rfl
  have a2 : v53_21 r = (r2 r).at_ := by show nAt (v53_4 r) (v53_19 r) (v53_20 r) = _; rw [v4, a1, b1]; rfl
  have b2 : v53_22 r = (r2 r).bad := by show nBad (v53_4 r) (v53_19 r) (v53_20 r) = _; rw [v4, a1, b1]; rfl
  have a3 : v53_23 r = (r3 r).at_ := by show nAt (v53_6 r) (v53_21 r) (v53_22 r) = _; rw [v6, a2, b2]; rfl
  have b3 : v53_24 r = (r3 r).bad := by show nBad (v53_6 r) (v53_21 r) (v53_22 r) = _; rw [v6, a2, b2]; rfl
  have a4 : v53_25 r = (r4 r).at_ := by show nAt (v53_8 r) (v53_23 r) (v53_24 r) = _; rw [v8, a3, b3]; rfl
  have b4 : v53_26 r = (r4 r).bad := by show nBad (v53_8 r) (v53_23 r) (v53_24 r) = _; rw [v8, a3, b3]; rfl
  have a5 : v53_27 r = (r5 r).at_ := by show nAt (v53_10 r) (v53_25 r) (v53_26 r) = _; rw [v10, a4, b4]; rfl
  have b5 : v53_28 r = (r5 r).bad := by show nBad (v53_10 r) (v53_25 r) (v53_26 r) = _; rw [v10, a4, b4]; rfl
  have a6 : v53_29 r = (r6 r).at_ := by show nAt (v53_12 r) (v53_27 r) (v53_28 r) = _; rw [v12, a5, b5]; rfl
  have b6 : v53_30 r = (r6 r).bad := by show nBad (v53_12 r) (v53_27 r) (v53_28 r) = _; rw [v12, a5, b5]; rfl
  have a7 : v53_31 r = (r7 r).at_ := by show nAt (v53_14 r) (v53_29 r) (v53_30 r) = _; rw [v14, a6, b6]; rfl
  have b7 : v53_32 r = (r7 r).bad := by show nBad (v53_14 r) (v53_29 r) (v53_30 r) = _; rw [v14, a6, b6]; rfl
  refine bif_t (by rw [isS_enS, v0, hl, hpre.2.1, hpre.2.2]; rfl) ?_
  refine bif_t (by show (isS UInt8 false (enS false (v53_0 r)) && decide (List.length (v53_2 r) ≤ 1048576)) = true; rw [isS_enS, v2, hl]; rfl) ?_
  refine bif_t (by show (isS UInt8 false (enS false (v53_2 r)) && decide (List.length (v53_4 r) ≤ 1048576)) = true; rw [isS_enS, v4, hl]; rfl) ?_
  refine bif_t (by show (isS UInt8 false (enS false (v53_4 r)) && decide (List.length (v53_6 r) ≤ 1048576)) = true; rw [isS_enS, v6, hl]; rfl) ?_
  refine bif_t (by show (isS UInt8 false (enS false (v53_6 r)) && decide (List.length (v53_8 r) ≤ 1048576)) = true; rw [isS_enS, v8, hl]; rfl) ?_
  refine bif_t (by show (isS UInt8 false (enS false (v53_8 r)) && decide (List.length (v53_10 r) ≤ 1048576)) = true; rw [isS_enS, v10, hl]; rfl) ?_
  refine bif_t (by show (isS UInt8 false (enS false (v53_10 r)) && decide (List.length (v53_12 r) ≤ 1048576)) = true; rw [isS_enS, v12, hl]; rfl) ?_
  refine bif_t (by show (isS UInt8 false (enS false (v53_12 r)) && decide (List.length (v53_14 r) ≤ 1048576)) = true; rw [isS_enS, v14, hl]; rfl) ?_
  refine bif_t (by show (isS UInt8 false (enS false (v53_14 r)) && decide (List.length (v53_16 r) ≤ 1048576)) = true; rw [isS_enS, v16, hl]; rfl) ?_
  simp only [v0, v2, v4, v6, v8, v10, v12, v14, v16, a0, b0, a1, b1, a2, b2, a3, b3, a4, b4, a5, b5, a6, b6, a7, b7]
  rfl
theorem s53 : SoundAt Go.Proofs.Try.prog Hx 53 c53 := soundAt_of T82_sound mixed func53 (by kernel_rfl) (by
  intro rows r h
  unfold c53 at h
  split at h
  · rename_i r_b r_at_ r_bad
    obtain ⟨hp, hr⟩ := Prod.mk.inj (Option.some.inj h)
    subst hr
    simp only [Bool.and_eq_true] at hp
    obtain ⟨hs0, hp⟩ := hp
    obtain ⟨xs0, rfl⟩ := isS_ex hs0
    simp only [deS_enS] at hp ⊢
    exact ⟨_, m53 ⟨xs0, r_at_, r_bad⟩ hp⟩
  · cases h)
def T53 : Table := (53, c53) :: T82
theorem T53_sound : Table.Sound Go.Proofs.Try.prog Hx T53 := Table.sound_cons s53 T82_sound
def o55 (c : TL9Cur) : Bool × List Row × List Row := (decide (c.b.length ≤ 1048576), [[.int .i64 (mVal c.b c.at_ c.ok)]], [[.sl false 1 (enS false (TL9Cur.mk c.b (mAt c.b c.at_ c.ok) (mOk c.b c.at_ c.ok)).b), .int .i64 (TL9Cur.mk c.b (mAt c.b c.at_ c.ok) (mOk c.b c.at_ c.ok)).at_, .bool (TL9Cur.mk c.b (mAt c.b c.at_ c.ok) (mOk c.b c.at_ c.ok)).ok]])
def c55 : Contract
  | [[.sl false 1 c_b, .int .i64 c_at_, .bool c_ok]] => some (isS UInt8 false c_b && (o55 ⟨(deS UInt8 c_b), c_at_, c_ok⟩).1, (o55 ⟨(deS UInt8 c_b), c_at_, c_ok⟩).2.1, (o55 ⟨(deS UInt8 c_b), c_at_, c_ok⟩).2.2)
  | _ => none

theorem r55 (c : TL9Cur) (n : Nat) : evFn ⟨prog, Hx, 55⟩ T53.call n f55 [[.sl false 1 (enS false c.b), .int .i64 c.at_, .bool c.ok]] = bif isS UInt8 false (enS false (TL9Cur.b c)) && decide (length (deS UInt8 (enS false (TL9Cur.b c))) ≤ 1048576) then bif !Prod.snd (Prod.snd (getN (deS UInt8 (enS false (TL9Cur.b c))) (TL9Cur.at_ c))) then some ([[D.int i64 (0)]], [[D.sl false 1 (enS false (TL9Cur.b c)), D.int i64 (TL9Cur.at_ c), D.bool false]]) else bif !TL9Cur.ok c then some ([[D.int i64 (0)]], [[D.sl false 1 (enS false (TL9Cur.b c)), D.int i64 (TL9Cur.at_ c), D.bool false]]) else some ([[D.int i64 (Prod.fst (getN (deS UInt8 (enS false (TL9Cur.b c))) (TL9Cur.at_ c)))]], [[D.sl false 1 (enS false (TL9Cur.b c)), D.int i64 (Prod.fst (Prod.snd (getN (deS UInt8 (enS false (TL9Cur.b c))) (TL9Cur.at_ c)))), D.bool (TL9Cur.ok c)]]) else none := by kernel_rfl
theorem m55 (c : TL9Cur) (hpre : (o55 c).1 = true) : evFn ⟨Go.Proofs.Try.prog, Hx, 55⟩ T53.call 0 f55 [[.sl false 1 (enS false c.b), .int .i64 c.at_, .bool c.ok]] = some (o55 c).2 := by
  refine (r55 c _).trans ?_
  show _ = (some ([[.int .i64 (mVal c.b c.at_ c.ok)]], [[.sl false 1 (enS false (TL9Cur.mk c.b (mAt c.b c.at_ c.ok) (mOk c.b c.at_ c.ok)).b), .int .i64 (TL9Cur.mk c.b (mAt c.b c.at_ c.ok) (mOk c.b c.at_ c.ok)).at_, .bool (TL9Cur.mk c.b (mAt c.b c.at_ c.ok) (mOk c.b c.at_ c.ok)).ok]]) : Option (List Row × List Row))
  replace hpre : (decide (c.b.length ≤ 1048576)) = true := hpre
  simp only [isS_enS, deS_enS, hpre, Bool.and_self, cond_true]
  unfold mVal mAt mOk nVal nAt nBad
  cases c.ok <;> cases (getN c.b c.at_).2.2 <;> rfl
theorem s55 : SoundAt Go.Proofs.Try.prog Hx 55 c55 := soundAt_of T53_sound mixed func55 (by kernel_rfl) (by
  intro rows r h
  unfold c55 at h
  split at h
  · rename_i c_b c_at_ c_ok
    obtain ⟨hp, hr⟩ := Prod.mk.inj (Option.some.inj h)
    subst hr
    simp only [Bool.and_eq_true] at hp
    obtain ⟨hs0, hp⟩ := hp
    obtain ⟨xs0, rfl⟩ := isS_ex hs0
    simp only [deS_enS] at hp ⊢
    exact ⟨_, m55 ⟨xs0, c_at_, c_ok⟩ hp⟩
  · cases h)
def T55 : Table := (55, c55) :: T53
theorem T55_sound : Table.Sound Go.Proofs.Try.prog Hx T55 := Table.sound_cons s55 T53_sound
def o57 (c : TL9Cur) : Bool × List Row × List Row := (c.ok && (decide (c.b.length ≤ 1048576) && (decide (0 ≤ c.at_) && decide (c.at_ ≤ 1048576))), [[.bool (rPort ⟨c.b, c.at_, !c.ok⟩).Up, .bool (rPort ⟨c.b, c.at_, !c.ok⟩).Has, .int .i64 (rPort ⟨c.b, c.at_, !c.ok⟩).Vec.Root, .int .i64 (rPort ⟨c.b, c.at_, !c.ok⟩).Vec.Cost, .int .i64 (rPort ⟨c.b, c.at_, !c.ok⟩).Vec.Bridge, .int .i64 (rPort ⟨c.b, c.at_, !c.ok⟩).Vec.Port, .int .i64 (rPort ⟨c.b, c.at_, !c.ok⟩).Hops, .int .i64 (rPort ⟨c.b, c.at_, !c.ok⟩).Left, .int .i64 (rPort ⟨c.b, c.at_, !c.ok⟩).Role, .int .i64 (rPort ⟨c.b, c.at_, !c.ok⟩).Wait, .bool (rPort ⟨c.b, c.at_, !c.ok⟩).Open]], [[.sl false 1 (enS false (TL9Cur.mk c.b (r8 ⟨c.b, c.at_, !c.ok⟩).at_ (!(r8 ⟨c.b, c.at_, !c.ok⟩).bad)).b), .int .i64 (TL9Cur.mk c.b (r8 ⟨c.b, c.at_, !c.ok⟩).at_ (!(r8 ⟨c.b, c.at_, !c.ok⟩).bad)).at_, .bool (TL9Cur.mk c.b (r8 ⟨c.b, c.at_, !c.ok⟩).at_ (!(r8 ⟨c.b, c.at_, !c.ok⟩).bad)).ok]])
def c57 : Contract
  | [[.sl false 1 c_b, .int .i64 c_at_, .bool c_ok]] => some (isS UInt8 false c_b && (o57 ⟨(deS UInt8 c_b), c_at_, c_ok⟩).1, (o57 ⟨(deS UInt8 c_b), c_at_, c_ok⟩).2.1, (o57 ⟨(deS UInt8 c_b), c_at_, c_ok⟩).2.2)
  | _ => none

def v57_0 (c : TL9Cur) : Int := ofNat (length (enS false (TL9Cur.b c)))
def v57_1 (c : TL9Cur) : List UInt8 := deS UInt8 (enS false (TL9Cur.b c))
def v57_2 (c : TL9Cur) : List (List D) := enS false (v57_1 c)
def v57_3 (c : TL9Cur) : List UInt8 := deS UInt8 (v57_2 c)
def v57_4 (c : TL9Cur) : List (List D) := enS false (v57_3 c)
def v57_5 (c : TL9Cur) : List UInt8 := deS UInt8 (v57_4 c)
def v57_6 (c : TL9Cur) : List (List D) := enS false (v57_5 c)
def v57_7 (c : TL9Cur) : List UInt8 := deS UInt8 (v57_6 c)
def v57_8 (c : TL9Cur) : List (List D) := enS false (v57_7 c)
def v57_9 (c : TL9Cur) : List UInt8 := deS UInt8 (v57_8 c)
def v57_10 (c : TL9Cur) : List (List D) := enS false (v57_9 c)
def v57_11 (c : TL9Cur) : List UInt8 := deS UInt8 (v57_10 c)
def v57_12 (c : TL9Cur) : List (List D) := enS false (v57_11 c)
def v57_13 (c : TL9Cur) : List UInt8 := deS UInt8 (v57_12 c)
def v57_14 (c : TL9Cur) : List (List D) := enS false (v57_13 c)
def v57_15 (c : TL9Cur) : List UInt8 := deS UInt8 (v57_14 c)
def v57_16 (c : TL9Cur) : Int := wrap i64 (TL9Cur.at_ c + 1)
def v57_17 (c : TL9Cur) : Int := mAt (v57_1 c) (v57_16 c) (TL9Cur.ok c)
def v57_18 (c : TL9Cur) : Bool := mOk (v57_1 c) (v57_16 c) (TL9Cur.ok c)
def v57_19 (c : TL9Cur) : Int := mAt (v57_3 c) (v57_17 c) (v57_18 c)
def v57_20 (c : TL9Cur) : Bool := mOk (v57_3 c) (v57_17 c) (v57_18 c)
def v57_21 (c : TL9Cur) : Int := mAt (v57_5 c) (v57_19 c) (v57_20 c)
def v57_22 (c : TL9Cur) : Bool := mOk (v57_5 c) (v57_19 c) (v57_20 c)
def v57_23 (c : TL9Cur) : Int := mAt (v57_7 c) (v57_21 c) (v57_22 c)
def v57_24 (c : TL9Cur) : Bool := mOk (v57_7 c) (v57_21 c) (v57_22 c)
def v57_25 (c : TL9Cur) : Int := mAt (v57_9 c) (v57_23 c) (v57_24 c)
def v57_26 (c : TL9Cur) : Bool := mOk (v57_9 c) (v57_23 c) (v57_24 c)
def v57_27 (c : TL9Cur) : Int := mAt (v57_11 c) (v57_25 c) (v57_26 c)
def v57_28 (c : TL9Cur) : Bool := mOk (v57_11 c) (v57_25 c) (v57_26 c)
def v57_29 (c : TL9Cur) : Int := mAt (v57_13 c) (v57_27 c) (v57_28 c)
def v57_30 (c : TL9Cur) : Bool := mOk (v57_13 c) (v57_27 c) (v57_28 c)
theorem r57 (c : TL9Cur) (n : Nat) : evFn ⟨prog, Hx, 57⟩ T55.call n f57 [[.sl false 1 (enS false c.b), .int .i64 c.at_, .bool c.ok]] = bif decide (TL9Cur.at_ c ≥ v57_0 c) then some ([[D.bool false, D.bool false, D.int i64 (0), D.int i64 (0), D.int i64 (0), D.int i64 (0), D.int i64 (0), D.int i64 (0), D.int i64 (0), D.int i64 (0), D.bool false]], [[D.sl false 1 (enS false (TL9Cur.b c)), D.int i64 (TL9Cur.at_ c), D.bool false]]) else bif decide (0 ≤ TL9Cur.at_ c) && decide (TL9Cur.at_ c < v57_0 c) then bif Leaf.fit false (Leaf.int IntKind.u8) (getD (getD (enS false (TL9Cur.b c)) (toNat (TL9Cur.at_ c)) []) 0 D.dead) && true then bif isS UInt8 false (enS false (TL9Cur.b c)) && decide (length (v57_1 c) ≤ 1048576) then bif isS UInt8 false (v57_2 c) && decide (length (v57_3 c) ≤ 1048576) then bif isS UInt8 false (v57_4 c) && decide (length (v57_5 c) ≤ 1048576) then bif isS UInt8 false (v57_6 c) && decide (length (v57_7 c) ≤ 1048576) then bif isS UInt8 false (v57_8 c) && decide (length (v57_9 c) ≤ 1048576) then bif isS UInt8 false (v57_10 c) && decide (length (v57_11 c) ≤ 1048576) then bif isS UInt8 false (v57_12 c) && decide (length (v57_13 c) ≤ 1048576) then bif isS UInt8 false (v57_14 c) && decide (length (v57_15 c) ≤ 1048576) then some ([[D.bool (wrap i64 (ofNat (BitVec.toNat (BitVec.and (BitVec.ofInt 64 (wrap i64 (D.num (getD (getD (enS false (TL9Cur.b c)) (toNat (TL9Cur.at_ c)) []) 0 D.dead)))) (BitVec.ofInt 64 (1))))) != 0), D.bool (wrap i64 (ofNat (BitVec.toNat (BitVec.and (BitVec.ofInt 64 (wrap i64 (D.num (getD (getD (enS false (TL9Cur.b c)) (toNat (TL9Cur.at_ c)) []) 0 D.dead)))) (BitVec.ofInt 64 (2))))) != 0), D.int i64 (mVal (v57_9 c) (v57_23 c) (v57_24 c)), D.int i64 (mVal (v57_11 c) (v57_25 c) (v57_26 c)), D.int i64 (mVal (v57_13 c) (v57_27 c) (v57_28 c)), D.int i64 (mVal (v57_15 c) (v57_29 c) (v57_30 c)), D.int i64 (mVal (v57_5 c) (v57_19 c) (v57_20 c)), D.int i64 (mVal (v57_7 c) (v57_21 c) (v57_22 c)), D.int i64 (mVal (v57_1 c) (v57_16 c) (TL9Cur.ok c)), D.int i64 (mVal (v57_3 c) (v57_17 c) (v57_18 c)), D.bool (wrap i64 (ofNat (BitVec.toNat (BitVec.and (BitVec.ofInt 64 (wrap i64 (D.num (getD (getD (enS false (TL9Cur.b c)) (toNat (TL9Cur.at_ c)) []) 0 D.dead)))) (BitVec.ofInt 64 (4))))) != 0)]], [[D.sl false 1 (enS false (v57_15 c)), D.int i64 (mAt (v57_15 c) (v57_29 c) (v57_30 c)), D.bool (mOk (v57_15 c) (v57_29 c) (v57_30 c))]]) else none else none else none else none else none else none else none else none else none else none := by kernel_rfl
theorem m57 (c : TL9Cur) (hpre : (o57 c).1 = true) : evFn ⟨Go.Proofs.Try.prog, Hx, 57⟩ T55.call 0 f57 [[.sl false 1 (enS false c.b), .int .i64 c.at_, .bool c.ok]] = some (o57 c).2 := by
  refine (r57 c _).trans ?_
  show _ = (some ([[.bool (rPort ⟨c.b, c.at_, !c.ok⟩).Up, .bool (rPort ⟨c.b, c.at_, !c.ok⟩).Has, .int .i64 (rPort ⟨c.b, c.at_, !c.ok⟩).Vec.Root, .int .i64 (rPort ⟨c.b, c.at_, !c.ok⟩).Vec.Cost, .int .i64 (rPort ⟨c.b, c.at_, !c.ok⟩).Vec.Bridge, .int .i64 (rPort ⟨c.b, c.at_, !c.ok⟩).Vec.Port, .int .i64 (rPort ⟨c.b, c.at_, !c.ok⟩).Hops, .int .i64 (rPort ⟨c.b, c.at_, !c.ok⟩).Left, .int .i64 (rPort ⟨c.b, c.at_, !c.ok⟩).Role, .int .i64 (rPort ⟨c.b, c.at_, !c.ok⟩).Wait, .bool (rPort ⟨c.b, c.at_, !c.ok⟩).Open]], [[.sl false 1 (enS false (TL9Cur.mk c.b (r8 ⟨c.b, c.at_, !c.ok⟩).at_ (!(r8 ⟨c.b, c.at_, !c.ok⟩).bad)).b), .int .i64 (TL9Cur.mk c.b (r8 ⟨c.b, c.at_, !c.ok⟩).at_ (!(r8 ⟨c.b, c.at_, !c.ok⟩).bad)).at_, .bool (TL9Cur.mk c.b (r8 ⟨c.b, c.at_, !c.ok⟩).at_ (!(r8 ⟨c.b, c.at_, !c.ok⟩).bad)).ok]]) : Option (List Row × List Row))
  replace hpre : (c.ok && (decide (c.b.length ≤ 1048576) && (decide (0 ≤ c.at_) && decide (c.at_ ≤ 1048576)))) = true := hpre
  simp only [Bool.and_eq_true, decide_eq_true_eq] at hpre
  obtain ⟨hok, hlen, h0', h1'⟩ := hpre
  have hl : decide (c.b.length ≤ 1048576) = true := decide_eq_true hlen
  generalize hr : (⟨c.b, c.at_, !c.ok⟩ : TReader) = r
  have hrb : r.b = c.b := by rw [← hr]
  have hra : r.at_ = c.at_ := by rw [← hr]
  have hrd : r.bad = false := by rw [← hr, hok]; rfl
  by_cases h : c.at_ < (c.b.length : Int)
  case neg =>
    have ho : oBad r.b r.at_ r.bad = true := by unfold oBad; rw [hrb, hra, hrd, decide_eq_false h]; rfl
    have e0 : r0 r = ⟨c.b, c.at_, true⟩ := by unfold r0 rO oAt; rw [ho, hrb, hra]; rfl
    have e1 : r1 r = ⟨c.b, c.at_, true⟩ := by unfold r1; rw [e0]; rfl
    have e2 : r2 r = ⟨c.b, c.at_, true⟩ := by unfold r2; rw [e1]; rfl
    have e3 : r3 r = ⟨c.b, c.at_, true⟩ := by unfold r3; rw [e2]; rfl
    have e4 : r4 r = ⟨c.b, c.at_, true⟩ := by unfold r4; rw [e3]; rfl
    have e5 : r5 r = ⟨c.b, c.at_, true⟩ := by unfold r5; rw [e4]; rfl
    have e6 : r6 r = ⟨c.b, c.at_, true⟩ := by unfold r6; rw [e5]; rfl
    have e7 : r7 r = ⟨c.b, c.at_, true⟩ := by unfold r7; rw [e6]; rfl
    have e8 : r8 r = ⟨c.b, c.at_, true⟩ := by unfold r8; rw [e7]; rfl
    have ev : oVal r.b r.at_ r.bad = 0 := by unfold oVal; rw [ho]; rfl
    refine bif_t (decide_eq_true (by show c.at_ ≥ Int.ofNat (enS false c.b).length; rw [enS_length]; show c.at_ ≥ (c.b.length : Int); omega)) ?_
    unfold rPort
    rw [ev, e0, e1, e2, e3, e4, e5, e6, e7, e8]
    rfl
  have hk : c.at_.toNat < c.b.length := by omega
  have g1 : (enS false c.b).getD c.at_.toNat [] = [D.int .u8 ((c.b[c.at_.toNat].toNat : Nat) : Int)] := enS_get false hk
  have hg : c.b.getD c.at_.toNat 0 = c.b[c.at_.toNat] := by rw [List.getD_eq_getElem?_getD, List.getElem?_eq_getElem hk]; rfl
  have hb8 : c.b[c.at_.toNat].toNat < 256 := c.b[c.at_.toNat].toNat_lt
  have w4 : IntKind.wrap IntKind.i64 ((c.b[c.at_.toNat].toNat : Nat) : Int) = ((c.b[c.at_.toNat].toNat : Nat) : Int) := wrap_of (by omega) (by omega)
  have ho : oBad r.b r.at_ r.bad = false := by unfold oBad; rw [hrb, hra, hrd, decide_eq_true h]; rfl
  have ev : IntKind.wrap IntKind.i64 (D.num (((enS false c.b).getD c.at_.toNat []).getD 0 .dead)) = oVal r.b r.at_ r.bad := by unfold oVal; rw [ho, cond_false, hrb, hra, hg, g1]; exact w4
  have ev2 : IntKind.wrap IntKind.i64 (D.num (((enS false r.b).getD c.at_.toNat []).getD 0 .dead)) = oVal r.b r.at_ r.bad := by have h9 := ev; rw [← hrb] at h9; exact h9
  have v1 : v57_1 c = c.b := deS_enS false c.b
  have v3 : v57_3 c = c.b := by show deS UInt8 (enS false (v57_1 c)) = _; rw [deS_enS, v1]
  have v5 : v57_5 c = c.b := by show deS UInt8 (enS false (v57_3 c)) = _; rw [deS_enS, v3]
  have v7 : v57_7 c = c.b := by show deS UInt8 (enS false (v57_5 c)) = _; rw [deS_enS, v5]
  have v9 : v57_9 c = c.b := by show deS UInt8 (enS false (v57_7 c)) = _; rw [deS_enS, v7]
  have v11 : v57_11 c = c.b := by show deS UInt8 (enS false (v57_9 c)) = _; rw [deS_enS, v9]
  have v13 : v57_13 c = c.b := by show deS UInt8 (enS false (v57_11 c)) = _; rw [deS_enS, v11]
  have v15 : v57_15 c = c.b := by show deS UInt8 (enS false (v57_13 c)) = _; rw [deS_enS, v13]
  have n0 : (r0 r).b = c.b := hrb
  have a0 : v57_16 c = (r0 r).at_ := by show IntKind.wrap IntKind.i64 (c.at_ + 1) = oAt r.b r.at_ r.bad; unfold oAt; rw [ho, hra]; exact wrap_of (by omega) (by omega)
  have b0 : c.ok = !(r0 r).bad := by rw [hok]; show true = !(oBad r.b r.at_ r.bad); rw [ho]; rfl
  have a1 : v57_17 c = (r1 r).at_ := by show nAt (v57_1 c) (v57_16 c) (!(c.ok)) = _; rw [v1, a0, b0, Bool.not_not, ← hrb]; rfl
  have b1 : v57_18 c = !(r1 r).bad := by show (!nBad (v57_1 c) (v57_16 c) (!(c.ok))) = _; rw [v1, a0, b0, Bool.not_not, ← hrb]; rfl
  have a2 : v57_19 c = (r2 r).at_ := by show nAt (v57_3 c) (v57_17 c) (!(v57_18 c)) = _; rw [v3, a1, b1, Bool.not_not, ← hrb]; rfl
  have b2 : v57_20 c = !(r2 r).bad := by show (!nBad (v57_3 c) (v57_17 c) (!(v57_18 c))) = _; rw [v3, a1, b1, Bool.not_not, ← hrb]; rfl
  have a3 : v57_21 c = (r3 r).at_ := by show nAt (v57_5 c) (v57_19 c) (!(v57_20 c)) = _; rw [v5, a2, b2, Bool.not_not, ← hrb]; rfl
  have b3 : v57_22 c = !(r3 r).bad := by show (!nBad (v57_5 c) (v57_19 c) (!(v57_20 c))) = _; rw [v5, a2, b2, Bool.not_not, ← hrb]; rfl
  have a4 : v57_23 c = (r4 r).at_ := by show nAt (v57_7 c) (v57_21 c) (!(v57_22 c)) = _; rw [v7, a3, b3, Bool.not_not, ← hrb]; rfl
  have b4 : v57_24 c = !(r4 r).bad := by show (!nBad (v57_7 c) (v57_21 c) (!(v57_22 c))) = _; rw [v7, a3, b3, Bool.not_not, ← hrb]; rfl
  have a5 : v57_25 c = (r5 r).at_ := by show nAt (v57_9 c) (v57_23 c) (!(v57_24 c)) = _; rw [v9, a4, b4, Bool.not_not, ← hrb]; rfl
  have b5 : v57_26 c = !(r5 r).bad := by show (!nBad (v57_9 c) (v57_23 c) (!(v57_24 c))) = _; rw [v9, a4, b4, Bool.not_not, ← hrb]; rfl
  have a6 : v57_27 c = (r6 r).at_ := by show nAt (v57_11 c) (v57_25 c) (!(v57_26 c)) = _; rw [v11, a5, b5, Bool.not_not, ← hrb]; rfl
  have b6 : v57_28 c = !(r6 r).bad := by show (!nBad (v57_11 c) (v57_25 c) (!(v57_26 c))) = _; rw [v11, a5, b5, Bool.not_not, ← hrb]; rfl
  have a7 : v57_29 c = (r7 r).at_ := by show nAt (v57_13 c) (v57_27 c) (!(v57_28 c)) = _; rw [v13, a6, b6, Bool.not_not, ← hrb]; rfl
  have b7 : v57_30 c = !(r7 r).bad := by show (!nBad (v57_13 c) (v57_27 c) (!(v57_28 c))) = _; rw [v13, a6, b6, Bool.not_not, ← hrb]; rfl
  refine bif_f (decide_eq_false (by show ¬ (c.at_ ≥ Int.ofNat (enS false c.b).length); rw [enS_length]; show ¬ (c.at_ ≥ (c.b.length : Int)); omega)) ?_
  refine bif_t (by show (decide (0 ≤ c.at_) && decide (c.at_ < Int.ofNat (enS false c.b).length)) = true; rw [enS_length, decide_eq_true h0', decide_eq_true (show c.at_ < Int.ofNat c.b.length from h)]; rfl) ?_
  refine bif_t (by rw [g1]; rfl) ?_
  refine bif_t (by rw [isS_enS, v1, hl]; rfl) ?_
  refine bif_t (by show (isS UInt8 false (enS false (v57_1 c)) && decide (List.length (v57_3 c) ≤ 1048576)) = true; rw [isS_enS, v3, hl]; rfl) ?_
  refine bif_t (by show (isS UInt8 false (enS false (v57_3 c)) && decide (List.length (v57_5 c) ≤ 1048576)) = true; rw [isS_enS, v5, hl]; rfl) ?_
  refine bif_t (by show (isS UInt8 false (enS false (v57_5 c)) && decide (List.length (v57_7 c) ≤ 1048576)) = true; rw [isS_enS, v7, hl]; rfl) ?_
  refine bif_t (by show (isS UInt8 false (enS false (v57_7 c)) && decide (List.length (v57_9 c) ≤ 1048576)) = true; rw [isS_enS, v9, hl]; rfl) ?_
  refine bif_t (by show (isS UInt8 false (enS false (v57_9 c)) && decide (List.length (v57_11 c) ≤ 1048576)) = true; rw [isS_enS, v11, hl]; rfl) ?_
  refine bif_t (by show (isS UInt8 false (enS false (v57_11 c)) && decide (List.length (v57_13 c) ≤ 1048576)) = true; rw [isS_enS, v13, hl]; rfl) ?_
  refine bif_t (by show (isS UInt8 false (enS false (v57_13 c)) && decide (List.length (v57_15 c) ≤ 1048576)) = true; rw [isS_enS, v15, hl]; rfl) ?_
  simp only [ev, ev2, v1, v3, v5, v7, v9, v11, v13, v15, a0, a1, b1, a2, b2, a3, b3, a4, b4, a5, b5, a6, b6, a7, b7, b0, mVal, mAt, mOk, Bool.not_not, ← hrb]
  rfl
theorem s57 : SoundAt Go.Proofs.Try.prog Hx 57 c57 := soundAt_of T55_sound mixed func57 (by kernel_rfl) (by
  intro rows r h
  unfold c57 at h
  split at h
  · rename_i c_b c_at_ c_ok
    obtain ⟨hp, hr⟩ := Prod.mk.inj (Option.some.inj h)
    subst hr
    simp only [Bool.and_eq_true] at hp
    obtain ⟨hs0, hp⟩ := hp
    obtain ⟨xs0, rfl⟩ := isS_ex hs0
    simp only [deS_enS] at hp ⊢
    exact ⟨_, m57 ⟨xs0, c_at_, c_ok⟩ hp⟩
  · cases h)
def T57 : Table := (57, c57) :: T55
theorem T57_sound : Table.Sound Go.Proofs.Try.prog Hx T57 := Table.sound_cons s57 T55_sound
def o54 (a : List UInt8) (b : List UInt8) : Bool × List Row × List Row := (true, [[.bool (decide (a = b))]], [])
def c54 : Contract
  | [[.sl false 1 a], [.sl false 1 b]] => some (isS UInt8 false a && isS UInt8 false b && (o54 (deS UInt8 a) (deS UInt8 b)).1, (o54 (deS UInt8 a) (deS UInt8 b)).2.1, (o54 (deS UInt8 a) (deS UInt8 b)).2.2)
  | _ => none

theorem r54 (a : List UInt8) (b : List UInt8) (n : Nat) : evFn ⟨prog, Hx, 54⟩ T57.call n f54 [[.sl false 1 (enS false a)], [.sl false 1 (enS false b)]] = bif all (enS false a) fun r ↦ fits true [Leaf.int IntKind.u8] r then bif all (enS false b) fun r ↦ fits true [Leaf.int IntKind.u8] r then some ([[D.bool (ByteArray.toList (ByteArray.mk (Array.mk (List.map (fun r ↦ Nat.toUInt8 (toNat (D.num (getD r (0) D.dead)))) (enS false a)))) == ByteArray.toList (ByteArray.mk (Array.mk (List.map (fun r ↦ Nat.toUInt8 (toNat (D.num (getD r (0) D.dead)))) (enS false b)))))]], []) else none else none := by kernel_rfl
theorem m54 (a : List UInt8) (b : List UInt8) (hpre : (o54 a b).1 = true) : evFn ⟨Go.Proofs.Try.prog, Hx, 54⟩ T57.call 0 f54 [[.sl false 1 (enS false a)], [.sl false 1 (enS false b)]] = some (o54 a b).2 := by
  refine (r54 a b _).trans ?_
  show _ = (some ([[.bool (decide (a = b))]], []) : Option (List Row × List Row))
  replace hpre : (true) = true := hpre
  simp only [fitU, keyU, strU, cond_true]
theorem s54 : SoundAt Go.Proofs.Try.prog Hx 54 c54 := soundAt_of T57_sound mixed func54 (by kernel_rfl) (by
  intro rows r h
  unfold c54 at h
  split at h
  · rename_i a b
    obtain ⟨hp, hr⟩ := Prod.mk.inj (Option.some.inj h)
    subst hr
    simp only [Bool.and_eq_true] at hp
    obtain ⟨⟨hs0, hs1⟩, hp⟩ := hp
    obtain ⟨xs0, rfl⟩ := isS_ex hs0
    obtain ⟨xs1, rfl⟩ := isS_ex hs1
    simp only [deS_enS] at hp ⊢
    exact ⟨_, m54 xs0 xs1 hp⟩
  · cases h)
def T54 : Table := (54, c54) :: T57
theorem T54_sound : Table.Sound Go.Proofs.Try.prog Hx T54 := Table.sound_cons s54 T57_sound
def o25 (b : List UInt8) : Bool × List Row × List Row := (decide (b.length ≤ 1048576), [[.int .i64 ((brI b).1).Id, .sl true 11 (enS true ((brI b).1).Ports)], [.bool ((brI b).2)]], [])
def c25 : Contract
  | [[.sl false 1 b]] => some (isS UInt8 false b && (o25 (deS UInt8 b)).1, (o25 (deS UInt8 b)).2.1, (o25 (deS UInt8 b)).2.2)
  | _ => none

def k25_0 (n : Nat) : Ex → St → RR := kThen (fun st ↦ runCode (Ctx.mk prog Hx (25)) (Table.call T54) n (codeAt [1, 1, 1, 1, 1] (bodyOf f25)) (Lv.mk 12 [] 12) st (kLeave (Ctx.P (Ctx.mk prog Hx (25))) (List.zip (Array.toList (Go.Func.resultTypes f25)) (Array.toList (Go.Func.results f25))) [] [])) (kLeave (Ctx.P (Ctx.mk prog Hx (25))) (List.zip (Array.toList (Go.Func.resultTypes f25)) (Array.toList (Go.Func.results f25))) [] [])
def k25_1 (n : Nat) : Ex → St → RR := kBlock (0) (k25_0 n)
def S25_0 (b : List UInt8) (i0 : Int) (es1 : List (List D)) (i2 : Int) (b3 : Bool) (es4 : List (List D)) : St := St.mk (V_ [C.d (D.sl false 1 (enS false b))] :: U_ :: V_ [C.ptr 0 0 0 [] 2 0 0] :: U_ :: V_ [C.ptr 1 0 0 [] 3 0 0] :: V_ [C.ptr 2 0 0 [] 2 0 0] :: I_ (nVal (deS UInt8 (enS false (deS UInt8 (enS false b)))) (nAt (deS UInt8 (enS false b)) (0) false) (nBad (deS UInt8 (enS false b)) (0) false)) :: I_ i0 :: u_ 40 []) [Root.mk true 2 [[D.int i64 (0), D.sl true 11 []]] 0 0 true true false, Root.mk true 3 [[D.sl false 1 es1, D.int i64 i2, D.bool b3]] 0 0 true true false, Root.mk true 2 [[D.int i64 (nVal (deS UInt8 (enS false b)) (0) false), D.sl true 11 es4]] 0 0 true true false]
def B25_0 (n : Nat) : St → (Ex → St → RR) → RR := runCode (Ctx.mk prog Hx (25)) (Table.call T54) n (codeAt [1, 1, 1, 1, 0, 1, 0, 0] (bodyOf f25)) (Lv.mk 245 [(0, 53)] 12)
def X25_2 (b : List UInt8) (es1 : List (List D)) (i2 : Int) (b3 : Bool) (es4 : List (List D)) : St := St.mk (V_ [C.d (D.sl false 1 (enS false b))] :: U_ :: V_ [C.ptr 0 0 0 [] 2 0 0] :: U_ :: V_ [C.ptr 1 0 0 [] 3 0 0] :: V_ [C.ptr 2 0 0 [] 2 0 0] :: u_ 42 []) [Root.mk true 2 [[D.int i64 (0), D.sl true 11 []]] 0 0 true true false, Root.mk true 3 [[D.sl false 1 es1, D.int i64 i2, D.bool b3]] 0 0 true true false, Root.mk true 2 [[D.int i64 (nVal (deS UInt8 (enS false b)) (0) false), D.sl true 11 es4]] 0 0 true true false]
def X25_3 (b : List UInt8) (es1 : List (List D)) (i2 : Int) (b3 : Bool) (es4 : List (List D)) : St := St.mk (V_ [C.d (D.sl false 1 (enS false b))] :: U_ :: V_ [C.ptr 0 0 0 [] 2 0 0] :: U_ :: V_ [C.ptr 1 0 0 [] 3 0 0] :: V_ [C.ptr 2 0 0 [] 2 0 0] :: u_ 42 []) [Root.mk true 2 [[D.int i64 (0), D.sl true 11 []]] 0 0 true true false, Root.mk true 3 [[D.sl false 1 es1, D.int i64 i2, D.bool b3]] 0 0 true true false, Root.mk true 2 [[D.int i64 (nVal (deS UInt8 (enS false b)) (0) false), D.sl true 11 es4]] 0 0 true true false]
theorem q25_0 (b : List UInt8) (n : Nat) (i0 : Int) (es1 : List (List D)) (i2 : Int) (b3 : Bool) (es4 : List (List D)) (f : St → RR) (K : Ex → St → RR) : B25_0 n (S25_0 b i0 es1 i2 b3 es4) (kThen (fun st ↦ f (St.head 3 245 4294951296 st)) K) = bif decide (i0 < if 4 < nVal (deS UInt8 (enS false (deS UInt8 (enS false b)))) (nAt (deS UInt8 (enS false b)) (0) false) (nBad (deS UInt8 (enS false b)) (0) false) then 4 else nVal (deS UInt8 (enS false (deS UInt8 (enS false b)))) (nAt (deS UInt8 (enS false b)) (0) false) (nBad (deS UInt8 (enS false b)) (0) false)) then bif !b3 then bif isS UInt8 false es1 && (decide (length (deS UInt8 es1) ≤ 1048576) && (decide (0 ≤ i2) && decide (i2 ≤ 1048576))) then bif decide ((length es4 + 1) * 80 ≤ 140737488355328) then f (S25_0 b (wrap i64 (i0 + 1)) (enS false (TReader.b (r8 (TReader.mk (deS UInt8 es1) i2 b3)))) (TReader.at_ (r8 (TReader.mk (deS UInt8 es1) i2 b3))) (TReader.bad (r8 (TReader.mk (deS UInt8 es1) i2 b3))) (append es4 [[D.bool (Port.Up (rPort (TReader.mk (deS UInt8 es1) i2 b3))), D.bool (Port.Has (rPort (TReader.mk (deS UInt8 es1) i2 b3))), D.int i64 (Vec.Root (Port.Vec (rPort (TReader.mk (deS UInt8 es1) i2 b3)))), D.int i64 (Vec.Cost (Port.Vec (rPort (TReader.mk (deS UInt8 es1) i2 b3)))), D.int i64 (Vec.Bridge (Port.Vec (rPort (TReader.mk (deS UInt8 es1) i2 b3)))), D.int i64 (Vec.Port (Port.Vec (rPort (TReader.mk (deS UInt8 es1) i2 b3)))), D.int i64 (Port.Hops (rPort (TReader.mk (deS UInt8 es1) i2 b3))), D.int i64 (Port.Left (rPort (TReader.mk (deS UInt8 es1) i2 b3))), D.int i64 (Port.Role (rPort (TReader.mk (deS UInt8 es1) i2 b3))), D.int i64 (Port.Wait (rPort (TReader.mk (deS UInt8 es1) i2 b3))), D.bool (Port.Open (rPort (TReader.mk (deS UInt8 es1) i2 b3)))]])) else none else none else K (Ex.exit 0) (X25_2 b es1 i2 b3 es4) else K (Ex.exit 0) (X25_3 b es1 i2 b3 es4) := by kernel_rfl
theorem aX25_2 (b : List UInt8) (n : Nat) (es1 : List (List D)) (i2 : Int) (b3 : Bool) (es4 : List (List D)) : k25_1 n (Ex.exit 0) (X25_2 b es1 i2 b3 es4) = bif b3 then some ([[D.int i64 (0), D.sl true 11 []], [D.bool false]], []) else bif isS Port false (lendRows es4) && decide (length (deS Port (lendRows es4)) ≤ 1048576) then bif !bridgeOk (Bridge.mk (nVal (deS UInt8 (enS false b)) (0) false) (deS Port (lendRows es4))) then some ([[D.int i64 (0), D.sl true 11 []], [D.bool false]], []) else bif isS Port false (lendRows es4) && decide (length (deS Port (lendRows es4)) ≤ 1048576) then bif deepRows (enS true (bridgeBs (Bridge.mk (nVal (deS UInt8 (enS false b)) (0) false) (deS Port (lendRows es4))))) && true && true && true && true then bif isS UInt8 false (lendRows (enS true (bridgeBs (Bridge.mk (nVal (deS UInt8 (enS false b)) (0) false) (deS Port (lendRows es4)))))) && isS UInt8 false (enS false b) && true then bif !decide (deS UInt8 (lendRows (enS true (bridgeBs (Bridge.mk (nVal (deS UInt8 (enS false b)) (0) false) (deS Port (lendRows es4)))))) = deS UInt8 (enS false b)) then some ([[D.int i64 (0), D.sl true 11 []], [D.bool false]], []) else some ([[D.int i64 (nVal (deS UInt8 (enS false b)) (0) false), D.sl true 11 es4], [D.bool true]], []) else none else none else none else none := by kernel_rfl
theorem aX25_3 (b : List UInt8) (n : Nat) (es1 : List (List D)) (i2 : Int) (b3 : Bool) (es4 : List (List D)) : k25_1 n (Ex.exit 0) (X25_3 b es1 i2 b3 es4) = bif b3 then some ([[D.int i64 (0), D.sl true 11 []], [D.bool false]], []) else bif isS Port false (lendRows es4) && decide (length (deS Port (lendRows es4)) ≤ 1048576) then bif !bridgeOk (Bridge.mk (nVal (deS UInt8 (enS false b)) (0) false) (deS Port (lendRows es4))) then some ([[D.int i64 (0), D.sl true 11 []], [D.bool false]], []) else bif isS Port false (lendRows es4) && decide (length (deS Port (lendRows es4)) ≤ 1048576) then bif deepRows (enS true (bridgeBs (Bridge.mk (nVal (deS UInt8 (enS false b)) (0) false) (deS Port (lendRows es4))))) && true && true && true && true then bif isS UInt8 false (lendRows (enS true (bridgeBs (Bridge.mk (nVal (deS UInt8 (enS false b)) (0) false) (deS Port (lendRows es4)))))) && isS UInt8 false (enS false b) && true then bif !decide (deS UInt8 (lendRows (enS true (bridgeBs (Bridge.mk (nVal (deS UInt8 (enS false b)) (0) false) (deS Port (lendRows es4)))))) = deS UInt8 (enS false b)) then some ([[D.int i64 (0), D.sl true 11 []], [D.bool false]], []) else some ([[D.int i64 (nVal (deS UInt8 (enS false b)) (0) false), D.sl true 11 es4], [D.bool true]], []) else none else none else none else none := by kernel_rfl
theorem r25 (b : List UInt8) (n : Nat) : evFn ⟨prog, Hx, 25⟩ T54.call n f25 [[.sl false 1 (enS false b)]] = bif isS UInt8 false (enS false b) && decide (length (deS UInt8 (enS false b)) ≤ 1048576) then bif isS UInt8 false (enS false (deS UInt8 (enS false b))) && decide (length (deS UInt8 (enS false (deS UInt8 (enS false b)))) ≤ 1048576) then loopRun (B25_0 n) 3 245 4294951296 n (S25_0 b (0) (enS false (deS UInt8 (enS false (deS UInt8 (enS false b))))) (nAt (deS UInt8 (enS false (deS UInt8 (enS false b)))) (nAt (deS UInt8 (enS false b)) (0) false) (nBad (deS UInt8 (enS false b)) (0) false)) (nBad (deS UInt8 (enS false (deS UInt8 (enS false b)))) (nAt (deS UInt8 (enS false b)) (0) false) (nBad (deS UInt8 (enS false b)) (0) false)) []) (k25_1 n) else none else none := by kernel_rfl
theorem l25_fin (b : List UInt8) (ps : List Port) (r : TReader) (n : Nat) (i0 : Int) (es1 : List (List D)) (i2 : Int) (hl : ps.length ≤ 1048576) :
    (bif r.bad then some ([[D.int .i64 0, D.sl true 11 []], [D.bool false]], []) else bif isS Port false (lendRows (enS true ps)) && decide (List.length (deS Port (lendRows (enS true ps))) ≤ 1048576) then bif !bridgeOk (Bridge.mk (nVal (deS UInt8 (enS false b)) 0 false) (deS Port (lendRows (enS true ps)))) then some ([[D.int .i64 0, D.sl true 11 []], [D.bool false]], []) else bif isS Port false (lendRows (enS true ps)) && decide (List.length (deS Port (lendRows (enS true ps))) ≤ 1048576) then bif deepRows (enS true (bridgeBs (Bridge.mk (nVal (deS UInt8 (enS false b)) 0 false) (deS Port (lendRows (enS true ps)))))) && true && true && true && true then bif isS UInt8 false (lendRows (enS true (bridgeBs (Bridge.mk (nVal (deS UInt8 (enS false b)) 0 false) (deS Port (lendRows (enS true ps))))))) && isS UInt8 false (enS false b) && true then bif !decide (deS UInt8 (lendRows (enS true (bridgeBs (Bridge.mk (nVal (deS UInt8 (enS false b)) 0 false) (deS Port (lendRows (enS true ps))))))) = deS UInt8 (enS false b)) then some ([[D.int .i64 0, D.sl true 11 []], [D.bool false]], []) else some ([[D.int .i64 (nVal (deS UInt8 (enS false b)) 0 false), D.sl true 11 (enS true ps)], [D.bool true]], []) else none else none else none else none : RR) = brFin b (ps, r) := by
  cases hb : r.bad
  · rw [cond_false]
    simp only [lendRows_enS, isS_enS, deS_enS, deepRows_enS, decide_eq_true hl, Bool.and_self, Bool.and_true, cond_true]
    rw [show nVal b 0 false = rId b from rfl]
    cases hk : bridgeOk ⟨rId b, ps⟩
    · rw [brFin_no hb hk]
      rfl
    · rw [Bool.not_true, cond_false]
      cases he : decide (bridgeBs ⟨rId b, ps⟩ = b)
      · rw [brFin_ne hb hk he]
        rfl
      · rw [brFin_ok hb hk he]
        rfl
  · rw [brFin_bad hb]
    rfl
theorem m25 (b : List UInt8) (hpre : (o25 b).1 = true) : evFn ⟨Go.Proofs.Try.prog, Hx, 25⟩ T54.call (6 + b.length) f25 [[.sl false 1 (enS false b)]] = some (o25 b).2 := by
  refine (r25 b _).trans ?_
  show _ = (some ([[.int .i64 ((brI b).1).Id, .sl true 11 (enS true ((brI b).1).Ports)], [.bool ((brI b).2)]], []) : Option (List Row × List Row))
  replace hpre : (decide (b.length ≤ 1048576)) = true := hpre
  have hlen := of_decide_eq_true hpre
  show _ = brFin b (rdP (min (rCnt b) 4).toNat (rGo b))
  simp only [isS_enS, deS_enS, hpre, Bool.and_self, cond_true]
  generalize hk : (min (rCnt b) 4).toNat = k
  have hk4 : k ≤ 4 := by omega
  refine loop_rule (V := Nat × List Port × TReader) (fun v => S25_0 b (Int.ofNat v.1) (enS false v.2.2.b) v.2.2.at_ v.2.2.bad (enS true v.2.1)) (fun v => v.1 ≤ k ∧ okR b v.2.2 ∧ v.2.1.length = v.1 ∧ (v.2.1 ++ (rdP (k - v.1) v.2.2).1, (rdP (k - v.1) v.2.2).2) = rdP k (rGo b)) (fun v => k - v.1) (fun _ => brFin b (rdP k (rGo b))) ?_ (6 + b.length) (0, [], rGo b) ⟨Nat.zero_le _, okR_go b, rfl, rfl⟩ (by show k - 0 < 6 + b.length; omega)
  rintro ⟨i, ps, r⟩ ⟨h1, h2, h3, h4⟩ f hf
  simp only at h1 h2 h3 h4
  obtain ⟨hrb, hra, hrl⟩ := h2
  refine (q25_0 b _ _ _ _ _ _ f _).trans ?_
  have hc : decide (Int.ofNat i < if 4 < nVal (deS UInt8 (enS false (deS UInt8 (enS false b)))) (nAt (deS UInt8 (enS false b)) 0 false) (nBad (deS UInt8 (enS false b)) 0 false) then 4 else nVal (deS UInt8 (enS false (deS UInt8 (enS false b)))) (nAt (deS UInt8 (enS false b)) 0 false) (nBad (deS UInt8 (enS false b)) 0 false)) = decide (i < k) := by
    simp only [deS_enS]
    rw [show nVal b (nAt b 0 false) (nBad b 0 false) = rCnt b from rfl]
    refine decide_eq_decide.2 ?_
    show (i : Int) < _ ↔ _
    split <;> omega
  by_cases hik : i < k
  case neg =>
    refine bif_f (by rw [hc]; exact decide_eq_false hik) ?_
    refine (aX25_3 _ _ _ _ _ _).trans ?_
    rw [rdP_stop (.inl (by omega))] at h4
    rw [← h4]
    exact l25_fin b ps r (6 + b.length) (Int.ofNat i) (enS false r.b) r.at_ (by omega)
  refine bif_t (by rw [hc]; exact decide_eq_true hik) ?_
  by_cases hb : r.bad = true
  case pos =>
    refine bif_f (by rw [hb]; rfl) ?_
    refine (aX25_2 _ _ _ _ _ _).trans ?_
    rw [rdP_stop (.inr hb)] at h4
    rw [← h4]
    exact l25_fin b ps r (6 + b.length) (Int.ofNat i) (enS false r.b) r.at_ (by omega)
  rw [Bool.not_eq_true] at hb
  refine bif_t (by rw [hb]; rfl) ?_
  have e1 : (⟨r.b, r.at_, r.bad⟩ : TReader) = r := rfl
  refine bif_t (by rw [isS_enS, deS_enS, hrb, decide_eq_true hlen, decide_eq_true hra, decide_eq_true (show r.at_ ≤ 1048576 by omega)]; rfl) ?_
  refine bif_t (decide_eq_true (by rw [enS_length]; show (ps.length + 1) * 80 ≤ 140737488355328; omega)) ?_
  rw [deS_enS, e1, wrap_succ (show i < 4611686018427387904 by omega)]
  refine (congrArg f (congrArg (S25_0 b _ _ _ _) (enS_snoc true ps (rPort r)))).trans ?_
  exact hf (i + 1, ps ++ [rPort r], r8 r) ⟨hik, okR_8 ⟨hrb, hra, hrl⟩, by simp only [List.length_append, List.length_cons, List.length_nil]; omega, by rw [← h4]; exact (rdP_go hik hb).symm⟩ (by show k - (i + 1) < k - i; omega)
theorem s25 : SoundAt Go.Proofs.Try.prog Hx 25 c25 := soundAt_of T54_sound mixed func25 (by kernel_rfl) (by
  intro rows r h
  unfold c25 at h
  split at h
  · rename_i b
    obtain ⟨hp, hr⟩ := Prod.mk.inj (Option.some.inj h)
    subst hr
    simp only [Bool.and_eq_true] at hp
    obtain ⟨hs0, hp⟩ := hp
    obtain ⟨xs0, rfl⟩ := isS_ex hs0
    simp only [deS_enS] at hp ⊢
    exact ⟨_, m25 xs0 hp⟩
  · cases h)
def T25 : Table := (25, c25) :: T54
theorem T25_sound : Table.Sound Go.Proofs.Try.prog Hx T25 := Table.sound_cons s25 T54_sound
def o26 (b : List UInt8) : Bool × List Row × List Row := (decide (b.length ≤ 1048576), [[.int .i64 ((brS b).1).Id, .sl true 11 (enS true ((brS b).1).Ports)], [.bool ((brS b).2)]], [])
def c26 : Contract
  | [[.sl false 1 b]] => some (isS UInt8 false b && (o26 (deS UInt8 b)).1, (o26 (deS UInt8 b)).2.1, (o26 (deS UInt8 b)).2.2)
  | _ => none

def k26_0 (n : Nat) : Ex → St → RR := kThen (fun st ↦ runCode (Ctx.mk prog Hx (26)) (Table.call T25) n (codeAt [1, 1, 1, 1, 1, 1] (bodyOf f26)) (Lv.mk 12 [] 12) st (kLeave (Ctx.P (Ctx.mk prog Hx (26))) (List.zip (Array.toList (Go.Func.resultTypes f26)) (Array.toList (Go.Func.results f26))) [] [])) (kLeave (Ctx.P (Ctx.mk prog Hx (26))) (List.zip (Array.toList (Go.Func.resultTypes f26)) (Array.toList (Go.Func.results f26))) [] [])
def k26_1 (n : Nat) : Ex → St → RR := kBlock (0) (k26_0 n)
def S26_0 (b : List UInt8) (i0 : Int) (es1 : List (List D)) (i2 : Int) (b3 : Bool) (es4 : List (List D)) : St := St.mk (V_ [C.d (D.sl false 1 (enS false b))] :: U_ :: V_ [C.ptr 0 0 0 [] 2 0 0] :: U_ :: V_ [C.ptr 1 0 0 [] 3 0 0] :: V_ [C.ptr 2 0 0 [] 2 0 0] :: I_ (mVal (deS UInt8 (enS false (deS UInt8 (enS false b)))) (mAt (deS UInt8 (enS false b)) (0) true) (mOk (deS UInt8 (enS false b)) (0) true)) :: I_ i0 :: u_ 50 []) [Root.mk true 2 [[D.int i64 (0), D.sl true 11 []]] 0 0 true true false, Root.mk true 3 [[D.sl false 1 es1, D.int i64 i2, D.bool b3]] 0 0 true true false, Root.mk true 2 [[D.int i64 (mVal (deS UInt8 (enS false b)) (0) true), D.sl true 11 es4]] 0 0 true true false]
def B26_0 (n : Nat) : St → (Ex → St → RR) → RR := runCode (Ctx.mk prog Hx (26)) (Table.call T25) n (codeAt [1, 1, 1, 1, 1, 0, 1, 0, 0] (bodyOf f26)) (Lv.mk 245 [(0, 53)] 12)
def X26_2 (b : List UInt8) (es1 : List (List D)) (i2 : Int) (b3 : Bool) (es4 : List (List D)) : St := St.mk (V_ [C.d (D.sl false 1 (enS false b))] :: U_ :: V_ [C.ptr 0 0 0 [] 2 0 0] :: U_ :: V_ [C.ptr 1 0 0 [] 3 0 0] :: V_ [C.ptr 2 0 0 [] 2 0 0] :: u_ 52 []) [Root.mk true 2 [[D.int i64 (0), D.sl true 11 []]] 0 0 true true false, Root.mk true 3 [[D.sl false 1 es1, D.int i64 i2, D.bool b3]] 0 0 true true false, Root.mk true 2 [[D.int i64 (mVal (deS UInt8 (enS false b)) (0) true), D.sl true 11 es4]] 0 0 true true false]
def X26_3 (b : List UInt8) (es1 : List (List D)) (i2 : Int) (b3 : Bool) (es4 : List (List D)) : St := St.mk (V_ [C.d (D.sl false 1 (enS false b))] :: U_ :: V_ [C.ptr 0 0 0 [] 2 0 0] :: U_ :: V_ [C.ptr 1 0 0 [] 3 0 0] :: V_ [C.ptr 2 0 0 [] 2 0 0] :: u_ 52 []) [Root.mk true 2 [[D.int i64 (0), D.sl true 11 []]] 0 0 true true false, Root.mk true 3 [[D.sl false 1 es1, D.int i64 i2, D.bool b3]] 0 0 true true false, Root.mk true 2 [[D.int i64 (mVal (deS UInt8 (enS false b)) (0) true), D.sl true 11 es4]] 0 0 true true false]
theorem q26_0 (b : List UInt8) (n : Nat) (i0 : Int) (es1 : List (List D)) (i2 : Int) (b3 : Bool) (es4 : List (List D)) (f : St → RR) (K : Ex → St → RR) : B26_0 n (S26_0 b i0 es1 i2 b3 es4) (kThen (fun st ↦ f (St.head 3 245 137438691456 st)) K) = bif decide (i0 < if mVal (deS UInt8 (enS false (deS UInt8 (enS false b)))) (mAt (deS UInt8 (enS false b)) (0) true) (mOk (deS UInt8 (enS false b)) (0) true) < 5 then mVal (deS UInt8 (enS false (deS UInt8 (enS false b)))) (mAt (deS UInt8 (enS false b)) (0) true) (mOk (deS UInt8 (enS false b)) (0) true) else 5) then bif b3 then bif isS UInt8 false es1 && (b3 && (decide (length (deS UInt8 es1) ≤ 1048576) && (decide (0 ≤ i2) && decide (i2 ≤ 1048576)))) then bif decide ((length es4 + 1) * 80 ≤ 140737488355328) then f (S26_0 b (wrap i64 (i0 + 1)) (enS false (deS UInt8 es1)) (TReader.at_ (r8 (TReader.mk (deS UInt8 es1) i2 !b3))) (!TReader.bad (r8 (TReader.mk (deS UInt8 es1) i2 !b3))) (append es4 [[D.bool (Port.Up (rPort (TReader.mk (deS UInt8 es1) i2 !b3))), D.bool (Port.Has (rPort (TReader.mk (deS UInt8 es1) i2 !b3))), D.int i64 (Vec.Root (Port.Vec (rPort (TReader.mk (deS UInt8 es1) i2 !b3)))), D.int i64 (Vec.Cost (Port.Vec (rPort (TReader.mk (deS UInt8 es1) i2 !b3)))), D.int i64 (Vec.Bridge (Port.Vec (rPort (TReader.mk (deS UInt8 es1) i2 !b3)))), D.int i64 (Vec.Port (Port.Vec (rPort (TReader.mk (deS UInt8 es1) i2 !b3)))), D.int i64 (Port.Hops (rPort (TReader.mk (deS UInt8 es1) i2 !b3))), D.int i64 (Port.Left (rPort (TReader.mk (deS UInt8 es1) i2 !b3))), D.int i64 (Port.Role (rPort (TReader.mk (deS UInt8 es1) i2 !b3))), D.int i64 (Port.Wait (rPort (TReader.mk (deS UInt8 es1) i2 !b3))), D.bool (Port.Open (rPort (TReader.mk (deS UInt8 es1) i2 !b3)))]])) else none else none else K (Ex.exit 0) (X26_2 b es1 i2 b3 es4) else K (Ex.exit 0) (X26_3 b es1 i2 b3 es4) := by kernel_rfl
theorem aX26_2 (b : List UInt8) (n : Nat) (es1 : List (List D)) (i2 : Int) (b3 : Bool) (es4 : List (List D)) : k26_1 n (Ex.exit 0) (X26_2 b es1 i2 b3 es4) = bif isS Port false (lendRows es4) && decide (length (deS Port (lendRows es4)) ≤ 1048576) then bif deepRows (enS true (bridgeBs (Bridge.mk (mVal (deS UInt8 (enS false b)) (0) true) (deS Port (lendRows es4))))) && true && true && true && true then bif !b3 then some ([[D.int i64 (0), D.sl true 11 []], [D.bool false]], []) else bif ofNat (length (enS true (bridgeBs (Bridge.mk (mVal (deS UInt8 (enS false b)) (0) true) (deS Port (lendRows es4)))))) == 0 then some ([[D.int i64 (0), D.sl true 11 []], [D.bool false]], []) else bif all (enS true (bridgeBs (Bridge.mk (mVal (deS UInt8 (enS false b)) (0) true) (deS Port (lendRows es4))))) fun r ↦ fits true [Leaf.int IntKind.u8] r then bif all (enS false b) fun r ↦ fits true [Leaf.int IntKind.u8] r then bif !ByteArray.toList (ByteArray.mk (Array.mk (List.map (fun r ↦ Nat.toUInt8 (toNat (D.num (getD r (0) D.dead)))) (enS true (bridgeBs (Bridge.mk (mVal (deS UInt8 (enS false b)) (0) true) (deS Port (lendRows es4)))))))) == ByteArray.toList (ByteArray.mk (Array.mk (List.map (fun r ↦ Nat.toUInt8 (toNat (D.num (getD r (0) D.dead)))) (enS false b)))) then some ([[D.int i64 (0), D.sl true 11 []], [D.bool false]], []) else some ([[D.int i64 (mVal (deS UInt8 (enS false b)) (0) true), D.sl true 11 es4], [D.bool true]], []) else none else none else none else none := by kernel_rfl
theorem aX26_3 (b : List UInt8) (n : Nat) (es1 : List (List D)) (i2 : Int) (b3 : Bool) (es4 : List (List D)) : k26_1 n (Ex.exit 0) (X26_3 b es1 i2 b3 es4) = bif isS Port false (lendRows es4) && decide (length (deS Port (lendRows es4)) ≤ 1048576) then bif deepRows (enS true (bridgeBs (Bridge.mk (mVal (deS UInt8 (enS false b)) (0) true) (deS Port (lendRows es4))))) && true && true && true && true then bif !b3 then some ([[D.int i64 (0), D.sl true 11 []], [D.bool false]], []) else bif ofNat (length (enS true (bridgeBs (Bridge.mk (mVal (deS UInt8 (enS false b)) (0) true) (deS Port (lendRows es4)))))) == 0 then some ([[D.int i64 (0), D.sl true 11 []], [D.bool false]], []) else bif all (enS true (bridgeBs (Bridge.mk (mVal (deS UInt8 (enS false b)) (0) true) (deS Port (lendRows es4))))) fun r ↦ fits true [Leaf.int IntKind.u8] r then bif all (enS false b) fun r ↦ fits true [Leaf.int IntKind.u8] r then bif !ByteArray.toList (ByteArray.mk (Array.mk (List.map (fun r ↦ Nat.toUInt8 (toNat (D.num (getD r (0) D.dead)))) (enS true (bridgeBs (Bridge.mk (mVal (deS UInt8 (enS false b)) (0) true) (deS Port (lendRows es4)))))))) == ByteArray.toList (ByteArray.mk (Array.mk (List.map (fun r ↦ Nat.toUInt8 (toNat (D.num (getD r (0) D.dead)))) (enS false b)))) then some ([[D.int i64 (0), D.sl true 11 []], [D.bool false]], []) else some ([[D.int i64 (mVal (deS UInt8 (enS false b)) (0) true), D.sl true 11 es4], [D.bool true]], []) else none else none else none else none := by kernel_rfl
theorem r26 (b : List UInt8) (n : Nat) : evFn ⟨prog, Hx, 26⟩ T25.call n f26 [[.sl false 1 (enS false b)]] = bif isS UInt8 false (enS false b) && decide (length (deS UInt8 (enS false b)) ≤ 1048576) then bif isS UInt8 false (enS false (deS UInt8 (enS false b))) && decide (length (deS UInt8 (enS false (deS UInt8 (enS false b)))) ≤ 1048576) then loopRun (B26_0 n) 3 245 137438691456 n (S26_0 b (0) (enS false (deS UInt8 (enS false (deS UInt8 (enS false b))))) (mAt (deS UInt8 (enS false (deS UInt8 (enS false b)))) (mAt (deS UInt8 (enS false b)) (0) true) (mOk (deS UInt8 (enS false b)) (0) true)) (mOk (deS UInt8 (enS false (deS UInt8 (enS false b)))) (mAt (deS UInt8 (enS false b)) (0) true) (mOk (deS UInt8 (enS false b)) (0) true)) []) (k26_1 n) else none else none := by kernel_rfl
theorem l26_fin (b : List UInt8) (ps : List Port) (r : TReader) (hl : ps.length ≤ 1048576) :
    (bif isS Port false (lendRows (enS true ps)) && decide (List.length (deS Port (lendRows (enS true ps))) ≤ 1048576) then bif deepRows (enS true (bridgeBs (Bridge.mk (mVal (deS UInt8 (enS false b)) 0 true) (deS Port (lendRows (enS true ps)))))) && true && true && true && true then bif !!r.bad then some ([[D.int .i64 0, D.sl true 11 []], [D.bool false]], []) else bif Int.ofNat (List.length (enS true (bridgeBs (Bridge.mk (mVal (deS UInt8 (enS false b)) 0 true) (deS Port (lendRows (enS true ps))))))) == 0 then some ([[D.int .i64 0, D.sl true 11 []], [D.bool false]], []) else bif List.all (enS true (bridgeBs (Bridge.mk (mVal (deS UInt8 (enS false b)) 0 true) (deS Port (lendRows (enS true ps)))))) fun r => fits true [Leaf.int IntKind.u8] r then bif List.all (enS false b) fun r => fits true [Leaf.int IntKind.u8] r then bif !ByteArray.toList (ByteArray.mk (Array.mk (List.map (fun r => Nat.toUInt8 (Int.toNat (D.num (List.getD r 0 D.dead)))) (enS true (bridgeBs (Bridge.mk (mVal (deS UInt8 (enS false b)) 0 true) (deS Port (lendRows (enS true ps))))))))) == ByteArray.toList (ByteArray.mk (Array.mk (List.map (fun r => Nat.toUInt8 (Int.toNat (D.num (List.getD r 0 D.dead)))) (enS false b)))) then some ([[D.int .i64 0, D.sl true 11 []], [D.bool false]], []) else some ([[D.int .i64 (mVal (deS UInt8 (enS false b)) 0 true), D.sl true 11 (enS true ps)], [D.bool true]], []) else none else none else none else none : RR) = brFin b (ps, r) := by
  simp only [lendRows_enS, isS_enS, deS_enS, deepRows_enS, fitU, keyU, strU, decide_eq_true hl, Bool.and_self, Bool.and_true, cond_true, Bool.not_not, enS_length]
  rw [show mVal b 0 true = rId b from rfl]
  cases hb : r.bad
  · rw [cond_false]
    cases hk : bridgeOk ⟨rId b, ps⟩
    · rw [brFin_no hb hk, bs_no hk]
      rfl
    · have hz : (Int.ofNat (bridgeBs ⟨rId b, ps⟩).length == 0) = false := by
        have := bs_pos hk
        rw [beq_eq_false_iff_ne]
        show ((bridgeBs ⟨rId b, ps⟩).length : Int) ≠ 0
        omega
      rw [hz, cond_false]
      cases he : decide (bridgeBs ⟨rId b, ps⟩ = b)
      · rw [brFin_ne hb hk he]
        rfl
      · rw [brFin_ok hb hk he]
        rfl
  · rw [brFin_bad hb]
    rfl
theorem m26 (b : List UInt8) (hpre : (o26 b).1 = true) : evFn ⟨Go.Proofs.Try.prog, Hx, 26⟩ T25.call (6 + b.length) f26 [[.sl false 1 (enS false b)]] = some (o26 b).2 := by
  refine (r26 b _).trans ?_
  show _ = (some ([[.int .i64 ((brS b).1).Id, .sl true 11 (enS true ((brS b).1).Ports)], [.bool ((brS b).2)]], []) : Option (List Row × List Row))
  replace hpre : (decide (b.length ≤ 1048576)) = true := hpre
  have hlen := of_decide_eq_true hpre
  show _ = brFin b (rdP (min (rCnt b) 5).toNat (rGo b))
  simp only [isS_enS, deS_enS, hpre, Bool.and_self, cond_true, rGoA_s, rGoB_s]
  generalize hk : (min (rCnt b) 5).toNat = k
  have hk4 : k ≤ 5 := by omega
  refine loop_rule (V := Nat × List Port × TReader) (fun v => S26_0 b (Int.ofNat v.1) (enS false v.2.2.b) v.2.2.at_ (!v.2.2.bad) (enS true v.2.1)) (fun v => v.1 ≤ k ∧ okR b v.2.2 ∧ v.2.1.length = v.1 ∧ (v.2.1 ++ (rdP (k - v.1) v.2.2).1, (rdP (k - v.1) v.2.2).2) = rdP k (rGo b)) (fun v => k - v.1) (fun _ => brFin b (rdP k (rGo b))) ?_ (6 + b.length) (0, [], rGo b) ⟨Nat.zero_le _, okR_go b, rfl, rfl⟩ (by show k - 0 < 6 + b.length; omega)
  rintro ⟨i, ps, r⟩ ⟨h1, h2, h3, h4⟩ f hf
  simp only at h1 h2 h3 h4
  obtain ⟨hrb, hra, hrl⟩ := h2
  refine (q26_0 b _ _ _ _ _ _ f _).trans ?_
  have hc : decide (Int.ofNat i < if mVal (deS UInt8 (enS false (deS UInt8 (enS false b)))) (mAt (deS UInt8 (enS false b)) 0 true) (mOk (deS UInt8 (enS false b)) 0 true) < 5 then mVal (deS UInt8 (enS false (deS UInt8 (enS false b)))) (mAt (deS UInt8 (enS false b)) 0 true) (mOk (deS UInt8 (enS false b)) 0 true) else 5) = decide (i < k) := by
    simp only [deS_enS, rCnt_s]
    refine decide_eq_decide.2 ?_
    show (i : Int) < _ ↔ _
    split <;> omega
  by_cases hik : i < k
  case neg =>
    refine bif_f (by rw [hc]; exact decide_eq_false hik) ?_
    refine (aX26_3 _ _ _ _ _ _).trans ?_
    rw [rdP_stop (.inl (by omega))] at h4
    rw [← h4]
    exact l26_fin b ps r (by omega)
  refine bif_t (by rw [hc]; exact decide_eq_true hik) ?_
  by_cases hb : r.bad = true
  case pos =>
    refine bif_f (by rw [hb]; rfl) ?_
    refine (aX26_2 _ _ _ _ _ _).trans ?_
    rw [rdP_stop (.inr hb)] at h4
    rw [← h4]
    exact l26_fin b ps r (by omega)
  rw [Bool.not_eq_true] at hb
  refine bif_t (by rw [hb]; rfl) ?_
  have e1 : (⟨r.b, r.at_, r.bad⟩ : TReader) = r := rfl
  have e2 : (r8 r).b = r.b := rfl
  refine bif_t (by rw [isS_enS, deS_enS, hrb, hb, decide_eq_true hlen, decide_eq_true hra, decide_eq_true (show r.at_ ≤ 1048576 by omega)]; rfl) ?_
  refine bif_t (decide_eq_true (by rw [enS_length]; show (ps.length + 1) * 80 ≤ 140737488355328; omega)) ?_
  rw [deS_enS, Bool.not_not, e1, wrap_succ (show i < 4611686018427387904 by omega)]
  refine (congrArg f (congrArg (S26_0 b _ _ _ _) (enS_snoc true ps (rPort r)))).trans ?_
  exact hf (i + 1, ps ++ [rPort r], r8 r) ⟨hik, okR_8 ⟨hrb, hra, hrl⟩, by simp only [List.length_append, List.length_cons, List.length_nil]; omega, by rw [← h4]; exact (rdP_go hik hb).symm⟩ (by show k - (i + 1) < k - i; omega)
theorem s26 : SoundAt Go.Proofs.Try.prog Hx 26 c26 := soundAt_of T25_sound mixed func26 (by kernel_rfl) (by
  intro rows r h
  unfold c26 at h
  split at h
  · rename_i b
    obtain ⟨hp, hr⟩ := Prod.mk.inj (Option.some.inj h)
    subst hr
    simp only [Bool.and_eq_true] at hp
    obtain ⟨hs0, hp⟩ := hp
    obtain ⟨xs0, rfl⟩ := isS_ex hs0
    simp only [deS_enS] at hp ⊢
    exact ⟨_, m26 xs0 hp⟩
  · cases h)
def T26 : Table := (26, c26) :: T25
theorem T26_sound : Table.Sound Go.Proofs.Try.prog Hx T26 := Table.sound_cons s26 T25_sound
end Go.Ev
end
