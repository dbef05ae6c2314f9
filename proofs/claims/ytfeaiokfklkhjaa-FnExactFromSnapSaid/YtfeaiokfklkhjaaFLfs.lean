/- Contracts of functions, each by its evaluation. -/
import Derived.Test.YtfeaiokfklkhjaaEvMd
import Derived.Test.YtfeaiokfklkhjaaProg
import Derived.KernelRfl
import Derived.Test.YtfeaiokfklkhjaaFHfs
set_option linter.unusedVariables false
set_option linter.unusedSimpArgs false
set_option maxRecDepth 100000
noncomputable section
open List (getD length drop take set append replicate all isEmpty)
open Int (toNat ofNat)
open Go.IntKind (i64 wrap)
open Go.Proofs.Try (prog)
namespace Go.Ev
open Go.RowKit Go.Md
end Go.Ev
namespace Go.Md
open Go Go.Ev
theorem cntS_le {α : Type} {n w : α → Int} (h : ∀ x, n x ≤ 64 * (1 + w x)) : ∀ xs : List α, cntS n xs ≤ 64 * ((xs.length : Int) + cntS w xs)
  | [] => by simp [cntS]
  | x :: xs => by
    have h1 := h x
    have h2 := cntS_le h xs
    unfold cntS
    rw [List.length_cons]
    push_cast
    omega
theorem cntS_mark {α : Type} {mk : α → Int → α} {n w : α → Int} (h : ∀ x k, w (mk x k) = w x) : ∀ (xs : List α) (k : Int), cntS w (markS mk n xs k) = cntS w xs
  | [], _ => rfl
  | x :: xs, k => by
    show w (mk x k) + cntS w (markS mk n xs (k + n x)) = w x + cntS w xs
    rw [h, cntS_mark h xs]
theorem all_b60 {α : Type} {p q : α → Bool} (h : ∀ x, p x = true → q x = true) (xs : List α) (hp : xs.all p = true) : xs.all q = true := List.all_eq_true.2 (fun x hx => h x (List.all_eq_true.1 hp x hx))
theorem byteMk_idem (x : UInt8) (k : Int) : byteMk (byteMk x k) k = byteMk x k := rfl
theorem Snap.mkTop_idem (x : Snap) (k : Int) : Snap.mkTop (Snap.mkTop x k) k = Snap.mkTop x k := by simp only [Snap.mkTop, (markS_idem (mk := byteMk) (n := oneN) byteMk_idem (fun _ _ => rfl) _ _).1, (markS_idem (mk := byteMk) (n := oneN) byteMk_idem (fun _ _ => rfl) _ _).2]
theorem Snap.nTop_mk (x : Snap) (k : Int) : Snap.nTop (Snap.mkTop x k) = Snap.nTop x := by simp only [Snap.mkTop, Snap.nTop, (markS_idem (mk := byteMk) (n := oneN) byteMk_idem (fun _ _ => rfl) _ _).1, (markS_idem (mk := byteMk) (n := oneN) byteMk_idem (fun _ _ => rfl) _ _).2]
theorem Snap.wt_mk (x : Snap) (k : Int) : Snap.wt (Snap.mkTop x k) = Snap.wt x := by simp only [Snap.wt, Snap.mkTop, markS_length]
theorem Snap.nTop_le (x : Snap) : Snap.nTop x ≤ 64 * Snap.wt x := by have c0 : cntS oneN x.Bytes = 1 * (x.Bytes.length : Int) := cntS_const (fun _ => rfl) _; simp only [Snap.nTop, Snap.wt]; omega
theorem Snap.t60 (x : Snap) (h : Snap.small x = true) : (decide (x.Bytes.length ≤ 1152921504606846976)) = true := by
  simp only [Snap.small, Bool.and_eq_true, decide_eq_true_eq] at h
  simp only [Bool.and_eq_true, decide_eq_true_eq]
  grind [all_b60]
theorem Snap.top_ok (x : Snap) (k : Int) (h0 : 0 ≤ k) (hk : k ≤ 1000000000000) (hw : Snap.wt x ≤ 1048576) : (decide (0 ≤ k) && (decide (k + Snap.nTop x ≤ 4611686018427387904) && (decide (x.Bytes.length ≤ 1152921504606846976)))) = true := by
  have hs := Snap.small_of x hw
  have hn := Snap.nTop_le x
  rw [Snap.t60 x hs, decide_eq_true h0, decide_eq_true (show k + Snap.nTop x ≤ 4611686018427387904 by omega)]
  rfl
theorem Vec.mk_idem (x : Vec) (k : Int) : Vec.mk_ (Vec.mk_ x k) k = Vec.mk_ x k := rfl
theorem Vec.n_mk (x : Vec) (k : Int) : Vec.n_ (Vec.mk_ x k) = Vec.n_ x := rfl
theorem In.mk_idem (x : In) (k : Int) : In.mk_ (In.mk_ x k) k = In.mk_ x k := rfl
theorem In.n_mk (x : In) (k : Int) : In.n_ (In.mk_ x k) = In.n_ x := rfl
theorem In.lok (xs : List In) (k : Int) (h0 : 0 ≤ k) (hk : k ≤ 1000000000000) (hw : (xs.length : Int) ≤ 1048576) : (decide (0 ≤ k) && (decide (k + cntS In.n_ xs ≤ 4611686018427387904) && decide (xs.length ≤ 1152921504606846976))) = true := by
  have c0 : cntS In.n_ xs = 8 * (xs.length : Int) := cntS_const (fun _ => rfl) _
  simp only [Bool.and_eq_true, decide_eq_true_eq]
  exact ⟨h0, by omega, by omega⟩
theorem In.lsm (xs : List In) (hw : (xs.length : Int) ≤ 1048576) : (decide (xs.length ≤ 1048576)) = true := by
  exact decide_eq_true (by omega)
theorem Port.mk_idem (x : Port) (k : Int) : Port.mk_ (Port.mk_ x k) k = Port.mk_ x k := rfl
theorem Port.n_mk (x : Port) (k : Int) : Port.n_ (Port.mk_ x k) = Port.n_ x := rfl
theorem Bridge.mkTop_idem (x : Bridge) (k : Int) : Bridge.mkTop (Bridge.mkTop x k) k = Bridge.mkTop x k := by simp only [Bridge.mkTop, (markS_idem (mk := Port.mk_) (n := Port.n_) Port.mk_idem Port.n_mk _ _).1, (markS_idem (mk := Port.mk_) (n := Port.n_) Port.mk_idem Port.n_mk _ _).2]
theorem Bridge.nTop_mk (x : Bridge) (k : Int) : Bridge.nTop (Bridge.mkTop x k) = Bridge.nTop x := by simp only [Bridge.mkTop, Bridge.nTop, (markS_idem (mk := Port.mk_) (n := Port.n_) Port.mk_idem Port.n_mk _ _).1, (markS_idem (mk := Port.mk_) (n := Port.n_) Port.mk_idem Port.n_mk _ _).2]
theorem Bridge.wt_mk (x : Bridge) (k : Int) : Bridge.wt (Bridge.mkTop x k) = Bridge.wt x := by simp only [Bridge.wt, Bridge.mkTop, markS_length]
theorem Bridge.nTop_le (x : Bridge) : Bridge.nTop x ≤ 64 * Bridge.wt x := by have c0 : cntS Port.n_ x.Ports = 11 * (x.Ports.length : Int) := cntS_const (fun _ => rfl) _; simp only [Bridge.nTop, Bridge.wt]; omega
theorem Bridge.t60 (x : Bridge) (h : Bridge.small x = true) : (decide (x.Ports.length ≤ 1152921504606846976)) = true := by
  simp only [Bridge.small, Bool.and_eq_true, decide_eq_true_eq] at h
  simp only [Bool.and_eq_true, decide_eq_true_eq]
  grind [all_b60]
theorem Bridge.top_ok (x : Bridge) (k : Int) (h0 : 0 ≤ k) (hk : k ≤ 1000000000000) (hw : Bridge.wt x ≤ 1048576) : (decide (0 ≤ k) && (decide (k + Bridge.nTop x ≤ 4611686018427387904) && (decide (x.Ports.length ≤ 1152921504606846976)))) = true := by
  have hs := Bridge.small_of x hw
  have hn := Bridge.nTop_le x
  rw [Bridge.t60 x hs, decide_eq_true h0, decide_eq_true (show k + Bridge.nTop x ≤ 4611686018427387904 by omega)]
  rfl
end Go.Md
namespace Go.Ev
open Go.Md
end Go.Ev
end
noncomputable section
open List (getD length drop take set append replicate all isEmpty)
open Int (toNat ofNat)
open Go.IntKind (i64 wrap)
open Go.Proofs.Try (prog f5 func5)
namespace Go.Ev
open Go.RowKit Go.Md
def o5 (aS : Snap) (aLog : List In) : Bool × List Row × List Row := (Snap.big aS && decide (aLog.length ≤ 9223372036854775807), [[.bool (true)]], [])
def c5 : Contract
  | [[.int .i64 aS_N, .sl false 1 aS_Bytes], [.sl false 8 aLog]] => some (isS UInt8 false aS_Bytes && isS In false aLog && (o5 ⟨aS_N, (deS UInt8 aS_Bytes)⟩ (deS In aLog)).1, (o5 ⟨aS_N, (deS UInt8 aS_Bytes)⟩ (deS In aLog)).2.1, (o5 ⟨aS_N, (deS UInt8 aS_Bytes)⟩ (deS In aLog)).2.2)
  | _ => none
def v5_0 (aS : Snap) : Bool := isS UInt8 false (enS false (Snap.Bytes aS))
def v5_1 (aS : Snap) : List UInt8 := deS UInt8 (enS false (Snap.Bytes aS))
def v5_2 (aS : Snap) : Int := szR (Snap.wt (Snap.mk (Snap.N aS) (v5_1 aS))) (1048576)
def v5_3 (aLog : List In) : Bool := isS In false (enS false aLog)
def v5_4 (aLog : List In) : List In := deS In (enS false aLog)
def v5_5 (aS : Snap) (aLog : List In) : Int := szR (ofNat (length (v5_4 aLog))) (v5_2 aS)
def v5_6 (aS : Snap) : Bool := v5_0 aS && Snap.small (Snap.mk (Snap.N aS) (v5_1 aS))
def v5_7 (aLog : List In) : Bool := v5_3 aLog && decide (length (v5_4 aLog) ≤ 1048576)
def v5_8 (aS : Snap) : List (List D) := enS true (v5_1 aS)
def v5_9 (aS : Snap) : List (List D) := lendRows (v5_8 aS)
def v5_10 (aS : Snap) : Bool := isS UInt8 false (v5_9 aS)
def v5_11 (aLog : List In) : List (List D) := enS true (v5_4 aLog)
def v5_12 (aLog : List In) : List (List D) := lendRows (v5_11 aLog)
def v5_13 (aLog : List In) : Bool := isS In false (v5_12 aLog)
def v5_14 (aS : Snap) : List UInt8 := deS UInt8 (v5_9 aS)
def v5_15 (aLog : List In) : List In := deS In (v5_12 aLog)
def v5_16 (aLog : List In) : Bool := decide (length (v5_15 aLog) ≤ 1048576)
def v5_17 (aS : Snap) (aLog : List In) : Bool := v5_10 aS && v5_13 aLog && (decide (length (v5_14 aS) ≤ 1048576) && v5_16 aLog)
def v5_18 (aS : Snap) (aLog : List In) : List (List D) := enS true (Bridge.Ports (fsB (Snap.mk (Snap.N aS) (v5_14 aS)) (v5_15 aLog)))
def v5_19 (aS : Snap) (aLog : List In) : Bool := deepRows (v5_18 aS aLog) && true && true && true && true
def v5_20 (aS : Snap) (aLog : List In) : List (List D) := lendRows (v5_18 aS aLog)
def v5_21 (aS : Snap) (aLog : List In) : Bool := isS Port false (v5_20 aS aLog)
def v5_22 (aS : Snap) (aLog : List In) : Int := Bridge.Id (fsB (Snap.mk (Snap.N aS) (v5_14 aS)) (v5_15 aLog))
def v5_23 (aS : Snap) (aLog : List In) : Bool := v5_21 aS aLog && v5_21 aS aLog && (sameB (Bridge.mk (v5_22 aS aLog) (deS Port (v5_20 aS aLog))) (Bridge.mk (v5_22 aS aLog) (deS Port (v5_20 aS aLog))) && Bridge.small (Bridge.mk (v5_22 aS aLog) (deS Port (v5_20 aS aLog))))
def v5_24 (aS : Snap) (aLog : List In) : Bool := fsOk (Snap.mk (Snap.N aS) (v5_14 aS)) (v5_15 aLog)
def v5_25 (aS : Snap) (aLog : List In) : Bool := v5_24 aS aLog != v5_24 aS aLog
def v5_26 (aS : Snap) : List UInt8 := deS UInt8 (v5_8 aS)
def v5_27 (aS : Snap) : Int := 1 + Snap.nTop (Snap.mk (Snap.N aS) (v5_26 aS))
def v5_28 (aLog : List In) : List In := deS In (v5_11 aLog)
def v5_29 (aS : Snap) (aLog : List In) : Int := v5_27 aS + cntS In.n_ (v5_28 aLog)
def v5_30 (aS : Snap) (aLog : List In) : List Port := deS Port (v5_18 aS aLog)
def v5_31 (aS : Snap) (aLog : List In) : Int := 1 + Bridge.nTop (Bridge.mk (v5_22 aS aLog) (v5_30 aS aLog))
def v5_32 (aS : Snap) (aLog : List In) : List (List D) := lendRows (enS true (Bridge.Ports (Bridge.mkTop (Bridge.mk (v5_22 aS aLog) (v5_30 aS aLog)) (1))))
def v5_33 (aS : Snap) (aLog : List In) : List Port := deS Port (v5_32 aS aLog)
def v5_34 (aS : Snap) (aLog : List In) : Int := 1 + Bridge.nTop (Bridge.mk (v5_22 aS aLog) (v5_33 aS aLog))
def v5_35 (aS : Snap) (aLog : List In) : Bool := isS Port false (v5_32 aS aLog) && (sameB (Bridge.mkTop (Bridge.mk (v5_22 aS aLog) (v5_33 aS aLog)) (1)) (Bridge.mk (v5_22 aS aLog) (v5_33 aS aLog)) && (decide (v5_34 aS aLog ≤ 4611686018427387904) && decide (length (v5_33 aS aLog) ≤ 1152921504606846976)))
def v5_36 (aS : Snap) (aLog : List In) : Bool := decide (v5_34 aS aLog < 0)
def v5_37 (aS : Snap) (aLog : List In) : Bool := v5_34 aS aLog != v5_31 aS aLog
theorem r5 (aS : Snap) (aLog : List In) (n : Nat) : evFn ⟨prog, Hx, 5⟩ T31.call n f5 [[.int .i64 aS.N, .sl false 1 (enS false aS.Bytes)], [.sl false 8 (enS false aLog)]] = bif v5_0 aS && Snap.big (Snap.mk (Snap.N aS) (v5_1 aS)) then bif decide (v5_2 aS < 0) then some ([[D.bool true]], []) else bif v5_3 aLog && (decide (0 ≤ v5_2 aS) && (decide (v5_2 aS ≤ 1048576) && decide (length (v5_4 aLog) ≤ 9223372036854775807))) then bif decide (v5_5 aS aLog < 0) then some ([[D.bool true]], []) else bif v5_6 aS then bif v5_7 aLog then bif v5_17 aS aLog then bif v5_19 aS aLog then bif v5_6 aS then bif v5_7 aLog then bif v5_17 aS aLog then bif v5_19 aS aLog then bif v5_23 aS aLog then bif v5_25 aS aLog then some ([[D.bool false]], []) else bif v5_6 aS then bif v5_10 aS && v5_10 aS && (sameB (Snap.mk (Snap.N aS) (v5_14 aS)) (Snap.mk (Snap.N aS) (v5_14 aS)) && Snap.small (Snap.mk (Snap.N aS) (v5_14 aS))) then bif v5_7 aLog then bif v5_13 aLog && v5_13 aLog && (sameB (v5_15 aLog) (v5_15 aLog) && v5_16 aLog) then bif isS UInt8 true (v5_8 aS) && (decide (v5_27 aS ≤ 4611686018427387904) && decide (length (v5_26 aS) ≤ 1152921504606846976)) then bif isS In true (v5_11 aLog) && (decide (0 ≤ v5_27 aS) && (decide (v5_29 aS aLog ≤ 4611686018427387904) && decide (length (v5_28 aLog) ≤ 1152921504606846976))) then bif decide (v5_29 aS aLog < 0) then some ([[D.bool false]], []) else bif v5_23 aS aLog then bif v5_25 aS aLog then some ([[D.bool false]], []) else bif isS Port true (v5_18 aS aLog) && (decide (v5_31 aS aLog ≤ 4611686018427387904) && decide (length (v5_30 aS aLog) ≤ 1152921504606846976)) then bif v5_35 aS aLog then bif v5_36 aS aLog then some ([[D.bool false]], []) else bif v5_37 aS aLog then some ([[D.bool false]], []) else bif v5_6 aS then bif v5_7 aLog then bif v5_17 aS aLog then bif v5_19 aS aLog then bif v5_23 aS aLog then bif v5_25 aS aLog then some ([[D.bool false]], []) else bif v5_35 aS aLog then bif v5_36 aS aLog then some ([[D.bool false]], []) else bif v5_37 aS aLog then some ([[D.bool false]], []) else some ([[D.bool true]], []) else none else none else none else none else none else none else none else none else none else none else none else none else none else none else none else none else none else none else none else none else none else none else none else none else none else none := by kernel_rfl
theorem m5 (aS : Snap) (aLog : List In) (hpre : (o5 aS aLog).1 = true) : evFn ⟨Go.Proofs.Try.prog, Hx, 5⟩ T31.call 0 f5 [[.int .i64 aS.N, .sl false 1 (enS false aS.Bytes)], [.sl false 8 (enS false aLog)]] = some (o5 aS aLog).2 := by
  refine (r5 aS aLog _).trans ?_
  show _ = (some ([[.bool (true)]], []) : Option (List Row × List Row))
  replace hpre : (Snap.big aS && decide (aLog.length ≤ 9223372036854775807)) = true := hpre
  rw [Bool.and_eq_true] at hpre
  obtain ⟨hpre, hpre1⟩ := hpre
  have p0 : 0 ≤ Snap.wt aS := Snap.wt_pos aS
  rcases szR_cases (Snap.wt aS) (1048576) (by omega) with ⟨hw0, he0, hz0⟩ | ⟨_, _, hz0⟩
  case inr => simp only [v5_0, v5_1, v5_2, v5_3, v5_4, v5_5, v5_6, v5_7, v5_8, v5_9, v5_10, v5_11, v5_12, v5_13, v5_14, v5_15, v5_16, v5_17, v5_18, v5_19, v5_20, v5_21, v5_22, v5_23, v5_24, v5_25, v5_26, v5_27, v5_28, v5_29, v5_30, v5_31, v5_32, v5_33, v5_34, v5_35, v5_36, v5_37, hpre, hpre1, Int.ofNat_eq_natCast, hz0, isS_enS, deS_enS, Bool.and_self, Bool.and_true, Bool.true_and, cond_true, cond_false, TReader.eta, Frame.eta, Heard.eta, Member.eta, Card.eta, Out1.eta, Vec.eta, Port.eta, Bridge.eta, In.eta, Out.eta, Link.eta, Net.eta, TEnd.eta, Minder.eta, Reg.eta, Wire.eta, Box.eta, Deed.eta, Bpdu.eta, Visit.eta, Fabric.eta, Got.eta, TRide.eta, Up.eta, Copy.eta, Bucket.eta, Snap.eta, TL9Cur.eta, TL21In.eta]
  have q0 : decide (0 ≤ 1048576 - Snap.wt aS) = true := decide_eq_true (by omega)
  have r0 : decide (1048576 - Snap.wt aS ≤ 1048576) = true := decide_eq_true (by have := Snap.wt_pos aS; omega)
  have p1 : 0 ≤ (aLog.length : Int) := by omega
  have z0 : decide (1048576 - Snap.wt aS < 0) = false := decide_eq_false (by omega)
  rcases szR_cases ((aLog.length : Int)) (1048576 - Snap.wt aS) (by omega) with ⟨hw1, he1, hz1⟩ | ⟨_, _, hz1⟩
  case inr => simp only [v5_0, v5_1, v5_2, v5_3, v5_4, v5_5, v5_6, v5_7, v5_8, v5_9, v5_10, v5_11, v5_12, v5_13, v5_14, v5_15, v5_16, v5_17, v5_18, v5_19, v5_20, v5_21, v5_22, v5_23, v5_24, v5_25, v5_26, v5_27, v5_28, v5_29, v5_30, v5_31, v5_32, v5_33, v5_34, v5_35, v5_36, v5_37, z0, hpre, hpre1, Int.ofNat_eq_natCast, hz0, he0, q0, r0, hz1, isS_enS, deS_enS, Bool.and_self, Bool.and_true, Bool.true_and, cond_true, cond_false, TReader.eta, Frame.eta, Heard.eta, Member.eta, Card.eta, Out1.eta, Vec.eta, Port.eta, Bridge.eta, In.eta, Out.eta, Link.eta, Net.eta, TEnd.eta, Minder.eta, Reg.eta, Wire.eta, Box.eta, Deed.eta, Bpdu.eta, Visit.eta, Fabric.eta, Got.eta, TRide.eta, Up.eta, Copy.eta, Bucket.eta, Snap.eta, TL9Cur.eta, TL21In.eta]
  have hsm0 := Snap.small_of aS (by omega)
  have hsm1 := In.lsm aLog (by omega)
  have n0 : 0 ≤ Snap.nTop aS := Snap.nTop_pos aS
  have m0 : Snap.nTop aS ≤ 100000000 := by have := Snap.nTop_le aS; omega
  have x0 := Snap.top_ok aS (1) (by omega) (by omega) (by omega)
  simp only [Bool.and_eq_true] at x0
  have y0 : decide (1 + Snap.nTop aS < 0) = false := decide_eq_false (by omega)
  have n1 : 0 ≤ cntS In.n_ aLog := cntS_nonneg In.n_pos aLog
  have m1 : cntS In.n_ aLog ≤ 100000000 := by have c0 : cntS In.n_ aLog = 8 * (aLog.length : Int) := cntS_const (fun _ => rfl) _; omega
  have x1 := In.lok aLog (1 + Snap.nTop aS) (by omega) (by omega) (by omega)
  simp only [Bool.and_eq_true] at x1
  have y1 : decide (1 + Snap.nTop aS + cntS In.n_ aLog < 0) = false := decide_eq_false (by omega)
  have hl0 : Bridge.wt ((fsB aS aLog)) ≤ 1048576 := by have := fsB_len aS aLog; show (((fsB aS aLog).Ports.length : Nat) : Int) ≤ 1048576; omega
  generalize hg0 : (fsB aS aLog) = g0 at hl0 ⊢
  have nn0 : 0 ≤ Bridge.nTop g0 := Bridge.nTop_pos g0
  have mm0 : Bridge.nTop g0 ≤ 100000000 := by have := Bridge.nTop_le g0; omega
  have ia0 := Bridge.mkTop_idem g0 (1)
  have ib0 := Bridge.nTop_mk g0 (1)
  have ka0 := Bridge.top_ok g0 (1) (by omega) (by omega) hl0
  have kb0 := Bridge.top_ok (Bridge.mkTop g0 (1)) (1) (by omega) (by omega) (by rw [Bridge.wt_mk]; exact hl0)
  simp only [ib0, markS_length, Bool.and_eq_true] at ka0 kb0
  have kc0 := Bridge.small_of g0 hl0
  try simp only [Bool.and_eq_true] at kc0
  have kd0 : decide (1 + Bridge.nTop g0 < 0) = false := decide_eq_false (by omega)
  have ea0 : (⟨g0.Id, (Bridge.mkTop g0 (1)).Ports⟩ : Bridge) = Bridge.mkTop g0 (1) := rfl
  have hsm0' : decide (aS.Bytes.length ≤ 1048576) = true := hsm0
  simp only [v5_0, v5_1, v5_2, v5_3, v5_4, v5_5, v5_6, v5_7, v5_8, v5_9, v5_10, v5_11, v5_12, v5_13, v5_14, v5_15, v5_16, v5_17, v5_18, v5_19, v5_20, v5_21, v5_22, v5_23, v5_24, v5_25, v5_26, v5_27, v5_28, v5_29, v5_30, v5_31, v5_32, v5_33, v5_34, v5_35, v5_36, v5_37, z0, ea0, hsm0', hpre, hpre1, Int.ofNat_eq_natCast, hz0, he0, q0, r0, hz1, hsm0, hsm1, x0, y0, x1, y1, hg0, ia0, ib0, ka0, kb0, kc0, kd0, isS_enS, deS_enS, lendRows_enS, deepRows_enS, sameB_self, enS_length, markS_length, Bool.and_self, Bool.and_true, Bool.true_and, cond_true, cond_false, Bool.not_true, Bool.not_false, bne_self_eq_false, noSl_u8, TReader.eta, Frame.eta, Heard.eta, Member.eta, Card.eta, Out1.eta, Vec.eta, Port.eta, Bridge.eta, In.eta, Out.eta, Link.eta, Net.eta, TEnd.eta, Minder.eta, Reg.eta, Wire.eta, Box.eta, Deed.eta, Bpdu.eta, Visit.eta, Fabric.eta, Got.eta, TRide.eta, Up.eta, Copy.eta, Bucket.eta, Snap.eta, TL9Cur.eta, TL21In.eta]
theorem s5 : SoundAt Go.Proofs.Try.prog Hx 5 c5 := soundAt_of T31_sound mixed func5 (by kernel_rfl) (by
  intro rows r h
  unfold c5 at h
  split at h
  · rename_i aS_N aS_Bytes aLog
    obtain ⟨hp, hr⟩ := Prod.mk.inj (Option.some.inj h)
    subst hr
    simp only [Bool.and_eq_true] at hp
    obtain ⟨⟨hs0, hs1⟩, hp⟩ := hp
    obtain ⟨xs0, rfl⟩ := isS_ex hs0
    obtain ⟨xs1, rfl⟩ := isS_ex hs1
    simp only [deS_enS] at hp ⊢
    exact ⟨_, m5 ⟨aS_N, xs0⟩ xs1 hp⟩
  · cases h)
def T5 : Table := (5, c5) :: T31
theorem T5_sound : Table.Sound Go.Proofs.Try.prog Hx T5 := Table.sound_cons s5 T31_sound
end Go.Ev
end
