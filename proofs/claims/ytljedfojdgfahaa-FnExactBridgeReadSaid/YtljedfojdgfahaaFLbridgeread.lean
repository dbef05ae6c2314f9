/- Contracts of functions, each by its evaluation. -/
import Derived.Test.YtljedfojdgfahaaEvMd
import Derived.Test.YtljedfojdgfahaaProg
import Derived.KernelRfl
import Derived.Test.YtljedfojdgfahaaFHbr
set_option linter.unusedVariables false
set_option linter.unusedSimpArgs false
set_option maxRecDepth 100000
noncomputable section
open List (getD length drop take set append replicate all isEmpty)
open Int (toNat ofNat)
open Go.IntKind (i64 wrap)
open Go.Proofs.Try (prog)
namespace Go.Ev
open Go.RowKit Go.Md
end Go.Ev
namespace Go.Md
open Go Go.Ev
theorem cntS_le {α : Type} {n w : α → Int} (h : ∀ x, n x ≤ 64 * (1 + w x)) : ∀ xs : List α, cntS n xs ≤ 64 * ((xs.length : Int) + cntS w xs)
  | [] => by simp [cntS]
  | x :: xs => by
    have h1 := h x
    have h2 := cntS_le h xs
    unfold cntS
    rw [List.length_cons]
    push_cast
    omega
theorem cntS_mark {α : Type} {mk : α → Int → α} {n w : α → Int} (h : ∀ x k, w (mk x k) = w x) : ∀ (xs : List α) (k : Int), cntS w (markS mk n xs k) = cntS w xs
  | [], _ => rfl
  | x :: xs, k => by
    show w (mk x k) + cntS w (markS mk n xs (k + n x)) = w x + cntS w xs
    rw [h, cntS_mark h xs]
theorem all_b60 {α : Type} {p q : α → Bool} (h : ∀ x, p x = true → q x = true) (xs : List α) (hp : xs.all p = true) : xs.all q = true := List.all_eq_true.2 (fun x hx => h x (List.all_eq_true.1 hp x hx))
theorem Vec.mk_idem (x : Vec) (k : Int) : Vec.mk_ (Vec.mk_ x k) k = Vec.mk_ x k := rfl
theorem Vec.n_mk (x : Vec) (k : Int) : Vec.n_ (Vec.mk_ x k) = Vec.n_ x := rfl
theorem Port.mk_idem (x : Port) (k : Int) : Port.mk_ (Port.mk_ x k) k = Port.mk_ x k := rfl
theorem Port.n_mk (x : Port) (k : Int) : Port.n_ (Port.mk_ x k) = Port.n_ x := rfl
theorem Bridge.mkTop_idem (x : Bridge) (k : Int) : Bridge.mkTop (Bridge.mkTop x k) k = Bridge.mkTop x k := by simp only [Bridge.mkTop, (markS_idem (mk := Port.mk_) (n := Port.n_) Port.mk_idem Port.n_mk _ _).1, (markS_idem (mk := Port.mk_) (n := Port.n_) Port.mk_idem Port.n_mk _ _).2]
theorem Bridge.nTop_mk (x : Bridge) (k : Int) : Bridge.nTop (Bridge.mkTop x k) = Bridge.nTop x := by simp only [Bridge.mkTop, Bridge.nTop, (markS_idem (mk := Port.mk_) (n := Port.n_) Port.mk_idem Port.n_mk _ _).1, (markS_idem (mk := Port.mk_) (n := Port.n_) Port.mk_idem Port.n_mk _ _).2]
theorem Bridge.wt_mk (x : Bridge) (k : Int) : Bridge.wt (Bridge.mkTop x k) = Bridge.wt x := by simp only [Bridge.wt, Bridge.mkTop, markS_length]
theorem Bridge.nTop_le (x : Bridge) : Bridge.nTop x ≤ 64 * Bridge.wt x := by have c0 : cntS Port.n_ x.Ports = 11 * (x.Ports.length : Int) := cntS_const (fun _ => rfl) _; simp only [Bridge.nTop, Bridge.wt]; omega
theorem Bridge.t60 (x : Bridge) (h : Bridge.small x = true) : (decide (x.Ports.length ≤ 1152921504606846976)) = true := by
  simp only [Bridge.small, Bool.and_eq_true, decide_eq_true_eq] at h
  simp only [Bool.and_eq_true, decide_eq_true_eq]
  grind [all_b60]
theorem Bridge.top_ok (x : Bridge) (k : Int) (h0 : 0 ≤ k) (hk : k ≤ 1000000000000) (hw : Bridge.wt x ≤ 1048576) : (decide (0 ≤ k) && (decide (k + Bridge.nTop x ≤ 4611686018427387904) && (decide (x.Ports.length ≤ 1152921504606846976)))) = true := by
  have hs := Bridge.small_of x hw
  have hn := Bridge.nTop_le x
  rw [Bridge.t60 x hs, decide_eq_true h0, decide_eq_true (show k + Bridge.nTop x ≤ 4611686018427387904 by omega)]
  rfl
theorem byteMk_idem (x : UInt8) (k : Int) : byteMk (byteMk x k) k = byteMk x k := rfl
theorem byte.lok (xs : List UInt8) (k : Int) (h0 : 0 ≤ k) (hk : k ≤ 1000000000000) (hw : (xs.length : Int) ≤ 1048576) : (decide (0 ≤ k) && (decide (k + cntS oneN xs ≤ 4611686018427387904) && decide (xs.length ≤ 1152921504606846976))) = true := by
  have c0 : cntS oneN xs = 1 * (xs.length : Int) := cntS_const (fun _ => rfl) _
  simp only [Bool.and_eq_true, decide_eq_true_eq]
  exact ⟨h0, by omega, by omega⟩
theorem byte.lsm (xs : List UInt8) (hw : (xs.length : Int) ≤ 1048576) : (decide (xs.length ≤ 1048576)) = true := by
  exact decide_eq_true (by omega)
end Go.Md
namespace Go.Ev
open Go.Md
/- law -/
def o4 (aB : List UInt8) : Bool × List Row × List Row := (decide (aB.length ≤ 9223372036854775807), [[.bool (true)]], [])
def c4 : Contract
  | [[.sl false 1 aB]] => some (isS UInt8 false aB && (o4 (deS UInt8 aB)).1, (o4 (deS UInt8 aB)).2.1, (o4 (deS UInt8 aB)).2.2)
  | _ => none

theorem r4 (aB : List UInt8) (n : Nat) : evFn ⟨prog, Hx, 4⟩ T19.call n Go.Proofs.Try.f4 [[.sl false 1 (enS false aB)]] = bif decide (ofNat (length (enS false aB)) > 1048576) then some ([[D.bool true]], []) else bif isS UInt8 false (enS false aB) && decide (length (deS UInt8 (enS false aB)) ≤ 1048576) then bif isS UInt8 false (lendRows (enS true (deS UInt8 (enS false aB)))) && decide (length (deS UInt8 (lendRows (enS true (deS UInt8 (enS false aB))))) ≤ 1048576) then bif deepRows (enS true (Bridge.Ports (Prod.fst (brS (deS UInt8 (lendRows (enS true (deS UInt8 (enS false aB))))))))) && true && true && true && true then bif isS UInt8 false (enS false aB) && decide (length (deS UInt8 (enS false aB)) ≤ 1048576) then bif isS UInt8 false (lendRows (enS true (deS UInt8 (enS false aB)))) && decide (length (deS UInt8 (lendRows (enS true (deS UInt8 (enS false aB))))) ≤ 1048576) then bif deepRows (enS true (Bridge.Ports (Prod.fst (brI (deS UInt8 (lendRows (enS true (deS UInt8 (enS false aB))))))))) && true && true && true && true then bif isS Port false (lendRows (enS true (Bridge.Ports (Prod.fst (brI (deS UInt8 (lendRows (enS true (deS UInt8 (enS false aB)))))))))) && isS Port false (lendRows (enS true (Bridge.Ports (Prod.fst (brS (deS UInt8 (lendRows (enS true (deS UInt8 (enS false aB)))))))))) && (sameB (Bridge.mk (Bridge.Id (Prod.fst (brI (deS UInt8 (lendRows (enS true (deS UInt8 (enS false aB)))))))) (deS Port (lendRows (enS true (Bridge.Ports (Prod.fst (brI (deS UInt8 (lendRows (enS true (deS UInt8 (enS false aB)))))))))))) (Bridge.mk (Bridge.Id (Prod.fst (brS (deS UInt8 (lendRows (enS true (deS UInt8 (enS false aB)))))))) (deS Port (lendRows (enS true (Bridge.Ports (Prod.fst (brS (deS UInt8 (lendRows (enS true (deS UInt8 (enS false aB)))))))))))) && Bridge.small (Bridge.mk (Bridge.Id (Prod.fst (brI (deS UInt8 (lendRows (enS true (deS UInt8 (enS false aB)))))))) (deS Port (lendRows (enS true (Bridge.Ports (Prod.fst (brI (deS UInt8 (lendRows (enS true (deS UInt8 (enS false aB))))))))))))) then bif Prod.snd (brI (deS UInt8 (lendRows (enS true (deS UInt8 (enS false aB)))))) != Prod.snd (brS (deS UInt8 (lendRows (enS true (deS UInt8 (enS false aB)))))) then some ([[D.bool false]], []) else bif isS UInt8 false (enS false aB) && decide (length (deS UInt8 (enS false aB)) ≤ 1048576) then bif isS UInt8 false (lendRows (enS true (deS UInt8 (enS false aB)))) && isS UInt8 false (lendRows (enS true (deS UInt8 (enS false aB)))) && (sameB (deS UInt8 (lendRows (enS true (deS UInt8 (enS false aB))))) (deS UInt8 (lendRows (enS true (deS UInt8 (enS false aB))))) && decide (length (deS UInt8 (lendRows (enS true (deS UInt8 (enS false aB))))) ≤ 1048576)) then bif isS UInt8 true (enS true (deS UInt8 (enS false aB))) && (decide (1 + cntS oneN (deS UInt8 (enS true (deS UInt8 (enS false aB)))) ≤ 4611686018427387904) && decide (length (deS UInt8 (enS true (deS UInt8 (enS false aB)))) ≤ 1152921504606846976)) then bif decide (1 + cntS oneN (deS UInt8 (enS true (deS UInt8 (enS false aB)))) < 0) then some ([[D.bool false]], []) else bif isS Port false (lendRows (enS true (Bridge.Ports (Prod.fst (brI (deS UInt8 (lendRows (enS true (deS UInt8 (enS false aB)))))))))) && isS Port false (lendRows (enS true (Bridge.Ports (Prod.fst (brS (deS UInt8 (lendRows (enS true (deS UInt8 (enS false aB)))))))))) && (sameB (Bridge.mk (Bridge.Id (Prod.fst (brI (deS UInt8 (lendRows (enS true (deS UInt8 (enS false aB)))))))) (deS Port (lendRows (enS true (Bridge.Ports (Prod.fst (brI (deS UInt8 (lendRows (enS true (deS UInt8 (enS false aB)))))))))))) (Bridge.mk (Bridge.Id (Prod.fst (brS (deS UInt8 (lendRows (enS true (deS UInt8 (enS false aB)))))))) (deS Port (lendRows (enS true (Bridge.Ports (Prod.fst (brS (deS UInt8 (lendRows (enS true (deS UInt8 (enS false aB)))))))))))) && Bridge.small (Bridge.mk (Bridge.Id (Prod.fst (brI (deS UInt8 (lendRows (enS true (deS UInt8 (enS false aB)))))))) (deS Port (lendRows (enS true (Bridge.Ports (Prod.fst (brI (deS UInt8 (lendRows (enS true (deS UInt8 (enS false aB))))))))))))) then bif Prod.snd (brI (deS UInt8 (lendRows (enS true (deS UInt8 (enS false aB)))))) != Prod.snd (brS (deS UInt8 (lendRows (enS true (deS UInt8 (enS false aB)))))) then some ([[D.bool false]], []) else bif isS Port true (enS true (Bridge.Ports (Prod.fst (brI (deS UInt8 (lendRows (enS true (deS UInt8 (enS false aB))))))))) && (decide (1 + Bridge.nTop (Bridge.mk (Bridge.Id (Prod.fst (brI (deS UInt8 (lendRows (enS true (deS UInt8 (enS false aB)))))))) (deS Port (enS true (Bridge.Ports (Prod.fst (brI (deS UInt8 (lendRows (enS true (deS UInt8 (enS false aB))))))))))) ≤ 4611686018427387904) && decide (length (deS Port (enS true (Bridge.Ports (Prod.fst (brI (deS UInt8 (lendRows (enS true (deS UInt8 (enS false aB)))))))))) ≤ 1152921504606846976)) then bif isS Port false (lendRows (enS true (Bridge.Ports (Bridge.mkTop (Bridge.mk (Bridge.Id (Prod.fst (brI (deS UInt8 (lendRows (enS true (deS UInt8 (enS false aB)))))))) (deS Port (enS true (Bridge.Ports (Prod.fst (brI (deS UInt8 (lendRows (enS true (deS UInt8 (enS false aB))))))))))) (1))))) && (sameB (Bridge.mkTop (Bridge.mk (Bridge.Id (Prod.fst (brI (deS UInt8 (lendRows (enS true (deS UInt8 (enS false aB)))))))) (deS Port (lendRows (enS true (Bridge.Ports (Bridge.mkTop (Bridge.mk (Bridge.Id (Prod.fst (brI (deS UInt8 (lendRows (enS true (deS UInt8 (enS false aB)))))))) (deS Port (enS true (Bridge.Ports (Prod.fst (brI (deS UInt8 (lendRows (enS true (deS UInt8 (enS false aB))))))))))) (1))))))) (1)) (Bridge.mk (Bridge.Id (Prod.fst (brI (deS UInt8 (lendRows (enS true (deS UInt8 (enS false aB)))))))) (deS Port (lendRows (enS true (Bridge.Ports (Bridge.mkTop (Bridge.mk (Bridge.Id (Prod.fst (brI (deS UInt8 (lendRows (enS true (deS UInt8 (enS false aB)))))))) (deS Port (enS true (Bridge.Ports (Prod.fst (brI (deS UInt8 (lendRows (enS true (deS UInt8 (enS false aB))))))))))) (1))))))) && (decide (1 + Bridge.nTop (Bridge.mk (Bridge.Id (Prod.fst (brI (deS UInt8 (lendRows (enS true (deS UInt8 (enS false aB)))))))) (deS Port (lendRows (enS true (Bridge.Ports (Bridge.mkTop (Bridge.mk (Bridge.Id (Prod.fst (brI (deS UInt8 (lendRows (enS true (deS UInt8 (enS false aB)))))))) (deS Port (enS true (Bridge.Ports (Prod.fst (brI (deS UInt8 (lendRows (enS true (deS UInt8 (enS false aB))))))))))) (1))))))) ≤ 4611686018427387904) && decide (length (deS Port (lendRows (enS true (Bridge.Ports (Bridge.mkTop (Bridge.mk (Bridge.Id (Prod.fst (brI (deS UInt8 (lendRows (enS true (deS UInt8 (enS false aB)))))))) (deS Port (enS true (Bridge.Ports (Prod.fst (brI (deS UInt8 (lendRows (enS true (deS UInt8 (enS false aB))))))))))) (1)))))) ≤ 1152921504606846976))) then bif decide (1 + Bridge.nTop (Bridge.mk (Bridge.Id (Prod.fst (brI (deS UInt8 (lendRows (enS true (deS UInt8 (enS false aB)))))))) (deS Port (lendRows (enS true (Bridge.Ports (Bridge.mkTop (Bridge.mk (Bridge.Id (Prod.fst (brI (deS UInt8 (lendRows (enS true (deS UInt8 (enS false aB)))))))) (deS Port (enS true (Bridge.Ports (Prod.fst (brI (deS UInt8 (lendRows (enS true (deS UInt8 (enS false aB))))))))))) (1))))))) < 0) then some ([[D.bool false]], []) else bif 1 + Bridge.nTop (Bridge.mk (Bridge.Id (Prod.fst (brI (deS UInt8 (lendRows (enS true (deS UInt8 (enS false aB)))))))) (deS Port (lendRows (enS true (Bridge.Ports (Bridge.mkTop (Bridge.mk (Bridge.Id (Prod.fst (brI (deS UInt8 (lendRows (enS true (deS UInt8 (enS false aB)))))))) (deS Port (enS true (Bridge.Ports (Prod.fst (brI (deS UInt8 (lendRows (enS true (deS UInt8 (enS false aB))))))))))) (1))))))) != 1 + Bridge.nTop (Bridge.mk (Bridge.Id (Prod.fst (brI (deS UInt8 (lendRows (enS true (deS UInt8 (enS false aB)))))))) (deS Port (enS true (Bridge.Ports (Prod.fst (brI (deS UInt8 (lendRows (enS true (deS UInt8 (enS false aB))))))))))) then some ([[D.bool false]], []) else bif isS UInt8 false (enS false aB) && decide (length (deS UInt8 (enS false aB)) ≤ 1048576) then bif isS UInt8 false (lendRows (enS true (deS UInt8 (enS false aB)))) && decide (length (deS UInt8 (lendRows (enS true (deS UInt8 (enS false aB))))) ≤ 1048576) then bif deepRows (enS true (Bridge.Ports (Prod.fst (brI (deS UInt8 (lendRows (enS true (deS UInt8 (enS false aB))))))))) && true && true && true && true then bif isS Port false (lendRows (enS true (Bridge.Ports (Prod.fst (brI (deS UInt8 (lendRows (enS true (deS UInt8 (enS false aB)))))))))) && isS Port false (lendRows (enS true (Bridge.Ports (Prod.fst (brS (deS UInt8 (lendRows (enS true (deS UInt8 (enS false aB)))))))))) && (sameB (Bridge.mk (Bridge.Id (Prod.fst (brI (deS UInt8 (lendRows (enS true (deS UInt8 (enS false aB)))))))) (deS Port (lendRows (enS true (Bridge.Ports (Prod.fst (brI (deS UInt8 (lendRows (enS true (deS UInt8 (enS false aB)))))))))))) (Bridge.mk (Bridge.Id (Prod.fst (brS (deS UInt8 (lendRows (enS true (deS UInt8 (enS false aB)))))))) (deS Port (lendRows (enS true (Bridge.Ports (Prod.fst (brS (deS UInt8 (lendRows (enS true (deS UInt8 (enS false aB)))))))))))) && Bridge.small (Bridge.mk (Bridge.Id (Prod.fst (brI (deS UInt8 (lendRows (enS true (deS UInt8 (enS false aB)))))))) (deS Port (lendRows (enS true (Bridge.Ports (Prod.fst (brI (deS UInt8 (lendRows (enS true (deS UInt8 (enS false aB))))))))))))) then bif Prod.snd (brI (deS UInt8 (lendRows (enS true (deS UInt8 (enS false aB)))))) != Prod.snd (brS (deS UInt8 (lendRows (enS true (deS UInt8 (enS false aB)))))) then some ([[D.bool false]], []) else bif isS Port false (lendRows (enS true (Bridge.Ports (Bridge.mkTop (Bridge.mk (Bridge.Id (Prod.fst (brI (deS UInt8 (lendRows (enS true (deS UInt8 (enS false aB)))))))) (deS Port (enS true (Bridge.Ports (Prod.fst (brI (deS UInt8 (lendRows (enS true (deS UInt8 (enS false aB))))))))))) (1))))) && (sameB (Bridge.mkTop (Bridge.mk (Bridge.Id (Prod.fst (brI (deS UInt8 (lendRows (enS true (deS UInt8 (enS false aB)))))))) (deS Port (lendRows (enS true (Bridge.Ports (Bridge.mkTop (Bridge.mk (Bridge.Id (Prod.fst (brI (deS UInt8 (lendRows (enS true (deS UInt8 (enS false aB)))))))) (deS Port (enS true (Bridge.Ports (Prod.fst (brI (deS UInt8 (lendRows (enS true (deS UInt8 (enS false aB))))))))))) (1))))))) (1)) (Bridge.mk (Bridge.Id (Prod.fst (brI (deS UInt8 (lendRows (enS true (deS UInt8 (enS false aB)))))))) (deS Port (lendRows (enS true (Bridge.Ports (Bridge.mkTop (Bridge.mk (Bridge.Id (Prod.fst (brI (deS UInt8 (lendRows (enS true (deS UInt8 (enS false aB)))))))) (deS Port (enS true (Bridge.Ports (Prod.fst (brI (deS UInt8 (lendRows (enS true (deS UInt8 (enS false aB))))))))))) (1))))))) && (decide (1 + Bridge.nTop (Bridge.mk (Bridge.Id (Prod.fst (brI (deS UInt8 (lendRows (enS true (deS UInt8 (enS false aB)))))))) (deS Port (lendRows (enS true (Bridge.Ports (Bridge.mkTop (Bridge.mk (Bridge.Id (Prod.fst (brI (deS UInt8 (lendRows (enS true (deS UInt8 (enS false aB)))))))) (deS Port (enS true (Bridge.Ports (Prod.fst (brI (deS UInt8 (lendRows (enS true (deS UInt8 (enS false aB))))))))))) (1))))))) ≤ 4611686018427387904) && decide (length (deS Port (lendRows (enS true (Bridge.Ports (Bridge.mkTop (Bridge.mk (Bridge.Id (Prod.fst (brI (deS UInt8 (lendRows (enS true (deS UInt8 (enS false aB)))))))) (deS Port (enS true (Bridge.Ports (Prod.fst (brI (deS UInt8 (lendRows (enS true (deS UInt8 (enS false aB))))))))))) (1)))))) ≤ 1152921504606846976))) then bif decide (1 + Bridge.nTop (Bridge.mk (Bridge.Id (Prod.fst (brI (deS UInt8 (lendRows (enS true (deS UInt8 (enS false aB)))))))) (deS Port (lendRows (enS true (Bridge.Ports (Bridge.mkTop (Bridge.mk (Bridge.Id (Prod.fst (brI (deS UInt8 (lendRows (enS true (deS UInt8 (enS false aB)))))))) (deS Port (enS true (Bridge.Ports (Prod.fst (brI (deS UInt8 (lendRows (enS true (deS UInt8 (enS false aB))))))))))) (1))))))) < 0) then some ([[D.bool false]], []) else bif 1 + Bridge.nTop (Bridge.mk (Bridge.Id (Prod.fst (brI (deS UInt8 (lendRows (enS true (deS UInt8 (enS false aB)))))))) (deS Port (lendRows (enS true (Bridge.Ports (Bridge.mkTop (Bridge.mk (Bridge.Id (Prod.fst (brI (deS UInt8 (lendRows (enS true (deS UInt8 (enS false aB)))))))) (deS Port (enS true (Bridge.Ports (Prod.fst (brI (deS UInt8 (lendRows (enS true (deS UInt8 (enS false aB))))))))))) (1))))))) != 1 + Bridge.nTop (Bridge.mk (Bridge.Id (Prod.fst (brI (deS UInt8 (lendRows (enS true (deS UInt8 (enS false aB)))))))) (deS Port (enS true (Bridge.Ports (Prod.fst (brI (deS UInt8 (lendRows (enS true (deS UInt8 (enS false aB))))))))))) then some ([[D.bool false]], []) else some ([[D.bool true]], []) else none else none else none else none else none else none else none else none else none else none else none else none else none else none else none else none else none else none := by kernel_rfl
theorem m4 (aB : List UInt8) (hpre : (o4 aB).1 = true) : evFn ⟨Go.Proofs.Try.prog, Hx, 4⟩ T19.call 0 Go.Proofs.Try.f4 [[.sl false 1 (enS false aB)]] = some (o4 aB).2 := by
  refine (r4 aB _).trans ?_
  show _ = (some ([[.bool (true)]], []) : Option (List Row × List Row))
  replace hpre : (decide (aB.length ≤ 9223372036854775807)) = true := hpre
  by_cases hb : aB.length ≤ 1048576
  case neg =>
    have c0 : decide (Int.ofNat aB.length > 1048576) = true := decide_eq_true (by show ((aB.length : Nat) : Int) > 1048576; omega)
    simp only [enS_length, c0, cond_true]
  have c0 : decide (Int.ofNat aB.length > 1048576) = false := decide_eq_false (by show ¬ (((aB.length : Nat) : Int) > 1048576); omega)
  have hsm : decide (aB.length ≤ 1048576) = true := decide_eq_true hb
  have hn : 0 ≤ cntS oneN aB := cntS_nonneg oneN_pos aB
  have x0 := byte.lok aB 1 (by omega) (by omega) (by omega)
  simp only [Bool.and_eq_true] at x0
  have y0 : decide (1 + cntS oneN aB < 0) = false := decide_eq_false (by omega)
  have hl0 : Bridge.wt (brI aB).1 ≤ 1048576 := by
    unfold brI
    cases (rdP (min (rCnt aB) 4).toNat (rGo aB)).2.bad
    · cases hk : bridgeOk (brAt aB (min (rCnt aB) 4).toNat)
      · show (0 : Int) ≤ 1048576; decide
      · have := bridge_four hk
        cases decide (bridgeBs (brAt aB (min (rCnt aB) 4).toNat) = aB)
        · show (0 : Int) ≤ 1048576; decide
        · show (((brAt aB (min (rCnt aB) 4).toNat).Ports.length : Nat) : Int) ≤ 1048576
          omega
    · show (0 : Int) ≤ 1048576; decide
  generalize hg1 : (brI aB).2 = g1
  generalize hg0 : (brI aB).1 = g0 at hl0 ⊢
  have nn0 : 0 ≤ Bridge.nTop g0 := Bridge.nTop_pos g0
  have mm0 : Bridge.nTop g0 ≤ 100000000 := by have := Bridge.nTop_le g0; omega
  have ia0 := Bridge.mkTop_idem g0 (1)
  have ib0 := Bridge.nTop_mk g0 (1)
  have ka0 := Bridge.top_ok g0 (1) (by omega) (by omega) hl0
  have kb0 := Bridge.top_ok (Bridge.mkTop g0 (1)) (1) (by omega) (by omega) (by rw [Bridge.wt_mk]; exact hl0)
  simp only [ib0, markS_length, Bool.and_eq_true] at ka0 kb0
  have kc0 := Bridge.small_of g0 hl0
  try simp only [Bool.and_eq_true] at kc0
  have kd0 : decide (1 + Bridge.nTop g0 < 0) = false := decide_eq_false (by omega)
  have ea0 : (⟨g0.Id, (Bridge.mkTop g0 (1)).Ports⟩ : Bridge) = Bridge.mkTop g0 (1) := rfl
  simp only [ea0, brS_eq, enS_length, c0, hsm, hpre, x0, y0, hg0, hg1, ia0, ib0, ka0, kb0, kc0, kd0, isS_enS, deS_enS, lendRows_enS, deepRows_enS, sameB_self, markS_length, Bool.and_self, Bool.and_true, Bool.true_and, cond_true, cond_false, Bool.not_true, Bool.not_false, bne_self_eq_false, noSl_u8, Bridge.eta]
theorem s4 : SoundAt Go.Proofs.Try.prog Hx 4 c4 := soundAt_of T19_sound mixed Go.Proofs.Try.func4 (by kernel_rfl) (by
  intro rows r h
  unfold c4 at h
  split at h
  · rename_i aB
    obtain ⟨hp, hr⟩ := Prod.mk.inj (Option.some.inj h)
    subst hr
    simp only [Bool.and_eq_true] at hp
    obtain ⟨hs0, hp⟩ := hp
    obtain ⟨xs0, rfl⟩ := isS_ex hs0
    simp only [deS_enS] at hp ⊢
    exact ⟨_, m4 xs0 hp⟩
  · cases h)
def T4 : Table := (4, c4) :: T19
theorem T4_sound : Table.Sound Go.Proofs.Try.prog Hx T4 := Table.sound_cons s4 T19_sound
end Go.Ev
end
