/- Contracts of functions, each by its evaluation. -/
import Derived.Test.YtljedfojdgfahaaEvMd
import Derived.Test.YtljedfojdgfahaaProg
import Derived.KernelRfl
import Derived.Test.YtljedfojdgfahaaFNet5
set_option linter.unusedVariables false
set_option linter.unusedSimpArgs false
set_option maxRecDepth 100000
noncomputable section
open List (getD length drop take set append replicate all isEmpty)
open Int (toNat ofNat)
open Go.IntKind (i64 wrap)
open Go.Proofs.Try (prog)
namespace Go.Ev
open Go.RowKit Go.Md
end Go.Ev
namespace Go.Md
open Go Go.Ev
theorem cntS_le {α : Type} {n w : α → Int} (h : ∀ x, n x ≤ 64 * (1 + w x)) : ∀ xs : List α, cntS n xs ≤ 64 * ((xs.length : Int) + cntS w xs)
  | [] => by simp [cntS]
  | x :: xs => by
    have h1 := h x
    have h2 := cntS_le h xs
    unfold cntS
    rw [List.length_cons]
    push_cast
    omega
theorem cntS_mark {α : Type} {mk : α → Int → α} {n w : α → Int} (h : ∀ x k, w (mk x k) = w x) : ∀ (xs : List α) (k : Int), cntS w (markS mk n xs k) = cntS w xs
  | [], _ => rfl
  | x :: xs, k => by
    show w (mk x k) + cntS w (markS mk n xs (k + n x)) = w x + cntS w xs
    rw [h, cntS_mark h xs]
theorem all_b60 {α : Type} {p q : α → Bool} (h : ∀ x, p x = true → q x = true) (xs : List α) (hp : xs.all p = true) : xs.all q = true := List.all_eq_true.2 (fun x hx => h x (List.all_eq_true.1 hp x hx))
theorem Vec.mk_idem (x : Vec) (k : Int) : Vec.mk_ (Vec.mk_ x k) k = Vec.mk_ x k := rfl
theorem Vec.n_mk (x : Vec) (k : Int) : Vec.n_ (Vec.mk_ x k) = Vec.n_ x := rfl
theorem Port.mk_idem (x : Port) (k : Int) : Port.mk_ (Port.mk_ x k) k = Port.mk_ x k := rfl
theorem Port.n_mk (x : Port) (k : Int) : Port.n_ (Port.mk_ x k) = Port.n_ x := rfl
theorem Bridge.mk_idem (x : Bridge) (k : Int) : Bridge.mk_ (Bridge.mk_ x k) k = Bridge.mk_ x k := by simp only [Bridge.mk_, Bridge.n_, (markS_idem (mk := Port.mk_) (n := Port.n_) Port.mk_idem Port.n_mk _ _).1, (markS_idem (mk := Port.mk_) (n := Port.n_) Port.mk_idem Port.n_mk _ _).2]
theorem Bridge.n_mk (x : Bridge) (k : Int) : Bridge.n_ (Bridge.mk_ x k) = Bridge.n_ x := by simp only [Bridge.mk_, Bridge.n_, (markS_idem (mk := Port.mk_) (n := Port.n_) Port.mk_idem Port.n_mk _ _).1, (markS_idem (mk := Port.mk_) (n := Port.n_) Port.mk_idem Port.n_mk _ _).2]
theorem Bridge.wt_mk_ (x : Bridge) (k : Int) : Bridge.wt (Bridge.mk_ x k) = Bridge.wt x := by simp only [Bridge.wt, Bridge.mk_, Bridge.n_, markS_length]
theorem Bridge.n_le (x : Bridge) : Bridge.n_ x ≤ 64 * (1 + Bridge.wt x) := by have c0 : cntS Port.n_ x.Ports = 11 * (x.Ports.length : Int) := cntS_const (fun _ => rfl) _; simp only [Bridge.mk_, Bridge.n_, Bridge.wt]; omega
theorem Bridge.b60_of (x : Bridge) (h : Bridge.small x = true) : (decide (x.Ports.length ≤ 1152921504606846976)) = true := by
  simp only [Bridge.small, Bool.and_eq_true, decide_eq_true_eq] at h
  simp only [Bool.and_eq_true, decide_eq_true_eq]
  grind [all_b60]
theorem Link.mk_idem (x : Link) (k : Int) : Link.mk_ (Link.mk_ x k) k = Link.mk_ x k := rfl
theorem Link.n_mk (x : Link) (k : Int) : Link.n_ (Link.mk_ x k) = Link.n_ x := rfl
theorem Net.mkTop_idem (x : Net) (k : Int) : Net.mkTop (Net.mkTop x k) k = Net.mkTop x k := by simp only [Net.mkTop, (markS_idem (mk := Bridge.mk_) (n := Bridge.n_) Bridge.mk_idem Bridge.n_mk _ _).1, (markS_idem (mk := Bridge.mk_) (n := Bridge.n_) Bridge.mk_idem Bridge.n_mk _ _).2, (markS_idem (mk := Link.mk_) (n := Link.n_) Link.mk_idem Link.n_mk _ _).1, (markS_idem (mk := Link.mk_) (n := Link.n_) Link.mk_idem Link.n_mk _ _).2]
theorem Net.nTop_mk (x : Net) (k : Int) : Net.nTop (Net.mkTop x k) = Net.nTop x := by simp only [Net.mkTop, Net.nTop, (markS_idem (mk := Bridge.mk_) (n := Bridge.n_) Bridge.mk_idem Bridge.n_mk _ _).1, (markS_idem (mk := Bridge.mk_) (n := Bridge.n_) Bridge.mk_idem Bridge.n_mk _ _).2, (markS_idem (mk := Link.mk_) (n := Link.n_) Link.mk_idem Link.n_mk _ _).1, (markS_idem (mk := Link.mk_) (n := Link.n_) Link.mk_idem Link.n_mk _ _).2]
theorem Net.wt_mk (x : Net) (k : Int) : Net.wt (Net.mkTop x k) = Net.wt x := by simp only [Net.wt, Net.mkTop, markS_length, cntS_mark (mk := Bridge.mk_) (n := Bridge.n_) (w := Bridge.wt) Bridge.wt_mk_]
theorem Net.nTop_le (x : Net) : Net.nTop x ≤ 64 * Net.wt x := by have c0 := cntS_le Bridge.n_le x.Bridges; have d0 := cntS_nonneg (n := Bridge.wt) Bridge.wt_pos x.Bridges; have c1 : cntS Link.n_ x.Links = 4 * (x.Links.length : Int) := cntS_const (fun _ => rfl) _; simp only [Net.nTop, Net.wt]; omega
theorem Net.t60 (x : Net) (h : Net.small x = true) : ((decide (x.Bridges.length ≤ 1152921504606846976) && x.Bridges.all (fun x => decide (x.Ports.length ≤ 1152921504606846976))) && decide (x.Links.length ≤ 1152921504606846976)) = true := by
  simp only [Net.small, Bool.and_eq_true, decide_eq_true_eq] at h
  simp only [Bool.and_eq_true, decide_eq_true_eq]
  grind [all_b60, Bridge.b60_of]
theorem Net.top_ok (x : Net) (k : Int) (h0 : 0 ≤ k) (hk : k ≤ 1000000000000) (hw : Net.wt x ≤ 1048576) : (decide (0 ≤ k) && (decide (k + Net.nTop x ≤ 4611686018427387904) && ((decide (x.Bridges.length ≤ 1152921504606846976) && x.Bridges.all (fun x => decide (x.Ports.length ≤ 1152921504606846976))) && decide (x.Links.length ≤ 1152921504606846976)))) = true := by
  have hs := Net.small_of x hw
  have hn := Net.nTop_le x
  rw [Net.t60 x hs, decide_eq_true h0, decide_eq_true (show k + Net.nTop x ≤ 4611686018427387904 by omega)]
  rfl
theorem intMk_idem (x : Int) (k : Int) : intMk (intMk x k) k = intMk x k := rfl
theorem int.lok (xs : List Int) (k : Int) (h0 : 0 ≤ k) (hk : k ≤ 1000000000000) (hw : (xs.length : Int) ≤ 1048576) : (decide (0 ≤ k) && (decide (k + cntS oneN xs ≤ 4611686018427387904) && decide (xs.length ≤ 1152921504606846976))) = true := by
  have c0 : cntS oneN xs = 1 * (xs.length : Int) := cntS_const (fun _ => rfl) _
  simp only [Bool.and_eq_true, decide_eq_true_eq]
  exact ⟨h0, by omega, by omega⟩
theorem int.lsm (xs : List Int) (hw : (xs.length : Int) ≤ 1048576) : (decide (xs.length ≤ 1048576)) = true := by
  exact decide_eq_true (by omega)
theorem Visit.mk_idem (x : Visit) (k : Int) : Visit.mk_ (Visit.mk_ x k) k = Visit.mk_ x k := rfl
theorem Visit.n_mk (x : Visit) (k : Int) : Visit.n_ (Visit.mk_ x k) = Visit.n_ x := rfl
theorem Visit.lok (xs : List Visit) (k : Int) (h0 : 0 ≤ k) (hk : k ≤ 1000000000000) (hw : (xs.length : Int) ≤ 1048576) : (decide (0 ≤ k) && (decide (k + cntS Visit.n_ xs ≤ 4611686018427387904) && decide (xs.length ≤ 1152921504606846976))) = true := by
  have c0 : cntS Visit.n_ xs = 3 * (xs.length : Int) := cntS_const (fun _ => rfl) _
  simp only [Bool.and_eq_true, decide_eq_true_eq]
  exact ⟨h0, by omega, by omega⟩
theorem Visit.lsm (xs : List Visit) (hw : (xs.length : Int) ≤ 1048576) : (decide (xs.length ≤ 1048576)) = true := by
  exact decide_eq_true (by omega)
end Go.Md
namespace Go.Ev
open Go.Md
end Go.Ev
end
