/- Contracts of functions, each by its evaluation. -/
import Derived.Test.YtikmcmocecalaaaEvMd
import Derived.Test.YtikmcmocecalaaaProg
import Derived.KernelRfl
import Derived.Test.YtikmcmocecalaaaFFdb
set_option linter.unusedVariables false
set_option linter.unusedSimpArgs false
set_option maxRecDepth 100000
noncomputable section
open List (getD length drop take set append replicate all isEmpty)
open Int (toNat ofNat)
open Go.IntKind (i64 wrap)
open Go.Proofs.Try (prog)
namespace Go.Ev
open Go.RowKit Go.Md
end Go.Ev
namespace Go.Md
open Go Go.Ev
theorem cntS_le {α : Type} {n w : α → Int} (h : ∀ x, n x ≤ 64 * (1 + w x)) : ∀ xs : List α, cntS n xs ≤ 64 * ((xs.length : Int) + cntS w xs)
  | [] => by simp [cntS]
  | x :: xs => by
    have h1 := h x
    have h2 := cntS_le h xs
    unfold cntS
    rw [List.length_cons]
    push_cast
    omega
theorem cntS_mark {α : Type} {mk : α → Int → α} {n w : α → Int} (h : ∀ x k, w (mk x k) = w x) : ∀ (xs : List α) (k : Int), cntS w (markS mk n xs k) = cntS w xs
  | [], _ => rfl
  | x :: xs, k => by
    show w (mk x k) + cntS w (markS mk n xs (k + n x)) = w x + cntS w xs
    rw [h, cntS_mark h xs]
theorem all_b60 {α : Type} {p q : α → Bool} (h : ∀ x, p x = true → q x = true) (xs : List α) (hp : xs.all p = true) : xs.all q = true := List.all_eq_true.2 (fun x hx => h x (List.all_eq_true.1 hp x hx))
theorem Heard.mk_idem (x : Heard) (k : Int) : Heard.mk_ (Heard.mk_ x k) k = Heard.mk_ x k := rfl
theorem Heard.n_mk (x : Heard) (k : Int) : Heard.n_ (Heard.mk_ x k) = Heard.n_ x := rfl
theorem Copy.mkTop_idem (x : Copy) (k : Int) : Copy.mkTop (Copy.mkTop x k) k = Copy.mkTop x k := by simp only [Copy.mkTop, (markS_idem (mk := Heard.mk_) (n := Heard.n_) Heard.mk_idem Heard.n_mk _ _).1, (markS_idem (mk := Heard.mk_) (n := Heard.n_) Heard.mk_idem Heard.n_mk _ _).2]
theorem Copy.nTop_mk (x : Copy) (k : Int) : Copy.nTop (Copy.mkTop x k) = Copy.nTop x := by simp only [Copy.mkTop, Copy.nTop, (markS_idem (mk := Heard.mk_) (n := Heard.n_) Heard.mk_idem Heard.n_mk _ _).1, (markS_idem (mk := Heard.mk_) (n := Heard.n_) Heard.mk_idem Heard.n_mk _ _).2]
theorem Copy.wt_mk (x : Copy) (k : Int) : Copy.wt (Copy.mkTop x k) = Copy.wt x := by simp only [Copy.wt, Copy.mkTop, markS_length]
theorem Copy.nTop_le (x : Copy) : Copy.nTop x ≤ 64 * Copy.wt x := by have c0 : cntS Heard.n_ x.Table = 4 * (x.Table.length : Int) := cntS_const (fun _ => rfl) _; simp only [Copy.nTop, Copy.wt]; omega
theorem Copy.t60 (x : Copy) (h : Copy.small x = true) : (decide (x.Table.length ≤ 1152921504606846976)) = true := by
  simp only [Copy.small, Bool.and_eq_true, decide_eq_true_eq] at h
  simp only [Bool.and_eq_true, decide_eq_true_eq]
  grind [all_b60]
theorem Copy.top_ok (x : Copy) (k : Int) (h0 : 0 ≤ k) (hk : k ≤ 1000000000000) (hw : Copy.wt x ≤ 1048576) : (decide (0 ≤ k) && (decide (k + Copy.nTop x ≤ 4611686018427387904) && (decide (x.Table.length ≤ 1152921504606846976)))) = true := by
  have hs := Copy.small_of x hw
  have hn := Copy.nTop_le x
  rw [Copy.t60 x hs, decide_eq_true h0, decide_eq_true (show k + Copy.nTop x ≤ 4611686018427387904 by omega)]
  rfl
theorem hear_len (l : List Heard) (a v p : Int) (h : l.length ≤ 1048576) : (hearL l a v p).length ≤ 1048576 := by
  unfold hearL
  cases ht : tableOk (hearI l a v p)
  · exact h
  · rw [cond_true]
    unfold tableOk at ht
    rw [Bool.and_eq_true] at ht
    have := of_decide_eq_true ht.2
    omega
theorem feed_len (c : Copy) (u : Up) (h : c.Table.length ≤ 1048576) : (feedM c u).1.Table.length ≤ 1048576 := by
  unfold feedM
  cases copyOk c && (upOk u && u.Seq == c.Next)
  · exact h
  · exact hear_len _ _ _ _ h
end Go.Md
namespace Go.Ev
open Go.Md
end Go.Ev
end
