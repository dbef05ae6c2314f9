/- Contracts of functions, each by its evaluation. -/
import Derived.Test.YtgklglkmfgfodaaEvMd
import Derived.Test.YtgklglkmfgfodaaProg
import Derived.KernelRfl
import Derived.Test.YtgklglkmfgfodaaFLacks
set_option linter.unusedVariables false
set_option linter.unusedSimpArgs false
set_option maxRecDepth 100000
noncomputable section
open List (getD length drop take set append replicate all isEmpty)
open Int (toNat ofNat)
open Go.IntKind (i64 wrap)
open Go.Proofs.Try (prog)
namespace Go.Ev
open Go.RowKit Go.Md
end Go.Ev
namespace Go.Md
open Go Go.Ev
def toldT (U : Nat → Up) : Nat → Copy
  | 0 => ⟨0, []⟩
  | k + 1 => (feedM (toldT U k) (U k)).1
structure Ups (U : Nat → Up) (n : Nat) : Prop where
  le : n ≤ 1000
  ok : ∀ i, i < n → upOk (U i) = true
  seq : ∀ i, i < n → (U i).Seq = (i : Int)
theorem copy0_ok : copyOk (⟨0, []⟩ : Copy) = true := rfl
theorem told_ok {U : Nat → Up} : ∀ k, copyOk (toldT U k) = true
  | 0 => copy0_ok
  | k + 1 => feed_ok (told_ok k)
theorem told_next {U : Nat → Up} {n : Nat} (h : Ups U n) : ∀ k, k ≤ n → (toldT U k).Next = (k : Int)
  | 0, _ => rfl
  | k + 1, hk => by
    have h1 := told_next h k (by omega)
    have hy : (copyOk (toldT U k) && (upOk (U k) && (U k).Seq == (toldT U k).Next)) = true := by
      rw [told_ok k, h.ok k (by omega), h.seq k (by omega), h1]
      simp
    show ((feedM (toldT U k) (U k)).1).Next = _
    rw [feed_yes hy]
    show (toldT U k).Next + 1 = _
    rw [h1]
    rfl
theorem told_step {U : Nat → Up} {n k : Nat} (h : Ups U n) (hk : k < n) : feedM (toldT U k) (U k) = (toldT U (k + 1), true) := by
  have hy : (copyOk (toldT U k) && (upOk (U k) && (U k).Seq == (toldT U k).Next)) = true := by
    rw [told_ok k, h.ok k hk, h.seq k hk, told_next h k (by omega)]
    simp
  have e : (feedM (toldT U k) (U k)).2 = true := by rw [feed_yes hy]
  rw [← e]
  rfl
theorem told_other {U : Nat → Up} {n k i : Nat} (h : Ups U n) (hk : k ≤ n) (hi : i < n) (hne : i ≠ k) : feedM (toldT U k) (U i) = (toldT U k, false) := by
  refine feed_no ?_
  have : ((U i).Seq == (toldT U k).Next) = false := by
    rw [h.seq i hi, told_next h k hk, beq_eq_false_iff_ne]
    omega
  rw [this, Bool.and_false, Bool.and_false]
theorem ups_inj {U : Nat → Up} {n i k : Nat} (h : Ups U n) (hi : i < n) (hk : k < n) (he : U i = U k) : i = k := by
  have h1 := h.seq i hi
  rw [he, h.seq k hk] at h1
  omega
def fromU (U : Nat → Up) (n : Nat) (l : List Up) : Prop := ∀ u ∈ l, ∃ i, i < n ∧ u = U i
theorem told_pass {U : Nat → Up} {n : Nat} (h : Ups U n) : ∀ (l : List Up), fromU U n l → ∀ (k : Nat) (t : Bool), k ≤ n → ∃ m, k ≤ m ∧ m ≤ n ∧ passF l (toldT U k) t = (toldT U m, t || decide (k < m)) ∧ (k < n → U k ∈ l → k < m)
  | [], _, k, t, hk => ⟨k, Nat.le_refl _, hk, by show (toldT U k, t) = _; rw [decide_eq_false (Nat.lt_irrefl k), Bool.or_false], fun _ hm => by cases hm⟩
  | u :: us, hl, k, t, hk => by
    obtain ⟨i, hi, rfl⟩ := hl u List.mem_cons_self
    have hus : fromU U n us := fun v hv => hl v (List.mem_cons_of_mem _ hv)
    show ∃ m, k ≤ m ∧ m ≤ n ∧ passF us (feedM (toldT U k) (U i)).1 (t || (feedM (toldT U k) (U i)).2) = _ ∧ _
    by_cases he : i = k
    · subst he
      rw [told_step h hi]
      obtain ⟨m, h1, h2, h3, _⟩ := told_pass h us hus (i + 1) (t || true) (by omega)
      refine ⟨m, by omega, h2, ?_, fun _ _ => by omega⟩
      rw [h3, decide_eq_true (show i < m by omega)]
      simp
    · rw [told_other h hk hi he]
      obtain ⟨m, h1, h2, h3, h4⟩ := told_pass h us hus k (t || false) hk
      refine ⟨m, h1, h2, by rw [h3, Bool.or_false], fun hkn hm => h4 hkn ?_⟩
      rcases List.mem_cons.1 hm with h5 | h5
      · exact absurd (ups_inj h hkn hi h5).symm he
      · exact h5
theorem told_all {U : Nat → Up} {n : Nat} (h : Ups U n) {l : List Up} (hl : fromU U n l) (hm : ∀ i, i < n → U i ∈ l) : ∀ (j k : Nat), n - k ≤ j → k ≤ n → faW l (toldT U k) = toldT U n
  | j, k, hj, hk => by
    obtain ⟨m, h1, h2, h3, h4⟩ := told_pass h l hl k false hk
    rw [Bool.false_or] at h3
    by_cases hkn : k < n
    · have h5 := h4 hkn (hm k hkn)
      have hy : (passF l (toldT U k) false).2 = true := by rw [h3]; exact decide_eq_true h5
      rw [faW_yes hy, h3]
      match j with
      | 0 => omega
      | j + 1 => exact told_all h hl hm j m (by omega) h2
    · have he : k = n := by omega
      subst he
      have hmk : m = k := by omega
      subst hmk
      have hy : (passF l (toldT U m) false).2 = false := by rw [h3]; exact decide_eq_false (Nat.lt_irrefl m)
      rw [faW_stop hy, h3]
def inF (i : Int) : List Up → Copy → Copy
  | [], c => c
  | u :: us, c => inF i us (bif u.Seq == i && c.Next == i then (feedM c u).1 else c)
theorem inF_past {U : Nat → Up} {n : Nat} (h : Ups U n) {i k : Nat} (hik : i ≠ k) (hk : k ≤ n) : ∀ l : List Up, inF (i : Int) l (toldT U k) = toldT U k
  | [] => rfl
  | u :: us => by
    show inF (i : Int) us (bif u.Seq == (i : Int) && (toldT U k).Next == (i : Int) then (feedM (toldT U k) u).1 else toldT U k) = _
    have : ((toldT U k).Next == (i : Int)) = false := by rw [told_next h k hk, beq_eq_false_iff_ne]; omega
    rw [this, Bool.and_false, cond_false]
    exact inF_past h hik hk us
theorem inF_told {U : Nat → Up} {n : Nat} (h : Ups U n) {i : Nat} (hi : i < n) : ∀ l : List Up, fromU U n l → U i ∈ l → inF (i : Int) l (toldT U i) = toldT U (i + 1)
  | [], _, hm => by cases hm
  | u :: us, hl, hm => by
    obtain ⟨j, hj, rfl⟩ := hl u List.mem_cons_self
    have hus : fromU U n us := fun v hv => hl v (List.mem_cons_of_mem _ hv)
    show inF (i : Int) us (bif (U j).Seq == (i : Int) && (toldT U i).Next == (i : Int) then (feedM (toldT U i) (U j)).1 else toldT U i) = _
    have h2 : ((toldT U i).Next == (i : Int)) = true := by rw [told_next h i (by omega)]; simp
    rw [h2, h.seq j hj, Bool.and_true]
    by_cases he : j = i
    · subst he
      rw [show (((j : Nat) : Int) == (j : Int)) = true by simp, cond_true, told_step h hi]
      exact inF_past h (by omega) (by omega) us
    · rw [show (((j : Nat) : Int) == (i : Int)) = false by rw [beq_eq_false_iff_ne]; omega, cond_false]
      refine inF_told h hi us hus ?_
      rcases List.mem_cons.1 hm with h5 | h5
      · exact absurd (ups_inj h hi hj h5).symm he
      · exact h5
theorem told_rev {U : Nat → Up} {n : Nat} {l : List Up} (hl : fromU U n l) : fromU U n l.reverse := fun u hu => hl u (List.mem_reverse.1 hu)
end Go.Md
namespace Go.Ev
open Go.Md
end Go.Ev
end
