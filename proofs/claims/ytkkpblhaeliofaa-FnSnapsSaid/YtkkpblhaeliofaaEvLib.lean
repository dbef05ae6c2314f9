/- Words for proofs about what a run leaves. -/
import Derived.Laws.BitsLemmas
import Derived.Test.YtkkpblhaeliofaaEvTy
namespace Go.Ev
set_option linter.unusedVariables false
set_option linter.unusedSimpArgs false
theorem wrap_of {x : Int} (h0 : -9223372036854775808 ≤ x) (h1 : x ≤ 9223372036854775807) : IntKind.wrap IntKind.i64 x = x := by rw [IntKind.wrap_i64]; omega
theorem wrap_succ {i : Nat} (h : i < 4611686018427387904) : IntKind.wrap IntKind.i64 (Int.ofNat i + 1) = Int.ofNat (i + 1) := by
  rw [wrap_of (by have : (0 : Int) ≤ Int.ofNat i := Int.natCast_nonneg i; omega) (by have : Int.ofNat i < 4611686018427387904 := by { show ((i : Nat) : Int) < 4611686018427387904; omega }; omega)]
  rfl
theorem dec_lt {i n : Nat} : decide (Int.ofNat i < Int.ofNat n) = decide (i < n) := by
  by_cases h : i < n <;> simp [h]
theorem dec_ge {n : Nat} : decide ((0 : Int) ≤ Int.ofNat n) = true := by simp
theorem toNat_of (n : Nat) : Int.toNat (Int.ofNat n) = n := rfl
def isRow (own : Bool) (ls : List Leaf) (es : List (List D)) : Bool := es.all fun r => fits own ls r
theorem isRow_get {own : Bool} {ls : List Leaf} {es : List (List D)} (h : isRow own ls es = true) {i : Nat} (hi : i < es.length) : fits own ls (es.getD i []) = true := by
  have := List.all_eq_true.1 h (es.getD i []) (by rw [List.getD_eq_getElem?_getD, List.getElem?_eq_getElem hi]; exact List.getElem_mem hi)
  exact this
theorem fits_int {own : Bool} {k : IntKind} {r : List D} (h : fits own [.int k] r = true) : ∃ x, r = [.int k x] := by
  match r, h with
  | [d], h =>
    simp only [fits, Bool.and_true] at h
    obtain ⟨n, rfl⟩ := fit_int h
    exact ⟨n, rfl⟩
  | [], h => cases h
  | d :: d' :: ds, h => simp [fits] at h
theorem getD_take_succ {es xs : List (List D)} {i : Nat} (hi : i < es.length) (hl : xs.length = es.length) (h : xs.take i = es.take i) : (xs.set i (es.getD i [])).take (i + 1) = es.take (i + 1) := by
  have h1 : es.getD i [] = es[i] := by rw [List.getD_eq_getElem?_getD, List.getElem?_eq_getElem hi]; rfl
  rw [List.take_add_one, List.take_add_one, List.take_set, List.getElem?_set_self (by omega), List.getElem?_eq_getElem hi, h1]
  rw [List.set_eq_of_length_le (by rw [List.length_take]; omega), h]
theorem loop_scan {A R : Type} {body : St → (Ex → St → Option R) → Option R} {m lv wr : Nat} {K : Ex → St → Option R} {es : List (List D)} (S : Nat → A → St) (p : Nat → A → Prop) (g : A → List (List D) → Option R)
    (hend : ∀ a, p es.length a → ∀ f : St → Option R, body (S es.length a) (kThen (fun st => f (st.head m lv wr)) K) = g a [])
    (h : ∀ i a, i < es.length → p i a → ∀ f : St → Option R, (∀ a', p (i + 1) a' → f (S (i + 1) a') = g a' (es.drop (i + 1))) → body (S i a) (kThen (fun st => f (st.head m lv wr)) K) = g a (es.getD i [] :: es.drop (i + 1))) :
    ∀ (k : Nat) (a : A), es.length < k → p 0 a → loopRun body m lv wr k (S 0 a) K = g a es := by
  intro k a hk hp
  refine loop_rule (V := Nat × A) (fun v => S v.1 v.2) (fun v => v.1 ≤ es.length ∧ p v.1 v.2) (fun v => es.length - v.1) (fun v => g v.2 (es.drop v.1)) ?_ k (0, a) ⟨Nat.zero_le _, hp⟩ (by simp; omega)
  rintro ⟨i, a⟩ ⟨h1, h2⟩ f hf
  simp only at h1 h2
  by_cases hi : i < es.length
  · show _ = g a (es.drop i)
    rw [List.drop_eq_getElem_cons hi, show es[i] = es.getD i [] by rw [List.getD_eq_getElem?_getD, List.getElem?_eq_getElem hi]; rfl]
    exact h i a hi h2 f (fun a' ha => hf (i + 1, a') ⟨hi, ha⟩ (by simp; omega))
  · have : i = es.length := by omega
    subst this
    show _ = g a (es.drop es.length)
    rw [List.drop_length]
    exact hend a h2 f
theorem loop_upto {A R : Type} {body : St → (Ex → St → Option R) → Option R} {m lv wr : Nat} {K : Ex → St → Option R} (S : Nat → A → St) (p : Nat → A → Prop) (g : Nat → Nat → A → Option R) (N : Nat)
    (hlast : ∀ a, p N a → ∀ f : St → Option R, body (S N a) (kThen (fun st => f (st.head m lv wr)) K) = g 0 N a)
    (h : ∀ k i a, i + (k + 1) = N → p i a → ∀ f : St → Option R, (∀ a', p (i + 1) a' → f (S (i + 1) a') = g k (i + 1) a') → body (S i a) (kThen (fun st => f (st.head m lv wr)) K) = g (k + 1) i a) :
    ∀ (k : Nat) (a : A), N < k → p 0 a → loopRun body m lv wr k (S 0 a) K = g N 0 a := by
  intro k a hk hp
  refine loop_rule (V := Nat × A) (fun v => S v.1 v.2) (fun v => v.1 ≤ N ∧ p v.1 v.2) (fun v => N - v.1) (fun v => g (N - v.1) v.1 v.2) ?_ k (0, a) ⟨Nat.zero_le _, hp⟩ (by simp; omega)
  rintro ⟨i, a⟩ ⟨h1, h2⟩ f hf
  simp only at h1 h2
  by_cases hi : i = N
  · subst hi
    show _ = g (i - i) i a
    rw [Nat.sub_self]
    exact hlast a h2 f
  · show _ = g (N - i) i a
    obtain ⟨k, hk⟩ : ∃ k, N - i = k + 1 := ⟨N - i - 1, by omega⟩
    rw [hk]
    refine h k i a (by omega) h2 f (fun a' ha => ?_)
    have := hf (i + 1, a') ⟨by show i + 1 ≤ N; omega, ha⟩ (by simp; omega)
    rw [show k = N - (i + 1) by omega]
    exact this
theorem isRow_length {own : Bool} {ls : List Leaf} {es : List (List D)} (h : isRow own ls es = true) {i : Nat} (hi : i < es.length) : (es.getD i []).length = ls.length := fits_length (isRow_get h hi)
theorem lendRow_flat : ∀ {r : List D}, r.all D.noSl = true → lendRow r = r
  | [], _ => rfl
  | d :: r, h => by
    simp only [List.all_cons, Bool.and_eq_true] at h
    unfold lendRow
    rw [lendRow_flat h.2]
    cases d <;> first | rfl | cases h.1
theorem lendRows_flat : ∀ {es : List (List D)}, (es.all fun r => r.all D.noSl) = true → lendRows es = es
  | [], _ => rfl
  | r :: es, h => by
    simp only [List.all_cons, Bool.and_eq_true] at h
    unfold lendRows
    rw [lendRow_flat h.1, lendRows_flat h.2]
theorem fits_flat {own : Bool} : ∀ {ls : List Leaf} {r : List D}, ls.any Leaf.isSl = false → fits own ls r = true → r.all D.noSl = true
  | [], [], _, _ => rfl
  | l :: ls, d :: r, hl, h => by
    simp only [List.any_cons, Bool.or_eq_false_iff] at hl
    simp only [fits, Bool.and_eq_true] at h
    rw [List.all_cons, fits_flat hl.2 h.2, Bool.and_true]
    cases l with
    | sl n f => cases hl.1
    | int k => obtain ⟨n, rfl⟩ := fit_int h.1; rfl
    | bool => obtain ⟨n, rfl⟩ := fit_bool h.1; rfl
    | str => obtain ⟨n, rfl⟩ := fit_str h.1; rfl
    | other => simp [Leaf.fit] at h
  | [], _ :: _, _, h => by cases h
  | _ :: _, [], _, h => by cases h
theorem isRow_lend {own : Bool} {ls : List Leaf} {es : List (List D)} (hl : ls.any Leaf.isSl = false) (h : isRow own ls es = true) : lendRows es = es := by
  refine lendRows_flat (List.all_eq_true.2 fun r hr => ?_)
  exact fits_flat hl (List.all_eq_true.1 h r hr)
theorem len_le {a b : Nat} : decide (Int.ofNat a ≤ Int.ofNat b) = decide (a ≤ b) := by by_cases h : a ≤ b <;> simp [h]
theorem len_ne {a b : Nat} : (Int.ofNat a != Int.ofNat b) = !decide (a = b) := by
  by_cases h : a = b
  · subst h; simp
  · have : ¬ Int.ofNat a = Int.ofNat b := fun hx => h (by injection hx)
    simp [h, bne]
    exact fun hx => h (by exact_mod_cast hx)
theorem make_ok {n k : Nat} (h : n * k ≤ 140737488355328) : (decide (0 ≤ Int.ofNat n) && (decide (Int.ofNat n ≤ Int.ofNat n) && decide (Int.toNat (Int.ofNat n) * k ≤ 140737488355328))) = true := by
  rw [toNat_of]; simp [h]
def Ty.leaves : Ty → List Leaf
  | .int k => [.int k]
  | .bool => [.bool]
  | .str => [.str]
  | .sl e => [.sl e.width true]
  | .pair a b => a.leaves ++ b.leaves
theorem fits_app {own : Bool} : ∀ {ls ls' : List Leaf} {r r' : List D}, fits own ls r = true → fits own ls' r' = true → fits own (ls ++ ls') (r ++ r') = true
  | [], ls', [], r', _, h => h
  | l :: ls, ls', d :: r, r', h, h' => by
    simp only [fits, Bool.and_eq_true] at h
    simp only [List.cons_append, fits, Bool.and_eq_true]
    exact ⟨h.1, fits_app h.2 h'⟩
  | [], _, _ :: _, _, h, _ => by cases h
  | _ :: _, _, [], _, h, _ => by cases h
theorem enc_fits : ∀ (T : Ty) (x : T.den), fits false T.leaves (T.enc x) = true
  | .int k, x => by simp [Ty.leaves, Ty.enc, fits, Leaf.fit]
  | .bool, x => rfl
  | .str, x => rfl
  | .sl e, x => by simp [Ty.leaves, Ty.enc, fits, Leaf.fit]
  | .pair a b, x => fits_app (enc_fits a x.1) (enc_fits b x.2)
theorem isRow_enc (T : Ty) (xs : List T.den) : isRow false T.leaves (xs.map T.enc) = true :=
  List.all_eq_true.2 (fun r hr => by obtain ⟨x, _, rfl⟩ := List.mem_map.1 hr; exact enc_fits T x)
end Go.Ev
