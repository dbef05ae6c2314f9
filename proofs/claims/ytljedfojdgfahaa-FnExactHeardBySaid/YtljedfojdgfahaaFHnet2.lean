/- Contracts of functions, each by its evaluation. -/
import Derived.Test.YtljedfojdgfahaaEvMd
import Derived.Test.YtljedfojdgfahaaProg
import Derived.KernelRfl
import Derived.Test.YtljedfojdgfahaaFHnet
set_option linter.unusedVariables false
set_option linter.unusedSimpArgs false
set_option maxRecDepth 100000
noncomputable section
open List (getD length drop take set append replicate all isEmpty)
open Int (toNat ofNat)
open Go.IntKind (i64 wrap)
open Go.Proofs.Try (prog)
namespace Go.Ev
open Go.RowKit Go.Md
end Go.Ev
namespace Go.Md
open Go Go.Ev
def Vec.mk_ (x : Vec) (k : Int) : Vec := ⟨k, k + 1, k + 1 + 1, k + 1 + 1 + 1⟩
def Vec.n_ (x : Vec) : Int := 1 + 1 + 1 + 1
theorem Vec.n_pos (x : Vec) : 0 ≤ Vec.n_ x := by show (0 : Int) ≤ 1 + 1 + 1 + 1; decide
def Port.mk_ (x : Port) (k : Int) : Port := ⟨(k).tmod 3 == 0, (k + 1).tmod 3 == 0, ⟨k + 1 + 1, k + 1 + 1 + 1, k + 1 + 1 + 1 + 1, k + 1 + 1 + 1 + 1 + 1⟩, k + 1 + 1 + 1 + 1 + 1 + 1, k + 1 + 1 + 1 + 1 + 1 + 1 + 1, k + 1 + 1 + 1 + 1 + 1 + 1 + 1 + 1, k + 1 + 1 + 1 + 1 + 1 + 1 + 1 + 1 + 1, (k + 1 + 1 + 1 + 1 + 1 + 1 + 1 + 1 + 1 + 1).tmod 3 == 0⟩
def Port.n_ (x : Port) : Int := 1 + 1 + 1 + 1 + 1 + 1 + 1 + 1 + 1 + 1 + 1
theorem Port.n_pos (x : Port) : 0 ≤ Port.n_ x := by show (0 : Int) ≤ 1 + 1 + 1 + 1 + 1 + 1 + 1 + 1 + 1 + 1 + 1; decide
def Bridge.mk_ (x : Bridge) (k : Int) : Bridge := ⟨k, markS Port.mk_ Port.n_ x.Ports (k + 1)⟩
def Bridge.n_ (x : Bridge) : Int := 1 + cntS Port.n_ x.Ports
theorem Bridge.n_pos (x : Bridge) : 0 ≤ Bridge.n_ x := by
  have h1 := cntS_nonneg (n := Port.n_) Port.n_pos x.Ports
  unfold Bridge.n_
  omega
def Link.mk_ (x : Link) (k : Int) : Link := ⟨k, k + 1, k + 1 + 1, k + 1 + 1 + 1⟩
def Link.n_ (x : Link) : Int := 1 + 1 + 1 + 1
theorem Link.n_pos (x : Link) : 0 ≤ Link.n_ x := by show (0 : Int) ≤ 1 + 1 + 1 + 1; decide
def Net.mkTop (x : Net) (k : Int) : Net := ⟨markS Bridge.mk_ Bridge.n_ x.Bridges (k), markS Link.mk_ Link.n_ x.Links (k + cntS Bridge.n_ x.Bridges)⟩
def Net.nTop (x : Net) : Int := cntS Bridge.n_ x.Bridges + cntS Link.n_ x.Links
theorem Net.nTop_pos (x : Net) : 0 ≤ Net.nTop x := by
  have h0 := cntS_nonneg (n := Bridge.n_) Bridge.n_pos x.Bridges
  have h1 := cntS_nonneg (n := Link.n_) Link.n_pos x.Links
  unfold Net.nTop
  omega
def oneN {α : Type} (_ : α) : Int := 1
theorem oneN_pos {α : Type} (x : α) : 0 ≤ oneN x := by show (0 : Int) ≤ 1; omega
def intMk (_ : Int) (k : Int) : Int := k
def Visit.mk_ (x : Visit) (k : Int) : Visit := ⟨k, k + 1, k + 1 + 1⟩
def Visit.n_ (x : Visit) : Int := 1 + 1 + 1
theorem Visit.n_pos (x : Visit) : 0 ≤ Visit.n_ x := by show (0 : Int) ≤ 1 + 1 + 1; decide
end Go.Md
namespace Go.Ev
open Go.Md
/- markPortS -/
def o51 (a : List Port) (k : Int) : Bool × List Row × List Row := (decide (0 ≤ k) && (decide (k + cntS Port.n_ a ≤ 4611686018427387904) && decide (a.length ≤ 1152921504606846976)), [[.int .i64 (k + cntS Port.n_ a)]], [[.sl true 11 (enS true (markS Port.mk_ Port.n_ a k))]])
def c51 : Contract
  | [[.sl true 11 a], [.int .i64 k]] => some (isS Port true a && (o51 (deS Port a) k).1, (o51 (deS Port a) k).2.1, (o51 (deS Port a) k).2.2)
  | _ => none

def k51_0 (n : Nat) : Ex → St → RR := kThen (fun st ↦ runCode (Ctx.mk prog Hx (51)) (Table.call T11) n (codeAt [1, 1] (bodyOf Go.Proofs.Try.f51)) (Lv.mk 16 [] 16) st (kLeave (Ctx.P (Ctx.mk prog Hx (51))) (List.zip (Array.toList (Go.Func.resultTypes Go.Proofs.Try.f51)) (Array.toList (Go.Func.results Go.Proofs.Try.f51))) [] [C.view 0 0 0 [] 11 none])) (kLeave (Ctx.P (Ctx.mk prog Hx (51))) (List.zip (Array.toList (Go.Func.resultTypes Go.Proofs.Try.f51)) (Array.toList (Go.Func.results Go.Proofs.Try.f51))) [] [C.view 0 0 0 [] 11 none])
def k51_1 (n : Nat) : Ex → St → RR := kBlock (0) (k51_0 n)
def S51_0 (i0 : Int) (i1 : Int) (es2 : List (List D)) : St := St.mk [TV.v false [C.view 0 0 0 [] 11 none], I_ i0, U_, U_, U_, I_ i1, U_, U_, U_, U_, U_, U_, U_, U_, U_, U_, U_, U_, U_, U_, U_, U_, U_, U_, U_, U_, U_, U_, U_, U_, U_, U_, U_, U_, U_, U_, U_, U_, U_, U_, U_, U_, U_, U_, U_, U_, U_, U_, U_, U_, U_, U_, U_, U_, U_, U_, U_, U_, U_, U_, U_, U_, U_, U_, U_, U_, U_, U_, U_, U_, U_, U_, U_, U_, U_, U_, U_, U_, U_, U_, U_, U_, U_, U_, U_, U_, U_, U_, U_, U_, U_, U_, U_, U_, U_, U_, U_, U_, U_, U_] [Root.mk false 11 es2 0 0 true true false]
def B51_0 (n : Nat) : St → (Ex → St → RR) → RR := runCode (Ctx.mk prog Hx (51)) (Table.call T11) n (codeAt [1, 0, 1, 0, 0] (bodyOf Go.Proofs.Try.f51)) (Lv.mk 35 [(0, 2)] 16)
def X51_2 (i0 : Int) (i1 : Int) (es2 : List (List D)) : St := St.mk [TV.v false [C.view 0 0 0 [] 11 none], I_ i0, U_, U_, U_, I_ i1, I_ i1, TV.v false [C.view 0 0 0 [] 11 none], I_ (ofNat (length es2)), B_ false, U_, U_, U_, U_, U_, U_, U_, U_, U_, U_, U_, U_, U_, U_, U_, U_, U_, U_, U_, U_, U_, U_, U_, U_, U_, U_, U_, U_, U_, U_, U_, U_, U_, U_, U_, U_, U_, U_, U_, U_, U_, U_, U_, U_, U_, U_, U_, U_, U_, U_, U_, U_, U_, U_, U_, U_, U_, U_, U_, U_, U_, U_, U_, U_, U_, U_, U_, U_, U_, U_, U_, U_, U_, U_, U_, U_, U_, U_, U_, U_, U_, U_, U_, U_, U_, U_, U_, U_, U_, U_] [Root.mk false 11 es2 0 0 true true false]
def w51_3 (i0 : Int) (i1 : Int) (es2 : List (List D)) : List (List D) := set es2 (0 + toNat i1) (D.bool (Int.tmod i0 (3) == 0) :: drop 1 (getD es2 (0 + toNat i1) []))
def w51_4 (i0 : Int) (i1 : Int) (es2 : List (List D)) : List (List D) := set (w51_3 i0 i1 es2) (0 + toNat i1) (append (append (take 1 (getD (w51_3 i0 i1 es2) (0 + toNat i1) [])) [D.bool (Int.tmod (wrap i64 (i0 + 1)) (3) == 0)]) (drop 2 (getD (w51_3 i0 i1 es2) (0 + toNat i1) [])))
def w51_5 (i0 : Int) (i1 : Int) (es2 : List (List D)) : List (List D) := set (w51_4 i0 i1 es2) (0 + toNat i1) (append (append (take 2 (getD (w51_4 i0 i1 es2) (0 + toNat i1) [])) [D.int i64 (wrap i64 (wrap i64 (i0 + 1) + 1))]) (drop 3 (getD (w51_4 i0 i1 es2) (0 + toNat i1) [])))
def w51_6 (i0 : Int) (i1 : Int) (es2 : List (List D)) : List (List D) := set (w51_5 i0 i1 es2) (0 + toNat i1) (append (append (take 3 (getD (w51_5 i0 i1 es2) (0 + toNat i1) [])) [D.int i64 (wrap i64 (wrap i64 (wrap i64 (i0 + 1) + 1) + 1))]) (drop 4 (getD (w51_5 i0 i1 es2) (0 + toNat i1) [])))
def w51_7 (i0 : Int) (i1 : Int) (es2 : List (List D)) : List (List D) := set (w51_6 i0 i1 es2) (0 + toNat i1) (append (append (take 4 (getD (w51_6 i0 i1 es2) (0 + toNat i1) [])) [D.int i64 (wrap i64 (wrap i64 (wrap i64 (wrap i64 (i0 + 1) + 1) + 1) + 1))]) (drop 5 (getD (w51_6 i0 i1 es2) (0 + toNat i1) [])))
def w51_8 (i0 : Int) (i1 : Int) (es2 : List (List D)) : List (List D) := set (w51_7 i0 i1 es2) (0 + toNat i1) (append (append (take 5 (getD (w51_7 i0 i1 es2) (0 + toNat i1) [])) [D.int i64 (wrap i64 (wrap i64 (wrap i64 (wrap i64 (wrap i64 (i0 + 1) + 1) + 1) + 1) + 1))]) (drop 6 (getD (w51_7 i0 i1 es2) (0 + toNat i1) [])))
def w51_9 (i0 : Int) (i1 : Int) (es2 : List (List D)) : List (List D) := set (w51_8 i0 i1 es2) (0 + toNat i1) (append (append (take 6 (getD (w51_8 i0 i1 es2) (0 + toNat i1) [])) [D.int i64 (wrap i64 (wrap i64 (wrap i64 (wrap i64 (wrap i64 (wrap i64 (i0 + 1) + 1) + 1) + 1) + 1) + 1))]) (drop 7 (getD (w51_8 i0 i1 es2) (0 + toNat i1) [])))
def w51_10 (i0 : Int) (i1 : Int) (es2 : List (List D)) : List (List D) := set (w51_9 i0 i1 es2) (0 + toNat i1) (append (append (take 7 (getD (w51_9 i0 i1 es2) (0 + toNat i1) [])) [D.int i64 (wrap i64 (wrap i64 (wrap i64 (wrap i64 (wrap i64 (wrap i64 (wrap i64 (i0 + 1) + 1) + 1) + 1) + 1) + 1) + 1))]) (drop 8 (getD (w51_9 i0 i1 es2) (0 + toNat i1) [])))
def w51_11 (i0 : Int) (i1 : Int) (es2 : List (List D)) : List (List D) := set (w51_10 i0 i1 es2) (0 + toNat i1) (append (append (take 8 (getD (w51_10 i0 i1 es2) (0 + toNat i1) [])) [D.int i64 (wrap i64 (wrap i64 (wrap i64 (wrap i64 (wrap i64 (wrap i64 (wrap i64 (wrap i64 (i0 + 1) + 1) + 1) + 1) + 1) + 1) + 1) + 1))]) (drop 9 (getD (w51_10 i0 i1 es2) (0 + toNat i1) [])))
def w51_12 (i0 : Int) (i1 : Int) (es2 : List (List D)) : List (List D) := set (w51_11 i0 i1 es2) (0 + toNat i1) (append (append (take 9 (getD (w51_11 i0 i1 es2) (0 + toNat i1) [])) [D.int i64 (wrap i64 (wrap i64 (wrap i64 (wrap i64 (wrap i64 (wrap i64 (wrap i64 (wrap i64 (wrap i64 (i0 + 1) + 1) + 1) + 1) + 1) + 1) + 1) + 1) + 1))]) (drop 10 (getD (w51_11 i0 i1 es2) (0 + toNat i1) [])))
theorem q51_0 (n : Nat) (i0 : Int) (i1 : Int) (es2 : List (List D)) (f : St → RR) (K : Ex → St → RR) : B51_0 n (S51_0 i0 i1 es2) (kThen (fun st ↦ f (St.head 1 35 633825300114114700748351602658 st)) K) = bif decide (i1 < ofNat (length es2)) then bif decide (0 ≤ i1) && decide (i1 < ofNat (length es2)) then bif decide (0 ≤ i1) && decide (i1 < ofNat (length (w51_3 i0 i1 es2))) then bif decide (0 ≤ i1) && decide (i1 < ofNat (length (w51_4 i0 i1 es2))) then bif decide (0 ≤ i1) && decide (i1 < ofNat (length (w51_5 i0 i1 es2))) then bif decide (0 ≤ i1) && decide (i1 < ofNat (length (w51_6 i0 i1 es2))) then bif decide (0 ≤ i1) && decide (i1 < ofNat (length (w51_7 i0 i1 es2))) then bif decide (0 ≤ i1) && decide (i1 < ofNat (length (w51_8 i0 i1 es2))) then bif decide (0 ≤ i1) && decide (i1 < ofNat (length (w51_9 i0 i1 es2))) then bif decide (0 ≤ i1) && decide (i1 < ofNat (length (w51_10 i0 i1 es2))) then bif decide (0 ≤ i1) && decide (i1 < ofNat (length (w51_11 i0 i1 es2))) then bif decide (0 ≤ i1) && decide (i1 < ofNat (length (w51_12 i0 i1 es2))) then f (S51_0 (wrap i64 (wrap i64 (wrap i64 (wrap i64 (wrap i64 (wrap i64 (wrap i64 (wrap i64 (wrap i64 (wrap i64 (wrap i64 (i0 + 1) + 1) + 1) + 1) + 1) + 1) + 1) + 1) + 1) + 1) + 1)) (wrap i64 (i1 + 1)) (set (w51_12 i0 i1 es2) (0 + toNat i1) (append (append (take 10 (getD (w51_12 i0 i1 es2) (0 + toNat i1) [])) [D.bool (Int.tmod (wrap i64 (wrap i64 (wrap i64 (wrap i64 (wrap i64 (wrap i64 (wrap i64 (wrap i64 (wrap i64 (wrap i64 (i0 + 1) + 1) + 1) + 1) + 1) + 1) + 1) + 1) + 1) + 1)) (3) == 0)]) (drop 11 (getD (w51_12 i0 i1 es2) (0 + toNat i1) []))))) else none else none else none else none else none else none else none else none else none else none else none else K (Ex.exit 0) (X51_2 i0 i1 es2) := by kernel_rfl
theorem aX51_2 (n : Nat) (i0 : Int) (i1 : Int) (es2 : List (List D)) : k51_1 n (Ex.exit 0) (X51_2 i0 i1 es2) = some ([[D.int i64 i0]], [[D.sl true 11 es2]]) := by kernel_rfl
theorem r51 (a : List Port) (k : Int) (n : Nat) : evFn ⟨prog, Hx, 51⟩ T11.call n Go.Proofs.Try.f51 [[.sl true 11 (enS true a)], [.int .i64 k]] = loopRun (B51_0 n) 1 35 633825300114114700748351602658 n (S51_0 k (0) (enS true a)) (k51_1 n) := by kernel_rfl
theorem m51 (a : List Port) (k : Int) (hpre : (o51 a k).1 = true) : evFn ⟨Go.Proofs.Try.prog, Hx, 51⟩ T11.call (a.length + 1) Go.Proofs.Try.f51 [[.sl true 11 (enS true a)], [.int .i64 k]] = some (o51 a k).2 := by
  refine (r51 a k _).trans ?_
  show _ = (some ([[.int .i64 (k + cntS Port.n_ a)]], [[.sl true 11 (enS true (markS Port.mk_ Port.n_ a k))]]) : Option (List Row × List Row))
  replace hpre : (decide (0 ≤ k) && (decide (k + cntS Port.n_ a ≤ 4611686018427387904) && decide (a.length ≤ 1152921504606846976))) = true := hpre
  simp only [Bool.and_eq_true, decide_eq_true_eq] at hpre
  obtain ⟨h0, h1, h2⟩ := hpre
  refine loop_list (xs := a) (fun i (v : List Port × Int) => S51_0 v.2 (Int.ofNat i) (enS true (v.1 ++ a.drop i))) (fun i v => v.1.length = i ∧ 0 ≤ v.2 ∧ v.2 + cntS Port.n_ (a.drop i) ≤ 4611686018427387904) (fun _ v rest => some ([[D.int .i64 (v.2 + cntS Port.n_ rest)]], [[D.sl true 11 (enS true (v.1 ++ markS Port.mk_ Port.n_ rest v.2))]])) ?_ ?_ (a.length + 1) ([], k) (by omega) ⟨rfl, h0, h1⟩
  · rintro ⟨pre, k⟩ ⟨hl, hk0, hk1⟩ f
    refine (q51_0 _ _ _ _ f _).trans ?_
    simp only [enS_length, List.drop_length, List.append_nil, hl, dec_lt, Nat.lt_irrefl, decide_false, cond_false]
    refine (aX51_2 _ _ _ _).trans ?_
    simp only [List.append_nil, cntS, markS, Int.add_zero]
  · rintro i ⟨pre, k⟩ hi ⟨hl, hk0, hk1⟩ f hf
    simp only at hl hk0 hk1
    rw [List.drop_eq_getElem_cons hi] at hk1
    generalize hx : a[i] = x at hk1 ⊢
    have hc := cntS_nonneg (n := Port.n_) Port.n_pos (a.drop (i + 1))
    have hn : Port.n_ x = 11 := rfl
    simp only [cntS, hn] at hk1
    refine (q51_0 _ _ _ _ f _).trans ?_
    rw [List.drop_eq_getElem_cons hi, hx]
    have hm := mid_get pre x (a.drop (i + 1)) hl
    have hat := mid_at pre x (a.drop (i + 1)) hl hm
    have hs : ∀ R, ((enS true (pre ++ x :: a.drop (i + 1))).set i R).getD i [] = R := fun R => getD_set_same _ _ _ _ (by rw [enS_length]; exact hm)
    simp only [w51_3, w51_4, w51_5, w51_6, w51_7, w51_8, w51_9, w51_10, w51_11, w51_12, List.length_set, enS_length, toNat_of, Nat.zero_add, dec_lt, dec_ge, hm, hs, List.set_set, enS_get _ hm, hat, decide_true, cond_true, Bool.and_self, wrap_succ (show i < 4611686018427387904 by omega), En.enc, List.append_eq, List.take_succ_cons, List.take_zero, List.drop_succ_cons, List.drop_zero, List.cons_append, List.nil_append]
    have hw1 : IntKind.wrap IntKind.i64 (k + 1) = k + 1 := wrap_le (by omega) (by omega)
    have hw2 : IntKind.wrap IntKind.i64 (k + 1 + 1) = k + 1 + 1 := wrap_le (by omega) (by omega)
    have hw3 : IntKind.wrap IntKind.i64 (k + 1 + 1 + 1) = k + 1 + 1 + 1 := wrap_le (by omega) (by omega)
    have hw4 : IntKind.wrap IntKind.i64 (k + 1 + 1 + 1 + 1) = k + 1 + 1 + 1 + 1 := wrap_le (by omega) (by omega)
    have hw5 : IntKind.wrap IntKind.i64 (k + 1 + 1 + 1 + 1 + 1) = k + 1 + 1 + 1 + 1 + 1 := wrap_le (by omega) (by omega)
    have hw6 : IntKind.wrap IntKind.i64 (k + 1 + 1 + 1 + 1 + 1 + 1) = k + 1 + 1 + 1 + 1 + 1 + 1 := wrap_le (by omega) (by omega)
    have hw7 : IntKind.wrap IntKind.i64 (k + 1 + 1 + 1 + 1 + 1 + 1 + 1) = k + 1 + 1 + 1 + 1 + 1 + 1 + 1 := wrap_le (by omega) (by omega)
    have hw8 : IntKind.wrap IntKind.i64 (k + 1 + 1 + 1 + 1 + 1 + 1 + 1 + 1) = k + 1 + 1 + 1 + 1 + 1 + 1 + 1 + 1 := wrap_le (by omega) (by omega)
    have hw9 : IntKind.wrap IntKind.i64 (k + 1 + 1 + 1 + 1 + 1 + 1 + 1 + 1 + 1) = k + 1 + 1 + 1 + 1 + 1 + 1 + 1 + 1 + 1 := wrap_le (by omega) (by omega)
    have hw10 : IntKind.wrap IntKind.i64 (k + 1 + 1 + 1 + 1 + 1 + 1 + 1 + 1 + 1 + 1) = k + 1 + 1 + 1 + 1 + 1 + 1 + 1 + 1 + 1 + 1 := wrap_le (by omega) (by omega)
    have hw11 : IntKind.wrap IntKind.i64 (k + 1 + 1 + 1 + 1 + 1 + 1 + 1 + 1 + 1 + 1 + 1) = k + 1 + 1 + 1 + 1 + 1 + 1 + 1 + 1 + 1 + 1 + 1 := wrap_le (by omega) (by omega)
    simp only [hw1, hw2, hw3, hw4, hw5, hw6, hw7, hw8, hw9, hw10, hw11]
    have he : k + 1 + 1 + 1 + 1 + 1 + 1 + 1 + 1 + 1 + 1 + 1 = k + Port.n_ x := by omega
    skip
    refine (congrArg f (congrArg (S51_0 _ _) ((enS_set true _ i (Port.mk_ x k)).trans (congrArg (enS true) (mid_set pre x _ _ hl))))).trans ?_
    refine (hf (pre ++ [Port.mk_ x k], k + 1 + 1 + 1 + 1 + 1 + 1 + 1 + 1 + 1 + 1 + 1) ⟨by simp [hl], by simp only; omega, by simp only; omega⟩).trans ?_
    show _ = some ([[D.int .i64 (k + (Port.n_ x + cntS Port.n_ (a.drop (i + 1))))]], [[D.sl true 11 (enS true (pre ++ (Port.mk_ x k :: markS Port.mk_ Port.n_ (a.drop (i + 1)) (k + Port.n_ x))))]])
    rw [he, List.append_assoc, List.singleton_append, Int.add_assoc]
theorem s51 : SoundAt Go.Proofs.Try.prog Hx 51 c51 := soundAt_of T11_sound mixed Go.Proofs.Try.func51 (by kernel_rfl) (by
  intro rows r h
  unfold c51 at h
  split at h
  · rename_i a k
    obtain ⟨hp, hr⟩ := Prod.mk.inj (Option.some.inj h)
    subst hr
    simp only [Bool.and_eq_true] at hp
    obtain ⟨hs0, hp⟩ := hp
    obtain ⟨xs0, rfl⟩ := isS_ex hs0
    simp only [deS_enS] at hp ⊢
    exact ⟨_, m51 xs0 k hp⟩
  · cases h)
def T51 : Table := (51, c51) :: T11
theorem T51_sound : Table.Sound Go.Proofs.Try.prog Hx T51 := Table.sound_cons s51 T11_sound
/- markBridgeS -/
def o56 (a : List Bridge) (k : Int) : Bool × List Row × List Row := (decide (0 ≤ k) && (decide (k + cntS Bridge.n_ a ≤ 4611686018427387904) && (decide (a.length ≤ 1152921504606846976) && a.all (fun x => decide (x.Ports.length ≤ 1152921504606846976)))), [[.int .i64 (k + cntS Bridge.n_ a)]], [[.sl true 2 (enS true (markS Bridge.mk_ Bridge.n_ a k))]])
def c56 : Contract
  | [[.sl true 2 a], [.int .i64 k]] => some (isS Bridge true a && (o56 (deS Bridge a) k).1, (o56 (deS Bridge a) k).2.1, (o56 (deS Bridge a) k).2.2)
  | _ => none

def k56_0 (n : Nat) : Ex → St → RR := kThen (fun st ↦ runCode (Ctx.mk prog Hx (56)) (Table.call T51) n (codeAt [1, 1] (bodyOf Go.Proofs.Try.f56)) (Lv.mk 16 [] 16) st (kLeave (Ctx.P (Ctx.mk prog Hx (56))) (List.zip (Array.toList (Go.Func.resultTypes Go.Proofs.Try.f56)) (Array.toList (Go.Func.results Go.Proofs.Try.f56))) [] [C.view 0 0 0 [] 2 none])) (kLeave (Ctx.P (Ctx.mk prog Hx (56))) (List.zip (Array.toList (Go.Func.resultTypes Go.Proofs.Try.f56)) (Array.toList (Go.Func.results Go.Proofs.Try.f56))) [] [C.view 0 0 0 [] 2 none])
def k56_1 (n : Nat) : Ex → St → RR := kBlock (0) (k56_0 n)
def S56_0 (i0 : Int) (i1 : Int) (es2 : List (List D)) : St := St.mk [TV.v false [C.view 0 0 0 [] 2 none], I_ i0, U_, U_, U_, I_ i1, U_, U_, U_, U_, U_, U_, U_, U_, U_, U_, U_, U_, U_, U_, U_, U_, U_, U_, U_, U_, U_] [Root.mk false 2 es2 0 0 true true false]
def B56_0 (n : Nat) : St → (Ex → St → RR) → RR := runCode (Ctx.mk prog Hx (56)) (Table.call T51) n (codeAt [1, 0, 1, 0, 0] (bodyOf Go.Proofs.Try.f56)) (Lv.mk 35 [(0, 2)] 16)
def X56_2 (i0 : Int) (i1 : Int) (es2 : List (List D)) : St := St.mk [TV.v false [C.view 0 0 0 [] 2 none], I_ i0, U_, U_, U_, I_ i1, I_ i1, TV.v false [C.view 0 0 0 [] 2 none], I_ (ofNat (length es2)), B_ false, U_, U_, U_, U_, U_, U_, U_, U_, U_, U_, U_, U_, U_, U_, U_, U_, U_] [Root.mk false 2 es2 0 0 true true false]
def w56_3 (i0 : Int) (i1 : Int) (es2 : List (List D)) : List (List D) := set es2 (0 + toNat i1) (D.int i64 i0 :: drop 1 (getD es2 (0 + toNat i1) []))
def w56_4 (i0 : Int) (i1 : Int) (es2 : List (List D)) : List (List D) := set (w56_3 i0 i1 es2) (0 + toNat i1) (set (getD (w56_3 i0 i1 es2) (0 + toNat i1) []) 1 D.dead)
theorem q56_0 (n : Nat) (i0 : Int) (i1 : Int) (es2 : List (List D)) (f : St → RR) (K : Ex → St → RR) : B56_0 n (S56_0 i0 i1 es2) (kThen (fun st ↦ f (St.head 1 35 67108834 st)) K) = bif decide (i1 < ofNat (length es2)) then bif decide (0 ≤ i1) && decide (i1 < ofNat (length es2)) then bif decide (0 ≤ i1) && decide (i1 < ofNat (length (w56_3 i0 i1 es2))) then bif Leaf.fit true (Leaf.sl 11 true) (getD (getD (w56_3 i0 i1 es2) (0 + toNat i1) []) 1 D.dead) && true then bif D.isOwn (getD (getD (w56_3 i0 i1 es2) (0 + toNat i1) []) 1 D.dead) && true && true && true then bif isS Port true (D.rows (getD (getD (w56_3 i0 i1 es2) (0 + toNat i1) []) 1 D.dead)) && (decide (0 ≤ wrap i64 (i0 + 1)) && (decide (wrap i64 (i0 + 1) + cntS Port.n_ (deS Port (D.rows (getD (getD (w56_3 i0 i1 es2) (0 + toNat i1) []) 1 D.dead))) ≤ 4611686018427387904) && decide (length (deS Port (D.rows (getD (getD (w56_3 i0 i1 es2) (0 + toNat i1) []) 1 D.dead))) ≤ 1152921504606846976))) then bif D.isOwn (getD (getD (w56_3 i0 i1 es2) (0 + toNat i1) []) 1 D.dead) && true && true && true then f (S56_0 (wrap i64 (i0 + 1) + cntS Port.n_ (deS Port (D.rows (getD (getD (w56_3 i0 i1 es2) (0 + toNat i1) []) 1 D.dead)))) (wrap i64 (i1 + 1)) (set (w56_4 i0 i1 es2) (0 + toNat i1) (set (getD (w56_4 i0 i1 es2) (0 + toNat i1) []) 1 (D.sl true 11 (enS true (markS Port.mk_ Port.n_ (deS Port (D.rows (getD (getD (w56_3 i0 i1 es2) (0 + toNat i1) []) 1 D.dead))) (wrap i64 (i0 + 1)))))))) else none else none else none else none else none else none else K (Ex.exit 0) (X56_2 i0 i1 es2) := by kernel_rfl
theorem aX56_2 (n : Nat) (i0 : Int) (i1 : Int) (es2 : List (List D)) : k56_1 n (Ex.exit 0) (X56_2 i0 i1 es2) = some ([[D.int i64 i0]], [[D.sl true 2 es2]]) := by kernel_rfl
theorem r56 (a : List Bridge) (k : Int) (n : Nat) : evFn ⟨prog, Hx, 56⟩ T51.call n Go.Proofs.Try.f56 [[.sl true 2 (enS true a)], [.int .i64 k]] = loopRun (B56_0 n) 1 35 67108834 n (S56_0 k (0) (enS true a)) (k56_1 n) := by kernel_rfl
theorem m56 (a : List Bridge) (k : Int) (hpre : (o56 a k).1 = true) : evFn ⟨Go.Proofs.Try.prog, Hx, 56⟩ T51.call (a.length + 1) Go.Proofs.Try.f56 [[.sl true 2 (enS true a)], [.int .i64 k]] = some (o56 a k).2 := by
  refine (r56 a k _).trans ?_
  show _ = (some ([[.int .i64 (k + cntS Bridge.n_ a)]], [[.sl true 2 (enS true (markS Bridge.mk_ Bridge.n_ a k))]]) : Option (List Row × List Row))
  replace hpre : (decide (0 ≤ k) && (decide (k + cntS Bridge.n_ a ≤ 4611686018427387904) && (decide (a.length ≤ 1152921504606846976) && a.all (fun x => decide (x.Ports.length ≤ 1152921504606846976))))) = true := hpre
  simp only [Bool.and_eq_true] at hpre
  obtain ⟨h0, h1, h2, h3⟩ := hpre
  have h0 := of_decide_eq_true h0
  have h1 := of_decide_eq_true h1
  have h2 := of_decide_eq_true h2
  refine loop_list (xs := a) (fun i (v : List Bridge × Int) => S56_0 v.2 (Int.ofNat i) (enS true (v.1 ++ a.drop i))) (fun i v => v.1.length = i ∧ 0 ≤ v.2 ∧ v.2 + cntS Bridge.n_ (a.drop i) ≤ 4611686018427387904) (fun _ v rest => some ([[D.int .i64 (v.2 + cntS Bridge.n_ rest)]], [[D.sl true 2 (enS true (v.1 ++ markS Bridge.mk_ Bridge.n_ rest v.2))]])) ?_ ?_ (a.length + 1) ([], k) (by omega) ⟨rfl, h0, h1⟩
  · rintro ⟨pre, k⟩ ⟨hl, hk0, hk1⟩ f
    refine (q56_0 _ _ _ _ f _).trans ?_
    simp only [enS_length, List.drop_length, List.append_nil, hl, dec_lt, Nat.lt_irrefl, decide_false, cond_false]
    refine (aX56_2 _ _ _ _).trans ?_
    simp only [List.append_nil, cntS, markS, Int.add_zero]
  · rintro i ⟨pre, k⟩ hi ⟨hl, hk0, hk1⟩ f hf
    simp only at hl hk0 hk1
    rw [List.drop_eq_getElem_cons hi] at hk1
    have hel := List.all_eq_true.1 h3 _ (List.getElem_mem hi)
    generalize hx : a[i] = x at hk1 hel ⊢
    have hc := cntS_nonneg (n := Bridge.n_) Bridge.n_pos (a.drop (i + 1))
    try simp only [Bool.and_eq_true] at hel
    simp only [cntS, Bridge.n_] at hk1
    have p1 : 0 ≤ cntS Port.n_ x.Ports := cntS_nonneg Port.n_pos x.Ports
    have w0 : IntKind.wrap IntKind.i64 (k + 1) = k + 1 := wrap_le (by omega) (by omega)
    have g1 : decide (0 ≤ k + 1) = true := decide_eq_true (by omega)
    have f1 : decide (k + 1 + cntS Port.n_ x.Ports ≤ 4611686018427387904) = true := decide_eq_true (by omega)
    refine (q56_0 _ _ _ _ f _).trans ?_
    rw [List.drop_eq_getElem_cons hi, hx]
    have hm := mid_get pre x (a.drop (i + 1)) hl
    have hat := mid_at pre x (a.drop (i + 1)) hl hm
    have hs : ∀ R, ((enS true (pre ++ x :: a.drop (i + 1))).set i R).getD i [] = R := fun R => getD_set_same _ _ _ _ (by rw [enS_length]; exact hm)
    simp only [w56_3, w56_4, List.length_set, enS_length, toNat_of, Nat.zero_add, dec_lt, dec_ge, hm, hs, List.set_set, enS_get _ hm, hat, decide_true, cond_true, Bool.and_self, Bool.and_true, Bool.true_and, wrap_succ (show i < 4611686018427387904 by omega), En.enc, List.append_eq, List.take_succ_cons, List.take_zero, List.drop_succ_cons, List.drop_zero, List.cons_append, List.nil_append, List.getD_cons_zero, List.getD_cons_succ, D.num, D.flag, D.text, D.rows, D.isOwn, pathOk, Leaf.fit, beq_self_eq_true, isS_enS, deS_enS, deepRows_enS, List.set_cons_zero, List.set_cons_succ, hel, w0, g1, f1]
    have he : k + 1 + cntS Port.n_ x.Ports = k + Bridge.n_ x := by simp only [Bridge.n_]; omega
    refine (congrArg f (congrArg (S56_0 _ _) ((enS_set true _ i (Bridge.mk_ x k)).trans (congrArg (enS true) (mid_set pre x _ _ hl))))).trans ?_
    refine (hf (pre ++ [Bridge.mk_ x k], k + 1 + cntS Port.n_ x.Ports) ⟨by simp [hl], by simp only; omega, by simp only; omega⟩).trans ?_
    show _ = some ([[D.int .i64 (k + (Bridge.n_ x + cntS Bridge.n_ (a.drop (i + 1))))]], [[D.sl true 2 (enS true (pre ++ (Bridge.mk_ x k :: markS Bridge.mk_ Bridge.n_ (a.drop (i + 1)) (k + Bridge.n_ x))))]])
    rw [he, List.append_assoc, List.singleton_append, Int.add_assoc]
theorem s56 : SoundAt Go.Proofs.Try.prog Hx 56 c56 := soundAt_of T51_sound mixed Go.Proofs.Try.func56 (by kernel_rfl) (by
  intro rows r h
  unfold c56 at h
  split at h
  · rename_i a k
    obtain ⟨hp, hr⟩ := Prod.mk.inj (Option.some.inj h)
    subst hr
    simp only [Bool.and_eq_true] at hp
    obtain ⟨hs0, hp⟩ := hp
    obtain ⟨xs0, rfl⟩ := isS_ex hs0
    simp only [deS_enS] at hp ⊢
    exact ⟨_, m56 xs0 k hp⟩
  · cases h)
def T56 : Table := (56, c56) :: T51
theorem T56_sound : Table.Sound Go.Proofs.Try.prog Hx T56 := Table.sound_cons s56 T51_sound
/- markLinkS -/
def o57 (a : List Link) (k : Int) : Bool × List Row × List Row := (decide (0 ≤ k) && (decide (k + cntS Link.n_ a ≤ 4611686018427387904) && decide (a.length ≤ 1152921504606846976)), [[.int .i64 (k + cntS Link.n_ a)]], [[.sl true 4 (enS true (markS Link.mk_ Link.n_ a k))]])
def c57 : Contract
  | [[.sl true 4 a], [.int .i64 k]] => some (isS Link true a && (o57 (deS Link a) k).1, (o57 (deS Link a) k).2.1, (o57 (deS Link a) k).2.2)
  | _ => none

def k57_0 (n : Nat) : Ex → St → RR := kThen (fun st ↦ runCode (Ctx.mk prog Hx (57)) (Table.call T56) n (codeAt [1, 1] (bodyOf Go.Proofs.Try.f57)) (Lv.mk 16 [] 16) st (kLeave (Ctx.P (Ctx.mk prog Hx (57))) (List.zip (Array.toList (Go.Func.resultTypes Go.Proofs.Try.f57)) (Array.toList (Go.Func.results Go.Proofs.Try.f57))) [] [C.view 0 0 0 [] 4 none])) (kLeave (Ctx.P (Ctx.mk prog Hx (57))) (List.zip (Array.toList (Go.Func.resultTypes Go.Proofs.Try.f57)) (Array.toList (Go.Func.results Go.Proofs.Try.f57))) [] [C.view 0 0 0 [] 4 none])
def k57_1 (n : Nat) : Ex → St → RR := kBlock (0) (k57_0 n)
def S57_0 (i0 : Int) (i1 : Int) (es2 : List (List D)) : St := St.mk [TV.v false [C.view 0 0 0 [] 4 none], I_ i0, U_, U_, U_, I_ i1, U_, U_, U_, U_, U_, U_, U_, U_, U_, U_, U_, U_, U_, U_, U_, U_, U_, U_, U_, U_, U_, U_, U_, U_, U_, U_, U_, U_, U_, U_, U_, U_, U_, U_, U_] [Root.mk false 4 es2 0 0 true true false]
def B57_0 (n : Nat) : St → (Ex → St → RR) → RR := runCode (Ctx.mk prog Hx (57)) (Table.call T56) n (codeAt [1, 0, 1, 0, 0] (bodyOf Go.Proofs.Try.f57)) (Lv.mk 35 [(0, 2)] 16)
def X57_2 (i0 : Int) (i1 : Int) (es2 : List (List D)) : St := St.mk [TV.v false [C.view 0 0 0 [] 4 none], I_ i0, U_, U_, U_, I_ i1, I_ i1, TV.v false [C.view 0 0 0 [] 4 none], I_ (ofNat (length es2)), B_ false, U_, U_, U_, U_, U_, U_, U_, U_, U_, U_, U_, U_, U_, U_, U_, U_, U_, U_, U_, U_, U_, U_, U_, U_, U_, U_, U_, U_, U_, U_, U_] [Root.mk false 4 es2 0 0 true true false]
def w57_3 (i0 : Int) (i1 : Int) (es2 : List (List D)) : List (List D) := set es2 (0 + toNat i1) (D.int i64 i0 :: drop 1 (getD es2 (0 + toNat i1) []))
def w57_4 (i0 : Int) (i1 : Int) (es2 : List (List D)) : List (List D) := set (w57_3 i0 i1 es2) (0 + toNat i1) (append (append (take 1 (getD (w57_3 i0 i1 es2) (0 + toNat i1) [])) [D.int i64 (wrap i64 (i0 + 1))]) (drop 2 (getD (w57_3 i0 i1 es2) (0 + toNat i1) [])))
def w57_5 (i0 : Int) (i1 : Int) (es2 : List (List D)) : List (List D) := set (w57_4 i0 i1 es2) (0 + toNat i1) (append (append (take 2 (getD (w57_4 i0 i1 es2) (0 + toNat i1) [])) [D.int i64 (wrap i64 (wrap i64 (i0 + 1) + 1))]) (drop 3 (getD (w57_4 i0 i1 es2) (0 + toNat i1) [])))
theorem q57_0 (n : Nat) (i0 : Int) (i1 : Int) (es2 : List (List D)) (f : St → RR) (K : Ex → St → RR) : B57_0 n (S57_0 i0 i1 es2) (kThen (fun st ↦ f (St.head 1 35 1099511627746 st)) K) = bif decide (i1 < ofNat (length es2)) then bif decide (0 ≤ i1) && decide (i1 < ofNat (length es2)) then bif decide (0 ≤ i1) && decide (i1 < ofNat (length (w57_3 i0 i1 es2))) then bif decide (0 ≤ i1) && decide (i1 < ofNat (length (w57_4 i0 i1 es2))) then bif decide (0 ≤ i1) && decide (i1 < ofNat (length (w57_5 i0 i1 es2))) then f (S57_0 (wrap i64 (wrap i64 (wrap i64 (wrap i64 (i0 + 1) + 1) + 1) + 1)) (wrap i64 (i1 + 1)) (set (w57_5 i0 i1 es2) (0 + toNat i1) (append (append (take 3 (getD (w57_5 i0 i1 es2) (0 + toNat i1) [])) [D.int i64 (wrap i64 (wrap i64 (wrap i64 (i0 + 1) + 1) + 1))]) (drop 4 (getD (w57_5 i0 i1 es2) (0 + toNat i1) []))))) else none else none else none else none else K (Ex.exit 0) (X57_2 i0 i1 es2) := by kernel_rfl
theorem aX57_2 (n : Nat) (i0 : Int) (i1 : Int) (es2 : List (List D)) : k57_1 n (Ex.exit 0) (X57_2 i0 i1 es2) = some ([[D.int i64 i0]], [[D.sl true 4 es2]]) := by kernel_rfl
theorem r57 (a : List Link) (k : Int) (n : Nat) : evFn ⟨prog, Hx, 57⟩ T56.call n Go.Proofs.Try.f57 [[.sl true 4 (enS true a)], [.int .i64 k]] = loopRun (B57_0 n) 1 35 1099511627746 n (S57_0 k (0) (enS true a)) (k57_1 n) := by kernel_rfl
theorem m57 (a : List Link) (k : Int) (hpre : (o57 a k).1 = true) : evFn ⟨Go.Proofs.Try.prog, Hx, 57⟩ T56.call (a.length + 1) Go.Proofs.Try.f57 [[.sl true 4 (enS true a)], [.int .i64 k]] = some (o57 a k).2 := by
  refine (r57 a k _).trans ?_
  show _ = (some ([[.int .i64 (k + cntS Link.n_ a)]], [[.sl true 4 (enS true (markS Link.mk_ Link.n_ a k))]]) : Option (List Row × List Row))
  replace hpre : (decide (0 ≤ k) && (decide (k + cntS Link.n_ a ≤ 4611686018427387904) && decide (a.length ≤ 1152921504606846976))) = true := hpre
  simp only [Bool.and_eq_true, decide_eq_true_eq] at hpre
  obtain ⟨h0, h1, h2⟩ := hpre
  refine loop_list (xs := a) (fun i (v : List Link × Int) => S57_0 v.2 (Int.ofNat i) (enS true (v.1 ++ a.drop i))) (fun i v => v.1.length = i ∧ 0 ≤ v.2 ∧ v.2 + cntS Link.n_ (a.drop i) ≤ 4611686018427387904) (fun _ v rest => some ([[D.int .i64 (v.2 + cntS Link.n_ rest)]], [[D.sl true 4 (enS true (v.1 ++ markS Link.mk_ Link.n_ rest v.2))]])) ?_ ?_ (a.length + 1) ([], k) (by omega) ⟨rfl, h0, h1⟩
  · rintro ⟨pre, k⟩ ⟨hl, hk0, hk1⟩ f
    refine (q57_0 _ _ _ _ f _).trans ?_
    simp only [enS_length, List.drop_length, List.append_nil, hl, dec_lt, Nat.lt_irrefl, decide_false, cond_false]
    refine (aX57_2 _ _ _ _).trans ?_
    simp only [List.append_nil, cntS, markS, Int.add_zero]
  · rintro i ⟨pre, k⟩ hi ⟨hl, hk0, hk1⟩ f hf
    simp only at hl hk0 hk1
    rw [List.drop_eq_getElem_cons hi] at hk1
    generalize hx : a[i] = x at hk1 ⊢
    have hc := cntS_nonneg (n := Link.n_) Link.n_pos (a.drop (i + 1))
    have hn : Link.n_ x = 4 := rfl
    simp only [cntS, hn] at hk1
    refine (q57_0 _ _ _ _ f _).trans ?_
    rw [List.drop_eq_getElem_cons hi, hx]
    have hm := mid_get pre x (a.drop (i + 1)) hl
    have hat := mid_at pre x (a.drop (i + 1)) hl hm
    have hs : ∀ R, ((enS true (pre ++ x :: a.drop (i + 1))).set i R).getD i [] = R := fun R => getD_set_same _ _ _ _ (by rw [enS_length]; exact hm)
    simp only [w57_3, w57_4, w57_5, List.length_set, enS_length, toNat_of, Nat.zero_add, dec_lt, dec_ge, hm, hs, List.set_set, enS_get _ hm, hat, decide_true, cond_true, Bool.and_self, wrap_succ (show i < 4611686018427387904 by omega), En.enc, List.append_eq, List.take_succ_cons, List.take_zero, List.drop_succ_cons, List.drop_zero, List.cons_append, List.nil_append]
    have hw1 : IntKind.wrap IntKind.i64 (k + 1) = k + 1 := wrap_le (by omega) (by omega)
    have hw2 : IntKind.wrap IntKind.i64 (k + 1 + 1) = k + 1 + 1 := wrap_le (by omega) (by omega)
    have hw3 : IntKind.wrap IntKind.i64 (k + 1 + 1 + 1) = k + 1 + 1 + 1 := wrap_le (by omega) (by omega)
    have hw4 : IntKind.wrap IntKind.i64 (k + 1 + 1 + 1 + 1) = k + 1 + 1 + 1 + 1 := wrap_le (by omega) (by omega)
    simp only [hw1, hw2, hw3, hw4]
    have he : k + 1 + 1 + 1 + 1 = k + Link.n_ x := by omega
    skip
    refine (congrArg f (congrArg (S57_0 _ _) ((enS_set true _ i (Link.mk_ x k)).trans (congrArg (enS true) (mid_set pre x _ _ hl))))).trans ?_
    refine (hf (pre ++ [Link.mk_ x k], k + 1 + 1 + 1 + 1) ⟨by simp [hl], by simp only; omega, by simp only; omega⟩).trans ?_
    show _ = some ([[D.int .i64 (k + (Link.n_ x + cntS Link.n_ (a.drop (i + 1))))]], [[D.sl true 4 (enS true (pre ++ (Link.mk_ x k :: markS Link.mk_ Link.n_ (a.drop (i + 1)) (k + Link.n_ x))))]])
    rw [he, List.append_assoc, List.singleton_append, Int.add_assoc]
theorem s57 : SoundAt Go.Proofs.Try.prog Hx 57 c57 := soundAt_of T56_sound mixed Go.Proofs.Try.func57 (by kernel_rfl) (by
  intro rows r h
  unfold c57 at h
  split at h
  · rename_i a k
    obtain ⟨hp, hr⟩ := Prod.mk.inj (Option.some.inj h)
    subst hr
    simp only [Bool.and_eq_true] at hp
    obtain ⟨hs0, hp⟩ := hp
    obtain ⟨xs0, rfl⟩ := isS_ex hs0
    simp only [deS_enS] at hp ⊢
    exact ⟨_, m57 xs0 k hp⟩
  · cases h)
def T57 : Table := (57, c57) :: T56
theorem T57_sound : Table.Sound Go.Proofs.Try.prog Hx T57 := Table.sound_cons s57 T56_sound
/- markNet -/
def o23 (a : Net) (k : Int) : Bool × List Row × List Row := (decide (0 ≤ k) && (decide (k + Net.nTop a ≤ 4611686018427387904) && ((decide (a.Bridges.length ≤ 1152921504606846976) && a.Bridges.all (fun x => decide (x.Ports.length ≤ 1152921504606846976))) && decide (a.Links.length ≤ 1152921504606846976))), [[.int .i64 (k + Net.nTop a)]], [[.sl true 2 (enS true (Net.mkTop a k).Bridges), .sl true 4 (enS true (Net.mkTop a k).Links)]])
def c23 : Contract
  | [[.sl true 2 a_Bridges, .sl true 4 a_Links], [.int .i64 k]] => some (isS Bridge true a_Bridges && isS Link true a_Links && (o23 ⟨(deS Bridge a_Bridges), (deS Link a_Links)⟩ k).1, (o23 ⟨(deS Bridge a_Bridges), (deS Link a_Links)⟩ k).2.1, (o23 ⟨(deS Bridge a_Bridges), (deS Link a_Links)⟩ k).2.2)
  | _ => none

theorem r23 (a : Net) (k : Int) (n : Nat) : evFn ⟨prog, Hx, 23⟩ T57.call n Go.Proofs.Try.f23 [[.sl true 2 (enS true a.Bridges), .sl true 4 (enS true a.Links)], [.int .i64 k]] = bif isS Bridge true (enS true (Net.Bridges a)) && (decide (0 ≤ k) && (decide (k + cntS Bridge.n_ (deS Bridge (enS true (Net.Bridges a))) ≤ 4611686018427387904) && (decide (length (deS Bridge (enS true (Net.Bridges a))) ≤ 1152921504606846976) && all (deS Bridge (enS true (Net.Bridges a))) fun x ↦ decide (length (Bridge.Ports x) ≤ 1152921504606846976)))) then bif isS Link true (enS true (Net.Links a)) && (decide (0 ≤ k + cntS Bridge.n_ (deS Bridge (enS true (Net.Bridges a)))) && (decide (k + cntS Bridge.n_ (deS Bridge (enS true (Net.Bridges a))) + cntS Link.n_ (deS Link (enS true (Net.Links a))) ≤ 4611686018427387904) && decide (length (deS Link (enS true (Net.Links a))) ≤ 1152921504606846976))) then some ([[D.int i64 (k + cntS Bridge.n_ (deS Bridge (enS true (Net.Bridges a))) + cntS Link.n_ (deS Link (enS true (Net.Links a))))]], [[D.sl true 2 (enS true (markS Bridge.mk_ Bridge.n_ (deS Bridge (enS true (Net.Bridges a))) k)), D.sl true 4 (enS true (markS Link.mk_ Link.n_ (deS Link (enS true (Net.Links a))) (k + cntS Bridge.n_ (deS Bridge (enS true (Net.Bridges a))))))]]) else none else none := by kernel_rfl
theorem m23 (a : Net) (k : Int) (hpre : (o23 a k).1 = true) : evFn ⟨Go.Proofs.Try.prog, Hx, 23⟩ T57.call 0 Go.Proofs.Try.f23 [[.sl true 2 (enS true a.Bridges), .sl true 4 (enS true a.Links)], [.int .i64 k]] = some (o23 a k).2 := by
  refine (r23 a k _).trans ?_
  show _ = (some ([[.int .i64 (k + Net.nTop a)]], [[.sl true 2 (enS true (Net.mkTop a k).Bridges), .sl true 4 (enS true (Net.mkTop a k).Links)]]) : Option (List Row × List Row))
  replace hpre : (decide (0 ≤ k) && (decide (k + Net.nTop a ≤ 4611686018427387904) && ((decide (a.Bridges.length ≤ 1152921504606846976) && a.Bridges.all (fun x => decide (x.Ports.length ≤ 1152921504606846976))) && decide (a.Links.length ≤ 1152921504606846976)))) = true := hpre
  simp only [Bool.and_eq_true] at hpre
  obtain ⟨h0, h1, h2⟩ := hpre
  have h0' := of_decide_eq_true h0
  have h1' := of_decide_eq_true h1
  unfold Net.nTop at h1'
  have p0 : 0 ≤ cntS Bridge.n_ a.Bridges := cntS_nonneg Bridge.n_pos a.Bridges
  have p1 : 0 ≤ cntS Link.n_ a.Links := cntS_nonneg Link.n_pos a.Links
  have g0 : decide (0 ≤ k) = true := decide_eq_true (by omega)
  have f0 : decide (k + cntS Bridge.n_ a.Bridges ≤ 4611686018427387904) = true := decide_eq_true (by omega)
  have d0 : decide (k + cntS Bridge.n_ a.Bridges < 0) = false := decide_eq_false (by omega)
  have g1 : decide (0 ≤ k + cntS Bridge.n_ a.Bridges) = true := decide_eq_true (by omega)
  have f1 : decide (k + cntS Bridge.n_ a.Bridges + cntS Link.n_ a.Links ≤ 4611686018427387904) = true := decide_eq_true (by omega)
  have d1 : decide (k + cntS Bridge.n_ a.Bridges + cntS Link.n_ a.Links < 0) = false := decide_eq_false (by omega)
  simp only [g0, f0, d0, g1, f1, d1, h2, isS_enS, deS_enS, sameB_self, cond_true, cond_false, Bool.and_self, Bool.and_true, Bool.true_and, Net.mkTop, Net.nTop]
  try rfl
  try simp only [Int.add_assoc]
theorem s23 : SoundAt Go.Proofs.Try.prog Hx 23 c23 := soundAt_of T57_sound mixed Go.Proofs.Try.func23 (by kernel_rfl) (by
  intro rows r h
  unfold c23 at h
  split at h
  · rename_i a_Bridges a_Links k
    obtain ⟨hp, hr⟩ := Prod.mk.inj (Option.some.inj h)
    subst hr
    simp only [Bool.and_eq_true] at hp
    obtain ⟨⟨hs0, hs1⟩, hp⟩ := hp
    obtain ⟨xs0, rfl⟩ := isS_ex hs0
    obtain ⟨xs1, rfl⟩ := isS_ex hs1
    simp only [deS_enS] at hp ⊢
    exact ⟨_, m23 ⟨xs0, xs1⟩ k hp⟩
  · cases h)
def T23 : Table := (23, c23) :: T57
theorem T23_sound : Table.Sound Go.Proofs.Try.prog Hx T23 := Table.sound_cons s23 T57_sound
/- markIntS -/
def o24 (a : List Int) (k : Int) : Bool × List Row × List Row := (decide (0 ≤ k) && (decide (k + cntS oneN a ≤ 4611686018427387904) && decide (a.length ≤ 1152921504606846976)), [[.int .i64 (k + cntS oneN a)]], [[.sl true 1 (enS true (markS intMk oneN a k))]])
def c24 : Contract
  | [[.sl true 1 a], [.int .i64 k]] => some (isS Int true a && (o24 (deS Int a) k).1, (o24 (deS Int a) k).2.1, (o24 (deS Int a) k).2.2)
  | _ => none

def k24_0 (n : Nat) : Ex → St → RR := kThen (fun st ↦ runCode (Ctx.mk prog Hx (24)) (Table.call T23) n (codeAt [1, 1] (bodyOf Go.Proofs.Try.f24)) (Lv.mk 16 [] 16) st (kLeave (Ctx.P (Ctx.mk prog Hx (24))) (List.zip (Array.toList (Go.Func.resultTypes Go.Proofs.Try.f24)) (Array.toList (Go.Func.results Go.Proofs.Try.f24))) [] [C.view 0 0 0 [] 1 none])) (kLeave (Ctx.P (Ctx.mk prog Hx (24))) (List.zip (Array.toList (Go.Func.resultTypes Go.Proofs.Try.f24)) (Array.toList (Go.Func.results Go.Proofs.Try.f24))) [] [C.view 0 0 0 [] 1 none])
def k24_1 (n : Nat) : Ex → St → RR := kBlock (0) (k24_0 n)
def S24_0 (i0 : Int) (i1 : Int) (es2 : List (List D)) : St := St.mk [TV.v false [C.view 0 0 0 [] 1 none], I_ i0, U_, U_, U_, I_ i1, U_, U_, U_, U_, U_, U_, U_, U_, U_, U_, U_, U_, U_] [Root.mk false 1 es2 0 0 true true false]
def B24_0 (n : Nat) : St → (Ex → St → RR) → RR := runCode (Ctx.mk prog Hx (24)) (Table.call T23) n (codeAt [1, 0, 1, 0, 0] (bodyOf Go.Proofs.Try.f24)) (Lv.mk 35 [(0, 2)] 16)
def X24_2 (i0 : Int) (i1 : Int) (es2 : List (List D)) : St := St.mk [TV.v false [C.view 0 0 0 [] 1 none], I_ i0, U_, U_, U_, I_ i1, I_ i1, TV.v false [C.view 0 0 0 [] 1 none], I_ (ofNat (length es2)), B_ false, U_, U_, U_, U_, U_, U_, U_, U_, U_] [Root.mk false 1 es2 0 0 true true false]
theorem q24_0 (n : Nat) (i0 : Int) (i1 : Int) (es2 : List (List D)) (f : St → RR) (K : Ex → St → RR) : B24_0 n (S24_0 i0 i1 es2) (kThen (fun st ↦ f (St.head 1 35 262114 st)) K) = bif decide (i1 < ofNat (length es2)) then bif decide (0 ≤ i1) && decide (i1 < ofNat (length es2)) then f (S24_0 (wrap i64 (i0 + 1)) (wrap i64 (i1 + 1)) (set es2 (0 + toNat i1) [D.int i64 i0])) else none else K (Ex.exit 0) (X24_2 i0 i1 es2) := by kernel_rfl
theorem aX24_2 (n : Nat) (i0 : Int) (i1 : Int) (es2 : List (List D)) : k24_1 n (Ex.exit 0) (X24_2 i0 i1 es2) = some ([[D.int i64 i0]], [[D.sl true 1 es2]]) := by kernel_rfl
theorem r24 (a : List Int) (k : Int) (n : Nat) : evFn ⟨prog, Hx, 24⟩ T23.call n Go.Proofs.Try.f24 [[.sl true 1 (enS true a)], [.int .i64 k]] = loopRun (B24_0 n) 1 35 262114 n (S24_0 k (0) (enS true a)) (k24_1 n) := by kernel_rfl
theorem m24 (a : List Int) (k : Int) (hpre : (o24 a k).1 = true) : evFn ⟨Go.Proofs.Try.prog, Hx, 24⟩ T23.call (a.length + 1) Go.Proofs.Try.f24 [[.sl true 1 (enS true a)], [.int .i64 k]] = some (o24 a k).2 := by
  refine (r24 a k _).trans ?_
  show _ = (some ([[.int .i64 (k + cntS oneN a)]], [[.sl true 1 (enS true (markS intMk oneN a k))]]) : Option (List Row × List Row))
  replace hpre : (decide (0 ≤ k) && (decide (k + cntS oneN a ≤ 4611686018427387904) && decide (a.length ≤ 1152921504606846976))) = true := hpre
  simp only [Bool.and_eq_true, decide_eq_true_eq] at hpre
  obtain ⟨h0, h1, h2⟩ := hpre
  refine loop_list (xs := a) (fun i (v : List Int × Int) => S24_0 v.2 (Int.ofNat i) (enS true (v.1 ++ a.drop i))) (fun i v => v.1.length = i ∧ 0 ≤ v.2 ∧ v.2 + cntS oneN (a.drop i) ≤ 4611686018427387904) (fun _ v rest => some ([[D.int .i64 (v.2 + cntS oneN rest)]], [[D.sl true 1 (enS true (v.1 ++ markS intMk oneN rest v.2))]])) ?_ ?_ (a.length + 1) ([], k) (by omega) ⟨rfl, h0, h1⟩
  · rintro ⟨pre, k⟩ ⟨hl, hk0, hk1⟩ f
    refine (q24_0 _ _ _ _ f _).trans ?_
    simp only [enS_length, List.drop_length, List.append_nil, hl, dec_lt, Nat.lt_irrefl, decide_false, cond_false]
    refine (aX24_2 _ _ _ _).trans ?_
    simp only [List.append_nil, cntS, markS, Int.add_zero]
  · rintro i ⟨pre, k⟩ hi ⟨hl, hk0, hk1⟩ f hf
    simp only at hl hk0 hk1
    rw [List.drop_eq_getElem_cons hi] at hk1
    generalize hx : a[i] = x at hk1 ⊢
    have hc := cntS_nonneg (n := oneN) oneN_pos (a.drop (i + 1))
    have hn : oneN x = 1 := rfl
    simp only [cntS, hn] at hk1
    refine (q24_0 _ _ _ _ f _).trans ?_
    rw [List.drop_eq_getElem_cons hi, hx]
    have hm := mid_get pre x (a.drop (i + 1)) hl
    have hat := mid_at pre x (a.drop (i + 1)) hl hm
    have hs : ∀ R, ((enS true (pre ++ x :: a.drop (i + 1))).set i R).getD i [] = R := fun R => getD_set_same _ _ _ _ (by rw [enS_length]; exact hm)
    simp only [List.length_set, enS_length, toNat_of, Nat.zero_add, dec_lt, dec_ge, hm, hs, List.set_set, enS_get _ hm, hat, decide_true, cond_true, Bool.and_self, wrap_succ (show i < 4611686018427387904 by omega), En.enc, List.append_eq, List.take_succ_cons, List.take_zero, List.drop_succ_cons, List.drop_zero, List.cons_append, List.nil_append]
    have hw1 : IntKind.wrap IntKind.i64 (k + 1) = k + 1 := wrap_le (by omega) (by omega)
    simp only [hw1]
    have he : k + 1 = k + oneN x := by omega
    skip
    refine (congrArg f (congrArg (S24_0 _ _) ((enS_set true _ i (intMk x k)).trans (congrArg (enS true) (mid_set pre x _ _ hl))))).trans ?_
    refine (hf (pre ++ [intMk x k], k + 1) ⟨by simp [hl], by simp only; omega, by simp only; omega⟩).trans ?_
    show _ = some ([[D.int .i64 (k + (oneN x + cntS oneN (a.drop (i + 1))))]], [[D.sl true 1 (enS true (pre ++ (intMk x k :: markS intMk oneN (a.drop (i + 1)) (k + oneN x))))]])
    rw [he, List.append_assoc, List.singleton_append, Int.add_assoc]
theorem s24 : SoundAt Go.Proofs.Try.prog Hx 24 c24 := soundAt_of T23_sound mixed Go.Proofs.Try.func24 (by kernel_rfl) (by
  intro rows r h
  unfold c24 at h
  split at h
  · rename_i a k
    obtain ⟨hp, hr⟩ := Prod.mk.inj (Option.some.inj h)
    subst hr
    simp only [Bool.and_eq_true] at hp
    obtain ⟨hs0, hp⟩ := hp
    obtain ⟨xs0, rfl⟩ := isS_ex hs0
    simp only [deS_enS] at hp ⊢
    exact ⟨_, m24 xs0 k hp⟩
  · cases h)
def T24 : Table := (24, c24) :: T23
theorem T24_sound : Table.Sound Go.Proofs.Try.prog Hx T24 := Table.sound_cons s24 T23_sound
/- heldIntS -/
def o25 (a : List Int) (k : Int) : Bool × List Row × List Row := (sameB (markS intMk oneN a k) a && (decide (0 ≤ k) && (decide (k + cntS oneN a ≤ 4611686018427387904) && decide (a.length ≤ 1152921504606846976))), [[.int .i64 (k + cntS oneN a)]], [])
def c25 : Contract
  | [[.sl false 1 a], [.int .i64 k]] => some (isS Int false a && (o25 (deS Int a) k).1, (o25 (deS Int a) k).2.1, (o25 (deS Int a) k).2.2)
  | _ => none

def k25_0 (n : Nat) : Ex → St → RR := kThen (fun st ↦ runCode (Ctx.mk prog Hx (25)) (Table.call T24) n (codeAt [1, 1] (bodyOf Go.Proofs.Try.f25)) (Lv.mk 16 [] 16) st (kLeave (Ctx.P (Ctx.mk prog Hx (25))) (List.zip (Array.toList (Go.Func.resultTypes Go.Proofs.Try.f25)) (Array.toList (Go.Func.results Go.Proofs.Try.f25))) [] [])) (kLeave (Ctx.P (Ctx.mk prog Hx (25))) (List.zip (Array.toList (Go.Func.resultTypes Go.Proofs.Try.f25)) (Array.toList (Go.Func.results Go.Proofs.Try.f25))) [] [])
def k25_1 (n : Nat) : Ex → St → RR := kBlock (0) (k25_0 n)
def S25_0 (a : List Int) (i0 : Int) (i1 : Int) : St := St.mk [TV.v false [C.d (D.sl false 1 (enS false a))], I_ i0, U_, U_, U_, I_ i1, U_, U_, U_, U_, U_, U_, U_, U_, U_, U_, U_, U_, U_, U_, U_] []
def B25_0 (n : Nat) : St → (Ex → St → RR) → RR := runCode (Ctx.mk prog Hx (25)) (Table.call T24) n (codeAt [1, 0, 1, 0, 0] (bodyOf Go.Proofs.Try.f25)) (Lv.mk 35 [(0, 2)] 16)
def X25_2 (a : List Int) (i0 : Int) (i1 : Int) : St := St.mk [TV.v false [C.d (D.sl false 1 (enS false a))], I_ i0, U_, U_, I_ (Int.negSucc 0), I_ i1, I_ i1, TV.v false [C.d (D.sl false 1 (enS false a))], I_ (ofNat (length (enS false a))), B_ true, U_, U_, TV.v false [C.d (D.sl false 1 (enS false a))], I_ i1, TV.v false [C.rptr (getD (enS false a) (toNat i1) [])], I_ (D.num (getD (getD (enS false a) (toNat i1) []) 0 D.dead)), I_ i0, B_ true, U_, U_, U_] []
def X25_3 (a : List Int) (i0 : Int) (i1 : Int) : St := St.mk [TV.v false [C.d (D.sl false 1 (enS false a))], I_ i0, U_, U_, U_, I_ i1, I_ i1, TV.v false [C.d (D.sl false 1 (enS false a))], I_ (ofNat (length (enS false a))), B_ false, U_, U_, U_, U_, U_, U_, U_, U_, U_, U_, U_] []
theorem q25_0 (a : List Int) (n : Nat) (i0 : Int) (i1 : Int) (f : St → RR) (K : Ex → St → RR) : B25_0 n (S25_0 a i0 i1) (kThen (fun st ↦ f (St.head 0 35 1048562 st)) K) = bif decide (i1 < ofNat (length (enS false a))) then bif decide (0 ≤ i1) && decide (i1 < ofNat (length (enS false a))) then bif Leaf.fit false (Leaf.int i64) (getD (getD (enS false a) (toNat i1) []) 0 D.dead) && true then bif D.num (getD (getD (enS false a) (toNat i1) []) 0 D.dead) != i0 then K Ex.ret (X25_2 a i0 i1) else f (S25_0 a (wrap i64 (i0 + 1)) (wrap i64 (i1 + 1))) else none else none else K (Ex.exit 0) (X25_3 a i0 i1) := by kernel_rfl
theorem aX25_2 (a : List Int) (n : Nat) (i0 : Int) (i1 : Int) : k25_1 n Ex.ret (X25_2 a i0 i1) = some ([[D.int i64 (Int.negSucc 0)]], []) := by kernel_rfl
theorem aX25_3 (a : List Int) (n : Nat) (i0 : Int) (i1 : Int) : k25_1 n (Ex.exit 0) (X25_3 a i0 i1) = some ([[D.int i64 i0]], []) := by kernel_rfl
theorem r25 (a : List Int) (k : Int) (n : Nat) : evFn ⟨prog, Hx, 25⟩ T24.call n Go.Proofs.Try.f25 [[.sl false 1 (enS false a)], [.int .i64 k]] = loopRun (B25_0 n) 0 35 1048562 n (S25_0 a k (0)) (k25_1 n) := by kernel_rfl
theorem m25 (a : List Int) (k : Int) (hpre : (o25 a k).1 = true) : evFn ⟨Go.Proofs.Try.prog, Hx, 25⟩ T24.call (a.length + 1) Go.Proofs.Try.f25 [[.sl false 1 (enS false a)], [.int .i64 k]] = some (o25 a k).2 := by
  refine (r25 a k _).trans ?_
  show _ = (some ([[.int .i64 (k + cntS oneN a)]], []) : Option (List Row × List Row))
  replace hpre : (sameB (markS intMk oneN a k) a && (decide (0 ≤ k) && (decide (k + cntS oneN a ≤ 4611686018427387904) && decide (a.length ≤ 1152921504606846976)))) = true := hpre
  rw [Bool.and_eq_true] at hpre
  obtain ⟨hsame, hpre⟩ := hpre
  have hsame := sameB_eq hsame
  simp only [Bool.and_eq_true, decide_eq_true_eq] at hpre
  obtain ⟨h0, h1, h2⟩ := hpre
  refine loop_list (xs := a) (fun i (k : Int) => S25_0 a k (Int.ofNat i)) (fun i k => 0 ≤ k ∧ k + cntS oneN (a.drop i) ≤ 4611686018427387904 ∧ markS intMk oneN (a.drop i) k = a.drop i) (fun _ k rest => some ([[D.int .i64 (k + cntS oneN rest)]], [])) ?_ ?_ (a.length + 1) k (by omega) ⟨h0, h1, hsame⟩
  · rintro k ⟨hk0, hk1, _⟩ f
    refine (q25_0 a _ _ _ f _).trans ?_
    simp only [enS_length, dec_lt, Nat.lt_irrefl, decide_false, cond_false]
    refine (aX25_3 a _ _ _).trans ?_
    simp only [cntS, Int.add_zero]
  · rintro i k hi ⟨hk0, hk1, hk2⟩ f hf
    rw [List.drop_eq_getElem_cons hi] at hk1 hk2
    have hc := cntS_nonneg (n := oneN) oneN_pos (a.drop (i + 1))
    have hn : oneN a[i] = 1 := rfl
    simp only [cntS, hn] at hk1
    have he : k + 1 = k + oneN a[i] := by omega
    simp only [markS, List.cons.injEq] at hk2
    obtain ⟨hk2, hk3⟩ := hk2
    refine (q25_0 a _ _ _ f _).trans ?_
    simp only [enS_length, toNat_of, dec_lt, dec_ge, enS_get _ hi, hi, wrap_succ (show i < 4611686018427387904 by omega), decide_true, cond_true, Bool.and_self]
    have hw1 : IntKind.wrap IntKind.i64 (k + 1) = k + 1 := wrap_le (by omega) (by omega)
    simp only [hw1]
    rw [← hk2]
    refine Eq.trans (b := f (S25_0 a (k + 1) (Int.ofNat (i + 1)))) ?_ ((hf (k + 1) ⟨by omega, by omega, by rw [he]; exact hk3⟩).trans ?_)
    · simp only [En.enc, intMk, Leaf.fit, List.drop_succ_cons, List.drop_zero, List.getD_cons_zero, List.getD_cons_succ, D.num, D.flag, D.text, bne_self_eq_false, Bool.and_self, cond_true, cond_false, decide_true]
    · show _ = some ([[D.int .i64 (k + (oneN a[i] + cntS oneN (a.drop (i + 1))))]], [])
      rw [he, Int.add_assoc]
theorem s25 : SoundAt Go.Proofs.Try.prog Hx 25 c25 := soundAt_of T24_sound mixed Go.Proofs.Try.func25 (by kernel_rfl) (by
  intro rows r h
  unfold c25 at h
  split at h
  · rename_i a k
    obtain ⟨hp, hr⟩ := Prod.mk.inj (Option.some.inj h)
    subst hr
    simp only [Bool.and_eq_true] at hp
    obtain ⟨hs0, hp⟩ := hp
    obtain ⟨xs0, rfl⟩ := isS_ex hs0
    simp only [deS_enS] at hp ⊢
    exact ⟨_, m25 xs0 k hp⟩
  · cases h)
def T25 : Table := (25, c25) :: T24
theorem T25_sound : Table.Sound Go.Proofs.Try.prog Hx T25 := Table.sound_cons s25 T24_sound
/- markVisitS -/
def o29 (a : List Visit) (k : Int) : Bool × List Row × List Row := (decide (0 ≤ k) && (decide (k + cntS Visit.n_ a ≤ 4611686018427387904) && decide (a.length ≤ 1152921504606846976)), [[.int .i64 (k + cntS Visit.n_ a)]], [[.sl true 3 (enS true (markS Visit.mk_ Visit.n_ a k))]])
def c29 : Contract
  | [[.sl true 3 a], [.int .i64 k]] => some (isS Visit true a && (o29 (deS Visit a) k).1, (o29 (deS Visit a) k).2.1, (o29 (deS Visit a) k).2.2)
  | _ => none

def k29_0 (n : Nat) : Ex → St → RR := kThen (fun st ↦ runCode (Ctx.mk prog Hx (29)) (Table.call T25) n (codeAt [1, 1] (bodyOf Go.Proofs.Try.f29)) (Lv.mk 16 [] 16) st (kLeave (Ctx.P (Ctx.mk prog Hx (29))) (List.zip (Array.toList (Go.Func.resultTypes Go.Proofs.Try.f29)) (Array.toList (Go.Func.results Go.Proofs.Try.f29))) [] [C.view 0 0 0 [] 3 none])) (kLeave (Ctx.P (Ctx.mk prog Hx (29))) (List.zip (Array.toList (Go.Func.resultTypes Go.Proofs.Try.f29)) (Array.toList (Go.Func.results Go.Proofs.Try.f29))) [] [C.view 0 0 0 [] 3 none])
def k29_1 (n : Nat) : Ex → St → RR := kBlock (0) (k29_0 n)
def S29_0 (i0 : Int) (i1 : Int) (es2 : List (List D)) : St := St.mk [TV.v false [C.view 0 0 0 [] 3 none], I_ i0, U_, U_, U_, I_ i1, U_, U_, U_, U_, U_, U_, U_, U_, U_, U_, U_, U_, U_, U_, U_, U_, U_, U_, U_, U_, U_, U_, U_, U_, U_, U_, U_, U_] [Root.mk false 3 es2 0 0 true true false]
def B29_0 (n : Nat) : St → (Ex → St → RR) → RR := runCode (Ctx.mk prog Hx (29)) (Table.call T25) n (codeAt [1, 0, 1, 0, 0] (bodyOf Go.Proofs.Try.f29)) (Lv.mk 35 [(0, 2)] 16)
def X29_2 (i0 : Int) (i1 : Int) (es2 : List (List D)) : St := St.mk [TV.v false [C.view 0 0 0 [] 3 none], I_ i0, U_, U_, U_, I_ i1, I_ i1, TV.v false [C.view 0 0 0 [] 3 none], I_ (ofNat (length es2)), B_ false, U_, U_, U_, U_, U_, U_, U_, U_, U_, U_, U_, U_, U_, U_, U_, U_, U_, U_, U_, U_, U_, U_, U_, U_] [Root.mk false 3 es2 0 0 true true false]
def w29_3 (i0 : Int) (i1 : Int) (es2 : List (List D)) : List (List D) := set es2 (0 + toNat i1) (D.int i64 i0 :: drop 1 (getD es2 (0 + toNat i1) []))
def w29_4 (i0 : Int) (i1 : Int) (es2 : List (List D)) : List (List D) := set (w29_3 i0 i1 es2) (0 + toNat i1) (append (append (take 1 (getD (w29_3 i0 i1 es2) (0 + toNat i1) [])) [D.int i64 (wrap i64 (i0 + 1))]) (drop 2 (getD (w29_3 i0 i1 es2) (0 + toNat i1) [])))
theorem q29_0 (n : Nat) (i0 : Int) (i1 : Int) (es2 : List (List D)) (f : St → RR) (K : Ex → St → RR) : B29_0 n (S29_0 i0 i1 es2) (kThen (fun st ↦ f (St.head 1 35 8589934562 st)) K) = bif decide (i1 < ofNat (length es2)) then bif decide (0 ≤ i1) && decide (i1 < ofNat (length es2)) then bif decide (0 ≤ i1) && decide (i1 < ofNat (length (w29_3 i0 i1 es2))) then bif decide (0 ≤ i1) && decide (i1 < ofNat (length (w29_4 i0 i1 es2))) then f (S29_0 (wrap i64 (wrap i64 (wrap i64 (i0 + 1) + 1) + 1)) (wrap i64 (i1 + 1)) (set (w29_4 i0 i1 es2) (0 + toNat i1) (append (append (take 2 (getD (w29_4 i0 i1 es2) (0 + toNat i1) [])) [D.int i64 (wrap i64 (wrap i64 (i0 + 1) + 1))]) (drop 3 (getD (w29_4 i0 i1 es2) (0 + toNat i1) []))))) else none else none else none else K (Ex.exit 0) (X29_2 i0 i1 es2) := by kernel_rfl
theorem aX29_2 (n : Nat) (i0 : Int) (i1 : Int) (es2 : List (List D)) : k29_1 n (Ex.exit 0) (X29_2 i0 i1 es2) = some ([[D.int i64 i0]], [[D.sl true 3 es2]]) := by kernel_rfl
theorem r29 (a : List Visit) (k : Int) (n : Nat) : evFn ⟨prog, Hx, 29⟩ T25.call n Go.Proofs.Try.f29 [[.sl true 3 (enS true a)], [.int .i64 k]] = loopRun (B29_0 n) 1 35 8589934562 n (S29_0 k (0) (enS true a)) (k29_1 n) := by kernel_rfl
theorem m29 (a : List Visit) (k : Int) (hpre : (o29 a k).1 = true) : evFn ⟨Go.Proofs.Try.prog, Hx, 29⟩ T25.call (a.length + 1) Go.Proofs.Try.f29 [[.sl true 3 (enS true a)], [.int .i64 k]] = some (o29 a k).2 := by
  refine (r29 a k _).trans ?_
  show _ = (some ([[.int .i64 (k + cntS Visit.n_ a)]], [[.sl true 3 (enS true (markS Visit.mk_ Visit.n_ a k))]]) : Option (List Row × List Row))
  replace hpre : (decide (0 ≤ k) && (decide (k + cntS Visit.n_ a ≤ 4611686018427387904) && decide (a.length ≤ 1152921504606846976))) = true := hpre
  simp only [Bool.and_eq_true, decide_eq_true_eq] at hpre
  obtain ⟨h0, h1, h2⟩ := hpre
  refine loop_list (xs := a) (fun i (v : List Visit × Int) => S29_0 v.2 (Int.ofNat i) (enS true (v.1 ++ a.drop i))) (fun i v => v.1.length = i ∧ 0 ≤ v.2 ∧ v.2 + cntS Visit.n_ (a.drop i) ≤ 4611686018427387904) (fun _ v rest => some ([[D.int .i64 (v.2 + cntS Visit.n_ rest)]], [[D.sl true 3 (enS true (v.1 ++ markS Visit.mk_ Visit.n_ rest v.2))]])) ?_ ?_ (a.length + 1) ([], k) (by omega) ⟨rfl, h0, h1⟩
  · rintro ⟨pre, k⟩ ⟨hl, hk0, hk1⟩ f
    refine (q29_0 _ _ _ _ f _).trans ?_
    simp only [enS_length, List.drop_length, List.append_nil, hl, dec_lt, Nat.lt_irrefl, decide_false, cond_false]
    refine (aX29_2 _ _ _ _).trans ?_
    simp only [List.append_nil, cntS, markS, Int.add_zero]
  · rintro i ⟨pre, k⟩ hi ⟨hl, hk0, hk1⟩ f hf
    simp only at hl hk0 hk1
    rw [List.drop_eq_getElem_cons hi] at hk1
    generalize hx : a[i] = x at hk1 ⊢
    have hc := cntS_nonneg (n := Visit.n_) Visit.n_pos (a.drop (i + 1))
    have hn : Visit.n_ x = 3 := rfl
    simp only [cntS, hn] at hk1
    refine (q29_0 _ _ _ _ f _).trans ?_
    rw [List.drop_eq_getElem_cons hi, hx]
    have hm := mid_get pre x (a.drop (i + 1)) hl
    have hat := mid_at pre x (a.drop (i + 1)) hl hm
    have hs : ∀ R, ((enS true (pre ++ x :: a.drop (i + 1))).set i R).getD i [] = R := fun R => getD_set_same _ _ _ _ (by rw [enS_length]; exact hm)
    simp only [w29_3, w29_4, List.length_set, enS_length, toNat_of, Nat.zero_add, dec_lt, dec_ge, hm, hs, List.set_set, enS_get _ hm, hat, decide_true, cond_true, Bool.and_self, wrap_succ (show i < 4611686018427387904 by omega), En.enc, List.append_eq, List.take_succ_cons, List.take_zero, List.drop_succ_cons, List.drop_zero, List.cons_append, List.nil_append]
    have hw1 : IntKind.wrap IntKind.i64 (k + 1) = k + 1 := wrap_le (by omega) (by omega)
    have hw2 : IntKind.wrap IntKind.i64 (k + 1 + 1) = k + 1 + 1 := wrap_le (by omega) (by omega)
    have hw3 : IntKind.wrap IntKind.i64 (k + 1 + 1 + 1) = k + 1 + 1 + 1 := wrap_le (by omega) (by omega)
    simp only [hw1, hw2, hw3]
    have he : k + 1 + 1 + 1 = k + Visit.n_ x := by omega
    skip
    refine (congrArg f (congrArg (S29_0 _ _) ((enS_set true _ i (Visit.mk_ x k)).trans (congrArg (enS true) (mid_set pre x _ _ hl))))).trans ?_
    refine (hf (pre ++ [Visit.mk_ x k], k + 1 + 1 + 1) ⟨by simp [hl], by simp only; omega, by simp only; omega⟩).trans ?_
    show _ = some ([[D.int .i64 (k + (Visit.n_ x + cntS Visit.n_ (a.drop (i + 1))))]], [[D.sl true 3 (enS true (pre ++ (Visit.mk_ x k :: markS Visit.mk_ Visit.n_ (a.drop (i + 1)) (k + Visit.n_ x))))]])
    rw [he, List.append_assoc, List.singleton_append, Int.add_assoc]
theorem s29 : SoundAt Go.Proofs.Try.prog Hx 29 c29 := soundAt_of T25_sound mixed Go.Proofs.Try.func29 (by kernel_rfl) (by
  intro rows r h
  unfold c29 at h
  split at h
  · rename_i a k
    obtain ⟨hp, hr⟩ := Prod.mk.inj (Option.some.inj h)
    subst hr
    simp only [Bool.and_eq_true] at hp
    obtain ⟨hs0, hp⟩ := hp
    obtain ⟨xs0, rfl⟩ := isS_ex hs0
    simp only [deS_enS] at hp ⊢
    exact ⟨_, m29 xs0 k hp⟩
  · cases h)
def T29 : Table := (29, c29) :: T25
theorem T29_sound : Table.Sound Go.Proofs.Try.prog Hx T29 := Table.sound_cons s29 T25_sound
/- heldVisitS -/
def o30 (a : List Visit) (k : Int) : Bool × List Row × List Row := (sameB (markS Visit.mk_ Visit.n_ a k) a && (decide (0 ≤ k) && (decide (k + cntS Visit.n_ a ≤ 4611686018427387904) && decide (a.length ≤ 1152921504606846976))), [[.int .i64 (k + cntS Visit.n_ a)]], [])
def c30 : Contract
  | [[.sl false 3 a], [.int .i64 k]] => some (isS Visit false a && (o30 (deS Visit a) k).1, (o30 (deS Visit a) k).2.1, (o30 (deS Visit a) k).2.2)
  | _ => none

def k30_0 (n : Nat) : Ex → St → RR := kThen (fun st ↦ runCode (Ctx.mk prog Hx (30)) (Table.call T29) n (codeAt [1, 1] (bodyOf Go.Proofs.Try.f30)) (Lv.mk 16 [] 16) st (kLeave (Ctx.P (Ctx.mk prog Hx (30))) (List.zip (Array.toList (Go.Func.resultTypes Go.Proofs.Try.f30)) (Array.toList (Go.Func.results Go.Proofs.Try.f30))) [] [])) (kLeave (Ctx.P (Ctx.mk prog Hx (30))) (List.zip (Array.toList (Go.Func.resultTypes Go.Proofs.Try.f30)) (Array.toList (Go.Func.results Go.Proofs.Try.f30))) [] [])
def k30_1 (n : Nat) : Ex → St → RR := kBlock (0) (k30_0 n)
def S30_0 (a : List Visit) (i0 : Int) (i1 : Int) : St := St.mk [TV.v false [C.d (D.sl false 3 (enS false a))], I_ i0, U_, U_, U_, I_ i1, U_, U_, U_, U_, U_, U_, U_, U_, U_, U_, U_, U_, U_, U_, U_, U_, U_, U_, U_, U_, U_, U_, U_, U_, U_, U_, U_, U_, U_, U_, U_, U_, U_, U_] []
def B30_0 (n : Nat) : St → (Ex → St → RR) → RR := runCode (Ctx.mk prog Hx (30)) (Table.call T29) n (codeAt [1, 0, 1, 0, 0] (bodyOf Go.Proofs.Try.f30)) (Lv.mk 35 [(0, 2)] 16)
def X30_2 (a : List Visit) (i0 : Int) (i1 : Int) : St := St.mk [TV.v false [C.d (D.sl false 3 (enS false a))], I_ i0, U_, U_, I_ (Int.negSucc 0), I_ i1, I_ i1, TV.v false [C.d (D.sl false 3 (enS false a))], I_ (ofNat (length (enS false a))), B_ true, U_, U_, TV.v false [C.d (D.sl false 3 (enS false a))], I_ i1, TV.v false [C.rptr (getD (enS false a) (toNat i1) [])], TV.v false [C.rptr (getD (enS false a) (toNat i1) [])], I_ (D.num (getD (getD (enS false a) (toNat i1) []) 0 D.dead)), I_ i0, B_ true, U_, U_, U_, U_, U_, U_, U_, U_, U_, U_, U_, U_, U_, U_, U_, U_, U_, U_, U_, U_, U_] []
def X30_3 (a : List Visit) (i0 : Int) (i1 : Int) : St := St.mk [TV.v false [C.d (D.sl false 3 (enS false a))], I_ (wrap i64 (i0 + 1)), U_, U_, I_ (Int.negSucc 0), I_ i1, I_ i1, TV.v false [C.d (D.sl false 3 (enS false a))], I_ (ofNat (length (enS false a))), B_ true, U_, U_, TV.v false [C.d (D.sl false 3 (enS false a))], I_ i1, TV.v false [C.rptr (getD (enS false a) (toNat i1) [])], TV.v false [C.rptr (getD (enS false a) (toNat i1) [])], I_ (D.num (getD (getD (enS false a) (toNat i1) []) 0 D.dead)), I_ i0, B_ false, I_ i0, I_ (wrap i64 (i0 + 1)), TV.v false [C.d (D.sl false 3 (enS false a))], I_ i1, TV.v false [C.rptr (getD (enS false a) (toNat i1) [])], TV.v false [C.rptr (drop 1 (getD (enS false a) (toNat i1) []))], I_ (D.num (getD (drop 1 (getD (enS false a) (toNat i1) [])) 0 D.dead)), I_ (wrap i64 (i0 + 1)), B_ true, U_, U_, U_, U_, U_, U_, U_, U_, U_, U_, U_, U_] []
def X30_4 (a : List Visit) (i0 : Int) (i1 : Int) : St := St.mk [TV.v false [C.d (D.sl false 3 (enS false a))], I_ (wrap i64 (wrap i64 (i0 + 1) + 1)), U_, U_, I_ (Int.negSucc 0), I_ i1, I_ i1, TV.v false [C.d (D.sl false 3 (enS false a))], I_ (ofNat (length (enS false a))), B_ true, U_, U_, TV.v false [C.d (D.sl false 3 (enS false a))], I_ i1, TV.v false [C.rptr (getD (enS false a) (toNat i1) [])], TV.v false [C.rptr (getD (enS false a) (toNat i1) [])], I_ (D.num (getD (getD (enS false a) (toNat i1) []) 0 D.dead)), I_ i0, B_ false, I_ i0, I_ (wrap i64 (i0 + 1)), TV.v false [C.d (D.sl false 3 (enS false a))], I_ i1, TV.v false [C.rptr (getD (enS false a) (toNat i1) [])], TV.v false [C.rptr (drop 1 (getD (enS false a) (toNat i1) []))], I_ (D.num (getD (drop 1 (getD (enS false a) (toNat i1) [])) 0 D.dead)), I_ (wrap i64 (i0 + 1)), B_ false, I_ (wrap i64 (i0 + 1)), I_ (wrap i64 (wrap i64 (i0 + 1) + 1)), TV.v false [C.d (D.sl false 3 (enS false a))], I_ i1, TV.v false [C.rptr (getD (enS false a) (toNat i1) [])], TV.v false [C.rptr (drop 2 (getD (enS false a) (toNat i1) []))], I_ (D.num (getD (drop 2 (getD (enS false a) (toNat i1) [])) 0 D.dead)), I_ (wrap i64 (wrap i64 (i0 + 1) + 1)), B_ true, U_, U_, U_] []
def X30_5 (a : List Visit) (i0 : Int) (i1 : Int) : St := St.mk [TV.v false [C.d (D.sl false 3 (enS false a))], I_ i0, U_, U_, U_, I_ i1, I_ i1, TV.v false [C.d (D.sl false 3 (enS false a))], I_ (ofNat (length (enS false a))), B_ false, U_, U_, U_, U_, U_, U_, U_, U_, U_, U_, U_, U_, U_, U_, U_, U_, U_, U_, U_, U_, U_, U_, U_, U_, U_, U_, U_, U_, U_, U_] []
theorem q30_0 (a : List Visit) (n : Nat) (i0 : Int) (i1 : Int) (f : St → RR) (K : Ex → St → RR) : B30_0 n (S30_0 a i0 i1) (kThen (fun st ↦ f (St.head 0 35 549755813874 st)) K) = bif decide (i1 < ofNat (length (enS false a))) then bif decide (0 ≤ i1) && decide (i1 < ofNat (length (enS false a))) then bif Leaf.fit false (Leaf.int i64) (getD (getD (enS false a) (toNat i1) []) 0 D.dead) && true then bif D.num (getD (getD (enS false a) (toNat i1) []) 0 D.dead) != i0 then K Ex.ret (X30_2 a i0 i1) else bif decide (0 ≤ i1) && decide (i1 < ofNat (length (enS false a))) then bif Leaf.fit false (Leaf.int i64) (getD (drop 1 (getD (enS false a) (toNat i1) [])) 0 D.dead) && true then bif D.num (getD (drop 1 (getD (enS false a) (toNat i1) [])) 0 D.dead) != wrap i64 (i0 + 1) then K Ex.ret (X30_3 a i0 i1) else bif decide (0 ≤ i1) && decide (i1 < ofNat (length (enS false a))) then bif Leaf.fit false (Leaf.int i64) (getD (drop 2 (getD (enS false a) (toNat i1) [])) 0 D.dead) && true then bif D.num (getD (drop 2 (getD (enS false a) (toNat i1) [])) 0 D.dead) != wrap i64 (wrap i64 (i0 + 1) + 1) then K Ex.ret (X30_4 a i0 i1) else f (S30_0 a (wrap i64 (wrap i64 (wrap i64 (i0 + 1) + 1) + 1)) (wrap i64 (i1 + 1))) else none else none else none else none else none else none else K (Ex.exit 0) (X30_5 a i0 i1) := by kernel_rfl
theorem aX30_2 (a : List Visit) (n : Nat) (i0 : Int) (i1 : Int) : k30_1 n Ex.ret (X30_2 a i0 i1) = some ([[D.int i64 (Int.negSucc 0)]], []) := by kernel_rfl
theorem aX30_3 (a : List Visit) (n : Nat) (i0 : Int) (i1 : Int) : k30_1 n Ex.ret (X30_3 a i0 i1) = some ([[D.int i64 (Int.negSucc 0)]], []) := by kernel_rfl
theorem aX30_4 (a : List Visit) (n : Nat) (i0 : Int) (i1 : Int) : k30_1 n Ex.ret (X30_4 a i0 i1) = some ([[D.int i64 (Int.negSucc 0)]], []) := by kernel_rfl
theorem aX30_5 (a : List Visit) (n : Nat) (i0 : Int) (i1 : Int) : k30_1 n (Ex.exit 0) (X30_5 a i0 i1) = some ([[D.int i64 i0]], []) := by kernel_rfl
theorem r30 (a : List Visit) (k : Int) (n : Nat) : evFn ⟨prog, Hx, 30⟩ T29.call n Go.Proofs.Try.f30 [[.sl false 3 (enS false a)], [.int .i64 k]] = loopRun (B30_0 n) 0 35 549755813874 n (S30_0 a k (0)) (k30_1 n) := by kernel_rfl
theorem m30 (a : List Visit) (k : Int) (hpre : (o30 a k).1 = true) : evFn ⟨Go.Proofs.Try.prog, Hx, 30⟩ T29.call (a.length + 1) Go.Proofs.Try.f30 [[.sl false 3 (enS false a)], [.int .i64 k]] = some (o30 a k).2 := by
  refine (r30 a k _).trans ?_
  show _ = (some ([[.int .i64 (k + cntS Visit.n_ a)]], []) : Option (List Row × List Row))
  replace hpre : (sameB (markS Visit.mk_ Visit.n_ a k) a && (decide (0 ≤ k) && (decide (k + cntS Visit.n_ a ≤ 4611686018427387904) && decide (a.length ≤ 1152921504606846976)))) = true := hpre
  rw [Bool.and_eq_true] at hpre
  obtain ⟨hsame, hpre⟩ := hpre
  have hsame := sameB_eq hsame
  simp only [Bool.and_eq_true, decide_eq_true_eq] at hpre
  obtain ⟨h0, h1, h2⟩ := hpre
  refine loop_list (xs := a) (fun i (k : Int) => S30_0 a k (Int.ofNat i)) (fun i k => 0 ≤ k ∧ k + cntS Visit.n_ (a.drop i) ≤ 4611686018427387904 ∧ markS Visit.mk_ Visit.n_ (a.drop i) k = a.drop i) (fun _ k rest => some ([[D.int .i64 (k + cntS Visit.n_ rest)]], [])) ?_ ?_ (a.length + 1) k (by omega) ⟨h0, h1, hsame⟩
  · rintro k ⟨hk0, hk1, _⟩ f
    refine (q30_0 a _ _ _ f _).trans ?_
    simp only [enS_length, dec_lt, Nat.lt_irrefl, decide_false, cond_false]
    refine (aX30_5 a _ _ _).trans ?_
    simp only [cntS, Int.add_zero]
  · rintro i k hi ⟨hk0, hk1, hk2⟩ f hf
    rw [List.drop_eq_getElem_cons hi] at hk1 hk2
    have hc := cntS_nonneg (n := Visit.n_) Visit.n_pos (a.drop (i + 1))
    have hn : Visit.n_ a[i] = 3 := rfl
    simp only [cntS, hn] at hk1
    have he : k + 1 + 1 + 1 = k + Visit.n_ a[i] := by omega
    simp only [markS, List.cons.injEq] at hk2
    obtain ⟨hk2, hk3⟩ := hk2
    refine (q30_0 a _ _ _ f _).trans ?_
    simp only [enS_length, toNat_of, dec_lt, dec_ge, enS_get _ hi, hi, wrap_succ (show i < 4611686018427387904 by omega), decide_true, cond_true, Bool.and_self]
    have hw1 : IntKind.wrap IntKind.i64 (k + 1) = k + 1 := wrap_le (by omega) (by omega)
    have hw2 : IntKind.wrap IntKind.i64 (k + 1 + 1) = k + 1 + 1 := wrap_le (by omega) (by omega)
    have hw3 : IntKind.wrap IntKind.i64 (k + 1 + 1 + 1) = k + 1 + 1 + 1 := wrap_le (by omega) (by omega)
    simp only [hw1, hw2, hw3]
    rw [← hk2]
    refine Eq.trans (b := f (S30_0 a (k + 1 + 1 + 1) (Int.ofNat (i + 1)))) ?_ ((hf (k + 1 + 1 + 1) ⟨by omega, by omega, by rw [he]; exact hk3⟩).trans ?_)
    · simp only [En.enc, Visit.mk_, Leaf.fit, List.drop_succ_cons, List.drop_zero, List.getD_cons_zero, List.getD_cons_succ, D.num, D.flag, D.text, bne_self_eq_false, Bool.and_self, cond_true, cond_false, decide_true]
    · show _ = some ([[D.int .i64 (k + (Visit.n_ a[i] + cntS Visit.n_ (a.drop (i + 1))))]], [])
      rw [he, Int.add_assoc]
theorem s30 : SoundAt Go.Proofs.Try.prog Hx 30 c30 := soundAt_of T29_sound mixed Go.Proofs.Try.func30 (by kernel_rfl) (by
  intro rows r h
  unfold c30 at h
  split at h
  · rename_i a k
    obtain ⟨hp, hr⟩ := Prod.mk.inj (Option.some.inj h)
    subst hr
    simp only [Bool.and_eq_true] at hp
    obtain ⟨hs0, hp⟩ := hp
    obtain ⟨xs0, rfl⟩ := isS_ex hs0
    simp only [deS_enS] at hp ⊢
    exact ⟨_, m30 xs0 k hp⟩
  · cases h)
def T30 : Table := (30, c30) :: T29
theorem T30_sound : Table.Sound Go.Proofs.Try.prog Hx T30 := Table.sound_cons s30 T29_sound
/- eqIntS -/
def o22 (a : List Int) (b : List Int) : Bool × List Row × List Row := (sameB a b && (decide (a.length ≤ 1048576)), [[.bool (true)]], [])
def c22 : Contract
  | [[.sl false 1 a], [.sl false 1 b]] => some (isS Int false a && isS Int false b && (o22 (deS Int a) (deS Int b)).1, (o22 (deS Int a) (deS Int b)).2.1, (o22 (deS Int a) (deS Int b)).2.2)
  | _ => none

def k22_0 (n : Nat) : Ex → St → RR := kThen (fun st ↦ runCode (Ctx.mk prog Hx (22)) (Table.call T30) n (codeAt [1, 1, 1] (bodyOf Go.Proofs.Try.f22)) (Lv.mk 16 [] 16) st (kLeave (Ctx.P (Ctx.mk prog Hx (22))) (List.zip (Array.toList (Go.Func.resultTypes Go.Proofs.Try.f22)) (Array.toList (Go.Func.results Go.Proofs.Try.f22))) [] [])) (kLeave (Ctx.P (Ctx.mk prog Hx (22))) (List.zip (Array.toList (Go.Func.resultTypes Go.Proofs.Try.f22)) (Array.toList (Go.Func.results Go.Proofs.Try.f22))) [] [])
def k22_1 (n : Nat) : Ex → St → RR := kBlock (0) (k22_0 n)
def S22_0 (a : List Int) (b : List Int) (i0 : Int) : St := St.mk [TV.v false [C.d (D.sl false 1 (enS false a))], TV.v false [C.d (D.sl false 1 (enS false b))], U_, U_, U_, I_ i0, U_, U_, U_, U_, U_, U_, U_, U_, U_, U_, U_, U_, U_, U_, U_, U_, U_, U_, U_, U_] []
def B22_0 (n : Nat) : St → (Ex → St → RR) → RR := runCode (Ctx.mk prog Hx (22)) (Table.call T30) n (codeAt [1, 1, 0, 1, 0, 0] (bodyOf Go.Proofs.Try.f22)) (Lv.mk 35 [(0, 0)] 16)
def X22_2 (a : List Int) (b : List Int) (i0 : Int) : St := St.mk [TV.v false [C.d (D.sl false 1 (enS false a))], TV.v false [C.d (D.sl false 1 (enS false b))], U_, U_, B_ false, I_ i0, U_, U_, U_, U_, U_, I_ i0, TV.v false [C.d (D.sl false 1 (enS false a))], I_ (ofNat (length (enS false a))), B_ true, U_, U_, TV.v false [C.d (D.sl false 1 (enS false a))], I_ i0, TV.v false [C.rptr (getD (enS false a) (toNat i0) [])], I_ (D.num (getD (getD (enS false a) (toNat i0) []) 0 D.dead)), TV.v false [C.d (D.sl false 1 (enS false b))], I_ i0, TV.v false [C.rptr (getD (enS false b) (toNat i0) [])], I_ (D.num (getD (getD (enS false b) (toNat i0) []) 0 D.dead)), B_ true] []
def X22_3 (a : List Int) (b : List Int) (i0 : Int) : St := St.mk [TV.v false [C.d (D.sl false 1 (enS false a))], TV.v false [C.d (D.sl false 1 (enS false b))], U_, U_, U_, I_ i0, U_, U_, U_, U_, U_, I_ i0, TV.v false [C.d (D.sl false 1 (enS false a))], I_ (ofNat (length (enS false a))), B_ false, U_, U_, U_, U_, U_, U_, U_, U_, U_, U_, U_] []
theorem q22_0 (a : List Int) (b : List Int) (n : Nat) (i0 : Int) (f : St → RR) (K : Ex → St → RR) : B22_0 n (S22_0 a b i0) (kThen (fun st ↦ f (St.head 0 35 67106864 st)) K) = bif decide (i0 < ofNat (length (enS false a))) then bif decide (0 ≤ i0) && decide (i0 < ofNat (length (enS false a))) then bif Leaf.fit false (Leaf.int i64) (getD (getD (enS false a) (toNat i0) []) 0 D.dead) && true then bif decide (0 ≤ i0) && decide (i0 < ofNat (length (enS false b))) then bif Leaf.fit false (Leaf.int i64) (getD (getD (enS false b) (toNat i0) []) 0 D.dead) && true then bif D.num (getD (getD (enS false a) (toNat i0) []) 0 D.dead) != D.num (getD (getD (enS false b) (toNat i0) []) 0 D.dead) then K Ex.ret (X22_2 a b i0) else f (S22_0 a b (wrap i64 (i0 + 1))) else none else none else none else none else K (Ex.exit 0) (X22_3 a b i0) := by kernel_rfl
theorem aX22_2 (a : List Int) (b : List Int) (n : Nat) (i0 : Int) : k22_1 n Ex.ret (X22_2 a b i0) = some ([[D.bool false]], []) := by kernel_rfl
theorem aX22_3 (a : List Int) (b : List Int) (n : Nat) (i0 : Int) : k22_1 n (Ex.exit 0) (X22_3 a b i0) = some ([[D.bool true]], []) := by kernel_rfl
theorem r22 (a : List Int) (b : List Int) (n : Nat) : evFn ⟨prog, Hx, 22⟩ T30.call n Go.Proofs.Try.f22 [[.sl false 1 (enS false a)], [.sl false 1 (enS false b)]] = bif ofNat (length (enS false a)) != ofNat (length (enS false b)) then some ([[D.bool false]], []) else loopRun (B22_0 n) 0 35 67106864 n (S22_0 a b (0)) (k22_1 n) := by kernel_rfl
theorem m22 (a : List Int) (b : List Int) (hpre : (o22 a b).1 = true) : evFn ⟨Go.Proofs.Try.prog, Hx, 22⟩ T30.call (a.length + 1) Go.Proofs.Try.f22 [[.sl false 1 (enS false a)], [.sl false 1 (enS false b)]] = some (o22 a b).2 := by
  refine (r22 a b _).trans ?_
  show _ = (some ([[.bool (true)]], []) : Option (List Row × List Row))
  replace hpre : (sameB a b && (decide (a.length ≤ 1048576))) = true := hpre
  rw [Bool.and_eq_true] at hpre
  obtain ⟨h0, h1⟩ := hpre
  have hlen : a.length ≤ 1048576 := of_decide_eq_true h1
  have := sameB_eq h0
  subst this
  simp only [bne_self_eq_false, cond_false]
  refine loop_list (xs := a) (fun i (_ : Unit) => S22_0 a a (Int.ofNat i)) (fun _ _ => True) (fun _ _ _ => some ([[D.bool true]], [])) ?_ ?_ (a.length + 1) () (by omega) trivial
  · rintro _ _ f
    refine (q22_0 a a _ _ f _).trans ?_
    simp only [enS_length, dec_lt, Nat.lt_irrefl, decide_false, cond_false]
    exact aX22_3 a a _ _
  · rintro i _ hi _ f hf
    refine (q22_0 a a _ _ f _).trans ?_
    simp only [enS_length, toNat_of, dec_lt, dec_ge, enS_get _ hi, hi, wrap_succ (show i < 4611686018427387904 by omega), decide_true, cond_true, Bool.and_self, sameB_self, bne_self_eq_false, cond_false]
    exact hf () trivial
theorem s22 : SoundAt Go.Proofs.Try.prog Hx 22 c22 := soundAt_of T30_sound mixed Go.Proofs.Try.func22 (by kernel_rfl) (by
  intro rows r h
  unfold c22 at h
  split at h
  · rename_i a b
    obtain ⟨hp, hr⟩ := Prod.mk.inj (Option.some.inj h)
    subst hr
    simp only [Bool.and_eq_true] at hp
    obtain ⟨⟨hs0, hs1⟩, hp⟩ := hp
    obtain ⟨xs0, rfl⟩ := isS_ex hs0
    obtain ⟨xs1, rfl⟩ := isS_ex hs1
    simp only [deS_enS] at hp ⊢
    exact ⟨_, m22 xs0 xs1 hp⟩
  · cases h)
def T22 : Table := (22, c22) :: T30
theorem T22_sound : Table.Sound Go.Proofs.Try.prog Hx T22 := Table.sound_cons s22 T30_sound
/- eqVisit -/
def o59 (a : Visit) (b : Visit) : Bool × List Row × List Row := (sameB a b, [[.bool (true)]], [])
def c59 : Contract
  | [[.int .i64 a_Bridge, .int .i64 a_Port, .int .i64 a_Far], [.int .i64 b_Bridge, .int .i64 b_Port, .int .i64 b_Far]] => some ((o59 ⟨a_Bridge, a_Port, a_Far⟩ ⟨b_Bridge, b_Port, b_Far⟩).1, (o59 ⟨a_Bridge, a_Port, a_Far⟩ ⟨b_Bridge, b_Port, b_Far⟩).2.1, (o59 ⟨a_Bridge, a_Port, a_Far⟩ ⟨b_Bridge, b_Port, b_Far⟩).2.2)
  | _ => none

theorem r59 (a : Visit) (b : Visit) (n : Nat) : evFn ⟨prog, Hx, 59⟩ T22.call n Go.Proofs.Try.f59 [[.int .i64 a.Bridge, .int .i64 a.Port, .int .i64 a.Far], [.int .i64 b.Bridge, .int .i64 b.Port, .int .i64 b.Far]] = bif Visit.Bridge a != Visit.Bridge b then some ([[D.bool false]], []) else bif Visit.Port a != Visit.Port b then some ([[D.bool false]], []) else bif Visit.Far a != Visit.Far b then some ([[D.bool false]], []) else some ([[D.bool true]], []) := by kernel_rfl
theorem m59 (a : Visit) (b : Visit) (hpre : (o59 a b).1 = true) : evFn ⟨Go.Proofs.Try.prog, Hx, 59⟩ T22.call 0 Go.Proofs.Try.f59 [[.int .i64 a.Bridge, .int .i64 a.Port, .int .i64 a.Far], [.int .i64 b.Bridge, .int .i64 b.Port, .int .i64 b.Far]] = some (o59 a b).2 := by
  refine (r59 a b _).trans ?_
  show _ = (some ([[.bool (true)]], []) : Option (List Row × List Row))
  replace hpre : (sameB a b) = true := hpre
  have := sameB_eq hpre
  subst this
  simp only [bne_self_eq_false, cond_false, sameB_self, cond_true, Bool.not_true]
theorem s59 : SoundAt Go.Proofs.Try.prog Hx 59 c59 := soundAt_of T22_sound mixed Go.Proofs.Try.func59 (by kernel_rfl) (by
  intro rows r h
  unfold c59 at h
  split at h
  · rename_i a_Bridge a_Port a_Far b_Bridge b_Port b_Far
    obtain ⟨hp, hr⟩ := Prod.mk.inj (Option.some.inj h)
    subst hr
    exact ⟨_, m59 ⟨a_Bridge, a_Port, a_Far⟩ ⟨b_Bridge, b_Port, b_Far⟩ hp⟩
  · cases h)
def T59 : Table := (59, c59) :: T22
theorem T59_sound : Table.Sound Go.Proofs.Try.prog Hx T59 := Table.sound_cons s59 T22_sound
/- eqVisitS -/
def o28 (a : List Visit) (b : List Visit) : Bool × List Row × List Row := (sameB a b && (decide (a.length ≤ 1048576)), [[.bool (true)]], [])
def c28 : Contract
  | [[.sl false 3 a], [.sl false 3 b]] => some (isS Visit false a && isS Visit false b && (o28 (deS Visit a) (deS Visit b)).1, (o28 (deS Visit a) (deS Visit b)).2.1, (o28 (deS Visit a) (deS Visit b)).2.2)
  | _ => none

def k28_0 (n : Nat) : Ex → St → RR := kThen (fun st ↦ runCode (Ctx.mk prog Hx (28)) (Table.call T59) n (codeAt [1, 1, 1] (bodyOf Go.Proofs.Try.f28)) (Lv.mk 16 [] 16) st (kLeave (Ctx.P (Ctx.mk prog Hx (28))) (List.zip (Array.toList (Go.Func.resultTypes Go.Proofs.Try.f28)) (Array.toList (Go.Func.results Go.Proofs.Try.f28))) [] [])) (kLeave (Ctx.P (Ctx.mk prog Hx (28))) (List.zip (Array.toList (Go.Func.resultTypes Go.Proofs.Try.f28)) (Array.toList (Go.Func.results Go.Proofs.Try.f28))) [] [])
def k28_1 (n : Nat) : Ex → St → RR := kBlock (0) (k28_0 n)
def S28_0 (a : List Visit) (b : List Visit) (i0 : Int) : St := St.mk [TV.v false [C.d (D.sl false 3 (enS false a))], TV.v false [C.d (D.sl false 3 (enS false b))], U_, U_, U_, I_ i0, U_, U_, U_, U_, U_, U_, U_, U_, U_, U_, U_, U_, U_, U_, U_, U_, U_, U_, U_, U_, U_] []
def B28_0 (n : Nat) : St → (Ex → St → RR) → RR := runCode (Ctx.mk prog Hx (28)) (Table.call T59) n (codeAt [1, 1, 0, 1, 0, 0] (bodyOf Go.Proofs.Try.f28)) (Lv.mk 35 [(0, 0)] 16)
def X28_2 (a : List Visit) (b : List Visit) (i0 : Int) : St := St.mk [TV.v false [C.d (D.sl false 3 (enS false a))], TV.v false [C.d (D.sl false 3 (enS false b))], U_, U_, U_, I_ i0, U_, U_, U_, U_, U_, I_ i0, TV.v false [C.d (D.sl false 3 (enS false a))], I_ (ofNat (length (enS false a))), B_ false, U_, U_, U_, U_, U_, U_, U_, U_, U_, U_, U_, U_] []
theorem q28_0 (a : List Visit) (b : List Visit) (n : Nat) (i0 : Int) (f : St → RR) (K : Ex → St → RR) : B28_0 n (S28_0 a b i0) (kThen (fun st ↦ f (St.head 0 35 134215728 st)) K) = bif decide (i0 < ofNat (length (enS false a))) then bif decide (0 ≤ i0) && decide (i0 < ofNat (length (enS false a))) then bif Leaf.fit false (Leaf.int i64) (getD (getD (enS false a) (toNat i0) []) 0 D.dead) && (Leaf.fit false (Leaf.int i64) (getD (getD (enS false a) (toNat i0) []) 1 D.dead) && (Leaf.fit false (Leaf.int i64) (getD (getD (enS false a) (toNat i0) []) 2 D.dead) && true)) then bif decide (0 ≤ i0) && decide (i0 < ofNat (length (enS false b))) then bif Leaf.fit false (Leaf.int i64) (getD (getD (enS false b) (toNat i0) []) 0 D.dead) && (Leaf.fit false (Leaf.int i64) (getD (getD (enS false b) (toNat i0) []) 1 D.dead) && (Leaf.fit false (Leaf.int i64) (getD (getD (enS false b) (toNat i0) []) 2 D.dead) && true)) then bif sameB (Visit.mk (D.num (getD (getD (enS false a) (toNat i0) []) 0 D.dead)) (D.num (getD (getD (enS false a) (toNat i0) []) 1 D.dead)) (D.num (getD (getD (enS false a) (toNat i0) []) 2 D.dead))) (Visit.mk (D.num (getD (getD (enS false b) (toNat i0) []) 0 D.dead)) (D.num (getD (getD (enS false b) (toNat i0) []) 1 D.dead)) (D.num (getD (getD (enS false b) (toNat i0) []) 2 D.dead))) then f (S28_0 a b (wrap i64 (i0 + 1))) else none else none else none else none else none else K (Ex.exit 0) (X28_2 a b i0) := by kernel_rfl
theorem aX28_2 (a : List Visit) (b : List Visit) (n : Nat) (i0 : Int) : k28_1 n (Ex.exit 0) (X28_2 a b i0) = some ([[D.bool true]], []) := by kernel_rfl
theorem r28 (a : List Visit) (b : List Visit) (n : Nat) : evFn ⟨prog, Hx, 28⟩ T59.call n Go.Proofs.Try.f28 [[.sl false 3 (enS false a)], [.sl false 3 (enS false b)]] = bif ofNat (length (enS false a)) != ofNat (length (enS false b)) then some ([[D.bool false]], []) else loopRun (B28_0 n) 0 35 134215728 n (S28_0 a b (0)) (k28_1 n) := by kernel_rfl
theorem m28 (a : List Visit) (b : List Visit) (hpre : (o28 a b).1 = true) : evFn ⟨Go.Proofs.Try.prog, Hx, 28⟩ T59.call (a.length + 1) Go.Proofs.Try.f28 [[.sl false 3 (enS false a)], [.sl false 3 (enS false b)]] = some (o28 a b).2 := by
  refine (r28 a b _).trans ?_
  show _ = (some ([[.bool (true)]], []) : Option (List Row × List Row))
  replace hpre : (sameB a b && (decide (a.length ≤ 1048576))) = true := hpre
  rw [Bool.and_eq_true] at hpre
  obtain ⟨h0, h1⟩ := hpre
  have hlen : a.length ≤ 1048576 := of_decide_eq_true h1
  have := sameB_eq h0
  subst this
  simp only [bne_self_eq_false, cond_false]
  refine loop_list (xs := a) (fun i (_ : Unit) => S28_0 a a (Int.ofNat i)) (fun _ _ => True) (fun _ _ _ => some ([[D.bool true]], [])) ?_ ?_ (a.length + 1) () (by omega) trivial
  · rintro _ _ f
    refine (q28_0 a a _ _ f _).trans ?_
    simp only [enS_length, dec_lt, Nat.lt_irrefl, decide_false, cond_false]
    exact aX28_2 a a _ _
  · rintro i _ hi _ f hf
    refine (q28_0 a a _ _ f _).trans ?_
    simp only [enS_length, toNat_of, dec_lt, dec_ge, enS_get _ hi, hi, wrap_succ (show i < 4611686018427387904 by omega), decide_true, cond_true, Bool.and_self, sameB_self, bne_self_eq_false, cond_false]
    exact hf () trivial
theorem s28 : SoundAt Go.Proofs.Try.prog Hx 28 c28 := soundAt_of T59_sound mixed Go.Proofs.Try.func28 (by kernel_rfl) (by
  intro rows r h
  unfold c28 at h
  split at h
  · rename_i a b
    obtain ⟨hp, hr⟩ := Prod.mk.inj (Option.some.inj h)
    subst hr
    simp only [Bool.and_eq_true] at hp
    obtain ⟨⟨hs0, hs1⟩, hp⟩ := hp
    obtain ⟨xs0, rfl⟩ := isS_ex hs0
    obtain ⟨xs1, rfl⟩ := isS_ex hs1
    simp only [deS_enS] at hp ⊢
    exact ⟨_, m28 xs0 xs1 hp⟩
  · cases h)
def T28 : Table := (28, c28) :: T59
theorem T28_sound : Table.Sound Go.Proofs.Try.prog Hx T28 := Table.sound_cons s28 T59_sound
end Go.Ev
end
