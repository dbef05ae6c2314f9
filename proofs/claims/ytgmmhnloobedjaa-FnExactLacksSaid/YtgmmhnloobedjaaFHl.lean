/- Contracts of functions, each by its evaluation. -/
import Derived.Test.YtgmmhnloobedjaaEvMd
import Derived.Test.YtgmmhnloobedjaaProg
import Derived.KernelRfl
import Derived.Test.YtgmmhnloobedjaaFNum
noncomputable section
namespace Go.Ev
open Go.RowKit Go.Md
set_option linter.unusedVariables false
set_option linter.unusedSimpArgs false
set_option maxRecDepth 100000
end Go.Ev
namespace Go.Md
open Go Go.Ev
def Heard.mk_ (x : Heard) (k : Int) : Heard := ⟨k, k + 1, k + 1 + 1, k + 1 + 1 + 1⟩
def Heard.n_ (x : Heard) : Int := 1 + 1 + 1 + 1
theorem Heard.n_pos (x : Heard) : 0 ≤ Heard.n_ x := by show (0 : Int) ≤ 1 + 1 + 1 + 1; decide
def Copy.mkTop (x : Copy) (k : Int) : Copy := ⟨x.Next, markS Heard.mk_ Heard.n_ x.Table (k)⟩
def Copy.nTop (x : Copy) : Int := cntS Heard.n_ x.Table
theorem Copy.nTop_pos (x : Copy) : 0 ≤ Copy.nTop x := by
  have h0 := cntS_nonneg (n := Heard.n_) Heard.n_pos x.Table
  unfold Copy.nTop
  omega
def Copy.wt (x : Copy) : Int := (x.Table.length : Int)
def Copy.small (x : Copy) : Bool := decide (x.Table.length ≤ 1048576)
def Copy.big (x : Copy) : Bool := decide (x.Table.length ≤ 9223372036854775807)
theorem Copy.wt_pos (x : Copy) : 0 ≤ Copy.wt x := by
  unfold Copy.wt
  omega
theorem Copy.small_of (x : Copy) (h : Copy.wt x ≤ 1048576) : Copy.small x = true := by
  unfold Copy.wt at h
  unfold Copy.small
  exact decide_eq_true (by omega)
def oneN {α : Type} (_ : α) : Int := 1
theorem oneN_pos {α : Type} (x : α) : 0 ≤ oneN x := by show (0 : Int) ≤ 1; omega
def intMk (_ : Int) (k : Int) : Int := k
end Go.Md
namespace Go.Ev
open Go.Md
/- markHeardS -/
def o56 (a : List Heard) (k : Int) : Bool × List Row × List Row := (decide (0 ≤ k) && (decide (k + cntS Heard.n_ a ≤ 4611686018427387904) && decide (a.length ≤ 1152921504606846976)), [[.int .i64 (k + cntS Heard.n_ a)]], [[.sl true 4 (enS true (markS Heard.mk_ Heard.n_ a k))]])
def c56 : Contract
  | [[.sl true 4 a], [.int .i64 k]] => some (isS Heard true a && (o56 (deS Heard a) k).1, (o56 (deS Heard a) k).2.1, (o56 (deS Heard a) k).2.2)
  | _ => none

noncomputable def k56_0 (n : Nat) : Ex → St → Option (List Row × List Row) := kThen (fun st ↦ runCode (Ctx.mk Go.Proofs.Try.prog Hx (56)) (Table.call T50) n (codeAt [1, 1] (bodyOf Go.Proofs.Try.f56)) (Lv.mk 16 [] 16) st (kLeave (Ctx.P (Ctx.mk Go.Proofs.Try.prog Hx (56))) (List.zip (Array.toList (Go.Func.resultTypes Go.Proofs.Try.f56)) (Array.toList (Go.Func.results Go.Proofs.Try.f56))) [] [C.view 0 0 0 [] 4 none])) (kLeave (Ctx.P (Ctx.mk Go.Proofs.Try.prog Hx (56))) (List.zip (Array.toList (Go.Func.resultTypes Go.Proofs.Try.f56)) (Array.toList (Go.Func.results Go.Proofs.Try.f56))) [] [C.view 0 0 0 [] 4 none])
noncomputable def k56_1 (n : Nat) : Ex → St → Option (List Row × List Row) := kBlock (0) (k56_0 n)
noncomputable def S56_0 (i0 : Int) (i1 : Int) (es2 : List (List D)) : St := St.mk [TV.v false [C.view 0 0 0 [] 4 none], TV.v false [C.d (D.int IntKind.i64 i0)], TV.v false [C.undef], TV.v false [C.undef], TV.v false [C.undef], TV.v false [C.d (D.int IntKind.i64 i1)], TV.v false [C.undef], TV.v false [C.undef], TV.v false [C.undef], TV.v false [C.undef], TV.v false [C.undef], TV.v false [C.undef], TV.v false [C.undef], TV.v false [C.undef], TV.v false [C.undef], TV.v false [C.undef], TV.v false [C.undef], TV.v false [C.undef], TV.v false [C.undef], TV.v false [C.undef], TV.v false [C.undef], TV.v false [C.undef], TV.v false [C.undef], TV.v false [C.undef], TV.v false [C.undef], TV.v false [C.undef], TV.v false [C.undef], TV.v false [C.undef], TV.v false [C.undef], TV.v false [C.undef], TV.v false [C.undef], TV.v false [C.undef], TV.v false [C.undef], TV.v false [C.undef], TV.v false [C.undef], TV.v false [C.undef], TV.v false [C.undef], TV.v false [C.undef], TV.v false [C.undef], TV.v false [C.undef], TV.v false [C.undef]] [Root.mk false 4 es2 0 0 true true]
noncomputable def B56_0 (n : Nat) : St → (Ex → St → Option (List Row × List Row)) → Option (List Row × List Row) := runCode (Ctx.mk Go.Proofs.Try.prog Hx (56)) (Table.call T50) n (codeAt [1, 0, 1, 0, 0] (bodyOf Go.Proofs.Try.f56)) (Lv.mk 0 [(0, 2)] 16)
noncomputable def X56_2 (i0 : Int) (i1 : Int) (es2 : List (List D)) : St := St.mk [TV.v false [C.view 0 0 0 [] 4 none], TV.v false [C.d (D.int IntKind.i64 i0)], TV.v false [C.undef], TV.v false [C.undef], TV.v false [C.undef], TV.v false [C.d (D.int IntKind.i64 i1)], TV.v false [C.d (D.int IntKind.i64 i1)], TV.v false [C.view 0 0 0 [] 4 none], TV.v false [C.d (D.int IntKind.i64 (Int.ofNat (List.length es2)))], TV.v false [C.d (D.bool false)], TV.v false [C.undef], TV.v false [C.undef], TV.v false [C.undef], TV.v false [C.undef], TV.v false [C.undef], TV.v false [C.undef], TV.v false [C.undef], TV.v false [C.undef], TV.v false [C.undef], TV.v false [C.undef], TV.v false [C.undef], TV.v false [C.undef], TV.v false [C.undef], TV.v false [C.undef], TV.v false [C.undef], TV.v false [C.undef], TV.v false [C.undef], TV.v false [C.undef], TV.v false [C.undef], TV.v false [C.undef], TV.v false [C.undef], TV.v false [C.undef], TV.v false [C.undef], TV.v false [C.undef], TV.v false [C.undef], TV.v false [C.undef], TV.v false [C.undef], TV.v false [C.undef], TV.v false [C.undef], TV.v false [C.undef], TV.v false [C.undef]] [Root.mk false 4 es2 0 0 true true]
noncomputable def w56_3 (i0 : Int) (i1 : Int) (es2 : List (List D)) : List (List D) := List.set es2 (0 + Int.toNat i1) (D.int IntKind.i64 i0 :: List.drop 1 (List.getD es2 (0 + Int.toNat i1) []))
noncomputable def w56_4 (i0 : Int) (i1 : Int) (es2 : List (List D)) : List (List D) := List.set (w56_3 i0 i1 es2) (0 + Int.toNat i1) (List.append (List.append (List.take 1 (List.getD (w56_3 i0 i1 es2) (0 + Int.toNat i1) [])) [D.int IntKind.i64 (IntKind.wrap IntKind.i64 (i0 + 1))]) (List.drop 2 (List.getD (w56_3 i0 i1 es2) (0 + Int.toNat i1) [])))
noncomputable def w56_5 (i0 : Int) (i1 : Int) (es2 : List (List D)) : List (List D) := List.set (w56_4 i0 i1 es2) (0 + Int.toNat i1) (List.append (List.append (List.take 2 (List.getD (w56_4 i0 i1 es2) (0 + Int.toNat i1) [])) [D.int IntKind.i64 (IntKind.wrap IntKind.i64 (IntKind.wrap IntKind.i64 (i0 + 1) + 1))]) (List.drop 3 (List.getD (w56_4 i0 i1 es2) (0 + Int.toNat i1) [])))
theorem q56_0 (n : Nat) (i0 : Int) (i1 : Int) (es2 : List (List D)) (f : St → Option (List Row × List Row)) (K : Ex → St → Option (List Row × List Row)) : B56_0 n (S56_0 i0 i1 es2) (@kThen (List Row × List Row) (fun st ↦ f (St.head 1 35 1099511627746 st)) K) = bif decide (i1 < Int.ofNat (List.length es2)) then bif decide (0 ≤ i1) && decide (i1 < Int.ofNat (List.length es2)) then bif decide (0 ≤ i1) && decide (i1 < Int.ofNat (List.length (w56_3 i0 i1 es2))) then bif decide (0 ≤ i1) && decide (i1 < Int.ofNat (List.length (w56_4 i0 i1 es2))) then bif decide (0 ≤ i1) && decide (i1 < Int.ofNat (List.length (w56_5 i0 i1 es2))) then f (S56_0 (IntKind.wrap IntKind.i64 (IntKind.wrap IntKind.i64 (IntKind.wrap IntKind.i64 (IntKind.wrap IntKind.i64 (i0 + 1) + 1) + 1) + 1)) (IntKind.wrap IntKind.i64 (i1 + 1)) (List.set (w56_5 i0 i1 es2) (0 + Int.toNat i1) (List.append (List.append (List.take 3 (List.getD (w56_5 i0 i1 es2) (0 + Int.toNat i1) [])) [D.int IntKind.i64 (IntKind.wrap IntKind.i64 (IntKind.wrap IntKind.i64 (IntKind.wrap IntKind.i64 (i0 + 1) + 1) + 1))]) (List.drop 4 (List.getD (w56_5 i0 i1 es2) (0 + Int.toNat i1) []))))) else none else none else none else none else K (Ex.exit 0) (X56_2 i0 i1 es2) := by kernel_rfl
theorem aX56_2 (n : Nat) (i0 : Int) (i1 : Int) (es2 : List (List D)) : k56_1 n (Ex.exit 0) (X56_2 i0 i1 es2) = some ([[D.int IntKind.i64 i0]], [[D.sl true 4 es2]]) := by kernel_rfl
theorem r56 (a : List Heard) (k : Int) (n : Nat) : evFn ⟨Go.Proofs.Try.prog, Hx, 56⟩ T50.call n Go.Proofs.Try.f56 [[.sl true 4 (enS true a)], [.int .i64 k]] = loopRun (B56_0 n) 1 35 1099511627746 n (S56_0 k (0) (enS true a)) (k56_1 n) := by kernel_rfl
theorem m56 (a : List Heard) (k : Int) (hpre : (o56 a k).1 = true) : evFn ⟨Go.Proofs.Try.prog, Hx, 56⟩ T50.call (a.length + 1) Go.Proofs.Try.f56 [[.sl true 4 (enS true a)], [.int .i64 k]] = some (o56 a k).2 := by
  refine (r56 a k _).trans ?_
  show _ = (some ([[.int .i64 (k + cntS Heard.n_ a)]], [[.sl true 4 (enS true (markS Heard.mk_ Heard.n_ a k))]]) : Option (List Row × List Row))
  replace hpre : (decide (0 ≤ k) && (decide (k + cntS Heard.n_ a ≤ 4611686018427387904) && decide (a.length ≤ 1152921504606846976))) = true := hpre
  simp only [Bool.and_eq_true, decide_eq_true_eq] at hpre
  obtain ⟨h0, h1, h2⟩ := hpre
  refine loop_list (xs := a) (fun i (v : List Heard × Int) => S56_0 v.2 (Int.ofNat i) (enS true (v.1 ++ a.drop i))) (fun i v => v.1.length = i ∧ 0 ≤ v.2 ∧ v.2 + cntS Heard.n_ (a.drop i) ≤ 4611686018427387904) (fun _ v rest => some ([[D.int .i64 (v.2 + cntS Heard.n_ rest)]], [[D.sl true 4 (enS true (v.1 ++ markS Heard.mk_ Heard.n_ rest v.2))]])) ?_ ?_ (a.length + 1) ([], k) (by omega) ⟨rfl, h0, h1⟩
  · rintro ⟨pre, k⟩ ⟨hl, hk0, hk1⟩ f
    refine (q56_0 _ _ _ _ f _).trans ?_
    simp only [enS_length, List.drop_length, List.append_nil, hl, dec_lt, Nat.lt_irrefl, decide_false, cond_false]
    refine (aX56_2 _ _ _ _).trans ?_
    simp only [List.append_nil, cntS, markS, Int.add_zero]
  · rintro i ⟨pre, k⟩ hi ⟨hl, hk0, hk1⟩ f hf
    simp only at hl hk0 hk1
    rw [List.drop_eq_getElem_cons hi] at hk1
    generalize hx : a[i] = x at hk1 ⊢
    have hc := cntS_nonneg (n := Heard.n_) Heard.n_pos (a.drop (i + 1))
    have hn : Heard.n_ x = 4 := rfl
    simp only [cntS, hn] at hk1
    refine (q56_0 _ _ _ _ f _).trans ?_
    rw [List.drop_eq_getElem_cons hi, hx]
    have hm := mid_get pre x (a.drop (i + 1)) hl
    have hat := mid_at pre x (a.drop (i + 1)) hl hm
    have hs : ∀ R, ((enS true (pre ++ x :: a.drop (i + 1))).set i R).getD i [] = R := fun R => getD_set_same _ _ _ _ (by rw [enS_length]; exact hm)
    simp only [w56_3, w56_4, w56_5, List.length_set, enS_length, toNat_of, Nat.zero_add, dec_lt, dec_ge, hm, hs, List.set_set, enS_get _ hm, hat, decide_true, cond_true, Bool.and_self, wrap_succ (show i < 4611686018427387904 by omega)]
    have hw1 : IntKind.wrap IntKind.i64 (k + 1) = k + 1 := wrap_le (by omega) (by omega)
    have hw2 : IntKind.wrap IntKind.i64 (k + 1 + 1) = k + 1 + 1 := wrap_le (by omega) (by omega)
    have hw3 : IntKind.wrap IntKind.i64 (k + 1 + 1 + 1) = k + 1 + 1 + 1 := wrap_le (by omega) (by omega)
    have hw4 : IntKind.wrap IntKind.i64 (k + 1 + 1 + 1 + 1) = k + 1 + 1 + 1 + 1 := wrap_le (by omega) (by omega)
    simp only [hw1, hw2, hw3, hw4]
    have he : k + 1 + 1 + 1 + 1 = k + Heard.n_ x := by omega
    skip
    refine (congrArg f (congrArg (S56_0 _ _) ((enS_set true _ i (Heard.mk_ x k)).trans (congrArg (enS true) (mid_set pre x _ _ hl))))).trans ?_
    refine (hf (pre ++ [Heard.mk_ x k], k + 1 + 1 + 1 + 1) ⟨by simp [hl], by simp only; omega, by simp only; omega⟩).trans ?_
    show _ = some ([[D.int .i64 (k + (Heard.n_ x + cntS Heard.n_ (a.drop (i + 1))))]], [[D.sl true 4 (enS true (pre ++ (Heard.mk_ x k :: markS Heard.mk_ Heard.n_ (a.drop (i + 1)) (k + Heard.n_ x))))]])
    rw [he, List.append_assoc, List.singleton_append, Int.add_assoc]
theorem s56 : SoundAt Go.Proofs.Try.prog Hx 56 c56 := soundAt_of T50_sound mixed Go.Proofs.Try.func56 (by kernel_rfl) (by
  intro rows r h
  unfold c56 at h
  split at h
  · rename_i a k
    obtain ⟨hp, hr⟩ := Prod.mk.inj (Option.some.inj h)
    subst hr
    simp only [Bool.and_eq_true] at hp
    obtain ⟨hs0, hp⟩ := hp
    obtain ⟨xs0, rfl⟩ := isS_ex hs0
    simp only [deS_enS] at hp ⊢
    exact ⟨_, m56 xs0 k hp⟩
  · cases h)
def T56 : Table := (56, c56) :: T50
theorem T56_sound : Table.Sound Go.Proofs.Try.prog Hx T56 := Table.sound_cons s56 T50_sound
/- markCopy -/
def o28 (a : Copy) (k : Int) : Bool × List Row × List Row := (decide (0 ≤ k) && (decide (k + Copy.nTop a ≤ 4611686018427387904) && (decide (a.Table.length ≤ 1152921504606846976))), [[.int .i64 (k + Copy.nTop a)]], [])
def c28 : Contract
  | [[.int .i64 a_Next, .sl true 4 a_Table], [.int .i64 k]] => some (isS Heard true a_Table && (o28 ⟨a_Next, (deS Heard a_Table)⟩ k).1, (o28 ⟨a_Next, (deS Heard a_Table)⟩ k).2.1, (o28 ⟨a_Next, (deS Heard a_Table)⟩ k).2.2)
  | _ => none

theorem r28 (a : Copy) (k : Int) (n : Nat) : evFn ⟨Go.Proofs.Try.prog, Hx, 28⟩ T56.call n Go.Proofs.Try.f28 [[.int .i64 a.Next, .sl true 4 (enS true a.Table)], [.int .i64 k]] = bif isS Heard true (enS true (Copy.Table a)) && (decide (0 ≤ k) && (decide (k + cntS Heard.n_ (deS Heard (enS true (Copy.Table a))) ≤ 4611686018427387904) && decide (List.length (deS Heard (enS true (Copy.Table a))) ≤ 1152921504606846976))) then some ([[D.int IntKind.i64 (k + cntS Heard.n_ (deS Heard (enS true (Copy.Table a))))]], []) else none := by kernel_rfl
theorem m28 (a : Copy) (k : Int) (hpre : (o28 a k).1 = true) : evFn ⟨Go.Proofs.Try.prog, Hx, 28⟩ T56.call 0 Go.Proofs.Try.f28 [[.int .i64 a.Next, .sl true 4 (enS true a.Table)], [.int .i64 k]] = some (o28 a k).2 := by
  refine (r28 a k _).trans ?_
  show _ = (some ([[.int .i64 (k + Copy.nTop a)]], []) : Option (List Row × List Row))
  replace hpre : (decide (0 ≤ k) && (decide (k + Copy.nTop a ≤ 4611686018427387904) && (decide (a.Table.length ≤ 1152921504606846976)))) = true := hpre
  simp only [Bool.and_eq_true] at hpre
  obtain ⟨h0, h1, h2⟩ := hpre
  have h0' := of_decide_eq_true h0
  have h1' := of_decide_eq_true h1
  unfold Copy.nTop at h1'
  have p0 : 0 ≤ cntS Heard.n_ a.Table := cntS_nonneg Heard.n_pos a.Table
  have g0 : decide (0 ≤ k) = true := decide_eq_true (by omega)
  have f0 : decide (k + cntS Heard.n_ a.Table ≤ 4611686018427387904) = true := decide_eq_true (by omega)
  have d0 : decide (k + cntS Heard.n_ a.Table < 0) = false := decide_eq_false (by omega)
  simp only [g0, f0, d0, h2, isS_enS, deS_enS, sameB_self, cond_true, cond_false, Bool.and_self, Bool.and_true, Bool.true_and, Copy.mkTop, Copy.nTop]
  try rfl
theorem s28 : SoundAt Go.Proofs.Try.prog Hx 28 c28 := soundAt_of T56_sound mixed Go.Proofs.Try.func28 (by kernel_rfl) (by
  intro rows r h
  unfold c28 at h
  split at h
  · rename_i a_Next a_Table k
    obtain ⟨hp, hr⟩ := Prod.mk.inj (Option.some.inj h)
    subst hr
    simp only [Bool.and_eq_true] at hp
    obtain ⟨hs0, hp⟩ := hp
    obtain ⟨xs0, rfl⟩ := isS_ex hs0
    simp only [deS_enS] at hp ⊢
    exact ⟨_, m28 ⟨a_Next, xs0⟩ k hp⟩
  · cases h)
def T28 : Table := (28, c28) :: T56
theorem T28_sound : Table.Sound Go.Proofs.Try.prog Hx T28 := Table.sound_cons s28 T56_sound
/- toHeard -/
def o67 (a : Heard) : Bool × List Row × List Row := (true, [[.int .i64 (a).Addr, .int .i64 (a).Vlan, .int .i64 (a).Port, .int .i64 (a).Left]], [])
def c67 : Contract
  | [[.int .i64 a_Addr, .int .i64 a_Vlan, .int .i64 a_Port, .int .i64 a_Left]] => some ((o67 ⟨a_Addr, a_Vlan, a_Port, a_Left⟩).1, (o67 ⟨a_Addr, a_Vlan, a_Port, a_Left⟩).2.1, (o67 ⟨a_Addr, a_Vlan, a_Port, a_Left⟩).2.2)
  | _ => none

theorem r67 (a : Heard) (n : Nat) : evFn ⟨Go.Proofs.Try.prog, Hx, 67⟩ T28.call n Go.Proofs.Try.f67 [[.int .i64 a.Addr, .int .i64 a.Vlan, .int .i64 a.Port, .int .i64 a.Left]] = some ([[D.int IntKind.i64 (Heard.Addr a), D.int IntKind.i64 (Heard.Vlan a), D.int IntKind.i64 (Heard.Port a), D.int IntKind.i64 (Heard.Left a)]], []) := by kernel_rfl
theorem m67 (a : Heard) (hpre : (o67 a).1 = true) : evFn ⟨Go.Proofs.Try.prog, Hx, 67⟩ T28.call 0 Go.Proofs.Try.f67 [[.int .i64 a.Addr, .int .i64 a.Vlan, .int .i64 a.Port, .int .i64 a.Left]] = some (o67 a).2 := by
  refine (r67 a _).trans ?_
  show _ = (some ([[.int .i64 (a).Addr, .int .i64 (a).Vlan, .int .i64 (a).Port, .int .i64 (a).Left]], []) : Option (List Row × List Row))
  replace hpre : (true) = true := hpre
  rfl
theorem s67 : SoundAt Go.Proofs.Try.prog Hx 67 c67 := soundAt_of T28_sound mixed Go.Proofs.Try.func67 (by kernel_rfl) (by
  intro rows r h
  unfold c67 at h
  split at h
  · rename_i a_Addr a_Vlan a_Port a_Left
    obtain ⟨hp, hr⟩ := Prod.mk.inj (Option.some.inj h)
    subst hr
    exact ⟨_, m67 ⟨a_Addr, a_Vlan, a_Port, a_Left⟩ hp⟩
  · cases h)
def T67 : Table := (67, c67) :: T28
theorem T67_sound : Table.Sound Go.Proofs.Try.prog Hx T67 := Table.sound_cons s67 T28_sound
/- toHeardS -/
def o52 (a : List Heard) : Bool × List Row × List Row := (decide (a.length ≤ 1048576), [[.sl true 4 (enS true (a))]], [])
def c52 : Contract
  | [[.sl false 4 a]] => some (isS Heard false a && (o52 (deS Heard a)).1, (o52 (deS Heard a)).2.1, (o52 (deS Heard a)).2.2)
  | _ => none

noncomputable def k52_0 (n : Nat) : Ex → St → Option (List Row × List Row) := kThen (fun st ↦ runCode (Ctx.mk Go.Proofs.Try.prog Hx (52)) (Table.call T67) n (codeAt [1, 1, 1] (bodyOf Go.Proofs.Try.f52)) (Lv.mk 4 [] 4) st (kLeave (Ctx.P (Ctx.mk Go.Proofs.Try.prog Hx (52))) (List.zip (Array.toList (Go.Func.resultTypes Go.Proofs.Try.f52)) (Array.toList (Go.Func.results Go.Proofs.Try.f52))) [] [])) (kLeave (Ctx.P (Ctx.mk Go.Proofs.Try.prog Hx (52))) (List.zip (Array.toList (Go.Func.resultTypes Go.Proofs.Try.f52)) (Array.toList (Go.Func.results Go.Proofs.Try.f52))) [] [])
noncomputable def k52_1 (n : Nat) : Ex → St → Option (List Row × List Row) := kBlock (0) (k52_0 n)
noncomputable def S52_0 (a : List Heard) (i0 : Int) (es1 : List (List D)) : St := St.mk [TV.v false [C.d (D.sl false 4 (enS false a))], TV.v false [C.undef], TV.v false [C.undef], TV.v false [C.view 0 0 0 [] 4 none], TV.v false [C.d (D.int IntKind.i64 i0)], TV.v false [C.undef], TV.v false [C.undef], TV.v false [C.undef], TV.v false [C.undef], TV.v false [C.undef], TV.v false [C.undef], TV.v false [C.undef], TV.v false [C.undef], TV.v false [C.undef], TV.v false [C.undef], TV.v false [C.undef], TV.v false [C.undef], TV.v false [C.undef], TV.v false [C.undef], TV.v false [C.undef], TV.v false [C.undef], TV.v false [C.undef], TV.v false [C.undef]] [Root.mk false 4 es1 0 0 true true]
noncomputable def B52_0 (n : Nat) : St → (Ex → St → Option (List Row × List Row)) → Option (List Row × List Row) := runCode (Ctx.mk Go.Proofs.Try.prog Hx (52)) (Table.call T67) n (codeAt [1, 1, 0, 1, 0, 0] (bodyOf Go.Proofs.Try.f52)) (Lv.mk 0 [(0, 8)] 4)
noncomputable def X52_2 (a : List Heard) (i0 : Int) (es1 : List (List D)) : St := St.mk [TV.v false [C.d (D.sl false 4 (enS false a))], TV.v false [C.undef], TV.v false [C.undef], TV.v false [C.view 0 0 0 [] 4 none], TV.v false [C.d (D.int IntKind.i64 i0)], TV.v false [C.undef], TV.v false [C.undef], TV.v false [C.undef], TV.v false [C.d (D.int IntKind.i64 i0)], TV.v false [C.d (D.sl false 4 (enS false a))], TV.v false [C.d (D.int IntKind.i64 (Int.ofNat (List.length (enS false a))))], TV.v false [C.d (D.bool false)], TV.v false [C.undef], TV.v false [C.undef], TV.v false [C.undef], TV.v false [C.undef], TV.v false [C.undef], TV.v false [C.undef], TV.v false [C.undef], TV.v false [C.undef], TV.v false [C.undef], TV.v false [C.undef], TV.v false [C.undef]] [Root.mk false 4 es1 0 0 true true]
theorem q52_0 (a : List Heard) (n : Nat) (i0 : Int) (es1 : List (List D)) (f : St → Option (List Row × List Row)) (K : Ex → St → Option (List Row × List Row)) : B52_0 n (S52_0 a i0 es1) (@kThen (List Row × List Row) (fun st ↦ f (St.head 1 25 4194064 st)) K) = bif decide (i0 < Int.ofNat (List.length (enS false a))) then bif decide (0 ≤ i0) && decide (i0 < Int.ofNat (List.length (enS false a))) then bif Leaf.fit false (Leaf.int IntKind.i64) (List.getD (List.getD (enS false a) (Int.toNat i0) []) 0 D.dead) && (Leaf.fit false (Leaf.int IntKind.i64) (List.getD (List.getD (enS false a) (Int.toNat i0) []) 1 D.dead) && (Leaf.fit false (Leaf.int IntKind.i64) (List.getD (List.getD (enS false a) (Int.toNat i0) []) 2 D.dead) && (Leaf.fit false (Leaf.int IntKind.i64) (List.getD (List.getD (enS false a) (Int.toNat i0) []) 3 D.dead) && true))) then bif decide (0 ≤ i0) && decide (i0 < Int.ofNat (List.length es1)) then f (S52_0 a (IntKind.wrap IntKind.i64 (i0 + 1)) (List.set es1 (0 + Int.toNat i0) [D.int IntKind.i64 (D.num (List.getD (List.getD (enS false a) (Int.toNat i0) []) 0 D.dead)), D.int IntKind.i64 (D.num (List.getD (List.getD (enS false a) (Int.toNat i0) []) 1 D.dead)), D.int IntKind.i64 (D.num (List.getD (List.getD (enS false a) (Int.toNat i0) []) 2 D.dead)), D.int IntKind.i64 (D.num (List.getD (List.getD (enS false a) (Int.toNat i0) []) 3 D.dead))])) else none else none else none else K (Ex.exit 0) (X52_2 a i0 es1) := by kernel_rfl
theorem aX52_2 (a : List Heard) (n : Nat) (i0 : Int) (es1 : List (List D)) : k52_1 n (Ex.exit 0) (X52_2 a i0 es1) = some ([[D.sl true 4 es1]], []) := by kernel_rfl
theorem r52 (a : List Heard) (n : Nat) : evFn ⟨Go.Proofs.Try.prog, Hx, 52⟩ T67.call n Go.Proofs.Try.f52 [[.sl false 4 (enS false a)]] = bif decide (0 ≤ Int.ofNat (List.length (enS false a))) && (decide (Int.ofNat (List.length (enS false a)) ≤ Int.ofNat (List.length (enS false a))) && decide (Int.toNat (Int.ofNat (List.length (enS false a))) * 32 ≤ 140737488355328)) then loopRun (B52_0 n) 1 25 4194064 n (S52_0 a (0) (List.replicate (Int.toNat (Int.ofNat (List.length (enS false a)))) [D.int IntKind.i64 (0), D.int IntKind.i64 (0), D.int IntKind.i64 (0), D.int IntKind.i64 (0)])) (k52_1 n) else none := by kernel_rfl
theorem m52 (a : List Heard) (hpre : (o52 a).1 = true) : evFn ⟨Go.Proofs.Try.prog, Hx, 52⟩ T67.call (a.length + 1) Go.Proofs.Try.f52 [[.sl false 4 (enS false a)]] = some (o52 a).2 := by
  refine (r52 a _).trans ?_
  show _ = (some ([[.sl true 4 (enS true (a))]], []) : Option (List Row × List Row))
  replace hpre : (decide (a.length ≤ 1048576)) = true := hpre
  have hlen : a.length ≤ 1048576 := of_decide_eq_true hpre
  rw [enS_length, make_ok (by omega), cond_true, toNat_of]
  refine (congrArg (fun z => loopRun _ _ _ _ _ (S52_0 a 0 z) _) (enS_rep true a.length (En.nil : Heard))).trans ?_
  refine loop_list (xs := a) (fun i (ys : List Heard) => S52_0 a (Int.ofNat i) (enS true ys)) (fun i ys => ys.length = a.length ∧ ys.take i = a.take i) (fun _ _ _ => some ([[D.sl true 4 (enS true a)]], [])) ?_ ?_ (a.length + 1) _ (by omega) ⟨List.length_replicate .., rfl⟩
  · rintro ys ⟨h2, h3⟩ f
    refine (q52_0 a _ _ _ f _).trans ?_
    simp only [enS_length, dec_lt, Nat.lt_irrefl, decide_false, cond_false]
    refine (aX52_2 a _ _ _).trans ?_
    rw [List.take_length, ← h2, List.take_length] at h3
    subst h3
    rfl
  · rintro i ys hi ⟨h2, h3⟩ f hf
    refine (q52_0 a _ _ _ f _).trans ?_
    simp only [enS_length, toNat_of, dec_lt, dec_ge, enS_get _ hi, h2, hi, wrap_succ (show i < 4611686018427387904 by omega), Nat.zero_add, decide_true, cond_true, Bool.and_self]
    exact (congrArg f (congrArg (S52_0 a _) (enS_set true ys i a[i]))).trans (hf (ys.set i a[i]) ⟨by rw [List.length_set]; exact h2, take_set_succ hi h2 h3⟩)
theorem s52 : SoundAt Go.Proofs.Try.prog Hx 52 c52 := soundAt_of T67_sound mixed Go.Proofs.Try.func52 (by kernel_rfl) (by
  intro rows r h
  unfold c52 at h
  split at h
  · rename_i a
    obtain ⟨hp, hr⟩ := Prod.mk.inj (Option.some.inj h)
    subst hr
    simp only [Bool.and_eq_true] at hp
    obtain ⟨hs0, hp⟩ := hp
    obtain ⟨xs0, rfl⟩ := isS_ex hs0
    simp only [deS_enS] at hp ⊢
    exact ⟨_, m52 xs0 hp⟩
  · cases h)
def T52 : Table := (52, c52) :: T67
theorem T52_sound : Table.Sound Go.Proofs.Try.prog Hx T52 := Table.sound_cons s52 T67_sound
/- toCopy -/
def o23 (a : Copy) : Bool × List Row × List Row := (Copy.small a, [[.int .i64 (a).Next, .sl true 4 (enS true (a).Table)]], [])
def c23 : Contract
  | [[.int .i64 a_Next, .sl false 4 a_Table]] => some (isS Heard false a_Table && (o23 ⟨a_Next, (deS Heard a_Table)⟩).1, (o23 ⟨a_Next, (deS Heard a_Table)⟩).2.1, (o23 ⟨a_Next, (deS Heard a_Table)⟩).2.2)
  | _ => none

theorem r23 (a : Copy) (n : Nat) : evFn ⟨Go.Proofs.Try.prog, Hx, 23⟩ T52.call n Go.Proofs.Try.f23 [[.int .i64 a.Next, .sl false 4 (enS false a.Table)]] = bif isS Heard false (enS false (Copy.Table a)) && decide (List.length (deS Heard (enS false (Copy.Table a))) ≤ 1048576) then some ([[D.int IntKind.i64 (Copy.Next a), D.sl true 4 (enS true (deS Heard (enS false (Copy.Table a))))]], []) else none := by kernel_rfl
theorem m23 (a : Copy) (hpre : (o23 a).1 = true) : evFn ⟨Go.Proofs.Try.prog, Hx, 23⟩ T52.call 0 Go.Proofs.Try.f23 [[.int .i64 a.Next, .sl false 4 (enS false a.Table)]] = some (o23 a).2 := by
  refine (r23 a _).trans ?_
  show _ = (some ([[.int .i64 (a).Next, .sl true 4 (enS true (a).Table)]], []) : Option (List Row × List Row))
  replace hpre : (Copy.small a) = true := hpre
  unfold Copy.small at hpre
  try simp only [Bool.and_eq_true] at hpre
  simp only [hpre, isS_enS, deS_enS, cond_true, Bool.and_self, Bool.and_true, Bool.true_and]
  try rfl
theorem s23 : SoundAt Go.Proofs.Try.prog Hx 23 c23 := soundAt_of T52_sound mixed Go.Proofs.Try.func23 (by kernel_rfl) (by
  intro rows r h
  unfold c23 at h
  split at h
  · rename_i a_Next a_Table
    obtain ⟨hp, hr⟩ := Prod.mk.inj (Option.some.inj h)
    subst hr
    simp only [Bool.and_eq_true] at hp
    obtain ⟨hs0, hp⟩ := hp
    obtain ⟨xs0, rfl⟩ := isS_ex hs0
    simp only [deS_enS] at hp ⊢
    exact ⟨_, m23 ⟨a_Next, xs0⟩ hp⟩
  · cases h)
def T23 : Table := (23, c23) :: T52
theorem T23_sound : Table.Sound Go.Proofs.Try.prog Hx T23 := Table.sound_cons s23 T52_sound
/- szHeardS -/
def o49 (a : List Heard) (left : Int) : Bool × List Row × List Row := (decide (0 ≤ left) && (decide (left ≤ 1048576) && decide (a.length ≤ 9223372036854775807)), [[.int .i64 (szR (a.length : Int) left)]], [])
def c49 : Contract
  | [[.sl false 4 a], [.int .i64 left]] => some (isS Heard false a && (o49 (deS Heard a) left).1, (o49 (deS Heard a) left).2.1, (o49 (deS Heard a) left).2.2)
  | _ => none

theorem r49 (a : List Heard) (left : Int) (n : Nat) : evFn ⟨Go.Proofs.Try.prog, Hx, 49⟩ T23.call n Go.Proofs.Try.f49 [[.sl false 4 (enS false a)], [.int .i64 left]] = bif decide (IntKind.wrap IntKind.i64 (left - Int.ofNat (List.length (enS false a))) < 0) then some ([[D.int IntKind.i64 (Int.negSucc 0)]], []) else some ([[D.int IntKind.i64 (IntKind.wrap IntKind.i64 (left - Int.ofNat (List.length (enS false a))))]], []) := by kernel_rfl
theorem m49 (a : List Heard) (left : Int) (hpre : (o49 a left).1 = true) : evFn ⟨Go.Proofs.Try.prog, Hx, 49⟩ T23.call 0 Go.Proofs.Try.f49 [[.sl false 4 (enS false a)], [.int .i64 left]] = some (o49 a left).2 := by
  refine (r49 a left _).trans ?_
  show _ = (some ([[.int .i64 (szR (a.length : Int) left)]], []) : Option (List Row × List Row))
  replace hpre : (decide (0 ≤ left) && (decide (left ≤ 1048576) && decide (a.length ≤ 9223372036854775807))) = true := hpre
  simp only [Bool.and_eq_true, decide_eq_true_eq] at hpre
  obtain ⟨h0, h1, h2⟩ := hpre
  simp only [enS_length]
  have hw : IntKind.wrap IntKind.i64 (left - Int.ofNat a.length) = left - (a.length : Int) := wrap_of (by show _ ≤ left - (a.length : Int); omega) (by show left - (a.length : Int) ≤ _; omega)
  rw [hw]
  unfold szR
  by_cases h : (a.length : Int) ≤ left
  · rw [decide_eq_false (by omega), decide_eq_true h]; rfl
  · rw [decide_eq_true (by omega), decide_eq_false h]; rfl
theorem s49 : SoundAt Go.Proofs.Try.prog Hx 49 c49 := soundAt_of T23_sound mixed Go.Proofs.Try.func49 (by kernel_rfl) (by
  intro rows r h
  unfold c49 at h
  split at h
  · rename_i a left
    obtain ⟨hp, hr⟩ := Prod.mk.inj (Option.some.inj h)
    subst hr
    simp only [Bool.and_eq_true] at hp
    obtain ⟨hs0, hp⟩ := hp
    obtain ⟨xs0, rfl⟩ := isS_ex hs0
    simp only [deS_enS] at hp ⊢
    exact ⟨_, m49 xs0 left hp⟩
  · cases h)
def T49 : Table := (49, c49) :: T23
theorem T49_sound : Table.Sound Go.Proofs.Try.prog Hx T49 := Table.sound_cons s49 T23_sound
/- szCopy -/
def o21 (a : Copy) (left : Int) : Bool × List Row × List Row := (decide (0 ≤ left) && (decide (left ≤ 1048576) && Copy.big a), [[.int .i64 (szR (Copy.wt a) left)]], [])
def c21 : Contract
  | [[.int .i64 a_Next, .sl false 4 a_Table], [.int .i64 left]] => some (isS Heard false a_Table && (o21 ⟨a_Next, (deS Heard a_Table)⟩ left).1, (o21 ⟨a_Next, (deS Heard a_Table)⟩ left).2.1, (o21 ⟨a_Next, (deS Heard a_Table)⟩ left).2.2)
  | _ => none

theorem r21 (a : Copy) (left : Int) (n : Nat) : evFn ⟨Go.Proofs.Try.prog, Hx, 21⟩ T49.call n Go.Proofs.Try.f21 [[.int .i64 a.Next, .sl false 4 (enS false a.Table)], [.int .i64 left]] = bif isS Heard false (enS false (Copy.Table a)) && (decide (0 ≤ left) && (decide (left ≤ 1048576) && decide (List.length (deS Heard (enS false (Copy.Table a))) ≤ 9223372036854775807))) then bif decide (szR (Int.ofNat (List.length (deS Heard (enS false (Copy.Table a))))) left < 0) then some ([[D.int IntKind.i64 (Int.negSucc 0)]], []) else some ([[D.int IntKind.i64 (szR (Int.ofNat (List.length (deS Heard (enS false (Copy.Table a))))) left)]], []) else none := by kernel_rfl
theorem m21 (a : Copy) (left : Int) (hpre : (o21 a left).1 = true) : evFn ⟨Go.Proofs.Try.prog, Hx, 21⟩ T49.call 0 Go.Proofs.Try.f21 [[.int .i64 a.Next, .sl false 4 (enS false a.Table)], [.int .i64 left]] = some (o21 a left).2 := by
  refine (r21 a left _).trans ?_
  show _ = (some ([[.int .i64 (szR (Copy.wt a) left)]], []) : Option (List Row × List Row))
  replace hpre : (decide (0 ≤ left) && (decide (left ≤ 1048576) && Copy.big a)) = true := hpre
  simp only [Bool.and_eq_true, decide_eq_true_eq] at hpre
  obtain ⟨h0, h1, h2⟩ := hpre
  unfold Copy.big at h2
  try simp only [Bool.and_eq_true] at h2
  unfold Copy.wt
  have p0 : 0 ≤ (a.Table.length : Int) := by omega
  have g0 : decide (0 ≤ left) = true := decide_eq_true (by omega)
  have f0 : decide (left ≤ 1048576) = true := decide_eq_true (by omega)
  rcases szR_cases ((a.Table.length : Int)) (left) (by omega) with ⟨a0, b0, c0⟩ | ⟨a0, b0, c0⟩
  case inr =>
    rw [b0] at c0
    simp only [g0, f0, b0, c0, h2, Int.ofNat_eq_natCast, isS_enS, deS_enS, cond_true, cond_false, Bool.and_self, Bool.and_true, Bool.true_and]
    try rw [szR_gt (by omega)]
    try rfl
  rw [b0] at c0
  simp only [g0, f0, b0, c0, h2, Int.ofNat_eq_natCast, isS_enS, deS_enS, cond_true, cond_false, Bool.and_self, Bool.and_true, Bool.true_and]
  try rw [szR_le (by omega)]
  try rfl
theorem s21 : SoundAt Go.Proofs.Try.prog Hx 21 c21 := soundAt_of T49_sound mixed Go.Proofs.Try.func21 (by kernel_rfl) (by
  intro rows r h
  unfold c21 at h
  split at h
  · rename_i a_Next a_Table left
    obtain ⟨hp, hr⟩ := Prod.mk.inj (Option.some.inj h)
    subst hr
    simp only [Bool.and_eq_true] at hp
    obtain ⟨hs0, hp⟩ := hp
    obtain ⟨xs0, rfl⟩ := isS_ex hs0
    simp only [deS_enS] at hp ⊢
    exact ⟨_, m21 ⟨a_Next, xs0⟩ left hp⟩
  · cases h)
def T21 : Table := (21, c21) :: T49
theorem T21_sound : Table.Sound Go.Proofs.Try.prog Hx T21 := Table.sound_cons s21 T49_sound
/- eqHeard -/
def o71 (a : Heard) (b : Heard) : Bool × List Row × List Row := (sameB a b, [[.bool (true)]], [])
def c71 : Contract
  | [[.int .i64 a_Addr, .int .i64 a_Vlan, .int .i64 a_Port, .int .i64 a_Left], [.int .i64 b_Addr, .int .i64 b_Vlan, .int .i64 b_Port, .int .i64 b_Left]] => some ((o71 ⟨a_Addr, a_Vlan, a_Port, a_Left⟩ ⟨b_Addr, b_Vlan, b_Port, b_Left⟩).1, (o71 ⟨a_Addr, a_Vlan, a_Port, a_Left⟩ ⟨b_Addr, b_Vlan, b_Port, b_Left⟩).2.1, (o71 ⟨a_Addr, a_Vlan, a_Port, a_Left⟩ ⟨b_Addr, b_Vlan, b_Port, b_Left⟩).2.2)
  | _ => none

theorem r71 (a : Heard) (b : Heard) (n : Nat) : evFn ⟨Go.Proofs.Try.prog, Hx, 71⟩ T21.call n Go.Proofs.Try.f71 [[.int .i64 a.Addr, .int .i64 a.Vlan, .int .i64 a.Port, .int .i64 a.Left], [.int .i64 b.Addr, .int .i64 b.Vlan, .int .i64 b.Port, .int .i64 b.Left]] = bif Heard.Addr a != Heard.Addr b then some ([[D.bool false]], []) else bif Heard.Vlan a != Heard.Vlan b then some ([[D.bool false]], []) else bif Heard.Port a != Heard.Port b then some ([[D.bool false]], []) else bif Heard.Left a != Heard.Left b then some ([[D.bool false]], []) else some ([[D.bool true]], []) := by kernel_rfl
theorem m71 (a : Heard) (b : Heard) (hpre : (o71 a b).1 = true) : evFn ⟨Go.Proofs.Try.prog, Hx, 71⟩ T21.call 0 Go.Proofs.Try.f71 [[.int .i64 a.Addr, .int .i64 a.Vlan, .int .i64 a.Port, .int .i64 a.Left], [.int .i64 b.Addr, .int .i64 b.Vlan, .int .i64 b.Port, .int .i64 b.Left]] = some (o71 a b).2 := by
  refine (r71 a b _).trans ?_
  show _ = (some ([[.bool (true)]], []) : Option (List Row × List Row))
  replace hpre : (sameB a b) = true := hpre
  have := sameB_eq hpre
  subst this
  simp only [bne_self_eq_false, cond_false, sameB_self, cond_true, Bool.not_true]
theorem s71 : SoundAt Go.Proofs.Try.prog Hx 71 c71 := soundAt_of T21_sound mixed Go.Proofs.Try.func71 (by kernel_rfl) (by
  intro rows r h
  unfold c71 at h
  split at h
  · rename_i a_Addr a_Vlan a_Port a_Left b_Addr b_Vlan b_Port b_Left
    obtain ⟨hp, hr⟩ := Prod.mk.inj (Option.some.inj h)
    subst hr
    exact ⟨_, m71 ⟨a_Addr, a_Vlan, a_Port, a_Left⟩ ⟨b_Addr, b_Vlan, b_Port, b_Left⟩ hp⟩
  · cases h)
def T71 : Table := (71, c71) :: T21
theorem T71_sound : Table.Sound Go.Proofs.Try.prog Hx T71 := Table.sound_cons s71 T21_sound
/- eqHeardS -/
def o55 (a : List Heard) (b : List Heard) : Bool × List Row × List Row := (sameB a b && (decide (a.length ≤ 1048576)), [[.bool (true)]], [])
def c55 : Contract
  | [[.sl false 4 a], [.sl false 4 b]] => some (isS Heard false a && isS Heard false b && (o55 (deS Heard a) (deS Heard b)).1, (o55 (deS Heard a) (deS Heard b)).2.1, (o55 (deS Heard a) (deS Heard b)).2.2)
  | _ => none

noncomputable def k55_0 (n : Nat) : Ex → St → Option (List Row × List Row) := kThen (fun st ↦ runCode (Ctx.mk Go.Proofs.Try.prog Hx (55)) (Table.call T71) n (codeAt [1, 1, 1] (bodyOf Go.Proofs.Try.f55)) (Lv.mk 16 [] 16) st (kLeave (Ctx.P (Ctx.mk Go.Proofs.Try.prog Hx (55))) (List.zip (Array.toList (Go.Func.resultTypes Go.Proofs.Try.f55)) (Array.toList (Go.Func.results Go.Proofs.Try.f55))) [] [])) (kLeave (Ctx.P (Ctx.mk Go.Proofs.Try.prog Hx (55))) (List.zip (Array.toList (Go.Func.resultTypes Go.Proofs.Try.f55)) (Array.toList (Go.Func.results Go.Proofs.Try.f55))) [] [])
noncomputable def k55_1 (n : Nat) : Ex → St → Option (List Row × List Row) := kBlock (0) (k55_0 n)
noncomputable def S55_0 (a : List Heard) (b : List Heard) (i0 : Int) : St := St.mk [TV.v false [C.d (D.sl false 4 (enS false a))], TV.v false [C.d (D.sl false 4 (enS false b))], TV.v false [C.undef], TV.v false [C.undef], TV.v false [C.undef], TV.v false [C.d (D.int IntKind.i64 i0)], TV.v false [C.undef], TV.v false [C.undef], TV.v false [C.undef], TV.v false [C.undef], TV.v false [C.undef], TV.v false [C.undef], TV.v false [C.undef], TV.v false [C.undef], TV.v false [C.undef], TV.v false [C.undef], TV.v false [C.undef], TV.v false [C.undef], TV.v false [C.undef], TV.v false [C.undef], TV.v false [C.undef], TV.v false [C.undef], TV.v false [C.undef], TV.v false [C.undef], TV.v false [C.undef], TV.v false [C.undef], TV.v false [C.undef]] []
noncomputable def B55_0 (n : Nat) : St → (Ex → St → Option (List Row × List Row)) → Option (List Row × List Row) := runCode (Ctx.mk Go.Proofs.Try.prog Hx (55)) (Table.call T71) n (codeAt [1, 1, 0, 1, 0, 0] (bodyOf Go.Proofs.Try.f55)) (Lv.mk 0 [(0, 0)] 16)
noncomputable def X55_2 (a : List Heard) (b : List Heard) (i0 : Int) : St := St.mk [TV.v false [C.d (D.sl false 4 (enS false a))], TV.v false [C.d (D.sl false 4 (enS false b))], TV.v false [C.undef], TV.v false [C.undef], TV.v false [C.undef], TV.v false [C.d (D.int IntKind.i64 i0)], TV.v false [C.undef], TV.v false [C.undef], TV.v false [C.undef], TV.v false [C.undef], TV.v false [C.undef], TV.v false [C.d (D.int IntKind.i64 i0)], TV.v false [C.d (D.sl false 4 (enS false a))], TV.v false [C.d (D.int IntKind.i64 (Int.ofNat (List.length (enS false a))))], TV.v false [C.d (D.bool false)], TV.v false [C.undef], TV.v false [C.undef], TV.v false [C.undef], TV.v false [C.undef], TV.v false [C.undef], TV.v false [C.undef], TV.v false [C.undef], TV.v false [C.undef], TV.v false [C.undef], TV.v false [C.undef], TV.v false [C.undef], TV.v false [C.undef]] []
theorem q55_0 (a : List Heard) (b : List Heard) (n : Nat) (i0 : Int) (f : St → Option (List Row × List Row)) (K : Ex → St → Option (List Row × List Row)) : B55_0 n (S55_0 a b i0) (@kThen (List Row × List Row) (fun st ↦ f (St.head 0 35 134215728 st)) K) = bif decide (i0 < Int.ofNat (List.length (enS false a))) then bif decide (0 ≤ i0) && decide (i0 < Int.ofNat (List.length (enS false a))) then bif Leaf.fit false (Leaf.int IntKind.i64) (List.getD (List.getD (enS false a) (Int.toNat i0) []) 0 D.dead) && (Leaf.fit false (Leaf.int IntKind.i64) (List.getD (List.getD (enS false a) (Int.toNat i0) []) 1 D.dead) && (Leaf.fit false (Leaf.int IntKind.i64) (List.getD (List.getD (enS false a) (Int.toNat i0) []) 2 D.dead) && (Leaf.fit false (Leaf.int IntKind.i64) (List.getD (List.getD (enS false a) (Int.toNat i0) []) 3 D.dead) && true))) then bif decide (0 ≤ i0) && decide (i0 < Int.ofNat (List.length (enS false b))) then bif Leaf.fit false (Leaf.int IntKind.i64) (List.getD (List.getD (enS false b) (Int.toNat i0) []) 0 D.dead) && (Leaf.fit false (Leaf.int IntKind.i64) (List.getD (List.getD (enS false b) (Int.toNat i0) []) 1 D.dead) && (Leaf.fit false (Leaf.int IntKind.i64) (List.getD (List.getD (enS false b) (Int.toNat i0) []) 2 D.dead) && (Leaf.fit false (Leaf.int IntKind.i64) (List.getD (List.getD (enS false b) (Int.toNat i0) []) 3 D.dead) && true))) then bif sameB (Heard.mk (D.num (List.getD (List.getD (enS false a) (Int.toNat i0) []) 0 D.dead)) (D.num (List.getD (List.getD (enS false a) (Int.toNat i0) []) 1 D.dead)) (D.num (List.getD (List.getD (enS false a) (Int.toNat i0) []) 2 D.dead)) (D.num (List.getD (List.getD (enS false a) (Int.toNat i0) []) 3 D.dead))) (Heard.mk (D.num (List.getD (List.getD (enS false b) (Int.toNat i0) []) 0 D.dead)) (D.num (List.getD (List.getD (enS false b) (Int.toNat i0) []) 1 D.dead)) (D.num (List.getD (List.getD (enS false b) (Int.toNat i0) []) 2 D.dead)) (D.num (List.getD (List.getD (enS false b) (Int.toNat i0) []) 3 D.dead))) then f (S55_0 a b (IntKind.wrap IntKind.i64 (i0 + 1))) else none else none else none else none else none else K (Ex.exit 0) (X55_2 a b i0) := by kernel_rfl
theorem aX55_2 (a : List Heard) (b : List Heard) (n : Nat) (i0 : Int) : k55_1 n (Ex.exit 0) (X55_2 a b i0) = some ([[D.bool true]], []) := by kernel_rfl
theorem r55 (a : List Heard) (b : List Heard) (n : Nat) : evFn ⟨Go.Proofs.Try.prog, Hx, 55⟩ T71.call n Go.Proofs.Try.f55 [[.sl false 4 (enS false a)], [.sl false 4 (enS false b)]] = bif Int.ofNat (List.length (enS false a)) != Int.ofNat (List.length (enS false b)) then some ([[D.bool false]], []) else loopRun (B55_0 n) 0 35 134215728 n (S55_0 a b (0)) (k55_1 n) := by kernel_rfl
theorem m55 (a : List Heard) (b : List Heard) (hpre : (o55 a b).1 = true) : evFn ⟨Go.Proofs.Try.prog, Hx, 55⟩ T71.call (a.length + 1) Go.Proofs.Try.f55 [[.sl false 4 (enS false a)], [.sl false 4 (enS false b)]] = some (o55 a b).2 := by
  refine (r55 a b _).trans ?_
  show _ = (some ([[.bool (true)]], []) : Option (List Row × List Row))
  replace hpre : (sameB a b && (decide (a.length ≤ 1048576))) = true := hpre
  rw [Bool.and_eq_true] at hpre
  obtain ⟨h0, h1⟩ := hpre
  have hlen : a.length ≤ 1048576 := of_decide_eq_true h1
  have := sameB_eq h0
  subst this
  simp only [bne_self_eq_false, cond_false]
  refine loop_list (xs := a) (fun i (_ : Unit) => S55_0 a a (Int.ofNat i)) (fun _ _ => True) (fun _ _ _ => some ([[D.bool true]], [])) ?_ ?_ (a.length + 1) () (by omega) trivial
  · rintro _ _ f
    refine (q55_0 a a _ _ f _).trans ?_
    simp only [enS_length, dec_lt, Nat.lt_irrefl, decide_false, cond_false]
    exact aX55_2 a a _ _
  · rintro i _ hi _ f hf
    refine (q55_0 a a _ _ f _).trans ?_
    simp only [enS_length, toNat_of, dec_lt, dec_ge, enS_get _ hi, hi, wrap_succ (show i < 4611686018427387904 by omega), decide_true, cond_true, Bool.and_self, sameB_self, bne_self_eq_false, cond_false]
    exact hf () trivial
theorem s55 : SoundAt Go.Proofs.Try.prog Hx 55 c55 := soundAt_of T71_sound mixed Go.Proofs.Try.func55 (by kernel_rfl) (by
  intro rows r h
  unfold c55 at h
  split at h
  · rename_i a b
    obtain ⟨hp, hr⟩ := Prod.mk.inj (Option.some.inj h)
    subst hr
    simp only [Bool.and_eq_true] at hp
    obtain ⟨⟨hs0, hs1⟩, hp⟩ := hp
    obtain ⟨xs0, rfl⟩ := isS_ex hs0
    obtain ⟨xs1, rfl⟩ := isS_ex hs1
    simp only [deS_enS] at hp ⊢
    exact ⟨_, m55 xs0 xs1 hp⟩
  · cases h)
def T55 : Table := (55, c55) :: T71
theorem T55_sound : Table.Sound Go.Proofs.Try.prog Hx T55 := Table.sound_cons s55 T71_sound
/- eqCopy -/
def o25 (a : Copy) (b : Copy) : Bool × List Row × List Row := (sameB a b && (Copy.small a), [[.bool (true)]], [])
def c25 : Contract
  | [[.int .i64 a_Next, .sl false 4 a_Table], [.int .i64 b_Next, .sl false 4 b_Table]] => some (isS Heard false a_Table && isS Heard false b_Table && (o25 ⟨a_Next, (deS Heard a_Table)⟩ ⟨b_Next, (deS Heard b_Table)⟩).1, (o25 ⟨a_Next, (deS Heard a_Table)⟩ ⟨b_Next, (deS Heard b_Table)⟩).2.1, (o25 ⟨a_Next, (deS Heard a_Table)⟩ ⟨b_Next, (deS Heard b_Table)⟩).2.2)
  | _ => none

theorem r25 (a : Copy) (b : Copy) (n : Nat) : evFn ⟨Go.Proofs.Try.prog, Hx, 25⟩ T55.call n Go.Proofs.Try.f25 [[.int .i64 a.Next, .sl false 4 (enS false a.Table)], [.int .i64 b.Next, .sl false 4 (enS false b.Table)]] = bif Copy.Next a != Copy.Next b then some ([[D.bool false]], []) else bif isS Heard false (enS false (Copy.Table a)) && isS Heard false (enS false (Copy.Table b)) && (sameB (deS Heard (enS false (Copy.Table a))) (deS Heard (enS false (Copy.Table b))) && decide (List.length (deS Heard (enS false (Copy.Table a))) ≤ 1048576)) then some ([[D.bool true]], []) else none := by kernel_rfl
theorem m25 (a : Copy) (b : Copy) (hpre : (o25 a b).1 = true) : evFn ⟨Go.Proofs.Try.prog, Hx, 25⟩ T55.call 0 Go.Proofs.Try.f25 [[.int .i64 a.Next, .sl false 4 (enS false a.Table)], [.int .i64 b.Next, .sl false 4 (enS false b.Table)]] = some (o25 a b).2 := by
  refine (r25 a b _).trans ?_
  show _ = (some ([[.bool (true)]], []) : Option (List Row × List Row))
  replace hpre : (sameB a b && (Copy.small a)) = true := hpre
  rw [Bool.and_eq_true] at hpre
  obtain ⟨h0, h1⟩ := hpre
  have := sameB_eq h0
  subst this
  unfold Copy.small at h1
  try simp only [Bool.and_eq_true] at h1
  simp only [h1, bne_self_eq_false, cond_false, cond_true, sameB_self, isS_enS, deS_enS, Bool.and_self, Bool.and_true, Bool.true_and, Bool.not_true]
  try rfl
theorem s25 : SoundAt Go.Proofs.Try.prog Hx 25 c25 := soundAt_of T55_sound mixed Go.Proofs.Try.func25 (by kernel_rfl) (by
  intro rows r h
  unfold c25 at h
  split at h
  · rename_i a_Next a_Table b_Next b_Table
    obtain ⟨hp, hr⟩ := Prod.mk.inj (Option.some.inj h)
    subst hr
    simp only [Bool.and_eq_true] at hp
    obtain ⟨⟨hs0, hs1⟩, hp⟩ := hp
    obtain ⟨xs0, rfl⟩ := isS_ex hs0
    obtain ⟨xs1, rfl⟩ := isS_ex hs1
    simp only [deS_enS] at hp ⊢
    exact ⟨_, m25 ⟨a_Next, xs0⟩ ⟨b_Next, xs1⟩ hp⟩
  · cases h)
def T25 : Table := (25, c25) :: T55
theorem T25_sound : Table.Sound Go.Proofs.Try.prog Hx T25 := Table.sound_cons s25 T55_sound
/- eqIntS -/
def o17 (a : List Int) (b : List Int) : Bool × List Row × List Row := (sameB a b && (decide (a.length ≤ 1048576)), [[.bool (true)]], [])
def c17 : Contract
  | [[.sl false 1 a], [.sl false 1 b]] => some (isS Int false a && isS Int false b && (o17 (deS Int a) (deS Int b)).1, (o17 (deS Int a) (deS Int b)).2.1, (o17 (deS Int a) (deS Int b)).2.2)
  | _ => none

noncomputable def k17_0 (n : Nat) : Ex → St → Option (List Row × List Row) := kThen (fun st ↦ runCode (Ctx.mk Go.Proofs.Try.prog Hx (17)) (Table.call T25) n (codeAt [1, 1, 1] (bodyOf Go.Proofs.Try.f17)) (Lv.mk 16 [] 16) st (kLeave (Ctx.P (Ctx.mk Go.Proofs.Try.prog Hx (17))) (List.zip (Array.toList (Go.Func.resultTypes Go.Proofs.Try.f17)) (Array.toList (Go.Func.results Go.Proofs.Try.f17))) [] [])) (kLeave (Ctx.P (Ctx.mk Go.Proofs.Try.prog Hx (17))) (List.zip (Array.toList (Go.Func.resultTypes Go.Proofs.Try.f17)) (Array.toList (Go.Func.results Go.Proofs.Try.f17))) [] [])
noncomputable def k17_1 (n : Nat) : Ex → St → Option (List Row × List Row) := kBlock (0) (k17_0 n)
noncomputable def S17_0 (a : List Int) (b : List Int) (i0 : Int) : St := St.mk [TV.v false [C.d (D.sl false 1 (enS false a))], TV.v false [C.d (D.sl false 1 (enS false b))], TV.v false [C.undef], TV.v false [C.undef], TV.v false [C.undef], TV.v false [C.d (D.int IntKind.i64 i0)], TV.v false [C.undef], TV.v false [C.undef], TV.v false [C.undef], TV.v false [C.undef], TV.v false [C.undef], TV.v false [C.undef], TV.v false [C.undef], TV.v false [C.undef], TV.v false [C.undef], TV.v false [C.undef], TV.v false [C.undef], TV.v false [C.undef], TV.v false [C.undef], TV.v false [C.undef], TV.v false [C.undef], TV.v false [C.undef], TV.v false [C.undef], TV.v false [C.undef], TV.v false [C.undef], TV.v false [C.undef]] []
noncomputable def B17_0 (n : Nat) : St → (Ex → St → Option (List Row × List Row)) → Option (List Row × List Row) := runCode (Ctx.mk Go.Proofs.Try.prog Hx (17)) (Table.call T25) n (codeAt [1, 1, 0, 1, 0, 0] (bodyOf Go.Proofs.Try.f17)) (Lv.mk 0 [(0, 0)] 16)
noncomputable def X17_2 (a : List Int) (b : List Int) (i0 : Int) : St := St.mk [TV.v false [C.d (D.sl false 1 (enS false a))], TV.v false [C.d (D.sl false 1 (enS false b))], TV.v false [C.undef], TV.v false [C.undef], TV.v false [C.d (D.bool false)], TV.v false [C.d (D.int IntKind.i64 i0)], TV.v false [C.undef], TV.v false [C.undef], TV.v false [C.undef], TV.v false [C.undef], TV.v false [C.undef], TV.v false [C.d (D.int IntKind.i64 i0)], TV.v false [C.d (D.sl false 1 (enS false a))], TV.v false [C.d (D.int IntKind.i64 (Int.ofNat (List.length (enS false a))))], TV.v false [C.d (D.bool true)], TV.v false [C.undef], TV.v false [C.undef], TV.v false [C.d (D.sl false 1 (enS false a))], TV.v false [C.d (D.int IntKind.i64 i0)], TV.v false [C.rptr (List.getD (enS false a) (Int.toNat i0) [])], TV.v false [C.d (D.int IntKind.i64 (D.num (List.getD (List.getD (enS false a) (Int.toNat i0) []) 0 D.dead)))], TV.v false [C.d (D.sl false 1 (enS false b))], TV.v false [C.d (D.int IntKind.i64 i0)], TV.v false [C.rptr (List.getD (enS false b) (Int.toNat i0) [])], TV.v false [C.d (D.int IntKind.i64 (D.num (List.getD (List.getD (enS false b) (Int.toNat i0) []) 0 D.dead)))], TV.v false [C.d (D.bool true)]] []
noncomputable def X17_3 (a : List Int) (b : List Int) (i0 : Int) : St := St.mk [TV.v false [C.d (D.sl false 1 (enS false a))], TV.v false [C.d (D.sl false 1 (enS false b))], TV.v false [C.undef], TV.v false [C.undef], TV.v false [C.undef], TV.v false [C.d (D.int IntKind.i64 i0)], TV.v false [C.undef], TV.v false [C.undef], TV.v false [C.undef], TV.v false [C.undef], TV.v false [C.undef], TV.v false [C.d (D.int IntKind.i64 i0)], TV.v false [C.d (D.sl false 1 (enS false a))], TV.v false [C.d (D.int IntKind.i64 (Int.ofNat (List.length (enS false a))))], TV.v false [C.d (D.bool false)], TV.v false [C.undef], TV.v false [C.undef], TV.v false [C.undef], TV.v false [C.undef], TV.v false [C.undef], TV.v false [C.undef], TV.v false [C.undef], TV.v false [C.undef], TV.v false [C.undef], TV.v false [C.undef], TV.v false [C.undef]] []
theorem q17_0 (a : List Int) (b : List Int) (n : Nat) (i0 : Int) (f : St → Option (List Row × List Row)) (K : Ex → St → Option (List Row × List Row)) : B17_0 n (S17_0 a b i0) (@kThen (List Row × List Row) (fun st ↦ f (St.head 0 35 67106864 st)) K) = bif decide (i0 < Int.ofNat (List.length (enS false a))) then bif decide (0 ≤ i0) && decide (i0 < Int.ofNat (List.length (enS false a))) then bif Leaf.fit false (Leaf.int IntKind.i64) (List.getD (List.getD (enS false a) (Int.toNat i0) []) 0 D.dead) && true then bif decide (0 ≤ i0) && decide (i0 < Int.ofNat (List.length (enS false b))) then bif Leaf.fit false (Leaf.int IntKind.i64) (List.getD (List.getD (enS false b) (Int.toNat i0) []) 0 D.dead) && true then bif D.num (List.getD (List.getD (enS false a) (Int.toNat i0) []) 0 D.dead) != D.num (List.getD (List.getD (enS false b) (Int.toNat i0) []) 0 D.dead) then K Ex.ret (X17_2 a b i0) else f (S17_0 a b (IntKind.wrap IntKind.i64 (i0 + 1))) else none else none else none else none else K (Ex.exit 0) (X17_3 a b i0) := by kernel_rfl
theorem aX17_2 (a : List Int) (b : List Int) (n : Nat) (i0 : Int) : k17_1 n Ex.ret (X17_2 a b i0) = some ([[D.bool false]], []) := by kernel_rfl
theorem aX17_3 (a : List Int) (b : List Int) (n : Nat) (i0 : Int) : k17_1 n (Ex.exit 0) (X17_3 a b i0) = some ([[D.bool true]], []) := by kernel_rfl
theorem r17 (a : List Int) (b : List Int) (n : Nat) : evFn ⟨Go.Proofs.Try.prog, Hx, 17⟩ T25.call n Go.Proofs.Try.f17 [[.sl false 1 (enS false a)], [.sl false 1 (enS false b)]] = bif Int.ofNat (List.length (enS false a)) != Int.ofNat (List.length (enS false b)) then some ([[D.bool false]], []) else loopRun (B17_0 n) 0 35 67106864 n (S17_0 a b (0)) (k17_1 n) := by kernel_rfl
theorem m17 (a : List Int) (b : List Int) (hpre : (o17 a b).1 = true) : evFn ⟨Go.Proofs.Try.prog, Hx, 17⟩ T25.call (a.length + 1) Go.Proofs.Try.f17 [[.sl false 1 (enS false a)], [.sl false 1 (enS false b)]] = some (o17 a b).2 := by
  refine (r17 a b _).trans ?_
  show _ = (some ([[.bool (true)]], []) : Option (List Row × List Row))
  replace hpre : (sameB a b && (decide (a.length ≤ 1048576))) = true := hpre
  rw [Bool.and_eq_true] at hpre
  obtain ⟨h0, h1⟩ := hpre
  have hlen : a.length ≤ 1048576 := of_decide_eq_true h1
  have := sameB_eq h0
  subst this
  simp only [bne_self_eq_false, cond_false]
  refine loop_list (xs := a) (fun i (_ : Unit) => S17_0 a a (Int.ofNat i)) (fun _ _ => True) (fun _ _ _ => some ([[D.bool true]], [])) ?_ ?_ (a.length + 1) () (by omega) trivial
  · rintro _ _ f
    refine (q17_0 a a _ _ f _).trans ?_
    simp only [enS_length, dec_lt, Nat.lt_irrefl, decide_false, cond_false]
    exact aX17_3 a a _ _
  · rintro i _ hi _ f hf
    refine (q17_0 a a _ _ f _).trans ?_
    simp only [enS_length, toNat_of, dec_lt, dec_ge, enS_get _ hi, hi, wrap_succ (show i < 4611686018427387904 by omega), decide_true, cond_true, Bool.and_self, sameB_self, bne_self_eq_false, cond_false]
    exact hf () trivial
theorem s17 : SoundAt Go.Proofs.Try.prog Hx 17 c17 := soundAt_of T25_sound mixed Go.Proofs.Try.func17 (by kernel_rfl) (by
  intro rows r h
  unfold c17 at h
  split at h
  · rename_i a b
    obtain ⟨hp, hr⟩ := Prod.mk.inj (Option.some.inj h)
    subst hr
    simp only [Bool.and_eq_true] at hp
    obtain ⟨⟨hs0, hs1⟩, hp⟩ := hp
    obtain ⟨xs0, rfl⟩ := isS_ex hs0
    obtain ⟨xs1, rfl⟩ := isS_ex hs1
    simp only [deS_enS] at hp ⊢
    exact ⟨_, m17 xs0 xs1 hp⟩
  · cases h)
def T17 : Table := (17, c17) :: T25
theorem T17_sound : Table.Sound Go.Proofs.Try.prog Hx T17 := Table.sound_cons s17 T25_sound
/- markIntS -/
def o29 (a : List Int) (k : Int) : Bool × List Row × List Row := (decide (0 ≤ k) && (decide (k + cntS oneN a ≤ 4611686018427387904) && decide (a.length ≤ 1152921504606846976)), [[.int .i64 (k + cntS oneN a)]], [[.sl true 1 (enS true (markS intMk oneN a k))]])
def c29 : Contract
  | [[.sl true 1 a], [.int .i64 k]] => some (isS Int true a && (o29 (deS Int a) k).1, (o29 (deS Int a) k).2.1, (o29 (deS Int a) k).2.2)
  | _ => none

noncomputable def k29_0 (n : Nat) : Ex → St → Option (List Row × List Row) := kThen (fun st ↦ runCode (Ctx.mk Go.Proofs.Try.prog Hx (29)) (Table.call T17) n (codeAt [1, 1] (bodyOf Go.Proofs.Try.f29)) (Lv.mk 16 [] 16) st (kLeave (Ctx.P (Ctx.mk Go.Proofs.Try.prog Hx (29))) (List.zip (Array.toList (Go.Func.resultTypes Go.Proofs.Try.f29)) (Array.toList (Go.Func.results Go.Proofs.Try.f29))) [] [C.view 0 0 0 [] 1 none])) (kLeave (Ctx.P (Ctx.mk Go.Proofs.Try.prog Hx (29))) (List.zip (Array.toList (Go.Func.resultTypes Go.Proofs.Try.f29)) (Array.toList (Go.Func.results Go.Proofs.Try.f29))) [] [C.view 0 0 0 [] 1 none])
noncomputable def k29_1 (n : Nat) : Ex → St → Option (List Row × List Row) := kBlock (0) (k29_0 n)
noncomputable def S29_0 (i0 : Int) (i1 : Int) (es2 : List (List D)) : St := St.mk [TV.v false [C.view 0 0 0 [] 1 none], TV.v false [C.d (D.int IntKind.i64 i0)], TV.v false [C.undef], TV.v false [C.undef], TV.v false [C.undef], TV.v false [C.d (D.int IntKind.i64 i1)], TV.v false [C.undef], TV.v false [C.undef], TV.v false [C.undef], TV.v false [C.undef], TV.v false [C.undef], TV.v false [C.undef], TV.v false [C.undef], TV.v false [C.undef], TV.v false [C.undef], TV.v false [C.undef], TV.v false [C.undef], TV.v false [C.undef], TV.v false [C.undef]] [Root.mk false 1 es2 0 0 true true]
noncomputable def B29_0 (n : Nat) : St → (Ex → St → Option (List Row × List Row)) → Option (List Row × List Row) := runCode (Ctx.mk Go.Proofs.Try.prog Hx (29)) (Table.call T17) n (codeAt [1, 0, 1, 0, 0] (bodyOf Go.Proofs.Try.f29)) (Lv.mk 0 [(0, 2)] 16)
noncomputable def X29_2 (i0 : Int) (i1 : Int) (es2 : List (List D)) : St := St.mk [TV.v false [C.view 0 0 0 [] 1 none], TV.v false [C.d (D.int IntKind.i64 i0)], TV.v false [C.undef], TV.v false [C.undef], TV.v false [C.undef], TV.v false [C.d (D.int IntKind.i64 i1)], TV.v false [C.d (D.int IntKind.i64 i1)], TV.v false [C.view 0 0 0 [] 1 none], TV.v false [C.d (D.int IntKind.i64 (Int.ofNat (List.length es2)))], TV.v false [C.d (D.bool false)], TV.v false [C.undef], TV.v false [C.undef], TV.v false [C.undef], TV.v false [C.undef], TV.v false [C.undef], TV.v false [C.undef], TV.v false [C.undef], TV.v false [C.undef], TV.v false [C.undef]] [Root.mk false 1 es2 0 0 true true]
theorem q29_0 (n : Nat) (i0 : Int) (i1 : Int) (es2 : List (List D)) (f : St → Option (List Row × List Row)) (K : Ex → St → Option (List Row × List Row)) : B29_0 n (S29_0 i0 i1 es2) (@kThen (List Row × List Row) (fun st ↦ f (St.head 1 35 262114 st)) K) = bif decide (i1 < Int.ofNat (List.length es2)) then bif decide (0 ≤ i1) && decide (i1 < Int.ofNat (List.length es2)) then f (S29_0 (IntKind.wrap IntKind.i64 (i0 + 1)) (IntKind.wrap IntKind.i64 (i1 + 1)) (List.set es2 (0 + Int.toNat i1) [D.int IntKind.i64 i0])) else none else K (Ex.exit 0) (X29_2 i0 i1 es2) := by kernel_rfl
theorem aX29_2 (n : Nat) (i0 : Int) (i1 : Int) (es2 : List (List D)) : k29_1 n (Ex.exit 0) (X29_2 i0 i1 es2) = some ([[D.int IntKind.i64 i0]], [[D.sl true 1 es2]]) := by kernel_rfl
theorem r29 (a : List Int) (k : Int) (n : Nat) : evFn ⟨Go.Proofs.Try.prog, Hx, 29⟩ T17.call n Go.Proofs.Try.f29 [[.sl true 1 (enS true a)], [.int .i64 k]] = loopRun (B29_0 n) 1 35 262114 n (S29_0 k (0) (enS true a)) (k29_1 n) := by kernel_rfl
theorem m29 (a : List Int) (k : Int) (hpre : (o29 a k).1 = true) : evFn ⟨Go.Proofs.Try.prog, Hx, 29⟩ T17.call (a.length + 1) Go.Proofs.Try.f29 [[.sl true 1 (enS true a)], [.int .i64 k]] = some (o29 a k).2 := by
  refine (r29 a k _).trans ?_
  show _ = (some ([[.int .i64 (k + cntS oneN a)]], [[.sl true 1 (enS true (markS intMk oneN a k))]]) : Option (List Row × List Row))
  replace hpre : (decide (0 ≤ k) && (decide (k + cntS oneN a ≤ 4611686018427387904) && decide (a.length ≤ 1152921504606846976))) = true := hpre
  simp only [Bool.and_eq_true, decide_eq_true_eq] at hpre
  obtain ⟨h0, h1, h2⟩ := hpre
  refine loop_list (xs := a) (fun i (v : List Int × Int) => S29_0 v.2 (Int.ofNat i) (enS true (v.1 ++ a.drop i))) (fun i v => v.1.length = i ∧ 0 ≤ v.2 ∧ v.2 + cntS oneN (a.drop i) ≤ 4611686018427387904) (fun _ v rest => some ([[D.int .i64 (v.2 + cntS oneN rest)]], [[D.sl true 1 (enS true (v.1 ++ markS intMk oneN rest v.2))]])) ?_ ?_ (a.length + 1) ([], k) (by omega) ⟨rfl, h0, h1⟩
  · rintro ⟨pre, k⟩ ⟨hl, hk0, hk1⟩ f
    refine (q29_0 _ _ _ _ f _).trans ?_
    simp only [enS_length, List.drop_length, List.append_nil, hl, dec_lt, Nat.lt_irrefl, decide_false, cond_false]
    refine (aX29_2 _ _ _ _).trans ?_
    simp only [List.append_nil, cntS, markS, Int.add_zero]
  · rintro i ⟨pre, k⟩ hi ⟨hl, hk0, hk1⟩ f hf
    simp only at hl hk0 hk1
    rw [List.drop_eq_getElem_cons hi] at hk1
    generalize hx : a[i] = x at hk1 ⊢
    have hc := cntS_nonneg (n := oneN) oneN_pos (a.drop (i + 1))
    have hn : oneN x = 1 := rfl
    simp only [cntS, hn] at hk1
    refine (q29_0 _ _ _ _ f _).trans ?_
    rw [List.drop_eq_getElem_cons hi, hx]
    have hm := mid_get pre x (a.drop (i + 1)) hl
    have hat := mid_at pre x (a.drop (i + 1)) hl hm
    have hs : ∀ R, ((enS true (pre ++ x :: a.drop (i + 1))).set i R).getD i [] = R := fun R => getD_set_same _ _ _ _ (by rw [enS_length]; exact hm)
    simp only [List.length_set, enS_length, toNat_of, Nat.zero_add, dec_lt, dec_ge, hm, hs, List.set_set, enS_get _ hm, hat, decide_true, cond_true, Bool.and_self, wrap_succ (show i < 4611686018427387904 by omega)]
    have hw1 : IntKind.wrap IntKind.i64 (k + 1) = k + 1 := wrap_le (by omega) (by omega)
    simp only [hw1]
    have he : k + 1 = k + oneN x := by omega
    skip
    refine (congrArg f (congrArg (S29_0 _ _) ((enS_set true _ i (intMk x k)).trans (congrArg (enS true) (mid_set pre x _ _ hl))))).trans ?_
    refine (hf (pre ++ [intMk x k], k + 1) ⟨by simp [hl], by simp only; omega, by simp only; omega⟩).trans ?_
    show _ = some ([[D.int .i64 (k + (oneN x + cntS oneN (a.drop (i + 1))))]], [[D.sl true 1 (enS true (pre ++ (intMk x k :: markS intMk oneN (a.drop (i + 1)) (k + oneN x))))]])
    rw [he, List.append_assoc, List.singleton_append, Int.add_assoc]
theorem s29 : SoundAt Go.Proofs.Try.prog Hx 29 c29 := soundAt_of T17_sound mixed Go.Proofs.Try.func29 (by kernel_rfl) (by
  intro rows r h
  unfold c29 at h
  split at h
  · rename_i a k
    obtain ⟨hp, hr⟩ := Prod.mk.inj (Option.some.inj h)
    subst hr
    simp only [Bool.and_eq_true] at hp
    obtain ⟨hs0, hp⟩ := hp
    obtain ⟨xs0, rfl⟩ := isS_ex hs0
    simp only [deS_enS] at hp ⊢
    exact ⟨_, m29 xs0 k hp⟩
  · cases h)
def T29 : Table := (29, c29) :: T17
theorem T29_sound : Table.Sound Go.Proofs.Try.prog Hx T29 := Table.sound_cons s29 T17_sound
/- heldIntS -/
def o30 (a : List Int) (k : Int) : Bool × List Row × List Row := (sameB (markS intMk oneN a k) a && (decide (0 ≤ k) && (decide (k + cntS oneN a ≤ 4611686018427387904) && decide (a.length ≤ 1152921504606846976))), [[.int .i64 (k + cntS oneN a)]], [])
def c30 : Contract
  | [[.sl false 1 a], [.int .i64 k]] => some (isS Int false a && (o30 (deS Int a) k).1, (o30 (deS Int a) k).2.1, (o30 (deS Int a) k).2.2)
  | _ => none

noncomputable def k30_0 (n : Nat) : Ex → St → Option (List Row × List Row) := kThen (fun st ↦ runCode (Ctx.mk Go.Proofs.Try.prog Hx (30)) (Table.call T29) n (codeAt [1, 1] (bodyOf Go.Proofs.Try.f30)) (Lv.mk 16 [] 16) st (kLeave (Ctx.P (Ctx.mk Go.Proofs.Try.prog Hx (30))) (List.zip (Array.toList (Go.Func.resultTypes Go.Proofs.Try.f30)) (Array.toList (Go.Func.results Go.Proofs.Try.f30))) [] [])) (kLeave (Ctx.P (Ctx.mk Go.Proofs.Try.prog Hx (30))) (List.zip (Array.toList (Go.Func.resultTypes Go.Proofs.Try.f30)) (Array.toList (Go.Func.results Go.Proofs.Try.f30))) [] [])
noncomputable def k30_1 (n : Nat) : Ex → St → Option (List Row × List Row) := kBlock (0) (k30_0 n)
noncomputable def S30_0 (a : List Int) (i0 : Int) (i1 : Int) : St := St.mk [TV.v false [C.d (D.sl false 1 (enS false a))], TV.v false [C.d (D.int IntKind.i64 i0)], TV.v false [C.undef], TV.v false [C.undef], TV.v false [C.undef], TV.v false [C.d (D.int IntKind.i64 i1)], TV.v false [C.undef], TV.v false [C.undef], TV.v false [C.undef], TV.v false [C.undef], TV.v false [C.undef], TV.v false [C.undef], TV.v false [C.undef], TV.v false [C.undef], TV.v false [C.undef], TV.v false [C.undef], TV.v false [C.undef], TV.v false [C.undef], TV.v false [C.undef], TV.v false [C.undef], TV.v false [C.undef]] []
noncomputable def B30_0 (n : Nat) : St → (Ex → St → Option (List Row × List Row)) → Option (List Row × List Row) := runCode (Ctx.mk Go.Proofs.Try.prog Hx (30)) (Table.call T29) n (codeAt [1, 0, 1, 0, 0] (bodyOf Go.Proofs.Try.f30)) (Lv.mk 0 [(0, 2)] 16)
noncomputable def X30_2 (a : List Int) (i0 : Int) (i1 : Int) : St := St.mk [TV.v false [C.d (D.sl false 1 (enS false a))], TV.v false [C.d (D.int IntKind.i64 i0)], TV.v false [C.undef], TV.v false [C.undef], TV.v false [C.d (D.int IntKind.i64 (Int.negSucc 0))], TV.v false [C.d (D.int IntKind.i64 i1)], TV.v false [C.d (D.int IntKind.i64 i1)], TV.v false [C.d (D.sl false 1 (enS false a))], TV.v false [C.d (D.int IntKind.i64 (Int.ofNat (List.length (enS false a))))], TV.v false [C.d (D.bool true)], TV.v false [C.undef], TV.v false [C.undef], TV.v false [C.d (D.sl false 1 (enS false a))], TV.v false [C.d (D.int IntKind.i64 i1)], TV.v false [C.rptr (List.getD (enS false a) (Int.toNat i1) [])], TV.v false [C.d (D.int IntKind.i64 (D.num (List.getD (List.getD (enS false a) (Int.toNat i1) []) 0 D.dead)))], TV.v false [C.d (D.int IntKind.i64 i0)], TV.v false [C.d (D.bool true)], TV.v false [C.undef], TV.v false [C.undef], TV.v false [C.undef]] []
noncomputable def X30_3 (a : List Int) (i0 : Int) (i1 : Int) : St := St.mk [TV.v false [C.d (D.sl false 1 (enS false a))], TV.v false [C.d (D.int IntKind.i64 i0)], TV.v false [C.undef], TV.v false [C.undef], TV.v false [C.undef], TV.v false [C.d (D.int IntKind.i64 i1)], TV.v false [C.d (D.int IntKind.i64 i1)], TV.v false [C.d (D.sl false 1 (enS false a))], TV.v false [C.d (D.int IntKind.i64 (Int.ofNat (List.length (enS false a))))], TV.v false [C.d (D.bool false)], TV.v false [C.undef], TV.v false [C.undef], TV.v false [C.undef], TV.v false [C.undef], TV.v false [C.undef], TV.v false [C.undef], TV.v false [C.undef], TV.v false [C.undef], TV.v false [C.undef], TV.v false [C.undef], TV.v false [C.undef]] []
theorem q30_0 (a : List Int) (n : Nat) (i0 : Int) (i1 : Int) (f : St → Option (List Row × List Row)) (K : Ex → St → Option (List Row × List Row)) : B30_0 n (S30_0 a i0 i1) (@kThen (List Row × List Row) (fun st ↦ f (St.head 0 35 1048562 st)) K) = bif decide (i1 < Int.ofNat (List.length (enS false a))) then bif decide (0 ≤ i1) && decide (i1 < Int.ofNat (List.length (enS false a))) then bif Leaf.fit false (Leaf.int IntKind.i64) (List.getD (List.getD (enS false a) (Int.toNat i1) []) 0 D.dead) && true then bif D.num (List.getD (List.getD (enS false a) (Int.toNat i1) []) 0 D.dead) != i0 then K Ex.ret (X30_2 a i0 i1) else f (S30_0 a (IntKind.wrap IntKind.i64 (i0 + 1)) (IntKind.wrap IntKind.i64 (i1 + 1))) else none else none else K (Ex.exit 0) (X30_3 a i0 i1) := by kernel_rfl
theorem aX30_2 (a : List Int) (n : Nat) (i0 : Int) (i1 : Int) : k30_1 n Ex.ret (X30_2 a i0 i1) = some ([[D.int IntKind.i64 (Int.negSucc 0)]], []) := by kernel_rfl
theorem aX30_3 (a : List Int) (n : Nat) (i0 : Int) (i1 : Int) : k30_1 n (Ex.exit 0) (X30_3 a i0 i1) = some ([[D.int IntKind.i64 i0]], []) := by kernel_rfl
theorem r30 (a : List Int) (k : Int) (n : Nat) : evFn ⟨Go.Proofs.Try.prog, Hx, 30⟩ T29.call n Go.Proofs.Try.f30 [[.sl false 1 (enS false a)], [.int .i64 k]] = loopRun (B30_0 n) 0 35 1048562 n (S30_0 a k (0)) (k30_1 n) := by kernel_rfl
theorem m30 (a : List Int) (k : Int) (hpre : (o30 a k).1 = true) : evFn ⟨Go.Proofs.Try.prog, Hx, 30⟩ T29.call (a.length + 1) Go.Proofs.Try.f30 [[.sl false 1 (enS false a)], [.int .i64 k]] = some (o30 a k).2 := by
  refine (r30 a k _).trans ?_
  show _ = (some ([[.int .i64 (k + cntS oneN a)]], []) : Option (List Row × List Row))
  replace hpre : (sameB (markS intMk oneN a k) a && (decide (0 ≤ k) && (decide (k + cntS oneN a ≤ 4611686018427387904) && decide (a.length ≤ 1152921504606846976)))) = true := hpre
  rw [Bool.and_eq_true] at hpre
  obtain ⟨hsame, hpre⟩ := hpre
  have hsame := sameB_eq hsame
  simp only [Bool.and_eq_true, decide_eq_true_eq] at hpre
  obtain ⟨h0, h1, h2⟩ := hpre
  refine loop_list (xs := a) (fun i (k : Int) => S30_0 a k (Int.ofNat i)) (fun i k => 0 ≤ k ∧ k + cntS oneN (a.drop i) ≤ 4611686018427387904 ∧ markS intMk oneN (a.drop i) k = a.drop i) (fun _ k rest => some ([[D.int .i64 (k + cntS oneN rest)]], [])) ?_ ?_ (a.length + 1) k (by omega) ⟨h0, h1, hsame⟩
  · rintro k ⟨hk0, hk1, _⟩ f
    refine (q30_0 a _ _ _ f _).trans ?_
    simp only [enS_length, dec_lt, Nat.lt_irrefl, decide_false, cond_false]
    refine (aX30_3 a _ _ _).trans ?_
    simp only [cntS, Int.add_zero]
  · rintro i k hi ⟨hk0, hk1, hk2⟩ f hf
    rw [List.drop_eq_getElem_cons hi] at hk1 hk2
    have hc := cntS_nonneg (n := oneN) oneN_pos (a.drop (i + 1))
    have hn : oneN a[i] = 1 := rfl
    simp only [cntS, hn] at hk1
    have he : k + 1 = k + oneN a[i] := by omega
    simp only [markS, List.cons.injEq] at hk2
    obtain ⟨hk2, hk3⟩ := hk2
    refine (q30_0 a _ _ _ f _).trans ?_
    simp only [enS_length, toNat_of, dec_lt, dec_ge, enS_get _ hi, hi, wrap_succ (show i < 4611686018427387904 by omega), decide_true, cond_true, Bool.and_self]
    have hw1 : IntKind.wrap IntKind.i64 (k + 1) = k + 1 := wrap_le (by omega) (by omega)
    simp only [hw1]
    rw [← hk2]
    refine Eq.trans (b := f (S30_0 a (k + 1) (Int.ofNat (i + 1)))) ?_ ((hf (k + 1) ⟨by omega, by omega, by rw [he]; exact hk3⟩).trans ?_)
    · simp only [En.enc, intMk, Leaf.fit, List.getD_cons_zero, List.getD_cons_succ, D.num, D.flag, D.text, bne_self_eq_false, Bool.and_self, cond_true, cond_false, decide_true]
    · show _ = some ([[D.int .i64 (k + (oneN a[i] + cntS oneN (a.drop (i + 1))))]], [])
      rw [he, Int.add_assoc]
theorem s30 : SoundAt Go.Proofs.Try.prog Hx 30 c30 := soundAt_of T29_sound mixed Go.Proofs.Try.func30 (by kernel_rfl) (by
  intro rows r h
  unfold c30 at h
  split at h
  · rename_i a k
    obtain ⟨hp, hr⟩ := Prod.mk.inj (Option.some.inj h)
    subst hr
    simp only [Bool.and_eq_true] at hp
    obtain ⟨hs0, hp⟩ := hp
    obtain ⟨xs0, rfl⟩ := isS_ex hs0
    simp only [deS_enS] at hp ⊢
    exact ⟨_, m30 xs0 k hp⟩
  · cases h)
def T30 : Table := (30, c30) :: T29
theorem T30_sound : Table.Sound Go.Proofs.Try.prog Hx T30 := Table.sound_cons s30 T29_sound
end Go.Ev
end
