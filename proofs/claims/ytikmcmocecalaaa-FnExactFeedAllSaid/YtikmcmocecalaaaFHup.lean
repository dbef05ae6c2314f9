/- Contracts of functions, each by its evaluation. -/
import Derived.Test.YtikmcmocecalaaaEvMd
import Derived.Test.YtikmcmocecalaaaProg
import Derived.KernelRfl
import Derived.Test.YtikmcmocecalaaaFHcopy2
set_option linter.unusedVariables false
set_option linter.unusedSimpArgs false
set_option maxRecDepth 100000
noncomputable section
open List (getD length drop take set append replicate all isEmpty)
open Int (toNat ofNat)
open Go.IntKind (i64 wrap)
open Go.Proofs.Try (prog)
namespace Go.Ev
open Go.RowKit Go.Md
end Go.Ev
namespace Go.Md
open Go Go.Ev
def Up.mk_ (x : Up) (k : Int) : Up := ⟨k, k + 1, k + 1 + 1, k + 1 + 1 + 1⟩
def Up.n_ (x : Up) : Int := 1 + 1 + 1 + 1
theorem Up.n_pos (x : Up) : 0 ≤ Up.n_ x := by show (0 : Int) ≤ 1 + 1 + 1 + 1; decide
theorem Up.mk_idem (x : Up) (k : Int) : Up.mk_ (Up.mk_ x k) k = Up.mk_ x k := rfl
theorem Up.n_mk (x : Up) (k : Int) : Up.n_ (Up.mk_ x k) = Up.n_ x := rfl
theorem Up.lok (xs : List Up) (k : Int) (h0 : 0 ≤ k) (hk : k ≤ 1000000000000) (hw : (xs.length : Int) ≤ 1048576) : (decide (0 ≤ k) && (decide (k + cntS Up.n_ xs ≤ 4611686018427387904) && decide (xs.length ≤ 1152921504606846976))) = true := by
  have c0 : cntS Up.n_ xs = 4 * (xs.length : Int) := cntS_const (fun _ => rfl) _
  simp only [Bool.and_eq_true, decide_eq_true_eq]
  exact ⟨h0, by omega, by omega⟩
theorem Up.lsm (xs : List Up) (hw : (xs.length : Int) ≤ 1048576) : (decide (xs.length ≤ 1048576)) = true := by
  exact decide_eq_true (by omega)
end Go.Md
namespace Go.Ev
open Go.Md
/- szUpS -/
def o32 (a : List Up) (left : Int) : Bool × List Row × List Row := (decide (0 ≤ left) && (decide (left ≤ 1048576) && decide (a.length ≤ 9223372036854775807)), [[.int .i64 (szR (a.length : Int) left)]], [])
def c32 : Contract
  | [[.sl false 4 a], [.int .i64 left]] => some (isS Up false a && (o32 (deS Up a) left).1, (o32 (deS Up a) left).2.1, (o32 (deS Up a) left).2.2)
  | _ => none

theorem r32 (a : List Up) (left : Int) (n : Nat) : evFn ⟨prog, Hx, 32⟩ T19.call n Go.Proofs.Try.f32 [[.sl false 4 (enS false a)], [.int .i64 left]] = bif decide (wrap i64 (left - ofNat (length (enS false a))) < 0) then some ([[D.int i64 (Int.negSucc 0)]], []) else some ([[D.int i64 (wrap i64 (left - ofNat (length (enS false a))))]], []) := by kernel_rfl
theorem m32 (a : List Up) (left : Int) (hpre : (o32 a left).1 = true) : evFn ⟨Go.Proofs.Try.prog, Hx, 32⟩ T19.call 0 Go.Proofs.Try.f32 [[.sl false 4 (enS false a)], [.int .i64 left]] = some (o32 a left).2 := by
  refine (r32 a left _).trans ?_
  show _ = (some ([[.int .i64 (szR (a.length : Int) left)]], []) : Option (List Row × List Row))
  replace hpre : (decide (0 ≤ left) && (decide (left ≤ 1048576) && decide (a.length ≤ 9223372036854775807))) = true := hpre
  simp only [Bool.and_eq_true, decide_eq_true_eq] at hpre
  obtain ⟨h0, h1, h2⟩ := hpre
  simp only [enS_length]
  have hw : IntKind.wrap IntKind.i64 (left - Int.ofNat a.length) = left - (a.length : Int) := wrap_of (by show _ ≤ left - (a.length : Int); omega) (by show left - (a.length : Int) ≤ _; omega)
  rw [hw]
  unfold szR
  by_cases h : (a.length : Int) ≤ left
  · rw [decide_eq_false (by omega), decide_eq_true h]; rfl
  · rw [decide_eq_true (by omega), decide_eq_false h]; rfl
theorem s32 : SoundAt Go.Proofs.Try.prog Hx 32 c32 := soundAt_of T19_sound mixed Go.Proofs.Try.func32 (by kernel_rfl) (by
  intro rows r h
  unfold c32 at h
  split at h
  · rename_i a left
    obtain ⟨hp, hr⟩ := Prod.mk.inj (Option.some.inj h)
    subst hr
    simp only [Bool.and_eq_true] at hp
    obtain ⟨hs0, hp⟩ := hp
    obtain ⟨xs0, rfl⟩ := isS_ex hs0
    simp only [deS_enS] at hp ⊢
    exact ⟨_, m32 xs0 left hp⟩
  · cases h)
def T32 : Table := (32, c32) :: T19
theorem T32_sound : Table.Sound Go.Proofs.Try.prog Hx T32 := Table.sound_cons s32 T19_sound
/- toUpS -/
def o34 (a : List Up) : Bool × List Row × List Row := (decide (a.length ≤ 1048576), [[.sl true 4 (enS true (a))]], [])
def c34 : Contract
  | [[.sl false 4 a]] => some (isS Up false a && (o34 (deS Up a)).1, (o34 (deS Up a)).2.1, (o34 (deS Up a)).2.2)
  | _ => none

def k34_0 (n : Nat) : Ex → St → RR := kThen (fun st ↦ runCode (Ctx.mk prog Hx (34)) (Table.call T32) n (codeAt [1, 1, 1] (bodyOf Go.Proofs.Try.f34)) (Lv.mk 4 [] 4) st (kLeave (Ctx.P (Ctx.mk prog Hx (34))) (List.zip (Array.toList (Go.Func.resultTypes Go.Proofs.Try.f34)) (Array.toList (Go.Func.results Go.Proofs.Try.f34))) [] [])) (kLeave (Ctx.P (Ctx.mk prog Hx (34))) (List.zip (Array.toList (Go.Func.resultTypes Go.Proofs.Try.f34)) (Array.toList (Go.Func.results Go.Proofs.Try.f34))) [] [])
def k34_1 (n : Nat) : Ex → St → RR := kBlock (0) (k34_0 n)
def S34_0 (a : List Up) (i0 : Int) (es1 : List (List D)) : St := St.mk [TV.v false [C.d (D.sl false 4 (enS false a))], U_, U_, TV.v false [C.view 0 0 0 [] 4 none], I_ i0, U_, U_, U_, U_, U_, U_, U_, U_, U_, U_, U_, U_, U_, U_, U_, U_, U_, U_] [Root.mk false 4 es1 0 0 true true false]
def B34_0 (n : Nat) : St → (Ex → St → RR) → RR := runCode (Ctx.mk prog Hx (34)) (Table.call T32) n (codeAt [1, 1, 0, 1, 0, 0] (bodyOf Go.Proofs.Try.f34)) (Lv.mk 25 [(0, 8)] 4)
def X34_2 (a : List Up) (i0 : Int) (es1 : List (List D)) : St := St.mk [TV.v false [C.d (D.sl false 4 (enS false a))], U_, U_, TV.v false [C.view 0 0 0 [] 4 none], I_ i0, U_, U_, U_, I_ i0, TV.v false [C.d (D.sl false 4 (enS false a))], I_ (ofNat (length (enS false a))), B_ false, U_, U_, U_, U_, U_, U_, U_, U_, U_, U_, U_] [Root.mk false 4 es1 0 0 true true false]
theorem q34_0 (a : List Up) (n : Nat) (i0 : Int) (es1 : List (List D)) (f : St → RR) (K : Ex → St → RR) : B34_0 n (S34_0 a i0 es1) (kThen (fun st ↦ f (St.head 1 25 4194064 st)) K) = bif decide (i0 < ofNat (length (enS false a))) then bif decide (0 ≤ i0) && decide (i0 < ofNat (length (enS false a))) then bif Leaf.fit false (Leaf.int i64) (getD (getD (enS false a) (toNat i0) []) 0 D.dead) && (Leaf.fit false (Leaf.int i64) (getD (getD (enS false a) (toNat i0) []) 1 D.dead) && (Leaf.fit false (Leaf.int i64) (getD (getD (enS false a) (toNat i0) []) 2 D.dead) && (Leaf.fit false (Leaf.int i64) (getD (getD (enS false a) (toNat i0) []) 3 D.dead) && true))) then bif decide (0 ≤ i0) && decide (i0 < ofNat (length es1)) then f (S34_0 a (wrap i64 (i0 + 1)) (set es1 (0 + toNat i0) [D.int i64 (D.num (getD (getD (enS false a) (toNat i0) []) 0 D.dead)), D.int i64 (D.num (getD (getD (enS false a) (toNat i0) []) 1 D.dead)), D.int i64 (D.num (getD (getD (enS false a) (toNat i0) []) 2 D.dead)), D.int i64 (D.num (getD (getD (enS false a) (toNat i0) []) 3 D.dead))])) else none else none else none else K (Ex.exit 0) (X34_2 a i0 es1) := by kernel_rfl
theorem aX34_2 (a : List Up) (n : Nat) (i0 : Int) (es1 : List (List D)) : k34_1 n (Ex.exit 0) (X34_2 a i0 es1) = some ([[D.sl true 4 es1]], []) := by kernel_rfl
theorem r34 (a : List Up) (n : Nat) : evFn ⟨prog, Hx, 34⟩ T32.call n Go.Proofs.Try.f34 [[.sl false 4 (enS false a)]] = bif decide (0 ≤ ofNat (length (enS false a))) && (decide (ofNat (length (enS false a)) ≤ ofNat (length (enS false a))) && decide (toNat (ofNat (length (enS false a))) * 32 ≤ 140737488355328)) then loopRun (B34_0 n) 1 25 4194064 n (S34_0 a (0) (replicate (toNat (ofNat (length (enS false a)))) [D.int i64 (0), D.int i64 (0), D.int i64 (0), D.int i64 (0)])) (k34_1 n) else none := by kernel_rfl
theorem m34 (a : List Up) (hpre : (o34 a).1 = true) : evFn ⟨Go.Proofs.Try.prog, Hx, 34⟩ T32.call (a.length + 1) Go.Proofs.Try.f34 [[.sl false 4 (enS false a)]] = some (o34 a).2 := by
  refine (r34 a _).trans ?_
  show _ = (some ([[.sl true 4 (enS true (a))]], []) : Option (List Row × List Row))
  replace hpre : (decide (a.length ≤ 1048576)) = true := hpre
  have hlen : a.length ≤ 1048576 := of_decide_eq_true hpre
  rw [enS_length, make_ok (by omega), cond_true, toNat_of]
  refine (congrArg (fun z => loopRun _ _ _ _ _ (S34_0 a 0 z) _) (enS_rep true a.length (En.nil : Up))).trans ?_
  refine loop_list (xs := a) (fun i (ys : List Up) => S34_0 a (Int.ofNat i) (enS true ys)) (fun i ys => ys.length = a.length ∧ ys.take i = a.take i) (fun _ _ _ => some ([[D.sl true 4 (enS true a)]], [])) ?_ ?_ (a.length + 1) _ (by omega) ⟨List.length_replicate .., rfl⟩
  · rintro ys ⟨h2, h3⟩ f
    refine (q34_0 a _ _ _ f _).trans ?_
    simp only [enS_length, dec_lt, Nat.lt_irrefl, decide_false, cond_false]
    refine (aX34_2 a _ _ _).trans ?_
    rw [List.take_length, ← h2, List.take_length] at h3
    subst h3
    rfl
  · rintro i ys hi ⟨h2, h3⟩ f hf
    refine (q34_0 a _ _ _ f _).trans ?_
    simp only [enS_length, toNat_of, dec_lt, dec_ge, enS_get _ hi, h2, hi, wrap_succ (show i < 4611686018427387904 by omega), Nat.zero_add, decide_true, cond_true, Bool.and_self]
    exact (congrArg f (congrArg (S34_0 a _) (enS_set true ys i a[i]))).trans (hf (ys.set i a[i]) ⟨by rw [List.length_set]; exact h2, take_set_succ hi h2 h3⟩)
theorem s34 : SoundAt Go.Proofs.Try.prog Hx 34 c34 := soundAt_of T32_sound mixed Go.Proofs.Try.func34 (by kernel_rfl) (by
  intro rows r h
  unfold c34 at h
  split at h
  · rename_i a
    obtain ⟨hp, hr⟩ := Prod.mk.inj (Option.some.inj h)
    subst hr
    simp only [Bool.and_eq_true] at hp
    obtain ⟨hs0, hp⟩ := hp
    obtain ⟨xs0, rfl⟩ := isS_ex hs0
    simp only [deS_enS] at hp ⊢
    exact ⟨_, m34 xs0 hp⟩
  · cases h)
def T34 : Table := (34, c34) :: T32
theorem T34_sound : Table.Sound Go.Proofs.Try.prog Hx T34 := Table.sound_cons s34 T32_sound
/- eqUp -/
def o72 (a : Up) (b : Up) : Bool × List Row × List Row := (sameB a b, [[.bool (true)]], [])
def c72 : Contract
  | [[.int .i64 a_Seq, .int .i64 a_Addr, .int .i64 a_Vlan, .int .i64 a_Port], [.int .i64 b_Seq, .int .i64 b_Addr, .int .i64 b_Vlan, .int .i64 b_Port]] => some ((o72 ⟨a_Seq, a_Addr, a_Vlan, a_Port⟩ ⟨b_Seq, b_Addr, b_Vlan, b_Port⟩).1, (o72 ⟨a_Seq, a_Addr, a_Vlan, a_Port⟩ ⟨b_Seq, b_Addr, b_Vlan, b_Port⟩).2.1, (o72 ⟨a_Seq, a_Addr, a_Vlan, a_Port⟩ ⟨b_Seq, b_Addr, b_Vlan, b_Port⟩).2.2)
  | _ => none

theorem r72 (a : Up) (b : Up) (n : Nat) : evFn ⟨prog, Hx, 72⟩ T34.call n Go.Proofs.Try.f72 [[.int .i64 a.Seq, .int .i64 a.Addr, .int .i64 a.Vlan, .int .i64 a.Port], [.int .i64 b.Seq, .int .i64 b.Addr, .int .i64 b.Vlan, .int .i64 b.Port]] = bif Up.Seq a != Up.Seq b then some ([[D.bool false]], []) else bif Up.Addr a != Up.Addr b then some ([[D.bool false]], []) else bif Up.Vlan a != Up.Vlan b then some ([[D.bool false]], []) else bif Up.Port a != Up.Port b then some ([[D.bool false]], []) else some ([[D.bool true]], []) := by kernel_rfl
theorem m72 (a : Up) (b : Up) (hpre : (o72 a b).1 = true) : evFn ⟨Go.Proofs.Try.prog, Hx, 72⟩ T34.call 0 Go.Proofs.Try.f72 [[.int .i64 a.Seq, .int .i64 a.Addr, .int .i64 a.Vlan, .int .i64 a.Port], [.int .i64 b.Seq, .int .i64 b.Addr, .int .i64 b.Vlan, .int .i64 b.Port]] = some (o72 a b).2 := by
  refine (r72 a b _).trans ?_
  show _ = (some ([[.bool (true)]], []) : Option (List Row × List Row))
  replace hpre : (sameB a b) = true := hpre
  have := sameB_eq hpre
  subst this
  simp only [bne_self_eq_false, cond_false, sameB_self, cond_true, Bool.not_true]
theorem s72 : SoundAt Go.Proofs.Try.prog Hx 72 c72 := soundAt_of T34_sound mixed Go.Proofs.Try.func72 (by kernel_rfl) (by
  intro rows r h
  unfold c72 at h
  split at h
  · rename_i a_Seq a_Addr a_Vlan a_Port b_Seq b_Addr b_Vlan b_Port
    obtain ⟨hp, hr⟩ := Prod.mk.inj (Option.some.inj h)
    subst hr
    exact ⟨_, m72 ⟨a_Seq, a_Addr, a_Vlan, a_Port⟩ ⟨b_Seq, b_Addr, b_Vlan, b_Port⟩ hp⟩
  · cases h)
def T72 : Table := (72, c72) :: T34
theorem T72_sound : Table.Sound Go.Proofs.Try.prog Hx T72 := Table.sound_cons s72 T34_sound
/- eqUpS -/
def o36 (a : List Up) (b : List Up) : Bool × List Row × List Row := (sameB a b && (decide (a.length ≤ 1048576)), [[.bool (true)]], [])
def c36 : Contract
  | [[.sl false 4 a], [.sl false 4 b]] => some (isS Up false a && isS Up false b && (o36 (deS Up a) (deS Up b)).1, (o36 (deS Up a) (deS Up b)).2.1, (o36 (deS Up a) (deS Up b)).2.2)
  | _ => none

def k36_0 (n : Nat) : Ex → St → RR := kThen (fun st ↦ runCode (Ctx.mk prog Hx (36)) (Table.call T72) n (codeAt [1, 1, 1] (bodyOf Go.Proofs.Try.f36)) (Lv.mk 16 [] 16) st (kLeave (Ctx.P (Ctx.mk prog Hx (36))) (List.zip (Array.toList (Go.Func.resultTypes Go.Proofs.Try.f36)) (Array.toList (Go.Func.results Go.Proofs.Try.f36))) [] [])) (kLeave (Ctx.P (Ctx.mk prog Hx (36))) (List.zip (Array.toList (Go.Func.resultTypes Go.Proofs.Try.f36)) (Array.toList (Go.Func.results Go.Proofs.Try.f36))) [] [])
def k36_1 (n : Nat) : Ex → St → RR := kBlock (0) (k36_0 n)
def S36_0 (a : List Up) (b : List Up) (i0 : Int) : St := St.mk [TV.v false [C.d (D.sl false 4 (enS false a))], TV.v false [C.d (D.sl false 4 (enS false b))], U_, U_, U_, I_ i0, U_, U_, U_, U_, U_, U_, U_, U_, U_, U_, U_, U_, U_, U_, U_, U_, U_, U_, U_, U_, U_] []
def B36_0 (n : Nat) : St → (Ex → St → RR) → RR := runCode (Ctx.mk prog Hx (36)) (Table.call T72) n (codeAt [1, 1, 0, 1, 0, 0] (bodyOf Go.Proofs.Try.f36)) (Lv.mk 35 [(0, 0)] 16)
def X36_2 (a : List Up) (b : List Up) (i0 : Int) : St := St.mk [TV.v false [C.d (D.sl false 4 (enS false a))], TV.v false [C.d (D.sl false 4 (enS false b))], U_, U_, U_, I_ i0, U_, U_, U_, U_, U_, I_ i0, TV.v false [C.d (D.sl false 4 (enS false a))], I_ (ofNat (length (enS false a))), B_ false, U_, U_, U_, U_, U_, U_, U_, U_, U_, U_, U_, U_] []
theorem q36_0 (a : List Up) (b : List Up) (n : Nat) (i0 : Int) (f : St → RR) (K : Ex → St → RR) : B36_0 n (S36_0 a b i0) (kThen (fun st ↦ f (St.head 0 35 134215728 st)) K) = bif decide (i0 < ofNat (length (enS false a))) then bif decide (0 ≤ i0) && decide (i0 < ofNat (length (enS false a))) then bif Leaf.fit false (Leaf.int i64) (getD (getD (enS false a) (toNat i0) []) 0 D.dead) && (Leaf.fit false (Leaf.int i64) (getD (getD (enS false a) (toNat i0) []) 1 D.dead) && (Leaf.fit false (Leaf.int i64) (getD (getD (enS false a) (toNat i0) []) 2 D.dead) && (Leaf.fit false (Leaf.int i64) (getD (getD (enS false a) (toNat i0) []) 3 D.dead) && true))) then bif decide (0 ≤ i0) && decide (i0 < ofNat (length (enS false b))) then bif Leaf.fit false (Leaf.int i64) (getD (getD (enS false b) (toNat i0) []) 0 D.dead) && (Leaf.fit false (Leaf.int i64) (getD (getD (enS false b) (toNat i0) []) 1 D.dead) && (Leaf.fit false (Leaf.int i64) (getD (getD (enS false b) (toNat i0) []) 2 D.dead) && (Leaf.fit false (Leaf.int i64) (getD (getD (enS false b) (toNat i0) []) 3 D.dead) && true))) then bif sameB (Up.mk (D.num (getD (getD (enS false a) (toNat i0) []) 0 D.dead)) (D.num (getD (getD (enS false a) (toNat i0) []) 1 D.dead)) (D.num (getD (getD (enS false a) (toNat i0) []) 2 D.dead)) (D.num (getD (getD (enS false a) (toNat i0) []) 3 D.dead))) (Up.mk (D.num (getD (getD (enS false b) (toNat i0) []) 0 D.dead)) (D.num (getD (getD (enS false b) (toNat i0) []) 1 D.dead)) (D.num (getD (getD (enS false b) (toNat i0) []) 2 D.dead)) (D.num (getD (getD (enS false b) (toNat i0) []) 3 D.dead))) then f (S36_0 a b (wrap i64 (i0 + 1))) else none else none else none else none else none else K (Ex.exit 0) (X36_2 a b i0) := by kernel_rfl
theorem aX36_2 (a : List Up) (b : List Up) (n : Nat) (i0 : Int) : k36_1 n (Ex.exit 0) (X36_2 a b i0) = some ([[D.bool true]], []) := by kernel_rfl
theorem r36 (a : List Up) (b : List Up) (n : Nat) : evFn ⟨prog, Hx, 36⟩ T72.call n Go.Proofs.Try.f36 [[.sl false 4 (enS false a)], [.sl false 4 (enS false b)]] = bif ofNat (length (enS false a)) != ofNat (length (enS false b)) then some ([[D.bool false]], []) else loopRun (B36_0 n) 0 35 134215728 n (S36_0 a b (0)) (k36_1 n) := by kernel_rfl
theorem m36 (a : List Up) (b : List Up) (hpre : (o36 a b).1 = true) : evFn ⟨Go.Proofs.Try.prog, Hx, 36⟩ T72.call (a.length + 1) Go.Proofs.Try.f36 [[.sl false 4 (enS false a)], [.sl false 4 (enS false b)]] = some (o36 a b).2 := by
  refine (r36 a b _).trans ?_
  show _ = (some ([[.bool (true)]], []) : Option (List Row × List Row))
  replace hpre : (sameB a b && (decide (a.length ≤ 1048576))) = true := hpre
  rw [Bool.and_eq_true] at hpre
  obtain ⟨h0, h1⟩ := hpre
  have hlen : a.length ≤ 1048576 := of_decide_eq_true h1
  have := sameB_eq h0
  subst this
  simp only [bne_self_eq_false, cond_false]
  refine loop_list (xs := a) (fun i (_ : Unit) => S36_0 a a (Int.ofNat i)) (fun _ _ => True) (fun _ _ _ => some ([[D.bool true]], [])) ?_ ?_ (a.length + 1) () (by omega) trivial
  · rintro _ _ f
    refine (q36_0 a a _ _ f _).trans ?_
    simp only [enS_length, dec_lt, Nat.lt_irrefl, decide_false, cond_false]
    exact aX36_2 a a _ _
  · rintro i _ hi _ f hf
    refine (q36_0 a a _ _ f _).trans ?_
    simp only [enS_length, toNat_of, dec_lt, dec_ge, enS_get _ hi, hi, wrap_succ (show i < 4611686018427387904 by omega), decide_true, cond_true, Bool.and_self, sameB_self, bne_self_eq_false, cond_false]
    exact hf () trivial
theorem s36 : SoundAt Go.Proofs.Try.prog Hx 36 c36 := soundAt_of T72_sound mixed Go.Proofs.Try.func36 (by kernel_rfl) (by
  intro rows r h
  unfold c36 at h
  split at h
  · rename_i a b
    obtain ⟨hp, hr⟩ := Prod.mk.inj (Option.some.inj h)
    subst hr
    simp only [Bool.and_eq_true] at hp
    obtain ⟨⟨hs0, hs1⟩, hp⟩ := hp
    obtain ⟨xs0, rfl⟩ := isS_ex hs0
    obtain ⟨xs1, rfl⟩ := isS_ex hs1
    simp only [deS_enS] at hp ⊢
    exact ⟨_, m36 xs0 xs1 hp⟩
  · cases h)
def T36 : Table := (36, c36) :: T72
theorem T36_sound : Table.Sound Go.Proofs.Try.prog Hx T36 := Table.sound_cons s36 T72_sound
/- markUpS -/
def o37 (a : List Up) (k : Int) : Bool × List Row × List Row := (decide (0 ≤ k) && (decide (k + cntS Up.n_ a ≤ 4611686018427387904) && decide (a.length ≤ 1152921504606846976)), [[.int .i64 (k + cntS Up.n_ a)]], [[.sl true 4 (enS true (markS Up.mk_ Up.n_ a k))]])
def c37 : Contract
  | [[.sl true 4 a], [.int .i64 k]] => some (isS Up true a && (o37 (deS Up a) k).1, (o37 (deS Up a) k).2.1, (o37 (deS Up a) k).2.2)
  | _ => none

def k37_0 (n : Nat) : Ex → St → RR := kThen (fun st ↦ runCode (Ctx.mk prog Hx (37)) (Table.call T36) n (codeAt [1, 1] (bodyOf Go.Proofs.Try.f37)) (Lv.mk 16 [] 16) st (kLeave (Ctx.P (Ctx.mk prog Hx (37))) (List.zip (Array.toList (Go.Func.resultTypes Go.Proofs.Try.f37)) (Array.toList (Go.Func.results Go.Proofs.Try.f37))) [] [C.view 0 0 0 [] 4 none])) (kLeave (Ctx.P (Ctx.mk prog Hx (37))) (List.zip (Array.toList (Go.Func.resultTypes Go.Proofs.Try.f37)) (Array.toList (Go.Func.results Go.Proofs.Try.f37))) [] [C.view 0 0 0 [] 4 none])
def k37_1 (n : Nat) : Ex → St → RR := kBlock (0) (k37_0 n)
def S37_0 (i0 : Int) (i1 : Int) (es2 : List (List D)) : St := St.mk [TV.v false [C.view 0 0 0 [] 4 none], I_ i0, U_, U_, U_, I_ i1, U_, U_, U_, U_, U_, U_, U_, U_, U_, U_, U_, U_, U_, U_, U_, U_, U_, U_, U_, U_, U_, U_, U_, U_, U_, U_, U_, U_, U_, U_, U_, U_, U_, U_, U_] [Root.mk false 4 es2 0 0 true true false]
def B37_0 (n : Nat) : St → (Ex → St → RR) → RR := runCode (Ctx.mk prog Hx (37)) (Table.call T36) n (codeAt [1, 0, 1, 0, 0] (bodyOf Go.Proofs.Try.f37)) (Lv.mk 35 [(0, 2)] 16)
def X37_2 (i0 : Int) (i1 : Int) (es2 : List (List D)) : St := St.mk [TV.v false [C.view 0 0 0 [] 4 none], I_ i0, U_, U_, U_, I_ i1, I_ i1, TV.v false [C.view 0 0 0 [] 4 none], I_ (ofNat (length es2)), B_ false, U_, U_, U_, U_, U_, U_, U_, U_, U_, U_, U_, U_, U_, U_, U_, U_, U_, U_, U_, U_, U_, U_, U_, U_, U_, U_, U_, U_, U_, U_, U_] [Root.mk false 4 es2 0 0 true true false]
def w37_3 (i0 : Int) (i1 : Int) (es2 : List (List D)) : List (List D) := set es2 (0 + toNat i1) (D.int i64 i0 :: drop 1 (getD es2 (0 + toNat i1) []))
def w37_4 (i0 : Int) (i1 : Int) (es2 : List (List D)) : List (List D) := set (w37_3 i0 i1 es2) (0 + toNat i1) (append (append (take 1 (getD (w37_3 i0 i1 es2) (0 + toNat i1) [])) [D.int i64 (wrap i64 (i0 + 1))]) (drop 2 (getD (w37_3 i0 i1 es2) (0 + toNat i1) [])))
def w37_5 (i0 : Int) (i1 : Int) (es2 : List (List D)) : List (List D) := set (w37_4 i0 i1 es2) (0 + toNat i1) (append (append (take 2 (getD (w37_4 i0 i1 es2) (0 + toNat i1) [])) [D.int i64 (wrap i64 (wrap i64 (i0 + 1) + 1))]) (drop 3 (getD (w37_4 i0 i1 es2) (0 + toNat i1) [])))
theorem q37_0 (n : Nat) (i0 : Int) (i1 : Int) (es2 : List (List D)) (f : St → RR) (K : Ex → St → RR) : B37_0 n (S37_0 i0 i1 es2) (kThen (fun st ↦ f (St.head 1 35 1099511627746 st)) K) = bif decide (i1 < ofNat (length es2)) then bif decide (0 ≤ i1) && decide (i1 < ofNat (length es2)) then bif decide (0 ≤ i1) && decide (i1 < ofNat (length (w37_3 i0 i1 es2))) then bif decide (0 ≤ i1) && decide (i1 < ofNat (length (w37_4 i0 i1 es2))) then bif decide (0 ≤ i1) && decide (i1 < ofNat (length (w37_5 i0 i1 es2))) then f (S37_0 (wrap i64 (wrap i64 (wrap i64 (wrap i64 (i0 + 1) + 1) + 1) + 1)) (wrap i64 (i1 + 1)) (set (w37_5 i0 i1 es2) (0 + toNat i1) (append (append (take 3 (getD (w37_5 i0 i1 es2) (0 + toNat i1) [])) [D.int i64 (wrap i64 (wrap i64 (wrap i64 (i0 + 1) + 1) + 1))]) (drop 4 (getD (w37_5 i0 i1 es2) (0 + toNat i1) []))))) else none else none else none else none else K (Ex.exit 0) (X37_2 i0 i1 es2) := by kernel_rfl
theorem aX37_2 (n : Nat) (i0 : Int) (i1 : Int) (es2 : List (List D)) : k37_1 n (Ex.exit 0) (X37_2 i0 i1 es2) = some ([[D.int i64 i0]], [[D.sl true 4 es2]]) := by kernel_rfl
theorem r37 (a : List Up) (k : Int) (n : Nat) : evFn ⟨prog, Hx, 37⟩ T36.call n Go.Proofs.Try.f37 [[.sl true 4 (enS true a)], [.int .i64 k]] = loopRun (B37_0 n) 1 35 1099511627746 n (S37_0 k (0) (enS true a)) (k37_1 n) := by kernel_rfl
theorem m37 (a : List Up) (k : Int) (hpre : (o37 a k).1 = true) : evFn ⟨Go.Proofs.Try.prog, Hx, 37⟩ T36.call (a.length + 1) Go.Proofs.Try.f37 [[.sl true 4 (enS true a)], [.int .i64 k]] = some (o37 a k).2 := by
  refine (r37 a k _).trans ?_
  show _ = (some ([[.int .i64 (k + cntS Up.n_ a)]], [[.sl true 4 (enS true (markS Up.mk_ Up.n_ a k))]]) : Option (List Row × List Row))
  replace hpre : (decide (0 ≤ k) && (decide (k + cntS Up.n_ a ≤ 4611686018427387904) && decide (a.length ≤ 1152921504606846976))) = true := hpre
  simp only [Bool.and_eq_true, decide_eq_true_eq] at hpre
  obtain ⟨h0, h1, h2⟩ := hpre
  refine loop_list (xs := a) (fun i (v : List Up × Int) => S37_0 v.2 (Int.ofNat i) (enS true (v.1 ++ a.drop i))) (fun i v => v.1.length = i ∧ 0 ≤ v.2 ∧ v.2 + cntS Up.n_ (a.drop i) ≤ 4611686018427387904) (fun _ v rest => some ([[D.int .i64 (v.2 + cntS Up.n_ rest)]], [[D.sl true 4 (enS true (v.1 ++ markS Up.mk_ Up.n_ rest v.2))]])) ?_ ?_ (a.length + 1) ([], k) (by omega) ⟨rfl, h0, h1⟩
  · rintro ⟨pre, k⟩ ⟨hl, hk0, hk1⟩ f
    refine (q37_0 _ _ _ _ f _).trans ?_
    simp only [enS_length, List.drop_length, List.append_nil, hl, dec_lt, Nat.lt_irrefl, decide_false, cond_false]
    refine (aX37_2 _ _ _ _).trans ?_
    simp only [List.append_nil, cntS, markS, Int.add_zero]
  · rintro i ⟨pre, k⟩ hi ⟨hl, hk0, hk1⟩ f hf
    simp only at hl hk0 hk1
    rw [List.drop_eq_getElem_cons hi] at hk1
    generalize hx : a[i] = x at hk1 ⊢
    have hc := cntS_nonneg (n := Up.n_) Up.n_pos (a.drop (i + 1))
    have hn : Up.n_ x = 4 := rfl
    simp only [cntS, hn] at hk1
    refine (q37_0 _ _ _ _ f _).trans ?_
    rw [List.drop_eq_getElem_cons hi, hx]
    have hm := mid_get pre x (a.drop (i + 1)) hl
    have hat := mid_at pre x (a.drop (i + 1)) hl hm
    have hs : ∀ R, ((enS true (pre ++ x :: a.drop (i + 1))).set i R).getD i [] = R := fun R => getD_set_same _ _ _ _ (by rw [enS_length]; exact hm)
    simp only [w37_3, w37_4, w37_5, List.length_set, enS_length, toNat_of, Nat.zero_add, dec_lt, dec_ge, hm, hs, List.set_set, enS_get _ hm, hat, decide_true, cond_true, Bool.and_self, wrap_succ (show i < 4611686018427387904 by omega), En.enc, List.append_eq, List.take_succ_cons, List.take_zero, List.drop_succ_cons, List.drop_zero, List.cons_append, List.nil_append]
    have hw1 : IntKind.wrap IntKind.i64 (k + 1) = k + 1 := wrap_le (by omega) (by omega)
    have hw2 : IntKind.wrap IntKind.i64 (k + 1 + 1) = k + 1 + 1 := wrap_le (by omega) (by omega)
    have hw3 : IntKind.wrap IntKind.i64 (k + 1 + 1 + 1) = k + 1 + 1 + 1 := wrap_le (by omega) (by omega)
    have hw4 : IntKind.wrap IntKind.i64 (k + 1 + 1 + 1 + 1) = k + 1 + 1 + 1 + 1 := wrap_le (by omega) (by omega)
    simp only [hw1, hw2, hw3, hw4]
    have he : k + 1 + 1 + 1 + 1 = k + Up.n_ x := by omega
    skip
    refine (congrArg f (congrArg (S37_0 _ _) ((enS_set true _ i (Up.mk_ x k)).trans (congrArg (enS true) (mid_set pre x _ _ hl))))).trans ?_
    refine (hf (pre ++ [Up.mk_ x k], k + 1 + 1 + 1 + 1) ⟨by simp [hl], by simp only; omega, by simp only; omega⟩).trans ?_
    show _ = some ([[D.int .i64 (k + (Up.n_ x + cntS Up.n_ (a.drop (i + 1))))]], [[D.sl true 4 (enS true (pre ++ (Up.mk_ x k :: markS Up.mk_ Up.n_ (a.drop (i + 1)) (k + Up.n_ x))))]])
    rw [he, List.append_assoc, List.singleton_append, Int.add_assoc]
theorem s37 : SoundAt Go.Proofs.Try.prog Hx 37 c37 := soundAt_of T36_sound mixed Go.Proofs.Try.func37 (by kernel_rfl) (by
  intro rows r h
  unfold c37 at h
  split at h
  · rename_i a k
    obtain ⟨hp, hr⟩ := Prod.mk.inj (Option.some.inj h)
    subst hr
    simp only [Bool.and_eq_true] at hp
    obtain ⟨hs0, hp⟩ := hp
    obtain ⟨xs0, rfl⟩ := isS_ex hs0
    simp only [deS_enS] at hp ⊢
    exact ⟨_, m37 xs0 k hp⟩
  · cases h)
def T37 : Table := (37, c37) :: T36
theorem T37_sound : Table.Sound Go.Proofs.Try.prog Hx T37 := Table.sound_cons s37 T36_sound
end Go.Ev
end
