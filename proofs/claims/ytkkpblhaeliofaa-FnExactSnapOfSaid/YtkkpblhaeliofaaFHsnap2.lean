/- Contracts of functions, each by its evaluation. -/
import Derived.Test.YtkkpblhaeliofaaEvMd
import Derived.Test.YtkkpblhaeliofaaProg
import Derived.KernelRfl
import Derived.Test.YtkkpblhaeliofaaFRunb
set_option linter.unusedVariables false
set_option linter.unusedSimpArgs false
set_option maxRecDepth 100000
noncomputable section
open List (getD length drop take set append replicate all isEmpty)
open Int (toNat ofNat)
open Go.IntKind (i64 wrap)
open Go.Proofs.Try (prog f10 f11 f12 f13 f14 f37 f39 f40 f41 f42 f6 f70 f71 f8 func10 func11 func12 func13 func14 func37 func39 func40 func41 func42 func6 func70 func71 func8)
namespace Go.Ev
open Go.RowKit Go.Md
end Go.Ev
namespace Go.Md
open Go Go.Ev
def Snap.wt (x : Snap) : Int := (x.Bytes.length : Int)
def Snap.small (x : Snap) : Bool := decide (x.Bytes.length ≤ 1048576)
def Snap.big (x : Snap) : Bool := decide (x.Bytes.length ≤ 9223372036854775807)
theorem Snap.wt_pos (x : Snap) : 0 ≤ Snap.wt x := by
  unfold Snap.wt
  omega
theorem Snap.small_of (x : Snap) (h : Snap.wt x ≤ 1048576) : Snap.small x = true := by
  unfold Snap.wt at h
  unfold Snap.small
  exact decide_eq_true (by omega)
def Vec.mk_ (x : Vec) (k : Int) : Vec := ⟨k, k + 1, k + 1 + 1, k + 1 + 1 + 1⟩
def Vec.n_ (x : Vec) : Int := 1 + 1 + 1 + 1
theorem Vec.n_pos (x : Vec) : 0 ≤ Vec.n_ x := by show (0 : Int) ≤ 1 + 1 + 1 + 1; decide
def In.mk_ (x : In) (k : Int) : In := ⟨k, k + 1, ⟨k + 1 + 1, k + 1 + 1 + 1, k + 1 + 1 + 1 + 1, k + 1 + 1 + 1 + 1 + 1⟩, k + 1 + 1 + 1 + 1 + 1 + 1, (k + 1 + 1 + 1 + 1 + 1 + 1 + 1).tmod 3 == 0⟩
def In.n_ (x : In) : Int := 1 + 1 + 1 + 1 + 1 + 1 + 1 + 1
theorem In.n_pos (x : In) : 0 ≤ In.n_ x := by show (0 : Int) ≤ 1 + 1 + 1 + 1 + 1 + 1 + 1 + 1; decide
def oneN {α : Type} (_ : α) : Int := 1
theorem oneN_pos {α : Type} (x : α) : 0 ≤ oneN x := by show (0 : Int) ≤ 1; omega
def byteMk (_ : UInt8) (k : Int) : UInt8 := (IntKind.wrap IntKind.u8 k).toNat.toUInt8
def Snap.mkTop (x : Snap) (k : Int) : Snap := ⟨x.N, markS byteMk oneN x.Bytes (k)⟩
def Snap.nTop (x : Snap) : Int := cntS oneN x.Bytes
theorem Snap.nTop_pos (x : Snap) : 0 ≤ Snap.nTop x := by
  have h0 := cntS_nonneg (n := oneN) oneN_pos x.Bytes
  unfold Snap.nTop
  omega
end Go.Md
namespace Go.Ev
open Go.Md
def o6 (a : List In) (left : Int) : Bool × List Row × List Row := (decide (0 ≤ left) && (decide (left ≤ 1048576) && decide (a.length ≤ 9223372036854775807)), [[.int .i64 (szR (a.length : Int) left)]], [])
def c6 : Contract
  | [[.sl false 8 a], [.int .i64 left]] => some (isS In false a && (o6 (deS In a) left).1, (o6 (deS In a) left).2.1, (o6 (deS In a) left).2.2)
  | _ => none

theorem r6 (a : List In) (left : Int) (n : Nat) : evFn ⟨prog, Hx, 6⟩ T7.call n f6 [[.sl false 8 (enS false a)], [.int .i64 left]] = bif decide (wrap i64 (left - ofNat (length (enS false a))) < 0) then some ([[D.int i64 (Int.negSucc 0)]], []) else some ([[D.int i64 (wrap i64 (left - ofNat (length (enS false a))))]], []) := by kernel_rfl
theorem m6 (a : List In) (left : Int) (hpre : (o6 a left).1 = true) : evFn ⟨Go.Proofs.Try.prog, Hx, 6⟩ T7.call 0 f6 [[.sl false 8 (enS false a)], [.int .i64 left]] = some (o6 a left).2 := by
  refine (r6 a left _).trans ?_
  show _ = (some ([[.int .i64 (szR (a.length : Int) left)]], []) : Option (List Row × List Row))
  replace hpre : (decide (0 ≤ left) && (decide (left ≤ 1048576) && decide (a.length ≤ 9223372036854775807))) = true := hpre
  simp only [Bool.and_eq_true, decide_eq_true_eq] at hpre
  obtain ⟨h0, h1, h2⟩ := hpre
  simp only [enS_length]
  have hw : IntKind.wrap IntKind.i64 (left - Int.ofNat a.length) = left - (a.length : Int) := wrap_of (by show _ ≤ left - (a.length : Int); omega) (by show left - (a.length : Int) ≤ _; omega)
  rw [hw]
  unfold szR
  by_cases h : (a.length : Int) ≤ left
  · rw [decide_eq_false (by omega), decide_eq_true h]; rfl
  · rw [decide_eq_true (by omega), decide_eq_false h]; rfl
theorem s6 : SoundAt Go.Proofs.Try.prog Hx 6 c6 := soundAt_of T7_sound mixed func6 (by kernel_rfl) (by
  intro rows r h
  unfold c6 at h
  split at h
  · rename_i a left
    obtain ⟨hp, hr⟩ := Prod.mk.inj (Option.some.inj h)
    subst hr
    simp only [Bool.and_eq_true] at hp
    obtain ⟨hs0, hp⟩ := hp
    obtain ⟨xs0, rfl⟩ := isS_ex hs0
    simp only [deS_enS] at hp ⊢
    exact ⟨_, m6 xs0 left hp⟩
  · cases h)
def T6 : Table := (6, c6) :: T7
theorem T6_sound : Table.Sound Go.Proofs.Try.prog Hx T6 := Table.sound_cons s6 T7_sound
def o70 (a : Vec) : Bool × List Row × List Row := (true, [[.int .i64 (a).Root, .int .i64 (a).Cost, .int .i64 (a).Bridge, .int .i64 (a).Port]], [])
def c70 : Contract
  | [[.int .i64 a_Root, .int .i64 a_Cost, .int .i64 a_Bridge, .int .i64 a_Port]] => some ((o70 ⟨a_Root, a_Cost, a_Bridge, a_Port⟩).1, (o70 ⟨a_Root, a_Cost, a_Bridge, a_Port⟩).2.1, (o70 ⟨a_Root, a_Cost, a_Bridge, a_Port⟩).2.2)
  | _ => none

theorem r70 (a : Vec) (n : Nat) : evFn ⟨prog, Hx, 70⟩ T6.call n f70 [[.int .i64 a.Root, .int .i64 a.Cost, .int .i64 a.Bridge, .int .i64 a.Port]] = some ([[D.int i64 (Vec.Root a), D.int i64 (Vec.Cost a), D.int i64 (Vec.Bridge a), D.int i64 (Vec.Port a)]], []) := by kernel_rfl
theorem m70 (a : Vec) (hpre : (o70 a).1 = true) : evFn ⟨Go.Proofs.Try.prog, Hx, 70⟩ T6.call 0 f70 [[.int .i64 a.Root, .int .i64 a.Cost, .int .i64 a.Bridge, .int .i64 a.Port]] = some (o70 a).2 := by
  refine (r70 a _).trans ?_
  show _ = (some ([[.int .i64 (a).Root, .int .i64 (a).Cost, .int .i64 (a).Bridge, .int .i64 (a).Port]], []) : Option (List Row × List Row))
  replace hpre : (true) = true := hpre
  rfl
theorem s70 : SoundAt Go.Proofs.Try.prog Hx 70 c70 := soundAt_of T6_sound mixed func70 (by kernel_rfl) (by
  intro rows r h
  unfold c70 at h
  split at h
  · rename_i a_Root a_Cost a_Bridge a_Port
    obtain ⟨hp, hr⟩ := Prod.mk.inj (Option.some.inj h)
    subst hr
    exact ⟨_, m70 ⟨a_Root, a_Cost, a_Bridge, a_Port⟩ hp⟩
  · cases h)
def T70 : Table := (70, c70) :: T6
theorem T70_sound : Table.Sound Go.Proofs.Try.prog Hx T70 := Table.sound_cons s70 T6_sound
def o37 (a : In) : Bool × List Row × List Row := (true, [[.int .i64 (a).Kind, .int .i64 (a).Port, .int .i64 (a).Vec.Root, .int .i64 (a).Vec.Cost, .int .i64 (a).Vec.Bridge, .int .i64 (a).Vec.Port, .int .i64 (a).Hops, .bool (a).Up]], [])
def c37 : Contract
  | [[.int .i64 a_Kind, .int .i64 a_Port, .int .i64 a_Vec_Root, .int .i64 a_Vec_Cost, .int .i64 a_Vec_Bridge, .int .i64 a_Vec_Port, .int .i64 a_Hops, .bool a_Up]] => some ((o37 ⟨a_Kind, a_Port, ⟨a_Vec_Root, a_Vec_Cost, a_Vec_Bridge, a_Vec_Port⟩, a_Hops, a_Up⟩).1, (o37 ⟨a_Kind, a_Port, ⟨a_Vec_Root, a_Vec_Cost, a_Vec_Bridge, a_Vec_Port⟩, a_Hops, a_Up⟩).2.1, (o37 ⟨a_Kind, a_Port, ⟨a_Vec_Root, a_Vec_Cost, a_Vec_Bridge, a_Vec_Port⟩, a_Hops, a_Up⟩).2.2)
  | _ => none

theorem r37 (a : In) (n : Nat) : evFn ⟨prog, Hx, 37⟩ T70.call n f37 [[.int .i64 a.Kind, .int .i64 a.Port, .int .i64 a.Vec.Root, .int .i64 a.Vec.Cost, .int .i64 a.Vec.Bridge, .int .i64 a.Vec.Port, .int .i64 a.Hops, .bool a.Up]] = some ([[D.int i64 (In.Kind a), D.int i64 (In.Port a), D.int i64 (Vec.Root (In.Vec a)), D.int i64 (Vec.Cost (In.Vec a)), D.int i64 (Vec.Bridge (In.Vec a)), D.int i64 (Vec.Port (In.Vec a)), D.int i64 (In.Hops a), D.bool (In.Up a)]], []) := by kernel_rfl
theorem m37 (a : In) (hpre : (o37 a).1 = true) : evFn ⟨Go.Proofs.Try.prog, Hx, 37⟩ T70.call 0 f37 [[.int .i64 a.Kind, .int .i64 a.Port, .int .i64 a.Vec.Root, .int .i64 a.Vec.Cost, .int .i64 a.Vec.Bridge, .int .i64 a.Vec.Port, .int .i64 a.Hops, .bool a.Up]] = some (o37 a).2 := by
  refine (r37 a _).trans ?_
  show _ = (some ([[.int .i64 (a).Kind, .int .i64 (a).Port, .int .i64 (a).Vec.Root, .int .i64 (a).Vec.Cost, .int .i64 (a).Vec.Bridge, .int .i64 (a).Vec.Port, .int .i64 (a).Hops, .bool (a).Up]], []) : Option (List Row × List Row))
  replace hpre : (true) = true := hpre
  rfl
theorem s37 : SoundAt Go.Proofs.Try.prog Hx 37 c37 := soundAt_of T70_sound mixed func37 (by kernel_rfl) (by
  intro rows r h
  unfold c37 at h
  split at h
  · rename_i a_Kind a_Port a_Vec_Root a_Vec_Cost a_Vec_Bridge a_Vec_Port a_Hops a_Up
    obtain ⟨hp, hr⟩ := Prod.mk.inj (Option.some.inj h)
    subst hr
    exact ⟨_, m37 ⟨a_Kind, a_Port, ⟨a_Vec_Root, a_Vec_Cost, a_Vec_Bridge, a_Vec_Port⟩, a_Hops, a_Up⟩ hp⟩
  · cases h)
def T37 : Table := (37, c37) :: T70
theorem T37_sound : Table.Sound Go.Proofs.Try.prog Hx T37 := Table.sound_cons s37 T70_sound
def o8 (a : List In) : Bool × List Row × List Row := (decide (a.length ≤ 1048576), [[.sl true 8 (enS true (a))]], [])
def c8 : Contract
  | [[.sl false 8 a]] => some (isS In false a && (o8 (deS In a)).1, (o8 (deS In a)).2.1, (o8 (deS In a)).2.2)
  | _ => none

def k8_0 (n : Nat) : Ex → St → RR := kThen (fun st ↦ runCode (Ctx.mk prog Hx (8)) (Table.call T37) n (codeAt [1, 1, 1] (bodyOf f8)) (Lv.mk 4 [] 4) st (kLeave (Ctx.P (Ctx.mk prog Hx (8))) (List.zip (Array.toList (Go.Func.resultTypes f8)) (Array.toList (Go.Func.results f8))) [] [])) (kLeave (Ctx.P (Ctx.mk prog Hx (8))) (List.zip (Array.toList (Go.Func.resultTypes f8)) (Array.toList (Go.Func.results f8))) [] [])
def k8_1 (n : Nat) : Ex → St → RR := kBlock (0) (k8_0 n)
def S8_0 (a : List In) (i0 : Int) (es1 : List (List D)) : St := St.mk [V_ [C.d (D.sl false 8 (enS false a))], U_, U_, V_ [C.view 0 0 0 [] 8 none], I_ i0, U_, U_, U_, U_, U_, U_, U_, U_, U_, U_, U_, U_, U_, U_, U_, U_, U_, U_] [Root.mk false 8 es1 0 0 true true false]
def B8_0 (n : Nat) : St → (Ex → St → RR) → RR := runCode (Ctx.mk prog Hx (8)) (Table.call T37) n (codeAt [1, 1, 0, 1, 0, 0] (bodyOf f8)) (Lv.mk 25 [(0, 8)] 4)
def X8_2 (a : List In) (i0 : Int) (es1 : List (List D)) : St := St.mk [V_ [C.d (D.sl false 8 (enS false a))], U_, U_, V_ [C.view 0 0 0 [] 8 none], I_ i0, U_, U_, U_, I_ i0, V_ [C.d (D.sl false 8 (enS false a))], I_ (ofNat (length (enS false a))), B_ false, U_, U_, U_, U_, U_, U_, U_, U_, U_, U_, U_] [Root.mk false 8 es1 0 0 true true false]
theorem q8_0 (a : List In) (n : Nat) (i0 : Int) (es1 : List (List D)) (f : St → RR) (K : Ex → St → RR) : B8_0 n (S8_0 a i0 es1) (kThen (fun st ↦ f (St.head 1 25 4194064 st)) K) = bif decide (i0 < ofNat (length (enS false a))) then bif decide (0 ≤ i0) && decide (i0 < ofNat (length (enS false a))) then bif Leaf.fit false (Leaf.int i64) (getD (getD (enS false a) (toNat i0) []) 0 D.dead) && (Leaf.fit false (Leaf.int i64) (getD (getD (enS false a) (toNat i0) []) 1 D.dead) && (Leaf.fit false (Leaf.int i64) (getD (getD (enS false a) (toNat i0) []) 2 D.dead) && (Leaf.fit false (Leaf.int i64) (getD (getD (enS false a) (toNat i0) []) 3 D.dead) && (Leaf.fit false (Leaf.int i64) (getD (getD (enS false a) (toNat i0) []) 4 D.dead) && (Leaf.fit false (Leaf.int i64) (getD (getD (enS false a) (toNat i0) []) 5 D.dead) && (Leaf.fit false (Leaf.int i64) (getD (getD (enS false a) (toNat i0) []) 6 D.dead) && (Leaf.fit false Leaf.bool (getD (getD (enS false a) (toNat i0) []) 7 D.dead) && true))))))) then bif decide (0 ≤ i0) && decide (i0 < ofNat (length es1)) then f (S8_0 a (wrap i64 (i0 + 1)) (set es1 (0 + toNat i0) [D.int i64 (D.num (getD (getD (enS false a) (toNat i0) []) 0 D.dead)), D.int i64 (D.num (getD (getD (enS false a) (toNat i0) []) 1 D.dead)), D.int i64 (D.num (getD (getD (enS false a) (toNat i0) []) 2 D.dead)), D.int i64 (D.num (getD (getD (enS false a) (toNat i0) []) 3 D.dead)), D.int i64 (D.num (getD (getD (enS false a) (toNat i0) []) 4 D.dead)), D.int i64 (D.num (getD (getD (enS false a) (toNat i0) []) 5 D.dead)), D.int i64 (D.num (getD (getD (enS false a) (toNat i0) []) 6 D.dead)), D.bool (D.flag (getD (getD (enS false a) (toNat i0) []) 7 D.dead))])) else none else none else none else K (Ex.exit 0) (X8_2 a i0 es1) := by kernel_rfl
theorem aX8_2 (a : List In) (n : Nat) (i0 : Int) (es1 : List (List D)) : k8_1 n (Ex.exit 0) (X8_2 a i0 es1) = some ([[D.sl true 8 es1]], []) := by kernel_rfl
theorem r8 (a : List In) (n : Nat) : evFn ⟨prog, Hx, 8⟩ T37.call n f8 [[.sl false 8 (enS false a)]] = bif decide (0 ≤ ofNat (length (enS false a))) && (decide (ofNat (length (enS false a)) ≤ ofNat (length (enS false a))) && decide (toNat (ofNat (length (enS false a))) * 64 ≤ 140737488355328)) then loopRun (B8_0 n) 1 25 4194064 n (S8_0 a (0) (replicate (toNat (ofNat (length (enS false a)))) [D.int i64 (0), D.int i64 (0), D.int i64 (0), D.int i64 (0), D.int i64 (0), D.int i64 (0), D.int i64 (0), D.bool false])) (k8_1 n) else none := by kernel_rfl
theorem m8 (a : List In) (hpre : (o8 a).1 = true) : evFn ⟨Go.Proofs.Try.prog, Hx, 8⟩ T37.call (a.length + 1) f8 [[.sl false 8 (enS false a)]] = some (o8 a).2 := by
  refine (r8 a _).trans ?_
  show _ = (some ([[.sl true 8 (enS true (a))]], []) : Option (List Row × List Row))
  replace hpre : (decide (a.length ≤ 1048576)) = true := hpre
  have hlen : a.length ≤ 1048576 := of_decide_eq_true hpre
  rw [enS_length, make_ok (by omega), cond_true, toNat_of]
  refine (congrArg (fun z => loopRun _ _ _ _ _ (S8_0 a 0 z) _) (enS_rep true a.length (En.nil : In))).trans ?_
  refine loop_list (xs := a) (fun i (ys : List In) => S8_0 a (Int.ofNat i) (enS true ys)) (fun i ys => ys.length = a.length ∧ ys.take i = a.take i) (fun _ _ _ => some ([[D.sl true 8 (enS true a)]], [])) ?_ ?_ (a.length + 1) _ (by omega) ⟨List.length_replicate .., rfl⟩
  · rintro ys ⟨h2, h3⟩ f
    refine (q8_0 a _ _ _ f _).trans ?_
    simp only [enS_length, dec_lt, Nat.lt_irrefl, decide_false, cond_false]
    refine (aX8_2 a _ _ _).trans ?_
    rw [List.take_length, ← h2, List.take_length] at h3
    subst h3
    rfl
  · rintro i ys hi ⟨h2, h3⟩ f hf
    refine (q8_0 a _ _ _ f _).trans ?_
    simp only [enS_length, toNat_of, dec_lt, dec_ge, enS_get _ hi, h2, hi, wrap_succ (show i < 4611686018427387904 by omega), Nat.zero_add, decide_true, cond_true, Bool.and_self]
    exact (congrArg f (congrArg (S8_0 a _) (enS_set true ys i a[i]))).trans (hf (ys.set i a[i]) ⟨by rw [List.length_set]; exact h2, take_set_succ hi h2 h3⟩)
theorem s8 : SoundAt Go.Proofs.Try.prog Hx 8 c8 := soundAt_of T37_sound mixed func8 (by kernel_rfl) (by
  intro rows r h
  unfold c8 at h
  split at h
  · rename_i a
    obtain ⟨hp, hr⟩ := Prod.mk.inj (Option.some.inj h)
    subst hr
    simp only [Bool.and_eq_true] at hp
    obtain ⟨hs0, hp⟩ := hp
    obtain ⟨xs0, rfl⟩ := isS_ex hs0
    simp only [deS_enS] at hp ⊢
    exact ⟨_, m8 xs0 hp⟩
  · cases h)
def T8 : Table := (8, c8) :: T37
theorem T8_sound : Table.Sound Go.Proofs.Try.prog Hx T8 := Table.sound_cons s8 T37_sound
def o39 (a : List UInt8) (b : List UInt8) : Bool × List Row × List Row := (sameB a b && (decide (a.length ≤ 1048576)), [[.bool (true)]], [])
def c39 : Contract
  | [[.sl false 1 a], [.sl false 1 b]] => some (isS UInt8 false a && isS UInt8 false b && (o39 (deS UInt8 a) (deS UInt8 b)).1, (o39 (deS UInt8 a) (deS UInt8 b)).2.1, (o39 (deS UInt8 a) (deS UInt8 b)).2.2)
  | _ => none

def k39_0 (n : Nat) : Ex → St → RR := kThen (fun st ↦ runCode (Ctx.mk prog Hx (39)) (Table.call T8) n (codeAt [1, 1, 1] (bodyOf f39)) (Lv.mk 16 [] 16) st (kLeave (Ctx.P (Ctx.mk prog Hx (39))) (List.zip (Array.toList (Go.Func.resultTypes f39)) (Array.toList (Go.Func.results f39))) [] [])) (kLeave (Ctx.P (Ctx.mk prog Hx (39))) (List.zip (Array.toList (Go.Func.resultTypes f39)) (Array.toList (Go.Func.results f39))) [] [])
def k39_1 (n : Nat) : Ex → St → RR := kBlock (0) (k39_0 n)
def S39_0 (a : List UInt8) (b : List UInt8) (i0 : Int) : St := St.mk [V_ [C.d (D.sl false 1 (enS false a))], V_ [C.d (D.sl false 1 (enS false b))], U_, U_, U_, I_ i0, U_, U_, U_, U_, U_, U_, U_, U_, U_, U_, U_, U_, U_, U_, U_, U_, U_, U_, U_, U_] []
def B39_0 (n : Nat) : St → (Ex → St → RR) → RR := runCode (Ctx.mk prog Hx (39)) (Table.call T8) n (codeAt [1, 1, 0, 1, 0, 0] (bodyOf f39)) (Lv.mk 35 [(0, 0)] 16)
def X39_2 (a : List UInt8) (b : List UInt8) (i0 : Int) : St := St.mk [V_ [C.d (D.sl false 1 (enS false a))], V_ [C.d (D.sl false 1 (enS false b))], U_, U_, B_ false, I_ i0, U_, U_, U_, U_, U_, I_ i0, V_ [C.d (D.sl false 1 (enS false a))], I_ (ofNat (length (enS false a))), B_ true, U_, U_, V_ [C.d (D.sl false 1 (enS false a))], I_ i0, V_ [C.rptr (getD (enS false a) (toNat i0) [])], V_ [C.d (D.int IntKind.u8 (D.num (getD (getD (enS false a) (toNat i0) []) 0 D.dead)))], V_ [C.d (D.sl false 1 (enS false b))], I_ i0, V_ [C.rptr (getD (enS false b) (toNat i0) [])], V_ [C.d (D.int IntKind.u8 (D.num (getD (getD (enS false b) (toNat i0) []) 0 D.dead)))], B_ true] []
def X39_3 (a : List UInt8) (b : List UInt8) (i0 : Int) : St := St.mk [V_ [C.d (D.sl false 1 (enS false a))], V_ [C.d (D.sl false 1 (enS false b))], U_, U_, U_, I_ i0, U_, U_, U_, U_, U_, I_ i0, V_ [C.d (D.sl false 1 (enS false a))], I_ (ofNat (length (enS false a))), B_ false, U_, U_, U_, U_, U_, U_, U_, U_, U_, U_, U_] []
theorem q39_0 (a : List UInt8) (b : List UInt8) (n : Nat) (i0 : Int) (f : St → RR) (K : Ex → St → RR) : B39_0 n (S39_0 a b i0) (kThen (fun st ↦ f (St.head 0 35 67106864 st)) K) = bif decide (i0 < ofNat (length (enS false a))) then bif decide (0 ≤ i0) && decide (i0 < ofNat (length (enS false a))) then bif Leaf.fit false (Leaf.int IntKind.u8) (getD (getD (enS false a) (toNat i0) []) 0 D.dead) && true then bif decide (0 ≤ i0) && decide (i0 < ofNat (length (enS false b))) then bif Leaf.fit false (Leaf.int IntKind.u8) (getD (getD (enS false b) (toNat i0) []) 0 D.dead) && true then bif D.num (getD (getD (enS false a) (toNat i0) []) 0 D.dead) != D.num (getD (getD (enS false b) (toNat i0) []) 0 D.dead) then K Ex.ret (X39_2 a b i0) else f (S39_0 a b (wrap i64 (i0 + 1))) else none else none else none else none else K (Ex.exit 0) (X39_3 a b i0) := by kernel_rfl
theorem aX39_2 (a : List UInt8) (b : List UInt8) (n : Nat) (i0 : Int) : k39_1 n Ex.ret (X39_2 a b i0) = some ([[D.bool false]], []) := by kernel_rfl
theorem aX39_3 (a : List UInt8) (b : List UInt8) (n : Nat) (i0 : Int) : k39_1 n (Ex.exit 0) (X39_3 a b i0) = some ([[D.bool true]], []) := by kernel_rfl
theorem r39 (a : List UInt8) (b : List UInt8) (n : Nat) : evFn ⟨prog, Hx, 39⟩ T8.call n f39 [[.sl false 1 (enS false a)], [.sl false 1 (enS false b)]] = bif ofNat (length (enS false a)) != ofNat (length (enS false b)) then some ([[D.bool false]], []) else loopRun (B39_0 n) 0 35 67106864 n (S39_0 a b (0)) (k39_1 n) := by kernel_rfl
theorem m39 (a : List UInt8) (b : List UInt8) (hpre : (o39 a b).1 = true) : evFn ⟨Go.Proofs.Try.prog, Hx, 39⟩ T8.call (a.length + 1) f39 [[.sl false 1 (enS false a)], [.sl false 1 (enS false b)]] = some (o39 a b).2 := by
  refine (r39 a b _).trans ?_
  show _ = (some ([[.bool (true)]], []) : Option (List Row × List Row))
  replace hpre : (sameB a b && (decide (a.length ≤ 1048576))) = true := hpre
  rw [Bool.and_eq_true] at hpre
  obtain ⟨h0, h1⟩ := hpre
  have hlen : a.length ≤ 1048576 := of_decide_eq_true h1
  have := sameB_eq h0
  subst this
  simp only [bne_self_eq_false, cond_false]
  refine loop_list (xs := a) (fun i (_ : Unit) => S39_0 a a (Int.ofNat i)) (fun _ _ => True) (fun _ _ _ => some ([[D.bool true]], [])) ?_ ?_ (a.length + 1) () (by omega) trivial
  · rintro _ _ f
    refine (q39_0 a a _ _ f _).trans ?_
    simp only [enS_length, dec_lt, Nat.lt_irrefl, decide_false, cond_false]
    exact aX39_3 a a _ _
  · rintro i _ hi _ f hf
    refine (q39_0 a a _ _ f _).trans ?_
    simp only [enS_length, toNat_of, dec_lt, dec_ge, enS_get _ hi, hi, wrap_succ (show i < 4611686018427387904 by omega), decide_true, cond_true, Bool.and_self, sameB_self, bne_self_eq_false, cond_false]
    exact hf () trivial
theorem s39 : SoundAt Go.Proofs.Try.prog Hx 39 c39 := soundAt_of T8_sound mixed func39 (by kernel_rfl) (by
  intro rows r h
  unfold c39 at h
  split at h
  · rename_i a b
    obtain ⟨hp, hr⟩ := Prod.mk.inj (Option.some.inj h)
    subst hr
    simp only [Bool.and_eq_true] at hp
    obtain ⟨⟨hs0, hs1⟩, hp⟩ := hp
    obtain ⟨xs0, rfl⟩ := isS_ex hs0
    obtain ⟨xs1, rfl⟩ := isS_ex hs1
    simp only [deS_enS] at hp ⊢
    exact ⟨_, m39 xs0 xs1 hp⟩
  · cases h)
def T39 : Table := (39, c39) :: T8
theorem T39_sound : Table.Sound Go.Proofs.Try.prog Hx T39 := Table.sound_cons s39 T8_sound
def o10 (a : Snap) (b : Snap) : Bool × List Row × List Row := (sameB a b && (Snap.small a), [[.bool (true)]], [])
def c10 : Contract
  | [[.int .i64 a_N, .sl false 1 a_Bytes], [.int .i64 b_N, .sl false 1 b_Bytes]] => some (isS UInt8 false a_Bytes && isS UInt8 false b_Bytes && (o10 ⟨a_N, (deS UInt8 a_Bytes)⟩ ⟨b_N, (deS UInt8 b_Bytes)⟩).1, (o10 ⟨a_N, (deS UInt8 a_Bytes)⟩ ⟨b_N, (deS UInt8 b_Bytes)⟩).2.1, (o10 ⟨a_N, (deS UInt8 a_Bytes)⟩ ⟨b_N, (deS UInt8 b_Bytes)⟩).2.2)
  | _ => none

theorem r10 (a : Snap) (b : Snap) (n : Nat) : evFn ⟨prog, Hx, 10⟩ T39.call n f10 [[.int .i64 a.N, .sl false 1 (enS false a.Bytes)], [.int .i64 b.N, .sl false 1 (enS false b.Bytes)]] = bif Snap.N a != Snap.N b then some ([[D.bool false]], []) else bif isS UInt8 false (enS false (Snap.Bytes a)) && isS UInt8 false (enS false (Snap.Bytes b)) && (sameB (deS UInt8 (enS false (Snap.Bytes a))) (deS UInt8 (enS false (Snap.Bytes b))) && decide (length (deS UInt8 (enS false (Snap.Bytes a))) ≤ 1048576)) then some ([[D.bool true]], []) else none := by kernel_rfl
theorem m10 (a : Snap) (b : Snap) (hpre : (o10 a b).1 = true) : evFn ⟨Go.Proofs.Try.prog, Hx, 10⟩ T39.call 0 f10 [[.int .i64 a.N, .sl false 1 (enS false a.Bytes)], [.int .i64 b.N, .sl false 1 (enS false b.Bytes)]] = some (o10 a b).2 := by
  refine (r10 a b _).trans ?_
  show _ = (some ([[.bool (true)]], []) : Option (List Row × List Row))
  replace hpre : (sameB a b && (Snap.small a)) = true := hpre
  rw [Bool.and_eq_true] at hpre
  obtain ⟨h0, h1⟩ := hpre
  have := sameB_eq h0
  subst this
  unfold Snap.small at h1
  try simp only [Bool.and_eq_true] at h1
  simp only [h1, bne_self_eq_false, cond_false, cond_true, sameB_self, isS_enS, deS_enS, Bool.and_self, Bool.and_true, Bool.true_and, Bool.not_true]
  try rfl
theorem s10 : SoundAt Go.Proofs.Try.prog Hx 10 c10 := soundAt_of T39_sound mixed func10 (by kernel_rfl) (by
  intro rows r h
  unfold c10 at h
  split at h
  · rename_i a_N a_Bytes b_N b_Bytes
    obtain ⟨hp, hr⟩ := Prod.mk.inj (Option.some.inj h)
    subst hr
    simp only [Bool.and_eq_true] at hp
    obtain ⟨⟨hs0, hs1⟩, hp⟩ := hp
    obtain ⟨xs0, rfl⟩ := isS_ex hs0
    obtain ⟨xs1, rfl⟩ := isS_ex hs1
    simp only [deS_enS] at hp ⊢
    exact ⟨_, m10 ⟨a_N, xs0⟩ ⟨b_N, xs1⟩ hp⟩
  · cases h)
def T10 : Table := (10, c10) :: T39
theorem T10_sound : Table.Sound Go.Proofs.Try.prog Hx T10 := Table.sound_cons s10 T39_sound
def o71 (a : Vec) (b : Vec) : Bool × List Row × List Row := (sameB a b, [[.bool (true)]], [])
def c71 : Contract
  | [[.int .i64 a_Root, .int .i64 a_Cost, .int .i64 a_Bridge, .int .i64 a_Port], [.int .i64 b_Root, .int .i64 b_Cost, .int .i64 b_Bridge, .int .i64 b_Port]] => some ((o71 ⟨a_Root, a_Cost, a_Bridge, a_Port⟩ ⟨b_Root, b_Cost, b_Bridge, b_Port⟩).1, (o71 ⟨a_Root, a_Cost, a_Bridge, a_Port⟩ ⟨b_Root, b_Cost, b_Bridge, b_Port⟩).2.1, (o71 ⟨a_Root, a_Cost, a_Bridge, a_Port⟩ ⟨b_Root, b_Cost, b_Bridge, b_Port⟩).2.2)
  | _ => none

theorem r71 (a : Vec) (b : Vec) (n : Nat) : evFn ⟨prog, Hx, 71⟩ T10.call n f71 [[.int .i64 a.Root, .int .i64 a.Cost, .int .i64 a.Bridge, .int .i64 a.Port], [.int .i64 b.Root, .int .i64 b.Cost, .int .i64 b.Bridge, .int .i64 b.Port]] = bif Vec.Root a != Vec.Root b then some ([[D.bool false]], []) else bif Vec.Cost a != Vec.Cost b then some ([[D.bool false]], []) else bif Vec.Bridge a != Vec.Bridge b then some ([[D.bool false]], []) else bif Vec.Port a != Vec.Port b then some ([[D.bool false]], []) else some ([[D.bool true]], []) := by kernel_rfl
theorem m71 (a : Vec) (b : Vec) (hpre : (o71 a b).1 = true) : evFn ⟨Go.Proofs.Try.prog, Hx, 71⟩ T10.call 0 f71 [[.int .i64 a.Root, .int .i64 a.Cost, .int .i64 a.Bridge, .int .i64 a.Port], [.int .i64 b.Root, .int .i64 b.Cost, .int .i64 b.Bridge, .int .i64 b.Port]] = some (o71 a b).2 := by
  refine (r71 a b _).trans ?_
  show _ = (some ([[.bool (true)]], []) : Option (List Row × List Row))
  replace hpre : (sameB a b) = true := hpre
  have := sameB_eq hpre
  subst this
  simp only [bne_self_eq_false, cond_false, sameB_self, cond_true, Bool.not_true]
theorem s71 : SoundAt Go.Proofs.Try.prog Hx 71 c71 := soundAt_of T10_sound mixed func71 (by kernel_rfl) (by
  intro rows r h
  unfold c71 at h
  split at h
  · rename_i a_Root a_Cost a_Bridge a_Port b_Root b_Cost b_Bridge b_Port
    obtain ⟨hp, hr⟩ := Prod.mk.inj (Option.some.inj h)
    subst hr
    exact ⟨_, m71 ⟨a_Root, a_Cost, a_Bridge, a_Port⟩ ⟨b_Root, b_Cost, b_Bridge, b_Port⟩ hp⟩
  · cases h)
def T71 : Table := (71, c71) :: T10
theorem T71_sound : Table.Sound Go.Proofs.Try.prog Hx T71 := Table.sound_cons s71 T10_sound
def o40 (a : In) (b : In) : Bool × List Row × List Row := (sameB a b, [[.bool (true)]], [])
def c40 : Contract
  | [[.int .i64 a_Kind, .int .i64 a_Port, .int .i64 a_Vec_Root, .int .i64 a_Vec_Cost, .int .i64 a_Vec_Bridge, .int .i64 a_Vec_Port, .int .i64 a_Hops, .bool a_Up], [.int .i64 b_Kind, .int .i64 b_Port, .int .i64 b_Vec_Root, .int .i64 b_Vec_Cost, .int .i64 b_Vec_Bridge, .int .i64 b_Vec_Port, .int .i64 b_Hops, .bool b_Up]] => some ((o40 ⟨a_Kind, a_Port, ⟨a_Vec_Root, a_Vec_Cost, a_Vec_Bridge, a_Vec_Port⟩, a_Hops, a_Up⟩ ⟨b_Kind, b_Port, ⟨b_Vec_Root, b_Vec_Cost, b_Vec_Bridge, b_Vec_Port⟩, b_Hops, b_Up⟩).1, (o40 ⟨a_Kind, a_Port, ⟨a_Vec_Root, a_Vec_Cost, a_Vec_Bridge, a_Vec_Port⟩, a_Hops, a_Up⟩ ⟨b_Kind, b_Port, ⟨b_Vec_Root, b_Vec_Cost, b_Vec_Bridge, b_Vec_Port⟩, b_Hops, b_Up⟩).2.1, (o40 ⟨a_Kind, a_Port, ⟨a_Vec_Root, a_Vec_Cost, a_Vec_Bridge, a_Vec_Port⟩, a_Hops, a_Up⟩ ⟨b_Kind, b_Port, ⟨b_Vec_Root, b_Vec_Cost, b_Vec_Bridge, b_Vec_Port⟩, b_Hops, b_Up⟩).2.2)
  | _ => none

theorem r40 (a : In) (b : In) (n : Nat) : evFn ⟨prog, Hx, 40⟩ T71.call n f40 [[.int .i64 a.Kind, .int .i64 a.Port, .int .i64 a.Vec.Root, .int .i64 a.Vec.Cost, .int .i64 a.Vec.Bridge, .int .i64 a.Vec.Port, .int .i64 a.Hops, .bool a.Up], [.int .i64 b.Kind, .int .i64 b.Port, .int .i64 b.Vec.Root, .int .i64 b.Vec.Cost, .int .i64 b.Vec.Bridge, .int .i64 b.Vec.Port, .int .i64 b.Hops, .bool b.Up]] = bif In.Kind a != In.Kind b then some ([[D.bool false]], []) else bif In.Port a != In.Port b then some ([[D.bool false]], []) else bif sameB (In.Vec a) (In.Vec b) then bif In.Hops a != In.Hops b then some ([[D.bool false]], []) else bif In.Up a != In.Up b then some ([[D.bool false]], []) else some ([[D.bool true]], []) else none := by kernel_rfl
theorem m40 (a : In) (b : In) (hpre : (o40 a b).1 = true) : evFn ⟨Go.Proofs.Try.prog, Hx, 40⟩ T71.call 0 f40 [[.int .i64 a.Kind, .int .i64 a.Port, .int .i64 a.Vec.Root, .int .i64 a.Vec.Cost, .int .i64 a.Vec.Bridge, .int .i64 a.Vec.Port, .int .i64 a.Hops, .bool a.Up], [.int .i64 b.Kind, .int .i64 b.Port, .int .i64 b.Vec.Root, .int .i64 b.Vec.Cost, .int .i64 b.Vec.Bridge, .int .i64 b.Vec.Port, .int .i64 b.Hops, .bool b.Up]] = some (o40 a b).2 := by
  refine (r40 a b _).trans ?_
  show _ = (some ([[.bool (true)]], []) : Option (List Row × List Row))
  replace hpre : (sameB a b) = true := hpre
  have := sameB_eq hpre
  subst this
  simp only [bne_self_eq_false, cond_false, sameB_self, cond_true, Bool.not_true]
theorem s40 : SoundAt Go.Proofs.Try.prog Hx 40 c40 := soundAt_of T71_sound mixed func40 (by kernel_rfl) (by
  intro rows r h
  unfold c40 at h
  split at h
  · rename_i a_Kind a_Port a_Vec_Root a_Vec_Cost a_Vec_Bridge a_Vec_Port a_Hops a_Up b_Kind b_Port b_Vec_Root b_Vec_Cost b_Vec_Bridge b_Vec_Port b_Hops b_Up
    obtain ⟨hp, hr⟩ := Prod.mk.inj (Option.some.inj h)
    subst hr
    exact ⟨_, m40 ⟨a_Kind, a_Port, ⟨a_Vec_Root, a_Vec_Cost, a_Vec_Bridge, a_Vec_Port⟩, a_Hops, a_Up⟩ ⟨b_Kind, b_Port, ⟨b_Vec_Root, b_Vec_Cost, b_Vec_Bridge, b_Vec_Port⟩, b_Hops, b_Up⟩ hp⟩
  · cases h)
def T40 : Table := (40, c40) :: T71
theorem T40_sound : Table.Sound Go.Proofs.Try.prog Hx T40 := Table.sound_cons s40 T71_sound
def o11 (a : List In) (b : List In) : Bool × List Row × List Row := (sameB a b && (decide (a.length ≤ 1048576)), [[.bool (true)]], [])
def c11 : Contract
  | [[.sl false 8 a], [.sl false 8 b]] => some (isS In false a && isS In false b && (o11 (deS In a) (deS In b)).1, (o11 (deS In a) (deS In b)).2.1, (o11 (deS In a) (deS In b)).2.2)
  | _ => none

def k11_0 (n : Nat) : Ex → St → RR := kThen (fun st ↦ runCode (Ctx.mk prog Hx (11)) (Table.call T40) n (codeAt [1, 1, 1] (bodyOf f11)) (Lv.mk 16 [] 16) st (kLeave (Ctx.P (Ctx.mk prog Hx (11))) (List.zip (Array.toList (Go.Func.resultTypes f11)) (Array.toList (Go.Func.results f11))) [] [])) (kLeave (Ctx.P (Ctx.mk prog Hx (11))) (List.zip (Array.toList (Go.Func.resultTypes f11)) (Array.toList (Go.Func.results f11))) [] [])
def k11_1 (n : Nat) : Ex → St → RR := kBlock (0) (k11_0 n)
def S11_0 (a : List In) (b : List In) (i0 : Int) : St := St.mk [V_ [C.d (D.sl false 8 (enS false a))], V_ [C.d (D.sl false 8 (enS false b))], U_, U_, U_, I_ i0, U_, U_, U_, U_, U_, U_, U_, U_, U_, U_, U_, U_, U_, U_, U_, U_, U_, U_, U_, U_, U_] []
def B11_0 (n : Nat) : St → (Ex → St → RR) → RR := runCode (Ctx.mk prog Hx (11)) (Table.call T40) n (codeAt [1, 1, 0, 1, 0, 0] (bodyOf f11)) (Lv.mk 35 [(0, 0)] 16)
def X11_2 (a : List In) (b : List In) (i0 : Int) : St := St.mk [V_ [C.d (D.sl false 8 (enS false a))], V_ [C.d (D.sl false 8 (enS false b))], U_, U_, U_, I_ i0, U_, U_, U_, U_, U_, I_ i0, V_ [C.d (D.sl false 8 (enS false a))], I_ (ofNat (length (enS false a))), B_ false, U_, U_, U_, U_, U_, U_, U_, U_, U_, U_, U_, U_] []
theorem q11_0 (a : List In) (b : List In) (n : Nat) (i0 : Int) (f : St → RR) (K : Ex → St → RR) : B11_0 n (S11_0 a b i0) (kThen (fun st ↦ f (St.head 0 35 134215728 st)) K) = bif decide (i0 < ofNat (length (enS false a))) then bif decide (0 ≤ i0) && decide (i0 < ofNat (length (enS false a))) then bif Leaf.fit false (Leaf.int i64) (getD (getD (enS false a) (toNat i0) []) 0 D.dead) && (Leaf.fit false (Leaf.int i64) (getD (getD (enS false a) (toNat i0) []) 1 D.dead) && (Leaf.fit false (Leaf.int i64) (getD (getD (enS false a) (toNat i0) []) 2 D.dead) && (Leaf.fit false (Leaf.int i64) (getD (getD (enS false a) (toNat i0) []) 3 D.dead) && (Leaf.fit false (Leaf.int i64) (getD (getD (enS false a) (toNat i0) []) 4 D.dead) && (Leaf.fit false (Leaf.int i64) (getD (getD (enS false a) (toNat i0) []) 5 D.dead) && (Leaf.fit false (Leaf.int i64) (getD (getD (enS false a) (toNat i0) []) 6 D.dead) && (Leaf.fit false Leaf.bool (getD (getD (enS false a) (toNat i0) []) 7 D.dead) && true))))))) then bif decide (0 ≤ i0) && decide (i0 < ofNat (length (enS false b))) then bif Leaf.fit false (Leaf.int i64) (getD (getD (enS false b) (toNat i0) []) 0 D.dead) && (Leaf.fit false (Leaf.int i64) (getD (getD (enS false b) (toNat i0) []) 1 D.dead) && (Leaf.fit false (Leaf.int i64) (getD (getD (enS false b) (toNat i0) []) 2 D.dead) && (Leaf.fit false (Leaf.int i64) (getD (getD (enS false b) (toNat i0) []) 3 D.dead) && (Leaf.fit false (Leaf.int i64) (getD (getD (enS false b) (toNat i0) []) 4 D.dead) && (Leaf.fit false (Leaf.int i64) (getD (getD (enS false b) (toNat i0) []) 5 D.dead) && (Leaf.fit false (Leaf.int i64) (getD (getD (enS false b) (toNat i0) []) 6 D.dead) && (Leaf.fit false Leaf.bool (getD (getD (enS false b) (toNat i0) []) 7 D.dead) && true))))))) then bif sameB (In.mk (D.num (getD (getD (enS false a) (toNat i0) []) 0 D.dead)) (D.num (getD (getD (enS false a) (toNat i0) []) 1 D.dead)) (Vec.mk (D.num (getD (getD (enS false a) (toNat i0) []) 2 D.dead)) (D.num (getD (getD (enS false a) (toNat i0) []) 3 D.dead)) (D.num (getD (getD (enS false a) (toNat i0) []) 4 D.dead)) (D.num (getD (getD (enS false a) (toNat i0) []) 5 D.dead))) (D.num (getD (getD (enS false a) (toNat i0) []) 6 D.dead)) (D.flag (getD (getD (enS false a) (toNat i0) []) 7 D.dead))) (In.mk (D.num (getD (getD (enS false b) (toNat i0) []) 0 D.dead)) (D.num (getD (getD (enS false b) (toNat i0) []) 1 D.dead)) (Vec.mk (D.num (getD (getD (enS false b) (toNat i0) []) 2 D.dead)) (D.num (getD (getD (enS false b) (toNat i0) []) 3 D.dead)) (D.num (getD (getD (enS false b) (toNat i0) []) 4 D.dead)) (D.num (getD (getD (enS false b) (toNat i0) []) 5 D.dead))) (D.num (getD (getD (enS false b) (toNat i0) []) 6 D.dead)) (D.flag (getD (getD (enS false b) (toNat i0) []) 7 D.dead))) then f (S11_0 a b (wrap i64 (i0 + 1))) else none else none else none else none else none else K (Ex.exit 0) (X11_2 a b i0) := by kernel_rfl
theorem aX11_2 (a : List In) (b : List In) (n : Nat) (i0 : Int) : k11_1 n (Ex.exit 0) (X11_2 a b i0) = some ([[D.bool true]], []) := by kernel_rfl
theorem r11 (a : List In) (b : List In) (n : Nat) : evFn ⟨prog, Hx, 11⟩ T40.call n f11 [[.sl false 8 (enS false a)], [.sl false 8 (enS false b)]] = bif ofNat (length (enS false a)) != ofNat (length (enS false b)) then some ([[D.bool false]], []) else loopRun (B11_0 n) 0 35 134215728 n (S11_0 a b (0)) (k11_1 n) := by kernel_rfl
theorem m11 (a : List In) (b : List In) (hpre : (o11 a b).1 = true) : evFn ⟨Go.Proofs.Try.prog, Hx, 11⟩ T40.call (a.length + 1) f11 [[.sl false 8 (enS false a)], [.sl false 8 (enS false b)]] = some (o11 a b).2 := by
  refine (r11 a b _).trans ?_
  show _ = (some ([[.bool (true)]], []) : Option (List Row × List Row))
  replace hpre : (sameB a b && (decide (a.length ≤ 1048576))) = true := hpre
  rw [Bool.and_eq_true] at hpre
  obtain ⟨h0, h1⟩ := hpre
  have hlen : a.length ≤ 1048576 := of_decide_eq_true h1
  have := sameB_eq h0
  subst this
  simp only [bne_self_eq_false, cond_false]
  refine loop_list (xs := a) (fun i (_ : Unit) => S11_0 a a (Int.ofNat i)) (fun _ _ => True) (fun _ _ _ => some ([[D.bool true]], [])) ?_ ?_ (a.length + 1) () (by omega) trivial
  · rintro _ _ f
    refine (q11_0 a a _ _ f _).trans ?_
    simp only [enS_length, dec_lt, Nat.lt_irrefl, decide_false, cond_false]
    exact aX11_2 a a _ _
  · rintro i _ hi _ f hf
    refine (q11_0 a a _ _ f _).trans ?_
    simp only [enS_length, toNat_of, dec_lt, dec_ge, enS_get _ hi, hi, wrap_succ (show i < 4611686018427387904 by omega), decide_true, cond_true, Bool.and_self, sameB_self, bne_self_eq_false, cond_false]
    exact hf () trivial
theorem s11 : SoundAt Go.Proofs.Try.prog Hx 11 c11 := soundAt_of T40_sound mixed func11 (by kernel_rfl) (by
  intro rows r h
  unfold c11 at h
  split at h
  · rename_i a b
    obtain ⟨hp, hr⟩ := Prod.mk.inj (Option.some.inj h)
    subst hr
    simp only [Bool.and_eq_true] at hp
    obtain ⟨⟨hs0, hs1⟩, hp⟩ := hp
    obtain ⟨xs0, rfl⟩ := isS_ex hs0
    obtain ⟨xs1, rfl⟩ := isS_ex hs1
    simp only [deS_enS] at hp ⊢
    exact ⟨_, m11 xs0 xs1 hp⟩
  · cases h)
def T11 : Table := (11, c11) :: T40
theorem T11_sound : Table.Sound Go.Proofs.Try.prog Hx T11 := Table.sound_cons s11 T40_sound
def o12 (a : List In) (k : Int) : Bool × List Row × List Row := (decide (0 ≤ k) && (decide (k + cntS In.n_ a ≤ 4611686018427387904) && decide (a.length ≤ 1152921504606846976)), [[.int .i64 (k + cntS In.n_ a)]], [[.sl true 8 (enS true (markS In.mk_ In.n_ a k))]])
def c12 : Contract
  | [[.sl true 8 a], [.int .i64 k]] => some (isS In true a && (o12 (deS In a) k).1, (o12 (deS In a) k).2.1, (o12 (deS In a) k).2.2)
  | _ => none

def k12_0 (n : Nat) : Ex → St → RR := kThen (fun st ↦ runCode (Ctx.mk prog Hx (12)) (Table.call T11) n (codeAt [1, 1] (bodyOf f12)) (Lv.mk 16 [] 16) st (kLeave (Ctx.P (Ctx.mk prog Hx (12))) (List.zip (Array.toList (Go.Func.resultTypes f12)) (Array.toList (Go.Func.results f12))) [] [C.view 0 0 0 [] 8 none])) (kLeave (Ctx.P (Ctx.mk prog Hx (12))) (List.zip (Array.toList (Go.Func.resultTypes f12)) (Array.toList (Go.Func.results f12))) [] [C.view 0 0 0 [] 8 none])
def k12_1 (n : Nat) : Ex → St → RR := kBlock (0) (k12_0 n)
def S12_0 (i0 : Int) (i1 : Int) (es2 : List (List D)) : St := St.mk [V_ [C.view 0 0 0 [] 8 none], I_ i0, U_, U_, U_, I_ i1, U_, U_, U_, U_, U_, U_, U_, U_, U_, U_, U_, U_, U_, U_, U_, U_, U_, U_, U_, U_, U_, U_, U_, U_, U_, U_, U_, U_, U_, U_, U_, U_, U_, U_, U_, U_, U_, U_, U_, U_, U_, U_, U_, U_, U_, U_, U_, U_, U_, U_, U_, U_, U_, U_, U_, U_, U_, U_, U_, U_, U_, U_, U_, U_, U_, U_, U_, U_, U_] [Root.mk false 8 es2 0 0 true true false]
def B12_0 (n : Nat) : St → (Ex → St → RR) → RR := runCode (Ctx.mk prog Hx (12)) (Table.call T11) n (codeAt [1, 0, 1, 0, 0] (bodyOf f12)) (Lv.mk 35 [(0, 2)] 16)
def X12_2 (i0 : Int) (i1 : Int) (es2 : List (List D)) : St := St.mk [V_ [C.view 0 0 0 [] 8 none], I_ i0, U_, U_, U_, I_ i1, I_ i1, V_ [C.view 0 0 0 [] 8 none], I_ (ofNat (length es2)), B_ false, U_, U_, U_, U_, U_, U_, U_, U_, U_, U_, U_, U_, U_, U_, U_, U_, U_, U_, U_, U_, U_, U_, U_, U_, U_, U_, U_, U_, U_, U_, U_, U_, U_, U_, U_, U_, U_, U_, U_, U_, U_, U_, U_, U_, U_, U_, U_, U_, U_, U_, U_, U_, U_, U_, U_, U_, U_, U_, U_, U_, U_, U_, U_, U_, U_] [Root.mk false 8 es2 0 0 true true false]
def w12_3 (i0 : Int) (i1 : Int) (es2 : List (List D)) : List (List D) := set es2 (0 + toNat i1) (D.int i64 i0 :: drop 1 (getD es2 (0 + toNat i1) []))
def w12_4 (i0 : Int) (i1 : Int) (es2 : List (List D)) : List (List D) := set (w12_3 i0 i1 es2) (0 + toNat i1) (append (append (take 1 (getD (w12_3 i0 i1 es2) (0 + toNat i1) [])) [D.int i64 (wrap i64 (i0 + 1))]) (drop 2 (getD (w12_3 i0 i1 es2) (0 + toNat i1) [])))
def w12_5 (i0 : Int) (i1 : Int) (es2 : List (List D)) : List (List D) := set (w12_4 i0 i1 es2) (0 + toNat i1) (append (append (take 2 (getD (w12_4 i0 i1 es2) (0 + toNat i1) [])) [D.int i64 (wrap i64 (wrap i64 (i0 + 1) + 1))]) (drop 3 (getD (w12_4 i0 i1 es2) (0 + toNat i1) [])))
def w12_6 (i0 : Int) (i1 : Int) (es2 : List (List D)) : List (List D) := set (w12_5 i0 i1 es2) (0 + toNat i1) (append (append (take 3 (getD (w12_5 i0 i1 es2) (0 + toNat i1) [])) [D.int i64 (wrap i64 (wrap i64 (wrap i64 (i0 + 1) + 1) + 1))]) (drop 4 (getD (w12_5 i0 i1 es2) (0 + toNat i1) [])))
def w12_7 (i0 : Int) (i1 : Int) (es2 : List (List D)) : List (List D) := set (w12_6 i0 i1 es2) (0 + toNat i1) (append (append (take 4 (getD (w12_6 i0 i1 es2) (0 + toNat i1) [])) [D.int i64 (wrap i64 (wrap i64 (wrap i64 (wrap i64 (i0 + 1) + 1) + 1) + 1))]) (drop 5 (getD (w12_6 i0 i1 es2) (0 + toNat i1) [])))
def w12_8 (i0 : Int) (i1 : Int) (es2 : List (List D)) : List (List D) := set (w12_7 i0 i1 es2) (0 + toNat i1) (append (append (take 5 (getD (w12_7 i0 i1 es2) (0 + toNat i1) [])) [D.int i64 (wrap i64 (wrap i64 (wrap i64 (wrap i64 (wrap i64 (i0 + 1) + 1) + 1) + 1) + 1))]) (drop 6 (getD (w12_7 i0 i1 es2) (0 + toNat i1) [])))
def w12_9 (i0 : Int) (i1 : Int) (es2 : List (List D)) : List (List D) := set (w12_8 i0 i1 es2) (0 + toNat i1) (append (append (take 6 (getD (w12_8 i0 i1 es2) (0 + toNat i1) [])) [D.int i64 (wrap i64 (wrap i64 (wrap i64 (wrap i64 (wrap i64 (wrap i64 (i0 + 1) + 1) + 1) + 1) + 1) + 1))]) (drop 7 (getD (w12_8 i0 i1 es2) (0 + toNat i1) [])))
theorem q12_0 (n : Nat) (i0 : Int) (i1 : Int) (es2 : List (List D)) (f : St → RR) (K : Ex → St → RR) : B12_0 n (S12_0 i0 i1 es2) (kThen (fun st ↦ f (St.head 1 35 18889465931478580854754 st)) K) = bif decide (i1 < ofNat (length es2)) then bif decide (0 ≤ i1) && decide (i1 < ofNat (length es2)) then bif decide (0 ≤ i1) && decide (i1 < ofNat (length (w12_3 i0 i1 es2))) then bif decide (0 ≤ i1) && decide (i1 < ofNat (length (w12_4 i0 i1 es2))) then bif decide (0 ≤ i1) && decide (i1 < ofNat (length (w12_5 i0 i1 es2))) then bif decide (0 ≤ i1) && decide (i1 < ofNat (length (w12_6 i0 i1 es2))) then bif decide (0 ≤ i1) && decide (i1 < ofNat (length (w12_7 i0 i1 es2))) then bif decide (0 ≤ i1) && decide (i1 < ofNat (length (w12_8 i0 i1 es2))) then bif decide (0 ≤ i1) && decide (i1 < ofNat (length (w12_9 i0 i1 es2))) then f (S12_0 (wrap i64 (wrap i64 (wrap i64 (wrap i64 (wrap i64 (wrap i64 (wrap i64 (wrap i64 (i0 + 1) + 1) + 1) + 1) + 1) + 1) + 1) + 1)) (wrap i64 (i1 + 1)) (set (w12_9 i0 i1 es2) (0 + toNat i1) (append (append (take 7 (getD (w12_9 i0 i1 es2) (0 + toNat i1) [])) [D.bool (Int.tmod (wrap i64 (wrap i64 (wrap i64 (wrap i64 (wrap i64 (wrap i64 (wrap i64 (i0 + 1) + 1) + 1) + 1) + 1) + 1) + 1)) (3) == 0)]) (drop 8 (getD (w12_9 i0 i1 es2) (0 + toNat i1) []))))) else none else none else none else none else none else none else none else none else K (Ex.exit 0) (X12_2 i0 i1 es2) := by kernel_rfl
theorem aX12_2 (n : Nat) (i0 : Int) (i1 : Int) (es2 : List (List D)) : k12_1 n (Ex.exit 0) (X12_2 i0 i1 es2) = some ([[D.int i64 i0]], [[D.sl true 8 es2]]) := by kernel_rfl
theorem r12 (a : List In) (k : Int) (n : Nat) : evFn ⟨prog, Hx, 12⟩ T11.call n f12 [[.sl true 8 (enS true a)], [.int .i64 k]] = loopRun (B12_0 n) 1 35 18889465931478580854754 n (S12_0 k (0) (enS true a)) (k12_1 n) := by kernel_rfl
theorem m12 (a : List In) (k : Int) (hpre : (o12 a k).1 = true) : evFn ⟨Go.Proofs.Try.prog, Hx, 12⟩ T11.call (a.length + 1) f12 [[.sl true 8 (enS true a)], [.int .i64 k]] = some (o12 a k).2 := by
  refine (r12 a k _).trans ?_
  show _ = (some ([[.int .i64 (k + cntS In.n_ a)]], [[.sl true 8 (enS true (markS In.mk_ In.n_ a k))]]) : Option (List Row × List Row))
  replace hpre : (decide (0 ≤ k) && (decide (k + cntS In.n_ a ≤ 4611686018427387904) && decide (a.length ≤ 1152921504606846976))) = true := hpre
  simp only [Bool.and_eq_true, decide_eq_true_eq] at hpre
  obtain ⟨h0, h1, h2⟩ := hpre
  refine loop_list (xs := a) (fun i (v : List In × Int) => S12_0 v.2 (Int.ofNat i) (enS true (v.1 ++ a.drop i))) (fun i v => v.1.length = i ∧ 0 ≤ v.2 ∧ v.2 + cntS In.n_ (a.drop i) ≤ 4611686018427387904) (fun _ v rest => some ([[D.int .i64 (v.2 + cntS In.n_ rest)]], [[D.sl true 8 (enS true (v.1 ++ markS In.mk_ In.n_ rest v.2))]])) ?_ ?_ (a.length + 1) ([], k) (by omega) ⟨rfl, h0, h1⟩
  · rintro ⟨pre, k⟩ ⟨hl, hk0, hk1⟩ f
    refine (q12_0 _ _ _ _ f _).trans ?_
    simp only [enS_length, List.drop_length, List.append_nil, hl, dec_lt, Nat.lt_irrefl, decide_false, cond_false]
    refine (aX12_2 _ _ _ _).trans ?_
    simp only [List.append_nil, cntS, markS, Int.add_zero]
  · rintro i ⟨pre, k⟩ hi ⟨hl, hk0, hk1⟩ f hf
    simp only at hl hk0 hk1
    rw [List.drop_eq_getElem_cons hi] at hk1
    generalize hx : a[i] = x at hk1 ⊢
    have hc := cntS_nonneg (n := In.n_) In.n_pos (a.drop (i + 1))
    have hn : In.n_ x = 8 := rfl
    simp only [cntS, hn] at hk1
    refine (q12_0 _ _ _ _ f _).trans ?_
    rw [List.drop_eq_getElem_cons hi, hx]
    have hm := mid_get pre x (a.drop (i + 1)) hl
    have hat := mid_at pre x (a.drop (i + 1)) hl hm
    have hs : ∀ R, ((enS true (pre ++ x :: a.drop (i + 1))).set i R).getD i [] = R := fun R => getD_set_same _ _ _ _ (by rw [enS_length]; exact hm)
    simp only [w12_3, w12_4, w12_5, w12_6, w12_7, w12_8, w12_9, List.length_set, enS_length, toNat_of, Nat.zero_add, dec_lt, dec_ge, hm, hs, List.set_set, enS_get _ hm, hat, decide_true, cond_true, Bool.and_self, wrap_succ (show i < 4611686018427387904 by omega), En.enc, List.append_eq, List.take_succ_cons, List.take_zero, List.drop_succ_cons, List.drop_zero, List.cons_append, List.nil_append]
    have hw1 : IntKind.wrap IntKind.i64 (k + 1) = k + 1 := wrap_le (by omega) (by omega)
    have hw2 : IntKind.wrap IntKind.i64 (k + 1 + 1) = k + 1 + 1 := wrap_le (by omega) (by omega)
    have hw3 : IntKind.wrap IntKind.i64 (k + 1 + 1 + 1) = k + 1 + 1 + 1 := wrap_le (by omega) (by omega)
    have hw4 : IntKind.wrap IntKind.i64 (k + 1 + 1 + 1 + 1) = k + 1 + 1 + 1 + 1 := wrap_le (by omega) (by omega)
    have hw5 : IntKind.wrap IntKind.i64 (k + 1 + 1 + 1 + 1 + 1) = k + 1 + 1 + 1 + 1 + 1 := wrap_le (by omega) (by omega)
    have hw6 : IntKind.wrap IntKind.i64 (k + 1 + 1 + 1 + 1 + 1 + 1) = k + 1 + 1 + 1 + 1 + 1 + 1 := wrap_le (by omega) (by omega)
    have hw7 : IntKind.wrap IntKind.i64 (k + 1 + 1 + 1 + 1 + 1 + 1 + 1) = k + 1 + 1 + 1 + 1 + 1 + 1 + 1 := wrap_le (by omega) (by omega)
    have hw8 : IntKind.wrap IntKind.i64 (k + 1 + 1 + 1 + 1 + 1 + 1 + 1 + 1) = k + 1 + 1 + 1 + 1 + 1 + 1 + 1 + 1 := wrap_le (by omega) (by omega)
    simp only [hw1, hw2, hw3, hw4, hw5, hw6, hw7, hw8]
    have he : k + 1 + 1 + 1 + 1 + 1 + 1 + 1 + 1 = k + In.n_ x := by omega
    skip
    refine (congrArg f (congrArg (S12_0 _ _) ((enS_set true _ i (In.mk_ x k)).trans (congrArg (enS true) (mid_set pre x _ _ hl))))).trans ?_
    refine (hf (pre ++ [In.mk_ x k], k + 1 + 1 + 1 + 1 + 1 + 1 + 1 + 1) ⟨by simp [hl], by simp only; omega, by simp only; omega⟩).trans ?_
    show _ = some ([[D.int .i64 (k + (In.n_ x + cntS In.n_ (a.drop (i + 1))))]], [[D.sl true 8 (enS true (pre ++ (In.mk_ x k :: markS In.mk_ In.n_ (a.drop (i + 1)) (k + In.n_ x))))]])
    rw [he, List.append_assoc, List.singleton_append, Int.add_assoc]
theorem s12 : SoundAt Go.Proofs.Try.prog Hx 12 c12 := soundAt_of T11_sound mixed func12 (by kernel_rfl) (by
  intro rows r h
  unfold c12 at h
  split at h
  · rename_i a k
    obtain ⟨hp, hr⟩ := Prod.mk.inj (Option.some.inj h)
    subst hr
    simp only [Bool.and_eq_true] at hp
    obtain ⟨hs0, hp⟩ := hp
    obtain ⟨xs0, rfl⟩ := isS_ex hs0
    simp only [deS_enS] at hp ⊢
    exact ⟨_, m12 xs0 k hp⟩
  · cases h)
def T12 : Table := (12, c12) :: T11
theorem T12_sound : Table.Sound Go.Proofs.Try.prog Hx T12 := Table.sound_cons s12 T11_sound
def o41 (a : List UInt8) (k : Int) : Bool × List Row × List Row := (decide (0 ≤ k) && (decide (k + cntS oneN a ≤ 4611686018427387904) && decide (a.length ≤ 1152921504606846976)), [[.int .i64 (k + cntS oneN a)]], [[.sl true 1 (enS true (markS byteMk oneN a k))]])
def c41 : Contract
  | [[.sl true 1 a], [.int .i64 k]] => some (isS UInt8 true a && (o41 (deS UInt8 a) k).1, (o41 (deS UInt8 a) k).2.1, (o41 (deS UInt8 a) k).2.2)
  | _ => none

def k41_0 (n : Nat) : Ex → St → RR := kThen (fun st ↦ runCode (Ctx.mk prog Hx (41)) (Table.call T12) n (codeAt [1, 1] (bodyOf f41)) (Lv.mk 16 [] 16) st (kLeave (Ctx.P (Ctx.mk prog Hx (41))) (List.zip (Array.toList (Go.Func.resultTypes f41)) (Array.toList (Go.Func.results f41))) [] [C.view 0 0 0 [] 1 none])) (kLeave (Ctx.P (Ctx.mk prog Hx (41))) (List.zip (Array.toList (Go.Func.resultTypes f41)) (Array.toList (Go.Func.results f41))) [] [C.view 0 0 0 [] 1 none])
def k41_1 (n : Nat) : Ex → St → RR := kBlock (0) (k41_0 n)
def S41_0 (i0 : Int) (i1 : Int) (es2 : List (List D)) : St := St.mk [V_ [C.view 0 0 0 [] 1 none], I_ i0, U_, U_, U_, I_ i1, U_, U_, U_, U_, U_, U_, U_, U_, U_, U_, U_, U_, U_, U_] [Root.mk false 1 es2 0 0 true true false]
def B41_0 (n : Nat) : St → (Ex → St → RR) → RR := runCode (Ctx.mk prog Hx (41)) (Table.call T12) n (codeAt [1, 0, 1, 0, 0] (bodyOf f41)) (Lv.mk 35 [(0, 2)] 16)
def X41_2 (i0 : Int) (i1 : Int) (es2 : List (List D)) : St := St.mk [V_ [C.view 0 0 0 [] 1 none], I_ i0, U_, U_, U_, I_ i1, I_ i1, V_ [C.view 0 0 0 [] 1 none], I_ (ofNat (length es2)), B_ false, U_, U_, U_, U_, U_, U_, U_, U_, U_, U_] [Root.mk false 1 es2 0 0 true true false]
theorem q41_0 (n : Nat) (i0 : Int) (i1 : Int) (es2 : List (List D)) (f : St → RR) (K : Ex → St → RR) : B41_0 n (S41_0 i0 i1 es2) (kThen (fun st ↦ f (St.head 1 35 524258 st)) K) = bif decide (i1 < ofNat (length es2)) then bif decide (0 ≤ i1) && decide (i1 < ofNat (length es2)) then f (S41_0 (wrap i64 (i0 + 1)) (wrap i64 (i1 + 1)) (set es2 (0 + toNat i1) [D.int IntKind.u8 (wrap IntKind.u8 i0)])) else none else K (Ex.exit 0) (X41_2 i0 i1 es2) := by kernel_rfl
theorem aX41_2 (n : Nat) (i0 : Int) (i1 : Int) (es2 : List (List D)) : k41_1 n (Ex.exit 0) (X41_2 i0 i1 es2) = some ([[D.int i64 i0]], [[D.sl true 1 es2]]) := by kernel_rfl
theorem r41 (a : List UInt8) (k : Int) (n : Nat) : evFn ⟨prog, Hx, 41⟩ T12.call n f41 [[.sl true 1 (enS true a)], [.int .i64 k]] = loopRun (B41_0 n) 1 35 524258 n (S41_0 k (0) (enS true a)) (k41_1 n) := by kernel_rfl
theorem m41 (a : List UInt8) (k : Int) (hpre : (o41 a k).1 = true) : evFn ⟨Go.Proofs.Try.prog, Hx, 41⟩ T12.call (a.length + 1) f41 [[.sl true 1 (enS true a)], [.int .i64 k]] = some (o41 a k).2 := by
  refine (r41 a k _).trans ?_
  show _ = (some ([[.int .i64 (k + cntS oneN a)]], [[.sl true 1 (enS true (markS byteMk oneN a k))]]) : Option (List Row × List Row))
  replace hpre : (decide (0 ≤ k) && (decide (k + cntS oneN a ≤ 4611686018427387904) && decide (a.length ≤ 1152921504606846976))) = true := hpre
  simp only [Bool.and_eq_true, decide_eq_true_eq] at hpre
  obtain ⟨h0, h1, h2⟩ := hpre
  refine loop_list (xs := a) (fun i (v : List UInt8 × Int) => S41_0 v.2 (Int.ofNat i) (enS true (v.1 ++ a.drop i))) (fun i v => v.1.length = i ∧ 0 ≤ v.2 ∧ v.2 + cntS oneN (a.drop i) ≤ 4611686018427387904) (fun _ v rest => some ([[D.int .i64 (v.2 + cntS oneN rest)]], [[D.sl true 1 (enS true (v.1 ++ markS byteMk oneN rest v.2))]])) ?_ ?_ (a.length + 1) ([], k) (by omega) ⟨rfl, h0, h1⟩
  · rintro ⟨pre, k⟩ ⟨hl, hk0, hk1⟩ f
    refine (q41_0 _ _ _ _ f _).trans ?_
    simp only [enS_length, List.drop_length, List.append_nil, hl, dec_lt, Nat.lt_irrefl, decide_false, cond_false]
    refine (aX41_2 _ _ _ _).trans ?_
    simp only [List.append_nil, cntS, markS, Int.add_zero]
  · rintro i ⟨pre, k⟩ hi ⟨hl, hk0, hk1⟩ f hf
    simp only at hl hk0 hk1
    rw [List.drop_eq_getElem_cons hi] at hk1
    generalize hx : a[i] = x at hk1 ⊢
    have hc := cntS_nonneg (n := oneN) oneN_pos (a.drop (i + 1))
    have hn : oneN x = 1 := rfl
    simp only [cntS, hn] at hk1
    refine (q41_0 _ _ _ _ f _).trans ?_
    rw [List.drop_eq_getElem_cons hi, hx]
    have hm := mid_get pre x (a.drop (i + 1)) hl
    have hat := mid_at pre x (a.drop (i + 1)) hl hm
    have hs : ∀ R, ((enS true (pre ++ x :: a.drop (i + 1))).set i R).getD i [] = R := fun R => getD_set_same _ _ _ _ (by rw [enS_length]; exact hm)
    simp only [List.length_set, enS_length, toNat_of, Nat.zero_add, dec_lt, dec_ge, hm, hs, List.set_set, enS_get _ hm, hat, decide_true, cond_true, Bool.and_self, wrap_succ (show i < 4611686018427387904 by omega), En.enc, List.append_eq, List.take_succ_cons, List.take_zero, List.drop_succ_cons, List.drop_zero, List.cons_append, List.nil_append]
    have hw1 : IntKind.wrap IntKind.i64 (k + 1) = k + 1 := wrap_le (by omega) (by omega)
    simp only [hw1]
    have he : k + 1 = k + oneN x := by omega
    rw [← u8_wrap k]
    refine (congrArg f (congrArg (S41_0 _ _) ((enS_set true _ i (byteMk x k)).trans (congrArg (enS true) (mid_set pre x _ _ hl))))).trans ?_
    refine (hf (pre ++ [byteMk x k], k + 1) ⟨by simp [hl], by simp only; omega, by simp only; omega⟩).trans ?_
    show _ = some ([[D.int .i64 (k + (oneN x + cntS oneN (a.drop (i + 1))))]], [[D.sl true 1 (enS true (pre ++ (byteMk x k :: markS byteMk oneN (a.drop (i + 1)) (k + oneN x))))]])
    rw [he, List.append_assoc, List.singleton_append, Int.add_assoc]
theorem s41 : SoundAt Go.Proofs.Try.prog Hx 41 c41 := soundAt_of T12_sound mixed func41 (by kernel_rfl) (by
  intro rows r h
  unfold c41 at h
  split at h
  · rename_i a k
    obtain ⟨hp, hr⟩ := Prod.mk.inj (Option.some.inj h)
    subst hr
    simp only [Bool.and_eq_true] at hp
    obtain ⟨hs0, hp⟩ := hp
    obtain ⟨xs0, rfl⟩ := isS_ex hs0
    simp only [deS_enS] at hp ⊢
    exact ⟨_, m41 xs0 k hp⟩
  · cases h)
def T41 : Table := (41, c41) :: T12
theorem T41_sound : Table.Sound Go.Proofs.Try.prog Hx T41 := Table.sound_cons s41 T12_sound
def o13 (a : Snap) (k : Int) : Bool × List Row × List Row := (decide (0 ≤ k) && (decide (k + Snap.nTop a ≤ 4611686018427387904) && (decide (a.Bytes.length ≤ 1152921504606846976))), [[.int .i64 (k + Snap.nTop a)]], [[.int .i64 (Snap.mkTop a k).N, .sl true 1 (enS true (Snap.mkTop a k).Bytes)]])
def c13 : Contract
  | [[.int .i64 a_N, .sl true 1 a_Bytes], [.int .i64 k]] => some (isS UInt8 true a_Bytes && (o13 ⟨a_N, (deS UInt8 a_Bytes)⟩ k).1, (o13 ⟨a_N, (deS UInt8 a_Bytes)⟩ k).2.1, (o13 ⟨a_N, (deS UInt8 a_Bytes)⟩ k).2.2)
  | _ => none

theorem r13 (a : Snap) (k : Int) (n : Nat) : evFn ⟨prog, Hx, 13⟩ T41.call n f13 [[.int .i64 a.N, .sl true 1 (enS true a.Bytes)], [.int .i64 k]] = bif isS UInt8 true (enS true (Snap.Bytes a)) && (decide (0 ≤ k) && (decide (k + cntS oneN (deS UInt8 (enS true (Snap.Bytes a))) ≤ 4611686018427387904) && decide (length (deS UInt8 (enS true (Snap.Bytes a))) ≤ 1152921504606846976))) then some ([[D.int i64 (k + cntS oneN (deS UInt8 (enS true (Snap.Bytes a))))]], [[D.int i64 (Snap.N a), D.sl true 1 (enS true (markS byteMk oneN (deS UInt8 (enS true (Snap.Bytes a))) k))]]) else none := by kernel_rfl
theorem m13 (a : Snap) (k : Int) (hpre : (o13 a k).1 = true) : evFn ⟨Go.Proofs.Try.prog, Hx, 13⟩ T41.call 0 f13 [[.int .i64 a.N, .sl true 1 (enS true a.Bytes)], [.int .i64 k]] = some (o13 a k).2 := by
  refine (r13 a k _).trans ?_
  show _ = (some ([[.int .i64 (k + Snap.nTop a)]], [[.int .i64 (Snap.mkTop a k).N, .sl true 1 (enS true (Snap.mkTop a k).Bytes)]]) : Option (List Row × List Row))
  replace hpre : (decide (0 ≤ k) && (decide (k + Snap.nTop a ≤ 4611686018427387904) && (decide (a.Bytes.length ≤ 1152921504606846976)))) = true := hpre
  simp only [Bool.and_eq_true] at hpre
  obtain ⟨h0, h1, h2⟩ := hpre
  have h0' := of_decide_eq_true h0
  have h1' := of_decide_eq_true h1
  unfold Snap.nTop at h1'
  have p0 : 0 ≤ cntS oneN a.Bytes := cntS_nonneg oneN_pos a.Bytes
  have g0 : decide (0 ≤ k) = true := decide_eq_true (by omega)
  have f0 : decide (k + cntS oneN a.Bytes ≤ 4611686018427387904) = true := decide_eq_true (by omega)
  have d0 : decide (k + cntS oneN a.Bytes < 0) = false := decide_eq_false (by omega)
  simp only [g0, f0, d0, h2, isS_enS, deS_enS, sameB_self, cond_true, cond_false, Bool.and_self, Bool.and_true, Bool.true_and, Snap.mkTop, Snap.nTop]
  try rfl
theorem s13 : SoundAt Go.Proofs.Try.prog Hx 13 c13 := soundAt_of T41_sound mixed func13 (by kernel_rfl) (by
  intro rows r h
  unfold c13 at h
  split at h
  · rename_i a_N a_Bytes k
    obtain ⟨hp, hr⟩ := Prod.mk.inj (Option.some.inj h)
    subst hr
    simp only [Bool.and_eq_true] at hp
    obtain ⟨hs0, hp⟩ := hp
    obtain ⟨xs0, rfl⟩ := isS_ex hs0
    simp only [deS_enS] at hp ⊢
    exact ⟨_, m13 ⟨a_N, xs0⟩ k hp⟩
  · cases h)
def T13 : Table := (13, c13) :: T41
theorem T13_sound : Table.Sound Go.Proofs.Try.prog Hx T13 := Table.sound_cons s13 T41_sound
def o42 (a : List UInt8) (k : Int) : Bool × List Row × List Row := (sameB (markS byteMk oneN a k) a && (decide (0 ≤ k) && (decide (k + cntS oneN a ≤ 4611686018427387904) && decide (a.length ≤ 1152921504606846976))), [[.int .i64 (k + cntS oneN a)]], [])
def c42 : Contract
  | [[.sl false 1 a], [.int .i64 k]] => some (isS UInt8 false a && (o42 (deS UInt8 a) k).1, (o42 (deS UInt8 a) k).2.1, (o42 (deS UInt8 a) k).2.2)
  | _ => none

def k42_0 (n : Nat) : Ex → St → RR := kThen (fun st ↦ runCode (Ctx.mk prog Hx (42)) (Table.call T13) n (codeAt [1, 1] (bodyOf f42)) (Lv.mk 16 [] 16) st (kLeave (Ctx.P (Ctx.mk prog Hx (42))) (List.zip (Array.toList (Go.Func.resultTypes f42)) (Array.toList (Go.Func.results f42))) [] [])) (kLeave (Ctx.P (Ctx.mk prog Hx (42))) (List.zip (Array.toList (Go.Func.resultTypes f42)) (Array.toList (Go.Func.results f42))) [] [])
def k42_1 (n : Nat) : Ex → St → RR := kBlock (0) (k42_0 n)
def S42_0 (a : List UInt8) (i0 : Int) (i1 : Int) : St := St.mk [V_ [C.d (D.sl false 1 (enS false a))], I_ i0, U_, U_, U_, I_ i1, U_, U_, U_, U_, U_, U_, U_, U_, U_, U_, U_, U_, U_, U_, U_, U_] []
def B42_0 (n : Nat) : St → (Ex → St → RR) → RR := runCode (Ctx.mk prog Hx (42)) (Table.call T13) n (codeAt [1, 0, 1, 0, 0] (bodyOf f42)) (Lv.mk 35 [(0, 2)] 16)
def X42_2 (a : List UInt8) (i0 : Int) (i1 : Int) : St := St.mk [V_ [C.d (D.sl false 1 (enS false a))], I_ i0, U_, U_, I_ (Int.negSucc 0), I_ i1, I_ i1, V_ [C.d (D.sl false 1 (enS false a))], I_ (ofNat (length (enS false a))), B_ true, U_, U_, V_ [C.d (D.sl false 1 (enS false a))], I_ i1, V_ [C.rptr (getD (enS false a) (toNat i1) [])], V_ [C.d (D.int IntKind.u8 (D.num (getD (getD (enS false a) (toNat i1) []) 0 D.dead)))], I_ i0, V_ [C.d (D.int IntKind.u8 (wrap IntKind.u8 i0))], B_ true, U_, U_, U_] []
def X42_3 (a : List UInt8) (i0 : Int) (i1 : Int) : St := St.mk [V_ [C.d (D.sl false 1 (enS false a))], I_ i0, U_, U_, U_, I_ i1, I_ i1, V_ [C.d (D.sl false 1 (enS false a))], I_ (ofNat (length (enS false a))), B_ false, U_, U_, U_, U_, U_, U_, U_, U_, U_, U_, U_, U_] []
theorem q42_0 (a : List UInt8) (n : Nat) (i0 : Int) (i1 : Int) (f : St → RR) (K : Ex → St → RR) : B42_0 n (S42_0 a i0 i1) (kThen (fun st ↦ f (St.head 0 35 2097138 st)) K) = bif decide (i1 < ofNat (length (enS false a))) then bif decide (0 ≤ i1) && decide (i1 < ofNat (length (enS false a))) then bif Leaf.fit false (Leaf.int IntKind.u8) (getD (getD (enS false a) (toNat i1) []) 0 D.dead) && true then bif D.num (getD (getD (enS false a) (toNat i1) []) 0 D.dead) != wrap IntKind.u8 i0 then K Ex.ret (X42_2 a i0 i1) else f (S42_0 a (wrap i64 (i0 + 1)) (wrap i64 (i1 + 1))) else none else none else K (Ex.exit 0) (X42_3 a i0 i1) := by kernel_rfl
theorem aX42_2 (a : List UInt8) (n : Nat) (i0 : Int) (i1 : Int) : k42_1 n Ex.ret (X42_2 a i0 i1) = some ([[D.int i64 (Int.negSucc 0)]], []) := by kernel_rfl
theorem aX42_3 (a : List UInt8) (n : Nat) (i0 : Int) (i1 : Int) : k42_1 n (Ex.exit 0) (X42_3 a i0 i1) = some ([[D.int i64 i0]], []) := by kernel_rfl
theorem r42 (a : List UInt8) (k : Int) (n : Nat) : evFn ⟨prog, Hx, 42⟩ T13.call n f42 [[.sl false 1 (enS false a)], [.int .i64 k]] = loopRun (B42_0 n) 0 35 2097138 n (S42_0 a k (0)) (k42_1 n) := by kernel_rfl
theorem m42 (a : List UInt8) (k : Int) (hpre : (o42 a k).1 = true) : evFn ⟨Go.Proofs.Try.prog, Hx, 42⟩ T13.call (a.length + 1) f42 [[.sl false 1 (enS false a)], [.int .i64 k]] = some (o42 a k).2 := by
  refine (r42 a k _).trans ?_
  show _ = (some ([[.int .i64 (k + cntS oneN a)]], []) : Option (List Row × List Row))
  replace hpre : (sameB (markS byteMk oneN a k) a && (decide (0 ≤ k) && (decide (k + cntS oneN a ≤ 4611686018427387904) && decide (a.length ≤ 1152921504606846976)))) = true := hpre
  rw [Bool.and_eq_true] at hpre
  obtain ⟨hsame, hpre⟩ := hpre
  have hsame := sameB_eq hsame
  simp only [Bool.and_eq_true, decide_eq_true_eq] at hpre
  obtain ⟨h0, h1, h2⟩ := hpre
  refine loop_list (xs := a) (fun i (k : Int) => S42_0 a k (Int.ofNat i)) (fun i k => 0 ≤ k ∧ k + cntS oneN (a.drop i) ≤ 4611686018427387904 ∧ markS byteMk oneN (a.drop i) k = a.drop i) (fun _ k rest => some ([[D.int .i64 (k + cntS oneN rest)]], [])) ?_ ?_ (a.length + 1) k (by omega) ⟨h0, h1, hsame⟩
  · rintro k ⟨hk0, hk1, _⟩ f
    refine (q42_0 a _ _ _ f _).trans ?_
    simp only [enS_length, dec_lt, Nat.lt_irrefl, decide_false, cond_false]
    refine (aX42_3 a _ _ _).trans ?_
    simp only [cntS, Int.add_zero]
  · rintro i k hi ⟨hk0, hk1, hk2⟩ f hf
    rw [List.drop_eq_getElem_cons hi] at hk1 hk2
    have hc := cntS_nonneg (n := oneN) oneN_pos (a.drop (i + 1))
    have hn : oneN a[i] = 1 := rfl
    simp only [cntS, hn] at hk1
    have he : k + 1 = k + oneN a[i] := by omega
    simp only [markS, List.cons.injEq] at hk2
    obtain ⟨hk2, hk3⟩ := hk2
    refine (q42_0 a _ _ _ f _).trans ?_
    simp only [enS_length, toNat_of, dec_lt, dec_ge, enS_get _ hi, hi, wrap_succ (show i < 4611686018427387904 by omega), decide_true, cond_true, Bool.and_self]
    have hw1 : IntKind.wrap IntKind.i64 (k + 1) = k + 1 := wrap_le (by omega) (by omega)
    simp only [hw1]
    rw [← hk2]
    refine Eq.trans (b := f (S42_0 a (k + 1) (Int.ofNat (i + 1)))) ?_ ((hf (k + 1) ⟨by omega, by omega, by rw [he]; exact hk3⟩).trans ?_)
    · simp only [u8_wrap, En.enc, byteMk, Leaf.fit, List.drop_succ_cons, List.drop_zero, List.getD_cons_zero, List.getD_cons_succ, D.num, D.flag, D.text, bne_self_eq_false, Bool.and_self, cond_true, cond_false, decide_true]
    · show _ = some ([[D.int .i64 (k + (oneN a[i] + cntS oneN (a.drop (i + 1))))]], [])
      rw [he, Int.add_assoc]
theorem s42 : SoundAt Go.Proofs.Try.prog Hx 42 c42 := soundAt_of T13_sound mixed func42 (by kernel_rfl) (by
  intro rows r h
  unfold c42 at h
  split at h
  · rename_i a k
    obtain ⟨hp, hr⟩ := Prod.mk.inj (Option.some.inj h)
    subst hr
    simp only [Bool.and_eq_true] at hp
    obtain ⟨hs0, hp⟩ := hp
    obtain ⟨xs0, rfl⟩ := isS_ex hs0
    simp only [deS_enS] at hp ⊢
    exact ⟨_, m42 xs0 k hp⟩
  · cases h)
def T42 : Table := (42, c42) :: T13
theorem T42_sound : Table.Sound Go.Proofs.Try.prog Hx T42 := Table.sound_cons s42 T13_sound
def o14 (a : Snap) (k : Int) : Bool × List Row × List Row := (sameB (Snap.mkTop a k) a && (decide (0 ≤ k) && (decide (k + Snap.nTop a ≤ 4611686018427387904) && (decide (a.Bytes.length ≤ 1152921504606846976)))), [[.int .i64 (k + Snap.nTop a)]], [])
def c14 : Contract
  | [[.int .i64 a_N, .sl false 1 a_Bytes], [.int .i64 k]] => some (isS UInt8 false a_Bytes && (o14 ⟨a_N, (deS UInt8 a_Bytes)⟩ k).1, (o14 ⟨a_N, (deS UInt8 a_Bytes)⟩ k).2.1, (o14 ⟨a_N, (deS UInt8 a_Bytes)⟩ k).2.2)
  | _ => none

theorem r14 (a : Snap) (k : Int) (n : Nat) : evFn ⟨prog, Hx, 14⟩ T42.call n f14 [[.int .i64 a.N, .sl false 1 (enS false a.Bytes)], [.int .i64 k]] = bif isS UInt8 false (enS false (Snap.Bytes a)) && (sameB (markS byteMk oneN (deS UInt8 (enS false (Snap.Bytes a))) k) (deS UInt8 (enS false (Snap.Bytes a))) && (decide (0 ≤ k) && (decide (k + cntS oneN (deS UInt8 (enS false (Snap.Bytes a))) ≤ 4611686018427387904) && decide (length (deS UInt8 (enS false (Snap.Bytes a))) ≤ 1152921504606846976)))) then bif decide (k + cntS oneN (deS UInt8 (enS false (Snap.Bytes a))) < 0) then some ([[D.int i64 (Int.negSucc 0)]], []) else some ([[D.int i64 (k + cntS oneN (deS UInt8 (enS false (Snap.Bytes a))))]], []) else none := by kernel_rfl
theorem m14 (a : Snap) (k : Int) (hpre : (o14 a k).1 = true) : evFn ⟨Go.Proofs.Try.prog, Hx, 14⟩ T42.call 0 f14 [[.int .i64 a.N, .sl false 1 (enS false a.Bytes)], [.int .i64 k]] = some (o14 a k).2 := by
  refine (r14 a k _).trans ?_
  show _ = (some ([[.int .i64 (k + Snap.nTop a)]], []) : Option (List Row × List Row))
  replace hpre : (sameB (Snap.mkTop a k) a && (decide (0 ≤ k) && (decide (k + Snap.nTop a ≤ 4611686018427387904) && (decide (a.Bytes.length ≤ 1152921504606846976))))) = true := hpre
  rw [Bool.and_eq_true] at hpre
  obtain ⟨hsame, hpre⟩ := hpre
  have hsame := sameB_eq hsame
  unfold Snap.mkTop at hsame
  simp only [Bool.and_eq_true] at hpre
  obtain ⟨h0, h1, h2⟩ := hpre
  have h0' := of_decide_eq_true h0
  have h1' := of_decide_eq_true h1
  unfold Snap.nTop at h1'
  have p0 : 0 ≤ cntS oneN a.Bytes := cntS_nonneg oneN_pos a.Bytes
  have g0 : decide (0 ≤ k) = true := decide_eq_true (by omega)
  have f0 : decide (k + cntS oneN a.Bytes ≤ 4611686018427387904) = true := decide_eq_true (by omega)
  have d0 : decide (k + cntS oneN a.Bytes < 0) = false := decide_eq_false (by omega)
  have s0 := congrArg Snap.Bytes hsame
  simp only at s0
  simp only [g0, f0, d0, s0, h2, isS_enS, deS_enS, sameB_self, cond_true, cond_false, Bool.and_self, Bool.and_true, Bool.true_and, Snap.mkTop, Snap.nTop]
  try rfl
theorem s14 : SoundAt Go.Proofs.Try.prog Hx 14 c14 := soundAt_of T42_sound mixed func14 (by kernel_rfl) (by
  intro rows r h
  unfold c14 at h
  split at h
  · rename_i a_N a_Bytes k
    obtain ⟨hp, hr⟩ := Prod.mk.inj (Option.some.inj h)
    subst hr
    simp only [Bool.and_eq_true] at hp
    obtain ⟨hs0, hp⟩ := hp
    obtain ⟨xs0, rfl⟩ := isS_ex hs0
    simp only [deS_enS] at hp ⊢
    exact ⟨_, m14 ⟨a_N, xs0⟩ k hp⟩
  · cases h)
def T14 : Table := (14, c14) :: T42
theorem T14_sound : Table.Sound Go.Proofs.Try.prog Hx T14 := Table.sound_cons s14 T42_sound
end Go.Ev
end
noncomputable section
open List (getD length drop take set append replicate all isEmpty)
open Int (toNat ofNat)
open Go.IntKind (i64 wrap)
open Go.Proofs.Try (prog)
namespace Go.Ev
open Go.RowKit Go.Md
end Go.Ev
namespace Go.Md
open Go Go.Ev
theorem cntS_le {α : Type} {n w : α → Int} (h : ∀ x, n x ≤ 64 * (1 + w x)) : ∀ xs : List α, cntS n xs ≤ 64 * ((xs.length : Int) + cntS w xs)
  | [] => by simp [cntS]
  | x :: xs => by
    have h1 := h x
    have h2 := cntS_le h xs
    unfold cntS
    rw [List.length_cons]
    push_cast
    omega
theorem cntS_mark {α : Type} {mk : α → Int → α} {n w : α → Int} (h : ∀ x k, w (mk x k) = w x) : ∀ (xs : List α) (k : Int), cntS w (markS mk n xs k) = cntS w xs
  | [], _ => rfl
  | x :: xs, k => by
    show w (mk x k) + cntS w (markS mk n xs (k + n x)) = w x + cntS w xs
    rw [h, cntS_mark h xs]
theorem all_b60 {α : Type} {p q : α → Bool} (h : ∀ x, p x = true → q x = true) (xs : List α) (hp : xs.all p = true) : xs.all q = true := List.all_eq_true.2 (fun x hx => h x (List.all_eq_true.1 hp x hx))
theorem byteMk_idem (x : UInt8) (k : Int) : byteMk (byteMk x k) k = byteMk x k := rfl
theorem Snap.mkTop_idem (x : Snap) (k : Int) : Snap.mkTop (Snap.mkTop x k) k = Snap.mkTop x k := by simp only [Snap.mkTop, (markS_idem (mk := byteMk) (n := oneN) byteMk_idem (fun _ _ => rfl) _ _).1, (markS_idem (mk := byteMk) (n := oneN) byteMk_idem (fun _ _ => rfl) _ _).2]
theorem Snap.nTop_mk (x : Snap) (k : Int) : Snap.nTop (Snap.mkTop x k) = Snap.nTop x := by simp only [Snap.mkTop, Snap.nTop, (markS_idem (mk := byteMk) (n := oneN) byteMk_idem (fun _ _ => rfl) _ _).1, (markS_idem (mk := byteMk) (n := oneN) byteMk_idem (fun _ _ => rfl) _ _).2]
theorem Snap.wt_mk (x : Snap) (k : Int) : Snap.wt (Snap.mkTop x k) = Snap.wt x := by simp only [Snap.wt, Snap.mkTop, markS_length]
theorem Snap.nTop_le (x : Snap) : Snap.nTop x ≤ 64 * Snap.wt x := by have c0 : cntS oneN x.Bytes = 1 * (x.Bytes.length : Int) := cntS_const (fun _ => rfl) _; simp only [Snap.nTop, Snap.wt]; omega
theorem Snap.t60 (x : Snap) (h : Snap.small x = true) : (decide (x.Bytes.length ≤ 1152921504606846976)) = true := by
  simp only [Snap.small, Bool.and_eq_true, decide_eq_true_eq] at h
  simp only [Bool.and_eq_true, decide_eq_true_eq]
  grind [all_b60]
theorem Snap.top_ok (x : Snap) (k : Int) (h0 : 0 ≤ k) (hk : k ≤ 1000000000000) (hw : Snap.wt x ≤ 1048576) : (decide (0 ≤ k) && (decide (k + Snap.nTop x ≤ 4611686018427387904) && (decide (x.Bytes.length ≤ 1152921504606846976)))) = true := by
  have hs := Snap.small_of x hw
  have hn := Snap.nTop_le x
  rw [Snap.t60 x hs, decide_eq_true h0, decide_eq_true (show k + Snap.nTop x ≤ 4611686018427387904 by omega)]
  rfl
theorem Vec.mk_idem (x : Vec) (k : Int) : Vec.mk_ (Vec.mk_ x k) k = Vec.mk_ x k := rfl
theorem Vec.n_mk (x : Vec) (k : Int) : Vec.n_ (Vec.mk_ x k) = Vec.n_ x := rfl
theorem In.mk_idem (x : In) (k : Int) : In.mk_ (In.mk_ x k) k = In.mk_ x k := rfl
theorem In.n_mk (x : In) (k : Int) : In.n_ (In.mk_ x k) = In.n_ x := rfl
theorem In.lok (xs : List In) (k : Int) (h0 : 0 ≤ k) (hk : k ≤ 1000000000000) (hw : (xs.length : Int) ≤ 1048576) : (decide (0 ≤ k) && (decide (k + cntS In.n_ xs ≤ 4611686018427387904) && decide (xs.length ≤ 1152921504606846976))) = true := by
  have c0 : cntS In.n_ xs = 8 * (xs.length : Int) := cntS_const (fun _ => rfl) _
  simp only [Bool.and_eq_true, decide_eq_true_eq]
  exact ⟨h0, by omega, by omega⟩
theorem In.lsm (xs : List In) (hw : (xs.length : Int) ≤ 1048576) : (decide (xs.length ≤ 1048576)) = true := by
  exact decide_eq_true (by omega)
end Go.Md
namespace Go.Ev
open Go.Md
end Go.Ev
end
