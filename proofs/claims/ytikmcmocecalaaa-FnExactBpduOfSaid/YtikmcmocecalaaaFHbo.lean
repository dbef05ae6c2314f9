/- Contracts of functions, each by its evaluation. -/
import Derived.Test.YtikmcmocecalaaaEvMd
import Derived.Test.YtikmcmocecalaaaProg
import Derived.KernelRfl
import Derived.Test.YtikmcmocecalaaaFBpduof
set_option linter.unusedVariables false
set_option linter.unusedSimpArgs false
set_option maxRecDepth 100000
noncomputable section
open List (getD length drop take set append replicate all isEmpty)
open Int (toNat ofNat)
open Go.IntKind (i64 wrap)
open Go.Proofs.Try (prog)
namespace Go.Ev
open Go.RowKit Go.Md
end Go.Ev
namespace Go.Md
open Go Go.Ev
def oneN {α : Type} (_ : α) : Int := 1
theorem oneN_pos {α : Type} (x : α) : 0 ≤ oneN x := by show (0 : Int) ≤ 1; omega
def byteMk (_ : UInt8) (k : Int) : UInt8 := (IntKind.wrap IntKind.u8 k).toNat.toUInt8
end Go.Md
namespace Go.Ev
open Go.Md
/- toByteS -/
def o15 (a : List UInt8) : Bool × List Row × List Row := (decide (a.length ≤ 1048576), [[.sl true 1 (enS true (a))]], [])
def c15 : Contract
  | [[.sl false 1 a]] => some (isS UInt8 false a && (o15 (deS UInt8 a)).1, (o15 (deS UInt8 a)).2.1, (o15 (deS UInt8 a)).2.2)
  | _ => none

def k15_0 (n : Nat) : Ex → St → RR := kThen (fun st ↦ runCode (Ctx.mk prog Hx (15)) (Table.call T14) n (codeAt [1, 1, 1] (bodyOf Go.Proofs.Try.f15)) (Lv.mk 4 [] 4) st (kLeave (Ctx.P (Ctx.mk prog Hx (15))) (List.zip (Array.toList (Go.Func.resultTypes Go.Proofs.Try.f15)) (Array.toList (Go.Func.results Go.Proofs.Try.f15))) [] [])) (kLeave (Ctx.P (Ctx.mk prog Hx (15))) (List.zip (Array.toList (Go.Func.resultTypes Go.Proofs.Try.f15)) (Array.toList (Go.Func.results Go.Proofs.Try.f15))) [] [])
def k15_1 (n : Nat) : Ex → St → RR := kBlock (0) (k15_0 n)
def S15_0 (a : List UInt8) (i0 : Int) (es1 : List (List D)) : St := St.mk [TV.v false [C.d (D.sl false 1 (enS false a))], U_, U_, TV.v false [C.view 0 0 0 [] 1 none], I_ i0, U_, U_, U_, U_, U_, U_, U_, U_, U_, U_, U_, U_, U_, U_, U_, U_, U_] [Root.mk false 1 es1 0 0 true true false]
def B15_0 (n : Nat) : St → (Ex → St → RR) → RR := runCode (Ctx.mk prog Hx (15)) (Table.call T14) n (codeAt [1, 1, 0, 1, 0, 0] (bodyOf Go.Proofs.Try.f15)) (Lv.mk 25 [(0, 8)] 4)
def X15_2 (a : List UInt8) (i0 : Int) (es1 : List (List D)) : St := St.mk [TV.v false [C.d (D.sl false 1 (enS false a))], U_, U_, TV.v false [C.view 0 0 0 [] 1 none], I_ i0, U_, U_, U_, I_ i0, TV.v false [C.d (D.sl false 1 (enS false a))], I_ (ofNat (length (enS false a))), B_ false, U_, U_, U_, U_, U_, U_, U_, U_, U_, U_] [Root.mk false 1 es1 0 0 true true false]
theorem q15_0 (a : List UInt8) (n : Nat) (i0 : Int) (es1 : List (List D)) (f : St → RR) (K : Ex → St → RR) : B15_0 n (S15_0 a i0 es1) (kThen (fun st ↦ f (St.head 1 25 2096912 st)) K) = bif decide (i0 < ofNat (length (enS false a))) then bif decide (0 ≤ i0) && decide (i0 < ofNat (length (enS false a))) then bif Leaf.fit false (Leaf.int IntKind.u8) (getD (getD (enS false a) (toNat i0) []) 0 D.dead) && true then bif decide (0 ≤ i0) && decide (i0 < ofNat (length es1)) then f (S15_0 a (wrap i64 (i0 + 1)) (set es1 (0 + toNat i0) [D.int IntKind.u8 (D.num (getD (getD (enS false a) (toNat i0) []) 0 D.dead))])) else none else none else none else K (Ex.exit 0) (X15_2 a i0 es1) := by kernel_rfl
theorem aX15_2 (a : List UInt8) (n : Nat) (i0 : Int) (es1 : List (List D)) : k15_1 n (Ex.exit 0) (X15_2 a i0 es1) = some ([[D.sl true 1 es1]], []) := by kernel_rfl
theorem r15 (a : List UInt8) (n : Nat) : evFn ⟨prog, Hx, 15⟩ T14.call n Go.Proofs.Try.f15 [[.sl false 1 (enS false a)]] = bif decide (0 ≤ ofNat (length (enS false a))) && (decide (ofNat (length (enS false a)) ≤ ofNat (length (enS false a))) && decide (toNat (ofNat (length (enS false a))) * 1 ≤ 140737488355328)) then loopRun (B15_0 n) 1 25 2096912 n (S15_0 a (0) (replicate (toNat (ofNat (length (enS false a)))) [D.int IntKind.u8 (0)])) (k15_1 n) else none := by kernel_rfl
theorem m15 (a : List UInt8) (hpre : (o15 a).1 = true) : evFn ⟨Go.Proofs.Try.prog, Hx, 15⟩ T14.call (a.length + 1) Go.Proofs.Try.f15 [[.sl false 1 (enS false a)]] = some (o15 a).2 := by
  refine (r15 a _).trans ?_
  show _ = (some ([[.sl true 1 (enS true (a))]], []) : Option (List Row × List Row))
  replace hpre : (decide (a.length ≤ 1048576)) = true := hpre
  have hlen : a.length ≤ 1048576 := of_decide_eq_true hpre
  rw [enS_length, make_ok (by omega), cond_true, toNat_of]
  refine (congrArg (fun z => loopRun _ _ _ _ _ (S15_0 a 0 z) _) (enS_rep true a.length (En.nil : UInt8))).trans ?_
  refine loop_list (xs := a) (fun i (ys : List UInt8) => S15_0 a (Int.ofNat i) (enS true ys)) (fun i ys => ys.length = a.length ∧ ys.take i = a.take i) (fun _ _ _ => some ([[D.sl true 1 (enS true a)]], [])) ?_ ?_ (a.length + 1) _ (by omega) ⟨List.length_replicate .., rfl⟩
  · rintro ys ⟨h2, h3⟩ f
    refine (q15_0 a _ _ _ f _).trans ?_
    simp only [enS_length, dec_lt, Nat.lt_irrefl, decide_false, cond_false]
    refine (aX15_2 a _ _ _).trans ?_
    rw [List.take_length, ← h2, List.take_length] at h3
    subst h3
    rfl
  · rintro i ys hi ⟨h2, h3⟩ f hf
    refine (q15_0 a _ _ _ f _).trans ?_
    simp only [enS_length, toNat_of, dec_lt, dec_ge, enS_get _ hi, h2, hi, wrap_succ (show i < 4611686018427387904 by omega), Nat.zero_add, decide_true, cond_true, Bool.and_self]
    exact (congrArg f (congrArg (S15_0 a _) (enS_set true ys i a[i]))).trans (hf (ys.set i a[i]) ⟨by rw [List.length_set]; exact h2, take_set_succ hi h2 h3⟩)
theorem s15 : SoundAt Go.Proofs.Try.prog Hx 15 c15 := soundAt_of T14_sound mixed Go.Proofs.Try.func15 (by kernel_rfl) (by
  intro rows r h
  unfold c15 at h
  split at h
  · rename_i a
    obtain ⟨hp, hr⟩ := Prod.mk.inj (Option.some.inj h)
    subst hr
    simp only [Bool.and_eq_true] at hp
    obtain ⟨hs0, hp⟩ := hp
    obtain ⟨xs0, rfl⟩ := isS_ex hs0
    simp only [deS_enS] at hp ⊢
    exact ⟨_, m15 xs0 hp⟩
  · cases h)
def T15 : Table := (15, c15) :: T14
theorem T15_sound : Table.Sound Go.Proofs.Try.prog Hx T15 := Table.sound_cons s15 T14_sound
/- eqVec -/
def o49 (a : Vec) (b : Vec) : Bool × List Row × List Row := (sameB a b, [[.bool (true)]], [])
def c49 : Contract
  | [[.int .i64 a_Root, .int .i64 a_Cost, .int .i64 a_Bridge, .int .i64 a_Port], [.int .i64 b_Root, .int .i64 b_Cost, .int .i64 b_Bridge, .int .i64 b_Port]] => some ((o49 ⟨a_Root, a_Cost, a_Bridge, a_Port⟩ ⟨b_Root, b_Cost, b_Bridge, b_Port⟩).1, (o49 ⟨a_Root, a_Cost, a_Bridge, a_Port⟩ ⟨b_Root, b_Cost, b_Bridge, b_Port⟩).2.1, (o49 ⟨a_Root, a_Cost, a_Bridge, a_Port⟩ ⟨b_Root, b_Cost, b_Bridge, b_Port⟩).2.2)
  | _ => none

theorem r49 (a : Vec) (b : Vec) (n : Nat) : evFn ⟨prog, Hx, 49⟩ T15.call n Go.Proofs.Try.f49 [[.int .i64 a.Root, .int .i64 a.Cost, .int .i64 a.Bridge, .int .i64 a.Port], [.int .i64 b.Root, .int .i64 b.Cost, .int .i64 b.Bridge, .int .i64 b.Port]] = bif Vec.Root a != Vec.Root b then some ([[D.bool false]], []) else bif Vec.Cost a != Vec.Cost b then some ([[D.bool false]], []) else bif Vec.Bridge a != Vec.Bridge b then some ([[D.bool false]], []) else bif Vec.Port a != Vec.Port b then some ([[D.bool false]], []) else some ([[D.bool true]], []) := by kernel_rfl
theorem m49 (a : Vec) (b : Vec) (hpre : (o49 a b).1 = true) : evFn ⟨Go.Proofs.Try.prog, Hx, 49⟩ T15.call 0 Go.Proofs.Try.f49 [[.int .i64 a.Root, .int .i64 a.Cost, .int .i64 a.Bridge, .int .i64 a.Port], [.int .i64 b.Root, .int .i64 b.Cost, .int .i64 b.Bridge, .int .i64 b.Port]] = some (o49 a b).2 := by
  refine (r49 a b _).trans ?_
  show _ = (some ([[.bool (true)]], []) : Option (List Row × List Row))
  replace hpre : (sameB a b) = true := hpre
  have := sameB_eq hpre
  subst this
  simp only [bne_self_eq_false, cond_false, sameB_self, cond_true, Bool.not_true]
theorem s49 : SoundAt Go.Proofs.Try.prog Hx 49 c49 := soundAt_of T15_sound mixed Go.Proofs.Try.func49 (by kernel_rfl) (by
  intro rows r h
  unfold c49 at h
  split at h
  · rename_i a_Root a_Cost a_Bridge a_Port b_Root b_Cost b_Bridge b_Port
    obtain ⟨hp, hr⟩ := Prod.mk.inj (Option.some.inj h)
    subst hr
    exact ⟨_, m49 ⟨a_Root, a_Cost, a_Bridge, a_Port⟩ ⟨b_Root, b_Cost, b_Bridge, b_Port⟩ hp⟩
  · cases h)
def T49 : Table := (49, c49) :: T15
theorem T49_sound : Table.Sound Go.Proofs.Try.prog Hx T49 := Table.sound_cons s49 T15_sound
/- eqBpdu -/
def o17 (a : Bpdu) (b : Bpdu) : Bool × List Row × List Row := (sameB a b, [[.bool (true)]], [])
def c17 : Contract
  | [[.bool a_Change, .bool a_Ask, .bool a_Agree, .bool a_Learn, .bool a_Open, .int .i64 a_Role, .int .i64 a_Vec_Root, .int .i64 a_Vec_Cost, .int .i64 a_Vec_Bridge, .int .i64 a_Vec_Port, .int .i64 a_Hops], [.bool b_Change, .bool b_Ask, .bool b_Agree, .bool b_Learn, .bool b_Open, .int .i64 b_Role, .int .i64 b_Vec_Root, .int .i64 b_Vec_Cost, .int .i64 b_Vec_Bridge, .int .i64 b_Vec_Port, .int .i64 b_Hops]] => some ((o17 ⟨a_Change, a_Ask, a_Agree, a_Learn, a_Open, a_Role, ⟨a_Vec_Root, a_Vec_Cost, a_Vec_Bridge, a_Vec_Port⟩, a_Hops⟩ ⟨b_Change, b_Ask, b_Agree, b_Learn, b_Open, b_Role, ⟨b_Vec_Root, b_Vec_Cost, b_Vec_Bridge, b_Vec_Port⟩, b_Hops⟩).1, (o17 ⟨a_Change, a_Ask, a_Agree, a_Learn, a_Open, a_Role, ⟨a_Vec_Root, a_Vec_Cost, a_Vec_Bridge, a_Vec_Port⟩, a_Hops⟩ ⟨b_Change, b_Ask, b_Agree, b_Learn, b_Open, b_Role, ⟨b_Vec_Root, b_Vec_Cost, b_Vec_Bridge, b_Vec_Port⟩, b_Hops⟩).2.1, (o17 ⟨a_Change, a_Ask, a_Agree, a_Learn, a_Open, a_Role, ⟨a_Vec_Root, a_Vec_Cost, a_Vec_Bridge, a_Vec_Port⟩, a_Hops⟩ ⟨b_Change, b_Ask, b_Agree, b_Learn, b_Open, b_Role, ⟨b_Vec_Root, b_Vec_Cost, b_Vec_Bridge, b_Vec_Port⟩, b_Hops⟩).2.2)
  | _ => none

theorem r17 (a : Bpdu) (b : Bpdu) (n : Nat) : evFn ⟨prog, Hx, 17⟩ T49.call n Go.Proofs.Try.f17 [[.bool a.Change, .bool a.Ask, .bool a.Agree, .bool a.Learn, .bool a.Open, .int .i64 a.Role, .int .i64 a.Vec.Root, .int .i64 a.Vec.Cost, .int .i64 a.Vec.Bridge, .int .i64 a.Vec.Port, .int .i64 a.Hops], [.bool b.Change, .bool b.Ask, .bool b.Agree, .bool b.Learn, .bool b.Open, .int .i64 b.Role, .int .i64 b.Vec.Root, .int .i64 b.Vec.Cost, .int .i64 b.Vec.Bridge, .int .i64 b.Vec.Port, .int .i64 b.Hops]] = bif Bpdu.Change a != Bpdu.Change b then some ([[D.bool false]], []) else bif Bpdu.Ask a != Bpdu.Ask b then some ([[D.bool false]], []) else bif Bpdu.Agree a != Bpdu.Agree b then some ([[D.bool false]], []) else bif Bpdu.Learn a != Bpdu.Learn b then some ([[D.bool false]], []) else bif Bpdu.Open a != Bpdu.Open b then some ([[D.bool false]], []) else bif Bpdu.Role a != Bpdu.Role b then some ([[D.bool false]], []) else bif sameB (Bpdu.Vec a) (Bpdu.Vec b) then bif Bpdu.Hops a != Bpdu.Hops b then some ([[D.bool false]], []) else some ([[D.bool true]], []) else none := by kernel_rfl
theorem m17 (a : Bpdu) (b : Bpdu) (hpre : (o17 a b).1 = true) : evFn ⟨Go.Proofs.Try.prog, Hx, 17⟩ T49.call 0 Go.Proofs.Try.f17 [[.bool a.Change, .bool a.Ask, .bool a.Agree, .bool a.Learn, .bool a.Open, .int .i64 a.Role, .int .i64 a.Vec.Root, .int .i64 a.Vec.Cost, .int .i64 a.Vec.Bridge, .int .i64 a.Vec.Port, .int .i64 a.Hops], [.bool b.Change, .bool b.Ask, .bool b.Agree, .bool b.Learn, .bool b.Open, .int .i64 b.Role, .int .i64 b.Vec.Root, .int .i64 b.Vec.Cost, .int .i64 b.Vec.Bridge, .int .i64 b.Vec.Port, .int .i64 b.Hops]] = some (o17 a b).2 := by
  refine (r17 a b _).trans ?_
  show _ = (some ([[.bool (true)]], []) : Option (List Row × List Row))
  replace hpre : (sameB a b) = true := hpre
  have := sameB_eq hpre
  subst this
  simp only [bne_self_eq_false, cond_false, sameB_self, cond_true, Bool.not_true]
theorem s17 : SoundAt Go.Proofs.Try.prog Hx 17 c17 := soundAt_of T49_sound mixed Go.Proofs.Try.func17 (by kernel_rfl) (by
  intro rows r h
  unfold c17 at h
  split at h
  · rename_i a_Change a_Ask a_Agree a_Learn a_Open a_Role a_Vec_Root a_Vec_Cost a_Vec_Bridge a_Vec_Port a_Hops b_Change b_Ask b_Agree b_Learn b_Open b_Role b_Vec_Root b_Vec_Cost b_Vec_Bridge b_Vec_Port b_Hops
    obtain ⟨hp, hr⟩ := Prod.mk.inj (Option.some.inj h)
    subst hr
    exact ⟨_, m17 ⟨a_Change, a_Ask, a_Agree, a_Learn, a_Open, a_Role, ⟨a_Vec_Root, a_Vec_Cost, a_Vec_Bridge, a_Vec_Port⟩, a_Hops⟩ ⟨b_Change, b_Ask, b_Agree, b_Learn, b_Open, b_Role, ⟨b_Vec_Root, b_Vec_Cost, b_Vec_Bridge, b_Vec_Port⟩, b_Hops⟩ hp⟩
  · cases h)
def T17 : Table := (17, c17) :: T49
theorem T17_sound : Table.Sound Go.Proofs.Try.prog Hx T17 := Table.sound_cons s17 T49_sound
/- eqByteS -/
def o11 (a : List UInt8) (b : List UInt8) : Bool × List Row × List Row := (sameB a b && (decide (a.length ≤ 1048576)), [[.bool (true)]], [])
def c11 : Contract
  | [[.sl false 1 a], [.sl false 1 b]] => some (isS UInt8 false a && isS UInt8 false b && (o11 (deS UInt8 a) (deS UInt8 b)).1, (o11 (deS UInt8 a) (deS UInt8 b)).2.1, (o11 (deS UInt8 a) (deS UInt8 b)).2.2)
  | _ => none

def k11_0 (n : Nat) : Ex → St → RR := kThen (fun st ↦ runCode (Ctx.mk prog Hx (11)) (Table.call T17) n (codeAt [1, 1, 1] (bodyOf Go.Proofs.Try.f11)) (Lv.mk 16 [] 16) st (kLeave (Ctx.P (Ctx.mk prog Hx (11))) (List.zip (Array.toList (Go.Func.resultTypes Go.Proofs.Try.f11)) (Array.toList (Go.Func.results Go.Proofs.Try.f11))) [] [])) (kLeave (Ctx.P (Ctx.mk prog Hx (11))) (List.zip (Array.toList (Go.Func.resultTypes Go.Proofs.Try.f11)) (Array.toList (Go.Func.results Go.Proofs.Try.f11))) [] [])
def k11_1 (n : Nat) : Ex → St → RR := kBlock (0) (k11_0 n)
def S11_0 (a : List UInt8) (b : List UInt8) (i0 : Int) : St := St.mk [TV.v false [C.d (D.sl false 1 (enS false a))], TV.v false [C.d (D.sl false 1 (enS false b))], U_, U_, U_, I_ i0, U_, U_, U_, U_, U_, U_, U_, U_, U_, U_, U_, U_, U_, U_, U_, U_, U_, U_, U_, U_] []
def B11_0 (n : Nat) : St → (Ex → St → RR) → RR := runCode (Ctx.mk prog Hx (11)) (Table.call T17) n (codeAt [1, 1, 0, 1, 0, 0] (bodyOf Go.Proofs.Try.f11)) (Lv.mk 35 [(0, 0)] 16)
def X11_2 (a : List UInt8) (b : List UInt8) (i0 : Int) : St := St.mk [TV.v false [C.d (D.sl false 1 (enS false a))], TV.v false [C.d (D.sl false 1 (enS false b))], U_, U_, B_ false, I_ i0, U_, U_, U_, U_, U_, I_ i0, TV.v false [C.d (D.sl false 1 (enS false a))], I_ (ofNat (length (enS false a))), B_ true, U_, U_, TV.v false [C.d (D.sl false 1 (enS false a))], I_ i0, TV.v false [C.rptr (getD (enS false a) (toNat i0) [])], TV.v false [C.d (D.int IntKind.u8 (D.num (getD (getD (enS false a) (toNat i0) []) 0 D.dead)))], TV.v false [C.d (D.sl false 1 (enS false b))], I_ i0, TV.v false [C.rptr (getD (enS false b) (toNat i0) [])], TV.v false [C.d (D.int IntKind.u8 (D.num (getD (getD (enS false b) (toNat i0) []) 0 D.dead)))], B_ true] []
def X11_3 (a : List UInt8) (b : List UInt8) (i0 : Int) : St := St.mk [TV.v false [C.d (D.sl false 1 (enS false a))], TV.v false [C.d (D.sl false 1 (enS false b))], U_, U_, U_, I_ i0, U_, U_, U_, U_, U_, I_ i0, TV.v false [C.d (D.sl false 1 (enS false a))], I_ (ofNat (length (enS false a))), B_ false, U_, U_, U_, U_, U_, U_, U_, U_, U_, U_, U_] []
theorem q11_0 (a : List UInt8) (b : List UInt8) (n : Nat) (i0 : Int) (f : St → RR) (K : Ex → St → RR) : B11_0 n (S11_0 a b i0) (kThen (fun st ↦ f (St.head 0 35 67106864 st)) K) = bif decide (i0 < ofNat (length (enS false a))) then bif decide (0 ≤ i0) && decide (i0 < ofNat (length (enS false a))) then bif Leaf.fit false (Leaf.int IntKind.u8) (getD (getD (enS false a) (toNat i0) []) 0 D.dead) && true then bif decide (0 ≤ i0) && decide (i0 < ofNat (length (enS false b))) then bif Leaf.fit false (Leaf.int IntKind.u8) (getD (getD (enS false b) (toNat i0) []) 0 D.dead) && true then bif D.num (getD (getD (enS false a) (toNat i0) []) 0 D.dead) != D.num (getD (getD (enS false b) (toNat i0) []) 0 D.dead) then K Ex.ret (X11_2 a b i0) else f (S11_0 a b (wrap i64 (i0 + 1))) else none else none else none else none else K (Ex.exit 0) (X11_3 a b i0) := by kernel_rfl
theorem aX11_2 (a : List UInt8) (b : List UInt8) (n : Nat) (i0 : Int) : k11_1 n Ex.ret (X11_2 a b i0) = some ([[D.bool false]], []) := by kernel_rfl
theorem aX11_3 (a : List UInt8) (b : List UInt8) (n : Nat) (i0 : Int) : k11_1 n (Ex.exit 0) (X11_3 a b i0) = some ([[D.bool true]], []) := by kernel_rfl
theorem r11 (a : List UInt8) (b : List UInt8) (n : Nat) : evFn ⟨prog, Hx, 11⟩ T17.call n Go.Proofs.Try.f11 [[.sl false 1 (enS false a)], [.sl false 1 (enS false b)]] = bif ofNat (length (enS false a)) != ofNat (length (enS false b)) then some ([[D.bool false]], []) else loopRun (B11_0 n) 0 35 67106864 n (S11_0 a b (0)) (k11_1 n) := by kernel_rfl
theorem m11 (a : List UInt8) (b : List UInt8) (hpre : (o11 a b).1 = true) : evFn ⟨Go.Proofs.Try.prog, Hx, 11⟩ T17.call (a.length + 1) Go.Proofs.Try.f11 [[.sl false 1 (enS false a)], [.sl false 1 (enS false b)]] = some (o11 a b).2 := by
  refine (r11 a b _).trans ?_
  show _ = (some ([[.bool (true)]], []) : Option (List Row × List Row))
  replace hpre : (sameB a b && (decide (a.length ≤ 1048576))) = true := hpre
  rw [Bool.and_eq_true] at hpre
  obtain ⟨h0, h1⟩ := hpre
  have hlen : a.length ≤ 1048576 := of_decide_eq_true h1
  have := sameB_eq h0
  subst this
  simp only [bne_self_eq_false, cond_false]
  refine loop_list (xs := a) (fun i (_ : Unit) => S11_0 a a (Int.ofNat i)) (fun _ _ => True) (fun _ _ _ => some ([[D.bool true]], [])) ?_ ?_ (a.length + 1) () (by omega) trivial
  · rintro _ _ f
    refine (q11_0 a a _ _ f _).trans ?_
    simp only [enS_length, dec_lt, Nat.lt_irrefl, decide_false, cond_false]
    exact aX11_3 a a _ _
  · rintro i _ hi _ f hf
    refine (q11_0 a a _ _ f _).trans ?_
    simp only [enS_length, toNat_of, dec_lt, dec_ge, enS_get _ hi, hi, wrap_succ (show i < 4611686018427387904 by omega), decide_true, cond_true, Bool.and_self, sameB_self, bne_self_eq_false, cond_false]
    exact hf () trivial
theorem s11 : SoundAt Go.Proofs.Try.prog Hx 11 c11 := soundAt_of T17_sound mixed Go.Proofs.Try.func11 (by kernel_rfl) (by
  intro rows r h
  unfold c11 at h
  split at h
  · rename_i a b
    obtain ⟨hp, hr⟩ := Prod.mk.inj (Option.some.inj h)
    subst hr
    simp only [Bool.and_eq_true] at hp
    obtain ⟨⟨hs0, hs1⟩, hp⟩ := hp
    obtain ⟨xs0, rfl⟩ := isS_ex hs0
    obtain ⟨xs1, rfl⟩ := isS_ex hs1
    simp only [deS_enS] at hp ⊢
    exact ⟨_, m11 xs0 xs1 hp⟩
  · cases h)
def T11 : Table := (11, c11) :: T17
theorem T11_sound : Table.Sound Go.Proofs.Try.prog Hx T11 := Table.sound_cons s11 T17_sound
/- markByteS -/
def o12 (a : List UInt8) (k : Int) : Bool × List Row × List Row := (decide (0 ≤ k) && (decide (k + cntS oneN a ≤ 4611686018427387904) && decide (a.length ≤ 1152921504606846976)), [[.int .i64 (k + cntS oneN a)]], [[.sl true 1 (enS true (markS byteMk oneN a k))]])
def c12 : Contract
  | [[.sl true 1 a], [.int .i64 k]] => some (isS UInt8 true a && (o12 (deS UInt8 a) k).1, (o12 (deS UInt8 a) k).2.1, (o12 (deS UInt8 a) k).2.2)
  | _ => none

def k12_0 (n : Nat) : Ex → St → RR := kThen (fun st ↦ runCode (Ctx.mk prog Hx (12)) (Table.call T11) n (codeAt [1, 1] (bodyOf Go.Proofs.Try.f12)) (Lv.mk 16 [] 16) st (kLeave (Ctx.P (Ctx.mk prog Hx (12))) (List.zip (Array.toList (Go.Func.resultTypes Go.Proofs.Try.f12)) (Array.toList (Go.Func.results Go.Proofs.Try.f12))) [] [C.view 0 0 0 [] 1 none])) (kLeave (Ctx.P (Ctx.mk prog Hx (12))) (List.zip (Array.toList (Go.Func.resultTypes Go.Proofs.Try.f12)) (Array.toList (Go.Func.results Go.Proofs.Try.f12))) [] [C.view 0 0 0 [] 1 none])
def k12_1 (n : Nat) : Ex → St → RR := kBlock (0) (k12_0 n)
def S12_0 (i0 : Int) (i1 : Int) (es2 : List (List D)) : St := St.mk [TV.v false [C.view 0 0 0 [] 1 none], I_ i0, U_, U_, U_, I_ i1, U_, U_, U_, U_, U_, U_, U_, U_, U_, U_, U_, U_, U_, U_] [Root.mk false 1 es2 0 0 true true false]
def B12_0 (n : Nat) : St → (Ex → St → RR) → RR := runCode (Ctx.mk prog Hx (12)) (Table.call T11) n (codeAt [1, 0, 1, 0, 0] (bodyOf Go.Proofs.Try.f12)) (Lv.mk 35 [(0, 2)] 16)
def X12_2 (i0 : Int) (i1 : Int) (es2 : List (List D)) : St := St.mk [TV.v false [C.view 0 0 0 [] 1 none], I_ i0, U_, U_, U_, I_ i1, I_ i1, TV.v false [C.view 0 0 0 [] 1 none], I_ (ofNat (length es2)), B_ false, U_, U_, U_, U_, U_, U_, U_, U_, U_, U_] [Root.mk false 1 es2 0 0 true true false]
theorem q12_0 (n : Nat) (i0 : Int) (i1 : Int) (es2 : List (List D)) (f : St → RR) (K : Ex → St → RR) : B12_0 n (S12_0 i0 i1 es2) (kThen (fun st ↦ f (St.head 1 35 524258 st)) K) = bif decide (i1 < ofNat (length es2)) then bif decide (0 ≤ i1) && decide (i1 < ofNat (length es2)) then f (S12_0 (wrap i64 (i0 + 1)) (wrap i64 (i1 + 1)) (set es2 (0 + toNat i1) [D.int IntKind.u8 (wrap IntKind.u8 i0)])) else none else K (Ex.exit 0) (X12_2 i0 i1 es2) := by kernel_rfl
theorem aX12_2 (n : Nat) (i0 : Int) (i1 : Int) (es2 : List (List D)) : k12_1 n (Ex.exit 0) (X12_2 i0 i1 es2) = some ([[D.int i64 i0]], [[D.sl true 1 es2]]) := by kernel_rfl
theorem r12 (a : List UInt8) (k : Int) (n : Nat) : evFn ⟨prog, Hx, 12⟩ T11.call n Go.Proofs.Try.f12 [[.sl true 1 (enS true a)], [.int .i64 k]] = loopRun (B12_0 n) 1 35 524258 n (S12_0 k (0) (enS true a)) (k12_1 n) := by kernel_rfl
theorem m12 (a : List UInt8) (k : Int) (hpre : (o12 a k).1 = true) : evFn ⟨Go.Proofs.Try.prog, Hx, 12⟩ T11.call (a.length + 1) Go.Proofs.Try.f12 [[.sl true 1 (enS true a)], [.int .i64 k]] = some (o12 a k).2 := by
  refine (r12 a k _).trans ?_
  show _ = (some ([[.int .i64 (k + cntS oneN a)]], [[.sl true 1 (enS true (markS byteMk oneN a k))]]) : Option (List Row × List Row))
  replace hpre : (decide (0 ≤ k) && (decide (k + cntS oneN a ≤ 4611686018427387904) && decide (a.length ≤ 1152921504606846976))) = true := hpre
  simp only [Bool.and_eq_true, decide_eq_true_eq] at hpre
  obtain ⟨h0, h1, h2⟩ := hpre
  refine loop_list (xs := a) (fun i (v : List UInt8 × Int) => S12_0 v.2 (Int.ofNat i) (enS true (v.1 ++ a.drop i))) (fun i v => v.1.length = i ∧ 0 ≤ v.2 ∧ v.2 + cntS oneN (a.drop i) ≤ 4611686018427387904) (fun _ v rest => some ([[D.int .i64 (v.2 + cntS oneN rest)]], [[D.sl true 1 (enS true (v.1 ++ markS byteMk oneN rest v.2))]])) ?_ ?_ (a.length + 1) ([], k) (by omega) ⟨rfl, h0, h1⟩
  · rintro ⟨pre, k⟩ ⟨hl, hk0, hk1⟩ f
    refine (q12_0 _ _ _ _ f _).trans ?_
    simp only [enS_length, List.drop_length, List.append_nil, hl, dec_lt, Nat.lt_irrefl, decide_false, cond_false]
    refine (aX12_2 _ _ _ _).trans ?_
    simp only [List.append_nil, cntS, markS, Int.add_zero]
  · rintro i ⟨pre, k⟩ hi ⟨hl, hk0, hk1⟩ f hf
    simp only at hl hk0 hk1
    rw [List.drop_eq_getElem_cons hi] at hk1
    generalize hx : a[i] = x at hk1 ⊢
    have hc := cntS_nonneg (n := oneN) oneN_pos (a.drop (i + 1))
    have hn : oneN x = 1 := rfl
    simp only [cntS, hn] at hk1
    refine (q12_0 _ _ _ _ f _).trans ?_
    rw [List.drop_eq_getElem_cons hi, hx]
    have hm := mid_get pre x (a.drop (i + 1)) hl
    have hat := mid_at pre x (a.drop (i + 1)) hl hm
    have hs : ∀ R, ((enS true (pre ++ x :: a.drop (i + 1))).set i R).getD i [] = R := fun R => getD_set_same _ _ _ _ (by rw [enS_length]; exact hm)
    simp only [List.length_set, enS_length, toNat_of, Nat.zero_add, dec_lt, dec_ge, hm, hs, List.set_set, enS_get _ hm, hat, decide_true, cond_true, Bool.and_self, wrap_succ (show i < 4611686018427387904 by omega), En.enc, List.append_eq, List.take_succ_cons, List.take_zero, List.drop_succ_cons, List.drop_zero, List.cons_append, List.nil_append]
    have hw1 : IntKind.wrap IntKind.i64 (k + 1) = k + 1 := wrap_le (by omega) (by omega)
    simp only [hw1]
    have he : k + 1 = k + oneN x := by omega
    rw [← u8_wrap k]
    refine (congrArg f (congrArg (S12_0 _ _) ((enS_set true _ i (byteMk x k)).trans (congrArg (enS true) (mid_set pre x _ _ hl))))).trans ?_
    refine (hf (pre ++ [byteMk x k], k + 1) ⟨by simp [hl], by simp only; omega, by simp only; omega⟩).trans ?_
    show _ = some ([[D.int .i64 (k + (oneN x + cntS oneN (a.drop (i + 1))))]], [[D.sl true 1 (enS true (pre ++ (byteMk x k :: markS byteMk oneN (a.drop (i + 1)) (k + oneN x))))]])
    rw [he, List.append_assoc, List.singleton_append, Int.add_assoc]
theorem s12 : SoundAt Go.Proofs.Try.prog Hx 12 c12 := soundAt_of T11_sound mixed Go.Proofs.Try.func12 (by kernel_rfl) (by
  intro rows r h
  unfold c12 at h
  split at h
  · rename_i a k
    obtain ⟨hp, hr⟩ := Prod.mk.inj (Option.some.inj h)
    subst hr
    simp only [Bool.and_eq_true] at hp
    obtain ⟨hs0, hp⟩ := hp
    obtain ⟨xs0, rfl⟩ := isS_ex hs0
    simp only [deS_enS] at hp ⊢
    exact ⟨_, m12 xs0 k hp⟩
  · cases h)
def T12 : Table := (12, c12) :: T11
theorem T12_sound : Table.Sound Go.Proofs.Try.prog Hx T12 := Table.sound_cons s12 T11_sound
end Go.Ev
end
