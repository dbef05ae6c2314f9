/- Contracts of functions, each by its evaluation. -/
import Derived.Test.YtgmmhnloobedjaaEvMd
import Derived.Test.YtgmmhnloobedjaaProg
import Derived.KernelRfl
import Derived.Test.YtgmmhnloobedjaaFBpdu
noncomputable section
namespace Go.Ev
open Go.RowKit Go.Md
set_option linter.unusedVariables false
set_option linter.unusedSimpArgs false
set_option maxRecDepth 100000
end Go.Ev
namespace Go.Md
open Go Go.Ev
def oneN {α : Type} (_ : α) : Int := 1
theorem oneN_pos {α : Type} (x : α) : 0 ≤ oneN x := by show (0 : Int) ≤ 1; omega
def byteMk (_ : UInt8) (k : Int) : UInt8 := (IntKind.wrap IntKind.u8 k).toNat.toUInt8
end Go.Md
namespace Go.Ev
open Go.Md
/- toVec -/
def o37 (a : Vec) : Bool × List Row × List Row := (true, [[.int .i64 (a).Root, .int .i64 (a).Cost, .int .i64 (a).Bridge, .int .i64 (a).Port]], [])
def c37 : Contract
  | [[.int .i64 a_Root, .int .i64 a_Cost, .int .i64 a_Bridge, .int .i64 a_Port]] => some ((o37 ⟨a_Root, a_Cost, a_Bridge, a_Port⟩).1, (o37 ⟨a_Root, a_Cost, a_Bridge, a_Port⟩).2.1, (o37 ⟨a_Root, a_Cost, a_Bridge, a_Port⟩).2.2)
  | _ => none

theorem r37 (a : Vec) (n : Nat) : evFn ⟨Go.Proofs.Try.prog, Hx, 37⟩ T31.call n Go.Proofs.Try.f37 [[.int .i64 a.Root, .int .i64 a.Cost, .int .i64 a.Bridge, .int .i64 a.Port]] = some ([[D.int IntKind.i64 (Vec.Root a), D.int IntKind.i64 (Vec.Cost a), D.int IntKind.i64 (Vec.Bridge a), D.int IntKind.i64 (Vec.Port a)]], []) := by kernel_rfl
theorem m37 (a : Vec) (hpre : (o37 a).1 = true) : evFn ⟨Go.Proofs.Try.prog, Hx, 37⟩ T31.call 0 Go.Proofs.Try.f37 [[.int .i64 a.Root, .int .i64 a.Cost, .int .i64 a.Bridge, .int .i64 a.Port]] = some (o37 a).2 := by
  refine (r37 a _).trans ?_
  show _ = (some ([[.int .i64 (a).Root, .int .i64 (a).Cost, .int .i64 (a).Bridge, .int .i64 (a).Port]], []) : Option (List Row × List Row))
  replace hpre : (true) = true := hpre
  rfl
theorem s37 : SoundAt Go.Proofs.Try.prog Hx 37 c37 := soundAt_of T31_sound mixed Go.Proofs.Try.func37 (by kernel_rfl) (by
  intro rows r h
  unfold c37 at h
  split at h
  · rename_i a_Root a_Cost a_Bridge a_Port
    obtain ⟨hp, hr⟩ := Prod.mk.inj (Option.some.inj h)
    subst hr
    exact ⟨_, m37 ⟨a_Root, a_Cost, a_Bridge, a_Port⟩ hp⟩
  · cases h)
def T37 : Table := (37, c37) :: T31
theorem T37_sound : Table.Sound Go.Proofs.Try.prog Hx T37 := Table.sound_cons s37 T31_sound
/- toBpdu -/
def o10 (a : Bpdu) : Bool × List Row × List Row := (true, [[.bool (a).Change, .bool (a).Ask, .bool (a).Agree, .bool (a).Learn, .bool (a).Open, .int .i64 (a).Role, .int .i64 (a).Vec.Root, .int .i64 (a).Vec.Cost, .int .i64 (a).Vec.Bridge, .int .i64 (a).Vec.Port, .int .i64 (a).Hops]], [])
def c10 : Contract
  | [[.bool a_Change, .bool a_Ask, .bool a_Agree, .bool a_Learn, .bool a_Open, .int .i64 a_Role, .int .i64 a_Vec_Root, .int .i64 a_Vec_Cost, .int .i64 a_Vec_Bridge, .int .i64 a_Vec_Port, .int .i64 a_Hops]] => some ((o10 ⟨a_Change, a_Ask, a_Agree, a_Learn, a_Open, a_Role, ⟨a_Vec_Root, a_Vec_Cost, a_Vec_Bridge, a_Vec_Port⟩, a_Hops⟩).1, (o10 ⟨a_Change, a_Ask, a_Agree, a_Learn, a_Open, a_Role, ⟨a_Vec_Root, a_Vec_Cost, a_Vec_Bridge, a_Vec_Port⟩, a_Hops⟩).2.1, (o10 ⟨a_Change, a_Ask, a_Agree, a_Learn, a_Open, a_Role, ⟨a_Vec_Root, a_Vec_Cost, a_Vec_Bridge, a_Vec_Port⟩, a_Hops⟩).2.2)
  | _ => none

theorem r10 (a : Bpdu) (n : Nat) : evFn ⟨Go.Proofs.Try.prog, Hx, 10⟩ T37.call n Go.Proofs.Try.f10 [[.bool a.Change, .bool a.Ask, .bool a.Agree, .bool a.Learn, .bool a.Open, .int .i64 a.Role, .int .i64 a.Vec.Root, .int .i64 a.Vec.Cost, .int .i64 a.Vec.Bridge, .int .i64 a.Vec.Port, .int .i64 a.Hops]] = some ([[D.bool (Bpdu.Change a), D.bool (Bpdu.Ask a), D.bool (Bpdu.Agree a), D.bool (Bpdu.Learn a), D.bool (Bpdu.Open a), D.int IntKind.i64 (Bpdu.Role a), D.int IntKind.i64 (Vec.Root (Bpdu.Vec a)), D.int IntKind.i64 (Vec.Cost (Bpdu.Vec a)), D.int IntKind.i64 (Vec.Bridge (Bpdu.Vec a)), D.int IntKind.i64 (Vec.Port (Bpdu.Vec a)), D.int IntKind.i64 (Bpdu.Hops a)]], []) := by kernel_rfl
theorem m10 (a : Bpdu) (hpre : (o10 a).1 = true) : evFn ⟨Go.Proofs.Try.prog, Hx, 10⟩ T37.call 0 Go.Proofs.Try.f10 [[.bool a.Change, .bool a.Ask, .bool a.Agree, .bool a.Learn, .bool a.Open, .int .i64 a.Role, .int .i64 a.Vec.Root, .int .i64 a.Vec.Cost, .int .i64 a.Vec.Bridge, .int .i64 a.Vec.Port, .int .i64 a.Hops]] = some (o10 a).2 := by
  refine (r10 a _).trans ?_
  show _ = (some ([[.bool (a).Change, .bool (a).Ask, .bool (a).Agree, .bool (a).Learn, .bool (a).Open, .int .i64 (a).Role, .int .i64 (a).Vec.Root, .int .i64 (a).Vec.Cost, .int .i64 (a).Vec.Bridge, .int .i64 (a).Vec.Port, .int .i64 (a).Hops]], []) : Option (List Row × List Row))
  replace hpre : (true) = true := hpre
  rfl
theorem s10 : SoundAt Go.Proofs.Try.prog Hx 10 c10 := soundAt_of T37_sound mixed Go.Proofs.Try.func10 (by kernel_rfl) (by
  intro rows r h
  unfold c10 at h
  split at h
  · rename_i a_Change a_Ask a_Agree a_Learn a_Open a_Role a_Vec_Root a_Vec_Cost a_Vec_Bridge a_Vec_Port a_Hops
    obtain ⟨hp, hr⟩ := Prod.mk.inj (Option.some.inj h)
    subst hr
    exact ⟨_, m10 ⟨a_Change, a_Ask, a_Agree, a_Learn, a_Open, a_Role, ⟨a_Vec_Root, a_Vec_Cost, a_Vec_Bridge, a_Vec_Port⟩, a_Hops⟩ hp⟩
  · cases h)
def T10 : Table := (10, c10) :: T37
theorem T10_sound : Table.Sound Go.Proofs.Try.prog Hx T10 := Table.sound_cons s10 T37_sound
/- eqByteS -/
def o33 (a : List UInt8) (b : List UInt8) : Bool × List Row × List Row := (sameB a b && (decide (a.length ≤ 1048576)), [[.bool (true)]], [])
def c33 : Contract
  | [[.sl false 1 a], [.sl false 1 b]] => some (isS UInt8 false a && isS UInt8 false b && (o33 (deS UInt8 a) (deS UInt8 b)).1, (o33 (deS UInt8 a) (deS UInt8 b)).2.1, (o33 (deS UInt8 a) (deS UInt8 b)).2.2)
  | _ => none

noncomputable def k33_0 (n : Nat) : Ex → St → Option (List Row × List Row) := kThen (fun st ↦ runCode (Ctx.mk Go.Proofs.Try.prog Hx (33)) (Table.call T10) n (codeAt [1, 1, 1] (bodyOf Go.Proofs.Try.f33)) (Lv.mk 16 [] 16) st (kLeave (Ctx.P (Ctx.mk Go.Proofs.Try.prog Hx (33))) (List.zip (Array.toList (Go.Func.resultTypes Go.Proofs.Try.f33)) (Array.toList (Go.Func.results Go.Proofs.Try.f33))) [] [])) (kLeave (Ctx.P (Ctx.mk Go.Proofs.Try.prog Hx (33))) (List.zip (Array.toList (Go.Func.resultTypes Go.Proofs.Try.f33)) (Array.toList (Go.Func.results Go.Proofs.Try.f33))) [] [])
noncomputable def k33_1 (n : Nat) : Ex → St → Option (List Row × List Row) := kBlock (0) (k33_0 n)
noncomputable def S33_0 (a : List UInt8) (b : List UInt8) (i0 : Int) : St := St.mk [TV.v false [C.d (D.sl false 1 (enS false a))], TV.v false [C.d (D.sl false 1 (enS false b))], TV.v false [C.undef], TV.v false [C.undef], TV.v false [C.undef], TV.v false [C.d (D.int IntKind.i64 i0)], TV.v false [C.undef], TV.v false [C.undef], TV.v false [C.undef], TV.v false [C.undef], TV.v false [C.undef], TV.v false [C.undef], TV.v false [C.undef], TV.v false [C.undef], TV.v false [C.undef], TV.v false [C.undef], TV.v false [C.undef], TV.v false [C.undef], TV.v false [C.undef], TV.v false [C.undef], TV.v false [C.undef], TV.v false [C.undef], TV.v false [C.undef], TV.v false [C.undef], TV.v false [C.undef], TV.v false [C.undef]] []
noncomputable def B33_0 (n : Nat) : St → (Ex → St → Option (List Row × List Row)) → Option (List Row × List Row) := runCode (Ctx.mk Go.Proofs.Try.prog Hx (33)) (Table.call T10) n (codeAt [1, 1, 0, 1, 0, 0] (bodyOf Go.Proofs.Try.f33)) (Lv.mk 0 [(0, 0)] 16)
noncomputable def X33_2 (a : List UInt8) (b : List UInt8) (i0 : Int) : St := St.mk [TV.v false [C.d (D.sl false 1 (enS false a))], TV.v false [C.d (D.sl false 1 (enS false b))], TV.v false [C.undef], TV.v false [C.undef], TV.v false [C.d (D.bool false)], TV.v false [C.d (D.int IntKind.i64 i0)], TV.v false [C.undef], TV.v false [C.undef], TV.v false [C.undef], TV.v false [C.undef], TV.v false [C.undef], TV.v false [C.d (D.int IntKind.i64 i0)], TV.v false [C.d (D.sl false 1 (enS false a))], TV.v false [C.d (D.int IntKind.i64 (Int.ofNat (List.length (enS false a))))], TV.v false [C.d (D.bool true)], TV.v false [C.undef], TV.v false [C.undef], TV.v false [C.d (D.sl false 1 (enS false a))], TV.v false [C.d (D.int IntKind.i64 i0)], TV.v false [C.rptr (List.getD (enS false a) (Int.toNat i0) [])], TV.v false [C.d (D.int IntKind.u8 (D.num (List.getD (List.getD (enS false a) (Int.toNat i0) []) 0 D.dead)))], TV.v false [C.d (D.sl false 1 (enS false b))], TV.v false [C.d (D.int IntKind.i64 i0)], TV.v false [C.rptr (List.getD (enS false b) (Int.toNat i0) [])], TV.v false [C.d (D.int IntKind.u8 (D.num (List.getD (List.getD (enS false b) (Int.toNat i0) []) 0 D.dead)))], TV.v false [C.d (D.bool true)]] []
noncomputable def X33_3 (a : List UInt8) (b : List UInt8) (i0 : Int) : St := St.mk [TV.v false [C.d (D.sl false 1 (enS false a))], TV.v false [C.d (D.sl false 1 (enS false b))], TV.v false [C.undef], TV.v false [C.undef], TV.v false [C.undef], TV.v false [C.d (D.int IntKind.i64 i0)], TV.v false [C.undef], TV.v false [C.undef], TV.v false [C.undef], TV.v false [C.undef], TV.v false [C.undef], TV.v false [C.d (D.int IntKind.i64 i0)], TV.v false [C.d (D.sl false 1 (enS false a))], TV.v false [C.d (D.int IntKind.i64 (Int.ofNat (List.length (enS false a))))], TV.v false [C.d (D.bool false)], TV.v false [C.undef], TV.v false [C.undef], TV.v false [C.undef], TV.v false [C.undef], TV.v false [C.undef], TV.v false [C.undef], TV.v false [C.undef], TV.v false [C.undef], TV.v false [C.undef], TV.v false [C.undef], TV.v false [C.undef]] []
theorem q33_0 (a : List UInt8) (b : List UInt8) (n : Nat) (i0 : Int) (f : St → Option (List Row × List Row)) (K : Ex → St → Option (List Row × List Row)) : B33_0 n (S33_0 a b i0) (@kThen (List Row × List Row) (fun st ↦ f (St.head 0 35 67106864 st)) K) = bif decide (i0 < Int.ofNat (List.length (enS false a))) then bif decide (0 ≤ i0) && decide (i0 < Int.ofNat (List.length (enS false a))) then bif Leaf.fit false (Leaf.int IntKind.u8) (List.getD (List.getD (enS false a) (Int.toNat i0) []) 0 D.dead) && true then bif decide (0 ≤ i0) && decide (i0 < Int.ofNat (List.length (enS false b))) then bif Leaf.fit false (Leaf.int IntKind.u8) (List.getD (List.getD (enS false b) (Int.toNat i0) []) 0 D.dead) && true then bif D.num (List.getD (List.getD (enS false a) (Int.toNat i0) []) 0 D.dead) != D.num (List.getD (List.getD (enS false b) (Int.toNat i0) []) 0 D.dead) then K Ex.ret (X33_2 a b i0) else f (S33_0 a b (IntKind.wrap IntKind.i64 (i0 + 1))) else none else none else none else none else K (Ex.exit 0) (X33_3 a b i0) := by kernel_rfl
theorem aX33_2 (a : List UInt8) (b : List UInt8) (n : Nat) (i0 : Int) : k33_1 n Ex.ret (X33_2 a b i0) = some ([[D.bool false]], []) := by kernel_rfl
theorem aX33_3 (a : List UInt8) (b : List UInt8) (n : Nat) (i0 : Int) : k33_1 n (Ex.exit 0) (X33_3 a b i0) = some ([[D.bool true]], []) := by kernel_rfl
theorem r33 (a : List UInt8) (b : List UInt8) (n : Nat) : evFn ⟨Go.Proofs.Try.prog, Hx, 33⟩ T10.call n Go.Proofs.Try.f33 [[.sl false 1 (enS false a)], [.sl false 1 (enS false b)]] = bif Int.ofNat (List.length (enS false a)) != Int.ofNat (List.length (enS false b)) then some ([[D.bool false]], []) else loopRun (B33_0 n) 0 35 67106864 n (S33_0 a b (0)) (k33_1 n) := by kernel_rfl
theorem m33 (a : List UInt8) (b : List UInt8) (hpre : (o33 a b).1 = true) : evFn ⟨Go.Proofs.Try.prog, Hx, 33⟩ T10.call (a.length + 1) Go.Proofs.Try.f33 [[.sl false 1 (enS false a)], [.sl false 1 (enS false b)]] = some (o33 a b).2 := by
  refine (r33 a b _).trans ?_
  show _ = (some ([[.bool (true)]], []) : Option (List Row × List Row))
  replace hpre : (sameB a b && (decide (a.length ≤ 1048576))) = true := hpre
  rw [Bool.and_eq_true] at hpre
  obtain ⟨h0, h1⟩ := hpre
  have hlen : a.length ≤ 1048576 := of_decide_eq_true h1
  have := sameB_eq h0
  subst this
  simp only [bne_self_eq_false, cond_false]
  refine loop_list (xs := a) (fun i (_ : Unit) => S33_0 a a (Int.ofNat i)) (fun _ _ => True) (fun _ _ _ => some ([[D.bool true]], [])) ?_ ?_ (a.length + 1) () (by omega) trivial
  · rintro _ _ f
    refine (q33_0 a a _ _ f _).trans ?_
    simp only [enS_length, dec_lt, Nat.lt_irrefl, decide_false, cond_false]
    exact aX33_3 a a _ _
  · rintro i _ hi _ f hf
    refine (q33_0 a a _ _ f _).trans ?_
    simp only [enS_length, toNat_of, dec_lt, dec_ge, enS_get _ hi, hi, wrap_succ (show i < 4611686018427387904 by omega), decide_true, cond_true, Bool.and_self, sameB_self, bne_self_eq_false, cond_false]
    exact hf () trivial
theorem s33 : SoundAt Go.Proofs.Try.prog Hx 33 c33 := soundAt_of T10_sound mixed Go.Proofs.Try.func33 (by kernel_rfl) (by
  intro rows r h
  unfold c33 at h
  split at h
  · rename_i a b
    obtain ⟨hp, hr⟩ := Prod.mk.inj (Option.some.inj h)
    subst hr
    simp only [Bool.and_eq_true] at hp
    obtain ⟨⟨hs0, hs1⟩, hp⟩ := hp
    obtain ⟨xs0, rfl⟩ := isS_ex hs0
    obtain ⟨xs1, rfl⟩ := isS_ex hs1
    simp only [deS_enS] at hp ⊢
    exact ⟨_, m33 xs0 xs1 hp⟩
  · cases h)
def T33 : Table := (33, c33) :: T10
theorem T33_sound : Table.Sound Go.Proofs.Try.prog Hx T33 := Table.sound_cons s33 T10_sound
/- markByteS -/
def o34 (a : List UInt8) (k : Int) : Bool × List Row × List Row := (decide (0 ≤ k) && (decide (k + cntS oneN a ≤ 4611686018427387904) && decide (a.length ≤ 1152921504606846976)), [[.int .i64 (k + cntS oneN a)]], [[.sl true 1 (enS true (markS byteMk oneN a k))]])
def c34 : Contract
  | [[.sl true 1 a], [.int .i64 k]] => some (isS UInt8 true a && (o34 (deS UInt8 a) k).1, (o34 (deS UInt8 a) k).2.1, (o34 (deS UInt8 a) k).2.2)
  | _ => none

noncomputable def k34_0 (n : Nat) : Ex → St → Option (List Row × List Row) := kThen (fun st ↦ runCode (Ctx.mk Go.Proofs.Try.prog Hx (34)) (Table.call T33) n (codeAt [1, 1] (bodyOf Go.Proofs.Try.f34)) (Lv.mk 16 [] 16) st (kLeave (Ctx.P (Ctx.mk Go.Proofs.Try.prog Hx (34))) (List.zip (Array.toList (Go.Func.resultTypes Go.Proofs.Try.f34)) (Array.toList (Go.Func.results Go.Proofs.Try.f34))) [] [C.view 0 0 0 [] 1 none])) (kLeave (Ctx.P (Ctx.mk Go.Proofs.Try.prog Hx (34))) (List.zip (Array.toList (Go.Func.resultTypes Go.Proofs.Try.f34)) (Array.toList (Go.Func.results Go.Proofs.Try.f34))) [] [C.view 0 0 0 [] 1 none])
noncomputable def k34_1 (n : Nat) : Ex → St → Option (List Row × List Row) := kBlock (0) (k34_0 n)
noncomputable def S34_0 (i0 : Int) (i1 : Int) (es2 : List (List D)) : St := St.mk [TV.v false [C.view 0 0 0 [] 1 none], TV.v false [C.d (D.int IntKind.i64 i0)], TV.v false [C.undef], TV.v false [C.undef], TV.v false [C.undef], TV.v false [C.d (D.int IntKind.i64 i1)], TV.v false [C.undef], TV.v false [C.undef], TV.v false [C.undef], TV.v false [C.undef], TV.v false [C.undef], TV.v false [C.undef], TV.v false [C.undef], TV.v false [C.undef], TV.v false [C.undef], TV.v false [C.undef], TV.v false [C.undef], TV.v false [C.undef], TV.v false [C.undef], TV.v false [C.undef]] [Root.mk false 1 es2 0 0 true true]
noncomputable def B34_0 (n : Nat) : St → (Ex → St → Option (List Row × List Row)) → Option (List Row × List Row) := runCode (Ctx.mk Go.Proofs.Try.prog Hx (34)) (Table.call T33) n (codeAt [1, 0, 1, 0, 0] (bodyOf Go.Proofs.Try.f34)) (Lv.mk 0 [(0, 2)] 16)
noncomputable def X34_2 (i0 : Int) (i1 : Int) (es2 : List (List D)) : St := St.mk [TV.v false [C.view 0 0 0 [] 1 none], TV.v false [C.d (D.int IntKind.i64 i0)], TV.v false [C.undef], TV.v false [C.undef], TV.v false [C.undef], TV.v false [C.d (D.int IntKind.i64 i1)], TV.v false [C.d (D.int IntKind.i64 i1)], TV.v false [C.view 0 0 0 [] 1 none], TV.v false [C.d (D.int IntKind.i64 (Int.ofNat (List.length es2)))], TV.v false [C.d (D.bool false)], TV.v false [C.undef], TV.v false [C.undef], TV.v false [C.undef], TV.v false [C.undef], TV.v false [C.undef], TV.v false [C.undef], TV.v false [C.undef], TV.v false [C.undef], TV.v false [C.undef], TV.v false [C.undef]] [Root.mk false 1 es2 0 0 true true]
theorem q34_0 (n : Nat) (i0 : Int) (i1 : Int) (es2 : List (List D)) (f : St → Option (List Row × List Row)) (K : Ex → St → Option (List Row × List Row)) : B34_0 n (S34_0 i0 i1 es2) (@kThen (List Row × List Row) (fun st ↦ f (St.head 1 35 524258 st)) K) = bif decide (i1 < Int.ofNat (List.length es2)) then bif decide (0 ≤ i1) && decide (i1 < Int.ofNat (List.length es2)) then f (S34_0 (IntKind.wrap IntKind.i64 (i0 + 1)) (IntKind.wrap IntKind.i64 (i1 + 1)) (List.set es2 (0 + Int.toNat i1) [D.int IntKind.u8 (IntKind.wrap IntKind.u8 i0)])) else none else K (Ex.exit 0) (X34_2 i0 i1 es2) := by kernel_rfl
theorem aX34_2 (n : Nat) (i0 : Int) (i1 : Int) (es2 : List (List D)) : k34_1 n (Ex.exit 0) (X34_2 i0 i1 es2) = some ([[D.int IntKind.i64 i0]], [[D.sl true 1 es2]]) := by kernel_rfl
theorem r34 (a : List UInt8) (k : Int) (n : Nat) : evFn ⟨Go.Proofs.Try.prog, Hx, 34⟩ T33.call n Go.Proofs.Try.f34 [[.sl true 1 (enS true a)], [.int .i64 k]] = loopRun (B34_0 n) 1 35 524258 n (S34_0 k (0) (enS true a)) (k34_1 n) := by kernel_rfl
theorem m34 (a : List UInt8) (k : Int) (hpre : (o34 a k).1 = true) : evFn ⟨Go.Proofs.Try.prog, Hx, 34⟩ T33.call (a.length + 1) Go.Proofs.Try.f34 [[.sl true 1 (enS true a)], [.int .i64 k]] = some (o34 a k).2 := by
  refine (r34 a k _).trans ?_
  show _ = (some ([[.int .i64 (k + cntS oneN a)]], [[.sl true 1 (enS true (markS byteMk oneN a k))]]) : Option (List Row × List Row))
  replace hpre : (decide (0 ≤ k) && (decide (k + cntS oneN a ≤ 4611686018427387904) && decide (a.length ≤ 1152921504606846976))) = true := hpre
  simp only [Bool.and_eq_true, decide_eq_true_eq] at hpre
  obtain ⟨h0, h1, h2⟩ := hpre
  refine loop_list (xs := a) (fun i (v : List UInt8 × Int) => S34_0 v.2 (Int.ofNat i) (enS true (v.1 ++ a.drop i))) (fun i v => v.1.length = i ∧ 0 ≤ v.2 ∧ v.2 + cntS oneN (a.drop i) ≤ 4611686018427387904) (fun _ v rest => some ([[D.int .i64 (v.2 + cntS oneN rest)]], [[D.sl true 1 (enS true (v.1 ++ markS byteMk oneN rest v.2))]])) ?_ ?_ (a.length + 1) ([], k) (by omega) ⟨rfl, h0, h1⟩
  · rintro ⟨pre, k⟩ ⟨hl, hk0, hk1⟩ f
    refine (q34_0 _ _ _ _ f _).trans ?_
    simp only [enS_length, List.drop_length, List.append_nil, hl, dec_lt, Nat.lt_irrefl, decide_false, cond_false]
    refine (aX34_2 _ _ _ _).trans ?_
    simp only [List.append_nil, cntS, markS, Int.add_zero]
  · rintro i ⟨pre, k⟩ hi ⟨hl, hk0, hk1⟩ f hf
    simp only at hl hk0 hk1
    rw [List.drop_eq_getElem_cons hi] at hk1
    generalize hx : a[i] = x at hk1 ⊢
    have hc := cntS_nonneg (n := oneN) oneN_pos (a.drop (i + 1))
    have hn : oneN x = 1 := rfl
    simp only [cntS, hn] at hk1
    refine (q34_0 _ _ _ _ f _).trans ?_
    rw [List.drop_eq_getElem_cons hi, hx]
    have hm := mid_get pre x (a.drop (i + 1)) hl
    have hat := mid_at pre x (a.drop (i + 1)) hl hm
    have hs : ∀ R, ((enS true (pre ++ x :: a.drop (i + 1))).set i R).getD i [] = R := fun R => getD_set_same _ _ _ _ (by rw [enS_length]; exact hm)
    simp only [List.length_set, enS_length, toNat_of, Nat.zero_add, dec_lt, dec_ge, hm, hs, List.set_set, enS_get _ hm, hat, decide_true, cond_true, Bool.and_self, wrap_succ (show i < 4611686018427387904 by omega)]
    have hw1 : IntKind.wrap IntKind.i64 (k + 1) = k + 1 := wrap_le (by omega) (by omega)
    simp only [hw1]
    have he : k + 1 = k + oneN x := by omega
    rw [← u8_wrap k]
    refine (congrArg f (congrArg (S34_0 _ _) ((enS_set true _ i (byteMk x k)).trans (congrArg (enS true) (mid_set pre x _ _ hl))))).trans ?_
    refine (hf (pre ++ [byteMk x k], k + 1) ⟨by simp [hl], by simp only; omega, by simp only; omega⟩).trans ?_
    show _ = some ([[D.int .i64 (k + (oneN x + cntS oneN (a.drop (i + 1))))]], [[D.sl true 1 (enS true (pre ++ (byteMk x k :: markS byteMk oneN (a.drop (i + 1)) (k + oneN x))))]])
    rw [he, List.append_assoc, List.singleton_append, Int.add_assoc]
theorem s34 : SoundAt Go.Proofs.Try.prog Hx 34 c34 := soundAt_of T33_sound mixed Go.Proofs.Try.func34 (by kernel_rfl) (by
  intro rows r h
  unfold c34 at h
  split at h
  · rename_i a k
    obtain ⟨hp, hr⟩ := Prod.mk.inj (Option.some.inj h)
    subst hr
    simp only [Bool.and_eq_true] at hp
    obtain ⟨hs0, hp⟩ := hp
    obtain ⟨xs0, rfl⟩ := isS_ex hs0
    simp only [deS_enS] at hp ⊢
    exact ⟨_, m34 xs0 k hp⟩
  · cases h)
def T34 : Table := (34, c34) :: T33
theorem T34_sound : Table.Sound Go.Proofs.Try.prog Hx T34 := Table.sound_cons s34 T33_sound
/- heldByteS -/
def o35 (a : List UInt8) (k : Int) : Bool × List Row × List Row := (sameB (markS byteMk oneN a k) a && (decide (0 ≤ k) && (decide (k + cntS oneN a ≤ 4611686018427387904) && decide (a.length ≤ 1152921504606846976))), [[.int .i64 (k + cntS oneN a)]], [])
def c35 : Contract
  | [[.sl false 1 a], [.int .i64 k]] => some (isS UInt8 false a && (o35 (deS UInt8 a) k).1, (o35 (deS UInt8 a) k).2.1, (o35 (deS UInt8 a) k).2.2)
  | _ => none

noncomputable def k35_0 (n : Nat) : Ex → St → Option (List Row × List Row) := kThen (fun st ↦ runCode (Ctx.mk Go.Proofs.Try.prog Hx (35)) (Table.call T34) n (codeAt [1, 1] (bodyOf Go.Proofs.Try.f35)) (Lv.mk 16 [] 16) st (kLeave (Ctx.P (Ctx.mk Go.Proofs.Try.prog Hx (35))) (List.zip (Array.toList (Go.Func.resultTypes Go.Proofs.Try.f35)) (Array.toList (Go.Func.results Go.Proofs.Try.f35))) [] [])) (kLeave (Ctx.P (Ctx.mk Go.Proofs.Try.prog Hx (35))) (List.zip (Array.toList (Go.Func.resultTypes Go.Proofs.Try.f35)) (Array.toList (Go.Func.results Go.Proofs.Try.f35))) [] [])
noncomputable def k35_1 (n : Nat) : Ex → St → Option (List Row × List Row) := kBlock (0) (k35_0 n)
noncomputable def S35_0 (a : List UInt8) (i0 : Int) (i1 : Int) : St := St.mk [TV.v false [C.d (D.sl false 1 (enS false a))], TV.v false [C.d (D.int IntKind.i64 i0)], TV.v false [C.undef], TV.v false [C.undef], TV.v false [C.undef], TV.v false [C.d (D.int IntKind.i64 i1)], TV.v false [C.undef], TV.v false [C.undef], TV.v false [C.undef], TV.v false [C.undef], TV.v false [C.undef], TV.v false [C.undef], TV.v false [C.undef], TV.v false [C.undef], TV.v false [C.undef], TV.v false [C.undef], TV.v false [C.undef], TV.v false [C.undef], TV.v false [C.undef], TV.v false [C.undef], TV.v false [C.undef], TV.v false [C.undef]] []
noncomputable def B35_0 (n : Nat) : St → (Ex → St → Option (List Row × List Row)) → Option (List Row × List Row) := runCode (Ctx.mk Go.Proofs.Try.prog Hx (35)) (Table.call T34) n (codeAt [1, 0, 1, 0, 0] (bodyOf Go.Proofs.Try.f35)) (Lv.mk 0 [(0, 2)] 16)
noncomputable def X35_2 (a : List UInt8) (i0 : Int) (i1 : Int) : St := St.mk [TV.v false [C.d (D.sl false 1 (enS false a))], TV.v false [C.d (D.int IntKind.i64 i0)], TV.v false [C.undef], TV.v false [C.undef], TV.v false [C.d (D.int IntKind.i64 (Int.negSucc 0))], TV.v false [C.d (D.int IntKind.i64 i1)], TV.v false [C.d (D.int IntKind.i64 i1)], TV.v false [C.d (D.sl false 1 (enS false a))], TV.v false [C.d (D.int IntKind.i64 (Int.ofNat (List.length (enS false a))))], TV.v false [C.d (D.bool true)], TV.v false [C.undef], TV.v false [C.undef], TV.v false [C.d (D.sl false 1 (enS false a))], TV.v false [C.d (D.int IntKind.i64 i1)], TV.v false [C.rptr (List.getD (enS false a) (Int.toNat i1) [])], TV.v false [C.d (D.int IntKind.u8 (D.num (List.getD (List.getD (enS false a) (Int.toNat i1) []) 0 D.dead)))], TV.v false [C.d (D.int IntKind.i64 i0)], TV.v false [C.d (D.int IntKind.u8 (IntKind.wrap IntKind.u8 i0))], TV.v false [C.d (D.bool true)], TV.v false [C.undef], TV.v false [C.undef], TV.v false [C.undef]] []
noncomputable def X35_3 (a : List UInt8) (i0 : Int) (i1 : Int) : St := St.mk [TV.v false [C.d (D.sl false 1 (enS false a))], TV.v false [C.d (D.int IntKind.i64 i0)], TV.v false [C.undef], TV.v false [C.undef], TV.v false [C.undef], TV.v false [C.d (D.int IntKind.i64 i1)], TV.v false [C.d (D.int IntKind.i64 i1)], TV.v false [C.d (D.sl false 1 (enS false a))], TV.v false [C.d (D.int IntKind.i64 (Int.ofNat (List.length (enS false a))))], TV.v false [C.d (D.bool false)], TV.v false [C.undef], TV.v false [C.undef], TV.v false [C.undef], TV.v false [C.undef], TV.v false [C.undef], TV.v false [C.undef], TV.v false [C.undef], TV.v false [C.undef], TV.v false [C.undef], TV.v false [C.undef], TV.v false [C.undef], TV.v false [C.undef]] []
theorem q35_0 (a : List UInt8) (n : Nat) (i0 : Int) (i1 : Int) (f : St → Option (List Row × List Row)) (K : Ex → St → Option (List Row × List Row)) : B35_0 n (S35_0 a i0 i1) (@kThen (List Row × List Row) (fun st ↦ f (St.head 0 35 2097138 st)) K) = bif decide (i1 < Int.ofNat (List.length (enS false a))) then bif decide (0 ≤ i1) && decide (i1 < Int.ofNat (List.length (enS false a))) then bif Leaf.fit false (Leaf.int IntKind.u8) (List.getD (List.getD (enS false a) (Int.toNat i1) []) 0 D.dead) && true then bif D.num (List.getD (List.getD (enS false a) (Int.toNat i1) []) 0 D.dead) != IntKind.wrap IntKind.u8 i0 then K Ex.ret (X35_2 a i0 i1) else f (S35_0 a (IntKind.wrap IntKind.i64 (i0 + 1)) (IntKind.wrap IntKind.i64 (i1 + 1))) else none else none else K (Ex.exit 0) (X35_3 a i0 i1) := by kernel_rfl
theorem aX35_2 (a : List UInt8) (n : Nat) (i0 : Int) (i1 : Int) : k35_1 n Ex.ret (X35_2 a i0 i1) = some ([[D.int IntKind.i64 (Int.negSucc 0)]], []) := by kernel_rfl
theorem aX35_3 (a : List UInt8) (n : Nat) (i0 : Int) (i1 : Int) : k35_1 n (Ex.exit 0) (X35_3 a i0 i1) = some ([[D.int IntKind.i64 i0]], []) := by kernel_rfl
theorem r35 (a : List UInt8) (k : Int) (n : Nat) : evFn ⟨Go.Proofs.Try.prog, Hx, 35⟩ T34.call n Go.Proofs.Try.f35 [[.sl false 1 (enS false a)], [.int .i64 k]] = loopRun (B35_0 n) 0 35 2097138 n (S35_0 a k (0)) (k35_1 n) := by kernel_rfl
theorem m35 (a : List UInt8) (k : Int) (hpre : (o35 a k).1 = true) : evFn ⟨Go.Proofs.Try.prog, Hx, 35⟩ T34.call (a.length + 1) Go.Proofs.Try.f35 [[.sl false 1 (enS false a)], [.int .i64 k]] = some (o35 a k).2 := by
  refine (r35 a k _).trans ?_
  show _ = (some ([[.int .i64 (k + cntS oneN a)]], []) : Option (List Row × List Row))
  replace hpre : (sameB (markS byteMk oneN a k) a && (decide (0 ≤ k) && (decide (k + cntS oneN a ≤ 4611686018427387904) && decide (a.length ≤ 1152921504606846976)))) = true := hpre
  rw [Bool.and_eq_true] at hpre
  obtain ⟨hsame, hpre⟩ := hpre
  have hsame := sameB_eq hsame
  simp only [Bool.and_eq_true, decide_eq_true_eq] at hpre
  obtain ⟨h0, h1, h2⟩ := hpre
  refine loop_list (xs := a) (fun i (k : Int) => S35_0 a k (Int.ofNat i)) (fun i k => 0 ≤ k ∧ k + cntS oneN (a.drop i) ≤ 4611686018427387904 ∧ markS byteMk oneN (a.drop i) k = a.drop i) (fun _ k rest => some ([[D.int .i64 (k + cntS oneN rest)]], [])) ?_ ?_ (a.length + 1) k (by omega) ⟨h0, h1, hsame⟩
  · rintro k ⟨hk0, hk1, _⟩ f
    refine (q35_0 a _ _ _ f _).trans ?_
    simp only [enS_length, dec_lt, Nat.lt_irrefl, decide_false, cond_false]
    refine (aX35_3 a _ _ _).trans ?_
    simp only [cntS, Int.add_zero]
  · rintro i k hi ⟨hk0, hk1, hk2⟩ f hf
    rw [List.drop_eq_getElem_cons hi] at hk1 hk2
    have hc := cntS_nonneg (n := oneN) oneN_pos (a.drop (i + 1))
    have hn : oneN a[i] = 1 := rfl
    simp only [cntS, hn] at hk1
    have he : k + 1 = k + oneN a[i] := by omega
    simp only [markS, List.cons.injEq] at hk2
    obtain ⟨hk2, hk3⟩ := hk2
    refine (q35_0 a _ _ _ f _).trans ?_
    simp only [enS_length, toNat_of, dec_lt, dec_ge, enS_get _ hi, hi, wrap_succ (show i < 4611686018427387904 by omega), decide_true, cond_true, Bool.and_self]
    have hw1 : IntKind.wrap IntKind.i64 (k + 1) = k + 1 := wrap_le (by omega) (by omega)
    simp only [hw1]
    rw [← hk2]
    refine Eq.trans (b := f (S35_0 a (k + 1) (Int.ofNat (i + 1)))) ?_ ((hf (k + 1) ⟨by omega, by omega, by rw [he]; exact hk3⟩).trans ?_)
    · simp only [u8_wrap, En.enc, byteMk, Leaf.fit, List.getD_cons_zero, List.getD_cons_succ, D.num, D.flag, D.text, bne_self_eq_false, Bool.and_self, cond_true, cond_false, decide_true]
    · show _ = some ([[D.int .i64 (k + (oneN a[i] + cntS oneN (a.drop (i + 1))))]], [])
      rw [he, Int.add_assoc]
theorem s35 : SoundAt Go.Proofs.Try.prog Hx 35 c35 := soundAt_of T34_sound mixed Go.Proofs.Try.func35 (by kernel_rfl) (by
  intro rows r h
  unfold c35 at h
  split at h
  · rename_i a k
    obtain ⟨hp, hr⟩ := Prod.mk.inj (Option.some.inj h)
    subst hr
    simp only [Bool.and_eq_true] at hp
    obtain ⟨hs0, hp⟩ := hp
    obtain ⟨xs0, rfl⟩ := isS_ex hs0
    simp only [deS_enS] at hp ⊢
    exact ⟨_, m35 xs0 k hp⟩
  · cases h)
def T35 : Table := (35, c35) :: T34
theorem T35_sound : Table.Sound Go.Proofs.Try.prog Hx T35 := Table.sound_cons s35 T34_sound
end Go.Ev
namespace Go.Md
open Go Go.Ev
theorem bpduBs_length (b : Bpdu) : (bpduBs b).length ≤ 36 := by unfold bpduBs; cases bpduOk b <;> simp [idB]
end Go.Md
namespace Go.Ev
open Go.Md
/- law -/
def o8 (aB : Bpdu) : Bool × List Row × List Row := (true, [[.bool (true)]], [])
def c8 : Contract
  | [[.bool aB_Change, .bool aB_Ask, .bool aB_Agree, .bool aB_Learn, .bool aB_Open, .int .i64 aB_Role, .int .i64 aB_Vec_Root, .int .i64 aB_Vec_Cost, .int .i64 aB_Vec_Bridge, .int .i64 aB_Vec_Port, .int .i64 aB_Hops]] => some ((o8 ⟨aB_Change, aB_Ask, aB_Agree, aB_Learn, aB_Open, aB_Role, ⟨aB_Vec_Root, aB_Vec_Cost, aB_Vec_Bridge, aB_Vec_Port⟩, aB_Hops⟩).1, (o8 ⟨aB_Change, aB_Ask, aB_Agree, aB_Learn, aB_Open, aB_Role, ⟨aB_Vec_Root, aB_Vec_Cost, aB_Vec_Bridge, aB_Vec_Port⟩, aB_Hops⟩).2.1, (o8 ⟨aB_Change, aB_Ask, aB_Agree, aB_Learn, aB_Open, aB_Role, ⟨aB_Vec_Root, aB_Vec_Cost, aB_Vec_Bridge, aB_Vec_Port⟩, aB_Hops⟩).2.2)
  | _ => none

theorem r8 (aB : Bpdu) (n : Nat) : evFn ⟨Go.Proofs.Try.prog, Hx, 8⟩ T35.call n Go.Proofs.Try.f8 [[.bool aB.Change, .bool aB.Ask, .bool aB.Agree, .bool aB.Learn, .bool aB.Open, .int .i64 aB.Role, .int .i64 aB.Vec.Root, .int .i64 aB.Vec.Cost, .int .i64 aB.Vec.Bridge, .int .i64 aB.Vec.Port, .int .i64 aB.Hops]] = bif isS UInt8 false (lendRows (enS true (bpduBs aB))) && isS UInt8 false (lendRows (enS true (bpduBs aB))) && (sameB (deS UInt8 (lendRows (enS true (bpduBs aB)))) (deS UInt8 (lendRows (enS true (bpduBs aB)))) && decide (List.length (deS UInt8 (lendRows (enS true (bpduBs aB)))) ≤ 1048576)) then bif isS UInt8 true (enS true (bpduBs aB)) && (decide (1 + cntS oneN (deS UInt8 (enS true (bpduBs aB))) ≤ 4611686018427387904) && decide (List.length (deS UInt8 (enS true (bpduBs aB))) ≤ 1152921504606846976)) then bif isS UInt8 false (lendRows (enS true (markS byteMk oneN (deS UInt8 (enS true (bpduBs aB))) (1)))) && (sameB (markS byteMk oneN (deS UInt8 (lendRows (enS true (markS byteMk oneN (deS UInt8 (enS true (bpduBs aB))) (1))))) (1)) (deS UInt8 (lendRows (enS true (markS byteMk oneN (deS UInt8 (enS true (bpduBs aB))) (1))))) && (decide (1 + cntS oneN (deS UInt8 (lendRows (enS true (markS byteMk oneN (deS UInt8 (enS true (bpduBs aB))) (1))))) ≤ 4611686018427387904) && decide (List.length (deS UInt8 (lendRows (enS true (markS byteMk oneN (deS UInt8 (enS true (bpduBs aB))) (1))))) ≤ 1152921504606846976))) then bif decide (1 + cntS oneN (deS UInt8 (lendRows (enS true (markS byteMk oneN (deS UInt8 (enS true (bpduBs aB))) (1))))) < 0) then some ([[D.bool false]], []) else bif 1 + cntS oneN (deS UInt8 (lendRows (enS true (markS byteMk oneN (deS UInt8 (enS true (bpduBs aB))) (1))))) != 1 + cntS oneN (deS UInt8 (enS true (bpduBs aB))) then some ([[D.bool false]], []) else bif isS UInt8 false (lendRows (enS true (bpduBs aB))) && isS UInt8 false (lendRows (enS true (bpduBs aB))) && (sameB (deS UInt8 (lendRows (enS true (bpduBs aB)))) (deS UInt8 (lendRows (enS true (bpduBs aB)))) && decide (List.length (deS UInt8 (lendRows (enS true (bpduBs aB)))) ≤ 1048576)) then bif isS UInt8 false (lendRows (enS true (markS byteMk oneN (deS UInt8 (enS true (bpduBs aB))) (1)))) && (sameB (markS byteMk oneN (deS UInt8 (lendRows (enS true (markS byteMk oneN (deS UInt8 (enS true (bpduBs aB))) (1))))) (1)) (deS UInt8 (lendRows (enS true (markS byteMk oneN (deS UInt8 (enS true (bpduBs aB))) (1))))) && (decide (1 + cntS oneN (deS UInt8 (lendRows (enS true (markS byteMk oneN (deS UInt8 (enS true (bpduBs aB))) (1))))) ≤ 4611686018427387904) && decide (List.length (deS UInt8 (lendRows (enS true (markS byteMk oneN (deS UInt8 (enS true (bpduBs aB))) (1))))) ≤ 1152921504606846976))) then bif decide (1 + cntS oneN (deS UInt8 (lendRows (enS true (markS byteMk oneN (deS UInt8 (enS true (bpduBs aB))) (1))))) < 0) then some ([[D.bool false]], []) else bif 1 + cntS oneN (deS UInt8 (lendRows (enS true (markS byteMk oneN (deS UInt8 (enS true (bpduBs aB))) (1))))) != 1 + cntS oneN (deS UInt8 (enS true (bpduBs aB))) then some ([[D.bool false]], []) else some ([[D.bool true]], []) else none else none else none else none else none := by kernel_rfl
theorem m8 (aB : Bpdu) (hpre : (o8 aB).1 = true) : evFn ⟨Go.Proofs.Try.prog, Hx, 8⟩ T35.call 0 Go.Proofs.Try.f8 [[.bool aB.Change, .bool aB.Ask, .bool aB.Agree, .bool aB.Learn, .bool aB.Open, .int .i64 aB.Role, .int .i64 aB.Vec.Root, .int .i64 aB.Vec.Cost, .int .i64 aB.Vec.Bridge, .int .i64 aB.Vec.Port, .int .i64 aB.Hops]] = some (o8 aB).2 := by
  refine (r8 aB _).trans ?_
  show _ = (some ([[.bool (true)]], []) : Option (List Row × List Row))
  replace hpre : (true) = true := hpre
  have hl := bpduBs_length aB
  generalize hg : bpduBs aB = g at hl ⊢
  have hc2 : cntS oneN g = 1 * (g.length : Int) := cntS_const (fun _ => rfl) _
  obtain ⟨hi1, hi2⟩ := markS_idem (mk := byteMk) (n := oneN) (fun _ _ => rfl) (fun _ _ => rfl) g 1
  have hi3 := markS_length byteMk oneN g 1
  have d3 : decide (1 + cntS oneN g ≤ 4611686018427387904) = true := decide_eq_true (by omega)
  have d4 : decide (g.length ≤ 1152921504606846976) = true := decide_eq_true (by omega)
  have d5 : decide (g.length ≤ 1048576) = true := decide_eq_true (by omega)
  have d7 : decide (1 + cntS oneN g < 0) = false := decide_eq_false (by omega)
  simp only [d3, d4, d5, d7, hi1, hi2, hi3, isS_enS, deS_enS, lendRows_enS, deepRows_enS, sameB_self, enS_length, Bool.and_self, Bool.and_true, Bool.true_and, cond_true, cond_false, Bool.not_true, bne_self_eq_false]
theorem s8 : SoundAt Go.Proofs.Try.prog Hx 8 c8 := soundAt_of T35_sound mixed Go.Proofs.Try.func8 (by kernel_rfl) (by
  intro rows r h
  unfold c8 at h
  split at h
  · rename_i aB_Change aB_Ask aB_Agree aB_Learn aB_Open aB_Role aB_Vec_Root aB_Vec_Cost aB_Vec_Bridge aB_Vec_Port aB_Hops
    obtain ⟨hp, hr⟩ := Prod.mk.inj (Option.some.inj h)
    subst hr
    exact ⟨_, m8 ⟨aB_Change, aB_Ask, aB_Agree, aB_Learn, aB_Open, aB_Role, ⟨aB_Vec_Root, aB_Vec_Cost, aB_Vec_Bridge, aB_Vec_Port⟩, aB_Hops⟩ hp⟩
  · cases h)
def T8 : Table := (8, c8) :: T35
theorem T8_sound : Table.Sound Go.Proofs.Try.prog Hx T8 := Table.sound_cons s8 T35_sound
end Go.Ev
end
