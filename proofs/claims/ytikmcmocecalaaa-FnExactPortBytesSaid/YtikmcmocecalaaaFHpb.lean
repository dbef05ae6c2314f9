/- Contracts of functions, each by its evaluation. -/
import Derived.Test.YtikmcmocecalaaaEvMd
import Derived.Test.YtikmcmocecalaaaProg
import Derived.KernelRfl
import Derived.Test.YtikmcmocecalaaaFPortbytes
noncomputable section
namespace Go.Ev
open Go.RowKit Go.Md
set_option linter.unusedVariables false
set_option linter.unusedSimpArgs false
set_option maxRecDepth 100000
end Go.Ev
namespace Go.Md
open Go Go.Ev
def oneN {α : Type} (_ : α) : Int := 1
theorem oneN_pos {α : Type} (x : α) : 0 ≤ oneN x := by show (0 : Int) ≤ 1; omega
def byteMk (_ : UInt8) (k : Int) : UInt8 := (IntKind.wrap IntKind.u8 k).toNat.toUInt8
end Go.Md
namespace Go.Ev
open Go.Md
/- toVec -/
def o41 (a : Vec) : Bool × List Row × List Row := (true, [[.int .i64 (a).Root, .int .i64 (a).Cost, .int .i64 (a).Bridge, .int .i64 (a).Port]], [])
def c41 : Contract
  | [[.int .i64 a_Root, .int .i64 a_Cost, .int .i64 a_Bridge, .int .i64 a_Port]] => some ((o41 ⟨a_Root, a_Cost, a_Bridge, a_Port⟩).1, (o41 ⟨a_Root, a_Cost, a_Bridge, a_Port⟩).2.1, (o41 ⟨a_Root, a_Cost, a_Bridge, a_Port⟩).2.2)
  | _ => none

theorem r41 (a : Vec) (n : Nat) : evFn ⟨Go.Proofs.Try.prog, Hx, 41⟩ T8.call n Go.Proofs.Try.f41 [[.int .i64 a.Root, .int .i64 a.Cost, .int .i64 a.Bridge, .int .i64 a.Port]] = some ([[D.int IntKind.i64 (Vec.Root a), D.int IntKind.i64 (Vec.Cost a), D.int IntKind.i64 (Vec.Bridge a), D.int IntKind.i64 (Vec.Port a)]], []) := by kernel_rfl
theorem m41 (a : Vec) (hpre : (o41 a).1 = true) : evFn ⟨Go.Proofs.Try.prog, Hx, 41⟩ T8.call 0 Go.Proofs.Try.f41 [[.int .i64 a.Root, .int .i64 a.Cost, .int .i64 a.Bridge, .int .i64 a.Port]] = some (o41 a).2 := by
  refine (r41 a _).trans ?_
  show _ = (some ([[.int .i64 (a).Root, .int .i64 (a).Cost, .int .i64 (a).Bridge, .int .i64 (a).Port]], []) : Option (List Row × List Row))
  replace hpre : (true) = true := hpre
  rfl
theorem s41 : SoundAt Go.Proofs.Try.prog Hx 41 c41 := soundAt_of T8_sound mixed Go.Proofs.Try.func41 (by kernel_rfl) (by
  intro rows r h
  unfold c41 at h
  split at h
  · rename_i a_Root a_Cost a_Bridge a_Port
    obtain ⟨hp, hr⟩ := Prod.mk.inj (Option.some.inj h)
    subst hr
    exact ⟨_, m41 ⟨a_Root, a_Cost, a_Bridge, a_Port⟩ hp⟩
  · cases h)
def T41 : Table := (41, c41) :: T8
theorem T41_sound : Table.Sound Go.Proofs.Try.prog Hx T41 := Table.sound_cons s41 T8_sound
/- toPort -/
def o9 (a : Port) : Bool × List Row × List Row := (true, [[.bool (a).Up, .bool (a).Has, .int .i64 (a).Vec.Root, .int .i64 (a).Vec.Cost, .int .i64 (a).Vec.Bridge, .int .i64 (a).Vec.Port, .int .i64 (a).Hops, .int .i64 (a).Left, .int .i64 (a).Role, .int .i64 (a).Wait, .bool (a).Open]], [])
def c9 : Contract
  | [[.bool a_Up, .bool a_Has, .int .i64 a_Vec_Root, .int .i64 a_Vec_Cost, .int .i64 a_Vec_Bridge, .int .i64 a_Vec_Port, .int .i64 a_Hops, .int .i64 a_Left, .int .i64 a_Role, .int .i64 a_Wait, .bool a_Open]] => some ((o9 ⟨a_Up, a_Has, ⟨a_Vec_Root, a_Vec_Cost, a_Vec_Bridge, a_Vec_Port⟩, a_Hops, a_Left, a_Role, a_Wait, a_Open⟩).1, (o9 ⟨a_Up, a_Has, ⟨a_Vec_Root, a_Vec_Cost, a_Vec_Bridge, a_Vec_Port⟩, a_Hops, a_Left, a_Role, a_Wait, a_Open⟩).2.1, (o9 ⟨a_Up, a_Has, ⟨a_Vec_Root, a_Vec_Cost, a_Vec_Bridge, a_Vec_Port⟩, a_Hops, a_Left, a_Role, a_Wait, a_Open⟩).2.2)
  | _ => none

theorem r9 (a : Port) (n : Nat) : evFn ⟨Go.Proofs.Try.prog, Hx, 9⟩ T41.call n Go.Proofs.Try.f9 [[.bool a.Up, .bool a.Has, .int .i64 a.Vec.Root, .int .i64 a.Vec.Cost, .int .i64 a.Vec.Bridge, .int .i64 a.Vec.Port, .int .i64 a.Hops, .int .i64 a.Left, .int .i64 a.Role, .int .i64 a.Wait, .bool a.Open]] = some ([[D.bool (Port.Up a), D.bool (Port.Has a), D.int IntKind.i64 (Vec.Root (Port.Vec a)), D.int IntKind.i64 (Vec.Cost (Port.Vec a)), D.int IntKind.i64 (Vec.Bridge (Port.Vec a)), D.int IntKind.i64 (Vec.Port (Port.Vec a)), D.int IntKind.i64 (Port.Hops a), D.int IntKind.i64 (Port.Left a), D.int IntKind.i64 (Port.Role a), D.int IntKind.i64 (Port.Wait a), D.bool (Port.Open a)]], []) := by kernel_rfl
theorem m9 (a : Port) (hpre : (o9 a).1 = true) : evFn ⟨Go.Proofs.Try.prog, Hx, 9⟩ T41.call 0 Go.Proofs.Try.f9 [[.bool a.Up, .bool a.Has, .int .i64 a.Vec.Root, .int .i64 a.Vec.Cost, .int .i64 a.Vec.Bridge, .int .i64 a.Vec.Port, .int .i64 a.Hops, .int .i64 a.Left, .int .i64 a.Role, .int .i64 a.Wait, .bool a.Open]] = some (o9 a).2 := by
  refine (r9 a _).trans ?_
  show _ = (some ([[.bool (a).Up, .bool (a).Has, .int .i64 (a).Vec.Root, .int .i64 (a).Vec.Cost, .int .i64 (a).Vec.Bridge, .int .i64 (a).Vec.Port, .int .i64 (a).Hops, .int .i64 (a).Left, .int .i64 (a).Role, .int .i64 (a).Wait, .bool (a).Open]], []) : Option (List Row × List Row))
  replace hpre : (true) = true := hpre
  rfl
theorem s9 : SoundAt Go.Proofs.Try.prog Hx 9 c9 := soundAt_of T41_sound mixed Go.Proofs.Try.func9 (by kernel_rfl) (by
  intro rows r h
  unfold c9 at h
  split at h
  · rename_i a_Up a_Has a_Vec_Root a_Vec_Cost a_Vec_Bridge a_Vec_Port a_Hops a_Left a_Role a_Wait a_Open
    obtain ⟨hp, hr⟩ := Prod.mk.inj (Option.some.inj h)
    subst hr
    exact ⟨_, m9 ⟨a_Up, a_Has, ⟨a_Vec_Root, a_Vec_Cost, a_Vec_Bridge, a_Vec_Port⟩, a_Hops, a_Left, a_Role, a_Wait, a_Open⟩ hp⟩
  · cases h)
def T9 : Table := (9, c9) :: T41
theorem T9_sound : Table.Sound Go.Proofs.Try.prog Hx T9 := Table.sound_cons s9 T41_sound
/- eqByteS -/
def o11 (a : List UInt8) (b : List UInt8) : Bool × List Row × List Row := (sameB a b && (decide (a.length ≤ 1048576)), [[.bool (true)]], [])
def c11 : Contract
  | [[.sl false 1 a], [.sl false 1 b]] => some (isS UInt8 false a && isS UInt8 false b && (o11 (deS UInt8 a) (deS UInt8 b)).1, (o11 (deS UInt8 a) (deS UInt8 b)).2.1, (o11 (deS UInt8 a) (deS UInt8 b)).2.2)
  | _ => none

noncomputable def k11_0 (n : Nat) : Ex → St → Option (List Row × List Row) := kThen (fun st ↦ runCode (Ctx.mk Go.Proofs.Try.prog Hx (11)) (Table.call T9) n (codeAt [1, 1, 1] (bodyOf Go.Proofs.Try.f11)) (Lv.mk 16 [] 16) st (kLeave (Ctx.P (Ctx.mk Go.Proofs.Try.prog Hx (11))) (List.zip (Array.toList (Go.Func.resultTypes Go.Proofs.Try.f11)) (Array.toList (Go.Func.results Go.Proofs.Try.f11))) [] [])) (kLeave (Ctx.P (Ctx.mk Go.Proofs.Try.prog Hx (11))) (List.zip (Array.toList (Go.Func.resultTypes Go.Proofs.Try.f11)) (Array.toList (Go.Func.results Go.Proofs.Try.f11))) [] [])
noncomputable def k11_1 (n : Nat) : Ex → St → Option (List Row × List Row) := kBlock (0) (k11_0 n)
noncomputable def S11_0 (a : List UInt8) (b : List UInt8) (i0 : Int) : St := St.mk [TV.v false [C.d (D.sl false 1 (enS false a))], TV.v false [C.d (D.sl false 1 (enS false b))], TV.v false [C.undef], TV.v false [C.undef], TV.v false [C.undef], TV.v false [C.d (D.int IntKind.i64 i0)], TV.v false [C.undef], TV.v false [C.undef], TV.v false [C.undef], TV.v false [C.undef], TV.v false [C.undef], TV.v false [C.undef], TV.v false [C.undef], TV.v false [C.undef], TV.v false [C.undef], TV.v false [C.undef], TV.v false [C.undef], TV.v false [C.undef], TV.v false [C.undef], TV.v false [C.undef], TV.v false [C.undef], TV.v false [C.undef], TV.v false [C.undef], TV.v false [C.undef], TV.v false [C.undef], TV.v false [C.undef]] []
noncomputable def B11_0 (n : Nat) : St → (Ex → St → Option (List Row × List Row)) → Option (List Row × List Row) := runCode (Ctx.mk Go.Proofs.Try.prog Hx (11)) (Table.call T9) n (codeAt [1, 1, 0, 1, 0, 0] (bodyOf Go.Proofs.Try.f11)) (Lv.mk 0 [(0, 0)] 16)
noncomputable def X11_2 (a : List UInt8) (b : List UInt8) (i0 : Int) : St := St.mk [TV.v false [C.d (D.sl false 1 (enS false a))], TV.v false [C.d (D.sl false 1 (enS false b))], TV.v false [C.undef], TV.v false [C.undef], TV.v false [C.d (D.bool false)], TV.v false [C.d (D.int IntKind.i64 i0)], TV.v false [C.undef], TV.v false [C.undef], TV.v false [C.undef], TV.v false [C.undef], TV.v false [C.undef], TV.v false [C.d (D.int IntKind.i64 i0)], TV.v false [C.d (D.sl false 1 (enS false a))], TV.v false [C.d (D.int IntKind.i64 (Int.ofNat (List.length (enS false a))))], TV.v false [C.d (D.bool true)], TV.v false [C.undef], TV.v false [C.undef], TV.v false [C.d (D.sl false 1 (enS false a))], TV.v false [C.d (D.int IntKind.i64 i0)], TV.v false [C.rptr (List.getD (enS false a) (Int.toNat i0) [])], TV.v false [C.d (D.int IntKind.u8 (D.num (List.getD (List.getD (enS false a) (Int.toNat i0) []) 0 D.dead)))], TV.v false [C.d (D.sl false 1 (enS false b))], TV.v false [C.d (D.int IntKind.i64 i0)], TV.v false [C.rptr (List.getD (enS false b) (Int.toNat i0) [])], TV.v false [C.d (D.int IntKind.u8 (D.num (List.getD (List.getD (enS false b) (Int.toNat i0) []) 0 D.dead)))], TV.v false [C.d (D.bool true)]] []
noncomputable def X11_3 (a : List UInt8) (b : List UInt8) (i0 : Int) : St := St.mk [TV.v false [C.d (D.sl false 1 (enS false a))], TV.v false [C.d (D.sl false 1 (enS false b))], TV.v false [C.undef], TV.v false [C.undef], TV.v false [C.undef], TV.v false [C.d (D.int IntKind.i64 i0)], TV.v false [C.undef], TV.v false [C.undef], TV.v false [C.undef], TV.v false [C.undef], TV.v false [C.undef], TV.v false [C.d (D.int IntKind.i64 i0)], TV.v false [C.d (D.sl false 1 (enS false a))], TV.v false [C.d (D.int IntKind.i64 (Int.ofNat (List.length (enS false a))))], TV.v false [C.d (D.bool false)], TV.v false [C.undef], TV.v false [C.undef], TV.v false [C.undef], TV.v false [C.undef], TV.v false [C.undef], TV.v false [C.undef], TV.v false [C.undef], TV.v false [C.undef], TV.v false [C.undef], TV.v false [C.undef], TV.v false [C.undef]] []
theorem q11_0 (a : List UInt8) (b : List UInt8) (n : Nat) (i0 : Int) (f : St → Option (List Row × List Row)) (K : Ex → St → Option (List Row × List Row)) : B11_0 n (S11_0 a b i0) (@kThen (List Row × List Row) (fun st ↦ f (St.head 0 35 67106864 st)) K) = bif decide (i0 < Int.ofNat (List.length (enS false a))) then bif decide (0 ≤ i0) && decide (i0 < Int.ofNat (List.length (enS false a))) then bif Leaf.fit false (Leaf.int IntKind.u8) (List.getD (List.getD (enS false a) (Int.toNat i0) []) 0 D.dead) && true then bif decide (0 ≤ i0) && decide (i0 < Int.ofNat (List.length (enS false b))) then bif Leaf.fit false (Leaf.int IntKind.u8) (List.getD (List.getD (enS false b) (Int.toNat i0) []) 0 D.dead) && true then bif D.num (List.getD (List.getD (enS false a) (Int.toNat i0) []) 0 D.dead) != D.num (List.getD (List.getD (enS false b) (Int.toNat i0) []) 0 D.dead) then K Ex.ret (X11_2 a b i0) else f (S11_0 a b (IntKind.wrap IntKind.i64 (i0 + 1))) else none else none else none else none else K (Ex.exit 0) (X11_3 a b i0) := by kernel_rfl
theorem aX11_2 (a : List UInt8) (b : List UInt8) (n : Nat) (i0 : Int) : k11_1 n Ex.ret (X11_2 a b i0) = some ([[D.bool false]], []) := by kernel_rfl
theorem aX11_3 (a : List UInt8) (b : List UInt8) (n : Nat) (i0 : Int) : k11_1 n (Ex.exit 0) (X11_3 a b i0) = some ([[D.bool true]], []) := by kernel_rfl
theorem r11 (a : List UInt8) (b : List UInt8) (n : Nat) : evFn ⟨Go.Proofs.Try.prog, Hx, 11⟩ T9.call n Go.Proofs.Try.f11 [[.sl false 1 (enS false a)], [.sl false 1 (enS false b)]] = bif Int.ofNat (List.length (enS false a)) != Int.ofNat (List.length (enS false b)) then some ([[D.bool false]], []) else loopRun (B11_0 n) 0 35 67106864 n (S11_0 a b (0)) (k11_1 n) := by kernel_rfl
theorem m11 (a : List UInt8) (b : List UInt8) (hpre : (o11 a b).1 = true) : evFn ⟨Go.Proofs.Try.prog, Hx, 11⟩ T9.call (a.length + 1) Go.Proofs.Try.f11 [[.sl false 1 (enS false a)], [.sl false 1 (enS false b)]] = some (o11 a b).2 := by
  refine (r11 a b _).trans ?_
  show _ = (some ([[.bool (true)]], []) : Option (List Row × List Row))
  replace hpre : (sameB a b && (decide (a.length ≤ 1048576))) = true := hpre
  rw [Bool.and_eq_true] at hpre
  obtain ⟨h0, h1⟩ := hpre
  have hlen : a.length ≤ 1048576 := of_decide_eq_true h1
  have := sameB_eq h0
  subst this
  simp only [bne_self_eq_false, cond_false]
  refine loop_list (xs := a) (fun i (_ : Unit) => S11_0 a a (Int.ofNat i)) (fun _ _ => True) (fun _ _ _ => some ([[D.bool true]], [])) ?_ ?_ (a.length + 1) () (by omega) trivial
  · rintro _ _ f
    refine (q11_0 a a _ _ f _).trans ?_
    simp only [enS_length, dec_lt, Nat.lt_irrefl, decide_false, cond_false]
    exact aX11_3 a a _ _
  · rintro i _ hi _ f hf
    refine (q11_0 a a _ _ f _).trans ?_
    simp only [enS_length, toNat_of, dec_lt, dec_ge, enS_get _ hi, hi, wrap_succ (show i < 4611686018427387904 by omega), decide_true, cond_true, Bool.and_self, sameB_self, bne_self_eq_false, cond_false]
    exact hf () trivial
theorem s11 : SoundAt Go.Proofs.Try.prog Hx 11 c11 := soundAt_of T9_sound mixed Go.Proofs.Try.func11 (by kernel_rfl) (by
  intro rows r h
  unfold c11 at h
  split at h
  · rename_i a b
    obtain ⟨hp, hr⟩ := Prod.mk.inj (Option.some.inj h)
    subst hr
    simp only [Bool.and_eq_true] at hp
    obtain ⟨⟨hs0, hs1⟩, hp⟩ := hp
    obtain ⟨xs0, rfl⟩ := isS_ex hs0
    obtain ⟨xs1, rfl⟩ := isS_ex hs1
    simp only [deS_enS] at hp ⊢
    exact ⟨_, m11 xs0 xs1 hp⟩
  · cases h)
def T11 : Table := (11, c11) :: T9
theorem T11_sound : Table.Sound Go.Proofs.Try.prog Hx T11 := Table.sound_cons s11 T9_sound
/- markByteS -/
def o12 (a : List UInt8) (k : Int) : Bool × List Row × List Row := (decide (0 ≤ k) && (decide (k + cntS oneN a ≤ 4611686018427387904) && decide (a.length ≤ 1152921504606846976)), [[.int .i64 (k + cntS oneN a)]], [[.sl true 1 (enS true (markS byteMk oneN a k))]])
def c12 : Contract
  | [[.sl true 1 a], [.int .i64 k]] => some (isS UInt8 true a && (o12 (deS UInt8 a) k).1, (o12 (deS UInt8 a) k).2.1, (o12 (deS UInt8 a) k).2.2)
  | _ => none

noncomputable def k12_0 (n : Nat) : Ex → St → Option (List Row × List Row) := kThen (fun st ↦ runCode (Ctx.mk Go.Proofs.Try.prog Hx (12)) (Table.call T11) n (codeAt [1, 1] (bodyOf Go.Proofs.Try.f12)) (Lv.mk 16 [] 16) st (kLeave (Ctx.P (Ctx.mk Go.Proofs.Try.prog Hx (12))) (List.zip (Array.toList (Go.Func.resultTypes Go.Proofs.Try.f12)) (Array.toList (Go.Func.results Go.Proofs.Try.f12))) [] [C.view 0 0 0 [] 1 none])) (kLeave (Ctx.P (Ctx.mk Go.Proofs.Try.prog Hx (12))) (List.zip (Array.toList (Go.Func.resultTypes Go.Proofs.Try.f12)) (Array.toList (Go.Func.results Go.Proofs.Try.f12))) [] [C.view 0 0 0 [] 1 none])
noncomputable def k12_1 (n : Nat) : Ex → St → Option (List Row × List Row) := kBlock (0) (k12_0 n)
noncomputable def S12_0 (i0 : Int) (i1 : Int) (es2 : List (List D)) : St := St.mk [TV.v false [C.view 0 0 0 [] 1 none], TV.v false [C.d (D.int IntKind.i64 i0)], TV.v false [C.undef], TV.v false [C.undef], TV.v false [C.undef], TV.v false [C.d (D.int IntKind.i64 i1)], TV.v false [C.undef], TV.v false [C.undef], TV.v false [C.undef], TV.v false [C.undef], TV.v false [C.undef], TV.v false [C.undef], TV.v false [C.undef], TV.v false [C.undef], TV.v false [C.undef], TV.v false [C.undef], TV.v false [C.undef], TV.v false [C.undef], TV.v false [C.undef], TV.v false [C.undef]] [Root.mk false 1 es2 0 0 true true]
noncomputable def B12_0 (n : Nat) : St → (Ex → St → Option (List Row × List Row)) → Option (List Row × List Row) := runCode (Ctx.mk Go.Proofs.Try.prog Hx (12)) (Table.call T11) n (codeAt [1, 0, 1, 0, 0] (bodyOf Go.Proofs.Try.f12)) (Lv.mk 0 [(0, 2)] 16)
noncomputable def X12_2 (i0 : Int) (i1 : Int) (es2 : List (List D)) : St := St.mk [TV.v false [C.view 0 0 0 [] 1 none], TV.v false [C.d (D.int IntKind.i64 i0)], TV.v false [C.undef], TV.v false [C.undef], TV.v false [C.undef], TV.v false [C.d (D.int IntKind.i64 i1)], TV.v false [C.d (D.int IntKind.i64 i1)], TV.v false [C.view 0 0 0 [] 1 none], TV.v false [C.d (D.int IntKind.i64 (Int.ofNat (List.length es2)))], TV.v false [C.d (D.bool false)], TV.v false [C.undef], TV.v false [C.undef], TV.v false [C.undef], TV.v false [C.undef], TV.v false [C.undef], TV.v false [C.undef], TV.v false [C.undef], TV.v false [C.undef], TV.v false [C.undef], TV.v false [C.undef]] [Root.mk false 1 es2 0 0 true true]
theorem q12_0 (n : Nat) (i0 : Int) (i1 : Int) (es2 : List (List D)) (f : St → Option (List Row × List Row)) (K : Ex → St → Option (List Row × List Row)) : B12_0 n (S12_0 i0 i1 es2) (@kThen (List Row × List Row) (fun st ↦ f (St.head 1 35 524258 st)) K) = bif decide (i1 < Int.ofNat (List.length es2)) then bif decide (0 ≤ i1) && decide (i1 < Int.ofNat (List.length es2)) then f (S12_0 (IntKind.wrap IntKind.i64 (i0 + 1)) (IntKind.wrap IntKind.i64 (i1 + 1)) (List.set es2 (0 + Int.toNat i1) [D.int IntKind.u8 (IntKind.wrap IntKind.u8 i0)])) else none else K (Ex.exit 0) (X12_2 i0 i1 es2) := by kernel_rfl
theorem aX12_2 (n : Nat) (i0 : Int) (i1 : Int) (es2 : List (List D)) : k12_1 n (Ex.exit 0) (X12_2 i0 i1 es2) = some ([[D.int IntKind.i64 i0]], [[D.sl true 1 es2]]) := by kernel_rfl
theorem r12 (a : List UInt8) (k : Int) (n : Nat) : evFn ⟨Go.Proofs.Try.prog, Hx, 12⟩ T11.call n Go.Proofs.Try.f12 [[.sl true 1 (enS true a)], [.int .i64 k]] = loopRun (B12_0 n) 1 35 524258 n (S12_0 k (0) (enS true a)) (k12_1 n) := by kernel_rfl
theorem m12 (a : List UInt8) (k : Int) (hpre : (o12 a k).1 = true) : evFn ⟨Go.Proofs.Try.prog, Hx, 12⟩ T11.call (a.length + 1) Go.Proofs.Try.f12 [[.sl true 1 (enS true a)], [.int .i64 k]] = some (o12 a k).2 := by
  refine (r12 a k _).trans ?_
  show _ = (some ([[.int .i64 (k + cntS oneN a)]], [[.sl true 1 (enS true (markS byteMk oneN a k))]]) : Option (List Row × List Row))
  replace hpre : (decide (0 ≤ k) && (decide (k + cntS oneN a ≤ 4611686018427387904) && decide (a.length ≤ 1152921504606846976))) = true := hpre
  simp only [Bool.and_eq_true, decide_eq_true_eq] at hpre
  obtain ⟨h0, h1, h2⟩ := hpre
  refine loop_list (xs := a) (fun i (v : List UInt8 × Int) => S12_0 v.2 (Int.ofNat i) (enS true (v.1 ++ a.drop i))) (fun i v => v.1.length = i ∧ 0 ≤ v.2 ∧ v.2 + cntS oneN (a.drop i) ≤ 4611686018427387904) (fun _ v rest => some ([[D.int .i64 (v.2 + cntS oneN rest)]], [[D.sl true 1 (enS true (v.1 ++ markS byteMk oneN rest v.2))]])) ?_ ?_ (a.length + 1) ([], k) (by omega) ⟨rfl, h0, h1⟩
  · rintro ⟨pre, k⟩ ⟨hl, hk0, hk1⟩ f
    refine (q12_0 _ _ _ _ f _).trans ?_
    simp only [enS_length, List.drop_length, List.append_nil, hl, dec_lt, Nat.lt_irrefl, decide_false, cond_false]
    refine (aX12_2 _ _ _ _).trans ?_
    simp only [List.append_nil, cntS, markS, Int.add_zero]
  · rintro i ⟨pre, k⟩ hi ⟨hl, hk0, hk1⟩ f hf
    simp only at hl hk0 hk1
    rw [List.drop_eq_getElem_cons hi] at hk1
    generalize hx : a[i] = x at hk1 ⊢
    have hc := cntS_nonneg (n := oneN) oneN_pos (a.drop (i + 1))
    have hn : oneN x = 1 := rfl
    simp only [cntS, hn] at hk1
    refine (q12_0 _ _ _ _ f _).trans ?_
    rw [List.drop_eq_getElem_cons hi, hx]
    have hm := mid_get pre x (a.drop (i + 1)) hl
    have hat := mid_at pre x (a.drop (i + 1)) hl hm
    have hs : ∀ R, ((enS true (pre ++ x :: a.drop (i + 1))).set i R).getD i [] = R := fun R => getD_set_same _ _ _ _ (by rw [enS_length]; exact hm)
    simp only [List.length_set, enS_length, toNat_of, Nat.zero_add, dec_lt, dec_ge, hm, hs, List.set_set, enS_get _ hm, hat, decide_true, cond_true, Bool.and_self, wrap_succ (show i < 4611686018427387904 by omega)]
    have hw1 : IntKind.wrap IntKind.i64 (k + 1) = k + 1 := wrap_le (by omega) (by omega)
    simp only [hw1]
    have he : k + 1 = k + oneN x := by omega
    rw [← u8_wrap k]
    refine (congrArg f (congrArg (S12_0 _ _) ((enS_set true _ i (byteMk x k)).trans (congrArg (enS true) (mid_set pre x _ _ hl))))).trans ?_
    refine (hf (pre ++ [byteMk x k], k + 1) ⟨by simp [hl], by simp only; omega, by simp only; omega⟩).trans ?_
    show _ = some ([[D.int .i64 (k + (oneN x + cntS oneN (a.drop (i + 1))))]], [[D.sl true 1 (enS true (pre ++ (byteMk x k :: markS byteMk oneN (a.drop (i + 1)) (k + oneN x))))]])
    rw [he, List.append_assoc, List.singleton_append, Int.add_assoc]
theorem s12 : SoundAt Go.Proofs.Try.prog Hx 12 c12 := soundAt_of T11_sound mixed Go.Proofs.Try.func12 (by kernel_rfl) (by
  intro rows r h
  unfold c12 at h
  split at h
  · rename_i a k
    obtain ⟨hp, hr⟩ := Prod.mk.inj (Option.some.inj h)
    subst hr
    simp only [Bool.and_eq_true] at hp
    obtain ⟨hs0, hp⟩ := hp
    obtain ⟨xs0, rfl⟩ := isS_ex hs0
    simp only [deS_enS] at hp ⊢
    exact ⟨_, m12 xs0 k hp⟩
  · cases h)
def T12 : Table := (12, c12) :: T11
theorem T12_sound : Table.Sound Go.Proofs.Try.prog Hx T12 := Table.sound_cons s12 T11_sound
/- heldByteS -/
def o13 (a : List UInt8) (k : Int) : Bool × List Row × List Row := (sameB (markS byteMk oneN a k) a && (decide (0 ≤ k) && (decide (k + cntS oneN a ≤ 4611686018427387904) && decide (a.length ≤ 1152921504606846976))), [[.int .i64 (k + cntS oneN a)]], [])
def c13 : Contract
  | [[.sl false 1 a], [.int .i64 k]] => some (isS UInt8 false a && (o13 (deS UInt8 a) k).1, (o13 (deS UInt8 a) k).2.1, (o13 (deS UInt8 a) k).2.2)
  | _ => none

noncomputable def k13_0 (n : Nat) : Ex → St → Option (List Row × List Row) := kThen (fun st ↦ runCode (Ctx.mk Go.Proofs.Try.prog Hx (13)) (Table.call T12) n (codeAt [1, 1] (bodyOf Go.Proofs.Try.f13)) (Lv.mk 16 [] 16) st (kLeave (Ctx.P (Ctx.mk Go.Proofs.Try.prog Hx (13))) (List.zip (Array.toList (Go.Func.resultTypes Go.Proofs.Try.f13)) (Array.toList (Go.Func.results Go.Proofs.Try.f13))) [] [])) (kLeave (Ctx.P (Ctx.mk Go.Proofs.Try.prog Hx (13))) (List.zip (Array.toList (Go.Func.resultTypes Go.Proofs.Try.f13)) (Array.toList (Go.Func.results Go.Proofs.Try.f13))) [] [])
noncomputable def k13_1 (n : Nat) : Ex → St → Option (List Row × List Row) := kBlock (0) (k13_0 n)
noncomputable def S13_0 (a : List UInt8) (i0 : Int) (i1 : Int) : St := St.mk [TV.v false [C.d (D.sl false 1 (enS false a))], TV.v false [C.d (D.int IntKind.i64 i0)], TV.v false [C.undef], TV.v false [C.undef], TV.v false [C.undef], TV.v false [C.d (D.int IntKind.i64 i1)], TV.v false [C.undef], TV.v false [C.undef], TV.v false [C.undef], TV.v false [C.undef], TV.v false [C.undef], TV.v false [C.undef], TV.v false [C.undef], TV.v false [C.undef], TV.v false [C.undef], TV.v false [C.undef], TV.v false [C.undef], TV.v false [C.undef], TV.v false [C.undef], TV.v false [C.undef], TV.v false [C.undef], TV.v false [C.undef]] []
noncomputable def B13_0 (n : Nat) : St → (Ex → St → Option (List Row × List Row)) → Option (List Row × List Row) := runCode (Ctx.mk Go.Proofs.Try.prog Hx (13)) (Table.call T12) n (codeAt [1, 0, 1, 0, 0] (bodyOf Go.Proofs.Try.f13)) (Lv.mk 0 [(0, 2)] 16)
noncomputable def X13_2 (a : List UInt8) (i0 : Int) (i1 : Int) : St := St.mk [TV.v false [C.d (D.sl false 1 (enS false a))], TV.v false [C.d (D.int IntKind.i64 i0)], TV.v false [C.undef], TV.v false [C.undef], TV.v false [C.d (D.int IntKind.i64 (Int.negSucc 0))], TV.v false [C.d (D.int IntKind.i64 i1)], TV.v false [C.d (D.int IntKind.i64 i1)], TV.v false [C.d (D.sl false 1 (enS false a))], TV.v false [C.d (D.int IntKind.i64 (Int.ofNat (List.length (enS false a))))], TV.v false [C.d (D.bool true)], TV.v false [C.undef], TV.v false [C.undef], TV.v false [C.d (D.sl false 1 (enS false a))], TV.v false [C.d (D.int IntKind.i64 i1)], TV.v false [C.rptr (List.getD (enS false a) (Int.toNat i1) [])], TV.v false [C.d (D.int IntKind.u8 (D.num (List.getD (List.getD (enS false a) (Int.toNat i1) []) 0 D.dead)))], TV.v false [C.d (D.int IntKind.i64 i0)], TV.v false [C.d (D.int IntKind.u8 (IntKind.wrap IntKind.u8 i0))], TV.v false [C.d (D.bool true)], TV.v false [C.undef], TV.v false [C.undef], TV.v false [C.undef]] []
noncomputable def X13_3 (a : List UInt8) (i0 : Int) (i1 : Int) : St := St.mk [TV.v false [C.d (D.sl false 1 (enS false a))], TV.v false [C.d (D.int IntKind.i64 i0)], TV.v false [C.undef], TV.v false [C.undef], TV.v false [C.undef], TV.v false [C.d (D.int IntKind.i64 i1)], TV.v false [C.d (D.int IntKind.i64 i1)], TV.v false [C.d (D.sl false 1 (enS false a))], TV.v false [C.d (D.int IntKind.i64 (Int.ofNat (List.length (enS false a))))], TV.v false [C.d (D.bool false)], TV.v false [C.undef], TV.v false [C.undef], TV.v false [C.undef], TV.v false [C.undef], TV.v false [C.undef], TV.v false [C.undef], TV.v false [C.undef], TV.v false [C.undef], TV.v false [C.undef], TV.v false [C.undef], TV.v false [C.undef], TV.v false [C.undef]] []
theorem q13_0 (a : List UInt8) (n : Nat) (i0 : Int) (i1 : Int) (f : St → Option (List Row × List Row)) (K : Ex → St → Option (List Row × List Row)) : B13_0 n (S13_0 a i0 i1) (@kThen (List Row × List Row) (fun st ↦ f (St.head 0 35 2097138 st)) K) = bif decide (i1 < Int.ofNat (List.length (enS false a))) then bif decide (0 ≤ i1) && decide (i1 < Int.ofNat (List.length (enS false a))) then bif Leaf.fit false (Leaf.int IntKind.u8) (List.getD (List.getD (enS false a) (Int.toNat i1) []) 0 D.dead) && true then bif D.num (List.getD (List.getD (enS false a) (Int.toNat i1) []) 0 D.dead) != IntKind.wrap IntKind.u8 i0 then K Ex.ret (X13_2 a i0 i1) else f (S13_0 a (IntKind.wrap IntKind.i64 (i0 + 1)) (IntKind.wrap IntKind.i64 (i1 + 1))) else none else none else K (Ex.exit 0) (X13_3 a i0 i1) := by kernel_rfl
theorem aX13_2 (a : List UInt8) (n : Nat) (i0 : Int) (i1 : Int) : k13_1 n Ex.ret (X13_2 a i0 i1) = some ([[D.int IntKind.i64 (Int.negSucc 0)]], []) := by kernel_rfl
theorem aX13_3 (a : List UInt8) (n : Nat) (i0 : Int) (i1 : Int) : k13_1 n (Ex.exit 0) (X13_3 a i0 i1) = some ([[D.int IntKind.i64 i0]], []) := by kernel_rfl
theorem r13 (a : List UInt8) (k : Int) (n : Nat) : evFn ⟨Go.Proofs.Try.prog, Hx, 13⟩ T12.call n Go.Proofs.Try.f13 [[.sl false 1 (enS false a)], [.int .i64 k]] = loopRun (B13_0 n) 0 35 2097138 n (S13_0 a k (0)) (k13_1 n) := by kernel_rfl
theorem m13 (a : List UInt8) (k : Int) (hpre : (o13 a k).1 = true) : evFn ⟨Go.Proofs.Try.prog, Hx, 13⟩ T12.call (a.length + 1) Go.Proofs.Try.f13 [[.sl false 1 (enS false a)], [.int .i64 k]] = some (o13 a k).2 := by
  refine (r13 a k _).trans ?_
  show _ = (some ([[.int .i64 (k + cntS oneN a)]], []) : Option (List Row × List Row))
  replace hpre : (sameB (markS byteMk oneN a k) a && (decide (0 ≤ k) && (decide (k + cntS oneN a ≤ 4611686018427387904) && decide (a.length ≤ 1152921504606846976)))) = true := hpre
  rw [Bool.and_eq_true] at hpre
  obtain ⟨hsame, hpre⟩ := hpre
  have hsame := sameB_eq hsame
  simp only [Bool.and_eq_true, decide_eq_true_eq] at hpre
  obtain ⟨h0, h1, h2⟩ := hpre
  refine loop_list (xs := a) (fun i (k : Int) => S13_0 a k (Int.ofNat i)) (fun i k => 0 ≤ k ∧ k + cntS oneN (a.drop i) ≤ 4611686018427387904 ∧ markS byteMk oneN (a.drop i) k = a.drop i) (fun _ k rest => some ([[D.int .i64 (k + cntS oneN rest)]], [])) ?_ ?_ (a.length + 1) k (by omega) ⟨h0, h1, hsame⟩
  · rintro k ⟨hk0, hk1, _⟩ f
    refine (q13_0 a _ _ _ f _).trans ?_
    simp only [enS_length, dec_lt, Nat.lt_irrefl, decide_false, cond_false]
    refine (aX13_3 a _ _ _).trans ?_
    simp only [cntS, Int.add_zero]
  · rintro i k hi ⟨hk0, hk1, hk2⟩ f hf
    rw [List.drop_eq_getElem_cons hi] at hk1 hk2
    have hc := cntS_nonneg (n := oneN) oneN_pos (a.drop (i + 1))
    have hn : oneN a[i] = 1 := rfl
    simp only [cntS, hn] at hk1
    have he : k + 1 = k + oneN a[i] := by omega
    simp only [markS, List.cons.injEq] at hk2
    obtain ⟨hk2, hk3⟩ := hk2
    refine (q13_0 a _ _ _ f _).trans ?_
    simp only [enS_length, toNat_of, dec_lt, dec_ge, enS_get _ hi, hi, wrap_succ (show i < 4611686018427387904 by omega), decide_true, cond_true, Bool.and_self]
    have hw1 : IntKind.wrap IntKind.i64 (k + 1) = k + 1 := wrap_le (by omega) (by omega)
    simp only [hw1]
    rw [← hk2]
    refine Eq.trans (b := f (S13_0 a (k + 1) (Int.ofNat (i + 1)))) ?_ ((hf (k + 1) ⟨by omega, by omega, by rw [he]; exact hk3⟩).trans ?_)
    · simp only [u8_wrap, En.enc, byteMk, Leaf.fit, List.getD_cons_zero, List.getD_cons_succ, D.num, D.flag, D.text, bne_self_eq_false, Bool.and_self, cond_true, cond_false, decide_true]
    · show _ = some ([[D.int .i64 (k + (oneN a[i] + cntS oneN (a.drop (i + 1))))]], [])
      rw [he, Int.add_assoc]
theorem s13 : SoundAt Go.Proofs.Try.prog Hx 13 c13 := soundAt_of T12_sound mixed Go.Proofs.Try.func13 (by kernel_rfl) (by
  intro rows r h
  unfold c13 at h
  split at h
  · rename_i a k
    obtain ⟨hp, hr⟩ := Prod.mk.inj (Option.some.inj h)
    subst hr
    simp only [Bool.and_eq_true] at hp
    obtain ⟨hs0, hp⟩ := hp
    obtain ⟨xs0, rfl⟩ := isS_ex hs0
    simp only [deS_enS] at hp ⊢
    exact ⟨_, m13 xs0 k hp⟩
  · cases h)
def T13 : Table := (13, c13) :: T12
theorem T13_sound : Table.Sound Go.Proofs.Try.prog Hx T13 := Table.sound_cons s13 T12_sound
/- law -/
def o3 (aP : Port) : Bool × List Row × List Row := (true, [[.bool (true)]], [])
def c3 : Contract
  | [[.bool aP_Up, .bool aP_Has, .int .i64 aP_Vec_Root, .int .i64 aP_Vec_Cost, .int .i64 aP_Vec_Bridge, .int .i64 aP_Vec_Port, .int .i64 aP_Hops, .int .i64 aP_Left, .int .i64 aP_Role, .int .i64 aP_Wait, .bool aP_Open]] => some ((o3 ⟨aP_Up, aP_Has, ⟨aP_Vec_Root, aP_Vec_Cost, aP_Vec_Bridge, aP_Vec_Port⟩, aP_Hops, aP_Left, aP_Role, aP_Wait, aP_Open⟩).1, (o3 ⟨aP_Up, aP_Has, ⟨aP_Vec_Root, aP_Vec_Cost, aP_Vec_Bridge, aP_Vec_Port⟩, aP_Hops, aP_Left, aP_Role, aP_Wait, aP_Open⟩).2.1, (o3 ⟨aP_Up, aP_Has, ⟨aP_Vec_Root, aP_Vec_Cost, aP_Vec_Bridge, aP_Vec_Port⟩, aP_Hops, aP_Left, aP_Role, aP_Wait, aP_Open⟩).2.2)
  | _ => none

theorem r3 (aP : Port) (n : Nat) : evFn ⟨Go.Proofs.Try.prog, Hx, 3⟩ T13.call n Go.Proofs.Try.f3 [[.bool aP.Up, .bool aP.Has, .int .i64 aP.Vec.Root, .int .i64 aP.Vec.Cost, .int .i64 aP.Vec.Bridge, .int .i64 aP.Vec.Port, .int .i64 aP.Hops, .int .i64 aP.Left, .int .i64 aP.Role, .int .i64 aP.Wait, .bool aP.Open]] = bif isS UInt8 false (lendRows (enS true (portBs aP))) && isS UInt8 false (lendRows (enS true (portBs aP))) && (sameB (deS UInt8 (lendRows (enS true (portBs aP)))) (deS UInt8 (lendRows (enS true (portBs aP)))) && decide (List.length (deS UInt8 (lendRows (enS true (portBs aP)))) ≤ 1048576)) then bif isS UInt8 true (enS true (portBs aP)) && (decide (1 + cntS oneN (deS UInt8 (enS true (portBs aP))) ≤ 4611686018427387904) && decide (List.length (deS UInt8 (enS true (portBs aP))) ≤ 1152921504606846976)) then bif isS UInt8 false (lendRows (enS true (markS byteMk oneN (deS UInt8 (enS true (portBs aP))) (1)))) && (sameB (markS byteMk oneN (deS UInt8 (lendRows (enS true (markS byteMk oneN (deS UInt8 (enS true (portBs aP))) (1))))) (1)) (deS UInt8 (lendRows (enS true (markS byteMk oneN (deS UInt8 (enS true (portBs aP))) (1))))) && (decide (1 + cntS oneN (deS UInt8 (lendRows (enS true (markS byteMk oneN (deS UInt8 (enS true (portBs aP))) (1))))) ≤ 4611686018427387904) && decide (List.length (deS UInt8 (lendRows (enS true (markS byteMk oneN (deS UInt8 (enS true (portBs aP))) (1))))) ≤ 1152921504606846976))) then bif decide (1 + cntS oneN (deS UInt8 (lendRows (enS true (markS byteMk oneN (deS UInt8 (enS true (portBs aP))) (1))))) < 0) then some ([[D.bool false]], []) else bif 1 + cntS oneN (deS UInt8 (lendRows (enS true (markS byteMk oneN (deS UInt8 (enS true (portBs aP))) (1))))) != 1 + cntS oneN (deS UInt8 (enS true (portBs aP))) then some ([[D.bool false]], []) else bif isS UInt8 false (lendRows (enS true (portBs aP))) && isS UInt8 false (lendRows (enS true (portBs aP))) && (sameB (deS UInt8 (lendRows (enS true (portBs aP)))) (deS UInt8 (lendRows (enS true (portBs aP)))) && decide (List.length (deS UInt8 (lendRows (enS true (portBs aP)))) ≤ 1048576)) then bif isS UInt8 false (lendRows (enS true (markS byteMk oneN (deS UInt8 (enS true (portBs aP))) (1)))) && (sameB (markS byteMk oneN (deS UInt8 (lendRows (enS true (markS byteMk oneN (deS UInt8 (enS true (portBs aP))) (1))))) (1)) (deS UInt8 (lendRows (enS true (markS byteMk oneN (deS UInt8 (enS true (portBs aP))) (1))))) && (decide (1 + cntS oneN (deS UInt8 (lendRows (enS true (markS byteMk oneN (deS UInt8 (enS true (portBs aP))) (1))))) ≤ 4611686018427387904) && decide (List.length (deS UInt8 (lendRows (enS true (markS byteMk oneN (deS UInt8 (enS true (portBs aP))) (1))))) ≤ 1152921504606846976))) then bif decide (1 + cntS oneN (deS UInt8 (lendRows (enS true (markS byteMk oneN (deS UInt8 (enS true (portBs aP))) (1))))) < 0) then some ([[D.bool false]], []) else bif 1 + cntS oneN (deS UInt8 (lendRows (enS true (markS byteMk oneN (deS UInt8 (enS true (portBs aP))) (1))))) != 1 + cntS oneN (deS UInt8 (enS true (portBs aP))) then some ([[D.bool false]], []) else some ([[D.bool true]], []) else none else none else none else none else none := by kernel_rfl
theorem m3 (aP : Port) (hpre : (o3 aP).1 = true) : evFn ⟨Go.Proofs.Try.prog, Hx, 3⟩ T13.call 0 Go.Proofs.Try.f3 [[.bool aP.Up, .bool aP.Has, .int .i64 aP.Vec.Root, .int .i64 aP.Vec.Cost, .int .i64 aP.Vec.Bridge, .int .i64 aP.Vec.Port, .int .i64 aP.Hops, .int .i64 aP.Left, .int .i64 aP.Role, .int .i64 aP.Wait, .bool aP.Open]] = some (o3 aP).2 := by
  refine (r3 aP _).trans ?_
  show _ = (some ([[.bool (true)]], []) : Option (List Row × List Row))
  replace hpre : (true) = true := hpre
  have hl := portBs_length aP
  generalize hg : portBs aP = g at hl ⊢
  have hc2 : cntS oneN g = 1 * (g.length : Int) := cntS_const (fun _ => rfl) _
  obtain ⟨hi1, hi2⟩ := markS_idem (mk := byteMk) (n := oneN) (fun _ _ => rfl) (fun _ _ => rfl) g 1
  have hi3 := markS_length byteMk oneN g 1
  have d3 : decide (1 + cntS oneN g ≤ 4611686018427387904) = true := decide_eq_true (by omega)
  have d4 : decide (g.length ≤ 1152921504606846976) = true := decide_eq_true (by omega)
  have d5 : decide (g.length ≤ 1048576) = true := decide_eq_true (by omega)
  have d7 : decide (1 + cntS oneN g < 0) = false := decide_eq_false (by omega)
  simp only [d3, d4, d5, d7, hi1, hi2, hi3, isS_enS, deS_enS, lendRows_enS, deepRows_enS, sameB_self, enS_length, Bool.and_self, Bool.and_true, Bool.true_and, cond_true, cond_false, Bool.not_true, bne_self_eq_false]
theorem s3 : SoundAt Go.Proofs.Try.prog Hx 3 c3 := soundAt_of T13_sound mixed Go.Proofs.Try.func3 (by kernel_rfl) (by
  intro rows r h
  unfold c3 at h
  split at h
  · rename_i aP_Up aP_Has aP_Vec_Root aP_Vec_Cost aP_Vec_Bridge aP_Vec_Port aP_Hops aP_Left aP_Role aP_Wait aP_Open
    obtain ⟨hp, hr⟩ := Prod.mk.inj (Option.some.inj h)
    subst hr
    exact ⟨_, m3 ⟨aP_Up, aP_Has, ⟨aP_Vec_Root, aP_Vec_Cost, aP_Vec_Bridge, aP_Vec_Port⟩, aP_Hops, aP_Left, aP_Role, aP_Wait, aP_Open⟩ hp⟩
  · cases h)
def T3 : Table := (3, c3) :: T13
theorem T3_sound : Table.Sound Go.Proofs.Try.prog Hx T3 := Table.sound_cons s3 T13_sound
end Go.Ev
end
