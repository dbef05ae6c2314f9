/- Contracts of functions, each by its evaluation. -/
import Derived.Test.YtikmcmocecalaaaEvMd
import Derived.Test.YtikmcmocecalaaaProg
import Derived.KernelRfl
import Derived.Test.YtikmcmocecalaaaFBridgebytes
set_option linter.unusedVariables false
set_option linter.unusedSimpArgs false
set_option maxRecDepth 100000
noncomputable section
namespace Go.Ev
open Go.RowKit Go.Md
end Go.Ev
namespace Go.Md
open Go Go.Ev
def Bridge.wt (x : Bridge) : Int := (x.Ports.length : Int)
def Bridge.small (x : Bridge) : Bool := decide (x.Ports.length ≤ 1048576)
def Bridge.big (x : Bridge) : Bool := decide (x.Ports.length ≤ 9223372036854775807)
theorem Bridge.wt_pos (x : Bridge) : 0 ≤ Bridge.wt x := by
  unfold Bridge.wt
  omega
theorem Bridge.small_of (x : Bridge) (h : Bridge.wt x ≤ 1048576) : Bridge.small x = true := by
  unfold Bridge.wt at h
  unfold Bridge.small
  exact decide_eq_true (by omega)
def Vec.mk_ (x : Vec) (k : Int) : Vec := ⟨k, k + 1, k + 1 + 1, k + 1 + 1 + 1⟩
def Vec.n_ (x : Vec) : Int := 1 + 1 + 1 + 1
theorem Vec.n_pos (x : Vec) : 0 ≤ Vec.n_ x := by show (0 : Int) ≤ 1 + 1 + 1 + 1; decide
def Port.mk_ (x : Port) (k : Int) : Port := ⟨(k).tmod 3 == 0, (k + 1).tmod 3 == 0, ⟨k + 1 + 1, k + 1 + 1 + 1, k + 1 + 1 + 1 + 1, k + 1 + 1 + 1 + 1 + 1⟩, k + 1 + 1 + 1 + 1 + 1 + 1, k + 1 + 1 + 1 + 1 + 1 + 1 + 1, k + 1 + 1 + 1 + 1 + 1 + 1 + 1 + 1, k + 1 + 1 + 1 + 1 + 1 + 1 + 1 + 1 + 1, (k + 1 + 1 + 1 + 1 + 1 + 1 + 1 + 1 + 1 + 1).tmod 3 == 0⟩
def Port.n_ (x : Port) : Int := 1 + 1 + 1 + 1 + 1 + 1 + 1 + 1 + 1 + 1 + 1
theorem Port.n_pos (x : Port) : 0 ≤ Port.n_ x := by show (0 : Int) ≤ 1 + 1 + 1 + 1 + 1 + 1 + 1 + 1 + 1 + 1 + 1; decide
def Bridge.mkTop (x : Bridge) (k : Int) : Bridge := ⟨x.Id, markS Port.mk_ Port.n_ x.Ports (k)⟩
def Bridge.nTop (x : Bridge) : Int := cntS Port.n_ x.Ports
theorem Bridge.nTop_pos (x : Bridge) : 0 ≤ Bridge.nTop x := by
  have h0 := cntS_nonneg (n := Port.n_) Port.n_pos x.Ports
  unfold Bridge.nTop
  omega
def oneN {α : Type} (_ : α) : Int := 1
theorem oneN_pos {α : Type} (x : α) : 0 ≤ oneN x := by show (0 : Int) ≤ 1; omega
def byteMk (_ : UInt8) (k : Int) : UInt8 := (IntKind.wrap IntKind.u8 k).toNat.toUInt8
end Go.Md
namespace Go.Ev
open Go.Md
/- szPortS -/
def o63 (a : List Port) (left : Int) : Bool × List Row × List Row := (decide (0 ≤ left) && (decide (left ≤ 1048576) && decide (a.length ≤ 9223372036854775807)), [[.int .i64 (szR (a.length : Int) left)]], [])
def c63 : Contract
  | [[.sl false 11 a], [.int .i64 left]] => some (isS Port false a && (o63 (deS Port a) left).1, (o63 (deS Port a) left).2.1, (o63 (deS Port a) left).2.2)
  | _ => none

theorem r63 (a : List Port) (left : Int) (n : Nat) : evFn ⟨Go.Proofs.Try.prog, Hx, 63⟩ T27.call n Go.Proofs.Try.f63 [[.sl false 11 (enS false a)], [.int .i64 left]] = bif decide (IntKind.wrap IntKind.i64 (left - Int.ofNat (List.length (enS false a))) < 0) then some ([[D.int IntKind.i64 (Int.negSucc 0)]], []) else some ([[D.int IntKind.i64 (IntKind.wrap IntKind.i64 (left - Int.ofNat (List.length (enS false a))))]], []) := by kernel_rfl
theorem m63 (a : List Port) (left : Int) (hpre : (o63 a left).1 = true) : evFn ⟨Go.Proofs.Try.prog, Hx, 63⟩ T27.call 0 Go.Proofs.Try.f63 [[.sl false 11 (enS false a)], [.int .i64 left]] = some (o63 a left).2 := by
  refine (r63 a left _).trans ?_
  show _ = (some ([[.int .i64 (szR (a.length : Int) left)]], []) : Option (List Row × List Row))
  replace hpre : (decide (0 ≤ left) && (decide (left ≤ 1048576) && decide (a.length ≤ 9223372036854775807))) = true := hpre
  simp only [Bool.and_eq_true, decide_eq_true_eq] at hpre
  obtain ⟨h0, h1, h2⟩ := hpre
  simp only [enS_length]
  have hw : IntKind.wrap IntKind.i64 (left - Int.ofNat a.length) = left - (a.length : Int) := wrap_of (by show _ ≤ left - (a.length : Int); omega) (by show left - (a.length : Int) ≤ _; omega)
  rw [hw]
  unfold szR
  by_cases h : (a.length : Int) ≤ left
  · rw [decide_eq_false (by omega), decide_eq_true h]; rfl
  · rw [decide_eq_true (by omega), decide_eq_false h]; rfl
theorem s63 : SoundAt Go.Proofs.Try.prog Hx 63 c63 := soundAt_of T27_sound mixed Go.Proofs.Try.func63 (by kernel_rfl) (by
  intro rows r h
  unfold c63 at h
  split at h
  · rename_i a left
    obtain ⟨hp, hr⟩ := Prod.mk.inj (Option.some.inj h)
    subst hr
    simp only [Bool.and_eq_true] at hp
    obtain ⟨hs0, hp⟩ := hp
    obtain ⟨xs0, rfl⟩ := isS_ex hs0
    simp only [deS_enS] at hp ⊢
    exact ⟨_, m63 xs0 left hp⟩
  · cases h)
def T63 : Table := (63, c63) :: T27
theorem T63_sound : Table.Sound Go.Proofs.Try.prog Hx T63 := Table.sound_cons s63 T27_sound
/- szBridge -/
def o26 (a : Bridge) (left : Int) : Bool × List Row × List Row := (decide (0 ≤ left) && (decide (left ≤ 1048576) && Bridge.big a), [[.int .i64 (szR (Bridge.wt a) left)]], [])
def c26 : Contract
  | [[.int .i64 a_Id, .sl false 11 a_Ports], [.int .i64 left]] => some (isS Port false a_Ports && (o26 ⟨a_Id, (deS Port a_Ports)⟩ left).1, (o26 ⟨a_Id, (deS Port a_Ports)⟩ left).2.1, (o26 ⟨a_Id, (deS Port a_Ports)⟩ left).2.2)
  | _ => none

theorem r26 (a : Bridge) (left : Int) (n : Nat) : evFn ⟨Go.Proofs.Try.prog, Hx, 26⟩ T63.call n Go.Proofs.Try.f26 [[.int .i64 a.Id, .sl false 11 (enS false a.Ports)], [.int .i64 left]] = bif isS Port false (enS false (Bridge.Ports a)) && (decide (0 ≤ left) && (decide (left ≤ 1048576) && decide (List.length (deS Port (enS false (Bridge.Ports a))) ≤ 9223372036854775807))) then bif decide (szR (Int.ofNat (List.length (deS Port (enS false (Bridge.Ports a))))) left < 0) then some ([[D.int IntKind.i64 (Int.negSucc 0)]], []) else some ([[D.int IntKind.i64 (szR (Int.ofNat (List.length (deS Port (enS false (Bridge.Ports a))))) left)]], []) else none := by kernel_rfl
theorem m26 (a : Bridge) (left : Int) (hpre : (o26 a left).1 = true) : evFn ⟨Go.Proofs.Try.prog, Hx, 26⟩ T63.call 0 Go.Proofs.Try.f26 [[.int .i64 a.Id, .sl false 11 (enS false a.Ports)], [.int .i64 left]] = some (o26 a left).2 := by
  refine (r26 a left _).trans ?_
  show _ = (some ([[.int .i64 (szR (Bridge.wt a) left)]], []) : Option (List Row × List Row))
  replace hpre : (decide (0 ≤ left) && (decide (left ≤ 1048576) && Bridge.big a)) = true := hpre
  simp only [Bool.and_eq_true, decide_eq_true_eq] at hpre
  obtain ⟨h0, h1, h2⟩ := hpre
  unfold Bridge.big at h2
  try simp only [Bool.and_eq_true] at h2
  unfold Bridge.wt
  have p0 : 0 ≤ (a.Ports.length : Int) := by omega
  have g0 : decide (0 ≤ left) = true := decide_eq_true (by omega)
  have f0 : decide (left ≤ 1048576) = true := decide_eq_true (by omega)
  rcases szR_cases ((a.Ports.length : Int)) (left) (by omega) with ⟨a0, b0, c0⟩ | ⟨a0, b0, c0⟩
  case inr =>
    rw [b0] at c0
    simp only [g0, f0, b0, c0, h2, Int.ofNat_eq_natCast, isS_enS, deS_enS, cond_true, cond_false, Bool.and_self, Bool.and_true, Bool.true_and]
    try rw [szR_gt (by omega)]
    try rfl
  rw [b0] at c0
  simp only [g0, f0, b0, c0, h2, Int.ofNat_eq_natCast, isS_enS, deS_enS, cond_true, cond_false, Bool.and_self, Bool.and_true, Bool.true_and]
  try rw [szR_le (by omega)]
  try rfl
theorem s26 : SoundAt Go.Proofs.Try.prog Hx 26 c26 := soundAt_of T63_sound mixed Go.Proofs.Try.func26 (by kernel_rfl) (by
  intro rows r h
  unfold c26 at h
  split at h
  · rename_i a_Id a_Ports left
    obtain ⟨hp, hr⟩ := Prod.mk.inj (Option.some.inj h)
    subst hr
    simp only [Bool.and_eq_true] at hp
    obtain ⟨hs0, hp⟩ := hp
    obtain ⟨xs0, rfl⟩ := isS_ex hs0
    simp only [deS_enS] at hp ⊢
    exact ⟨_, m26 ⟨a_Id, xs0⟩ left hp⟩
  · cases h)
def T26 : Table := (26, c26) :: T63
theorem T26_sound : Table.Sound Go.Proofs.Try.prog Hx T26 := Table.sound_cons s26 T63_sound
/- toVec -/
def o41 (a : Vec) : Bool × List Row × List Row := (true, [[.int .i64 (a).Root, .int .i64 (a).Cost, .int .i64 (a).Bridge, .int .i64 (a).Port]], [])
def c41 : Contract
  | [[.int .i64 a_Root, .int .i64 a_Cost, .int .i64 a_Bridge, .int .i64 a_Port]] => some ((o41 ⟨a_Root, a_Cost, a_Bridge, a_Port⟩).1, (o41 ⟨a_Root, a_Cost, a_Bridge, a_Port⟩).2.1, (o41 ⟨a_Root, a_Cost, a_Bridge, a_Port⟩).2.2)
  | _ => none

theorem r41 (a : Vec) (n : Nat) : evFn ⟨Go.Proofs.Try.prog, Hx, 41⟩ T26.call n Go.Proofs.Try.f41 [[.int .i64 a.Root, .int .i64 a.Cost, .int .i64 a.Bridge, .int .i64 a.Port]] = some ([[D.int IntKind.i64 (Vec.Root a), D.int IntKind.i64 (Vec.Cost a), D.int IntKind.i64 (Vec.Bridge a), D.int IntKind.i64 (Vec.Port a)]], []) := by kernel_rfl
theorem m41 (a : Vec) (hpre : (o41 a).1 = true) : evFn ⟨Go.Proofs.Try.prog, Hx, 41⟩ T26.call 0 Go.Proofs.Try.f41 [[.int .i64 a.Root, .int .i64 a.Cost, .int .i64 a.Bridge, .int .i64 a.Port]] = some (o41 a).2 := by
  refine (r41 a _).trans ?_
  show _ = (some ([[.int .i64 (a).Root, .int .i64 (a).Cost, .int .i64 (a).Bridge, .int .i64 (a).Port]], []) : Option (List Row × List Row))
  replace hpre : (true) = true := hpre
  rfl
theorem s41 : SoundAt Go.Proofs.Try.prog Hx 41 c41 := soundAt_of T26_sound mixed Go.Proofs.Try.func41 (by kernel_rfl) (by
  intro rows r h
  unfold c41 at h
  split at h
  · rename_i a_Root a_Cost a_Bridge a_Port
    obtain ⟨hp, hr⟩ := Prod.mk.inj (Option.some.inj h)
    subst hr
    exact ⟨_, m41 ⟨a_Root, a_Cost, a_Bridge, a_Port⟩ hp⟩
  · cases h)
def T41 : Table := (41, c41) :: T26
theorem T41_sound : Table.Sound Go.Proofs.Try.prog Hx T41 := Table.sound_cons s41 T26_sound
/- toPort -/
def o9 (a : Port) : Bool × List Row × List Row := (true, [[.bool (a).Up, .bool (a).Has, .int .i64 (a).Vec.Root, .int .i64 (a).Vec.Cost, .int .i64 (a).Vec.Bridge, .int .i64 (a).Vec.Port, .int .i64 (a).Hops, .int .i64 (a).Left, .int .i64 (a).Role, .int .i64 (a).Wait, .bool (a).Open]], [])
def c9 : Contract
  | [[.bool a_Up, .bool a_Has, .int .i64 a_Vec_Root, .int .i64 a_Vec_Cost, .int .i64 a_Vec_Bridge, .int .i64 a_Vec_Port, .int .i64 a_Hops, .int .i64 a_Left, .int .i64 a_Role, .int .i64 a_Wait, .bool a_Open]] => some ((o9 ⟨a_Up, a_Has, ⟨a_Vec_Root, a_Vec_Cost, a_Vec_Bridge, a_Vec_Port⟩, a_Hops, a_Left, a_Role, a_Wait, a_Open⟩).1, (o9 ⟨a_Up, a_Has, ⟨a_Vec_Root, a_Vec_Cost, a_Vec_Bridge, a_Vec_Port⟩, a_Hops, a_Left, a_Role, a_Wait, a_Open⟩).2.1, (o9 ⟨a_Up, a_Has, ⟨a_Vec_Root, a_Vec_Cost, a_Vec_Bridge, a_Vec_Port⟩, a_Hops, a_Left, a_Role, a_Wait, a_Open⟩).2.2)
  | _ => none

theorem r9 (a : Port) (n : Nat) : evFn ⟨Go.Proofs.Try.prog, Hx, 9⟩ T41.call n Go.Proofs.Try.f9 [[.bool a.Up, .bool a.Has, .int .i64 a.Vec.Root, .int .i64 a.Vec.Cost, .int .i64 a.Vec.Bridge, .int .i64 a.Vec.Port, .int .i64 a.Hops, .int .i64 a.Left, .int .i64 a.Role, .int .i64 a.Wait, .bool a.Open]] = some ([[D.bool (Port.Up a), D.bool (Port.Has a), D.int IntKind.i64 (Vec.Root (Port.Vec a)), D.int IntKind.i64 (Vec.Cost (Port.Vec a)), D.int IntKind.i64 (Vec.Bridge (Port.Vec a)), D.int IntKind.i64 (Vec.Port (Port.Vec a)), D.int IntKind.i64 (Port.Hops a), D.int IntKind.i64 (Port.Left a), D.int IntKind.i64 (Port.Role a), D.int IntKind.i64 (Port.Wait a), D.bool (Port.Open a)]], []) := by kernel_rfl
theorem m9 (a : Port) (hpre : (o9 a).1 = true) : evFn ⟨Go.Proofs.Try.prog, Hx, 9⟩ T41.call 0 Go.Proofs.Try.f9 [[.bool a.Up, .bool a.Has, .int .i64 a.Vec.Root, .int .i64 a.Vec.Cost, .int .i64 a.Vec.Bridge, .int .i64 a.Vec.Port, .int .i64 a.Hops, .int .i64 a.Left, .int .i64 a.Role, .int .i64 a.Wait, .bool a.Open]] = some (o9 a).2 := by
  refine (r9 a _).trans ?_
  show _ = (some ([[.bool (a).Up, .bool (a).Has, .int .i64 (a).Vec.Root, .int .i64 (a).Vec.Cost, .int .i64 (a).Vec.Bridge, .int .i64 (a).Vec.Port, .int .i64 (a).Hops, .int .i64 (a).Left, .int .i64 (a).Role, .int .i64 (a).Wait, .bool (a).Open]], []) : Option (List Row × List Row))
  replace hpre : (true) = true := hpre
  rfl
theorem s9 : SoundAt Go.Proofs.Try.prog Hx 9 c9 := soundAt_of T41_sound mixed Go.Proofs.Try.func9 (by kernel_rfl) (by
  intro rows r h
  unfold c9 at h
  split at h
  · rename_i a_Up a_Has a_Vec_Root a_Vec_Cost a_Vec_Bridge a_Vec_Port a_Hops a_Left a_Role a_Wait a_Open
    obtain ⟨hp, hr⟩ := Prod.mk.inj (Option.some.inj h)
    subst hr
    exact ⟨_, m9 ⟨a_Up, a_Has, ⟨a_Vec_Root, a_Vec_Cost, a_Vec_Bridge, a_Vec_Port⟩, a_Hops, a_Left, a_Role, a_Wait, a_Open⟩ hp⟩
  · cases h)
def T9 : Table := (9, c9) :: T41
theorem T9_sound : Table.Sound Go.Proofs.Try.prog Hx T9 := Table.sound_cons s9 T41_sound
/- toPortS -/
def o67 (a : List Port) : Bool × List Row × List Row := (decide (a.length ≤ 1048576), [[.sl true 11 (enS true (a))]], [])
def c67 : Contract
  | [[.sl false 11 a]] => some (isS Port false a && (o67 (deS Port a)).1, (o67 (deS Port a)).2.1, (o67 (deS Port a)).2.2)
  | _ => none

noncomputable def k67_0 (n : Nat) : Ex → St → Option (List Row × List Row) := kThen (fun st ↦ runCode (Ctx.mk Go.Proofs.Try.prog Hx (67)) (Table.call T9) n (codeAt [1, 1, 1] (bodyOf Go.Proofs.Try.f67)) (Lv.mk 4 [] 4) st (kLeave (Ctx.P (Ctx.mk Go.Proofs.Try.prog Hx (67))) (List.zip (Array.toList (Go.Func.resultTypes Go.Proofs.Try.f67)) (Array.toList (Go.Func.results Go.Proofs.Try.f67))) [] [])) (kLeave (Ctx.P (Ctx.mk Go.Proofs.Try.prog Hx (67))) (List.zip (Array.toList (Go.Func.resultTypes Go.Proofs.Try.f67)) (Array.toList (Go.Func.results Go.Proofs.Try.f67))) [] [])
noncomputable def k67_1 (n : Nat) : Ex → St → Option (List Row × List Row) := kBlock (0) (k67_0 n)
noncomputable def S67_0 (a : List Port) (i0 : Int) (es1 : List (List D)) : St := St.mk [TV.v false [C.d (D.sl false 11 (enS false a))], TV.v false [C.undef], TV.v false [C.undef], TV.v false [C.view 0 0 0 [] 11 none], TV.v false [C.d (D.int IntKind.i64 i0)], TV.v false [C.undef], TV.v false [C.undef], TV.v false [C.undef], TV.v false [C.undef], TV.v false [C.undef], TV.v false [C.undef], TV.v false [C.undef], TV.v false [C.undef], TV.v false [C.undef], TV.v false [C.undef], TV.v false [C.undef], TV.v false [C.undef], TV.v false [C.undef], TV.v false [C.undef], TV.v false [C.undef], TV.v false [C.undef], TV.v false [C.undef], TV.v false [C.undef]] [Root.mk false 11 es1 0 0 true true]
noncomputable def B67_0 (n : Nat) : St → (Ex → St → Option (List Row × List Row)) → Option (List Row × List Row) := runCode (Ctx.mk Go.Proofs.Try.prog Hx (67)) (Table.call T9) n (codeAt [1, 1, 0, 1, 0, 0] (bodyOf Go.Proofs.Try.f67)) (Lv.mk 0 [(0, 8)] 4)
noncomputable def X67_2 (a : List Port) (i0 : Int) (es1 : List (List D)) : St := St.mk [TV.v false [C.d (D.sl false 11 (enS false a))], TV.v false [C.undef], TV.v false [C.undef], TV.v false [C.view 0 0 0 [] 11 none], TV.v false [C.d (D.int IntKind.i64 i0)], TV.v false [C.undef], TV.v false [C.undef], TV.v false [C.undef], TV.v false [C.d (D.int IntKind.i64 i0)], TV.v false [C.d (D.sl false 11 (enS false a))], TV.v false [C.d (D.int IntKind.i64 (Int.ofNat (List.length (enS false a))))], TV.v false [C.d (D.bool false)], TV.v false [C.undef], TV.v false [C.undef], TV.v false [C.undef], TV.v false [C.undef], TV.v false [C.undef], TV.v false [C.undef], TV.v false [C.undef], TV.v false [C.undef], TV.v false [C.undef], TV.v false [C.undef], TV.v false [C.undef]] [Root.mk false 11 es1 0 0 true true]
theorem q67_0 (a : List Port) (n : Nat) (i0 : Int) (es1 : List (List D)) (f : St → Option (List Row × List Row)) (K : Ex → St → Option (List Row × List Row)) : B67_0 n (S67_0 a i0 es1) (@kThen (List Row × List Row) (fun st ↦ f (St.head 1 25 4194064 st)) K) = bif decide (i0 < Int.ofNat (List.length (enS false a))) then bif decide (0 ≤ i0) && decide (i0 < Int.ofNat (List.length (enS false a))) then bif Leaf.fit false Leaf.bool (List.getD (List.getD (enS false a) (Int.toNat i0) []) 0 D.dead) && (Leaf.fit false Leaf.bool (List.getD (List.getD (enS false a) (Int.toNat i0) []) 1 D.dead) && (Leaf.fit false (Leaf.int IntKind.i64) (List.getD (List.getD (enS false a) (Int.toNat i0) []) 2 D.dead) && (Leaf.fit false (Leaf.int IntKind.i64) (List.getD (List.getD (enS false a) (Int.toNat i0) []) 3 D.dead) && (Leaf.fit false (Leaf.int IntKind.i64) (List.getD (List.getD (enS false a) (Int.toNat i0) []) 4 D.dead) && (Leaf.fit false (Leaf.int IntKind.i64) (List.getD (List.getD (enS false a) (Int.toNat i0) []) 5 D.dead) && (Leaf.fit false (Leaf.int IntKind.i64) (List.getD (List.getD (enS false a) (Int.toNat i0) []) 6 D.dead) && (Leaf.fit false (Leaf.int IntKind.i64) (List.getD (List.getD (enS false a) (Int.toNat i0) []) 7 D.dead) && (Leaf.fit false (Leaf.int IntKind.i64) (List.getD (List.getD (enS false a) (Int.toNat i0) []) 8 D.dead) && (Leaf.fit false (Leaf.int IntKind.i64) (List.getD (List.getD (enS false a) (Int.toNat i0) []) 9 D.dead) && (Leaf.fit false Leaf.bool (List.getD (List.getD (enS false a) (Int.toNat i0) []) 10 D.dead) && true)))))))))) then bif decide (0 ≤ i0) && decide (i0 < Int.ofNat (List.length es1)) then f (S67_0 a (IntKind.wrap IntKind.i64 (i0 + 1)) (List.set es1 (0 + Int.toNat i0) [D.bool (D.flag (List.getD (List.getD (enS false a) (Int.toNat i0) []) 0 D.dead)), D.bool (D.flag (List.getD (List.getD (enS false a) (Int.toNat i0) []) 1 D.dead)), D.int IntKind.i64 (D.num (List.getD (List.getD (enS false a) (Int.toNat i0) []) 2 D.dead)), D.int IntKind.i64 (D.num (List.getD (List.getD (enS false a) (Int.toNat i0) []) 3 D.dead)), D.int IntKind.i64 (D.num (List.getD (List.getD (enS false a) (Int.toNat i0) []) 4 D.dead)), D.int IntKind.i64 (D.num (List.getD (List.getD (enS false a) (Int.toNat i0) []) 5 D.dead)), D.int IntKind.i64 (D.num (List.getD (List.getD (enS false a) (Int.toNat i0) []) 6 D.dead)), D.int IntKind.i64 (D.num (List.getD (List.getD (enS false a) (Int.toNat i0) []) 7 D.dead)), D.int IntKind.i64 (D.num (List.getD (List.getD (enS false a) (Int.toNat i0) []) 8 D.dead)), D.int IntKind.i64 (D.num (List.getD (List.getD (enS false a) (Int.toNat i0) []) 9 D.dead)), D.bool (D.flag (List.getD (List.getD (enS false a) (Int.toNat i0) []) 10 D.dead))])) else none else none else none else K (Ex.exit 0) (X67_2 a i0 es1) := by kernel_rfl
theorem aX67_2 (a : List Port) (n : Nat) (i0 : Int) (es1 : List (List D)) : k67_1 n (Ex.exit 0) (X67_2 a i0 es1) = some ([[D.sl true 11 es1]], []) := by kernel_rfl
theorem r67 (a : List Port) (n : Nat) : evFn ⟨Go.Proofs.Try.prog, Hx, 67⟩ T9.call n Go.Proofs.Try.f67 [[.sl false 11 (enS false a)]] = bif decide (0 ≤ Int.ofNat (List.length (enS false a))) && (decide (Int.ofNat (List.length (enS false a)) ≤ Int.ofNat (List.length (enS false a))) && decide (Int.toNat (Int.ofNat (List.length (enS false a))) * 80 ≤ 140737488355328)) then loopRun (B67_0 n) 1 25 4194064 n (S67_0 a (0) (List.replicate (Int.toNat (Int.ofNat (List.length (enS false a)))) [D.bool false, D.bool false, D.int IntKind.i64 (0), D.int IntKind.i64 (0), D.int IntKind.i64 (0), D.int IntKind.i64 (0), D.int IntKind.i64 (0), D.int IntKind.i64 (0), D.int IntKind.i64 (0), D.int IntKind.i64 (0), D.bool false])) (k67_1 n) else none := by kernel_rfl
theorem m67 (a : List Port) (hpre : (o67 a).1 = true) : evFn ⟨Go.Proofs.Try.prog, Hx, 67⟩ T9.call (a.length + 1) Go.Proofs.Try.f67 [[.sl false 11 (enS false a)]] = some (o67 a).2 := by
  refine (r67 a _).trans ?_
  show _ = (some ([[.sl true 11 (enS true (a))]], []) : Option (List Row × List Row))
  replace hpre : (decide (a.length ≤ 1048576)) = true := hpre
  have hlen : a.length ≤ 1048576 := of_decide_eq_true hpre
  rw [enS_length, make_ok (by omega), cond_true, toNat_of]
  refine (congrArg (fun z => loopRun _ _ _ _ _ (S67_0 a 0 z) _) (enS_rep true a.length (En.nil : Port))).trans ?_
  refine loop_list (xs := a) (fun i (ys : List Port) => S67_0 a (Int.ofNat i) (enS true ys)) (fun i ys => ys.length = a.length ∧ ys.take i = a.take i) (fun _ _ _ => some ([[D.sl true 11 (enS true a)]], [])) ?_ ?_ (a.length + 1) _ (by omega) ⟨List.length_replicate .., rfl⟩
  · rintro ys ⟨h2, h3⟩ f
    refine (q67_0 a _ _ _ f _).trans ?_
    simp only [enS_length, dec_lt, Nat.lt_irrefl, decide_false, cond_false]
    refine (aX67_2 a _ _ _).trans ?_
    rw [List.take_length, ← h2, List.take_length] at h3
    subst h3
    rfl
  · rintro i ys hi ⟨h2, h3⟩ f hf
    refine (q67_0 a _ _ _ f _).trans ?_
    simp only [enS_length, toNat_of, dec_lt, dec_ge, enS_get _ hi, h2, hi, wrap_succ (show i < 4611686018427387904 by omega), Nat.zero_add, decide_true, cond_true, Bool.and_self]
    exact (congrArg f (congrArg (S67_0 a _) (enS_set true ys i a[i]))).trans (hf (ys.set i a[i]) ⟨by rw [List.length_set]; exact h2, take_set_succ hi h2 h3⟩)
theorem s67 : SoundAt Go.Proofs.Try.prog Hx 67 c67 := soundAt_of T9_sound mixed Go.Proofs.Try.func67 (by kernel_rfl) (by
  intro rows r h
  unfold c67 at h
  split at h
  · rename_i a
    obtain ⟨hp, hr⟩ := Prod.mk.inj (Option.some.inj h)
    subst hr
    simp only [Bool.and_eq_true] at hp
    obtain ⟨hs0, hp⟩ := hp
    obtain ⟨xs0, rfl⟩ := isS_ex hs0
    simp only [deS_enS] at hp ⊢
    exact ⟨_, m67 xs0 hp⟩
  · cases h)
def T67 : Table := (67, c67) :: T9
theorem T67_sound : Table.Sound Go.Proofs.Try.prog Hx T67 := Table.sound_cons s67 T9_sound
/- toBridge -/
def o28 (a : Bridge) : Bool × List Row × List Row := (Bridge.small a, [[.int .i64 (a).Id, .sl true 11 (enS true (a).Ports)]], [])
def c28 : Contract
  | [[.int .i64 a_Id, .sl false 11 a_Ports]] => some (isS Port false a_Ports && (o28 ⟨a_Id, (deS Port a_Ports)⟩).1, (o28 ⟨a_Id, (deS Port a_Ports)⟩).2.1, (o28 ⟨a_Id, (deS Port a_Ports)⟩).2.2)
  | _ => none

theorem r28 (a : Bridge) (n : Nat) : evFn ⟨Go.Proofs.Try.prog, Hx, 28⟩ T67.call n Go.Proofs.Try.f28 [[.int .i64 a.Id, .sl false 11 (enS false a.Ports)]] = bif isS Port false (enS false (Bridge.Ports a)) && decide (List.length (deS Port (enS false (Bridge.Ports a))) ≤ 1048576) then some ([[D.int IntKind.i64 (Bridge.Id a), D.sl true 11 (enS true (deS Port (enS false (Bridge.Ports a))))]], []) else none := by kernel_rfl
theorem m28 (a : Bridge) (hpre : (o28 a).1 = true) : evFn ⟨Go.Proofs.Try.prog, Hx, 28⟩ T67.call 0 Go.Proofs.Try.f28 [[.int .i64 a.Id, .sl false 11 (enS false a.Ports)]] = some (o28 a).2 := by
  refine (r28 a _).trans ?_
  show _ = (some ([[.int .i64 (a).Id, .sl true 11 (enS true (a).Ports)]], []) : Option (List Row × List Row))
  replace hpre : (Bridge.small a) = true := hpre
  unfold Bridge.small at hpre
  try simp only [Bool.and_eq_true] at hpre
  simp only [hpre, isS_enS, deS_enS, cond_true, Bool.and_self, Bool.and_true, Bool.true_and]
  try rfl
theorem s28 : SoundAt Go.Proofs.Try.prog Hx 28 c28 := soundAt_of T67_sound mixed Go.Proofs.Try.func28 (by kernel_rfl) (by
  intro rows r h
  unfold c28 at h
  split at h
  · rename_i a_Id a_Ports
    obtain ⟨hp, hr⟩ := Prod.mk.inj (Option.some.inj h)
    subst hr
    simp only [Bool.and_eq_true] at hp
    obtain ⟨hs0, hp⟩ := hp
    obtain ⟨xs0, rfl⟩ := isS_ex hs0
    simp only [deS_enS] at hp ⊢
    exact ⟨_, m28 ⟨a_Id, xs0⟩ hp⟩
  · cases h)
def T28 : Table := (28, c28) :: T67
theorem T28_sound : Table.Sound Go.Proofs.Try.prog Hx T28 := Table.sound_cons s28 T67_sound
/- eqVec -/
def o49 (a : Vec) (b : Vec) : Bool × List Row × List Row := (sameB a b, [[.bool (true)]], [])
def c49 : Contract
  | [[.int .i64 a_Root, .int .i64 a_Cost, .int .i64 a_Bridge, .int .i64 a_Port], [.int .i64 b_Root, .int .i64 b_Cost, .int .i64 b_Bridge, .int .i64 b_Port]] => some ((o49 ⟨a_Root, a_Cost, a_Bridge, a_Port⟩ ⟨b_Root, b_Cost, b_Bridge, b_Port⟩).1, (o49 ⟨a_Root, a_Cost, a_Bridge, a_Port⟩ ⟨b_Root, b_Cost, b_Bridge, b_Port⟩).2.1, (o49 ⟨a_Root, a_Cost, a_Bridge, a_Port⟩ ⟨b_Root, b_Cost, b_Bridge, b_Port⟩).2.2)
  | _ => none

theorem r49 (a : Vec) (b : Vec) (n : Nat) : evFn ⟨Go.Proofs.Try.prog, Hx, 49⟩ T28.call n Go.Proofs.Try.f49 [[.int .i64 a.Root, .int .i64 a.Cost, .int .i64 a.Bridge, .int .i64 a.Port], [.int .i64 b.Root, .int .i64 b.Cost, .int .i64 b.Bridge, .int .i64 b.Port]] = bif Vec.Root a != Vec.Root b then some ([[D.bool false]], []) else bif Vec.Cost a != Vec.Cost b then some ([[D.bool false]], []) else bif Vec.Bridge a != Vec.Bridge b then some ([[D.bool false]], []) else bif Vec.Port a != Vec.Port b then some ([[D.bool false]], []) else some ([[D.bool true]], []) := by kernel_rfl
theorem m49 (a : Vec) (b : Vec) (hpre : (o49 a b).1 = true) : evFn ⟨Go.Proofs.Try.prog, Hx, 49⟩ T28.call 0 Go.Proofs.Try.f49 [[.int .i64 a.Root, .int .i64 a.Cost, .int .i64 a.Bridge, .int .i64 a.Port], [.int .i64 b.Root, .int .i64 b.Cost, .int .i64 b.Bridge, .int .i64 b.Port]] = some (o49 a b).2 := by
  refine (r49 a b _).trans ?_
  show _ = (some ([[.bool (true)]], []) : Option (List Row × List Row))
  replace hpre : (sameB a b) = true := hpre
  have := sameB_eq hpre
  subst this
  simp only [bne_self_eq_false, cond_false, sameB_self, cond_true, Bool.not_true]
theorem s49 : SoundAt Go.Proofs.Try.prog Hx 49 c49 := soundAt_of T28_sound mixed Go.Proofs.Try.func49 (by kernel_rfl) (by
  intro rows r h
  unfold c49 at h
  split at h
  · rename_i a_Root a_Cost a_Bridge a_Port b_Root b_Cost b_Bridge b_Port
    obtain ⟨hp, hr⟩ := Prod.mk.inj (Option.some.inj h)
    subst hr
    exact ⟨_, m49 ⟨a_Root, a_Cost, a_Bridge, a_Port⟩ ⟨b_Root, b_Cost, b_Bridge, b_Port⟩ hp⟩
  · cases h)
def T49 : Table := (49, c49) :: T28
theorem T49_sound : Table.Sound Go.Proofs.Try.prog Hx T49 := Table.sound_cons s49 T28_sound
/- eqPort -/
def o99 (a : Port) (b : Port) : Bool × List Row × List Row := (sameB a b, [[.bool (true)]], [])
def c99 : Contract
  | [[.bool a_Up, .bool a_Has, .int .i64 a_Vec_Root, .int .i64 a_Vec_Cost, .int .i64 a_Vec_Bridge, .int .i64 a_Vec_Port, .int .i64 a_Hops, .int .i64 a_Left, .int .i64 a_Role, .int .i64 a_Wait, .bool a_Open], [.bool b_Up, .bool b_Has, .int .i64 b_Vec_Root, .int .i64 b_Vec_Cost, .int .i64 b_Vec_Bridge, .int .i64 b_Vec_Port, .int .i64 b_Hops, .int .i64 b_Left, .int .i64 b_Role, .int .i64 b_Wait, .bool b_Open]] => some ((o99 ⟨a_Up, a_Has, ⟨a_Vec_Root, a_Vec_Cost, a_Vec_Bridge, a_Vec_Port⟩, a_Hops, a_Left, a_Role, a_Wait, a_Open⟩ ⟨b_Up, b_Has, ⟨b_Vec_Root, b_Vec_Cost, b_Vec_Bridge, b_Vec_Port⟩, b_Hops, b_Left, b_Role, b_Wait, b_Open⟩).1, (o99 ⟨a_Up, a_Has, ⟨a_Vec_Root, a_Vec_Cost, a_Vec_Bridge, a_Vec_Port⟩, a_Hops, a_Left, a_Role, a_Wait, a_Open⟩ ⟨b_Up, b_Has, ⟨b_Vec_Root, b_Vec_Cost, b_Vec_Bridge, b_Vec_Port⟩, b_Hops, b_Left, b_Role, b_Wait, b_Open⟩).2.1, (o99 ⟨a_Up, a_Has, ⟨a_Vec_Root, a_Vec_Cost, a_Vec_Bridge, a_Vec_Port⟩, a_Hops, a_Left, a_Role, a_Wait, a_Open⟩ ⟨b_Up, b_Has, ⟨b_Vec_Root, b_Vec_Cost, b_Vec_Bridge, b_Vec_Port⟩, b_Hops, b_Left, b_Role, b_Wait, b_Open⟩).2.2)
  | _ => none

theorem r99 (a : Port) (b : Port) (n : Nat) : evFn ⟨Go.Proofs.Try.prog, Hx, 99⟩ T49.call n Go.Proofs.Try.f99 [[.bool a.Up, .bool a.Has, .int .i64 a.Vec.Root, .int .i64 a.Vec.Cost, .int .i64 a.Vec.Bridge, .int .i64 a.Vec.Port, .int .i64 a.Hops, .int .i64 a.Left, .int .i64 a.Role, .int .i64 a.Wait, .bool a.Open], [.bool b.Up, .bool b.Has, .int .i64 b.Vec.Root, .int .i64 b.Vec.Cost, .int .i64 b.Vec.Bridge, .int .i64 b.Vec.Port, .int .i64 b.Hops, .int .i64 b.Left, .int .i64 b.Role, .int .i64 b.Wait, .bool b.Open]] = bif Port.Up a != Port.Up b then some ([[D.bool false]], []) else bif Port.Has a != Port.Has b then some ([[D.bool false]], []) else bif sameB (Port.Vec a) (Port.Vec b) then bif Port.Hops a != Port.Hops b then some ([[D.bool false]], []) else bif Port.Left a != Port.Left b then some ([[D.bool false]], []) else bif Port.Role a != Port.Role b then some ([[D.bool false]], []) else bif Port.Wait a != Port.Wait b then some ([[D.bool false]], []) else bif Port.Open a != Port.Open b then some ([[D.bool false]], []) else some ([[D.bool true]], []) else none := by kernel_rfl
theorem m99 (a : Port) (b : Port) (hpre : (o99 a b).1 = true) : evFn ⟨Go.Proofs.Try.prog, Hx, 99⟩ T49.call 0 Go.Proofs.Try.f99 [[.bool a.Up, .bool a.Has, .int .i64 a.Vec.Root, .int .i64 a.Vec.Cost, .int .i64 a.Vec.Bridge, .int .i64 a.Vec.Port, .int .i64 a.Hops, .int .i64 a.Left, .int .i64 a.Role, .int .i64 a.Wait, .bool a.Open], [.bool b.Up, .bool b.Has, .int .i64 b.Vec.Root, .int .i64 b.Vec.Cost, .int .i64 b.Vec.Bridge, .int .i64 b.Vec.Port, .int .i64 b.Hops, .int .i64 b.Left, .int .i64 b.Role, .int .i64 b.Wait, .bool b.Open]] = some (o99 a b).2 := by
  refine (r99 a b _).trans ?_
  show _ = (some ([[.bool (true)]], []) : Option (List Row × List Row))
  replace hpre : (sameB a b) = true := hpre
  have := sameB_eq hpre
  subst this
  simp only [bne_self_eq_false, cond_false, sameB_self, cond_true, Bool.not_true]
theorem s99 : SoundAt Go.Proofs.Try.prog Hx 99 c99 := soundAt_of T49_sound mixed Go.Proofs.Try.func99 (by kernel_rfl) (by
  intro rows r h
  unfold c99 at h
  split at h
  · rename_i a_Up a_Has a_Vec_Root a_Vec_Cost a_Vec_Bridge a_Vec_Port a_Hops a_Left a_Role a_Wait a_Open b_Up b_Has b_Vec_Root b_Vec_Cost b_Vec_Bridge b_Vec_Port b_Hops b_Left b_Role b_Wait b_Open
    obtain ⟨hp, hr⟩ := Prod.mk.inj (Option.some.inj h)
    subst hr
    exact ⟨_, m99 ⟨a_Up, a_Has, ⟨a_Vec_Root, a_Vec_Cost, a_Vec_Bridge, a_Vec_Port⟩, a_Hops, a_Left, a_Role, a_Wait, a_Open⟩ ⟨b_Up, b_Has, ⟨b_Vec_Root, b_Vec_Cost, b_Vec_Bridge, b_Vec_Port⟩, b_Hops, b_Left, b_Role, b_Wait, b_Open⟩ hp⟩
  · cases h)
def T99 : Table := (99, c99) :: T49
theorem T99_sound : Table.Sound Go.Proofs.Try.prog Hx T99 := Table.sound_cons s99 T49_sound
/- eqPortS -/
def o70 (a : List Port) (b : List Port) : Bool × List Row × List Row := (sameB a b && (decide (a.length ≤ 1048576)), [[.bool (true)]], [])
def c70 : Contract
  | [[.sl false 11 a], [.sl false 11 b]] => some (isS Port false a && isS Port false b && (o70 (deS Port a) (deS Port b)).1, (o70 (deS Port a) (deS Port b)).2.1, (o70 (deS Port a) (deS Port b)).2.2)
  | _ => none

noncomputable def k70_0 (n : Nat) : Ex → St → Option (List Row × List Row) := kThen (fun st ↦ runCode (Ctx.mk Go.Proofs.Try.prog Hx (70)) (Table.call T99) n (codeAt [1, 1, 1] (bodyOf Go.Proofs.Try.f70)) (Lv.mk 16 [] 16) st (kLeave (Ctx.P (Ctx.mk Go.Proofs.Try.prog Hx (70))) (List.zip (Array.toList (Go.Func.resultTypes Go.Proofs.Try.f70)) (Array.toList (Go.Func.results Go.Proofs.Try.f70))) [] [])) (kLeave (Ctx.P (Ctx.mk Go.Proofs.Try.prog Hx (70))) (List.zip (Array.toList (Go.Func.resultTypes Go.Proofs.Try.f70)) (Array.toList (Go.Func.results Go.Proofs.Try.f70))) [] [])
noncomputable def k70_1 (n : Nat) : Ex → St → Option (List Row × List Row) := kBlock (0) (k70_0 n)
noncomputable def S70_0 (a : List Port) (b : List Port) (i0 : Int) : St := St.mk [TV.v false [C.d (D.sl false 11 (enS false a))], TV.v false [C.d (D.sl false 11 (enS false b))], TV.v false [C.undef], TV.v false [C.undef], TV.v false [C.undef], TV.v false [C.d (D.int IntKind.i64 i0)], TV.v false [C.undef], TV.v false [C.undef], TV.v false [C.undef], TV.v false [C.undef], TV.v false [C.undef], TV.v false [C.undef], TV.v false [C.undef], TV.v false [C.undef], TV.v false [C.undef], TV.v false [C.undef], TV.v false [C.undef], TV.v false [C.undef], TV.v false [C.undef], TV.v false [C.undef], TV.v false [C.undef], TV.v false [C.undef], TV.v false [C.undef], TV.v false [C.undef], TV.v false [C.undef], TV.v false [C.undef], TV.v false [C.undef]] []
noncomputable def B70_0 (n : Nat) : St → (Ex → St → Option (List Row × List Row)) → Option (List Row × List Row) := runCode (Ctx.mk Go.Proofs.Try.prog Hx (70)) (Table.call T99) n (codeAt [1, 1, 0, 1, 0, 0] (bodyOf Go.Proofs.Try.f70)) (Lv.mk 0 [(0, 0)] 16)
noncomputable def X70_2 (a : List Port) (b : List Port) (i0 : Int) : St := St.mk [TV.v false [C.d (D.sl false 11 (enS false a))], TV.v false [C.d (D.sl false 11 (enS false b))], TV.v false [C.undef], TV.v false [C.undef], TV.v false [C.undef], TV.v false [C.d (D.int IntKind.i64 i0)], TV.v false [C.undef], TV.v false [C.undef], TV.v false [C.undef], TV.v false [C.undef], TV.v false [C.undef], TV.v false [C.d (D.int IntKind.i64 i0)], TV.v false [C.d (D.sl false 11 (enS false a))], TV.v false [C.d (D.int IntKind.i64 (Int.ofNat (List.length (enS false a))))], TV.v false [C.d (D.bool false)], TV.v false [C.undef], TV.v false [C.undef], TV.v false [C.undef], TV.v false [C.undef], TV.v false [C.undef], TV.v false [C.undef], TV.v false [C.undef], TV.v false [C.undef], TV.v false [C.undef], TV.v false [C.undef], TV.v false [C.undef], TV.v false [C.undef]] []
theorem q70_0 (a : List Port) (b : List Port) (n : Nat) (i0 : Int) (f : St → Option (List Row × List Row)) (K : Ex → St → Option (List Row × List Row)) : B70_0 n (S70_0 a b i0) (@kThen (List Row × List Row) (fun st ↦ f (St.head 0 35 134215728 st)) K) = bif decide (i0 < Int.ofNat (List.length (enS false a))) then bif decide (0 ≤ i0) && decide (i0 < Int.ofNat (List.length (enS false a))) then bif Leaf.fit false Leaf.bool (List.getD (List.getD (enS false a) (Int.toNat i0) []) 0 D.dead) && (Leaf.fit false Leaf.bool (List.getD (List.getD (enS false a) (Int.toNat i0) []) 1 D.dead) && (Leaf.fit false (Leaf.int IntKind.i64) (List.getD (List.getD (enS false a) (Int.toNat i0) []) 2 D.dead) && (Leaf.fit false (Leaf.int IntKind.i64) (List.getD (List.getD (enS false a) (Int.toNat i0) []) 3 D.dead) && (Leaf.fit false (Leaf.int IntKind.i64) (List.getD (List.getD (enS false a) (Int.toNat i0) []) 4 D.dead) && (Leaf.fit false (Leaf.int IntKind.i64) (List.getD (List.getD (enS false a) (Int.toNat i0) []) 5 D.dead) && (Leaf.fit false (Leaf.int IntKind.i64) (List.getD (List.getD (enS false a) (Int.toNat i0) []) 6 D.dead) && (Leaf.fit false (Leaf.int IntKind.i64) (List.getD (List.getD (enS false a) (Int.toNat i0) []) 7 D.dead) && (Leaf.fit false (Leaf.int IntKind.i64) (List.getD (List.getD (enS false a) (Int.toNat i0) []) 8 D.dead) && (Leaf.fit false (Leaf.int IntKind.i64) (List.getD (List.getD (enS false a) (Int.toNat i0) []) 9 D.dead) && (Leaf.fit false Leaf.bool (List.getD (List.getD (enS false a) (Int.toNat i0) []) 10 D.dead) && true)))))))))) then bif decide (0 ≤ i0) && decide (i0 < Int.ofNat (List.length (enS false b))) then bif Leaf.fit false Leaf.bool (List.getD (List.getD (enS false b) (Int.toNat i0) []) 0 D.dead) && (Leaf.fit false Leaf.bool (List.getD (List.getD (enS false b) (Int.toNat i0) []) 1 D.dead) && (Leaf.fit false (Leaf.int IntKind.i64) (List.getD (List.getD (enS false b) (Int.toNat i0) []) 2 D.dead) && (Leaf.fit false (Leaf.int IntKind.i64) (List.getD (List.getD (enS false b) (Int.toNat i0) []) 3 D.dead) && (Leaf.fit false (Leaf.int IntKind.i64) (List.getD (List.getD (enS false b) (Int.toNat i0) []) 4 D.dead) && (Leaf.fit false (Leaf.int IntKind.i64) (List.getD (List.getD (enS false b) (Int.toNat i0) []) 5 D.dead) && (Leaf.fit false (Leaf.int IntKind.i64) (List.getD (List.getD (enS false b) (Int.toNat i0) []) 6 D.dead) && (Leaf.fit false (Leaf.int IntKind.i64) (List.getD (List.getD (enS false b) (Int.toNat i0) []) 7 D.dead) && (Leaf.fit false (Leaf.int IntKind.i64) (List.getD (List.getD (enS false b) (Int.toNat i0) []) 8 D.dead) && (Leaf.fit false (Leaf.int IntKind.i64) (List.getD (List.getD (enS false b) (Int.toNat i0) []) 9 D.dead) && (Leaf.fit false Leaf.bool (List.getD (List.getD (enS false b) (Int.toNat i0) []) 10 D.dead) && true)))))))))) then bif sameB (Port.mk (D.flag (List.getD (List.getD (enS false a) (Int.toNat i0) []) 0 D.dead)) (D.flag (List.getD (List.getD (enS false a) (Int.toNat i0) []) 1 D.dead)) (Vec.mk (D.num (List.getD (List.getD (enS false a) (Int.toNat i0) []) 2 D.dead)) (D.num (List.getD (List.getD (enS false a) (Int.toNat i0) []) 3 D.dead)) (D.num (List.getD (List.getD (enS false a) (Int.toNat i0) []) 4 D.dead)) (D.num (List.getD (List.getD (enS false a) (Int.toNat i0) []) 5 D.dead))) (D.num (List.getD (List.getD (enS false a) (Int.toNat i0) []) 6 D.dead)) (D.num (List.getD (List.getD (enS false a) (Int.toNat i0) []) 7 D.dead)) (D.num (List.getD (List.getD (enS false a) (Int.toNat i0) []) 8 D.dead)) (D.num (List.getD (List.getD (enS false a) (Int.toNat i0) []) 9 D.dead)) (D.flag (List.getD (List.getD (enS false a) (Int.toNat i0) []) 10 D.dead))) (Port.mk (D.flag (List.getD (List.getD (enS false b) (Int.toNat i0) []) 0 D.dead)) (D.flag (List.getD (List.getD (enS false b) (Int.toNat i0) []) 1 D.dead)) (Vec.mk (D.num (List.getD (List.getD (enS false b) (Int.toNat i0) []) 2 D.dead)) (D.num (List.getD (List.getD (enS false b) (Int.toNat i0) []) 3 D.dead)) (D.num (List.getD (List.getD (enS false b) (Int.toNat i0) []) 4 D.dead)) (D.num (List.getD (List.getD (enS false b) (Int.toNat i0) []) 5 D.dead))) (D.num (List.getD (List.getD (enS false b) (Int.toNat i0) []) 6 D.dead)) (D.num (List.getD (List.getD (enS false b) (Int.toNat i0) []) 7 D.dead)) (D.num (List.getD (List.getD (enS false b) (Int.toNat i0) []) 8 D.dead)) (D.num (List.getD (List.getD (enS false b) (Int.toNat i0) []) 9 D.dead)) (D.flag (List.getD (List.getD (enS false b) (Int.toNat i0) []) 10 D.dead))) then f (S70_0 a b (IntKind.wrap IntKind.i64 (i0 + 1))) else none else none else none else none else none else K (Ex.exit 0) (X70_2 a b i0) := by kernel_rfl
theorem aX70_2 (a : List Port) (b : List Port) (n : Nat) (i0 : Int) : k70_1 n (Ex.exit 0) (X70_2 a b i0) = some ([[D.bool true]], []) := by kernel_rfl
theorem r70 (a : List Port) (b : List Port) (n : Nat) : evFn ⟨Go.Proofs.Try.prog, Hx, 70⟩ T99.call n Go.Proofs.Try.f70 [[.sl false 11 (enS false a)], [.sl false 11 (enS false b)]] = bif Int.ofNat (List.length (enS false a)) != Int.ofNat (List.length (enS false b)) then some ([[D.bool false]], []) else loopRun (B70_0 n) 0 35 134215728 n (S70_0 a b (0)) (k70_1 n) := by kernel_rfl
theorem m70 (a : List Port) (b : List Port) (hpre : (o70 a b).1 = true) : evFn ⟨Go.Proofs.Try.prog, Hx, 70⟩ T99.call (a.length + 1) Go.Proofs.Try.f70 [[.sl false 11 (enS false a)], [.sl false 11 (enS false b)]] = some (o70 a b).2 := by
  refine (r70 a b _).trans ?_
  show _ = (some ([[.bool (true)]], []) : Option (List Row × List Row))
  replace hpre : (sameB a b && (decide (a.length ≤ 1048576))) = true := hpre
  rw [Bool.and_eq_true] at hpre
  obtain ⟨h0, h1⟩ := hpre
  have hlen : a.length ≤ 1048576 := of_decide_eq_true h1
  have := sameB_eq h0
  subst this
  simp only [bne_self_eq_false, cond_false]
  refine loop_list (xs := a) (fun i (_ : Unit) => S70_0 a a (Int.ofNat i)) (fun _ _ => True) (fun _ _ _ => some ([[D.bool true]], [])) ?_ ?_ (a.length + 1) () (by omega) trivial
  · rintro _ _ f
    refine (q70_0 a a _ _ f _).trans ?_
    simp only [enS_length, dec_lt, Nat.lt_irrefl, decide_false, cond_false]
    exact aX70_2 a a _ _
  · rintro i _ hi _ f hf
    refine (q70_0 a a _ _ f _).trans ?_
    simp only [enS_length, toNat_of, dec_lt, dec_ge, enS_get _ hi, hi, wrap_succ (show i < 4611686018427387904 by omega), decide_true, cond_true, Bool.and_self, sameB_self, bne_self_eq_false, cond_false]
    exact hf () trivial
theorem s70 : SoundAt Go.Proofs.Try.prog Hx 70 c70 := soundAt_of T99_sound mixed Go.Proofs.Try.func70 (by kernel_rfl) (by
  intro rows r h
  unfold c70 at h
  split at h
  · rename_i a b
    obtain ⟨hp, hr⟩ := Prod.mk.inj (Option.some.inj h)
    subst hr
    simp only [Bool.and_eq_true] at hp
    obtain ⟨⟨hs0, hs1⟩, hp⟩ := hp
    obtain ⟨xs0, rfl⟩ := isS_ex hs0
    obtain ⟨xs1, rfl⟩ := isS_ex hs1
    simp only [deS_enS] at hp ⊢
    exact ⟨_, m70 xs0 xs1 hp⟩
  · cases h)
def T70 : Table := (70, c70) :: T99
theorem T70_sound : Table.Sound Go.Proofs.Try.prog Hx T70 := Table.sound_cons s70 T99_sound
/- eqBridge -/
def o30 (a : Bridge) (b : Bridge) : Bool × List Row × List Row := (sameB a b && (Bridge.small a), [[.bool (true)]], [])
def c30 : Contract
  | [[.int .i64 a_Id, .sl false 11 a_Ports], [.int .i64 b_Id, .sl false 11 b_Ports]] => some (isS Port false a_Ports && isS Port false b_Ports && (o30 ⟨a_Id, (deS Port a_Ports)⟩ ⟨b_Id, (deS Port b_Ports)⟩).1, (o30 ⟨a_Id, (deS Port a_Ports)⟩ ⟨b_Id, (deS Port b_Ports)⟩).2.1, (o30 ⟨a_Id, (deS Port a_Ports)⟩ ⟨b_Id, (deS Port b_Ports)⟩).2.2)
  | _ => none

theorem r30 (a : Bridge) (b : Bridge) (n : Nat) : evFn ⟨Go.Proofs.Try.prog, Hx, 30⟩ T70.call n Go.Proofs.Try.f30 [[.int .i64 a.Id, .sl false 11 (enS false a.Ports)], [.int .i64 b.Id, .sl false 11 (enS false b.Ports)]] = bif Bridge.Id a != Bridge.Id b then some ([[D.bool false]], []) else bif isS Port false (enS false (Bridge.Ports a)) && isS Port false (enS false (Bridge.Ports b)) && (sameB (deS Port (enS false (Bridge.Ports a))) (deS Port (enS false (Bridge.Ports b))) && decide (List.length (deS Port (enS false (Bridge.Ports a))) ≤ 1048576)) then some ([[D.bool true]], []) else none := by kernel_rfl
theorem m30 (a : Bridge) (b : Bridge) (hpre : (o30 a b).1 = true) : evFn ⟨Go.Proofs.Try.prog, Hx, 30⟩ T70.call 0 Go.Proofs.Try.f30 [[.int .i64 a.Id, .sl false 11 (enS false a.Ports)], [.int .i64 b.Id, .sl false 11 (enS false b.Ports)]] = some (o30 a b).2 := by
  refine (r30 a b _).trans ?_
  show _ = (some ([[.bool (true)]], []) : Option (List Row × List Row))
  replace hpre : (sameB a b && (Bridge.small a)) = true := hpre
  rw [Bool.and_eq_true] at hpre
  obtain ⟨h0, h1⟩ := hpre
  have := sameB_eq h0
  subst this
  unfold Bridge.small at h1
  try simp only [Bool.and_eq_true] at h1
  simp only [h1, bne_self_eq_false, cond_false, cond_true, sameB_self, isS_enS, deS_enS, Bool.and_self, Bool.and_true, Bool.true_and, Bool.not_true]
  try rfl
theorem s30 : SoundAt Go.Proofs.Try.prog Hx 30 c30 := soundAt_of T70_sound mixed Go.Proofs.Try.func30 (by kernel_rfl) (by
  intro rows r h
  unfold c30 at h
  split at h
  · rename_i a_Id a_Ports b_Id b_Ports
    obtain ⟨hp, hr⟩ := Prod.mk.inj (Option.some.inj h)
    subst hr
    simp only [Bool.and_eq_true] at hp
    obtain ⟨⟨hs0, hs1⟩, hp⟩ := hp
    obtain ⟨xs0, rfl⟩ := isS_ex hs0
    obtain ⟨xs1, rfl⟩ := isS_ex hs1
    simp only [deS_enS] at hp ⊢
    exact ⟨_, m30 ⟨a_Id, xs0⟩ ⟨b_Id, xs1⟩ hp⟩
  · cases h)
def T30 : Table := (30, c30) :: T70
theorem T30_sound : Table.Sound Go.Proofs.Try.prog Hx T30 := Table.sound_cons s30 T70_sound
/- markPortS -/
def o71 (a : List Port) (k : Int) : Bool × List Row × List Row := (decide (0 ≤ k) && (decide (k + cntS Port.n_ a ≤ 4611686018427387904) && decide (a.length ≤ 1152921504606846976)), [[.int .i64 (k + cntS Port.n_ a)]], [[.sl true 11 (enS true (markS Port.mk_ Port.n_ a k))]])
def c71 : Contract
  | [[.sl true 11 a], [.int .i64 k]] => some (isS Port true a && (o71 (deS Port a) k).1, (o71 (deS Port a) k).2.1, (o71 (deS Port a) k).2.2)
  | _ => none

noncomputable def k71_0 (n : Nat) : Ex → St → Option (List Row × List Row) := kThen (fun st ↦ runCode (Ctx.mk Go.Proofs.Try.prog Hx (71)) (Table.call T30) n (codeAt [1, 1] (bodyOf Go.Proofs.Try.f71)) (Lv.mk 16 [] 16) st (kLeave (Ctx.P (Ctx.mk Go.Proofs.Try.prog Hx (71))) (List.zip (Array.toList (Go.Func.resultTypes Go.Proofs.Try.f71)) (Array.toList (Go.Func.results Go.Proofs.Try.f71))) [] [C.view 0 0 0 [] 11 none])) (kLeave (Ctx.P (Ctx.mk Go.Proofs.Try.prog Hx (71))) (List.zip (Array.toList (Go.Func.resultTypes Go.Proofs.Try.f71)) (Array.toList (Go.Func.results Go.Proofs.Try.f71))) [] [C.view 0 0 0 [] 11 none])
noncomputable def k71_1 (n : Nat) : Ex → St → Option (List Row × List Row) := kBlock (0) (k71_0 n)
noncomputable def S71_0 (i0 : Int) (i1 : Int) (es2 : List (List D)) : St := St.mk [TV.v false [C.view 0 0 0 [] 11 none], TV.v false [C.d (D.int IntKind.i64 i0)], TV.v false [C.undef], TV.v false [C.undef], TV.v false [C.undef], TV.v false [C.d (D.int IntKind.i64 i1)], TV.v false [C.undef], TV.v false [C.undef], TV.v false [C.undef], TV.v false [C.undef], TV.v false [C.undef], TV.v false [C.undef], TV.v false [C.undef], TV.v false [C.undef], TV.v false [C.undef], TV.v false [C.undef], TV.v false [C.undef], TV.v false [C.undef], TV.v false [C.undef], TV.v false [C.undef], TV.v false [C.undef], TV.v false [C.undef], TV.v false [C.undef], TV.v false [C.undef], TV.v false [C.undef], TV.v false [C.undef], TV.v false [C.undef], TV.v false [C.undef], TV.v false [C.undef], TV.v false [C.undef], TV.v false [C.undef], TV.v false [C.undef], TV.v false [C.undef], TV.v false [C.undef], TV.v false [C.undef], TV.v false [C.undef], TV.v false [C.undef], TV.v false [C.undef], TV.v false [C.undef], TV.v false [C.undef], TV.v false [C.undef], TV.v false [C.undef], TV.v false [C.undef], TV.v false [C.undef], TV.v false [C.undef], TV.v false [C.undef], TV.v false [C.undef], TV.v false [C.undef], TV.v false [C.undef], TV.v false [C.undef], TV.v false [C.undef], TV.v false [C.undef], TV.v false [C.undef], TV.v false [C.undef], TV.v false [C.undef], TV.v false [C.undef], TV.v false [C.undef], TV.v false [C.undef], TV.v false [C.undef], TV.v false [C.undef], TV.v false [C.undef], TV.v false [C.undef], TV.v false [C.undef], TV.v false [C.undef], TV.v false [C.undef], TV.v false [C.undef], TV.v false [C.undef], TV.v false [C.undef], TV.v false [C.undef], TV.v false [C.undef], TV.v false [C.undef], TV.v false [C.undef], TV.v false [C.undef], TV.v false [C.undef], TV.v false [C.undef], TV.v false [C.undef], TV.v false [C.undef], TV.v false [C.undef], TV.v false [C.undef], TV.v false [C.undef], TV.v false [C.undef], TV.v false [C.undef], TV.v false [C.undef], TV.v false [C.undef], TV.v false [C.undef], TV.v false [C.undef], TV.v false [C.undef], TV.v false [C.undef], TV.v false [C.undef], TV.v false [C.undef], TV.v false [C.undef], TV.v false [C.undef], TV.v false [C.undef], TV.v false [C.undef], TV.v false [C.undef], TV.v false [C.undef], TV.v false [C.undef], TV.v false [C.undef], TV.v false [C.undef], TV.v false [C.undef]] [Root.mk false 11 es2 0 0 true true]
noncomputable def B71_0 (n : Nat) : St → (Ex → St → Option (List Row × List Row)) → Option (List Row × List Row) := runCode (Ctx.mk Go.Proofs.Try.prog Hx (71)) (Table.call T30) n (codeAt [1, 0, 1, 0, 0] (bodyOf Go.Proofs.Try.f71)) (Lv.mk 0 [(0, 2)] 16)
noncomputable def X71_2 (i0 : Int) (i1 : Int) (es2 : List (List D)) : St := St.mk [TV.v false [C.view 0 0 0 [] 11 none], TV.v false [C.d (D.int IntKind.i64 i0)], TV.v false [C.undef], TV.v false [C.undef], TV.v false [C.undef], TV.v false [C.d (D.int IntKind.i64 i1)], TV.v false [C.d (D.int IntKind.i64 i1)], TV.v false [C.view 0 0 0 [] 11 none], TV.v false [C.d (D.int IntKind.i64 (Int.ofNat (List.length es2)))], TV.v false [C.d (D.bool false)], TV.v false [C.undef], TV.v false [C.undef], TV.v false [C.undef], TV.v false [C.undef], TV.v false [C.undef], TV.v false [C.undef], TV.v false [C.undef], TV.v false [C.undef], TV.v false [C.undef], TV.v false [C.undef], TV.v false [C.undef], TV.v false [C.undef], TV.v false [C.undef], TV.v false [C.undef], TV.v false [C.undef], TV.v false [C.undef], TV.v false [C.undef], TV.v false [C.undef], TV.v false [C.undef], TV.v false [C.undef], TV.v false [C.undef], TV.v false [C.undef], TV.v false [C.undef], TV.v false [C.undef], TV.v false [C.undef], TV.v false [C.undef], TV.v false [C.undef], TV.v false [C.undef], TV.v false [C.undef], TV.v false [C.undef], TV.v false [C.undef], TV.v false [C.undef], TV.v false [C.undef], TV.v false [C.undef], TV.v false [C.undef], TV.v false [C.undef], TV.v false [C.undef], TV.v false [C.undef], TV.v false [C.undef], TV.v false [C.undef], TV.v false [C.undef], TV.v false [C.undef], TV.v false [C.undef], TV.v false [C.undef], TV.v false [C.undef], TV.v false [C.undef], TV.v false [C.undef], TV.v false [C.undef], TV.v false [C.undef], TV.v false [C.undef], TV.v false [C.undef], TV.v false [C.undef], TV.v false [C.undef], TV.v false [C.undef], TV.v false [C.undef], TV.v false [C.undef], TV.v false [C.undef], TV.v false [C.undef], TV.v false [C.undef], TV.v false [C.undef], TV.v false [C.undef], TV.v false [C.undef], TV.v false [C.undef], TV.v false [C.undef], TV.v false [C.undef], TV.v false [C.undef], TV.v false [C.undef], TV.v false [C.undef], TV.v false [C.undef], TV.v false [C.undef], TV.v false [C.undef], TV.v false [C.undef], TV.v false [C.undef], TV.v false [C.undef], TV.v false [C.undef], TV.v false [C.undef], TV.v false [C.undef], TV.v false [C.undef], TV.v false [C.undef], TV.v false [C.undef], TV.v false [C.undef], TV.v false [C.undef], TV.v false [C.undef], TV.v false [C.undef], TV.v false [C.undef], TV.v false [C.undef], TV.v false [C.undef], TV.v false [C.undef], TV.v false [C.undef], TV.v false [C.undef]] [Root.mk false 11 es2 0 0 true true]
noncomputable def w71_3 (i0 : Int) (i1 : Int) (es2 : List (List D)) : List (List D) := List.set es2 (0 + Int.toNat i1) (D.bool (Int.tmod i0 (3) == 0) :: List.drop 1 (List.getD es2 (0 + Int.toNat i1) []))
noncomputable def w71_4 (i0 : Int) (i1 : Int) (es2 : List (List D)) : List (List D) := List.set (w71_3 i0 i1 es2) (0 + Int.toNat i1) (List.append (List.append (List.take 1 (List.getD (w71_3 i0 i1 es2) (0 + Int.toNat i1) [])) [D.bool (Int.tmod (IntKind.wrap IntKind.i64 (i0 + 1)) (3) == 0)]) (List.drop 2 (List.getD (w71_3 i0 i1 es2) (0 + Int.toNat i1) [])))
noncomputable def w71_5 (i0 : Int) (i1 : Int) (es2 : List (List D)) : List (List D) := List.set (w71_4 i0 i1 es2) (0 + Int.toNat i1) (List.append (List.append (List.take 2 (List.getD (w71_4 i0 i1 es2) (0 + Int.toNat i1) [])) [D.int IntKind.i64 (IntKind.wrap IntKind.i64 (IntKind.wrap IntKind.i64 (i0 + 1) + 1))]) (List.drop 3 (List.getD (w71_4 i0 i1 es2) (0 + Int.toNat i1) [])))
noncomputable def w71_6 (i0 : Int) (i1 : Int) (es2 : List (List D)) : List (List D) := List.set (w71_5 i0 i1 es2) (0 + Int.toNat i1) (List.append (List.append (List.take 3 (List.getD (w71_5 i0 i1 es2) (0 + Int.toNat i1) [])) [D.int IntKind.i64 (IntKind.wrap IntKind.i64 (IntKind.wrap IntKind.i64 (IntKind.wrap IntKind.i64 (i0 + 1) + 1) + 1))]) (List.drop 4 (List.getD (w71_5 i0 i1 es2) (0 + Int.toNat i1) [])))
noncomputable def w71_7 (i0 : Int) (i1 : Int) (es2 : List (List D)) : List (List D) := List.set (w71_6 i0 i1 es2) (0 + Int.toNat i1) (List.append (List.append (List.take 4 (List.getD (w71_6 i0 i1 es2) (0 + Int.toNat i1) [])) [D.int IntKind.i64 (IntKind.wrap IntKind.i64 (IntKind.wrap IntKind.i64 (IntKind.wrap IntKind.i64 (IntKind.wrap IntKind.i64 (i0 + 1) + 1) + 1) + 1))]) (List.drop 5 (List.getD (w71_6 i0 i1 es2) (0 + Int.toNat i1) [])))
noncomputable def w71_8 (i0 : Int) (i1 : Int) (es2 : List (List D)) : List (List D) := List.set (w71_7 i0 i1 es2) (0 + Int.toNat i1) (List.append (List.append (List.take 5 (List.getD (w71_7 i0 i1 es2) (0 + Int.toNat i1) [])) [D.int IntKind.i64 (IntKind.wrap IntKind.i64 (IntKind.wrap IntKind.i64 (IntKind.wrap IntKind.i64 (IntKind.wrap IntKind.i64 (IntKind.wrap IntKind.i64 (i0 + 1) + 1) + 1) + 1) + 1))]) (List.drop 6 (List.getD (w71_7 i0 i1 es2) (0 + Int.toNat i1) [])))
noncomputable def w71_9 (i0 : Int) (i1 : Int) (es2 : List (List D)) : List (List D) := List.set (w71_8 i0 i1 es2) (0 + Int.toNat i1) (List.append (List.append (List.take 6 (List.getD (w71_8 i0 i1 es2) (0 + Int.toNat i1) [])) [D.int IntKind.i64 (IntKind.wrap IntKind.i64 (IntKind.wrap IntKind.i64 (IntKind.wrap IntKind.i64 (IntKind.wrap IntKind.i64 (IntKind.wrap IntKind.i64 (IntKind.wrap IntKind.i64 (i0 + 1) + 1) + 1) + 1) + 1) + 1))]) (List.drop 7 (List.getD (w71_8 i0 i1 es2) (0 + Int.toNat i1) [])))
noncomputable def w71_10 (i0 : Int) (i1 : Int) (es2 : List (List D)) : List (List D) := List.set (w71_9 i0 i1 es2) (0 + Int.toNat i1) (List.append (List.append (List.take 7 (List.getD (w71_9 i0 i1 es2) (0 + Int.toNat i1) [])) [D.int IntKind.i64 (IntKind.wrap IntKind.i64 (IntKind.wrap IntKind.i64 (IntKind.wrap IntKind.i64 (IntKind.wrap IntKind.i64 (IntKind.wrap IntKind.i64 (IntKind.wrap IntKind.i64 (IntKind.wrap IntKind.i64 (i0 + 1) + 1) + 1) + 1) + 1) + 1) + 1))]) (List.drop 8 (List.getD (w71_9 i0 i1 es2) (0 + Int.toNat i1) [])))
noncomputable def w71_11 (i0 : Int) (i1 : Int) (es2 : List (List D)) : List (List D) := List.set (w71_10 i0 i1 es2) (0 + Int.toNat i1) (List.append (List.append (List.take 8 (List.getD (w71_10 i0 i1 es2) (0 + Int.toNat i1) [])) [D.int IntKind.i64 (IntKind.wrap IntKind.i64 (IntKind.wrap IntKind.i64 (IntKind.wrap IntKind.i64 (IntKind.wrap IntKind.i64 (IntKind.wrap IntKind.i64 (IntKind.wrap IntKind.i64 (IntKind.wrap IntKind.i64 (IntKind.wrap IntKind.i64 (i0 + 1) + 1) + 1) + 1) + 1) + 1) + 1) + 1))]) (List.drop 9 (List.getD (w71_10 i0 i1 es2) (0 + Int.toNat i1) [])))
noncomputable def w71_12 (i0 : Int) (i1 : Int) (es2 : List (List D)) : List (List D) := List.set (w71_11 i0 i1 es2) (0 + Int.toNat i1) (List.append (List.append (List.take 9 (List.getD (w71_11 i0 i1 es2) (0 + Int.toNat i1) [])) [D.int IntKind.i64 (IntKind.wrap IntKind.i64 (IntKind.wrap IntKind.i64 (IntKind.wrap IntKind.i64 (IntKind.wrap IntKind.i64 (IntKind.wrap IntKind.i64 (IntKind.wrap IntKind.i64 (IntKind.wrap IntKind.i64 (IntKind.wrap IntKind.i64 (IntKind.wrap IntKind.i64 (i0 + 1) + 1) + 1) + 1) + 1) + 1) + 1) + 1) + 1))]) (List.drop 10 (List.getD (w71_11 i0 i1 es2) (0 + Int.toNat i1) [])))
theorem q71_0 (n : Nat) (i0 : Int) (i1 : Int) (es2 : List (List D)) (f : St → Option (List Row × List Row)) (K : Ex → St → Option (List Row × List Row)) : B71_0 n (S71_0 i0 i1 es2) (@kThen (List Row × List Row) (fun st ↦ f (St.head 1 35 633825300114114700748351602658 st)) K) = bif decide (i1 < Int.ofNat (List.length es2)) then bif decide (0 ≤ i1) && decide (i1 < Int.ofNat (List.length es2)) then bif decide (0 ≤ i1) && decide (i1 < Int.ofNat (List.length (w71_3 i0 i1 es2))) then bif decide (0 ≤ i1) && decide (i1 < Int.ofNat (List.length (w71_4 i0 i1 es2))) then bif decide (0 ≤ i1) && decide (i1 < Int.ofNat (List.length (w71_5 i0 i1 es2))) then bif decide (0 ≤ i1) && decide (i1 < Int.ofNat (List.length (w71_6 i0 i1 es2))) then bif decide (0 ≤ i1) && decide (i1 < Int.ofNat (List.length (w71_7 i0 i1 es2))) then bif decide (0 ≤ i1) && decide (i1 < Int.ofNat (List.length (w71_8 i0 i1 es2))) then bif decide (0 ≤ i1) && decide (i1 < Int.ofNat (List.length (w71_9 i0 i1 es2))) then bif decide (0 ≤ i1) && decide (i1 < Int.ofNat (List.length (w71_10 i0 i1 es2))) then bif decide (0 ≤ i1) && decide (i1 < Int.ofNat (List.length (w71_11 i0 i1 es2))) then bif decide (0 ≤ i1) && decide (i1 < Int.ofNat (List.length (w71_12 i0 i1 es2))) then f (S71_0 (IntKind.wrap IntKind.i64 (IntKind.wrap IntKind.i64 (IntKind.wrap IntKind.i64 (IntKind.wrap IntKind.i64 (IntKind.wrap IntKind.i64 (IntKind.wrap IntKind.i64 (IntKind.wrap IntKind.i64 (IntKind.wrap IntKind.i64 (IntKind.wrap IntKind.i64 (IntKind.wrap IntKind.i64 (IntKind.wrap IntKind.i64 (i0 + 1) + 1) + 1) + 1) + 1) + 1) + 1) + 1) + 1) + 1) + 1)) (IntKind.wrap IntKind.i64 (i1 + 1)) (List.set (w71_12 i0 i1 es2) (0 + Int.toNat i1) (List.append (List.append (List.take 10 (List.getD (w71_12 i0 i1 es2) (0 + Int.toNat i1) [])) [D.bool (Int.tmod (IntKind.wrap IntKind.i64 (IntKind.wrap IntKind.i64 (IntKind.wrap IntKind.i64 (IntKind.wrap IntKind.i64 (IntKind.wrap IntKind.i64 (IntKind.wrap IntKind.i64 (IntKind.wrap IntKind.i64 (IntKind.wrap IntKind.i64 (IntKind.wrap IntKind.i64 (IntKind.wrap IntKind.i64 (i0 + 1) + 1) + 1) + 1) + 1) + 1) + 1) + 1) + 1) + 1)) (3) == 0)]) (List.drop 11 (List.getD (w71_12 i0 i1 es2) (0 + Int.toNat i1) []))))) else none else none else none else none else none else none else none else none else none else none else none else K (Ex.exit 0) (X71_2 i0 i1 es2) := by kernel_rfl
theorem aX71_2 (n : Nat) (i0 : Int) (i1 : Int) (es2 : List (List D)) : k71_1 n (Ex.exit 0) (X71_2 i0 i1 es2) = some ([[D.int IntKind.i64 i0]], [[D.sl true 11 es2]]) := by kernel_rfl
theorem r71 (a : List Port) (k : Int) (n : Nat) : evFn ⟨Go.Proofs.Try.prog, Hx, 71⟩ T30.call n Go.Proofs.Try.f71 [[.sl true 11 (enS true a)], [.int .i64 k]] = loopRun (B71_0 n) 1 35 633825300114114700748351602658 n (S71_0 k (0) (enS true a)) (k71_1 n) := by kernel_rfl
theorem m71 (a : List Port) (k : Int) (hpre : (o71 a k).1 = true) : evFn ⟨Go.Proofs.Try.prog, Hx, 71⟩ T30.call (a.length + 1) Go.Proofs.Try.f71 [[.sl true 11 (enS true a)], [.int .i64 k]] = some (o71 a k).2 := by
  refine (r71 a k _).trans ?_
  show _ = (some ([[.int .i64 (k + cntS Port.n_ a)]], [[.sl true 11 (enS true (markS Port.mk_ Port.n_ a k))]]) : Option (List Row × List Row))
  replace hpre : (decide (0 ≤ k) && (decide (k + cntS Port.n_ a ≤ 4611686018427387904) && decide (a.length ≤ 1152921504606846976))) = true := hpre
  simp only [Bool.and_eq_true, decide_eq_true_eq] at hpre
  obtain ⟨h0, h1, h2⟩ := hpre
  refine loop_list (xs := a) (fun i (v : List Port × Int) => S71_0 v.2 (Int.ofNat i) (enS true (v.1 ++ a.drop i))) (fun i v => v.1.length = i ∧ 0 ≤ v.2 ∧ v.2 + cntS Port.n_ (a.drop i) ≤ 4611686018427387904) (fun _ v rest => some ([[D.int .i64 (v.2 + cntS Port.n_ rest)]], [[D.sl true 11 (enS true (v.1 ++ markS Port.mk_ Port.n_ rest v.2))]])) ?_ ?_ (a.length + 1) ([], k) (by omega) ⟨rfl, h0, h1⟩
  · rintro ⟨pre, k⟩ ⟨hl, hk0, hk1⟩ f
    refine (q71_0 _ _ _ _ f _).trans ?_
    simp only [enS_length, List.drop_length, List.append_nil, hl, dec_lt, Nat.lt_irrefl, decide_false, cond_false]
    refine (aX71_2 _ _ _ _).trans ?_
    simp only [List.append_nil, cntS, markS, Int.add_zero]
  · rintro i ⟨pre, k⟩ hi ⟨hl, hk0, hk1⟩ f hf
    simp only at hl hk0 hk1
    rw [List.drop_eq_getElem_cons hi] at hk1
    generalize hx : a[i] = x at hk1 ⊢
    have hc := cntS_nonneg (n := Port.n_) Port.n_pos (a.drop (i + 1))
    have hn : Port.n_ x = 11 := rfl
    simp only [cntS, hn] at hk1
    refine (q71_0 _ _ _ _ f _).trans ?_
    rw [List.drop_eq_getElem_cons hi, hx]
    have hm := mid_get pre x (a.drop (i + 1)) hl
    have hat := mid_at pre x (a.drop (i + 1)) hl hm
    have hs : ∀ R, ((enS true (pre ++ x :: a.drop (i + 1))).set i R).getD i [] = R := fun R => getD_set_same _ _ _ _ (by rw [enS_length]; exact hm)
    simp only [w71_3, w71_4, w71_5, w71_6, w71_7, w71_8, w71_9, w71_10, w71_11, w71_12, List.length_set, enS_length, toNat_of, Nat.zero_add, dec_lt, dec_ge, hm, hs, List.set_set, enS_get _ hm, hat, decide_true, cond_true, Bool.and_self, wrap_succ (show i < 4611686018427387904 by omega), En.enc, List.append_eq, List.take_succ_cons, List.take_zero, List.drop_succ_cons, List.drop_zero, List.cons_append, List.nil_append]
    have hw1 : IntKind.wrap IntKind.i64 (k + 1) = k + 1 := wrap_le (by omega) (by omega)
    have hw2 : IntKind.wrap IntKind.i64 (k + 1 + 1) = k + 1 + 1 := wrap_le (by omega) (by omega)
    have hw3 : IntKind.wrap IntKind.i64 (k + 1 + 1 + 1) = k + 1 + 1 + 1 := wrap_le (by omega) (by omega)
    have hw4 : IntKind.wrap IntKind.i64 (k + 1 + 1 + 1 + 1) = k + 1 + 1 + 1 + 1 := wrap_le (by omega) (by omega)
    have hw5 : IntKind.wrap IntKind.i64 (k + 1 + 1 + 1 + 1 + 1) = k + 1 + 1 + 1 + 1 + 1 := wrap_le (by omega) (by omega)
    have hw6 : IntKind.wrap IntKind.i64 (k + 1 + 1 + 1 + 1 + 1 + 1) = k + 1 + 1 + 1 + 1 + 1 + 1 := wrap_le (by omega) (by omega)
    have hw7 : IntKind.wrap IntKind.i64 (k + 1 + 1 + 1 + 1 + 1 + 1 + 1) = k + 1 + 1 + 1 + 1 + 1 + 1 + 1 := wrap_le (by omega) (by omega)
    have hw8 : IntKind.wrap IntKind.i64 (k + 1 + 1 + 1 + 1 + 1 + 1 + 1 + 1) = k + 1 + 1 + 1 + 1 + 1 + 1 + 1 + 1 := wrap_le (by omega) (by omega)
    have hw9 : IntKind.wrap IntKind.i64 (k + 1 + 1 + 1 + 1 + 1 + 1 + 1 + 1 + 1) = k + 1 + 1 + 1 + 1 + 1 + 1 + 1 + 1 + 1 := wrap_le (by omega) (by omega)
    have hw10 : IntKind.wrap IntKind.i64 (k + 1 + 1 + 1 + 1 + 1 + 1 + 1 + 1 + 1 + 1) = k + 1 + 1 + 1 + 1 + 1 + 1 + 1 + 1 + 1 + 1 := wrap_le (by omega) (by omega)
    have hw11 : IntKind.wrap IntKind.i64 (k + 1 + 1 + 1 + 1 + 1 + 1 + 1 + 1 + 1 + 1 + 1) = k + 1 + 1 + 1 + 1 + 1 + 1 + 1 + 1 + 1 + 1 + 1 := wrap_le (by omega) (by omega)
    simp only [hw1, hw2, hw3, hw4, hw5, hw6, hw7, hw8, hw9, hw10, hw11]
    have he : k + 1 + 1 + 1 + 1 + 1 + 1 + 1 + 1 + 1 + 1 + 1 = k + Port.n_ x := by omega
    skip
    refine (congrArg f (congrArg (S71_0 _ _) ((enS_set true _ i (Port.mk_ x k)).trans (congrArg (enS true) (mid_set pre x _ _ hl))))).trans ?_
    refine (hf (pre ++ [Port.mk_ x k], k + 1 + 1 + 1 + 1 + 1 + 1 + 1 + 1 + 1 + 1 + 1) ⟨by simp [hl], by simp only; omega, by simp only; omega⟩).trans ?_
    show _ = some ([[D.int .i64 (k + (Port.n_ x + cntS Port.n_ (a.drop (i + 1))))]], [[D.sl true 11 (enS true (pre ++ (Port.mk_ x k :: markS Port.mk_ Port.n_ (a.drop (i + 1)) (k + Port.n_ x))))]])
    rw [he, List.append_assoc, List.singleton_append, Int.add_assoc]
theorem s71 : SoundAt Go.Proofs.Try.prog Hx 71 c71 := soundAt_of T30_sound mixed Go.Proofs.Try.func71 (by kernel_rfl) (by
  intro rows r h
  unfold c71 at h
  split at h
  · rename_i a k
    obtain ⟨hp, hr⟩ := Prod.mk.inj (Option.some.inj h)
    subst hr
    simp only [Bool.and_eq_true] at hp
    obtain ⟨hs0, hp⟩ := hp
    obtain ⟨xs0, rfl⟩ := isS_ex hs0
    simp only [deS_enS] at hp ⊢
    exact ⟨_, m71 xs0 k hp⟩
  · cases h)
def T71 : Table := (71, c71) :: T30
theorem T71_sound : Table.Sound Go.Proofs.Try.prog Hx T71 := Table.sound_cons s71 T30_sound
/- markBridge -/
def o31 (a : Bridge) (k : Int) : Bool × List Row × List Row := (decide (0 ≤ k) && (decide (k + Bridge.nTop a ≤ 4611686018427387904) && (decide (a.Ports.length ≤ 1152921504606846976))), [[.int .i64 (k + Bridge.nTop a)]], [])
def c31 : Contract
  | [[.int .i64 a_Id, .sl true 11 a_Ports], [.int .i64 k]] => some (isS Port true a_Ports && (o31 ⟨a_Id, (deS Port a_Ports)⟩ k).1, (o31 ⟨a_Id, (deS Port a_Ports)⟩ k).2.1, (o31 ⟨a_Id, (deS Port a_Ports)⟩ k).2.2)
  | _ => none

theorem r31 (a : Bridge) (k : Int) (n : Nat) : evFn ⟨Go.Proofs.Try.prog, Hx, 31⟩ T71.call n Go.Proofs.Try.f31 [[.int .i64 a.Id, .sl true 11 (enS true a.Ports)], [.int .i64 k]] = bif isS Port true (enS true (Bridge.Ports a)) && (decide (0 ≤ k) && (decide (k + cntS Port.n_ (deS Port (enS true (Bridge.Ports a))) ≤ 4611686018427387904) && decide (List.length (deS Port (enS true (Bridge.Ports a))) ≤ 1152921504606846976))) then some ([[D.int IntKind.i64 (k + cntS Port.n_ (deS Port (enS true (Bridge.Ports a))))]], []) else none := by kernel_rfl
theorem m31 (a : Bridge) (k : Int) (hpre : (o31 a k).1 = true) : evFn ⟨Go.Proofs.Try.prog, Hx, 31⟩ T71.call 0 Go.Proofs.Try.f31 [[.int .i64 a.Id, .sl true 11 (enS true a.Ports)], [.int .i64 k]] = some (o31 a k).2 := by
  refine (r31 a k _).trans ?_
  show _ = (some ([[.int .i64 (k + Bridge.nTop a)]], []) : Option (List Row × List Row))
  replace hpre : (decide (0 ≤ k) && (decide (k + Bridge.nTop a ≤ 4611686018427387904) && (decide (a.Ports.length ≤ 1152921504606846976)))) = true := hpre
  simp only [Bool.and_eq_true] at hpre
  obtain ⟨h0, h1, h2⟩ := hpre
  have h0' := of_decide_eq_true h0
  have h1' := of_decide_eq_true h1
  unfold Bridge.nTop at h1'
  have p0 : 0 ≤ cntS Port.n_ a.Ports := cntS_nonneg Port.n_pos a.Ports
  have g0 : decide (0 ≤ k) = true := decide_eq_true (by omega)
  have f0 : decide (k + cntS Port.n_ a.Ports ≤ 4611686018427387904) = true := decide_eq_true (by omega)
  have d0 : decide (k + cntS Port.n_ a.Ports < 0) = false := decide_eq_false (by omega)
  simp only [g0, f0, d0, h2, isS_enS, deS_enS, sameB_self, cond_true, cond_false, Bool.and_self, Bool.and_true, Bool.true_and, Bridge.mkTop, Bridge.nTop]
  try rfl
theorem s31 : SoundAt Go.Proofs.Try.prog Hx 31 c31 := soundAt_of T71_sound mixed Go.Proofs.Try.func31 (by kernel_rfl) (by
  intro rows r h
  unfold c31 at h
  split at h
  · rename_i a_Id a_Ports k
    obtain ⟨hp, hr⟩ := Prod.mk.inj (Option.some.inj h)
    subst hr
    simp only [Bool.and_eq_true] at hp
    obtain ⟨hs0, hp⟩ := hp
    obtain ⟨xs0, rfl⟩ := isS_ex hs0
    simp only [deS_enS] at hp ⊢
    exact ⟨_, m31 ⟨a_Id, xs0⟩ k hp⟩
  · cases h)
def T31 : Table := (31, c31) :: T71
theorem T31_sound : Table.Sound Go.Proofs.Try.prog Hx T31 := Table.sound_cons s31 T71_sound
/- eqByteS -/
def o11 (a : List UInt8) (b : List UInt8) : Bool × List Row × List Row := (sameB a b && (decide (a.length ≤ 1048576)), [[.bool (true)]], [])
def c11 : Contract
  | [[.sl false 1 a], [.sl false 1 b]] => some (isS UInt8 false a && isS UInt8 false b && (o11 (deS UInt8 a) (deS UInt8 b)).1, (o11 (deS UInt8 a) (deS UInt8 b)).2.1, (o11 (deS UInt8 a) (deS UInt8 b)).2.2)
  | _ => none

noncomputable def k11_0 (n : Nat) : Ex → St → Option (List Row × List Row) := kThen (fun st ↦ runCode (Ctx.mk Go.Proofs.Try.prog Hx (11)) (Table.call T31) n (codeAt [1, 1, 1] (bodyOf Go.Proofs.Try.f11)) (Lv.mk 16 [] 16) st (kLeave (Ctx.P (Ctx.mk Go.Proofs.Try.prog Hx (11))) (List.zip (Array.toList (Go.Func.resultTypes Go.Proofs.Try.f11)) (Array.toList (Go.Func.results Go.Proofs.Try.f11))) [] [])) (kLeave (Ctx.P (Ctx.mk Go.Proofs.Try.prog Hx (11))) (List.zip (Array.toList (Go.Func.resultTypes Go.Proofs.Try.f11)) (Array.toList (Go.Func.results Go.Proofs.Try.f11))) [] [])
noncomputable def k11_1 (n : Nat) : Ex → St → Option (List Row × List Row) := kBlock (0) (k11_0 n)
noncomputable def S11_0 (a : List UInt8) (b : List UInt8) (i0 : Int) : St := St.mk [TV.v false [C.d (D.sl false 1 (enS false a))], TV.v false [C.d (D.sl false 1 (enS false b))], TV.v false [C.undef], TV.v false [C.undef], TV.v false [C.undef], TV.v false [C.d (D.int IntKind.i64 i0)], TV.v false [C.undef], TV.v false [C.undef], TV.v false [C.undef], TV.v false [C.undef], TV.v false [C.undef], TV.v false [C.undef], TV.v false [C.undef], TV.v false [C.undef], TV.v false [C.undef], TV.v false [C.undef], TV.v false [C.undef], TV.v false [C.undef], TV.v false [C.undef], TV.v false [C.undef], TV.v false [C.undef], TV.v false [C.undef], TV.v false [C.undef], TV.v false [C.undef], TV.v false [C.undef], TV.v false [C.undef]] []
noncomputable def B11_0 (n : Nat) : St → (Ex → St → Option (List Row × List Row)) → Option (List Row × List Row) := runCode (Ctx.mk Go.Proofs.Try.prog Hx (11)) (Table.call T31) n (codeAt [1, 1, 0, 1, 0, 0] (bodyOf Go.Proofs.Try.f11)) (Lv.mk 0 [(0, 0)] 16)
noncomputable def X11_2 (a : List UInt8) (b : List UInt8) (i0 : Int) : St := St.mk [TV.v false [C.d (D.sl false 1 (enS false a))], TV.v false [C.d (D.sl false 1 (enS false b))], TV.v false [C.undef], TV.v false [C.undef], TV.v false [C.d (D.bool false)], TV.v false [C.d (D.int IntKind.i64 i0)], TV.v false [C.undef], TV.v false [C.undef], TV.v false [C.undef], TV.v false [C.undef], TV.v false [C.undef], TV.v false [C.d (D.int IntKind.i64 i0)], TV.v false [C.d (D.sl false 1 (enS false a))], TV.v false [C.d (D.int IntKind.i64 (Int.ofNat (List.length (enS false a))))], TV.v false [C.d (D.bool true)], TV.v false [C.undef], TV.v false [C.undef], TV.v false [C.d (D.sl false 1 (enS false a))], TV.v false [C.d (D.int IntKind.i64 i0)], TV.v false [C.rptr (List.getD (enS false a) (Int.toNat i0) [])], TV.v false [C.d (D.int IntKind.u8 (D.num (List.getD (List.getD (enS false a) (Int.toNat i0) []) 0 D.dead)))], TV.v false [C.d (D.sl false 1 (enS false b))], TV.v false [C.d (D.int IntKind.i64 i0)], TV.v false [C.rptr (List.getD (enS false b) (Int.toNat i0) [])], TV.v false [C.d (D.int IntKind.u8 (D.num (List.getD (List.getD (enS false b) (Int.toNat i0) []) 0 D.dead)))], TV.v false [C.d (D.bool true)]] []
noncomputable def X11_3 (a : List UInt8) (b : List UInt8) (i0 : Int) : St := St.mk [TV.v false [C.d (D.sl false 1 (enS false a))], TV.v false [C.d (D.sl false 1 (enS false b))], TV.v false [C.undef], TV.v false [C.undef], TV.v false [C.undef], TV.v false [C.d (D.int IntKind.i64 i0)], TV.v false [C.undef], TV.v false [C.undef], TV.v false [C.undef], TV.v false [C.undef], TV.v false [C.undef], TV.v false [C.d (D.int IntKind.i64 i0)], TV.v false [C.d (D.sl false 1 (enS false a))], TV.v false [C.d (D.int IntKind.i64 (Int.ofNat (List.length (enS false a))))], TV.v false [C.d (D.bool false)], TV.v false [C.undef], TV.v false [C.undef], TV.v false [C.undef], TV.v false [C.undef], TV.v false [C.undef], TV.v false [C.undef], TV.v false [C.undef], TV.v false [C.undef], TV.v false [C.undef], TV.v false [C.undef], TV.v false [C.undef]] []
theorem q11_0 (a : List UInt8) (b : List UInt8) (n : Nat) (i0 : Int) (f : St → Option (List Row × List Row)) (K : Ex → St → Option (List Row × List Row)) : B11_0 n (S11_0 a b i0) (@kThen (List Row × List Row) (fun st ↦ f (St.head 0 35 67106864 st)) K) = bif decide (i0 < Int.ofNat (List.length (enS false a))) then bif decide (0 ≤ i0) && decide (i0 < Int.ofNat (List.length (enS false a))) then bif Leaf.fit false (Leaf.int IntKind.u8) (List.getD (List.getD (enS false a) (Int.toNat i0) []) 0 D.dead) && true then bif decide (0 ≤ i0) && decide (i0 < Int.ofNat (List.length (enS false b))) then bif Leaf.fit false (Leaf.int IntKind.u8) (List.getD (List.getD (enS false b) (Int.toNat i0) []) 0 D.dead) && true then bif D.num (List.getD (List.getD (enS false a) (Int.toNat i0) []) 0 D.dead) != D.num (List.getD (List.getD (enS false b) (Int.toNat i0) []) 0 D.dead) then K Ex.ret (X11_2 a b i0) else f (S11_0 a b (IntKind.wrap IntKind.i64 (i0 + 1))) else none else none else none else none else K (Ex.exit 0) (X11_3 a b i0) := by kernel_rfl
theorem aX11_2 (a : List UInt8) (b : List UInt8) (n : Nat) (i0 : Int) : k11_1 n Ex.ret (X11_2 a b i0) = some ([[D.bool false]], []) := by kernel_rfl
theorem aX11_3 (a : List UInt8) (b : List UInt8) (n : Nat) (i0 : Int) : k11_1 n (Ex.exit 0) (X11_3 a b i0) = some ([[D.bool true]], []) := by kernel_rfl
theorem r11 (a : List UInt8) (b : List UInt8) (n : Nat) : evFn ⟨Go.Proofs.Try.prog, Hx, 11⟩ T31.call n Go.Proofs.Try.f11 [[.sl false 1 (enS false a)], [.sl false 1 (enS false b)]] = bif Int.ofNat (List.length (enS false a)) != Int.ofNat (List.length (enS false b)) then some ([[D.bool false]], []) else loopRun (B11_0 n) 0 35 67106864 n (S11_0 a b (0)) (k11_1 n) := by kernel_rfl
theorem m11 (a : List UInt8) (b : List UInt8) (hpre : (o11 a b).1 = true) : evFn ⟨Go.Proofs.Try.prog, Hx, 11⟩ T31.call (a.length + 1) Go.Proofs.Try.f11 [[.sl false 1 (enS false a)], [.sl false 1 (enS false b)]] = some (o11 a b).2 := by
  refine (r11 a b _).trans ?_
  show _ = (some ([[.bool (true)]], []) : Option (List Row × List Row))
  replace hpre : (sameB a b && (decide (a.length ≤ 1048576))) = true := hpre
  rw [Bool.and_eq_true] at hpre
  obtain ⟨h0, h1⟩ := hpre
  have hlen : a.length ≤ 1048576 := of_decide_eq_true h1
  have := sameB_eq h0
  subst this
  simp only [bne_self_eq_false, cond_false]
  refine loop_list (xs := a) (fun i (_ : Unit) => S11_0 a a (Int.ofNat i)) (fun _ _ => True) (fun _ _ _ => some ([[D.bool true]], [])) ?_ ?_ (a.length + 1) () (by omega) trivial
  · rintro _ _ f
    refine (q11_0 a a _ _ f _).trans ?_
    simp only [enS_length, dec_lt, Nat.lt_irrefl, decide_false, cond_false]
    exact aX11_3 a a _ _
  · rintro i _ hi _ f hf
    refine (q11_0 a a _ _ f _).trans ?_
    simp only [enS_length, toNat_of, dec_lt, dec_ge, enS_get _ hi, hi, wrap_succ (show i < 4611686018427387904 by omega), decide_true, cond_true, Bool.and_self, sameB_self, bne_self_eq_false, cond_false]
    exact hf () trivial
theorem s11 : SoundAt Go.Proofs.Try.prog Hx 11 c11 := soundAt_of T31_sound mixed Go.Proofs.Try.func11 (by kernel_rfl) (by
  intro rows r h
  unfold c11 at h
  split at h
  · rename_i a b
    obtain ⟨hp, hr⟩ := Prod.mk.inj (Option.some.inj h)
    subst hr
    simp only [Bool.and_eq_true] at hp
    obtain ⟨⟨hs0, hs1⟩, hp⟩ := hp
    obtain ⟨xs0, rfl⟩ := isS_ex hs0
    obtain ⟨xs1, rfl⟩ := isS_ex hs1
    simp only [deS_enS] at hp ⊢
    exact ⟨_, m11 xs0 xs1 hp⟩
  · cases h)
def T11 : Table := (11, c11) :: T31
theorem T11_sound : Table.Sound Go.Proofs.Try.prog Hx T11 := Table.sound_cons s11 T31_sound
/- markByteS -/
def o12 (a : List UInt8) (k : Int) : Bool × List Row × List Row := (decide (0 ≤ k) && (decide (k + cntS oneN a ≤ 4611686018427387904) && decide (a.length ≤ 1152921504606846976)), [[.int .i64 (k + cntS oneN a)]], [[.sl true 1 (enS true (markS byteMk oneN a k))]])
def c12 : Contract
  | [[.sl true 1 a], [.int .i64 k]] => some (isS UInt8 true a && (o12 (deS UInt8 a) k).1, (o12 (deS UInt8 a) k).2.1, (o12 (deS UInt8 a) k).2.2)
  | _ => none

noncomputable def k12_0 (n : Nat) : Ex → St → Option (List Row × List Row) := kThen (fun st ↦ runCode (Ctx.mk Go.Proofs.Try.prog Hx (12)) (Table.call T11) n (codeAt [1, 1] (bodyOf Go.Proofs.Try.f12)) (Lv.mk 16 [] 16) st (kLeave (Ctx.P (Ctx.mk Go.Proofs.Try.prog Hx (12))) (List.zip (Array.toList (Go.Func.resultTypes Go.Proofs.Try.f12)) (Array.toList (Go.Func.results Go.Proofs.Try.f12))) [] [C.view 0 0 0 [] 1 none])) (kLeave (Ctx.P (Ctx.mk Go.Proofs.Try.prog Hx (12))) (List.zip (Array.toList (Go.Func.resultTypes Go.Proofs.Try.f12)) (Array.toList (Go.Func.results Go.Proofs.Try.f12))) [] [C.view 0 0 0 [] 1 none])
noncomputable def k12_1 (n : Nat) : Ex → St → Option (List Row × List Row) := kBlock (0) (k12_0 n)
noncomputable def S12_0 (i0 : Int) (i1 : Int) (es2 : List (List D)) : St := St.mk [TV.v false [C.view 0 0 0 [] 1 none], TV.v false [C.d (D.int IntKind.i64 i0)], TV.v false [C.undef], TV.v false [C.undef], TV.v false [C.undef], TV.v false [C.d (D.int IntKind.i64 i1)], TV.v false [C.undef], TV.v false [C.undef], TV.v false [C.undef], TV.v false [C.undef], TV.v false [C.undef], TV.v false [C.undef], TV.v false [C.undef], TV.v false [C.undef], TV.v false [C.undef], TV.v false [C.undef], TV.v false [C.undef], TV.v false [C.undef], TV.v false [C.undef], TV.v false [C.undef]] [Root.mk false 1 es2 0 0 true true]
noncomputable def B12_0 (n : Nat) : St → (Ex → St → Option (List Row × List Row)) → Option (List Row × List Row) := runCode (Ctx.mk Go.Proofs.Try.prog Hx (12)) (Table.call T11) n (codeAt [1, 0, 1, 0, 0] (bodyOf Go.Proofs.Try.f12)) (Lv.mk 0 [(0, 2)] 16)
noncomputable def X12_2 (i0 : Int) (i1 : Int) (es2 : List (List D)) : St := St.mk [TV.v false [C.view 0 0 0 [] 1 none], TV.v false [C.d (D.int IntKind.i64 i0)], TV.v false [C.undef], TV.v false [C.undef], TV.v false [C.undef], TV.v false [C.d (D.int IntKind.i64 i1)], TV.v false [C.d (D.int IntKind.i64 i1)], TV.v false [C.view 0 0 0 [] 1 none], TV.v false [C.d (D.int IntKind.i64 (Int.ofNat (List.length es2)))], TV.v false [C.d (D.bool false)], TV.v false [C.undef], TV.v false [C.undef], TV.v false [C.undef], TV.v false [C.undef], TV.v false [C.undef], TV.v false [C.undef], TV.v false [C.undef], TV.v false [C.undef], TV.v false [C.undef], TV.v false [C.undef]] [Root.mk false 1 es2 0 0 true true]
theorem q12_0 (n : Nat) (i0 : Int) (i1 : Int) (es2 : List (List D)) (f : St → Option (List Row × List Row)) (K : Ex → St → Option (List Row × List Row)) : B12_0 n (S12_0 i0 i1 es2) (@kThen (List Row × List Row) (fun st ↦ f (St.head 1 35 524258 st)) K) = bif decide (i1 < Int.ofNat (List.length es2)) then bif decide (0 ≤ i1) && decide (i1 < Int.ofNat (List.length es2)) then f (S12_0 (IntKind.wrap IntKind.i64 (i0 + 1)) (IntKind.wrap IntKind.i64 (i1 + 1)) (List.set es2 (0 + Int.toNat i1) [D.int IntKind.u8 (IntKind.wrap IntKind.u8 i0)])) else none else K (Ex.exit 0) (X12_2 i0 i1 es2) := by kernel_rfl
theorem aX12_2 (n : Nat) (i0 : Int) (i1 : Int) (es2 : List (List D)) : k12_1 n (Ex.exit 0) (X12_2 i0 i1 es2) = some ([[D.int IntKind.i64 i0]], [[D.sl true 1 es2]]) := by kernel_rfl
theorem r12 (a : List UInt8) (k : Int) (n : Nat) : evFn ⟨Go.Proofs.Try.prog, Hx, 12⟩ T11.call n Go.Proofs.Try.f12 [[.sl true 1 (enS true a)], [.int .i64 k]] = loopRun (B12_0 n) 1 35 524258 n (S12_0 k (0) (enS true a)) (k12_1 n) := by kernel_rfl
theorem m12 (a : List UInt8) (k : Int) (hpre : (o12 a k).1 = true) : evFn ⟨Go.Proofs.Try.prog, Hx, 12⟩ T11.call (a.length + 1) Go.Proofs.Try.f12 [[.sl true 1 (enS true a)], [.int .i64 k]] = some (o12 a k).2 := by
  refine (r12 a k _).trans ?_
  show _ = (some ([[.int .i64 (k + cntS oneN a)]], [[.sl true 1 (enS true (markS byteMk oneN a k))]]) : Option (List Row × List Row))
  replace hpre : (decide (0 ≤ k) && (decide (k + cntS oneN a ≤ 4611686018427387904) && decide (a.length ≤ 1152921504606846976))) = true := hpre
  simp only [Bool.and_eq_true, decide_eq_true_eq] at hpre
  obtain ⟨h0, h1, h2⟩ := hpre
  refine loop_list (xs := a) (fun i (v : List UInt8 × Int) => S12_0 v.2 (Int.ofNat i) (enS true (v.1 ++ a.drop i))) (fun i v => v.1.length = i ∧ 0 ≤ v.2 ∧ v.2 + cntS oneN (a.drop i) ≤ 4611686018427387904) (fun _ v rest => some ([[D.int .i64 (v.2 + cntS oneN rest)]], [[D.sl true 1 (enS true (v.1 ++ markS byteMk oneN rest v.2))]])) ?_ ?_ (a.length + 1) ([], k) (by omega) ⟨rfl, h0, h1⟩
  · rintro ⟨pre, k⟩ ⟨hl, hk0, hk1⟩ f
    refine (q12_0 _ _ _ _ f _).trans ?_
    simp only [enS_length, List.drop_length, List.append_nil, hl, dec_lt, Nat.lt_irrefl, decide_false, cond_false]
    refine (aX12_2 _ _ _ _).trans ?_
    simp only [List.append_nil, cntS, markS, Int.add_zero]
  · rintro i ⟨pre, k⟩ hi ⟨hl, hk0, hk1⟩ f hf
    simp only at hl hk0 hk1
    rw [List.drop_eq_getElem_cons hi] at hk1
    generalize hx : a[i] = x at hk1 ⊢
    have hc := cntS_nonneg (n := oneN) oneN_pos (a.drop (i + 1))
    have hn : oneN x = 1 := rfl
    simp only [cntS, hn] at hk1
    refine (q12_0 _ _ _ _ f _).trans ?_
    rw [List.drop_eq_getElem_cons hi, hx]
    have hm := mid_get pre x (a.drop (i + 1)) hl
    have hat := mid_at pre x (a.drop (i + 1)) hl hm
    have hs : ∀ R, ((enS true (pre ++ x :: a.drop (i + 1))).set i R).getD i [] = R := fun R => getD_set_same _ _ _ _ (by rw [enS_length]; exact hm)
    simp only [List.length_set, enS_length, toNat_of, Nat.zero_add, dec_lt, dec_ge, hm, hs, List.set_set, enS_get _ hm, hat, decide_true, cond_true, Bool.and_self, wrap_succ (show i < 4611686018427387904 by omega), En.enc, List.append_eq, List.take_succ_cons, List.take_zero, List.drop_succ_cons, List.drop_zero, List.cons_append, List.nil_append]
    have hw1 : IntKind.wrap IntKind.i64 (k + 1) = k + 1 := wrap_le (by omega) (by omega)
    simp only [hw1]
    have he : k + 1 = k + oneN x := by omega
    rw [← u8_wrap k]
    refine (congrArg f (congrArg (S12_0 _ _) ((enS_set true _ i (byteMk x k)).trans (congrArg (enS true) (mid_set pre x _ _ hl))))).trans ?_
    refine (hf (pre ++ [byteMk x k], k + 1) ⟨by simp [hl], by simp only; omega, by simp only; omega⟩).trans ?_
    show _ = some ([[D.int .i64 (k + (oneN x + cntS oneN (a.drop (i + 1))))]], [[D.sl true 1 (enS true (pre ++ (byteMk x k :: markS byteMk oneN (a.drop (i + 1)) (k + oneN x))))]])
    rw [he, List.append_assoc, List.singleton_append, Int.add_assoc]
theorem s12 : SoundAt Go.Proofs.Try.prog Hx 12 c12 := soundAt_of T11_sound mixed Go.Proofs.Try.func12 (by kernel_rfl) (by
  intro rows r h
  unfold c12 at h
  split at h
  · rename_i a k
    obtain ⟨hp, hr⟩ := Prod.mk.inj (Option.some.inj h)
    subst hr
    simp only [Bool.and_eq_true] at hp
    obtain ⟨hs0, hp⟩ := hp
    obtain ⟨xs0, rfl⟩ := isS_ex hs0
    simp only [deS_enS] at hp ⊢
    exact ⟨_, m12 xs0 k hp⟩
  · cases h)
def T12 : Table := (12, c12) :: T11
theorem T12_sound : Table.Sound Go.Proofs.Try.prog Hx T12 := Table.sound_cons s12 T11_sound
/- heldByteS -/
def o13 (a : List UInt8) (k : Int) : Bool × List Row × List Row := (sameB (markS byteMk oneN a k) a && (decide (0 ≤ k) && (decide (k + cntS oneN a ≤ 4611686018427387904) && decide (a.length ≤ 1152921504606846976))), [[.int .i64 (k + cntS oneN a)]], [])
def c13 : Contract
  | [[.sl false 1 a], [.int .i64 k]] => some (isS UInt8 false a && (o13 (deS UInt8 a) k).1, (o13 (deS UInt8 a) k).2.1, (o13 (deS UInt8 a) k).2.2)
  | _ => none

noncomputable def k13_0 (n : Nat) : Ex → St → Option (List Row × List Row) := kThen (fun st ↦ runCode (Ctx.mk Go.Proofs.Try.prog Hx (13)) (Table.call T12) n (codeAt [1, 1] (bodyOf Go.Proofs.Try.f13)) (Lv.mk 16 [] 16) st (kLeave (Ctx.P (Ctx.mk Go.Proofs.Try.prog Hx (13))) (List.zip (Array.toList (Go.Func.resultTypes Go.Proofs.Try.f13)) (Array.toList (Go.Func.results Go.Proofs.Try.f13))) [] [])) (kLeave (Ctx.P (Ctx.mk Go.Proofs.Try.prog Hx (13))) (List.zip (Array.toList (Go.Func.resultTypes Go.Proofs.Try.f13)) (Array.toList (Go.Func.results Go.Proofs.Try.f13))) [] [])
noncomputable def k13_1 (n : Nat) : Ex → St → Option (List Row × List Row) := kBlock (0) (k13_0 n)
noncomputable def S13_0 (a : List UInt8) (i0 : Int) (i1 : Int) : St := St.mk [TV.v false [C.d (D.sl false 1 (enS false a))], TV.v false [C.d (D.int IntKind.i64 i0)], TV.v false [C.undef], TV.v false [C.undef], TV.v false [C.undef], TV.v false [C.d (D.int IntKind.i64 i1)], TV.v false [C.undef], TV.v false [C.undef], TV.v false [C.undef], TV.v false [C.undef], TV.v false [C.undef], TV.v false [C.undef], TV.v false [C.undef], TV.v false [C.undef], TV.v false [C.undef], TV.v false [C.undef], TV.v false [C.undef], TV.v false [C.undef], TV.v false [C.undef], TV.v false [C.undef], TV.v false [C.undef], TV.v false [C.undef]] []
noncomputable def B13_0 (n : Nat) : St → (Ex → St → Option (List Row × List Row)) → Option (List Row × List Row) := runCode (Ctx.mk Go.Proofs.Try.prog Hx (13)) (Table.call T12) n (codeAt [1, 0, 1, 0, 0] (bodyOf Go.Proofs.Try.f13)) (Lv.mk 0 [(0, 2)] 16)
noncomputable def X13_2 (a : List UInt8) (i0 : Int) (i1 : Int) : St := St.mk [TV.v false [C.d (D.sl false 1 (enS false a))], TV.v false [C.d (D.int IntKind.i64 i0)], TV.v false [C.undef], TV.v false [C.undef], TV.v false [C.d (D.int IntKind.i64 (Int.negSucc 0))], TV.v false [C.d (D.int IntKind.i64 i1)], TV.v false [C.d (D.int IntKind.i64 i1)], TV.v false [C.d (D.sl false 1 (enS false a))], TV.v false [C.d (D.int IntKind.i64 (Int.ofNat (List.length (enS false a))))], TV.v false [C.d (D.bool true)], TV.v false [C.undef], TV.v false [C.undef], TV.v false [C.d (D.sl false 1 (enS false a))], TV.v false [C.d (D.int IntKind.i64 i1)], TV.v false [C.rptr (List.getD (enS false a) (Int.toNat i1) [])], TV.v false [C.d (D.int IntKind.u8 (D.num (List.getD (List.getD (enS false a) (Int.toNat i1) []) 0 D.dead)))], TV.v false [C.d (D.int IntKind.i64 i0)], TV.v false [C.d (D.int IntKind.u8 (IntKind.wrap IntKind.u8 i0))], TV.v false [C.d (D.bool true)], TV.v false [C.undef], TV.v false [C.undef], TV.v false [C.undef]] []
noncomputable def X13_3 (a : List UInt8) (i0 : Int) (i1 : Int) : St := St.mk [TV.v false [C.d (D.sl false 1 (enS false a))], TV.v false [C.d (D.int IntKind.i64 i0)], TV.v false [C.undef], TV.v false [C.undef], TV.v false [C.undef], TV.v false [C.d (D.int IntKind.i64 i1)], TV.v false [C.d (D.int IntKind.i64 i1)], TV.v false [C.d (D.sl false 1 (enS false a))], TV.v false [C.d (D.int IntKind.i64 (Int.ofNat (List.length (enS false a))))], TV.v false [C.d (D.bool false)], TV.v false [C.undef], TV.v false [C.undef], TV.v false [C.undef], TV.v false [C.undef], TV.v false [C.undef], TV.v false [C.undef], TV.v false [C.undef], TV.v false [C.undef], TV.v false [C.undef], TV.v false [C.undef], TV.v false [C.undef], TV.v false [C.undef]] []
theorem q13_0 (a : List UInt8) (n : Nat) (i0 : Int) (i1 : Int) (f : St → Option (List Row × List Row)) (K : Ex → St → Option (List Row × List Row)) : B13_0 n (S13_0 a i0 i1) (@kThen (List Row × List Row) (fun st ↦ f (St.head 0 35 2097138 st)) K) = bif decide (i1 < Int.ofNat (List.length (enS false a))) then bif decide (0 ≤ i1) && decide (i1 < Int.ofNat (List.length (enS false a))) then bif Leaf.fit false (Leaf.int IntKind.u8) (List.getD (List.getD (enS false a) (Int.toNat i1) []) 0 D.dead) && true then bif D.num (List.getD (List.getD (enS false a) (Int.toNat i1) []) 0 D.dead) != IntKind.wrap IntKind.u8 i0 then K Ex.ret (X13_2 a i0 i1) else f (S13_0 a (IntKind.wrap IntKind.i64 (i0 + 1)) (IntKind.wrap IntKind.i64 (i1 + 1))) else none else none else K (Ex.exit 0) (X13_3 a i0 i1) := by kernel_rfl
theorem aX13_2 (a : List UInt8) (n : Nat) (i0 : Int) (i1 : Int) : k13_1 n Ex.ret (X13_2 a i0 i1) = some ([[D.int IntKind.i64 (Int.negSucc 0)]], []) := by kernel_rfl
theorem aX13_3 (a : List UInt8) (n : Nat) (i0 : Int) (i1 : Int) : k13_1 n (Ex.exit 0) (X13_3 a i0 i1) = some ([[D.int IntKind.i64 i0]], []) := by kernel_rfl
theorem r13 (a : List UInt8) (k : Int) (n : Nat) : evFn ⟨Go.Proofs.Try.prog, Hx, 13⟩ T12.call n Go.Proofs.Try.f13 [[.sl false 1 (enS false a)], [.int .i64 k]] = loopRun (B13_0 n) 0 35 2097138 n (S13_0 a k (0)) (k13_1 n) := by kernel_rfl
theorem m13 (a : List UInt8) (k : Int) (hpre : (o13 a k).1 = true) : evFn ⟨Go.Proofs.Try.prog, Hx, 13⟩ T12.call (a.length + 1) Go.Proofs.Try.f13 [[.sl false 1 (enS false a)], [.int .i64 k]] = some (o13 a k).2 := by
  refine (r13 a k _).trans ?_
  show _ = (some ([[.int .i64 (k + cntS oneN a)]], []) : Option (List Row × List Row))
  replace hpre : (sameB (markS byteMk oneN a k) a && (decide (0 ≤ k) && (decide (k + cntS oneN a ≤ 4611686018427387904) && decide (a.length ≤ 1152921504606846976)))) = true := hpre
  rw [Bool.and_eq_true] at hpre
  obtain ⟨hsame, hpre⟩ := hpre
  have hsame := sameB_eq hsame
  simp only [Bool.and_eq_true, decide_eq_true_eq] at hpre
  obtain ⟨h0, h1, h2⟩ := hpre
  refine loop_list (xs := a) (fun i (k : Int) => S13_0 a k (Int.ofNat i)) (fun i k => 0 ≤ k ∧ k + cntS oneN (a.drop i) ≤ 4611686018427387904 ∧ markS byteMk oneN (a.drop i) k = a.drop i) (fun _ k rest => some ([[D.int .i64 (k + cntS oneN rest)]], [])) ?_ ?_ (a.length + 1) k (by omega) ⟨h0, h1, hsame⟩
  · rintro k ⟨hk0, hk1, _⟩ f
    refine (q13_0 a _ _ _ f _).trans ?_
    simp only [enS_length, dec_lt, Nat.lt_irrefl, decide_false, cond_false]
    refine (aX13_3 a _ _ _).trans ?_
    simp only [cntS, Int.add_zero]
  · rintro i k hi ⟨hk0, hk1, hk2⟩ f hf
    rw [List.drop_eq_getElem_cons hi] at hk1 hk2
    have hc := cntS_nonneg (n := oneN) oneN_pos (a.drop (i + 1))
    have hn : oneN a[i] = 1 := rfl
    simp only [cntS, hn] at hk1
    have he : k + 1 = k + oneN a[i] := by omega
    simp only [markS, List.cons.injEq] at hk2
    obtain ⟨hk2, hk3⟩ := hk2
    refine (q13_0 a _ _ _ f _).trans ?_
    simp only [enS_length, toNat_of, dec_lt, dec_ge, enS_get _ hi, hi, wrap_succ (show i < 4611686018427387904 by omega), decide_true, cond_true, Bool.and_self]
    have hw1 : IntKind.wrap IntKind.i64 (k + 1) = k + 1 := wrap_le (by omega) (by omega)
    simp only [hw1]
    rw [← hk2]
    refine Eq.trans (b := f (S13_0 a (k + 1) (Int.ofNat (i + 1)))) ?_ ((hf (k + 1) ⟨by omega, by omega, by rw [he]; exact hk3⟩).trans ?_)
    · simp only [u8_wrap, En.enc, byteMk, Leaf.fit, List.getD_cons_zero, List.getD_cons_succ, D.num, D.flag, D.text, bne_self_eq_false, Bool.and_self, cond_true, cond_false, decide_true]
    · show _ = some ([[D.int .i64 (k + (oneN a[i] + cntS oneN (a.drop (i + 1))))]], [])
      rw [he, Int.add_assoc]
theorem s13 : SoundAt Go.Proofs.Try.prog Hx 13 c13 := soundAt_of T12_sound mixed Go.Proofs.Try.func13 (by kernel_rfl) (by
  intro rows r h
  unfold c13 at h
  split at h
  · rename_i a k
    obtain ⟨hp, hr⟩ := Prod.mk.inj (Option.some.inj h)
    subst hr
    simp only [Bool.and_eq_true] at hp
    obtain ⟨hs0, hp⟩ := hp
    obtain ⟨xs0, rfl⟩ := isS_ex hs0
    simp only [deS_enS] at hp ⊢
    exact ⟨_, m13 xs0 k hp⟩
  · cases h)
def T13 : Table := (13, c13) :: T12
theorem T13_sound : Table.Sound Go.Proofs.Try.prog Hx T13 := Table.sound_cons s13 T12_sound
/- law -/
def o6 (aB : Bridge) : Bool × List Row × List Row := (Bridge.big aB, [[.bool (true)]], [])
def c6 : Contract
  | [[.int .i64 aB_Id, .sl false 11 aB_Ports]] => some (isS Port false aB_Ports && (o6 ⟨aB_Id, (deS Port aB_Ports)⟩).1, (o6 ⟨aB_Id, (deS Port aB_Ports)⟩).2.1, (o6 ⟨aB_Id, (deS Port aB_Ports)⟩).2.2)
  | _ => none

theorem r6 (aB : Bridge) (n : Nat) : evFn ⟨Go.Proofs.Try.prog, Hx, 6⟩ T13.call n Go.Proofs.Try.f6 [[.int .i64 aB.Id, .sl false 11 (enS false aB.Ports)]] = bif isS Port false (enS false (Bridge.Ports aB)) && Bridge.big (Bridge.mk (Bridge.Id aB) (deS Port (enS false (Bridge.Ports aB)))) then bif decide (szR (Bridge.wt (Bridge.mk (Bridge.Id aB) (deS Port (enS false (Bridge.Ports aB))))) (1048576) < 0) then some ([[D.bool true]], []) else bif isS Port false (enS false (Bridge.Ports aB)) && Bridge.small (Bridge.mk (Bridge.Id aB) (deS Port (enS false (Bridge.Ports aB)))) then bif isS Port false (lendRows (enS true (deS Port (enS false (Bridge.Ports aB))))) && decide (List.length (deS Port (lendRows (enS true (deS Port (enS false (Bridge.Ports aB)))))) ≤ 1048576) then bif deepRows (enS true (bridgeBs (Bridge.mk (Bridge.Id aB) (deS Port (lendRows (enS true (deS Port (enS false (Bridge.Ports aB))))))))) && true && true && true && true then bif isS Port false (enS false (Bridge.Ports aB)) && Bridge.small (Bridge.mk (Bridge.Id aB) (deS Port (enS false (Bridge.Ports aB)))) then bif isS Port false (lendRows (enS true (deS Port (enS false (Bridge.Ports aB))))) && decide (List.length (deS Port (lendRows (enS true (deS Port (enS false (Bridge.Ports aB)))))) ≤ 1048576) then bif deepRows (enS true (bridgeBs (Bridge.mk (Bridge.Id aB) (deS Port (lendRows (enS true (deS Port (enS false (Bridge.Ports aB))))))))) && true && true && true && true then bif isS UInt8 false (lendRows (enS true (bridgeBs (Bridge.mk (Bridge.Id aB) (deS Port (lendRows (enS true (deS Port (enS false (Bridge.Ports aB)))))))))) && isS UInt8 false (lendRows (enS true (bridgeBs (Bridge.mk (Bridge.Id aB) (deS Port (lendRows (enS true (deS Port (enS false (Bridge.Ports aB)))))))))) && (sameB (deS UInt8 (lendRows (enS true (bridgeBs (Bridge.mk (Bridge.Id aB) (deS Port (lendRows (enS true (deS Port (enS false (Bridge.Ports aB))))))))))) (deS UInt8 (lendRows (enS true (bridgeBs (Bridge.mk (Bridge.Id aB) (deS Port (lendRows (enS true (deS Port (enS false (Bridge.Ports aB))))))))))) && decide (List.length (deS UInt8 (lendRows (enS true (bridgeBs (Bridge.mk (Bridge.Id aB) (deS Port (lendRows (enS true (deS Port (enS false (Bridge.Ports aB))))))))))) ≤ 1048576)) then bif isS Port false (enS false (Bridge.Ports aB)) && Bridge.small (Bridge.mk (Bridge.Id aB) (deS Port (enS false (Bridge.Ports aB)))) then bif isS Port false (lendRows (enS true (deS Port (enS false (Bridge.Ports aB))))) && isS Port false (lendRows (enS true (deS Port (enS false (Bridge.Ports aB))))) && (sameB (Bridge.mk (Bridge.Id aB) (deS Port (lendRows (enS true (deS Port (enS false (Bridge.Ports aB))))))) (Bridge.mk (Bridge.Id aB) (deS Port (lendRows (enS true (deS Port (enS false (Bridge.Ports aB))))))) && Bridge.small (Bridge.mk (Bridge.Id aB) (deS Port (lendRows (enS true (deS Port (enS false (Bridge.Ports aB)))))))) then bif isS Port true (enS true (deS Port (enS false (Bridge.Ports aB)))) && (decide (1 + Bridge.nTop (Bridge.mk (Bridge.Id aB) (deS Port (enS true (deS Port (enS false (Bridge.Ports aB)))))) ≤ 4611686018427387904) && decide (List.length (deS Port (enS true (deS Port (enS false (Bridge.Ports aB))))) ≤ 1152921504606846976)) then bif decide (1 + Bridge.nTop (Bridge.mk (Bridge.Id aB) (deS Port (enS true (deS Port (enS false (Bridge.Ports aB)))))) < 0) then some ([[D.bool false]], []) else bif isS UInt8 false (lendRows (enS true (bridgeBs (Bridge.mk (Bridge.Id aB) (deS Port (lendRows (enS true (deS Port (enS false (Bridge.Ports aB)))))))))) && isS UInt8 false (lendRows (enS true (bridgeBs (Bridge.mk (Bridge.Id aB) (deS Port (lendRows (enS true (deS Port (enS false (Bridge.Ports aB)))))))))) && (sameB (deS UInt8 (lendRows (enS true (bridgeBs (Bridge.mk (Bridge.Id aB) (deS Port (lendRows (enS true (deS Port (enS false (Bridge.Ports aB))))))))))) (deS UInt8 (lendRows (enS true (bridgeBs (Bridge.mk (Bridge.Id aB) (deS Port (lendRows (enS true (deS Port (enS false (Bridge.Ports aB))))))))))) && decide (List.length (deS UInt8 (lendRows (enS true (bridgeBs (Bridge.mk (Bridge.Id aB) (deS Port (lendRows (enS true (deS Port (enS false (Bridge.Ports aB))))))))))) ≤ 1048576)) then bif isS UInt8 true (enS true (bridgeBs (Bridge.mk (Bridge.Id aB) (deS Port (lendRows (enS true (deS Port (enS false (Bridge.Ports aB))))))))) && (decide (1 + cntS oneN (deS UInt8 (enS true (bridgeBs (Bridge.mk (Bridge.Id aB) (deS Port (lendRows (enS true (deS Port (enS false (Bridge.Ports aB)))))))))) ≤ 4611686018427387904) && decide (List.length (deS UInt8 (enS true (bridgeBs (Bridge.mk (Bridge.Id aB) (deS Port (lendRows (enS true (deS Port (enS false (Bridge.Ports aB)))))))))) ≤ 1152921504606846976)) then bif isS UInt8 false (lendRows (enS true (markS byteMk oneN (deS UInt8 (enS true (bridgeBs (Bridge.mk (Bridge.Id aB) (deS Port (lendRows (enS true (deS Port (enS false (Bridge.Ports aB)))))))))) (1)))) && (sameB (markS byteMk oneN (deS UInt8 (lendRows (enS true (markS byteMk oneN (deS UInt8 (enS true (bridgeBs (Bridge.mk (Bridge.Id aB) (deS Port (lendRows (enS true (deS Port (enS false (Bridge.Ports aB)))))))))) (1))))) (1)) (deS UInt8 (lendRows (enS true (markS byteMk oneN (deS UInt8 (enS true (bridgeBs (Bridge.mk (Bridge.Id aB) (deS Port (lendRows (enS true (deS Port (enS false (Bridge.Ports aB)))))))))) (1))))) && (decide (1 + cntS oneN (deS UInt8 (lendRows (enS true (markS byteMk oneN (deS UInt8 (enS true (bridgeBs (Bridge.mk (Bridge.Id aB) (deS Port (lendRows (enS true (deS Port (enS false (Bridge.Ports aB)))))))))) (1))))) ≤ 4611686018427387904) && decide (List.length (deS UInt8 (lendRows (enS true (markS byteMk oneN (deS UInt8 (enS true (bridgeBs (Bridge.mk (Bridge.Id aB) (deS Port (lendRows (enS true (deS Port (enS false (Bridge.Ports aB)))))))))) (1))))) ≤ 1152921504606846976))) then bif decide (1 + cntS oneN (deS UInt8 (lendRows (enS true (markS byteMk oneN (deS UInt8 (enS true (bridgeBs (Bridge.mk (Bridge.Id aB) (deS Port (lendRows (enS true (deS Port (enS false (Bridge.Ports aB)))))))))) (1))))) < 0) then some ([[D.bool false]], []) else bif 1 + cntS oneN (deS UInt8 (lendRows (enS true (markS byteMk oneN (deS UInt8 (enS true (bridgeBs (Bridge.mk (Bridge.Id aB) (deS Port (lendRows (enS true (deS Port (enS false (Bridge.Ports aB)))))))))) (1))))) != 1 + cntS oneN (deS UInt8 (enS true (bridgeBs (Bridge.mk (Bridge.Id aB) (deS Port (lendRows (enS true (deS Port (enS false (Bridge.Ports aB)))))))))) then some ([[D.bool false]], []) else bif isS Port false (enS false (Bridge.Ports aB)) && Bridge.small (Bridge.mk (Bridge.Id aB) (deS Port (enS false (Bridge.Ports aB)))) then bif isS Port false (lendRows (enS true (deS Port (enS false (Bridge.Ports aB))))) && decide (List.length (deS Port (lendRows (enS true (deS Port (enS false (Bridge.Ports aB)))))) ≤ 1048576) then bif deepRows (enS true (bridgeBs (Bridge.mk (Bridge.Id aB) (deS Port (lendRows (enS true (deS Port (enS false (Bridge.Ports aB))))))))) && true && true && true && true then bif isS UInt8 false (lendRows (enS true (bridgeBs (Bridge.mk (Bridge.Id aB) (deS Port (lendRows (enS true (deS Port (enS false (Bridge.Ports aB)))))))))) && isS UInt8 false (lendRows (enS true (bridgeBs (Bridge.mk (Bridge.Id aB) (deS Port (lendRows (enS true (deS Port (enS false (Bridge.Ports aB)))))))))) && (sameB (deS UInt8 (lendRows (enS true (bridgeBs (Bridge.mk (Bridge.Id aB) (deS Port (lendRows (enS true (deS Port (enS false (Bridge.Ports aB))))))))))) (deS UInt8 (lendRows (enS true (bridgeBs (Bridge.mk (Bridge.Id aB) (deS Port (lendRows (enS true (deS Port (enS false (Bridge.Ports aB))))))))))) && decide (List.length (deS UInt8 (lendRows (enS true (bridgeBs (Bridge.mk (Bridge.Id aB) (deS Port (lendRows (enS true (deS Port (enS false (Bridge.Ports aB))))))))))) ≤ 1048576)) then bif isS UInt8 false (lendRows (enS true (markS byteMk oneN (deS UInt8 (enS true (bridgeBs (Bridge.mk (Bridge.Id aB) (deS Port (lendRows (enS true (deS Port (enS false (Bridge.Ports aB)))))))))) (1)))) && (sameB (markS byteMk oneN (deS UInt8 (lendRows (enS true (markS byteMk oneN (deS UInt8 (enS true (bridgeBs (Bridge.mk (Bridge.Id aB) (deS Port (lendRows (enS true (deS Port (enS false (Bridge.Ports aB)))))))))) (1))))) (1)) (deS UInt8 (lendRows (enS true (markS byteMk oneN (deS UInt8 (enS true (bridgeBs (Bridge.mk (Bridge.Id aB) (deS Port (lendRows (enS true (deS Port (enS false (Bridge.Ports aB)))))))))) (1))))) && (decide (1 + cntS oneN (deS UInt8 (lendRows (enS true (markS byteMk oneN (deS UInt8 (enS true (bridgeBs (Bridge.mk (Bridge.Id aB) (deS Port (lendRows (enS true (deS Port (enS false (Bridge.Ports aB)))))))))) (1))))) ≤ 4611686018427387904) && decide (List.length (deS UInt8 (lendRows (enS true (markS byteMk oneN (deS UInt8 (enS true (bridgeBs (Bridge.mk (Bridge.Id aB) (deS Port (lendRows (enS true (deS Port (enS false (Bridge.Ports aB)))))))))) (1))))) ≤ 1152921504606846976))) then bif decide (1 + cntS oneN (deS UInt8 (lendRows (enS true (markS byteMk oneN (deS UInt8 (enS true (bridgeBs (Bridge.mk (Bridge.Id aB) (deS Port (lendRows (enS true (deS Port (enS false (Bridge.Ports aB)))))))))) (1))))) < 0) then some ([[D.bool false]], []) else bif 1 + cntS oneN (deS UInt8 (lendRows (enS true (markS byteMk oneN (deS UInt8 (enS true (bridgeBs (Bridge.mk (Bridge.Id aB) (deS Port (lendRows (enS true (deS Port (enS false (Bridge.Ports aB)))))))))) (1))))) != 1 + cntS oneN (deS UInt8 (enS true (bridgeBs (Bridge.mk (Bridge.Id aB) (deS Port (lendRows (enS true (deS Port (enS false (Bridge.Ports aB)))))))))) then some ([[D.bool false]], []) else some ([[D.bool true]], []) else none else none else none else none else none else none else none else none else none else none else none else none else none else none else none else none else none else none else none := by kernel_rfl
theorem m6 (aB : Bridge) (hpre : (o6 aB).1 = true) : evFn ⟨Go.Proofs.Try.prog, Hx, 6⟩ T13.call 0 Go.Proofs.Try.f6 [[.int .i64 aB.Id, .sl false 11 (enS false aB.Ports)]] = some (o6 aB).2 := by
  refine (r6 aB _).trans ?_
  show _ = (some ([[.bool (true)]], []) : Option (List Row × List Row))
  replace hpre : (Bridge.big aB) = true := hpre
  rcases szR_cases (Bridge.wt aB) 1048576 (by omega) with ⟨hw, _, hz⟩ | ⟨_, _, hz⟩
  case inr => simp only [hpre, isS_enS, deS_enS, Bool.and_self, cond_true, hz, Bridge.eta]
  have hsm := Bridge.small_of aB hw
  have hl := bridgeBs_length aB
  have ht : (aB.Ports.length : Int) ≤ 1048576 := hw
  have hc1 : Bridge.nTop aB = 11 * (aB.Ports.length : Int) := cntS_const (fun _ => rfl) _
  generalize hg : bridgeBs aB = g at hl ⊢
  have hc2 : cntS oneN g = 1 * (g.length : Int) := cntS_const (fun _ => rfl) _
  obtain ⟨hi1, hi2⟩ := markS_idem (mk := byteMk) (n := oneN) (fun _ _ => rfl) (fun _ _ => rfl) g 1
  have hi3 := markS_length byteMk oneN g 1
  have d0 : decide (aB.Ports.length ≤ 1048576) = true := decide_eq_true (by omega)
  have d1 : decide (1 + Bridge.nTop aB ≤ 4611686018427387904) = true := decide_eq_true (by omega)
  have d2 : decide (aB.Ports.length ≤ 1152921504606846976) = true := decide_eq_true (by omega)
  have d3 : decide (1 + cntS oneN g ≤ 4611686018427387904) = true := decide_eq_true (by omega)
  have d4 : decide (g.length ≤ 1152921504606846976) = true := decide_eq_true (by omega)
  have d5 : decide (g.length ≤ 1048576) = true := decide_eq_true (by omega)
  have d6 : decide (1 + Bridge.nTop aB < 0) = false := decide_eq_false (by omega)
  have d7 : decide (1 + cntS oneN g < 0) = false := decide_eq_false (by omega)
  simp only [hg, hpre, hsm, hz, d0, d1, d2, d3, d4, d5, d6, d7, hi1, hi2, hi3, isS_enS, deS_enS, lendRows_enS, deepRows_enS, sameB_self, enS_length, Bool.and_self, Bool.and_true, Bool.true_and, cond_true, cond_false, Bridge.eta, Bool.not_true, bne_self_eq_false]
theorem s6 : SoundAt Go.Proofs.Try.prog Hx 6 c6 := soundAt_of T13_sound mixed Go.Proofs.Try.func6 (by kernel_rfl) (by
  intro rows r h
  unfold c6 at h
  split at h
  · rename_i aB_Id aB_Ports
    obtain ⟨hp, hr⟩ := Prod.mk.inj (Option.some.inj h)
    subst hr
    simp only [Bool.and_eq_true] at hp
    obtain ⟨hs0, hp⟩ := hp
    obtain ⟨xs0, rfl⟩ := isS_ex hs0
    simp only [deS_enS] at hp ⊢
    exact ⟨_, m6 ⟨aB_Id, xs0⟩ hp⟩
  · cases h)
def T6 : Table := (6, c6) :: T13
theorem T6_sound : Table.Sound Go.Proofs.Try.prog Hx T6 := Table.sound_cons s6 T13_sound
end Go.Ev
end
