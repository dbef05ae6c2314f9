/- Contracts of functions, each by its evaluation. -/
import Derived.Test.YtljedfojdgfahaaEvMd
import Derived.Test.YtljedfojdgfahaaProg
import Derived.KernelRfl
import Derived.Test.YtljedfojdgfahaaFRd
set_option linter.unusedVariables false
set_option linter.unusedSimpArgs false
set_option maxRecDepth 100000
noncomputable section
open List (getD length drop take set append replicate all isEmpty)
open Int (toNat ofNat)
open Go.IntKind (i64 wrap)
open Go.Proofs.Try (prog)
namespace Go.Ev
open Go.RowKit Go.Md
end Go.Ev
namespace Go.Md
open Go Go.Ev
def Bridge.wt (x : Bridge) : Int := (x.Ports.length : Int)
def Bridge.small (x : Bridge) : Bool := decide (x.Ports.length ≤ 1048576)
def Bridge.big (x : Bridge) : Bool := decide (x.Ports.length ≤ 9223372036854775807)
theorem Bridge.wt_pos (x : Bridge) : 0 ≤ Bridge.wt x := by
  unfold Bridge.wt
  omega
theorem Bridge.small_of (x : Bridge) (h : Bridge.wt x ≤ 1048576) : Bridge.small x = true := by
  unfold Bridge.wt at h
  unfold Bridge.small
  exact decide_eq_true (by omega)
def oneN {α : Type} (_ : α) : Int := 1
theorem oneN_pos {α : Type} (x : α) : 0 ≤ oneN x := by show (0 : Int) ≤ 1; omega
def byteMk (_ : UInt8) (k : Int) : UInt8 := (IntKind.wrap IntKind.u8 k).toNat.toUInt8
def Vec.mk_ (x : Vec) (k : Int) : Vec := ⟨k, k + 1, k + 1 + 1, k + 1 + 1 + 1⟩
def Vec.n_ (x : Vec) : Int := 1 + 1 + 1 + 1
theorem Vec.n_pos (x : Vec) : 0 ≤ Vec.n_ x := by show (0 : Int) ≤ 1 + 1 + 1 + 1; decide
def Port.mk_ (x : Port) (k : Int) : Port := ⟨(k).tmod 3 == 0, (k + 1).tmod 3 == 0, ⟨k + 1 + 1, k + 1 + 1 + 1, k + 1 + 1 + 1 + 1, k + 1 + 1 + 1 + 1 + 1⟩, k + 1 + 1 + 1 + 1 + 1 + 1, k + 1 + 1 + 1 + 1 + 1 + 1 + 1, k + 1 + 1 + 1 + 1 + 1 + 1 + 1 + 1, k + 1 + 1 + 1 + 1 + 1 + 1 + 1 + 1 + 1, (k + 1 + 1 + 1 + 1 + 1 + 1 + 1 + 1 + 1 + 1).tmod 3 == 0⟩
def Port.n_ (x : Port) : Int := 1 + 1 + 1 + 1 + 1 + 1 + 1 + 1 + 1 + 1 + 1
theorem Port.n_pos (x : Port) : 0 ≤ Port.n_ x := by show (0 : Int) ≤ 1 + 1 + 1 + 1 + 1 + 1 + 1 + 1 + 1 + 1 + 1; decide
def Bridge.mkTop (x : Bridge) (k : Int) : Bridge := ⟨x.Id, markS Port.mk_ Port.n_ x.Ports (k)⟩
def Bridge.nTop (x : Bridge) : Int := cntS Port.n_ x.Ports
theorem Bridge.nTop_pos (x : Bridge) : 0 ≤ Bridge.nTop x := by
  have h0 := cntS_nonneg (n := Port.n_) Port.n_pos x.Ports
  unfold Bridge.nTop
  omega
end Go.Md
namespace Go.Ev
open Go.Md
/- toByteS -/
def o13 (a : List UInt8) : Bool × List Row × List Row := (decide (a.length ≤ 1048576), [[.sl true 1 (enS true (a))]], [])
def c13 : Contract
  | [[.sl false 1 a]] => some (isS UInt8 false a && (o13 (deS UInt8 a)).1, (o13 (deS UInt8 a)).2.1, (o13 (deS UInt8 a)).2.2)
  | _ => none

def k13_0 (n : Nat) : Ex → St → RR := kThen (fun st ↦ runCode (Ctx.mk prog Hx (13)) (Table.call T12) n (codeAt [1, 1, 1] (bodyOf Go.Proofs.Try.f13)) (Lv.mk 4 [] 4) st (kLeave (Ctx.P (Ctx.mk prog Hx (13))) (List.zip (Array.toList (Go.Func.resultTypes Go.Proofs.Try.f13)) (Array.toList (Go.Func.results Go.Proofs.Try.f13))) [] [])) (kLeave (Ctx.P (Ctx.mk prog Hx (13))) (List.zip (Array.toList (Go.Func.resultTypes Go.Proofs.Try.f13)) (Array.toList (Go.Func.results Go.Proofs.Try.f13))) [] [])
def k13_1 (n : Nat) : Ex → St → RR := kBlock (0) (k13_0 n)
def S13_0 (a : List UInt8) (i0 : Int) (es1 : List (List D)) : St := St.mk [TV.v false [C.d (D.sl false 1 (enS false a))], U_, U_, TV.v false [C.view 0 0 0 [] 1 none], I_ i0, U_, U_, U_, U_, U_, U_, U_, U_, U_, U_, U_, U_, U_, U_, U_, U_, U_] [Root.mk false 1 es1 0 0 true true false]
def B13_0 (n : Nat) : St → (Ex → St → RR) → RR := runCode (Ctx.mk prog Hx (13)) (Table.call T12) n (codeAt [1, 1, 0, 1, 0, 0] (bodyOf Go.Proofs.Try.f13)) (Lv.mk 25 [(0, 8)] 4)
def X13_2 (a : List UInt8) (i0 : Int) (es1 : List (List D)) : St := St.mk [TV.v false [C.d (D.sl false 1 (enS false a))], U_, U_, TV.v false [C.view 0 0 0 [] 1 none], I_ i0, U_, U_, U_, I_ i0, TV.v false [C.d (D.sl false 1 (enS false a))], I_ (ofNat (length (enS false a))), B_ false, U_, U_, U_, U_, U_, U_, U_, U_, U_, U_] [Root.mk false 1 es1 0 0 true true false]
theorem q13_0 (a : List UInt8) (n : Nat) (i0 : Int) (es1 : List (List D)) (f : St → RR) (K : Ex → St → RR) : B13_0 n (S13_0 a i0 es1) (kThen (fun st ↦ f (St.head 1 25 2096912 st)) K) = bif decide (i0 < ofNat (length (enS false a))) then bif decide (0 ≤ i0) && decide (i0 < ofNat (length (enS false a))) then bif Leaf.fit false (Leaf.int IntKind.u8) (getD (getD (enS false a) (toNat i0) []) 0 D.dead) && true then bif decide (0 ≤ i0) && decide (i0 < ofNat (length es1)) then f (S13_0 a (wrap i64 (i0 + 1)) (set es1 (0 + toNat i0) [D.int IntKind.u8 (D.num (getD (getD (enS false a) (toNat i0) []) 0 D.dead))])) else none else none else none else K (Ex.exit 0) (X13_2 a i0 es1) := by kernel_rfl
theorem aX13_2 (a : List UInt8) (n : Nat) (i0 : Int) (es1 : List (List D)) : k13_1 n (Ex.exit 0) (X13_2 a i0 es1) = some ([[D.sl true 1 es1]], []) := by kernel_rfl
theorem r13 (a : List UInt8) (n : Nat) : evFn ⟨prog, Hx, 13⟩ T12.call n Go.Proofs.Try.f13 [[.sl false 1 (enS false a)]] = bif decide (0 ≤ ofNat (length (enS false a))) && (decide (ofNat (length (enS false a)) ≤ ofNat (length (enS false a))) && decide (toNat (ofNat (length (enS false a))) * 1 ≤ 140737488355328)) then loopRun (B13_0 n) 1 25 2096912 n (S13_0 a (0) (replicate (toNat (ofNat (length (enS false a)))) [D.int IntKind.u8 (0)])) (k13_1 n) else none := by kernel_rfl
theorem m13 (a : List UInt8) (hpre : (o13 a).1 = true) : evFn ⟨Go.Proofs.Try.prog, Hx, 13⟩ T12.call (a.length + 1) Go.Proofs.Try.f13 [[.sl false 1 (enS false a)]] = some (o13 a).2 := by
  refine (r13 a _).trans ?_
  show _ = (some ([[.sl true 1 (enS true (a))]], []) : Option (List Row × List Row))
  replace hpre : (decide (a.length ≤ 1048576)) = true := hpre
  have hlen : a.length ≤ 1048576 := of_decide_eq_true hpre
  rw [enS_length, make_ok (by omega), cond_true, toNat_of]
  refine (congrArg (fun z => loopRun _ _ _ _ _ (S13_0 a 0 z) _) (enS_rep true a.length (En.nil : UInt8))).trans ?_
  refine loop_list (xs := a) (fun i (ys : List UInt8) => S13_0 a (Int.ofNat i) (enS true ys)) (fun i ys => ys.length = a.length ∧ ys.take i = a.take i) (fun _ _ _ => some ([[D.sl true 1 (enS true a)]], [])) ?_ ?_ (a.length + 1) _ (by omega) ⟨List.length_replicate .., rfl⟩
  · rintro ys ⟨h2, h3⟩ f
    refine (q13_0 a _ _ _ f _).trans ?_
    simp only [enS_length, dec_lt, Nat.lt_irrefl, decide_false, cond_false]
    refine (aX13_2 a _ _ _).trans ?_
    rw [List.take_length, ← h2, List.take_length] at h3
    subst h3
    rfl
  · rintro i ys hi ⟨h2, h3⟩ f hf
    refine (q13_0 a _ _ _ f _).trans ?_
    simp only [enS_length, toNat_of, dec_lt, dec_ge, enS_get _ hi, h2, hi, wrap_succ (show i < 4611686018427387904 by omega), Nat.zero_add, decide_true, cond_true, Bool.and_self]
    exact (congrArg f (congrArg (S13_0 a _) (enS_set true ys i a[i]))).trans (hf (ys.set i a[i]) ⟨by rw [List.length_set]; exact h2, take_set_succ hi h2 h3⟩)
theorem s13 : SoundAt Go.Proofs.Try.prog Hx 13 c13 := soundAt_of T12_sound mixed Go.Proofs.Try.func13 (by kernel_rfl) (by
  intro rows r h
  unfold c13 at h
  split at h
  · rename_i a
    obtain ⟨hp, hr⟩ := Prod.mk.inj (Option.some.inj h)
    subst hr
    simp only [Bool.and_eq_true] at hp
    obtain ⟨hs0, hp⟩ := hp
    obtain ⟨xs0, rfl⟩ := isS_ex hs0
    simp only [deS_enS] at hp ⊢
    exact ⟨_, m13 xs0 hp⟩
  · cases h)
def T13 : Table := (13, c13) :: T12
theorem T13_sound : Table.Sound Go.Proofs.Try.prog Hx T13 := Table.sound_cons s13 T12_sound
/- eqVec -/
def o96 (a : Vec) (b : Vec) : Bool × List Row × List Row := (sameB a b, [[.bool (true)]], [])
def c96 : Contract
  | [[.int .i64 a_Root, .int .i64 a_Cost, .int .i64 a_Bridge, .int .i64 a_Port], [.int .i64 b_Root, .int .i64 b_Cost, .int .i64 b_Bridge, .int .i64 b_Port]] => some ((o96 ⟨a_Root, a_Cost, a_Bridge, a_Port⟩ ⟨b_Root, b_Cost, b_Bridge, b_Port⟩).1, (o96 ⟨a_Root, a_Cost, a_Bridge, a_Port⟩ ⟨b_Root, b_Cost, b_Bridge, b_Port⟩).2.1, (o96 ⟨a_Root, a_Cost, a_Bridge, a_Port⟩ ⟨b_Root, b_Cost, b_Bridge, b_Port⟩).2.2)
  | _ => none

theorem r96 (a : Vec) (b : Vec) (n : Nat) : evFn ⟨prog, Hx, 96⟩ T13.call n Go.Proofs.Try.f96 [[.int .i64 a.Root, .int .i64 a.Cost, .int .i64 a.Bridge, .int .i64 a.Port], [.int .i64 b.Root, .int .i64 b.Cost, .int .i64 b.Bridge, .int .i64 b.Port]] = bif Vec.Root a != Vec.Root b then some ([[D.bool false]], []) else bif Vec.Cost a != Vec.Cost b then some ([[D.bool false]], []) else bif Vec.Bridge a != Vec.Bridge b then some ([[D.bool false]], []) else bif Vec.Port a != Vec.Port b then some ([[D.bool false]], []) else some ([[D.bool true]], []) := by kernel_rfl
theorem m96 (a : Vec) (b : Vec) (hpre : (o96 a b).1 = true) : evFn ⟨Go.Proofs.Try.prog, Hx, 96⟩ T13.call 0 Go.Proofs.Try.f96 [[.int .i64 a.Root, .int .i64 a.Cost, .int .i64 a.Bridge, .int .i64 a.Port], [.int .i64 b.Root, .int .i64 b.Cost, .int .i64 b.Bridge, .int .i64 b.Port]] = some (o96 a b).2 := by
  refine (r96 a b _).trans ?_
  show _ = (some ([[.bool (true)]], []) : Option (List Row × List Row))
  replace hpre : (sameB a b) = true := hpre
  have := sameB_eq hpre
  subst this
  simp only [bne_self_eq_false, cond_false, sameB_self, cond_true, Bool.not_true]
theorem s96 : SoundAt Go.Proofs.Try.prog Hx 96 c96 := soundAt_of T13_sound mixed Go.Proofs.Try.func96 (by kernel_rfl) (by
  intro rows r h
  unfold c96 at h
  split at h
  · rename_i a_Root a_Cost a_Bridge a_Port b_Root b_Cost b_Bridge b_Port
    obtain ⟨hp, hr⟩ := Prod.mk.inj (Option.some.inj h)
    subst hr
    exact ⟨_, m96 ⟨a_Root, a_Cost, a_Bridge, a_Port⟩ ⟨b_Root, b_Cost, b_Bridge, b_Port⟩ hp⟩
  · cases h)
def T96 : Table := (96, c96) :: T13
theorem T96_sound : Table.Sound Go.Proofs.Try.prog Hx T96 := Table.sound_cons s96 T13_sound
/- eqPort -/
def o82 (a : Port) (b : Port) : Bool × List Row × List Row := (sameB a b, [[.bool (true)]], [])
def c82 : Contract
  | [[.bool a_Up, .bool a_Has, .int .i64 a_Vec_Root, .int .i64 a_Vec_Cost, .int .i64 a_Vec_Bridge, .int .i64 a_Vec_Port, .int .i64 a_Hops, .int .i64 a_Left, .int .i64 a_Role, .int .i64 a_Wait, .bool a_Open], [.bool b_Up, .bool b_Has, .int .i64 b_Vec_Root, .int .i64 b_Vec_Cost, .int .i64 b_Vec_Bridge, .int .i64 b_Vec_Port, .int .i64 b_Hops, .int .i64 b_Left, .int .i64 b_Role, .int .i64 b_Wait, .bool b_Open]] => some ((o82 ⟨a_Up, a_Has, ⟨a_Vec_Root, a_Vec_Cost, a_Vec_Bridge, a_Vec_Port⟩, a_Hops, a_Left, a_Role, a_Wait, a_Open⟩ ⟨b_Up, b_Has, ⟨b_Vec_Root, b_Vec_Cost, b_Vec_Bridge, b_Vec_Port⟩, b_Hops, b_Left, b_Role, b_Wait, b_Open⟩).1, (o82 ⟨a_Up, a_Has, ⟨a_Vec_Root, a_Vec_Cost, a_Vec_Bridge, a_Vec_Port⟩, a_Hops, a_Left, a_Role, a_Wait, a_Open⟩ ⟨b_Up, b_Has, ⟨b_Vec_Root, b_Vec_Cost, b_Vec_Bridge, b_Vec_Port⟩, b_Hops, b_Left, b_Role, b_Wait, b_Open⟩).2.1, (o82 ⟨a_Up, a_Has, ⟨a_Vec_Root, a_Vec_Cost, a_Vec_Bridge, a_Vec_Port⟩, a_Hops, a_Left, a_Role, a_Wait, a_Open⟩ ⟨b_Up, b_Has, ⟨b_Vec_Root, b_Vec_Cost, b_Vec_Bridge, b_Vec_Port⟩, b_Hops, b_Left, b_Role, b_Wait, b_Open⟩).2.2)
  | _ => none

theorem r82 (a : Port) (b : Port) (n : Nat) : evFn ⟨prog, Hx, 82⟩ T96.call n Go.Proofs.Try.f82 [[.bool a.Up, .bool a.Has, .int .i64 a.Vec.Root, .int .i64 a.Vec.Cost, .int .i64 a.Vec.Bridge, .int .i64 a.Vec.Port, .int .i64 a.Hops, .int .i64 a.Left, .int .i64 a.Role, .int .i64 a.Wait, .bool a.Open], [.bool b.Up, .bool b.Has, .int .i64 b.Vec.Root, .int .i64 b.Vec.Cost, .int .i64 b.Vec.Bridge, .int .i64 b.Vec.Port, .int .i64 b.Hops, .int .i64 b.Left, .int .i64 b.Role, .int .i64 b.Wait, .bool b.Open]] = bif Port.Up a != Port.Up b then some ([[D.bool false]], []) else bif Port.Has a != Port.Has b then some ([[D.bool false]], []) else bif sameB (Port.Vec a) (Port.Vec b) then bif Port.Hops a != Port.Hops b then some ([[D.bool false]], []) else bif Port.Left a != Port.Left b then some ([[D.bool false]], []) else bif Port.Role a != Port.Role b then some ([[D.bool false]], []) else bif Port.Wait a != Port.Wait b then some ([[D.bool false]], []) else bif Port.Open a != Port.Open b then some ([[D.bool false]], []) else some ([[D.bool true]], []) else none := by kernel_rfl
theorem m82 (a : Port) (b : Port) (hpre : (o82 a b).1 = true) : evFn ⟨Go.Proofs.Try.prog, Hx, 82⟩ T96.call 0 Go.Proofs.Try.f82 [[.bool a.Up, .bool a.Has, .int .i64 a.Vec.Root, .int .i64 a.Vec.Cost, .int .i64 a.Vec.Bridge, .int .i64 a.Vec.Port, .int .i64 a.Hops, .int .i64 a.Left, .int .i64 a.Role, .int .i64 a.Wait, .bool a.Open], [.bool b.Up, .bool b.Has, .int .i64 b.Vec.Root, .int .i64 b.Vec.Cost, .int .i64 b.Vec.Bridge, .int .i64 b.Vec.Port, .int .i64 b.Hops, .int .i64 b.Left, .int .i64 b.Role, .int .i64 b.Wait, .bool b.Open]] = some (o82 a b).2 := by
  refine (r82 a b _).trans ?_
  show _ = (some ([[.bool (true)]], []) : Option (List Row × List Row))
  replace hpre : (sameB a b) = true := hpre
  have := sameB_eq hpre
  subst this
  simp only [bne_self_eq_false, cond_false, sameB_self, cond_true, Bool.not_true]
theorem s82 : SoundAt Go.Proofs.Try.prog Hx 82 c82 := soundAt_of T96_sound mixed Go.Proofs.Try.func82 (by kernel_rfl) (by
  intro rows r h
  unfold c82 at h
  split at h
  · rename_i a_Up a_Has a_Vec_Root a_Vec_Cost a_Vec_Bridge a_Vec_Port a_Hops a_Left a_Role a_Wait a_Open b_Up b_Has b_Vec_Root b_Vec_Cost b_Vec_Bridge b_Vec_Port b_Hops b_Left b_Role b_Wait b_Open
    obtain ⟨hp, hr⟩ := Prod.mk.inj (Option.some.inj h)
    subst hr
    exact ⟨_, m82 ⟨a_Up, a_Has, ⟨a_Vec_Root, a_Vec_Cost, a_Vec_Bridge, a_Vec_Port⟩, a_Hops, a_Left, a_Role, a_Wait, a_Open⟩ ⟨b_Up, b_Has, ⟨b_Vec_Root, b_Vec_Cost, b_Vec_Bridge, b_Vec_Port⟩, b_Hops, b_Left, b_Role, b_Wait, b_Open⟩ hp⟩
  · cases h)
def T82 : Table := (82, c82) :: T96
theorem T82_sound : Table.Sound Go.Proofs.Try.prog Hx T82 := Table.sound_cons s82 T96_sound
/- eqPortS -/
def o50 (a : List Port) (b : List Port) : Bool × List Row × List Row := (sameB a b && (decide (a.length ≤ 1048576)), [[.bool (true)]], [])
def c50 : Contract
  | [[.sl false 11 a], [.sl false 11 b]] => some (isS Port false a && isS Port false b && (o50 (deS Port a) (deS Port b)).1, (o50 (deS Port a) (deS Port b)).2.1, (o50 (deS Port a) (deS Port b)).2.2)
  | _ => none

def k50_0 (n : Nat) : Ex → St → RR := kThen (fun st ↦ runCode (Ctx.mk prog Hx (50)) (Table.call T82) n (codeAt [1, 1, 1] (bodyOf Go.Proofs.Try.f50)) (Lv.mk 16 [] 16) st (kLeave (Ctx.P (Ctx.mk prog Hx (50))) (List.zip (Array.toList (Go.Func.resultTypes Go.Proofs.Try.f50)) (Array.toList (Go.Func.results Go.Proofs.Try.f50))) [] [])) (kLeave (Ctx.P (Ctx.mk prog Hx (50))) (List.zip (Array.toList (Go.Func.resultTypes Go.Proofs.Try.f50)) (Array.toList (Go.Func.results Go.Proofs.Try.f50))) [] [])
def k50_1 (n : Nat) : Ex → St → RR := kBlock (0) (k50_0 n)
def S50_0 (a : List Port) (b : List Port) (i0 : Int) : St := St.mk [TV.v false [C.d (D.sl false 11 (enS false a))], TV.v false [C.d (D.sl false 11 (enS false b))], U_, U_, U_, I_ i0, U_, U_, U_, U_, U_, U_, U_, U_, U_, U_, U_, U_, U_, U_, U_, U_, U_, U_, U_, U_, U_] []
def B50_0 (n : Nat) : St → (Ex → St → RR) → RR := runCode (Ctx.mk prog Hx (50)) (Table.call T82) n (codeAt [1, 1, 0, 1, 0, 0] (bodyOf Go.Proofs.Try.f50)) (Lv.mk 35 [(0, 0)] 16)
def X50_2 (a : List Port) (b : List Port) (i0 : Int) : St := St.mk [TV.v false [C.d (D.sl false 11 (enS false a))], TV.v false [C.d (D.sl false 11 (enS false b))], U_, U_, U_, I_ i0, U_, U_, U_, U_, U_, I_ i0, TV.v false [C.d (D.sl false 11 (enS false a))], I_ (ofNat (length (enS false a))), B_ false, U_, U_, U_, U_, U_, U_, U_, U_, U_, U_, U_, U_] []
theorem q50_0 (a : List Port) (b : List Port) (n : Nat) (i0 : Int) (f : St → RR) (K : Ex → St → RR) : B50_0 n (S50_0 a b i0) (kThen (fun st ↦ f (St.head 0 35 134215728 st)) K) = bif decide (i0 < ofNat (length (enS false a))) then bif decide (0 ≤ i0) && decide (i0 < ofNat (length (enS false a))) then bif Leaf.fit false Leaf.bool (getD (getD (enS false a) (toNat i0) []) 0 D.dead) && (Leaf.fit false Leaf.bool (getD (getD (enS false a) (toNat i0) []) 1 D.dead) && (Leaf.fit false (Leaf.int i64) (getD (getD (enS false a) (toNat i0) []) 2 D.dead) && (Leaf.fit false (Leaf.int i64) (getD (getD (enS false a) (toNat i0) []) 3 D.dead) && (Leaf.fit false (Leaf.int i64) (getD (getD (enS false a) (toNat i0) []) 4 D.dead) && (Leaf.fit false (Leaf.int i64) (getD (getD (enS false a) (toNat i0) []) 5 D.dead) && (Leaf.fit false (Leaf.int i64) (getD (getD (enS false a) (toNat i0) []) 6 D.dead) && (Leaf.fit false (Leaf.int i64) (getD (getD (enS false a) (toNat i0) []) 7 D.dead) && (Leaf.fit false (Leaf.int i64) (getD (getD (enS false a) (toNat i0) []) 8 D.dead) && (Leaf.fit false (Leaf.int i64) (getD (getD (enS false a) (toNat i0) []) 9 D.dead) && (Leaf.fit false Leaf.bool (getD (getD (enS false a) (toNat i0) []) 10 D.dead) && true)))))))))) then bif decide (0 ≤ i0) && decide (i0 < ofNat (length (enS false b))) then bif Leaf.fit false Leaf.bool (getD (getD (enS false b) (toNat i0) []) 0 D.dead) && (Leaf.fit false Leaf.bool (getD (getD (enS false b) (toNat i0) []) 1 D.dead) && (Leaf.fit false (Leaf.int i64) (getD (getD (enS false b) (toNat i0) []) 2 D.dead) && (Leaf.fit false (Leaf.int i64) (getD (getD (enS false b) (toNat i0) []) 3 D.dead) && (Leaf.fit false (Leaf.int i64) (getD (getD (enS false b) (toNat i0) []) 4 D.dead) && (Leaf.fit false (Leaf.int i64) (getD (getD (enS false b) (toNat i0) []) 5 D.dead) && (Leaf.fit false (Leaf.int i64) (getD (getD (enS false b) (toNat i0) []) 6 D.dead) && (Leaf.fit false (Leaf.int i64) (getD (getD (enS false b) (toNat i0) []) 7 D.dead) && (Leaf.fit false (Leaf.int i64) (getD (getD (enS false b) (toNat i0) []) 8 D.dead) && (Leaf.fit false (Leaf.int i64) (getD (getD (enS false b) (toNat i0) []) 9 D.dead) && (Leaf.fit false Leaf.bool (getD (getD (enS false b) (toNat i0) []) 10 D.dead) && true)))))))))) then bif sameB (Port.mk (D.flag (getD (getD (enS false a) (toNat i0) []) 0 D.dead)) (D.flag (getD (getD (enS false a) (toNat i0) []) 1 D.dead)) (Vec.mk (D.num (getD (getD (enS false a) (toNat i0) []) 2 D.dead)) (D.num (getD (getD (enS false a) (toNat i0) []) 3 D.dead)) (D.num (getD (getD (enS false a) (toNat i0) []) 4 D.dead)) (D.num (getD (getD (enS false a) (toNat i0) []) 5 D.dead))) (D.num (getD (getD (enS false a) (toNat i0) []) 6 D.dead)) (D.num (getD (getD (enS false a) (toNat i0) []) 7 D.dead)) (D.num (getD (getD (enS false a) (toNat i0) []) 8 D.dead)) (D.num (getD (getD (enS false a) (toNat i0) []) 9 D.dead)) (D.flag (getD (getD (enS false a) (toNat i0) []) 10 D.dead))) (Port.mk (D.flag (getD (getD (enS false b) (toNat i0) []) 0 D.dead)) (D.flag (getD (getD (enS false b) (toNat i0) []) 1 D.dead)) (Vec.mk (D.num (getD (getD (enS false b) (toNat i0) []) 2 D.dead)) (D.num (getD (getD (enS false b) (toNat i0) []) 3 D.dead)) (D.num (getD (getD (enS false b) (toNat i0) []) 4 D.dead)) (D.num (getD (getD (enS false b) (toNat i0) []) 5 D.dead))) (D.num (getD (getD (enS false b) (toNat i0) []) 6 D.dead)) (D.num (getD (getD (enS false b) (toNat i0) []) 7 D.dead)) (D.num (getD (getD (enS false b) (toNat i0) []) 8 D.dead)) (D.num (getD (getD (enS false b) (toNat i0) []) 9 D.dead)) (D.flag (getD (getD (enS false b) (toNat i0) []) 10 D.dead))) then f (S50_0 a b (wrap i64 (i0 + 1))) else none else none else none else none else none else K (Ex.exit 0) (X50_2 a b i0) := by kernel_rfl
theorem aX50_2 (a : List Port) (b : List Port) (n : Nat) (i0 : Int) : k50_1 n (Ex.exit 0) (X50_2 a b i0) = some ([[D.bool true]], []) := by kernel_rfl
theorem r50 (a : List Port) (b : List Port) (n : Nat) : evFn ⟨prog, Hx, 50⟩ T82.call n Go.Proofs.Try.f50 [[.sl false 11 (enS false a)], [.sl false 11 (enS false b)]] = bif ofNat (length (enS false a)) != ofNat (length (enS false b)) then some ([[D.bool false]], []) else loopRun (B50_0 n) 0 35 134215728 n (S50_0 a b (0)) (k50_1 n) := by kernel_rfl
theorem m50 (a : List Port) (b : List Port) (hpre : (o50 a b).1 = true) : evFn ⟨Go.Proofs.Try.prog, Hx, 50⟩ T82.call (a.length + 1) Go.Proofs.Try.f50 [[.sl false 11 (enS false a)], [.sl false 11 (enS false b)]] = some (o50 a b).2 := by
  refine (r50 a b _).trans ?_
  show _ = (some ([[.bool (true)]], []) : Option (List Row × List Row))
  replace hpre : (sameB a b && (decide (a.length ≤ 1048576))) = true := hpre
  rw [Bool.and_eq_true] at hpre
  obtain ⟨h0, h1⟩ := hpre
  have hlen : a.length ≤ 1048576 := of_decide_eq_true h1
  have := sameB_eq h0
  subst this
  simp only [bne_self_eq_false, cond_false]
  refine loop_list (xs := a) (fun i (_ : Unit) => S50_0 a a (Int.ofNat i)) (fun _ _ => True) (fun _ _ _ => some ([[D.bool true]], [])) ?_ ?_ (a.length + 1) () (by omega) trivial
  · rintro _ _ f
    refine (q50_0 a a _ _ f _).trans ?_
    simp only [enS_length, dec_lt, Nat.lt_irrefl, decide_false, cond_false]
    exact aX50_2 a a _ _
  · rintro i _ hi _ f hf
    refine (q50_0 a a _ _ f _).trans ?_
    simp only [enS_length, toNat_of, dec_lt, dec_ge, enS_get _ hi, hi, wrap_succ (show i < 4611686018427387904 by omega), decide_true, cond_true, Bool.and_self, sameB_self, bne_self_eq_false, cond_false]
    exact hf () trivial
theorem s50 : SoundAt Go.Proofs.Try.prog Hx 50 c50 := soundAt_of T82_sound mixed Go.Proofs.Try.func50 (by kernel_rfl) (by
  intro rows r h
  unfold c50 at h
  split at h
  · rename_i a b
    obtain ⟨hp, hr⟩ := Prod.mk.inj (Option.some.inj h)
    subst hr
    simp only [Bool.and_eq_true] at hp
    obtain ⟨⟨hs0, hs1⟩, hp⟩ := hp
    obtain ⟨xs0, rfl⟩ := isS_ex hs0
    obtain ⟨xs1, rfl⟩ := isS_ex hs1
    simp only [deS_enS] at hp ⊢
    exact ⟨_, m50 xs0 xs1 hp⟩
  · cases h)
def T50 : Table := (50, c50) :: T82
theorem T50_sound : Table.Sound Go.Proofs.Try.prog Hx T50 := Table.sound_cons s50 T82_sound
/- eqBridge -/
def o15 (a : Bridge) (b : Bridge) : Bool × List Row × List Row := (sameB a b && (Bridge.small a), [[.bool (true)]], [])
def c15 : Contract
  | [[.int .i64 a_Id, .sl false 11 a_Ports], [.int .i64 b_Id, .sl false 11 b_Ports]] => some (isS Port false a_Ports && isS Port false b_Ports && (o15 ⟨a_Id, (deS Port a_Ports)⟩ ⟨b_Id, (deS Port b_Ports)⟩).1, (o15 ⟨a_Id, (deS Port a_Ports)⟩ ⟨b_Id, (deS Port b_Ports)⟩).2.1, (o15 ⟨a_Id, (deS Port a_Ports)⟩ ⟨b_Id, (deS Port b_Ports)⟩).2.2)
  | _ => none

theorem r15 (a : Bridge) (b : Bridge) (n : Nat) : evFn ⟨prog, Hx, 15⟩ T50.call n Go.Proofs.Try.f15 [[.int .i64 a.Id, .sl false 11 (enS false a.Ports)], [.int .i64 b.Id, .sl false 11 (enS false b.Ports)]] = bif Bridge.Id a != Bridge.Id b then some ([[D.bool false]], []) else bif isS Port false (enS false (Bridge.Ports a)) && isS Port false (enS false (Bridge.Ports b)) && (sameB (deS Port (enS false (Bridge.Ports a))) (deS Port (enS false (Bridge.Ports b))) && decide (length (deS Port (enS false (Bridge.Ports a))) ≤ 1048576)) then some ([[D.bool true]], []) else none := by kernel_rfl
theorem m15 (a : Bridge) (b : Bridge) (hpre : (o15 a b).1 = true) : evFn ⟨Go.Proofs.Try.prog, Hx, 15⟩ T50.call 0 Go.Proofs.Try.f15 [[.int .i64 a.Id, .sl false 11 (enS false a.Ports)], [.int .i64 b.Id, .sl false 11 (enS false b.Ports)]] = some (o15 a b).2 := by
  refine (r15 a b _).trans ?_
  show _ = (some ([[.bool (true)]], []) : Option (List Row × List Row))
  replace hpre : (sameB a b && (Bridge.small a)) = true := hpre
  rw [Bool.and_eq_true] at hpre
  obtain ⟨h0, h1⟩ := hpre
  have := sameB_eq h0
  subst this
  unfold Bridge.small at h1
  try simp only [Bool.and_eq_true] at h1
  simp only [h1, bne_self_eq_false, cond_false, cond_true, sameB_self, isS_enS, deS_enS, Bool.and_self, Bool.and_true, Bool.true_and, Bool.not_true]
  try rfl
theorem s15 : SoundAt Go.Proofs.Try.prog Hx 15 c15 := soundAt_of T50_sound mixed Go.Proofs.Try.func15 (by kernel_rfl) (by
  intro rows r h
  unfold c15 at h
  split at h
  · rename_i a_Id a_Ports b_Id b_Ports
    obtain ⟨hp, hr⟩ := Prod.mk.inj (Option.some.inj h)
    subst hr
    simp only [Bool.and_eq_true] at hp
    obtain ⟨⟨hs0, hs1⟩, hp⟩ := hp
    obtain ⟨xs0, rfl⟩ := isS_ex hs0
    obtain ⟨xs1, rfl⟩ := isS_ex hs1
    simp only [deS_enS] at hp ⊢
    exact ⟨_, m15 ⟨a_Id, xs0⟩ ⟨b_Id, xs1⟩ hp⟩
  · cases h)
def T15 : Table := (15, c15) :: T50
theorem T15_sound : Table.Sound Go.Proofs.Try.prog Hx T15 := Table.sound_cons s15 T50_sound
/- eqByteS -/
def o16 (a : List UInt8) (b : List UInt8) : Bool × List Row × List Row := (sameB a b && (decide (a.length ≤ 1048576)), [[.bool (true)]], [])
def c16 : Contract
  | [[.sl false 1 a], [.sl false 1 b]] => some (isS UInt8 false a && isS UInt8 false b && (o16 (deS UInt8 a) (deS UInt8 b)).1, (o16 (deS UInt8 a) (deS UInt8 b)).2.1, (o16 (deS UInt8 a) (deS UInt8 b)).2.2)
  | _ => none

def k16_0 (n : Nat) : Ex → St → RR := kThen (fun st ↦ runCode (Ctx.mk prog Hx (16)) (Table.call T15) n (codeAt [1, 1, 1] (bodyOf Go.Proofs.Try.f16)) (Lv.mk 16 [] 16) st (kLeave (Ctx.P (Ctx.mk prog Hx (16))) (List.zip (Array.toList (Go.Func.resultTypes Go.Proofs.Try.f16)) (Array.toList (Go.Func.results Go.Proofs.Try.f16))) [] [])) (kLeave (Ctx.P (Ctx.mk prog Hx (16))) (List.zip (Array.toList (Go.Func.resultTypes Go.Proofs.Try.f16)) (Array.toList (Go.Func.results Go.Proofs.Try.f16))) [] [])
def k16_1 (n : Nat) : Ex → St → RR := kBlock (0) (k16_0 n)
def S16_0 (a : List UInt8) (b : List UInt8) (i0 : Int) : St := St.mk [TV.v false [C.d (D.sl false 1 (enS false a))], TV.v false [C.d (D.sl false 1 (enS false b))], U_, U_, U_, I_ i0, U_, U_, U_, U_, U_, U_, U_, U_, U_, U_, U_, U_, U_, U_, U_, U_, U_, U_, U_, U_] []
def B16_0 (n : Nat) : St → (Ex → St → RR) → RR := runCode (Ctx.mk prog Hx (16)) (Table.call T15) n (codeAt [1, 1, 0, 1, 0, 0] (bodyOf Go.Proofs.Try.f16)) (Lv.mk 35 [(0, 0)] 16)
def X16_2 (a : List UInt8) (b : List UInt8) (i0 : Int) : St := St.mk [TV.v false [C.d (D.sl false 1 (enS false a))], TV.v false [C.d (D.sl false 1 (enS false b))], U_, U_, B_ false, I_ i0, U_, U_, U_, U_, U_, I_ i0, TV.v false [C.d (D.sl false 1 (enS false a))], I_ (ofNat (length (enS false a))), B_ true, U_, U_, TV.v false [C.d (D.sl false 1 (enS false a))], I_ i0, TV.v false [C.rptr (getD (enS false a) (toNat i0) [])], TV.v false [C.d (D.int IntKind.u8 (D.num (getD (getD (enS false a) (toNat i0) []) 0 D.dead)))], TV.v false [C.d (D.sl false 1 (enS false b))], I_ i0, TV.v false [C.rptr (getD (enS false b) (toNat i0) [])], TV.v false [C.d (D.int IntKind.u8 (D.num (getD (getD (enS false b) (toNat i0) []) 0 D.dead)))], B_ true] []
def X16_3 (a : List UInt8) (b : List UInt8) (i0 : Int) : St := St.mk [TV.v false [C.d (D.sl false 1 (enS false a))], TV.v false [C.d (D.sl false 1 (enS false b))], U_, U_, U_, I_ i0, U_, U_, U_, U_, U_, I_ i0, TV.v false [C.d (D.sl false 1 (enS false a))], I_ (ofNat (length (enS false a))), B_ false, U_, U_, U_, U_, U_, U_, U_, U_, U_, U_, U_] []
theorem q16_0 (a : List UInt8) (b : List UInt8) (n : Nat) (i0 : Int) (f : St → RR) (K : Ex → St → RR) : B16_0 n (S16_0 a b i0) (kThen (fun st ↦ f (St.head 0 35 67106864 st)) K) = bif decide (i0 < ofNat (length (enS false a))) then bif decide (0 ≤ i0) && decide (i0 < ofNat (length (enS false a))) then bif Leaf.fit false (Leaf.int IntKind.u8) (getD (getD (enS false a) (toNat i0) []) 0 D.dead) && true then bif decide (0 ≤ i0) && decide (i0 < ofNat (length (enS false b))) then bif Leaf.fit false (Leaf.int IntKind.u8) (getD (getD (enS false b) (toNat i0) []) 0 D.dead) && true then bif D.num (getD (getD (enS false a) (toNat i0) []) 0 D.dead) != D.num (getD (getD (enS false b) (toNat i0) []) 0 D.dead) then K Ex.ret (X16_2 a b i0) else f (S16_0 a b (wrap i64 (i0 + 1))) else none else none else none else none else K (Ex.exit 0) (X16_3 a b i0) := by kernel_rfl
theorem aX16_2 (a : List UInt8) (b : List UInt8) (n : Nat) (i0 : Int) : k16_1 n Ex.ret (X16_2 a b i0) = some ([[D.bool false]], []) := by kernel_rfl
theorem aX16_3 (a : List UInt8) (b : List UInt8) (n : Nat) (i0 : Int) : k16_1 n (Ex.exit 0) (X16_3 a b i0) = some ([[D.bool true]], []) := by kernel_rfl
theorem r16 (a : List UInt8) (b : List UInt8) (n : Nat) : evFn ⟨prog, Hx, 16⟩ T15.call n Go.Proofs.Try.f16 [[.sl false 1 (enS false a)], [.sl false 1 (enS false b)]] = bif ofNat (length (enS false a)) != ofNat (length (enS false b)) then some ([[D.bool false]], []) else loopRun (B16_0 n) 0 35 67106864 n (S16_0 a b (0)) (k16_1 n) := by kernel_rfl
theorem m16 (a : List UInt8) (b : List UInt8) (hpre : (o16 a b).1 = true) : evFn ⟨Go.Proofs.Try.prog, Hx, 16⟩ T15.call (a.length + 1) Go.Proofs.Try.f16 [[.sl false 1 (enS false a)], [.sl false 1 (enS false b)]] = some (o16 a b).2 := by
  refine (r16 a b _).trans ?_
  show _ = (some ([[.bool (true)]], []) : Option (List Row × List Row))
  replace hpre : (sameB a b && (decide (a.length ≤ 1048576))) = true := hpre
  rw [Bool.and_eq_true] at hpre
  obtain ⟨h0, h1⟩ := hpre
  have hlen : a.length ≤ 1048576 := of_decide_eq_true h1
  have := sameB_eq h0
  subst this
  simp only [bne_self_eq_false, cond_false]
  refine loop_list (xs := a) (fun i (_ : Unit) => S16_0 a a (Int.ofNat i)) (fun _ _ => True) (fun _ _ _ => some ([[D.bool true]], [])) ?_ ?_ (a.length + 1) () (by omega) trivial
  · rintro _ _ f
    refine (q16_0 a a _ _ f _).trans ?_
    simp only [enS_length, dec_lt, Nat.lt_irrefl, decide_false, cond_false]
    exact aX16_3 a a _ _
  · rintro i _ hi _ f hf
    refine (q16_0 a a _ _ f _).trans ?_
    simp only [enS_length, toNat_of, dec_lt, dec_ge, enS_get _ hi, hi, wrap_succ (show i < 4611686018427387904 by omega), decide_true, cond_true, Bool.and_self, sameB_self, bne_self_eq_false, cond_false]
    exact hf () trivial
theorem s16 : SoundAt Go.Proofs.Try.prog Hx 16 c16 := soundAt_of T15_sound mixed Go.Proofs.Try.func16 (by kernel_rfl) (by
  intro rows r h
  unfold c16 at h
  split at h
  · rename_i a b
    obtain ⟨hp, hr⟩ := Prod.mk.inj (Option.some.inj h)
    subst hr
    simp only [Bool.and_eq_true] at hp
    obtain ⟨⟨hs0, hs1⟩, hp⟩ := hp
    obtain ⟨xs0, rfl⟩ := isS_ex hs0
    obtain ⟨xs1, rfl⟩ := isS_ex hs1
    simp only [deS_enS] at hp ⊢
    exact ⟨_, m16 xs0 xs1 hp⟩
  · cases h)
def T16 : Table := (16, c16) :: T15
theorem T16_sound : Table.Sound Go.Proofs.Try.prog Hx T16 := Table.sound_cons s16 T15_sound
/- markByteS -/
def o17 (a : List UInt8) (k : Int) : Bool × List Row × List Row := (decide (0 ≤ k) && (decide (k + cntS oneN a ≤ 4611686018427387904) && decide (a.length ≤ 1152921504606846976)), [[.int .i64 (k + cntS oneN a)]], [[.sl true 1 (enS true (markS byteMk oneN a k))]])
def c17 : Contract
  | [[.sl true 1 a], [.int .i64 k]] => some (isS UInt8 true a && (o17 (deS UInt8 a) k).1, (o17 (deS UInt8 a) k).2.1, (o17 (deS UInt8 a) k).2.2)
  | _ => none

def k17_0 (n : Nat) : Ex → St → RR := kThen (fun st ↦ runCode (Ctx.mk prog Hx (17)) (Table.call T16) n (codeAt [1, 1] (bodyOf Go.Proofs.Try.f17)) (Lv.mk 16 [] 16) st (kLeave (Ctx.P (Ctx.mk prog Hx (17))) (List.zip (Array.toList (Go.Func.resultTypes Go.Proofs.Try.f17)) (Array.toList (Go.Func.results Go.Proofs.Try.f17))) [] [C.view 0 0 0 [] 1 none])) (kLeave (Ctx.P (Ctx.mk prog Hx (17))) (List.zip (Array.toList (Go.Func.resultTypes Go.Proofs.Try.f17)) (Array.toList (Go.Func.results Go.Proofs.Try.f17))) [] [C.view 0 0 0 [] 1 none])
def k17_1 (n : Nat) : Ex → St → RR := kBlock (0) (k17_0 n)
def S17_0 (i0 : Int) (i1 : Int) (es2 : List (List D)) : St := St.mk [TV.v false [C.view 0 0 0 [] 1 none], I_ i0, U_, U_, U_, I_ i1, U_, U_, U_, U_, U_, U_, U_, U_, U_, U_, U_, U_, U_, U_] [Root.mk false 1 es2 0 0 true true false]
def B17_0 (n : Nat) : St → (Ex → St → RR) → RR := runCode (Ctx.mk prog Hx (17)) (Table.call T16) n (codeAt [1, 0, 1, 0, 0] (bodyOf Go.Proofs.Try.f17)) (Lv.mk 35 [(0, 2)] 16)
def X17_2 (i0 : Int) (i1 : Int) (es2 : List (List D)) : St := St.mk [TV.v false [C.view 0 0 0 [] 1 none], I_ i0, U_, U_, U_, I_ i1, I_ i1, TV.v false [C.view 0 0 0 [] 1 none], I_ (ofNat (length es2)), B_ false, U_, U_, U_, U_, U_, U_, U_, U_, U_, U_] [Root.mk false 1 es2 0 0 true true false]
theorem q17_0 (n : Nat) (i0 : Int) (i1 : Int) (es2 : List (List D)) (f : St → RR) (K : Ex → St → RR) : B17_0 n (S17_0 i0 i1 es2) (kThen (fun st ↦ f (St.head 1 35 524258 st)) K) = bif decide (i1 < ofNat (length es2)) then bif decide (0 ≤ i1) && decide (i1 < ofNat (length es2)) then f (S17_0 (wrap i64 (i0 + 1)) (wrap i64 (i1 + 1)) (set es2 (0 + toNat i1) [D.int IntKind.u8 (wrap IntKind.u8 i0)])) else none else K (Ex.exit 0) (X17_2 i0 i1 es2) := by kernel_rfl
theorem aX17_2 (n : Nat) (i0 : Int) (i1 : Int) (es2 : List (List D)) : k17_1 n (Ex.exit 0) (X17_2 i0 i1 es2) = some ([[D.int i64 i0]], [[D.sl true 1 es2]]) := by kernel_rfl
theorem r17 (a : List UInt8) (k : Int) (n : Nat) : evFn ⟨prog, Hx, 17⟩ T16.call n Go.Proofs.Try.f17 [[.sl true 1 (enS true a)], [.int .i64 k]] = loopRun (B17_0 n) 1 35 524258 n (S17_0 k (0) (enS true a)) (k17_1 n) := by kernel_rfl
theorem m17 (a : List UInt8) (k : Int) (hpre : (o17 a k).1 = true) : evFn ⟨Go.Proofs.Try.prog, Hx, 17⟩ T16.call (a.length + 1) Go.Proofs.Try.f17 [[.sl true 1 (enS true a)], [.int .i64 k]] = some (o17 a k).2 := by
  refine (r17 a k _).trans ?_
  show _ = (some ([[.int .i64 (k + cntS oneN a)]], [[.sl true 1 (enS true (markS byteMk oneN a k))]]) : Option (List Row × List Row))
  replace hpre : (decide (0 ≤ k) && (decide (k + cntS oneN a ≤ 4611686018427387904) && decide (a.length ≤ 1152921504606846976))) = true := hpre
  simp only [Bool.and_eq_true, decide_eq_true_eq] at hpre
  obtain ⟨h0, h1, h2⟩ := hpre
  refine loop_list (xs := a) (fun i (v : List UInt8 × Int) => S17_0 v.2 (Int.ofNat i) (enS true (v.1 ++ a.drop i))) (fun i v => v.1.length = i ∧ 0 ≤ v.2 ∧ v.2 + cntS oneN (a.drop i) ≤ 4611686018427387904) (fun _ v rest => some ([[D.int .i64 (v.2 + cntS oneN rest)]], [[D.sl true 1 (enS true (v.1 ++ markS byteMk oneN rest v.2))]])) ?_ ?_ (a.length + 1) ([], k) (by omega) ⟨rfl, h0, h1⟩
  · rintro ⟨pre, k⟩ ⟨hl, hk0, hk1⟩ f
    refine (q17_0 _ _ _ _ f _).trans ?_
    simp only [enS_length, List.drop_length, List.append_nil, hl, dec_lt, Nat.lt_irrefl, decide_false, cond_false]
    refine (aX17_2 _ _ _ _).trans ?_
    simp only [List.append_nil, cntS, markS, Int.add_zero]
  · rintro i ⟨pre, k⟩ hi ⟨hl, hk0, hk1⟩ f hf
    simp only at hl hk0 hk1
    rw [List.drop_eq_getElem_cons hi] at hk1
    generalize hx : a[i] = x at hk1 ⊢
    have hc := cntS_nonneg (n := oneN) oneN_pos (a.drop (i + 1))
    have hn : oneN x = 1 := rfl
    simp only [cntS, hn] at hk1
    refine (q17_0 _ _ _ _ f _).trans ?_
    rw [List.drop_eq_getElem_cons hi, hx]
    have hm := mid_get pre x (a.drop (i + 1)) hl
    have hat := mid_at pre x (a.drop (i + 1)) hl hm
    have hs : ∀ R, ((enS true (pre ++ x :: a.drop (i + 1))).set i R).getD i [] = R := fun R => getD_set_same _ _ _ _ (by rw [enS_length]; exact hm)
    simp only [List.length_set, enS_length, toNat_of, Nat.zero_add, dec_lt, dec_ge, hm, hs, List.set_set, enS_get _ hm, hat, decide_true, cond_true, Bool.and_self, wrap_succ (show i < 4611686018427387904 by omega), En.enc, List.append_eq, List.take_succ_cons, List.take_zero, List.drop_succ_cons, List.drop_zero, List.cons_append, List.nil_append]
    have hw1 : IntKind.wrap IntKind.i64 (k + 1) = k + 1 := wrap_le (by omega) (by omega)
    simp only [hw1]
    have he : k + 1 = k + oneN x := by omega
    rw [← u8_wrap k]
    refine (congrArg f (congrArg (S17_0 _ _) ((enS_set true _ i (byteMk x k)).trans (congrArg (enS true) (mid_set pre x _ _ hl))))).trans ?_
    refine (hf (pre ++ [byteMk x k], k + 1) ⟨by simp [hl], by simp only; omega, by simp only; omega⟩).trans ?_
    show _ = some ([[D.int .i64 (k + (oneN x + cntS oneN (a.drop (i + 1))))]], [[D.sl true 1 (enS true (pre ++ (byteMk x k :: markS byteMk oneN (a.drop (i + 1)) (k + oneN x))))]])
    rw [he, List.append_assoc, List.singleton_append, Int.add_assoc]
theorem s17 : SoundAt Go.Proofs.Try.prog Hx 17 c17 := soundAt_of T16_sound mixed Go.Proofs.Try.func17 (by kernel_rfl) (by
  intro rows r h
  unfold c17 at h
  split at h
  · rename_i a k
    obtain ⟨hp, hr⟩ := Prod.mk.inj (Option.some.inj h)
    subst hr
    simp only [Bool.and_eq_true] at hp
    obtain ⟨hs0, hp⟩ := hp
    obtain ⟨xs0, rfl⟩ := isS_ex hs0
    simp only [deS_enS] at hp ⊢
    exact ⟨_, m17 xs0 k hp⟩
  · cases h)
def T17 : Table := (17, c17) :: T16
theorem T17_sound : Table.Sound Go.Proofs.Try.prog Hx T17 := Table.sound_cons s17 T16_sound
/- markPortS -/
def o51 (a : List Port) (k : Int) : Bool × List Row × List Row := (decide (0 ≤ k) && (decide (k + cntS Port.n_ a ≤ 4611686018427387904) && decide (a.length ≤ 1152921504606846976)), [[.int .i64 (k + cntS Port.n_ a)]], [[.sl true 11 (enS true (markS Port.mk_ Port.n_ a k))]])
def c51 : Contract
  | [[.sl true 11 a], [.int .i64 k]] => some (isS Port true a && (o51 (deS Port a) k).1, (o51 (deS Port a) k).2.1, (o51 (deS Port a) k).2.2)
  | _ => none

def k51_0 (n : Nat) : Ex → St → RR := kThen (fun st ↦ runCode (Ctx.mk prog Hx (51)) (Table.call T17) n (codeAt [1, 1] (bodyOf Go.Proofs.Try.f51)) (Lv.mk 16 [] 16) st (kLeave (Ctx.P (Ctx.mk prog Hx (51))) (List.zip (Array.toList (Go.Func.resultTypes Go.Proofs.Try.f51)) (Array.toList (Go.Func.results Go.Proofs.Try.f51))) [] [C.view 0 0 0 [] 11 none])) (kLeave (Ctx.P (Ctx.mk prog Hx (51))) (List.zip (Array.toList (Go.Func.resultTypes Go.Proofs.Try.f51)) (Array.toList (Go.Func.results Go.Proofs.Try.f51))) [] [C.view 0 0 0 [] 11 none])
def k51_1 (n : Nat) : Ex → St → RR := kBlock (0) (k51_0 n)
def S51_0 (i0 : Int) (i1 : Int) (es2 : List (List D)) : St := St.mk [TV.v false [C.view 0 0 0 [] 11 none], I_ i0, U_, U_, U_, I_ i1, U_, U_, U_, U_, U_, U_, U_, U_, U_, U_, U_, U_, U_, U_, U_, U_, U_, U_, U_, U_, U_, U_, U_, U_, U_, U_, U_, U_, U_, U_, U_, U_, U_, U_, U_, U_, U_, U_, U_, U_, U_, U_, U_, U_, U_, U_, U_, U_, U_, U_, U_, U_, U_, U_, U_, U_, U_, U_, U_, U_, U_, U_, U_, U_, U_, U_, U_, U_, U_, U_, U_, U_, U_, U_, U_, U_, U_, U_, U_, U_, U_, U_, U_, U_, U_, U_, U_, U_, U_, U_, U_, U_, U_, U_] [Root.mk false 11 es2 0 0 true true false]
def B51_0 (n : Nat) : St → (Ex → St → RR) → RR := runCode (Ctx.mk prog Hx (51)) (Table.call T17) n (codeAt [1, 0, 1, 0, 0] (bodyOf Go.Proofs.Try.f51)) (Lv.mk 35 [(0, 2)] 16)
def X51_2 (i0 : Int) (i1 : Int) (es2 : List (List D)) : St := St.mk [TV.v false [C.view 0 0 0 [] 11 none], I_ i0, U_, U_, U_, I_ i1, I_ i1, TV.v false [C.view 0 0 0 [] 11 none], I_ (ofNat (length es2)), B_ false, U_, U_, U_, U_, U_, U_, U_, U_, U_, U_, U_, U_, U_, U_, U_, U_, U_, U_, U_, U_, U_, U_, U_, U_, U_, U_, U_, U_, U_, U_, U_, U_, U_, U_, U_, U_, U_, U_, U_, U_, U_, U_, U_, U_, U_, U_, U_, U_, U_, U_, U_, U_, U_, U_, U_, U_, U_, U_, U_, U_, U_, U_, U_, U_, U_, U_, U_, U_, U_, U_, U_, U_, U_, U_, U_, U_, U_, U_, U_, U_, U_, U_, U_, U_, U_, U_, U_, U_, U_, U_] [Root.mk false 11 es2 0 0 true true false]
def w51_3 (i0 : Int) (i1 : Int) (es2 : List (List D)) : List (List D) := set es2 (0 + toNat i1) (D.bool (Int.tmod i0 (3) == 0) :: drop 1 (getD es2 (0 + toNat i1) []))
def w51_4 (i0 : Int) (i1 : Int) (es2 : List (List D)) : List (List D) := set (w51_3 i0 i1 es2) (0 + toNat i1) (append (append (take 1 (getD (w51_3 i0 i1 es2) (0 + toNat i1) [])) [D.bool (Int.tmod (wrap i64 (i0 + 1)) (3) == 0)]) (drop 2 (getD (w51_3 i0 i1 es2) (0 + toNat i1) [])))
def w51_5 (i0 : Int) (i1 : Int) (es2 : List (List D)) : List (List D) := set (w51_4 i0 i1 es2) (0 + toNat i1) (append (append (take 2 (getD (w51_4 i0 i1 es2) (0 + toNat i1) [])) [D.int i64 (wrap i64 (wrap i64 (i0 + 1) + 1))]) (drop 3 (getD (w51_4 i0 i1 es2) (0 + toNat i1) [])))
def w51_6 (i0 : Int) (i1 : Int) (es2 : List (List D)) : List (List D) := set (w51_5 i0 i1 es2) (0 + toNat i1) (append (append (take 3 (getD (w51_5 i0 i1 es2) (0 + toNat i1) [])) [D.int i64 (wrap i64 (wrap i64 (wrap i64 (i0 + 1) + 1) + 1))]) (drop 4 (getD (w51_5 i0 i1 es2) (0 + toNat i1) [])))
def w51_7 (i0 : Int) (i1 : Int) (es2 : List (List D)) : List (List D) := set (w51_6 i0 i1 es2) (0 + toNat i1) (append (append (take 4 (getD (w51_6 i0 i1 es2) (0 + toNat i1) [])) [D.int i64 (wrap i64 (wrap i64 (wrap i64 (wrap i64 (i0 + 1) + 1) + 1) + 1))]) (drop 5 (getD (w51_6 i0 i1 es2) (0 + toNat i1) [])))
def w51_8 (i0 : Int) (i1 : Int) (es2 : List (List D)) : List (List D) := set (w51_7 i0 i1 es2) (0 + toNat i1) (append (append (take 5 (getD (w51_7 i0 i1 es2) (0 + toNat i1) [])) [D.int i64 (wrap i64 (wrap i64 (wrap i64 (wrap i64 (wrap i64 (i0 + 1) + 1) + 1) + 1) + 1))]) (drop 6 (getD (w51_7 i0 i1 es2) (0 + toNat i1) [])))
def w51_9 (i0 : Int) (i1 : Int) (es2 : List (List D)) : List (List D) := set (w51_8 i0 i1 es2) (0 + toNat i1) (append (append (take 6 (getD (w51_8 i0 i1 es2) (0 + toNat i1) [])) [D.int i64 (wrap i64 (wrap i64 (wrap i64 (wrap i64 (wrap i64 (wrap i64 (i0 + 1) + 1) + 1) + 1) + 1) + 1))]) (drop 7 (getD (w51_8 i0 i1 es2) (0 + toNat i1) [])))
def w51_10 (i0 : Int) (i1 : Int) (es2 : List (List D)) : List (List D) := set (w51_9 i0 i1 es2) (0 + toNat i1) (append (append (take 7 (getD (w51_9 i0 i1 es2) (0 + toNat i1) [])) [D.int i64 (wrap i64 (wrap i64 (wrap i64 (wrap i64 (wrap i64 (wrap i64 (wrap i64 (i0 + 1) + 1) + 1) + 1) + 1) + 1) + 1))]) (drop 8 (getD (w51_9 i0 i1 es2) (0 + toNat i1) [])))
def w51_11 (i0 : Int) (i1 : Int) (es2 : List (List D)) : List (List D) := set (w51_10 i0 i1 es2) (0 + toNat i1) (append (append (take 8 (getD (w51_10 i0 i1 es2) (0 + toNat i1) [])) [D.int i64 (wrap i64 (wrap i64 (wrap i64 (wrap i64 (wrap i64 (wrap i64 (wrap i64 (wrap i64 (i0 + 1) + 1) + 1) + 1) + 1) + 1) + 1) + 1))]) (drop 9 (getD (w51_10 i0 i1 es2) (0 + toNat i1) [])))
def w51_12 (i0 : Int) (i1 : Int) (es2 : List (List D)) : List (List D) := set (w51_11 i0 i1 es2) (0 + toNat i1) (append (append (take 9 (getD (w51_11 i0 i1 es2) (0 + toNat i1) [])) [D.int i64 (wrap i64 (wrap i64 (wrap i64 (wrap i64 (wrap i64 (wrap i64 (wrap i64 (wrap i64 (wrap i64 (i0 + 1) + 1) + 1) + 1) + 1) + 1) + 1) + 1) + 1))]) (drop 10 (getD (w51_11 i0 i1 es2) (0 + toNat i1) [])))
theorem q51_0 (n : Nat) (i0 : Int) (i1 : Int) (es2 : List (List D)) (f : St → RR) (K : Ex → St → RR) : B51_0 n (S51_0 i0 i1 es2) (kThen (fun st ↦ f (St.head 1 35 633825300114114700748351602658 st)) K) = bif decide (i1 < ofNat (length es2)) then bif decide (0 ≤ i1) && decide (i1 < ofNat (length es2)) then bif decide (0 ≤ i1) && decide (i1 < ofNat (length (w51_3 i0 i1 es2))) then bif decide (0 ≤ i1) && decide (i1 < ofNat (length (w51_4 i0 i1 es2))) then bif decide (0 ≤ i1) && decide (i1 < ofNat (length (w51_5 i0 i1 es2))) then bif decide (0 ≤ i1) && decide (i1 < ofNat (length (w51_6 i0 i1 es2))) then bif decide (0 ≤ i1) && decide (i1 < ofNat (length (w51_7 i0 i1 es2))) then bif decide (0 ≤ i1) && decide (i1 < ofNat (length (w51_8 i0 i1 es2))) then bif decide (0 ≤ i1) && decide (i1 < ofNat (length (w51_9 i0 i1 es2))) then bif decide (0 ≤ i1) && decide (i1 < ofNat (length (w51_10 i0 i1 es2))) then bif decide (0 ≤ i1) && decide (i1 < ofNat (length (w51_11 i0 i1 es2))) then bif decide (0 ≤ i1) && decide (i1 < ofNat (length (w51_12 i0 i1 es2))) then f (S51_0 (wrap i64 (wrap i64 (wrap i64 (wrap i64 (wrap i64 (wrap i64 (wrap i64 (wrap i64 (wrap i64 (wrap i64 (wrap i64 (i0 + 1) + 1) + 1) + 1) + 1) + 1) + 1) + 1) + 1) + 1) + 1)) (wrap i64 (i1 + 1)) (set (w51_12 i0 i1 es2) (0 + toNat i1) (append (append (take 10 (getD (w51_12 i0 i1 es2) (0 + toNat i1) [])) [D.bool (Int.tmod (wrap i64 (wrap i64 (wrap i64 (wrap i64 (wrap i64 (wrap i64 (wrap i64 (wrap i64 (wrap i64 (wrap i64 (i0 + 1) + 1) + 1) + 1) + 1) + 1) + 1) + 1) + 1) + 1)) (3) == 0)]) (drop 11 (getD (w51_12 i0 i1 es2) (0 + toNat i1) []))))) else none else none else none else none else none else none else none else none else none else none else none else K (Ex.exit 0) (X51_2 i0 i1 es2) := by kernel_rfl
theorem aX51_2 (n : Nat) (i0 : Int) (i1 : Int) (es2 : List (List D)) : k51_1 n (Ex.exit 0) (X51_2 i0 i1 es2) = some ([[D.int i64 i0]], [[D.sl true 11 es2]]) := by kernel_rfl
theorem r51 (a : List Port) (k : Int) (n : Nat) : evFn ⟨prog, Hx, 51⟩ T17.call n Go.Proofs.Try.f51 [[.sl true 11 (enS true a)], [.int .i64 k]] = loopRun (B51_0 n) 1 35 633825300114114700748351602658 n (S51_0 k (0) (enS true a)) (k51_1 n) := by kernel_rfl
theorem m51 (a : List Port) (k : Int) (hpre : (o51 a k).1 = true) : evFn ⟨Go.Proofs.Try.prog, Hx, 51⟩ T17.call (a.length + 1) Go.Proofs.Try.f51 [[.sl true 11 (enS true a)], [.int .i64 k]] = some (o51 a k).2 := by
  refine (r51 a k _).trans ?_
  show _ = (some ([[.int .i64 (k + cntS Port.n_ a)]], [[.sl true 11 (enS true (markS Port.mk_ Port.n_ a k))]]) : Option (List Row × List Row))
  replace hpre : (decide (0 ≤ k) && (decide (k + cntS Port.n_ a ≤ 4611686018427387904) && decide (a.length ≤ 1152921504606846976))) = true := hpre
  simp only [Bool.and_eq_true, decide_eq_true_eq] at hpre
  obtain ⟨h0, h1, h2⟩ := hpre
  refine loop_list (xs := a) (fun i (v : List Port × Int) => S51_0 v.2 (Int.ofNat i) (enS true (v.1 ++ a.drop i))) (fun i v => v.1.length = i ∧ 0 ≤ v.2 ∧ v.2 + cntS Port.n_ (a.drop i) ≤ 4611686018427387904) (fun _ v rest => some ([[D.int .i64 (v.2 + cntS Port.n_ rest)]], [[D.sl true 11 (enS true (v.1 ++ markS Port.mk_ Port.n_ rest v.2))]])) ?_ ?_ (a.length + 1) ([], k) (by omega) ⟨rfl, h0, h1⟩
  · rintro ⟨pre, k⟩ ⟨hl, hk0, hk1⟩ f
    refine (q51_0 _ _ _ _ f _).trans ?_
    simp only [enS_length, List.drop_length, List.append_nil, hl, dec_lt, Nat.lt_irrefl, decide_false, cond_false]
    refine (aX51_2 _ _ _ _).trans ?_
    simp only [List.append_nil, cntS, markS, Int.add_zero]
  · rintro i ⟨pre, k⟩ hi ⟨hl, hk0, hk1⟩ f hf
    simp only at hl hk0 hk1
    rw [List.drop_eq_getElem_cons hi] at hk1
    generalize hx : a[i] = x at hk1 ⊢
    have hc := cntS_nonneg (n := Port.n_) Port.n_pos (a.drop (i + 1))
    have hn : Port.n_ x = 11 := rfl
    simp only [cntS, hn] at hk1
    refine (q51_0 _ _ _ _ f _).trans ?_
    rw [List.drop_eq_getElem_cons hi, hx]
    have hm := mid_get pre x (a.drop (i + 1)) hl
    have hat := mid_at pre x (a.drop (i + 1)) hl hm
    have hs : ∀ R, ((enS true (pre ++ x :: a.drop (i + 1))).set i R).getD i [] = R := fun R => getD_set_same _ _ _ _ (by rw [enS_length]; exact hm)
    simp only [w51_3, w51_4, w51_5, w51_6, w51_7, w51_8, w51_9, w51_10, w51_11, w51_12, List.length_set, enS_length, toNat_of, Nat.zero_add, dec_lt, dec_ge, hm, hs, List.set_set, enS_get _ hm, hat, decide_true, cond_true, Bool.and_self, wrap_succ (show i < 4611686018427387904 by omega), En.enc, List.append_eq, List.take_succ_cons, List.take_zero, List.drop_succ_cons, List.drop_zero, List.cons_append, List.nil_append]
    have hw1 : IntKind.wrap IntKind.i64 (k + 1) = k + 1 := wrap_le (by omega) (by omega)
    have hw2 : IntKind.wrap IntKind.i64 (k + 1 + 1) = k + 1 + 1 := wrap_le (by omega) (by omega)
    have hw3 : IntKind.wrap IntKind.i64 (k + 1 + 1 + 1) = k + 1 + 1 + 1 := wrap_le (by omega) (by omega)
    have hw4 : IntKind.wrap IntKind.i64 (k + 1 + 1 + 1 + 1) = k + 1 + 1 + 1 + 1 := wrap_le (by omega) (by omega)
    have hw5 : IntKind.wrap IntKind.i64 (k + 1 + 1 + 1 + 1 + 1) = k + 1 + 1 + 1 + 1 + 1 := wrap_le (by omega) (by omega)
    have hw6 : IntKind.wrap IntKind.i64 (k + 1 + 1 + 1 + 1 + 1 + 1) = k + 1 + 1 + 1 + 1 + 1 + 1 := wrap_le (by omega) (by omega)
    have hw7 : IntKind.wrap IntKind.i64 (k + 1 + 1 + 1 + 1 + 1 + 1 + 1) = k + 1 + 1 + 1 + 1 + 1 + 1 + 1 := wrap_le (by omega) (by omega)
    have hw8 : IntKind.wrap IntKind.i64 (k + 1 + 1 + 1 + 1 + 1 + 1 + 1 + 1) = k + 1 + 1 + 1 + 1 + 1 + 1 + 1 + 1 := wrap_le (by omega) (by omega)
    have hw9 : IntKind.wrap IntKind.i64 (k + 1 + 1 + 1 + 1 + 1 + 1 + 1 + 1 + 1) = k + 1 + 1 + 1 + 1 + 1 + 1 + 1 + 1 + 1 := wrap_le (by omega) (by omega)
    have hw10 : IntKind.wrap IntKind.i64 (k + 1 + 1 + 1 + 1 + 1 + 1 + 1 + 1 + 1 + 1) = k + 1 + 1 + 1 + 1 + 1 + 1 + 1 + 1 + 1 + 1 := wrap_le (by omega) (by omega)
    have hw11 : IntKind.wrap IntKind.i64 (k + 1 + 1 + 1 + 1 + 1 + 1 + 1 + 1 + 1 + 1 + 1) = k + 1 + 1 + 1 + 1 + 1 + 1 + 1 + 1 + 1 + 1 + 1 := wrap_le (by omega) (by omega)
    simp only [hw1, hw2, hw3, hw4, hw5, hw6, hw7, hw8, hw9, hw10, hw11]
    have he : k + 1 + 1 + 1 + 1 + 1 + 1 + 1 + 1 + 1 + 1 + 1 = k + Port.n_ x := by omega
    skip
    refine (congrArg f (congrArg (S51_0 _ _) ((enS_set true _ i (Port.mk_ x k)).trans (congrArg (enS true) (mid_set pre x _ _ hl))))).trans ?_
    refine (hf (pre ++ [Port.mk_ x k], k + 1 + 1 + 1 + 1 + 1 + 1 + 1 + 1 + 1 + 1 + 1) ⟨by simp [hl], by simp only; omega, by simp only; omega⟩).trans ?_
    show _ = some ([[D.int .i64 (k + (Port.n_ x + cntS Port.n_ (a.drop (i + 1))))]], [[D.sl true 11 (enS true (pre ++ (Port.mk_ x k :: markS Port.mk_ Port.n_ (a.drop (i + 1)) (k + Port.n_ x))))]])
    rw [he, List.append_assoc, List.singleton_append, Int.add_assoc]
theorem s51 : SoundAt Go.Proofs.Try.prog Hx 51 c51 := soundAt_of T17_sound mixed Go.Proofs.Try.func51 (by kernel_rfl) (by
  intro rows r h
  unfold c51 at h
  split at h
  · rename_i a k
    obtain ⟨hp, hr⟩ := Prod.mk.inj (Option.some.inj h)
    subst hr
    simp only [Bool.and_eq_true] at hp
    obtain ⟨hs0, hp⟩ := hp
    obtain ⟨xs0, rfl⟩ := isS_ex hs0
    simp only [deS_enS] at hp ⊢
    exact ⟨_, m51 xs0 k hp⟩
  · cases h)
def T51 : Table := (51, c51) :: T17
theorem T51_sound : Table.Sound Go.Proofs.Try.prog Hx T51 := Table.sound_cons s51 T17_sound
/- markBridge -/
def o18 (a : Bridge) (k : Int) : Bool × List Row × List Row := (decide (0 ≤ k) && (decide (k + Bridge.nTop a ≤ 4611686018427387904) && (decide (a.Ports.length ≤ 1152921504606846976))), [[.int .i64 (k + Bridge.nTop a)]], [[.int .i64 (Bridge.mkTop a k).Id, .sl true 11 (enS true (Bridge.mkTop a k).Ports)]])
def c18 : Contract
  | [[.int .i64 a_Id, .sl true 11 a_Ports], [.int .i64 k]] => some (isS Port true a_Ports && (o18 ⟨a_Id, (deS Port a_Ports)⟩ k).1, (o18 ⟨a_Id, (deS Port a_Ports)⟩ k).2.1, (o18 ⟨a_Id, (deS Port a_Ports)⟩ k).2.2)
  | _ => none

theorem r18 (a : Bridge) (k : Int) (n : Nat) : evFn ⟨prog, Hx, 18⟩ T51.call n Go.Proofs.Try.f18 [[.int .i64 a.Id, .sl true 11 (enS true a.Ports)], [.int .i64 k]] = bif isS Port true (enS true (Bridge.Ports a)) && (decide (0 ≤ k) && (decide (k + cntS Port.n_ (deS Port (enS true (Bridge.Ports a))) ≤ 4611686018427387904) && decide (length (deS Port (enS true (Bridge.Ports a))) ≤ 1152921504606846976))) then some ([[D.int i64 (k + cntS Port.n_ (deS Port (enS true (Bridge.Ports a))))]], [[D.int i64 (Bridge.Id a), D.sl true 11 (enS true (markS Port.mk_ Port.n_ (deS Port (enS true (Bridge.Ports a))) k))]]) else none := by kernel_rfl
theorem m18 (a : Bridge) (k : Int) (hpre : (o18 a k).1 = true) : evFn ⟨Go.Proofs.Try.prog, Hx, 18⟩ T51.call 0 Go.Proofs.Try.f18 [[.int .i64 a.Id, .sl true 11 (enS true a.Ports)], [.int .i64 k]] = some (o18 a k).2 := by
  refine (r18 a k _).trans ?_
  show _ = (some ([[.int .i64 (k + Bridge.nTop a)]], [[.int .i64 (Bridge.mkTop a k).Id, .sl true 11 (enS true (Bridge.mkTop a k).Ports)]]) : Option (List Row × List Row))
  replace hpre : (decide (0 ≤ k) && (decide (k + Bridge.nTop a ≤ 4611686018427387904) && (decide (a.Ports.length ≤ 1152921504606846976)))) = true := hpre
  simp only [Bool.and_eq_true] at hpre
  obtain ⟨h0, h1, h2⟩ := hpre
  have h0' := of_decide_eq_true h0
  have h1' := of_decide_eq_true h1
  unfold Bridge.nTop at h1'
  have p0 : 0 ≤ cntS Port.n_ a.Ports := cntS_nonneg Port.n_pos a.Ports
  have g0 : decide (0 ≤ k) = true := decide_eq_true (by omega)
  have f0 : decide (k + cntS Port.n_ a.Ports ≤ 4611686018427387904) = true := decide_eq_true (by omega)
  have d0 : decide (k + cntS Port.n_ a.Ports < 0) = false := decide_eq_false (by omega)
  simp only [g0, f0, d0, h2, isS_enS, deS_enS, sameB_self, cond_true, cond_false, Bool.and_self, Bool.and_true, Bool.true_and, Bridge.mkTop, Bridge.nTop]
  try rfl
theorem s18 : SoundAt Go.Proofs.Try.prog Hx 18 c18 := soundAt_of T51_sound mixed Go.Proofs.Try.func18 (by kernel_rfl) (by
  intro rows r h
  unfold c18 at h
  split at h
  · rename_i a_Id a_Ports k
    obtain ⟨hp, hr⟩ := Prod.mk.inj (Option.some.inj h)
    subst hr
    simp only [Bool.and_eq_true] at hp
    obtain ⟨hs0, hp⟩ := hp
    obtain ⟨xs0, rfl⟩ := isS_ex hs0
    simp only [deS_enS] at hp ⊢
    exact ⟨_, m18 ⟨a_Id, xs0⟩ k hp⟩
  · cases h)
def T18 : Table := (18, c18) :: T51
theorem T18_sound : Table.Sound Go.Proofs.Try.prog Hx T18 := Table.sound_cons s18 T51_sound
/- heldPortS -/
def o52 (a : List Port) (k : Int) : Bool × List Row × List Row := (sameB (markS Port.mk_ Port.n_ a k) a && (decide (0 ≤ k) && (decide (k + cntS Port.n_ a ≤ 4611686018427387904) && decide (a.length ≤ 1152921504606846976))), [[.int .i64 (k + cntS Port.n_ a)]], [])
def c52 : Contract
  | [[.sl false 11 a], [.int .i64 k]] => some (isS Port false a && (o52 (deS Port a) k).1, (o52 (deS Port a) k).2.1, (o52 (deS Port a) k).2.2)
  | _ => none

def k52_0 (n : Nat) : Ex → St → RR := kThen (fun st ↦ runCode (Ctx.mk prog Hx (52)) (Table.call T18) n (codeAt [1, 1] (bodyOf Go.Proofs.Try.f52)) (Lv.mk 16 [] 16) st (kLeave (Ctx.P (Ctx.mk prog Hx (52))) (List.zip (Array.toList (Go.Func.resultTypes Go.Proofs.Try.f52)) (Array.toList (Go.Func.results Go.Proofs.Try.f52))) [] [])) (kLeave (Ctx.P (Ctx.mk prog Hx (52))) (List.zip (Array.toList (Go.Func.resultTypes Go.Proofs.Try.f52)) (Array.toList (Go.Func.results Go.Proofs.Try.f52))) [] [])
def k52_1 (n : Nat) : Ex → St → RR := kBlock (0) (k52_0 n)
def S52_0 (a : List Port) (i0 : Int) (i1 : Int) : St := St.mk [TV.v false [C.d (D.sl false 11 (enS false a))], I_ i0, U_, U_, U_, I_ i1, U_, U_, U_, U_, U_, U_, U_, U_, U_, U_, U_, U_, U_, U_, U_, U_, U_, U_, U_, U_, U_, U_, U_, U_, U_, U_, U_, U_, U_, U_, U_, U_, U_, U_, U_, U_, U_, U_, U_, U_, U_, U_, U_, U_, U_, U_, U_, U_, U_, U_, U_, U_, U_, U_, U_, U_, U_, U_, U_, U_, U_, U_, U_, U_, U_, U_, U_, U_, U_, U_, U_, U_, U_, U_, U_, U_, U_, U_, U_, U_, U_, U_, U_, U_, U_, U_, U_, U_, U_, U_, U_, U_, U_, U_, U_, U_, U_, U_, U_, U_, U_, U_, U_, U_, U_, U_, U_, U_, U_, U_, U_, U_, U_, U_, U_, U_] []
def B52_0 (n : Nat) : St → (Ex → St → RR) → RR := runCode (Ctx.mk prog Hx (52)) (Table.call T18) n (codeAt [1, 0, 1, 0, 0] (bodyOf Go.Proofs.Try.f52)) (Lv.mk 35 [(0, 2)] 16)
def X52_2 (a : List Port) (i0 : Int) (i1 : Int) : St := St.mk [TV.v false [C.d (D.sl false 11 (enS false a))], I_ i0, U_, U_, I_ (Int.negSucc 0), I_ i1, I_ i1, TV.v false [C.d (D.sl false 11 (enS false a))], I_ (ofNat (length (enS false a))), B_ true, U_, U_, TV.v false [C.d (D.sl false 11 (enS false a))], I_ i1, TV.v false [C.rptr (getD (enS false a) (toNat i1) [])], TV.v false [C.rptr (getD (enS false a) (toNat i1) [])], B_ (D.flag (getD (getD (enS false a) (toNat i1) []) 0 D.dead)), I_ i0, I_ (Int.tmod i0 (3)), B_ (Int.tmod i0 (3) == 0), B_ true, U_, U_, U_, U_, U_, U_, U_, U_, U_, U_, U_, U_, U_, U_, U_, U_, U_, U_, U_, U_, U_, U_, U_, U_, U_, U_, U_, U_, U_, U_, U_, U_, U_, U_, U_, U_, U_, U_, U_, U_, U_, U_, U_, U_, U_, U_, U_, U_, U_, U_, U_, U_, U_, U_, U_, U_, U_, U_, U_, U_, U_, U_, U_, U_, U_, U_, U_, U_, U_, U_, U_, U_, U_, U_, U_, U_, U_, U_, U_, U_, U_, U_, U_, U_, U_, U_, U_, U_, U_, U_, U_, U_, U_, U_, U_, U_, U_, U_, U_, U_, U_] []
def X52_3 (a : List Port) (i0 : Int) (i1 : Int) : St := St.mk [TV.v false [C.d (D.sl false 11 (enS false a))], I_ (wrap i64 (i0 + 1)), U_, U_, I_ (Int.negSucc 0), I_ i1, I_ i1, TV.v false [C.d (D.sl false 11 (enS false a))], I_ (ofNat (length (enS false a))), B_ true, U_, U_, TV.v false [C.d (D.sl false 11 (enS false a))], I_ i1, TV.v false [C.rptr (getD (enS false a) (toNat i1) [])], TV.v false [C.rptr (getD (enS false a) (toNat i1) [])], B_ (D.flag (getD (getD (enS false a) (toNat i1) []) 0 D.dead)), I_ i0, I_ (Int.tmod i0 (3)), B_ (Int.tmod i0 (3) == 0), B_ false, I_ i0, I_ (wrap i64 (i0 + 1)), TV.v false [C.d (D.sl false 11 (enS false a))], I_ i1, TV.v false [C.rptr (getD (enS false a) (toNat i1) [])], TV.v false [C.rptr (drop 1 (getD (enS false a) (toNat i1) []))], B_ (D.flag (getD (drop 1 (getD (enS false a) (toNat i1) [])) 0 D.dead)), I_ (wrap i64 (i0 + 1)), I_ (Int.tmod (wrap i64 (i0 + 1)) (3)), B_ (Int.tmod (wrap i64 (i0 + 1)) (3) == 0), B_ true, U_, U_, U_, U_, U_, U_, U_, U_, U_, U_, U_, U_, U_, U_, U_, U_, U_, U_, U_, U_, U_, U_, U_, U_, U_, U_, U_, U_, U_, U_, U_, U_, U_, U_, U_, U_, U_, U_, U_, U_, U_, U_, U_, U_, U_, U_, U_, U_, U_, U_, U_, U_, U_, U_, U_, U_, U_, U_, U_, U_, U_, U_, U_, U_, U_, U_, U_, U_, U_, U_, U_, U_, U_, U_, U_, U_, U_, U_, U_, U_, U_, U_, U_, U_, U_, U_, U_, U_, U_, U_] []
def X52_4 (a : List Port) (i0 : Int) (i1 : Int) : St := St.mk [TV.v false [C.d (D.sl false 11 (enS false a))], I_ (wrap i64 (wrap i64 (i0 + 1) + 1)), U_, U_, I_ (Int.negSucc 0), I_ i1, I_ i1, TV.v false [C.d (D.sl false 11 (enS false a))], I_ (ofNat (length (enS false a))), B_ true, U_, U_, TV.v false [C.d (D.sl false 11 (enS false a))], I_ i1, TV.v false [C.rptr (getD (enS false a) (toNat i1) [])], TV.v false [C.rptr (getD (enS false a) (toNat i1) [])], B_ (D.flag (getD (getD (enS false a) (toNat i1) []) 0 D.dead)), I_ i0, I_ (Int.tmod i0 (3)), B_ (Int.tmod i0 (3) == 0), B_ false, I_ i0, I_ (wrap i64 (i0 + 1)), TV.v false [C.d (D.sl false 11 (enS false a))], I_ i1, TV.v false [C.rptr (getD (enS false a) (toNat i1) [])], TV.v false [C.rptr (drop 1 (getD (enS false a) (toNat i1) []))], B_ (D.flag (getD (drop 1 (getD (enS false a) (toNat i1) [])) 0 D.dead)), I_ (wrap i64 (i0 + 1)), I_ (Int.tmod (wrap i64 (i0 + 1)) (3)), B_ (Int.tmod (wrap i64 (i0 + 1)) (3) == 0), B_ false, I_ (wrap i64 (i0 + 1)), I_ (wrap i64 (wrap i64 (i0 + 1) + 1)), TV.v false [C.d (D.sl false 11 (enS false a))], I_ i1, TV.v false [C.rptr (getD (enS false a) (toNat i1) [])], TV.v false [C.rptr (drop 2 (getD (enS false a) (toNat i1) []))], TV.v false [C.rptr (drop 2 (getD (enS false a) (toNat i1) []))], I_ (D.num (getD (drop 2 (getD (enS false a) (toNat i1) [])) 0 D.dead)), I_ (wrap i64 (wrap i64 (i0 + 1) + 1)), B_ true, U_, U_, U_, U_, U_, U_, U_, U_, U_, U_, U_, U_, U_, U_, U_, U_, U_, U_, U_, U_, U_, U_, U_, U_, U_, U_, U_, U_, U_, U_, U_, U_, U_, U_, U_, U_, U_, U_, U_, U_, U_, U_, U_, U_, U_, U_, U_, U_, U_, U_, U_, U_, U_, U_, U_, U_, U_, U_, U_, U_, U_, U_, U_, U_, U_, U_, U_, U_, U_, U_, U_, U_, U_, U_, U_, U_, U_, U_, U_, U_] []
def X52_5 (a : List Port) (i0 : Int) (i1 : Int) : St := St.mk [TV.v false [C.d (D.sl false 11 (enS false a))], I_ (wrap i64 (wrap i64 (wrap i64 (i0 + 1) + 1) + 1)), U_, U_, I_ (Int.negSucc 0), I_ i1, I_ i1, TV.v false [C.d (D.sl false 11 (enS false a))], I_ (ofNat (length (enS false a))), B_ true, U_, U_, TV.v false [C.d (D.sl false 11 (enS false a))], I_ i1, TV.v false [C.rptr (getD (enS false a) (toNat i1) [])], TV.v false [C.rptr (getD (enS false a) (toNat i1) [])], B_ (D.flag (getD (getD (enS false a) (toNat i1) []) 0 D.dead)), I_ i0, I_ (Int.tmod i0 (3)), B_ (Int.tmod i0 (3) == 0), B_ false, I_ i0, I_ (wrap i64 (i0 + 1)), TV.v false [C.d (D.sl false 11 (enS false a))], I_ i1, TV.v false [C.rptr (getD (enS false a) (toNat i1) [])], TV.v false [C.rptr (drop 1 (getD (enS false a) (toNat i1) []))], B_ (D.flag (getD (drop 1 (getD (enS false a) (toNat i1) [])) 0 D.dead)), I_ (wrap i64 (i0 + 1)), I_ (Int.tmod (wrap i64 (i0 + 1)) (3)), B_ (Int.tmod (wrap i64 (i0 + 1)) (3) == 0), B_ false, I_ (wrap i64 (i0 + 1)), I_ (wrap i64 (wrap i64 (i0 + 1) + 1)), TV.v false [C.d (D.sl false 11 (enS false a))], I_ i1, TV.v false [C.rptr (getD (enS false a) (toNat i1) [])], TV.v false [C.rptr (drop 2 (getD (enS false a) (toNat i1) []))], TV.v false [C.rptr (drop 2 (getD (enS false a) (toNat i1) []))], I_ (D.num (getD (drop 2 (getD (enS false a) (toNat i1) [])) 0 D.dead)), I_ (wrap i64 (wrap i64 (i0 + 1) + 1)), B_ false, I_ (wrap i64 (wrap i64 (i0 + 1) + 1)), I_ (wrap i64 (wrap i64 (wrap i64 (i0 + 1) + 1) + 1)), TV.v false [C.d (D.sl false 11 (enS false a))], I_ i1, TV.v false [C.rptr (getD (enS false a) (toNat i1) [])], TV.v false [C.rptr (drop 2 (getD (enS false a) (toNat i1) []))], TV.v false [C.rptr (drop 1 (drop 2 (getD (enS false a) (toNat i1) [])))], I_ (D.num (getD (drop 1 (drop 2 (getD (enS false a) (toNat i1) []))) 0 D.dead)), I_ (wrap i64 (wrap i64 (wrap i64 (i0 + 1) + 1) + 1)), B_ true, U_, U_, U_, U_, U_, U_, U_, U_, U_, U_, U_, U_, U_, U_, U_, U_, U_, U_, U_, U_, U_, U_, U_, U_, U_, U_, U_, U_, U_, U_, U_, U_, U_, U_, U_, U_, U_, U_, U_, U_, U_, U_, U_, U_, U_, U_, U_, U_, U_, U_, U_, U_, U_, U_, U_, U_, U_, U_, U_, U_, U_, U_, U_, U_, U_, U_, U_, U_, U_, U_] []
def X52_6 (a : List Port) (i0 : Int) (i1 : Int) : St := St.mk [TV.v false [C.d (D.sl false 11 (enS false a))], I_ (wrap i64 (wrap i64 (wrap i64 (wrap i64 (i0 + 1) + 1) + 1) + 1)), U_, U_, I_ (Int.negSucc 0), I_ i1, I_ i1, TV.v false [C.d (D.sl false 11 (enS false a))], I_ (ofNat (length (enS false a))), B_ true, U_, U_, TV.v false [C.d (D.sl false 11 (enS false a))], I_ i1, TV.v false [C.rptr (getD (enS false a) (toNat i1) [])], TV.v false [C.rptr (getD (enS false a) (toNat i1) [])], B_ (D.flag (getD (getD (enS false a) (toNat i1) []) 0 D.dead)), I_ i0, I_ (Int.tmod i0 (3)), B_ (Int.tmod i0 (3) == 0), B_ false, I_ i0, I_ (wrap i64 (i0 + 1)), TV.v false [C.d (D.sl false 11 (enS false a))], I_ i1, TV.v false [C.rptr (getD (enS false a) (toNat i1) [])], TV.v false [C.rptr (drop 1 (getD (enS false a) (toNat i1) []))], B_ (D.flag (getD (drop 1 (getD (enS false a) (toNat i1) [])) 0 D.dead)), I_ (wrap i64 (i0 + 1)), I_ (Int.tmod (wrap i64 (i0 + 1)) (3)), B_ (Int.tmod (wrap i64 (i0 + 1)) (3) == 0), B_ false, I_ (wrap i64 (i0 + 1)), I_ (wrap i64 (wrap i64 (i0 + 1) + 1)), TV.v false [C.d (D.sl false 11 (enS false a))], I_ i1, TV.v false [C.rptr (getD (enS false a) (toNat i1) [])], TV.v false [C.rptr (drop 2 (getD (enS false a) (toNat i1) []))], TV.v false [C.rptr (drop 2 (getD (enS false a) (toNat i1) []))], I_ (D.num (getD (drop 2 (getD (enS false a) (toNat i1) [])) 0 D.dead)), I_ (wrap i64 (wrap i64 (i0 + 1) + 1)), B_ false, I_ (wrap i64 (wrap i64 (i0 + 1) + 1)), I_ (wrap i64 (wrap i64 (wrap i64 (i0 + 1) + 1) + 1)), TV.v false [C.d (D.sl false 11 (enS false a))], I_ i1, TV.v false [C.rptr (getD (enS false a) (toNat i1) [])], TV.v false [C.rptr (drop 2 (getD (enS false a) (toNat i1) []))], TV.v false [C.rptr (drop 1 (drop 2 (getD (enS false a) (toNat i1) [])))], I_ (D.num (getD (drop 1 (drop 2 (getD (enS false a) (toNat i1) []))) 0 D.dead)), I_ (wrap i64 (wrap i64 (wrap i64 (i0 + 1) + 1) + 1)), B_ false, I_ (wrap i64 (wrap i64 (wrap i64 (i0 + 1) + 1) + 1)), I_ (wrap i64 (wrap i64 (wrap i64 (wrap i64 (i0 + 1) + 1) + 1) + 1)), TV.v false [C.d (D.sl false 11 (enS false a))], I_ i1, TV.v false [C.rptr (getD (enS false a) (toNat i1) [])], TV.v false [C.rptr (drop 2 (getD (enS false a) (toNat i1) []))], TV.v false [C.rptr (drop 2 (drop 2 (getD (enS false a) (toNat i1) [])))], I_ (D.num (getD (drop 2 (drop 2 (getD (enS false a) (toNat i1) []))) 0 D.dead)), I_ (wrap i64 (wrap i64 (wrap i64 (wrap i64 (i0 + 1) + 1) + 1) + 1)), B_ true, U_, U_, U_, U_, U_, U_, U_, U_, U_, U_, U_, U_, U_, U_, U_, U_, U_, U_, U_, U_, U_, U_, U_, U_, U_, U_, U_, U_, U_, U_, U_, U_, U_, U_, U_, U_, U_, U_, U_, U_, U_, U_, U_, U_, U_, U_, U_, U_, U_, U_, U_, U_, U_, U_, U_, U_, U_, U_, U_, U_] []
def X52_7 (a : List Port) (i0 : Int) (i1 : Int) : St := St.mk [TV.v false [C.d (D.sl false 11 (enS false a))], I_ (wrap i64 (wrap i64 (wrap i64 (wrap i64 (wrap i64 (i0 + 1) + 1) + 1) + 1) + 1)), U_, U_, I_ (Int.negSucc 0), I_ i1, I_ i1, TV.v false [C.d (D.sl false 11 (enS false a))], I_ (ofNat (length (enS false a))), B_ true, U_, U_, TV.v false [C.d (D.sl false 11 (enS false a))], I_ i1, TV.v false [C.rptr (getD (enS false a) (toNat i1) [])], TV.v false [C.rptr (getD (enS false a) (toNat i1) [])], B_ (D.flag (getD (getD (enS false a) (toNat i1) []) 0 D.dead)), I_ i0, I_ (Int.tmod i0 (3)), B_ (Int.tmod i0 (3) == 0), B_ false, I_ i0, I_ (wrap i64 (i0 + 1)), TV.v false [C.d (D.sl false 11 (enS false a))], I_ i1, TV.v false [C.rptr (getD (enS false a) (toNat i1) [])], TV.v false [C.rptr (drop 1 (getD (enS false a) (toNat i1) []))], B_ (D.flag (getD (drop 1 (getD (enS false a) (toNat i1) [])) 0 D.dead)), I_ (wrap i64 (i0 + 1)), I_ (Int.tmod (wrap i64 (i0 + 1)) (3)), B_ (Int.tmod (wrap i64 (i0 + 1)) (3) == 0), B_ false, I_ (wrap i64 (i0 + 1)), I_ (wrap i64 (wrap i64 (i0 + 1) + 1)), TV.v false [C.d (D.sl false 11 (enS false a))], I_ i1, TV.v false [C.rptr (getD (enS false a) (toNat i1) [])], TV.v false [C.rptr (drop 2 (getD (enS false a) (toNat i1) []))], TV.v false [C.rptr (drop 2 (getD (enS false a) (toNat i1) []))], I_ (D.num (getD (drop 2 (getD (enS false a) (toNat i1) [])) 0 D.dead)), I_ (wrap i64 (wrap i64 (i0 + 1) + 1)), B_ false, I_ (wrap i64 (wrap i64 (i0 + 1) + 1)), I_ (wrap i64 (wrap i64 (wrap i64 (i0 + 1) + 1) + 1)), TV.v false [C.d (D.sl false 11 (enS false a))], I_ i1, TV.v false [C.rptr (getD (enS false a) (toNat i1) [])], TV.v false [C.rptr (drop 2 (getD (enS false a) (toNat i1) []))], TV.v false [C.rptr (drop 1 (drop 2 (getD (enS false a) (toNat i1) [])))], I_ (D.num (getD (drop 1 (drop 2 (getD (enS false a) (toNat i1) []))) 0 D.dead)), I_ (wrap i64 (wrap i64 (wrap i64 (i0 + 1) + 1) + 1)), B_ false, I_ (wrap i64 (wrap i64 (wrap i64 (i0 + 1) + 1) + 1)), I_ (wrap i64 (wrap i64 (wrap i64 (wrap i64 (i0 + 1) + 1) + 1) + 1)), TV.v false [C.d (D.sl false 11 (enS false a))], I_ i1, TV.v false [C.rptr (getD (enS false a) (toNat i1) [])], TV.v false [C.rptr (drop 2 (getD (enS false a) (toNat i1) []))], TV.v false [C.rptr (drop 2 (drop 2 (getD (enS false a) (toNat i1) [])))], I_ (D.num (getD (drop 2 (drop 2 (getD (enS false a) (toNat i1) []))) 0 D.dead)), I_ (wrap i64 (wrap i64 (wrap i64 (wrap i64 (i0 + 1) + 1) + 1) + 1)), B_ false, I_ (wrap i64 (wrap i64 (wrap i64 (wrap i64 (i0 + 1) + 1) + 1) + 1)), I_ (wrap i64 (wrap i64 (wrap i64 (wrap i64 (wrap i64 (i0 + 1) + 1) + 1) + 1) + 1)), TV.v false [C.d (D.sl false 11 (enS false a))], I_ i1, TV.v false [C.rptr (getD (enS false a) (toNat i1) [])], TV.v false [C.rptr (drop 2 (getD (enS false a) (toNat i1) []))], TV.v false [C.rptr (drop 3 (drop 2 (getD (enS false a) (toNat i1) [])))], I_ (D.num (getD (drop 3 (drop 2 (getD (enS false a) (toNat i1) []))) 0 D.dead)), I_ (wrap i64 (wrap i64 (wrap i64 (wrap i64 (wrap i64 (i0 + 1) + 1) + 1) + 1) + 1)), B_ true, U_, U_, U_, U_, U_, U_, U_, U_, U_, U_, U_, U_, U_, U_, U_, U_, U_, U_, U_, U_, U_, U_, U_, U_, U_, U_, U_, U_, U_, U_, U_, U_, U_, U_, U_, U_, U_, U_, U_, U_, U_, U_, U_, U_, U_, U_, U_, U_, U_, U_] []
def X52_8 (a : List Port) (i0 : Int) (i1 : Int) : St := St.mk [TV.v false [C.d (D.sl false 11 (enS false a))], I_ (wrap i64 (wrap i64 (wrap i64 (wrap i64 (wrap i64 (wrap i64 (i0 + 1) + 1) + 1) + 1) + 1) + 1)), U_, U_, I_ (Int.negSucc 0), I_ i1, I_ i1, TV.v false [C.d (D.sl false 11 (enS false a))], I_ (ofNat (length (enS false a))), B_ true, U_, U_, TV.v false [C.d (D.sl false 11 (enS false a))], I_ i1, TV.v false [C.rptr (getD (enS false a) (toNat i1) [])], TV.v false [C.rptr (getD (enS false a) (toNat i1) [])], B_ (D.flag (getD (getD (enS false a) (toNat i1) []) 0 D.dead)), I_ i0, I_ (Int.tmod i0 (3)), B_ (Int.tmod i0 (3) == 0), B_ false, I_ i0, I_ (wrap i64 (i0 + 1)), TV.v false [C.d (D.sl false 11 (enS false a))], I_ i1, TV.v false [C.rptr (getD (enS false a) (toNat i1) [])], TV.v false [C.rptr (drop 1 (getD (enS false a) (toNat i1) []))], B_ (D.flag (getD (drop 1 (getD (enS false a) (toNat i1) [])) 0 D.dead)), I_ (wrap i64 (i0 + 1)), I_ (Int.tmod (wrap i64 (i0 + 1)) (3)), B_ (Int.tmod (wrap i64 (i0 + 1)) (3) == 0), B_ false, I_ (wrap i64 (i0 + 1)), I_ (wrap i64 (wrap i64 (i0 + 1) + 1)), TV.v false [C.d (D.sl false 11 (enS false a))], I_ i1, TV.v false [C.rptr (getD (enS false a) (toNat i1) [])], TV.v false [C.rptr (drop 2 (getD (enS false a) (toNat i1) []))], TV.v false [C.rptr (drop 2 (getD (enS false a) (toNat i1) []))], I_ (D.num (getD (drop 2 (getD (enS false a) (toNat i1) [])) 0 D.dead)), I_ (wrap i64 (wrap i64 (i0 + 1) + 1)), B_ false, I_ (wrap i64 (wrap i64 (i0 + 1) + 1)), I_ (wrap i64 (wrap i64 (wrap i64 (i0 + 1) + 1) + 1)), TV.v false [C.d (D.sl false 11 (enS false a))], I_ i1, TV.v false [C.rptr (getD (enS false a) (toNat i1) [])], TV.v false [C.rptr (drop 2 (getD (enS false a) (toNat i1) []))], TV.v false [C.rptr (drop 1 (drop 2 (getD (enS false a) (toNat i1) [])))], I_ (D.num (getD (drop 1 (drop 2 (getD (enS false a) (toNat i1) []))) 0 D.dead)), I_ (wrap i64 (wrap i64 (wrap i64 (i0 + 1) + 1) + 1)), B_ false, I_ (wrap i64 (wrap i64 (wrap i64 (i0 + 1) + 1) + 1)), I_ (wrap i64 (wrap i64 (wrap i64 (wrap i64 (i0 + 1) + 1) + 1) + 1)), TV.v false [C.d (D.sl false 11 (enS false a))], I_ i1, TV.v false [C.rptr (getD (enS false a) (toNat i1) [])], TV.v false [C.rptr (drop 2 (getD (enS false a) (toNat i1) []))], TV.v false [C.rptr (drop 2 (drop 2 (getD (enS false a) (toNat i1) [])))], I_ (D.num (getD (drop 2 (drop 2 (getD (enS false a) (toNat i1) []))) 0 D.dead)), I_ (wrap i64 (wrap i64 (wrap i64 (wrap i64 (i0 + 1) + 1) + 1) + 1)), B_ false, I_ (wrap i64 (wrap i64 (wrap i64 (wrap i64 (i0 + 1) + 1) + 1) + 1)), I_ (wrap i64 (wrap i64 (wrap i64 (wrap i64 (wrap i64 (i0 + 1) + 1) + 1) + 1) + 1)), TV.v false [C.d (D.sl false 11 (enS false a))], I_ i1, TV.v false [C.rptr (getD (enS false a) (toNat i1) [])], TV.v false [C.rptr (drop 2 (getD (enS false a) (toNat i1) []))], TV.v false [C.rptr (drop 3 (drop 2 (getD (enS false a) (toNat i1) [])))], I_ (D.num (getD (drop 3 (drop 2 (getD (enS false a) (toNat i1) []))) 0 D.dead)), I_ (wrap i64 (wrap i64 (wrap i64 (wrap i64 (wrap i64 (i0 + 1) + 1) + 1) + 1) + 1)), B_ false, I_ (wrap i64 (wrap i64 (wrap i64 (wrap i64 (wrap i64 (i0 + 1) + 1) + 1) + 1) + 1)), I_ (wrap i64 (wrap i64 (wrap i64 (wrap i64 (wrap i64 (wrap i64 (i0 + 1) + 1) + 1) + 1) + 1) + 1)), TV.v false [C.d (D.sl false 11 (enS false a))], I_ i1, TV.v false [C.rptr (getD (enS false a) (toNat i1) [])], TV.v false [C.rptr (drop 6 (getD (enS false a) (toNat i1) []))], I_ (D.num (getD (drop 6 (getD (enS false a) (toNat i1) [])) 0 D.dead)), I_ (wrap i64 (wrap i64 (wrap i64 (wrap i64 (wrap i64 (wrap i64 (i0 + 1) + 1) + 1) + 1) + 1) + 1)), B_ true, U_, U_, U_, U_, U_, U_, U_, U_, U_, U_, U_, U_, U_, U_, U_, U_, U_, U_, U_, U_, U_, U_, U_, U_, U_, U_, U_, U_, U_, U_, U_, U_, U_, U_, U_, U_, U_, U_, U_, U_, U_] []
def X52_9 (a : List Port) (i0 : Int) (i1 : Int) : St := St.mk [TV.v false [C.d (D.sl false 11 (enS false a))], I_ (wrap i64 (wrap i64 (wrap i64 (wrap i64 (wrap i64 (wrap i64 (wrap i64 (i0 + 1) + 1) + 1) + 1) + 1) + 1) + 1)), U_, U_, I_ (Int.negSucc 0), I_ i1, I_ i1, TV.v false [C.d (D.sl false 11 (enS false a))], I_ (ofNat (length (enS false a))), B_ true, U_, U_, TV.v false [C.d (D.sl false 11 (enS false a))], I_ i1, TV.v false [C.rptr (getD (enS false a) (toNat i1) [])], TV.v false [C.rptr (getD (enS false a) (toNat i1) [])], B_ (D.flag (getD (getD (enS false a) (toNat i1) []) 0 D.dead)), I_ i0, I_ (Int.tmod i0 (3)), B_ (Int.tmod i0 (3) == 0), B_ false, I_ i0, I_ (wrap i64 (i0 + 1)), TV.v false [C.d (D.sl false 11 (enS false a))], I_ i1, TV.v false [C.rptr (getD (enS false a) (toNat i1) [])], TV.v false [C.rptr (drop 1 (getD (enS false a) (toNat i1) []))], B_ (D.flag (getD (drop 1 (getD (enS false a) (toNat i1) [])) 0 D.dead)), I_ (wrap i64 (i0 + 1)), I_ (Int.tmod (wrap i64 (i0 + 1)) (3)), B_ (Int.tmod (wrap i64 (i0 + 1)) (3) == 0), B_ false, I_ (wrap i64 (i0 + 1)), I_ (wrap i64 (wrap i64 (i0 + 1) + 1)), TV.v false [C.d (D.sl false 11 (enS false a))], I_ i1, TV.v false [C.rptr (getD (enS false a) (toNat i1) [])], TV.v false [C.rptr (drop 2 (getD (enS false a) (toNat i1) []))], TV.v false [C.rptr (drop 2 (getD (enS false a) (toNat i1) []))], I_ (D.num (getD (drop 2 (getD (enS false a) (toNat i1) [])) 0 D.dead)), I_ (wrap i64 (wrap i64 (i0 + 1) + 1)), B_ false, I_ (wrap i64 (wrap i64 (i0 + 1) + 1)), I_ (wrap i64 (wrap i64 (wrap i64 (i0 + 1) + 1) + 1)), TV.v false [C.d (D.sl false 11 (enS false a))], I_ i1, TV.v false [C.rptr (getD (enS false a) (toNat i1) [])], TV.v false [C.rptr (drop 2 (getD (enS false a) (toNat i1) []))], TV.v false [C.rptr (drop 1 (drop 2 (getD (enS false a) (toNat i1) [])))], I_ (D.num (getD (drop 1 (drop 2 (getD (enS false a) (toNat i1) []))) 0 D.dead)), I_ (wrap i64 (wrap i64 (wrap i64 (i0 + 1) + 1) + 1)), B_ false, I_ (wrap i64 (wrap i64 (wrap i64 (i0 + 1) + 1) + 1)), I_ (wrap i64 (wrap i64 (wrap i64 (wrap i64 (i0 + 1) + 1) + 1) + 1)), TV.v false [C.d (D.sl false 11 (enS false a))], I_ i1, TV.v false [C.rptr (getD (enS false a) (toNat i1) [])], TV.v false [C.rptr (drop 2 (getD (enS false a) (toNat i1) []))], TV.v false [C.rptr (drop 2 (drop 2 (getD (enS false a) (toNat i1) [])))], I_ (D.num (getD (drop 2 (drop 2 (getD (enS false a) (toNat i1) []))) 0 D.dead)), I_ (wrap i64 (wrap i64 (wrap i64 (wrap i64 (i0 + 1) + 1) + 1) + 1)), B_ false, I_ (wrap i64 (wrap i64 (wrap i64 (wrap i64 (i0 + 1) + 1) + 1) + 1)), I_ (wrap i64 (wrap i64 (wrap i64 (wrap i64 (wrap i64 (i0 + 1) + 1) + 1) + 1) + 1)), TV.v false [C.d (D.sl false 11 (enS false a))], I_ i1, TV.v false [C.rptr (getD (enS false a) (toNat i1) [])], TV.v false [C.rptr (drop 2 (getD (enS false a) (toNat i1) []))], TV.v false [C.rptr (drop 3 (drop 2 (getD (enS false a) (toNat i1) [])))], I_ (D.num (getD (drop 3 (drop 2 (getD (enS false a) (toNat i1) []))) 0 D.dead)), I_ (wrap i64 (wrap i64 (wrap i64 (wrap i64 (wrap i64 (i0 + 1) + 1) + 1) + 1) + 1)), B_ false, I_ (wrap i64 (wrap i64 (wrap i64 (wrap i64 (wrap i64 (i0 + 1) + 1) + 1) + 1) + 1)), I_ (wrap i64 (wrap i64 (wrap i64 (wrap i64 (wrap i64 (wrap i64 (i0 + 1) + 1) + 1) + 1) + 1) + 1)), TV.v false [C.d (D.sl false 11 (enS false a))], I_ i1, TV.v false [C.rptr (getD (enS false a) (toNat i1) [])], TV.v false [C.rptr (drop 6 (getD (enS false a) (toNat i1) []))], I_ (D.num (getD (drop 6 (getD (enS false a) (toNat i1) [])) 0 D.dead)), I_ (wrap i64 (wrap i64 (wrap i64 (wrap i64 (wrap i64 (wrap i64 (i0 + 1) + 1) + 1) + 1) + 1) + 1)), B_ false, I_ (wrap i64 (wrap i64 (wrap i64 (wrap i64 (wrap i64 (wrap i64 (i0 + 1) + 1) + 1) + 1) + 1) + 1)), I_ (wrap i64 (wrap i64 (wrap i64 (wrap i64 (wrap i64 (wrap i64 (wrap i64 (i0 + 1) + 1) + 1) + 1) + 1) + 1) + 1)), TV.v false [C.d (D.sl false 11 (enS false a))], I_ i1, TV.v false [C.rptr (getD (enS false a) (toNat i1) [])], TV.v false [C.rptr (drop 7 (getD (enS false a) (toNat i1) []))], I_ (D.num (getD (drop 7 (getD (enS false a) (toNat i1) [])) 0 D.dead)), I_ (wrap i64 (wrap i64 (wrap i64 (wrap i64 (wrap i64 (wrap i64 (wrap i64 (i0 + 1) + 1) + 1) + 1) + 1) + 1) + 1)), B_ true, U_, U_, U_, U_, U_, U_, U_, U_, U_, U_, U_, U_, U_, U_, U_, U_, U_, U_, U_, U_, U_, U_, U_, U_, U_, U_, U_, U_, U_, U_, U_, U_] []
def X52_10 (a : List Port) (i0 : Int) (i1 : Int) : St := St.mk [TV.v false [C.d (D.sl false 11 (enS false a))], I_ (wrap i64 (wrap i64 (wrap i64 (wrap i64 (wrap i64 (wrap i64 (wrap i64 (wrap i64 (i0 + 1) + 1) + 1) + 1) + 1) + 1) + 1) + 1)), U_, U_, I_ (Int.negSucc 0), I_ i1, I_ i1, TV.v false [C.d (D.sl false 11 (enS false a))], I_ (ofNat (length (enS false a))), B_ true, U_, U_, TV.v false [C.d (D.sl false 11 (enS false a))], I_ i1, TV.v false [C.rptr (getD (enS false a) (toNat i1) [])], TV.v false [C.rptr (getD (enS false a) (toNat i1) [])], B_ (D.flag (getD (getD (enS false a) (toNat i1) []) 0 D.dead)), I_ i0, I_ (Int.tmod i0 (3)), B_ (Int.tmod i0 (3) == 0), B_ false, I_ i0, I_ (wrap i64 (i0 + 1)), TV.v false [C.d (D.sl false 11 (enS false a))], I_ i1, TV.v false [C.rptr (getD (enS false a) (toNat i1) [])], TV.v false [C.rptr (drop 1 (getD (enS false a) (toNat i1) []))], B_ (D.flag (getD (drop 1 (getD (enS false a) (toNat i1) [])) 0 D.dead)), I_ (wrap i64 (i0 + 1)), I_ (Int.tmod (wrap i64 (i0 + 1)) (3)), B_ (Int.tmod (wrap i64 (i0 + 1)) (3) == 0), B_ false, I_ (wrap i64 (i0 + 1)), I_ (wrap i64 (wrap i64 (i0 + 1) + 1)), TV.v false [C.d (D.sl false 11 (enS false a))], I_ i1, TV.v false [C.rptr (getD (enS false a) (toNat i1) [])], TV.v false [C.rptr (drop 2 (getD (enS false a) (toNat i1) []))], TV.v false [C.rptr (drop 2 (getD (enS false a) (toNat i1) []))], I_ (D.num (getD (drop 2 (getD (enS false a) (toNat i1) [])) 0 D.dead)), I_ (wrap i64 (wrap i64 (i0 + 1) + 1)), B_ false, I_ (wrap i64 (wrap i64 (i0 + 1) + 1)), I_ (wrap i64 (wrap i64 (wrap i64 (i0 + 1) + 1) + 1)), TV.v false [C.d (D.sl false 11 (enS false a))], I_ i1, TV.v false [C.rptr (getD (enS false a) (toNat i1) [])], TV.v false [C.rptr (drop 2 (getD (enS false a) (toNat i1) []))], TV.v false [C.rptr (drop 1 (drop 2 (getD (enS false a) (toNat i1) [])))], I_ (D.num (getD (drop 1 (drop 2 (getD (enS false a) (toNat i1) []))) 0 D.dead)), I_ (wrap i64 (wrap i64 (wrap i64 (i0 + 1) + 1) + 1)), B_ false, I_ (wrap i64 (wrap i64 (wrap i64 (i0 + 1) + 1) + 1)), I_ (wrap i64 (wrap i64 (wrap i64 (wrap i64 (i0 + 1) + 1) + 1) + 1)), TV.v false [C.d (D.sl false 11 (enS false a))], I_ i1, TV.v false [C.rptr (getD (enS false a) (toNat i1) [])], TV.v false [C.rptr (drop 2 (getD (enS false a) (toNat i1) []))], TV.v false [C.rptr (drop 2 (drop 2 (getD (enS false a) (toNat i1) [])))], I_ (D.num (getD (drop 2 (drop 2 (getD (enS false a) (toNat i1) []))) 0 D.dead)), I_ (wrap i64 (wrap i64 (wrap i64 (wrap i64 (i0 + 1) + 1) + 1) + 1)), B_ false, I_ (wrap i64 (wrap i64 (wrap i64 (wrap i64 (i0 + 1) + 1) + 1) + 1)), I_ (wrap i64 (wrap i64 (wrap i64 (wrap i64 (wrap i64 (i0 + 1) + 1) + 1) + 1) + 1)), TV.v false [C.d (D.sl false 11 (enS false a))], I_ i1, TV.v false [C.rptr (getD (enS false a) (toNat i1) [])], TV.v false [C.rptr (drop 2 (getD (enS false a) (toNat i1) []))], TV.v false [C.rptr (drop 3 (drop 2 (getD (enS false a) (toNat i1) [])))], I_ (D.num (getD (drop 3 (drop 2 (getD (enS false a) (toNat i1) []))) 0 D.dead)), I_ (wrap i64 (wrap i64 (wrap i64 (wrap i64 (wrap i64 (i0 + 1) + 1) + 1) + 1) + 1)), B_ false, I_ (wrap i64 (wrap i64 (wrap i64 (wrap i64 (wrap i64 (i0 + 1) + 1) + 1) + 1) + 1)), I_ (wrap i64 (wrap i64 (wrap i64 (wrap i64 (wrap i64 (wrap i64 (i0 + 1) + 1) + 1) + 1) + 1) + 1)), TV.v false [C.d (D.sl false 11 (enS false a))], I_ i1, TV.v false [C.rptr (getD (enS false a) (toNat i1) [])], TV.v false [C.rptr (drop 6 (getD (enS false a) (toNat i1) []))], I_ (D.num (getD (drop 6 (getD (enS false a) (toNat i1) [])) 0 D.dead)), I_ (wrap i64 (wrap i64 (wrap i64 (wrap i64 (wrap i64 (wrap i64 (i0 + 1) + 1) + 1) + 1) + 1) + 1)), B_ false, I_ (wrap i64 (wrap i64 (wrap i64 (wrap i64 (wrap i64 (wrap i64 (i0 + 1) + 1) + 1) + 1) + 1) + 1)), I_ (wrap i64 (wrap i64 (wrap i64 (wrap i64 (wrap i64 (wrap i64 (wrap i64 (i0 + 1) + 1) + 1) + 1) + 1) + 1) + 1)), TV.v false [C.d (D.sl false 11 (enS false a))], I_ i1, TV.v false [C.rptr (getD (enS false a) (toNat i1) [])], TV.v false [C.rptr (drop 7 (getD (enS false a) (toNat i1) []))], I_ (D.num (getD (drop 7 (getD (enS false a) (toNat i1) [])) 0 D.dead)), I_ (wrap i64 (wrap i64 (wrap i64 (wrap i64 (wrap i64 (wrap i64 (wrap i64 (i0 + 1) + 1) + 1) + 1) + 1) + 1) + 1)), B_ false, I_ (wrap i64 (wrap i64 (wrap i64 (wrap i64 (wrap i64 (wrap i64 (wrap i64 (i0 + 1) + 1) + 1) + 1) + 1) + 1) + 1)), I_ (wrap i64 (wrap i64 (wrap i64 (wrap i64 (wrap i64 (wrap i64 (wrap i64 (wrap i64 (i0 + 1) + 1) + 1) + 1) + 1) + 1) + 1) + 1)), TV.v false [C.d (D.sl false 11 (enS false a))], I_ i1, TV.v false [C.rptr (getD (enS false a) (toNat i1) [])], TV.v false [C.rptr (drop 8 (getD (enS false a) (toNat i1) []))], I_ (D.num (getD (drop 8 (getD (enS false a) (toNat i1) [])) 0 D.dead)), I_ (wrap i64 (wrap i64 (wrap i64 (wrap i64 (wrap i64 (wrap i64 (wrap i64 (wrap i64 (i0 + 1) + 1) + 1) + 1) + 1) + 1) + 1) + 1)), B_ true, U_, U_, U_, U_, U_, U_, U_, U_, U_, U_, U_, U_, U_, U_, U_, U_, U_, U_, U_, U_, U_, U_, U_] []
def X52_11 (a : List Port) (i0 : Int) (i1 : Int) : St := St.mk [TV.v false [C.d (D.sl false 11 (enS false a))], I_ (wrap i64 (wrap i64 (wrap i64 (wrap i64 (wrap i64 (wrap i64 (wrap i64 (wrap i64 (wrap i64 (i0 + 1) + 1) + 1) + 1) + 1) + 1) + 1) + 1) + 1)), U_, U_, I_ (Int.negSucc 0), I_ i1, I_ i1, TV.v false [C.d (D.sl false 11 (enS false a))], I_ (ofNat (length (enS false a))), B_ true, U_, U_, TV.v false [C.d (D.sl false 11 (enS false a))], I_ i1, TV.v false [C.rptr (getD (enS false a) (toNat i1) [])], TV.v false [C.rptr (getD (enS false a) (toNat i1) [])], B_ (D.flag (getD (getD (enS false a) (toNat i1) []) 0 D.dead)), I_ i0, I_ (Int.tmod i0 (3)), B_ (Int.tmod i0 (3) == 0), B_ false, I_ i0, I_ (wrap i64 (i0 + 1)), TV.v false [C.d (D.sl false 11 (enS false a))], I_ i1, TV.v false [C.rptr (getD (enS false a) (toNat i1) [])], TV.v false [C.rptr (drop 1 (getD (enS false a) (toNat i1) []))], B_ (D.flag (getD (drop 1 (getD (enS false a) (toNat i1) [])) 0 D.dead)), I_ (wrap i64 (i0 + 1)), I_ (Int.tmod (wrap i64 (i0 + 1)) (3)), B_ (Int.tmod (wrap i64 (i0 + 1)) (3) == 0), B_ false, I_ (wrap i64 (i0 + 1)), I_ (wrap i64 (wrap i64 (i0 + 1) + 1)), TV.v false [C.d (D.sl false 11 (enS false a))], I_ i1, TV.v false [C.rptr (getD (enS false a) (toNat i1) [])], TV.v false [C.rptr (drop 2 (getD (enS false a) (toNat i1) []))], TV.v false [C.rptr (drop 2 (getD (enS false a) (toNat i1) []))], I_ (D.num (getD (drop 2 (getD (enS false a) (toNat i1) [])) 0 D.dead)), I_ (wrap i64 (wrap i64 (i0 + 1) + 1)), B_ false, I_ (wrap i64 (wrap i64 (i0 + 1) + 1)), I_ (wrap i64 (wrap i64 (wrap i64 (i0 + 1) + 1) + 1)), TV.v false [C.d (D.sl false 11 (enS false a))], I_ i1, TV.v false [C.rptr (getD (enS false a) (toNat i1) [])], TV.v false [C.rptr (drop 2 (getD (enS false a) (toNat i1) []))], TV.v false [C.rptr (drop 1 (drop 2 (getD (enS false a) (toNat i1) [])))], I_ (D.num (getD (drop 1 (drop 2 (getD (enS false a) (toNat i1) []))) 0 D.dead)), I_ (wrap i64 (wrap i64 (wrap i64 (i0 + 1) + 1) + 1)), B_ false, I_ (wrap i64 (wrap i64 (wrap i64 (i0 + 1) + 1) + 1)), I_ (wrap i64 (wrap i64 (wrap i64 (wrap i64 (i0 + 1) + 1) + 1) + 1)), TV.v false [C.d (D.sl false 11 (enS false a))], I_ i1, TV.v false [C.rptr (getD (enS false a) (toNat i1) [])], TV.v false [C.rptr (drop 2 (getD (enS false a) (toNat i1) []))], TV.v false [C.rptr (drop 2 (drop 2 (getD (enS false a) (toNat i1) [])))], I_ (D.num (getD (drop 2 (drop 2 (getD (enS false a) (toNat i1) []))) 0 D.dead)), I_ (wrap i64 (wrap i64 (wrap i64 (wrap i64 (i0 + 1) + 1) + 1) + 1)), B_ false, I_ (wrap i64 (wrap i64 (wrap i64 (wrap i64 (i0 + 1) + 1) + 1) + 1)), I_ (wrap i64 (wrap i64 (wrap i64 (wrap i64 (wrap i64 (i0 + 1) + 1) + 1) + 1) + 1)), TV.v false [C.d (D.sl false 11 (enS false a))], I_ i1, TV.v false [C.rptr (getD (enS false a) (toNat i1) [])], TV.v false [C.rptr (drop 2 (getD (enS false a) (toNat i1) []))], TV.v false [C.rptr (drop 3 (drop 2 (getD (enS false a) (toNat i1) [])))], I_ (D.num (getD (drop 3 (drop 2 (getD (enS false a) (toNat i1) []))) 0 D.dead)), I_ (wrap i64 (wrap i64 (wrap i64 (wrap i64 (wrap i64 (i0 + 1) + 1) + 1) + 1) + 1)), B_ false, I_ (wrap i64 (wrap i64 (wrap i64 (wrap i64 (wrap i64 (i0 + 1) + 1) + 1) + 1) + 1)), I_ (wrap i64 (wrap i64 (wrap i64 (wrap i64 (wrap i64 (wrap i64 (i0 + 1) + 1) + 1) + 1) + 1) + 1)), TV.v false [C.d (D.sl false 11 (enS false a))], I_ i1, TV.v false [C.rptr (getD (enS false a) (toNat i1) [])], TV.v false [C.rptr (drop 6 (getD (enS false a) (toNat i1) []))], I_ (D.num (getD (drop 6 (getD (enS false a) (toNat i1) [])) 0 D.dead)), I_ (wrap i64 (wrap i64 (wrap i64 (wrap i64 (wrap i64 (wrap i64 (i0 + 1) + 1) + 1) + 1) + 1) + 1)), B_ false, I_ (wrap i64 (wrap i64 (wrap i64 (wrap i64 (wrap i64 (wrap i64 (i0 + 1) + 1) + 1) + 1) + 1) + 1)), I_ (wrap i64 (wrap i64 (wrap i64 (wrap i64 (wrap i64 (wrap i64 (wrap i64 (i0 + 1) + 1) + 1) + 1) + 1) + 1) + 1)), TV.v false [C.d (D.sl false 11 (enS false a))], I_ i1, TV.v false [C.rptr (getD (enS false a) (toNat i1) [])], TV.v false [C.rptr (drop 7 (getD (enS false a) (toNat i1) []))], I_ (D.num (getD (drop 7 (getD (enS false a) (toNat i1) [])) 0 D.dead)), I_ (wrap i64 (wrap i64 (wrap i64 (wrap i64 (wrap i64 (wrap i64 (wrap i64 (i0 + 1) + 1) + 1) + 1) + 1) + 1) + 1)), B_ false, I_ (wrap i64 (wrap i64 (wrap i64 (wrap i64 (wrap i64 (wrap i64 (wrap i64 (i0 + 1) + 1) + 1) + 1) + 1) + 1) + 1)), I_ (wrap i64 (wrap i64 (wrap i64 (wrap i64 (wrap i64 (wrap i64 (wrap i64 (wrap i64 (i0 + 1) + 1) + 1) + 1) + 1) + 1) + 1) + 1)), TV.v false [C.d (D.sl false 11 (enS false a))], I_ i1, TV.v false [C.rptr (getD (enS false a) (toNat i1) [])], TV.v false [C.rptr (drop 8 (getD (enS false a) (toNat i1) []))], I_ (D.num (getD (drop 8 (getD (enS false a) (toNat i1) [])) 0 D.dead)), I_ (wrap i64 (wrap i64 (wrap i64 (wrap i64 (wrap i64 (wrap i64 (wrap i64 (wrap i64 (i0 + 1) + 1) + 1) + 1) + 1) + 1) + 1) + 1)), B_ false, I_ (wrap i64 (wrap i64 (wrap i64 (wrap i64 (wrap i64 (wrap i64 (wrap i64 (wrap i64 (i0 + 1) + 1) + 1) + 1) + 1) + 1) + 1) + 1)), I_ (wrap i64 (wrap i64 (wrap i64 (wrap i64 (wrap i64 (wrap i64 (wrap i64 (wrap i64 (wrap i64 (i0 + 1) + 1) + 1) + 1) + 1) + 1) + 1) + 1) + 1)), TV.v false [C.d (D.sl false 11 (enS false a))], I_ i1, TV.v false [C.rptr (getD (enS false a) (toNat i1) [])], TV.v false [C.rptr (drop 9 (getD (enS false a) (toNat i1) []))], I_ (D.num (getD (drop 9 (getD (enS false a) (toNat i1) [])) 0 D.dead)), I_ (wrap i64 (wrap i64 (wrap i64 (wrap i64 (wrap i64 (wrap i64 (wrap i64 (wrap i64 (wrap i64 (i0 + 1) + 1) + 1) + 1) + 1) + 1) + 1) + 1) + 1)), B_ true, U_, U_, U_, U_, U_, U_, U_, U_, U_, U_, U_, U_, U_, U_] []
def X52_12 (a : List Port) (i0 : Int) (i1 : Int) : St := St.mk [TV.v false [C.d (D.sl false 11 (enS false a))], I_ (wrap i64 (wrap i64 (wrap i64 (wrap i64 (wrap i64 (wrap i64 (wrap i64 (wrap i64 (wrap i64 (wrap i64 (i0 + 1) + 1) + 1) + 1) + 1) + 1) + 1) + 1) + 1) + 1)), U_, U_, I_ (Int.negSucc 0), I_ i1, I_ i1, TV.v false [C.d (D.sl false 11 (enS false a))], I_ (ofNat (length (enS false a))), B_ true, U_, U_, TV.v false [C.d (D.sl false 11 (enS false a))], I_ i1, TV.v false [C.rptr (getD (enS false a) (toNat i1) [])], TV.v false [C.rptr (getD (enS false a) (toNat i1) [])], B_ (D.flag (getD (getD (enS false a) (toNat i1) []) 0 D.dead)), I_ i0, I_ (Int.tmod i0 (3)), B_ (Int.tmod i0 (3) == 0), B_ false, I_ i0, I_ (wrap i64 (i0 + 1)), TV.v false [C.d (D.sl false 11 (enS false a))], I_ i1, TV.v false [C.rptr (getD (enS false a) (toNat i1) [])], TV.v false [C.rptr (drop 1 (getD (enS false a) (toNat i1) []))], B_ (D.flag (getD (drop 1 (getD (enS false a) (toNat i1) [])) 0 D.dead)), I_ (wrap i64 (i0 + 1)), I_ (Int.tmod (wrap i64 (i0 + 1)) (3)), B_ (Int.tmod (wrap i64 (i0 + 1)) (3) == 0), B_ false, I_ (wrap i64 (i0 + 1)), I_ (wrap i64 (wrap i64 (i0 + 1) + 1)), TV.v false [C.d (D.sl false 11 (enS false a))], I_ i1, TV.v false [C.rptr (getD (enS false a) (toNat i1) [])], TV.v false [C.rptr (drop 2 (getD (enS false a) (toNat i1) []))], TV.v false [C.rptr (drop 2 (getD (enS false a) (toNat i1) []))], I_ (D.num (getD (drop 2 (getD (enS false a) (toNat i1) [])) 0 D.dead)), I_ (wrap i64 (wrap i64 (i0 + 1) + 1)), B_ false, I_ (wrap i64 (wrap i64 (i0 + 1) + 1)), I_ (wrap i64 (wrap i64 (wrap i64 (i0 + 1) + 1) + 1)), TV.v false [C.d (D.sl false 11 (enS false a))], I_ i1, TV.v false [C.rptr (getD (enS false a) (toNat i1) [])], TV.v false [C.rptr (drop 2 (getD (enS false a) (toNat i1) []))], TV.v false [C.rptr (drop 1 (drop 2 (getD (enS false a) (toNat i1) [])))], I_ (D.num (getD (drop 1 (drop 2 (getD (enS false a) (toNat i1) []))) 0 D.dead)), I_ (wrap i64 (wrap i64 (wrap i64 (i0 + 1) + 1) + 1)), B_ false, I_ (wrap i64 (wrap i64 (wrap i64 (i0 + 1) + 1) + 1)), I_ (wrap i64 (wrap i64 (wrap i64 (wrap i64 (i0 + 1) + 1) + 1) + 1)), TV.v false [C.d (D.sl false 11 (enS false a))], I_ i1, TV.v false [C.rptr (getD (enS false a) (toNat i1) [])], TV.v false [C.rptr (drop 2 (getD (enS false a) (toNat i1) []))], TV.v false [C.rptr (drop 2 (drop 2 (getD (enS false a) (toNat i1) [])))], I_ (D.num (getD (drop 2 (drop 2 (getD (enS false a) (toNat i1) []))) 0 D.dead)), I_ (wrap i64 (wrap i64 (wrap i64 (wrap i64 (i0 + 1) + 1) + 1) + 1)), B_ false, I_ (wrap i64 (wrap i64 (wrap i64 (wrap i64 (i0 + 1) + 1) + 1) + 1)), I_ (wrap i64 (wrap i64 (wrap i64 (wrap i64 (wrap i64 (i0 + 1) + 1) + 1) + 1) + 1)), TV.v false [C.d (D.sl false 11 (enS false a))], I_ i1, TV.v false [C.rptr (getD (enS false a) (toNat i1) [])], TV.v false [C.rptr (drop 2 (getD (enS false a) (toNat i1) []))], TV.v false [C.rptr (drop 3 (drop 2 (getD (enS false a) (toNat i1) [])))], I_ (D.num (getD (drop 3 (drop 2 (getD (enS false a) (toNat i1) []))) 0 D.dead)), I_ (wrap i64 (wrap i64 (wrap i64 (wrap i64 (wrap i64 (i0 + 1) + 1) + 1) + 1) + 1)), B_ false, I_ (wrap i64 (wrap i64 (wrap i64 (wrap i64 (wrap i64 (i0 + 1) + 1) + 1) + 1) + 1)), I_ (wrap i64 (wrap i64 (wrap i64 (wrap i64 (wrap i64 (wrap i64 (i0 + 1) + 1) + 1) + 1) + 1) + 1)), TV.v false [C.d (D.sl false 11 (enS false a))], I_ i1, TV.v false [C.rptr (getD (enS false a) (toNat i1) [])], TV.v false [C.rptr (drop 6 (getD (enS false a) (toNat i1) []))], I_ (D.num (getD (drop 6 (getD (enS false a) (toNat i1) [])) 0 D.dead)), I_ (wrap i64 (wrap i64 (wrap i64 (wrap i64 (wrap i64 (wrap i64 (i0 + 1) + 1) + 1) + 1) + 1) + 1)), B_ false, I_ (wrap i64 (wrap i64 (wrap i64 (wrap i64 (wrap i64 (wrap i64 (i0 + 1) + 1) + 1) + 1) + 1) + 1)), I_ (wrap i64 (wrap i64 (wrap i64 (wrap i64 (wrap i64 (wrap i64 (wrap i64 (i0 + 1) + 1) + 1) + 1) + 1) + 1) + 1)), TV.v false [C.d (D.sl false 11 (enS false a))], I_ i1, TV.v false [C.rptr (getD (enS false a) (toNat i1) [])], TV.v false [C.rptr (drop 7 (getD (enS false a) (toNat i1) []))], I_ (D.num (getD (drop 7 (getD (enS false a) (toNat i1) [])) 0 D.dead)), I_ (wrap i64 (wrap i64 (wrap i64 (wrap i64 (wrap i64 (wrap i64 (wrap i64 (i0 + 1) + 1) + 1) + 1) + 1) + 1) + 1)), B_ false, I_ (wrap i64 (wrap i64 (wrap i64 (wrap i64 (wrap i64 (wrap i64 (wrap i64 (i0 + 1) + 1) + 1) + 1) + 1) + 1) + 1)), I_ (wrap i64 (wrap i64 (wrap i64 (wrap i64 (wrap i64 (wrap i64 (wrap i64 (wrap i64 (i0 + 1) + 1) + 1) + 1) + 1) + 1) + 1) + 1)), TV.v false [C.d (D.sl false 11 (enS false a))], I_ i1, TV.v false [C.rptr (getD (enS false a) (toNat i1) [])], TV.v false [C.rptr (drop 8 (getD (enS false a) (toNat i1) []))], I_ (D.num (getD (drop 8 (getD (enS false a) (toNat i1) [])) 0 D.dead)), I_ (wrap i64 (wrap i64 (wrap i64 (wrap i64 (wrap i64 (wrap i64 (wrap i64 (wrap i64 (i0 + 1) + 1) + 1) + 1) + 1) + 1) + 1) + 1)), B_ false, I_ (wrap i64 (wrap i64 (wrap i64 (wrap i64 (wrap i64 (wrap i64 (wrap i64 (wrap i64 (i0 + 1) + 1) + 1) + 1) + 1) + 1) + 1) + 1)), I_ (wrap i64 (wrap i64 (wrap i64 (wrap i64 (wrap i64 (wrap i64 (wrap i64 (wrap i64 (wrap i64 (i0 + 1) + 1) + 1) + 1) + 1) + 1) + 1) + 1) + 1)), TV.v false [C.d (D.sl false 11 (enS false a))], I_ i1, TV.v false [C.rptr (getD (enS false a) (toNat i1) [])], TV.v false [C.rptr (drop 9 (getD (enS false a) (toNat i1) []))], I_ (D.num (getD (drop 9 (getD (enS false a) (toNat i1) [])) 0 D.dead)), I_ (wrap i64 (wrap i64 (wrap i64 (wrap i64 (wrap i64 (wrap i64 (wrap i64 (wrap i64 (wrap i64 (i0 + 1) + 1) + 1) + 1) + 1) + 1) + 1) + 1) + 1)), B_ false, I_ (wrap i64 (wrap i64 (wrap i64 (wrap i64 (wrap i64 (wrap i64 (wrap i64 (wrap i64 (wrap i64 (i0 + 1) + 1) + 1) + 1) + 1) + 1) + 1) + 1) + 1)), I_ (wrap i64 (wrap i64 (wrap i64 (wrap i64 (wrap i64 (wrap i64 (wrap i64 (wrap i64 (wrap i64 (wrap i64 (i0 + 1) + 1) + 1) + 1) + 1) + 1) + 1) + 1) + 1) + 1)), TV.v false [C.d (D.sl false 11 (enS false a))], I_ i1, TV.v false [C.rptr (getD (enS false a) (toNat i1) [])], TV.v false [C.rptr (drop 10 (getD (enS false a) (toNat i1) []))], B_ (D.flag (getD (drop 10 (getD (enS false a) (toNat i1) [])) 0 D.dead)), I_ (wrap i64 (wrap i64 (wrap i64 (wrap i64 (wrap i64 (wrap i64 (wrap i64 (wrap i64 (wrap i64 (wrap i64 (i0 + 1) + 1) + 1) + 1) + 1) + 1) + 1) + 1) + 1) + 1)), I_ (Int.tmod (wrap i64 (wrap i64 (wrap i64 (wrap i64 (wrap i64 (wrap i64 (wrap i64 (wrap i64 (wrap i64 (wrap i64 (i0 + 1) + 1) + 1) + 1) + 1) + 1) + 1) + 1) + 1) + 1)) (3)), B_ (Int.tmod (wrap i64 (wrap i64 (wrap i64 (wrap i64 (wrap i64 (wrap i64 (wrap i64 (wrap i64 (wrap i64 (wrap i64 (i0 + 1) + 1) + 1) + 1) + 1) + 1) + 1) + 1) + 1) + 1)) (3) == 0), B_ true, U_, U_, U_] []
def X52_13 (a : List Port) (i0 : Int) (i1 : Int) : St := St.mk [TV.v false [C.d (D.sl false 11 (enS false a))], I_ i0, U_, U_, U_, I_ i1, I_ i1, TV.v false [C.d (D.sl false 11 (enS false a))], I_ (ofNat (length (enS false a))), B_ false, U_, U_, U_, U_, U_, U_, U_, U_, U_, U_, U_, U_, U_, U_, U_, U_, U_, U_, U_, U_, U_, U_, U_, U_, U_, U_, U_, U_, U_, U_, U_, U_, U_, U_, U_, U_, U_, U_, U_, U_, U_, U_, U_, U_, U_, U_, U_, U_, U_, U_, U_, U_, U_, U_, U_, U_, U_, U_, U_, U_, U_, U_, U_, U_, U_, U_, U_, U_, U_, U_, U_, U_, U_, U_, U_, U_, U_, U_, U_, U_, U_, U_, U_, U_, U_, U_, U_, U_, U_, U_, U_, U_, U_, U_, U_, U_, U_, U_, U_, U_, U_, U_, U_, U_, U_, U_, U_, U_, U_, U_, U_, U_] []
theorem q52_0 (a : List Port) (n : Nat) (i0 : Int) (i1 : Int) (f : St → RR) (K : Ex → St → RR) : B52_0 n (S52_0 a i0 i1) (kThen (fun st ↦ f (St.head 0 35 2658455991569831745807614120560689138 st)) K) = bif decide (i1 < ofNat (length (enS false a))) then bif decide (0 ≤ i1) && decide (i1 < ofNat (length (enS false a))) then bif Leaf.fit false Leaf.bool (getD (getD (enS false a) (toNat i1) []) 0 D.dead) && true then bif D.flag (getD (getD (enS false a) (toNat i1) []) 0 D.dead) != (Int.tmod i0 (3) == 0) then K Ex.ret (X52_2 a i0 i1) else bif decide (0 ≤ i1) && decide (i1 < ofNat (length (enS false a))) then bif Leaf.fit false Leaf.bool (getD (drop 1 (getD (enS false a) (toNat i1) [])) 0 D.dead) && true then bif D.flag (getD (drop 1 (getD (enS false a) (toNat i1) [])) 0 D.dead) != (Int.tmod (wrap i64 (i0 + 1)) (3) == 0) then K Ex.ret (X52_3 a i0 i1) else bif decide (0 ≤ i1) && decide (i1 < ofNat (length (enS false a))) then bif Leaf.fit false (Leaf.int i64) (getD (drop 2 (getD (enS false a) (toNat i1) [])) 0 D.dead) && true then bif D.num (getD (drop 2 (getD (enS false a) (toNat i1) [])) 0 D.dead) != wrap i64 (wrap i64 (i0 + 1) + 1) then K Ex.ret (X52_4 a i0 i1) else bif decide (0 ≤ i1) && decide (i1 < ofNat (length (enS false a))) then bif Leaf.fit false (Leaf.int i64) (getD (drop 1 (drop 2 (getD (enS false a) (toNat i1) []))) 0 D.dead) && true then bif D.num (getD (drop 1 (drop 2 (getD (enS false a) (toNat i1) []))) 0 D.dead) != wrap i64 (wrap i64 (wrap i64 (i0 + 1) + 1) + 1) then K Ex.ret (X52_5 a i0 i1) else bif decide (0 ≤ i1) && decide (i1 < ofNat (length (enS false a))) then bif Leaf.fit false (Leaf.int i64) (getD (drop 2 (drop 2 (getD (enS false a) (toNat i1) []))) 0 D.dead) && true then bif D.num (getD (drop 2 (drop 2 (getD (enS false a) (toNat i1) []))) 0 D.dead) != wrap i64 (wrap i64 (wrap i64 (wrap i64 (i0 + 1) + 1) + 1) + 1) then K Ex.ret (X52_6 a i0 i1) else bif decide (0 ≤ i1) && decide (i1 < ofNat (length (enS false a))) then bif Leaf.fit false (Leaf.int i64) (getD (drop 3 (drop 2 (getD (enS false a) (toNat i1) []))) 0 D.dead) && true then bif D.num (getD (drop 3 (drop 2 (getD (enS false a) (toNat i1) []))) 0 D.dead) != wrap i64 (wrap i64 (wrap i64 (wrap i64 (wrap i64 (i0 + 1) + 1) + 1) + 1) + 1) then K Ex.ret (X52_7 a i0 i1) else bif decide (0 ≤ i1) && decide (i1 < ofNat (length (enS false a))) then bif Leaf.fit false (Leaf.int i64) (getD (drop 6 (getD (enS false a) (toNat i1) [])) 0 D.dead) && true then bif D.num (getD (drop 6 (getD (enS false a) (toNat i1) [])) 0 D.dead) != wrap i64 (wrap i64 (wrap i64 (wrap i64 (wrap i64 (wrap i64 (i0 + 1) + 1) + 1) + 1) + 1) + 1) then K Ex.ret (X52_8 a i0 i1) else bif decide (0 ≤ i1) && decide (i1 < ofNat (length (enS false a))) then bif Leaf.fit false (Leaf.int i64) (getD (drop 7 (getD (enS false a) (toNat i1) [])) 0 D.dead) && true then bif D.num (getD (drop 7 (getD (enS false a) (toNat i1) [])) 0 D.dead) != wrap i64 (wrap i64 (wrap i64 (wrap i64 (wrap i64 (wrap i64 (wrap i64 (i0 + 1) + 1) + 1) + 1) + 1) + 1) + 1) then K Ex.ret (X52_9 a i0 i1) else bif decide (0 ≤ i1) && decide (i1 < ofNat (length (enS false a))) then bif Leaf.fit false (Leaf.int i64) (getD (drop 8 (getD (enS false a) (toNat i1) [])) 0 D.dead) && true then bif D.num (getD (drop 8 (getD (enS false a) (toNat i1) [])) 0 D.dead) != wrap i64 (wrap i64 (wrap i64 (wrap i64 (wrap i64 (wrap i64 (wrap i64 (wrap i64 (i0 + 1) + 1) + 1) + 1) + 1) + 1) + 1) + 1) then K Ex.ret (X52_10 a i0 i1) else bif decide (0 ≤ i1) && decide (i1 < ofNat (length (enS false a))) then bif Leaf.fit false (Leaf.int i64) (getD (drop 9 (getD (enS false a) (toNat i1) [])) 0 D.dead) && true then bif D.num (getD (drop 9 (getD (enS false a) (toNat i1) [])) 0 D.dead) != wrap i64 (wrap i64 (wrap i64 (wrap i64 (wrap i64 (wrap i64 (wrap i64 (wrap i64 (wrap i64 (i0 + 1) + 1) + 1) + 1) + 1) + 1) + 1) + 1) + 1) then K Ex.ret (X52_11 a i0 i1) else bif decide (0 ≤ i1) && decide (i1 < ofNat (length (enS false a))) then bif Leaf.fit false Leaf.bool (getD (drop 10 (getD (enS false a) (toNat i1) [])) 0 D.dead) && true then bif D.flag (getD (drop 10 (getD (enS false a) (toNat i1) [])) 0 D.dead) != (Int.tmod (wrap i64 (wrap i64 (wrap i64 (wrap i64 (wrap i64 (wrap i64 (wrap i64 (wrap i64 (wrap i64 (wrap i64 (i0 + 1) + 1) + 1) + 1) + 1) + 1) + 1) + 1) + 1) + 1)) (3) == 0) then K Ex.ret (X52_12 a i0 i1) else f (S52_0 a (wrap i64 (wrap i64 (wrap i64 (wrap i64 (wrap i64 (wrap i64 (wrap i64 (wrap i64 (wrap i64 (wrap i64 (wrap i64 (i0 + 1) + 1) + 1) + 1) + 1) + 1) + 1) + 1) + 1) + 1) + 1)) (wrap i64 (i1 + 1))) else none else none else none else none else none else none else none else none else none else none else none else none else none else none else none else none else none else none else none else none else none else none else K (Ex.exit 0) (X52_13 a i0 i1) := by kernel_rfl
theorem aX52_2 (a : List Port) (n : Nat) (i0 : Int) (i1 : Int) : k52_1 n Ex.ret (X52_2 a i0 i1) = some ([[D.int i64 (Int.negSucc 0)]], []) := by kernel_rfl
theorem aX52_3 (a : List Port) (n : Nat) (i0 : Int) (i1 : Int) : k52_1 n Ex.ret (X52_3 a i0 i1) = some ([[D.int i64 (Int.negSucc 0)]], []) := by kernel_rfl
theorem aX52_4 (a : List Port) (n : Nat) (i0 : Int) (i1 : Int) : k52_1 n Ex.ret (X52_4 a i0 i1) = some ([[D.int i64 (Int.negSucc 0)]], []) := by kernel_rfl
theorem aX52_5 (a : List Port) (n : Nat) (i0 : Int) (i1 : Int) : k52_1 n Ex.ret (X52_5 a i0 i1) = some ([[D.int i64 (Int.negSucc 0)]], []) := by kernel_rfl
theorem aX52_6 (a : List Port) (n : Nat) (i0 : Int) (i1 : Int) : k52_1 n Ex.ret (X52_6 a i0 i1) = some ([[D.int i64 (Int.negSucc 0)]], []) := by kernel_rfl
theorem aX52_7 (a : List Port) (n : Nat) (i0 : Int) (i1 : Int) : k52_1 n Ex.ret (X52_7 a i0 i1) = some ([[D.int i64 (Int.negSucc 0)]], []) := by kernel_rfl
theorem aX52_8 (a : List Port) (n : Nat) (i0 : Int) (i1 : Int) : k52_1 n Ex.ret (X52_8 a i0 i1) = some ([[D.int i64 (Int.negSucc 0)]], []) := by kernel_rfl
theorem aX52_9 (a : List Port) (n : Nat) (i0 : Int) (i1 : Int) : k52_1 n Ex.ret (X52_9 a i0 i1) = some ([[D.int i64 (Int.negSucc 0)]], []) := by kernel_rfl
theorem aX52_10 (a : List Port) (n : Nat) (i0 : Int) (i1 : Int) : k52_1 n Ex.ret (X52_10 a i0 i1) = some ([[D.int i64 (Int.negSucc 0)]], []) := by kernel_rfl
theorem aX52_11 (a : List Port) (n : Nat) (i0 : Int) (i1 : Int) : k52_1 n Ex.ret (X52_11 a i0 i1) = some ([[D.int i64 (Int.negSucc 0)]], []) := by kernel_rfl
theorem aX52_12 (a : List Port) (n : Nat) (i0 : Int) (i1 : Int) : k52_1 n Ex.ret (X52_12 a i0 i1) = some ([[D.int i64 (Int.negSucc 0)]], []) := by kernel_rfl
theorem aX52_13 (a : List Port) (n : Nat) (i0 : Int) (i1 : Int) : k52_1 n (Ex.exit 0) (X52_13 a i0 i1) = some ([[D.int i64 i0]], []) := by kernel_rfl
theorem r52 (a : List Port) (k : Int) (n : Nat) : evFn ⟨prog, Hx, 52⟩ T18.call n Go.Proofs.Try.f52 [[.sl false 11 (enS false a)], [.int .i64 k]] = loopRun (B52_0 n) 0 35 2658455991569831745807614120560689138 n (S52_0 a k (0)) (k52_1 n) := by kernel_rfl
theorem m52 (a : List Port) (k : Int) (hpre : (o52 a k).1 = true) : evFn ⟨Go.Proofs.Try.prog, Hx, 52⟩ T18.call (a.length + 1) Go.Proofs.Try.f52 [[.sl false 11 (enS false a)], [.int .i64 k]] = some (o52 a k).2 := by
  refine (r52 a k _).trans ?_
  show _ = (some ([[.int .i64 (k + cntS Port.n_ a)]], []) : Option (List Row × List Row))
  replace hpre : (sameB (markS Port.mk_ Port.n_ a k) a && (decide (0 ≤ k) && (decide (k + cntS Port.n_ a ≤ 4611686018427387904) && decide (a.length ≤ 1152921504606846976)))) = true := hpre
  rw [Bool.and_eq_true] at hpre
  obtain ⟨hsame, hpre⟩ := hpre
  have hsame := sameB_eq hsame
  simp only [Bool.and_eq_true, decide_eq_true_eq] at hpre
  obtain ⟨h0, h1, h2⟩ := hpre
  refine loop_list (xs := a) (fun i (k : Int) => S52_0 a k (Int.ofNat i)) (fun i k => 0 ≤ k ∧ k + cntS Port.n_ (a.drop i) ≤ 4611686018427387904 ∧ markS Port.mk_ Port.n_ (a.drop i) k = a.drop i) (fun _ k rest => some ([[D.int .i64 (k + cntS Port.n_ rest)]], [])) ?_ ?_ (a.length + 1) k (by omega) ⟨h0, h1, hsame⟩
  · rintro k ⟨hk0, hk1, _⟩ f
    refine (q52_0 a _ _ _ f _).trans ?_
    simp only [enS_length, dec_lt, Nat.lt_irrefl, decide_false, cond_false]
    refine (aX52_13 a _ _ _).trans ?_
    simp only [cntS, Int.add_zero]
  · rintro i k hi ⟨hk0, hk1, hk2⟩ f hf
    rw [List.drop_eq_getElem_cons hi] at hk1 hk2
    have hc := cntS_nonneg (n := Port.n_) Port.n_pos (a.drop (i + 1))
    have hn : Port.n_ a[i] = 11 := rfl
    simp only [cntS, hn] at hk1
    have he : k + 1 + 1 + 1 + 1 + 1 + 1 + 1 + 1 + 1 + 1 + 1 = k + Port.n_ a[i] := by omega
    simp only [markS, List.cons.injEq] at hk2
    obtain ⟨hk2, hk3⟩ := hk2
    refine (q52_0 a _ _ _ f _).trans ?_
    simp only [enS_length, toNat_of, dec_lt, dec_ge, enS_get _ hi, hi, wrap_succ (show i < 4611686018427387904 by omega), decide_true, cond_true, Bool.and_self]
    have hw1 : IntKind.wrap IntKind.i64 (k + 1) = k + 1 := wrap_le (by omega) (by omega)
    have hw2 : IntKind.wrap IntKind.i64 (k + 1 + 1) = k + 1 + 1 := wrap_le (by omega) (by omega)
    have hw3 : IntKind.wrap IntKind.i64 (k + 1 + 1 + 1) = k + 1 + 1 + 1 := wrap_le (by omega) (by omega)
    have hw4 : IntKind.wrap IntKind.i64 (k + 1 + 1 + 1 + 1) = k + 1 + 1 + 1 + 1 := wrap_le (by omega) (by omega)
    have hw5 : IntKind.wrap IntKind.i64 (k + 1 + 1 + 1 + 1 + 1) = k + 1 + 1 + 1 + 1 + 1 := wrap_le (by omega) (by omega)
    have hw6 : IntKind.wrap IntKind.i64 (k + 1 + 1 + 1 + 1 + 1 + 1) = k + 1 + 1 + 1 + 1 + 1 + 1 := wrap_le (by omega) (by omega)
    have hw7 : IntKind.wrap IntKind.i64 (k + 1 + 1 + 1 + 1 + 1 + 1 + 1) = k + 1 + 1 + 1 + 1 + 1 + 1 + 1 := wrap_le (by omega) (by omega)
    have hw8 : IntKind.wrap IntKind.i64 (k + 1 + 1 + 1 + 1 + 1 + 1 + 1 + 1) = k + 1 + 1 + 1 + 1 + 1 + 1 + 1 + 1 := wrap_le (by omega) (by omega)
    have hw9 : IntKind.wrap IntKind.i64 (k + 1 + 1 + 1 + 1 + 1 + 1 + 1 + 1 + 1) = k + 1 + 1 + 1 + 1 + 1 + 1 + 1 + 1 + 1 := wrap_le (by omega) (by omega)
    have hw10 : IntKind.wrap IntKind.i64 (k + 1 + 1 + 1 + 1 + 1 + 1 + 1 + 1 + 1 + 1) = k + 1 + 1 + 1 + 1 + 1 + 1 + 1 + 1 + 1 + 1 := wrap_le (by omega) (by omega)
    have hw11 : IntKind.wrap IntKind.i64 (k + 1 + 1 + 1 + 1 + 1 + 1 + 1 + 1 + 1 + 1 + 1) = k + 1 + 1 + 1 + 1 + 1 + 1 + 1 + 1 + 1 + 1 + 1 := wrap_le (by omega) (by omega)
    simp only [hw1, hw2, hw3, hw4, hw5, hw6, hw7, hw8, hw9, hw10, hw11]
    rw [← hk2]
    refine Eq.trans (b := f (S52_0 a (k + 1 + 1 + 1 + 1 + 1 + 1 + 1 + 1 + 1 + 1 + 1) (Int.ofNat (i + 1)))) ?_ ((hf (k + 1 + 1 + 1 + 1 + 1 + 1 + 1 + 1 + 1 + 1 + 1) ⟨by omega, by omega, by rw [he]; exact hk3⟩).trans ?_)
    · simp only [En.enc, Port.mk_, Leaf.fit, List.drop_succ_cons, List.drop_zero, List.getD_cons_zero, List.getD_cons_succ, D.num, D.flag, D.text, bne_self_eq_false, Bool.and_self, cond_true, cond_false, decide_true]
    · show _ = some ([[D.int .i64 (k + (Port.n_ a[i] + cntS Port.n_ (a.drop (i + 1))))]], [])
      rw [he, Int.add_assoc]
theorem s52 : SoundAt Go.Proofs.Try.prog Hx 52 c52 := soundAt_of T18_sound mixed Go.Proofs.Try.func52 (by kernel_rfl) (by
  intro rows r h
  unfold c52 at h
  split at h
  · rename_i a k
    obtain ⟨hp, hr⟩ := Prod.mk.inj (Option.some.inj h)
    subst hr
    simp only [Bool.and_eq_true] at hp
    obtain ⟨hs0, hp⟩ := hp
    obtain ⟨xs0, rfl⟩ := isS_ex hs0
    simp only [deS_enS] at hp ⊢
    exact ⟨_, m52 xs0 k hp⟩
  · cases h)
def T52 : Table := (52, c52) :: T18
theorem T52_sound : Table.Sound Go.Proofs.Try.prog Hx T52 := Table.sound_cons s52 T18_sound
/- heldBridge -/
def o19 (a : Bridge) (k : Int) : Bool × List Row × List Row := (sameB (Bridge.mkTop a k) a && (decide (0 ≤ k) && (decide (k + Bridge.nTop a ≤ 4611686018427387904) && (decide (a.Ports.length ≤ 1152921504606846976)))), [[.int .i64 (k + Bridge.nTop a)]], [])
def c19 : Contract
  | [[.int .i64 a_Id, .sl false 11 a_Ports], [.int .i64 k]] => some (isS Port false a_Ports && (o19 ⟨a_Id, (deS Port a_Ports)⟩ k).1, (o19 ⟨a_Id, (deS Port a_Ports)⟩ k).2.1, (o19 ⟨a_Id, (deS Port a_Ports)⟩ k).2.2)
  | _ => none

theorem r19 (a : Bridge) (k : Int) (n : Nat) : evFn ⟨prog, Hx, 19⟩ T52.call n Go.Proofs.Try.f19 [[.int .i64 a.Id, .sl false 11 (enS false a.Ports)], [.int .i64 k]] = bif isS Port false (enS false (Bridge.Ports a)) && (sameB (markS Port.mk_ Port.n_ (deS Port (enS false (Bridge.Ports a))) k) (deS Port (enS false (Bridge.Ports a))) && (decide (0 ≤ k) && (decide (k + cntS Port.n_ (deS Port (enS false (Bridge.Ports a))) ≤ 4611686018427387904) && decide (length (deS Port (enS false (Bridge.Ports a))) ≤ 1152921504606846976)))) then bif decide (k + cntS Port.n_ (deS Port (enS false (Bridge.Ports a))) < 0) then some ([[D.int i64 (Int.negSucc 0)]], []) else some ([[D.int i64 (k + cntS Port.n_ (deS Port (enS false (Bridge.Ports a))))]], []) else none := by kernel_rfl
theorem m19 (a : Bridge) (k : Int) (hpre : (o19 a k).1 = true) : evFn ⟨Go.Proofs.Try.prog, Hx, 19⟩ T52.call 0 Go.Proofs.Try.f19 [[.int .i64 a.Id, .sl false 11 (enS false a.Ports)], [.int .i64 k]] = some (o19 a k).2 := by
  refine (r19 a k _).trans ?_
  show _ = (some ([[.int .i64 (k + Bridge.nTop a)]], []) : Option (List Row × List Row))
  replace hpre : (sameB (Bridge.mkTop a k) a && (decide (0 ≤ k) && (decide (k + Bridge.nTop a ≤ 4611686018427387904) && (decide (a.Ports.length ≤ 1152921504606846976))))) = true := hpre
  rw [Bool.and_eq_true] at hpre
  obtain ⟨hsame, hpre⟩ := hpre
  have hsame := sameB_eq hsame
  unfold Bridge.mkTop at hsame
  simp only [Bool.and_eq_true] at hpre
  obtain ⟨h0, h1, h2⟩ := hpre
  have h0' := of_decide_eq_true h0
  have h1' := of_decide_eq_true h1
  unfold Bridge.nTop at h1'
  have p0 : 0 ≤ cntS Port.n_ a.Ports := cntS_nonneg Port.n_pos a.Ports
  have g0 : decide (0 ≤ k) = true := decide_eq_true (by omega)
  have f0 : decide (k + cntS Port.n_ a.Ports ≤ 4611686018427387904) = true := decide_eq_true (by omega)
  have d0 : decide (k + cntS Port.n_ a.Ports < 0) = false := decide_eq_false (by omega)
  have s0 := congrArg Bridge.Ports hsame
  simp only at s0
  simp only [g0, f0, d0, s0, h2, isS_enS, deS_enS, sameB_self, cond_true, cond_false, Bool.and_self, Bool.and_true, Bool.true_and, Bridge.mkTop, Bridge.nTop]
  try rfl
theorem s19 : SoundAt Go.Proofs.Try.prog Hx 19 c19 := soundAt_of T52_sound mixed Go.Proofs.Try.func19 (by kernel_rfl) (by
  intro rows r h
  unfold c19 at h
  split at h
  · rename_i a_Id a_Ports k
    obtain ⟨hp, hr⟩ := Prod.mk.inj (Option.some.inj h)
    subst hr
    simp only [Bool.and_eq_true] at hp
    obtain ⟨hs0, hp⟩ := hp
    obtain ⟨xs0, rfl⟩ := isS_ex hs0
    simp only [deS_enS] at hp ⊢
    exact ⟨_, m19 ⟨a_Id, xs0⟩ k hp⟩
  · cases h)
def T19 : Table := (19, c19) :: T52
theorem T19_sound : Table.Sound Go.Proofs.Try.prog Hx T19 := Table.sound_cons s19 T52_sound
end Go.Ev
end
