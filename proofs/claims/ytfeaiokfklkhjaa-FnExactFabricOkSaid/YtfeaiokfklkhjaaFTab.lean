/- Contracts of functions, each by its evaluation. -/
import Derived.Test.YtfeaiokfklkhjaaEvMd
import Derived.Test.YtfeaiokfklkhjaaProg
import Derived.KernelRfl
import Derived.Test.YtfeaiokfklkhjaaFHfab
set_option linter.unusedVariables false
set_option linter.unusedSimpArgs false
set_option maxRecDepth 100000
noncomputable section
open List (getD length drop take set append replicate all isEmpty)
open Int (toNat ofNat)
open Go.IntKind (i64 wrap)
open Go.Proofs.Try (prog f118 f124 f126 f128 f71 f76 func118 func124 func126 func128 func71 func76)
namespace Go.Ev
open Go.RowKit Go.Md
end Go.Ev
namespace Go.Md
open Go Go.Ev
def heardOk (x : Heard) : Bool := inR x.Addr 1 9 && (inR x.Vlan 1 4 && (inR x.Port 0 3 && inR x.Left 1 20))
def aheadB (a b : Heard) : Bool := decide (a.Vlan < b.Vlan) || (a.Vlan == b.Vlan && decide (a.Addr < b.Addr))
def stepsOk : Option Heard → List Heard → Bool
  | _, [] => true
  | p, x :: xs => heardOk x && ((match p with | none => true | some y => aheadB y x) && stepsOk (some x) xs)
def tableOk (l : List Heard) : Bool := stepsOk none l && decide (l.length ≤ 12)
def prevAt (l : List Heard) : Nat → Option Heard
  | 0 => none
  | i + 1 => l[i]?
theorem steps_cons (p : Option Heard) (x : Heard) (xs : List Heard) : stepsOk p (x :: xs) = (heardOk x && ((match p with | none => true | some y => aheadB y x) && stepsOk (some x) xs)) := by simp only [stepsOk]
end Go.Md
namespace Go.Ev
open Go.Md
def o126 (n_ : Int) : Bool × List Row × List Row := (true, [[.bool (inR n_ 1 9)]], [])
def c126 : Contract
  | [[.int .i64 n_]] => some ((o126 n_).1, (o126 n_).2.1, (o126 n_).2.2)
  | _ => none

theorem r126 (n_ : Int) (n : Nat) : evFn ⟨prog, Hx, 126⟩ T10.call n f126 [[.int .i64 n_]] = some ([[D.bool (inR n_ (1) (9))]], []) := by kernel_rfl
theorem m126 (n_ : Int) (hpre : (o126 n_).1 = true) : evFn ⟨Go.Proofs.Try.prog, Hx, 126⟩ T10.call 0 f126 [[.int .i64 n_]] = some (o126 n_).2 := by
  refine (r126 n_ _).trans ?_
  show _ = (some ([[.bool (inR n_ 1 9)]], []) : Option (List Row × List Row))
  replace hpre : (true) = true := hpre
  rfl
theorem s126 : SoundAt Go.Proofs.Try.prog Hx 126 c126 := soundAt_of T10_sound mixed func126 (by kernel_rfl) (by
  intro rows r h
  unfold c126 at h
  split at h
  · rename_i n_
    obtain ⟨hp, hr⟩ := Prod.mk.inj (Option.some.inj h)
    subst hr
    exact ⟨_, m126 n_ hp⟩
  · cases h)
def T126 : Table := (126, c126) :: T10
theorem T126_sound : Table.Sound Go.Proofs.Try.prog Hx T126 := Table.sound_cons s126 T10_sound
def o124 (n_ : Int) : Bool × List Row × List Row := (true, [[.bool (inR n_ 1 4)]], [])
def c124 : Contract
  | [[.int .i64 n_]] => some ((o124 n_).1, (o124 n_).2.1, (o124 n_).2.2)
  | _ => none

theorem r124 (n_ : Int) (n : Nat) : evFn ⟨prog, Hx, 124⟩ T126.call n f124 [[.int .i64 n_]] = some ([[D.bool (inR n_ (1) (4))]], []) := by kernel_rfl
theorem m124 (n_ : Int) (hpre : (o124 n_).1 = true) : evFn ⟨Go.Proofs.Try.prog, Hx, 124⟩ T126.call 0 f124 [[.int .i64 n_]] = some (o124 n_).2 := by
  refine (r124 n_ _).trans ?_
  show _ = (some ([[.bool (inR n_ 1 4)]], []) : Option (List Row × List Row))
  replace hpre : (true) = true := hpre
  rfl
theorem s124 : SoundAt Go.Proofs.Try.prog Hx 124 c124 := soundAt_of T126_sound mixed func124 (by kernel_rfl) (by
  intro rows r h
  unfold c124 at h
  split at h
  · rename_i n_
    obtain ⟨hp, hr⟩ := Prod.mk.inj (Option.some.inj h)
    subst hr
    exact ⟨_, m124 n_ hp⟩
  · cases h)
def T124 : Table := (124, c124) :: T126
theorem T124_sound : Table.Sound Go.Proofs.Try.prog Hx T124 := Table.sound_cons s124 T126_sound
def o128 (a : Heard) (b : Heard) : Bool × List Row × List Row := (true, [[.bool (aheadB a b)]], [])
def c128 : Contract
  | [[.int .i64 a_Addr, .int .i64 a_Vlan, .int .i64 a_Port, .int .i64 a_Left], [.int .i64 b_Addr, .int .i64 b_Vlan, .int .i64 b_Port, .int .i64 b_Left]] => some ((o128 ⟨a_Addr, a_Vlan, a_Port, a_Left⟩ ⟨b_Addr, b_Vlan, b_Port, b_Left⟩).1, (o128 ⟨a_Addr, a_Vlan, a_Port, a_Left⟩ ⟨b_Addr, b_Vlan, b_Port, b_Left⟩).2.1, (o128 ⟨a_Addr, a_Vlan, a_Port, a_Left⟩ ⟨b_Addr, b_Vlan, b_Port, b_Left⟩).2.2)
  | _ => none

theorem r128 (a : Heard) (b : Heard) (n : Nat) : evFn ⟨prog, Hx, 128⟩ T124.call n f128 [[.int .i64 a.Addr, .int .i64 a.Vlan, .int .i64 a.Port, .int .i64 a.Left], [.int .i64 b.Addr, .int .i64 b.Vlan, .int .i64 b.Port, .int .i64 b.Left]] = bif decide (Heard.Vlan a < Heard.Vlan b) then some ([[D.bool true]], []) else bif Heard.Vlan a == Heard.Vlan b then some ([[D.bool (decide (Heard.Addr a < Heard.Addr b))]], []) else some ([[D.bool false]], []) := by kernel_rfl
theorem m128 (a : Heard) (b : Heard) (hpre : (o128 a b).1 = true) : evFn ⟨Go.Proofs.Try.prog, Hx, 128⟩ T124.call 0 f128 [[.int .i64 a.Addr, .int .i64 a.Vlan, .int .i64 a.Port, .int .i64 a.Left], [.int .i64 b.Addr, .int .i64 b.Vlan, .int .i64 b.Port, .int .i64 b.Left]] = some (o128 a b).2 := by
  refine (r128 a b _).trans ?_
  show _ = (some ([[.bool (aheadB a b)]], []) : Option (List Row × List Row))
  replace hpre : (true) = true := hpre
  unfold aheadB
  cases decide (a.Vlan < b.Vlan) <;> cases a.Vlan == b.Vlan <;> rfl
theorem s128 : SoundAt Go.Proofs.Try.prog Hx 128 c128 := soundAt_of T124_sound mixed func128 (by kernel_rfl) (by
  intro rows r h
  unfold c128 at h
  split at h
  · rename_i a_Addr a_Vlan a_Port a_Left b_Addr b_Vlan b_Port b_Left
    obtain ⟨hp, hr⟩ := Prod.mk.inj (Option.some.inj h)
    subst hr
    exact ⟨_, m128 ⟨a_Addr, a_Vlan, a_Port, a_Left⟩ ⟨b_Addr, b_Vlan, b_Port, b_Left⟩ hp⟩
  · cases h)
def T128 : Table := (128, c128) :: T124
theorem T128_sound : Table.Sound Go.Proofs.Try.prog Hx T128 := Table.sound_cons s128 T124_sound
def o118 (a : Heard) (b : Heard) : Bool × List Row × List Row := (true, [[.bool (aheadB a b)]], [])
def c118 : Contract
  | [[.int .i64 a_Addr, .int .i64 a_Vlan, .int .i64 a_Port, .int .i64 a_Left], [.int .i64 b_Addr, .int .i64 b_Vlan, .int .i64 b_Port, .int .i64 b_Left]] => some ((o118 ⟨a_Addr, a_Vlan, a_Port, a_Left⟩ ⟨b_Addr, b_Vlan, b_Port, b_Left⟩).1, (o118 ⟨a_Addr, a_Vlan, a_Port, a_Left⟩ ⟨b_Addr, b_Vlan, b_Port, b_Left⟩).2.1, (o118 ⟨a_Addr, a_Vlan, a_Port, a_Left⟩ ⟨b_Addr, b_Vlan, b_Port, b_Left⟩).2.2)
  | _ => none

theorem r118 (a : Heard) (b : Heard) (n : Nat) : evFn ⟨prog, Hx, 118⟩ T128.call n f118 [[.int .i64 a.Addr, .int .i64 a.Vlan, .int .i64 a.Port, .int .i64 a.Left], [.int .i64 b.Addr, .int .i64 b.Vlan, .int .i64 b.Port, .int .i64 b.Left]] = bif decide (Heard.Vlan a < Heard.Vlan b) then some ([[D.bool true]], []) else bif Heard.Vlan a == Heard.Vlan b then some ([[D.bool (decide (Heard.Addr a < Heard.Addr b))]], []) else some ([[D.bool false]], []) := by kernel_rfl
theorem m118 (a : Heard) (b : Heard) (hpre : (o118 a b).1 = true) : evFn ⟨Go.Proofs.Try.prog, Hx, 118⟩ T128.call 0 f118 [[.int .i64 a.Addr, .int .i64 a.Vlan, .int .i64 a.Port, .int .i64 a.Left], [.int .i64 b.Addr, .int .i64 b.Vlan, .int .i64 b.Port, .int .i64 b.Left]] = some (o118 a b).2 := by
  refine (r118 a b _).trans ?_
  show _ = (some ([[.bool (aheadB a b)]], []) : Option (List Row × List Row))
  replace hpre : (true) = true := hpre
  unfold aheadB
  cases decide (a.Vlan < b.Vlan) <;> cases a.Vlan == b.Vlan <;> rfl
theorem s118 : SoundAt Go.Proofs.Try.prog Hx 118 c118 := soundAt_of T128_sound mixed func118 (by kernel_rfl) (by
  intro rows r h
  unfold c118 at h
  split at h
  · rename_i a_Addr a_Vlan a_Port a_Left b_Addr b_Vlan b_Port b_Left
    obtain ⟨hp, hr⟩ := Prod.mk.inj (Option.some.inj h)
    subst hr
    exact ⟨_, m118 ⟨a_Addr, a_Vlan, a_Port, a_Left⟩ ⟨b_Addr, b_Vlan, b_Port, b_Left⟩ hp⟩
  · cases h)
def T118 : Table := (118, c118) :: T128
theorem T118_sound : Table.Sound Go.Proofs.Try.prog Hx T118 := Table.sound_cons s118 T128_sound
def o76 (list : List Heard) : Bool × List Row × List Row := (decide (list.length ≤ 2097152), [[.bool (tableOk list)]], [])
def c76 : Contract
  | [[.sl false 4 list]] => some (isS Heard false list && (o76 (deS Heard list)).1, (o76 (deS Heard list)).2.1, (o76 (deS Heard list)).2.2)
  | _ => none

def k76_0 (n : Nat) : Ex → St → RR := kThen (fun st ↦ runCode (Ctx.mk prog Hx (76)) (Table.call T118) n (codeAt [1, 1] (bodyOf f76)) (Lv.mk 4 [] 4) st (kLeave (Ctx.P (Ctx.mk prog Hx (76))) (List.zip (Array.toList (Go.Func.resultTypes f76)) (Array.toList (Go.Func.results f76))) [] [])) (kLeave (Ctx.P (Ctx.mk prog Hx (76))) (List.zip (Array.toList (Go.Func.resultTypes f76)) (Array.toList (Go.Func.results f76))) [] [])
def k76_1 (n : Nat) : Ex → St → RR := kBlock (0) (k76_0 n)
def S76_0 (list : List Heard) (i0 : Int) : St := St.mk [V_ [C.d (D.sl false 4 (enS false list))], U_, U_, U_, U_, V_ [C.d (D.sl false 4 (enS false list))], I_ (ofNat (length (enS false list))), I_ i0, U_, U_, U_, U_, U_, U_, U_, U_, U_, U_, U_, U_, U_, U_, U_, U_, U_, U_, U_, U_, U_, U_, U_, U_, U_, U_, U_, U_, U_, U_, U_, U_, U_, U_, U_, U_, U_, U_, U_, U_, U_, U_] []
def B76_0 (n : Nat) : St → (Ex → St → RR) → RR := runCode (Ctx.mk prog Hx (76)) (Table.call T118) n (codeAt [1, 0, 1, 0, 0] (bodyOf f76)) (Lv.mk 225 [(0, 1)] 4)
def X76_2 (list : List Heard) (i0 : Int) : St := St.mk [V_ [C.d (D.sl false 4 (enS false list))], U_, B_ false, I_ i0, V_ [C.ptr 0 0 0 [] 4 0 0], V_ [C.d (D.sl false 4 (enS false list))], I_ (ofNat (length (enS false list))), I_ i0, B_ true, I_ i0, V_ [C.rptr (getD (enS false list) (toNat i0) [])], TV.v true [C.d (D.int i64 (D.num (getD (getD (enS false list) (toNat i0) []) 0 D.dead))), C.d (D.int i64 (D.num (getD (getD (enS false list) (toNat i0) []) 1 D.dead))), C.d (D.int i64 (D.num (getD (getD (enS false list) (toNat i0) []) 2 D.dead))), C.d (D.int i64 (D.num (getD (getD (enS false list) (toNat i0) []) 3 D.dead)))], V_ [C.ptr 0 0 0 [] 4 0 0], I_ (D.num (getD (getD (enS false list) (toNat i0) []) 0 D.dead)), B_ (inR (D.num (getD (getD (enS false list) (toNat i0) []) 0 D.dead)) (1) (9)), V_ [C.d (D.bool !inR (D.num (getD (getD (enS false list) (toNat i0) []) 0 D.dead)) (1) (9))], B_ true, V_ [C.gone], V_ [C.gone], V_ [C.gone], V_ [C.gone], B_ true, B_ true, V_ [C.gone], V_ [C.gone], V_ [C.gone], V_ [C.gone], B_ true, B_ true, V_ [C.gone], V_ [C.gone], V_ [C.gone], V_ [C.gone], B_ true, U_, U_, U_, U_, U_, U_, U_, U_, U_, U_, U_, U_, U_, U_, U_, U_] [Root.mk true 4 [[D.int i64 (D.num (getD (getD (enS false list) (toNat i0) []) 0 D.dead)), D.int i64 (D.num (getD (getD (enS false list) (toNat i0) []) 1 D.dead)), D.int i64 (D.num (getD (getD (enS false list) (toNat i0) []) 2 D.dead)), D.int i64 (D.num (getD (getD (enS false list) (toNat i0) []) 3 D.dead))]] 0 0 true true false]
def X76_3 (list : List Heard) (i0 : Int) : St := St.mk [V_ [C.d (D.sl false 4 (enS false list))], U_, B_ false, I_ i0, V_ [C.ptr 0 0 0 [] 4 0 0], V_ [C.d (D.sl false 4 (enS false list))], I_ (ofNat (length (enS false list))), I_ i0, B_ true, I_ i0, V_ [C.rptr (getD (enS false list) (toNat i0) [])], TV.v true [C.d (D.int i64 (D.num (getD (getD (enS false list) (toNat i0) []) 0 D.dead))), C.d (D.int i64 (D.num (getD (getD (enS false list) (toNat i0) []) 1 D.dead))), C.d (D.int i64 (D.num (getD (getD (enS false list) (toNat i0) []) 2 D.dead))), C.d (D.int i64 (D.num (getD (getD (enS false list) (toNat i0) []) 3 D.dead)))], V_ [C.ptr 0 0 0 [] 4 0 0], I_ (D.num (getD (getD (enS false list) (toNat i0) []) 0 D.dead)), B_ (inR (D.num (getD (getD (enS false list) (toNat i0) []) 0 D.dead)) (1) (9)), V_ [C.d (D.bool !inR (D.num (getD (getD (enS false list) (toNat i0) []) 0 D.dead)) (1) (9))], B_ false, V_ [C.ptr 0 0 0 [] 4 0 1], I_ (D.num (getD (getD (enS false list) (toNat i0) []) 1 D.dead)), B_ (inR (D.num (getD (getD (enS false list) (toNat i0) []) 1 D.dead)) (1) (4)), V_ [C.d (D.bool !inR (D.num (getD (getD (enS false list) (toNat i0) []) 1 D.dead)) (1) (4))], V_ [C.d (D.bool !inR (D.num (getD (getD (enS false list) (toNat i0) []) 1 D.dead)) (1) (4))], B_ true, V_ [C.gone], V_ [C.gone], V_ [C.gone], V_ [C.gone], B_ true, B_ true, V_ [C.gone], V_ [C.gone], V_ [C.gone], V_ [C.gone], B_ true, U_, U_, U_, U_, U_, U_, U_, U_, U_, U_, U_, U_, U_, U_, U_, U_] [Root.mk true 4 [[D.int i64 (D.num (getD (getD (enS false list) (toNat i0) []) 0 D.dead)), D.int i64 (D.num (getD (getD (enS false list) (toNat i0) []) 1 D.dead)), D.int i64 (D.num (getD (getD (enS false list) (toNat i0) []) 2 D.dead)), D.int i64 (D.num (getD (getD (enS false list) (toNat i0) []) 3 D.dead))]] 0 0 true true false]
def X76_4 (list : List Heard) (i0 : Int) : St := St.mk [V_ [C.d (D.sl false 4 (enS false list))], U_, B_ false, I_ i0, V_ [C.ptr 0 0 0 [] 4 0 0], V_ [C.d (D.sl false 4 (enS false list))], I_ (ofNat (length (enS false list))), I_ i0, B_ true, I_ i0, V_ [C.rptr (getD (enS false list) (toNat i0) [])], TV.v true [C.d (D.int i64 (D.num (getD (getD (enS false list) (toNat i0) []) 0 D.dead))), C.d (D.int i64 (D.num (getD (getD (enS false list) (toNat i0) []) 1 D.dead))), C.d (D.int i64 (D.num (getD (getD (enS false list) (toNat i0) []) 2 D.dead))), C.d (D.int i64 (D.num (getD (getD (enS false list) (toNat i0) []) 3 D.dead)))], V_ [C.ptr 0 0 0 [] 4 0 0], I_ (D.num (getD (getD (enS false list) (toNat i0) []) 0 D.dead)), B_ (inR (D.num (getD (getD (enS false list) (toNat i0) []) 0 D.dead)) (1) (9)), V_ [C.d (D.bool !inR (D.num (getD (getD (enS false list) (toNat i0) []) 0 D.dead)) (1) (9))], B_ false, V_ [C.ptr 0 0 0 [] 4 0 1], I_ (D.num (getD (getD (enS false list) (toNat i0) []) 1 D.dead)), B_ (inR (D.num (getD (getD (enS false list) (toNat i0) []) 1 D.dead)) (1) (4)), V_ [C.d (D.bool !inR (D.num (getD (getD (enS false list) (toNat i0) []) 1 D.dead)) (1) (4))], V_ [C.d (D.bool !inR (D.num (getD (getD (enS false list) (toNat i0) []) 1 D.dead)) (1) (4))], B_ false, V_ [C.ptr 0 0 0 [] 4 0 2], I_ (D.num (getD (getD (enS false list) (toNat i0) []) 2 D.dead)), B_ (isPortB (D.num (getD (getD (enS false list) (toNat i0) []) 2 D.dead))), V_ [C.d (D.bool !isPortB (D.num (getD (getD (enS false list) (toNat i0) []) 2 D.dead)))], V_ [C.d (D.bool !isPortB (D.num (getD (getD (enS false list) (toNat i0) []) 2 D.dead)))], B_ true, V_ [C.gone], V_ [C.gone], V_ [C.gone], V_ [C.gone], B_ true, U_, U_, U_, U_, U_, U_, U_, U_, U_, U_, U_, U_, U_, U_, U_, U_] [Root.mk true 4 [[D.int i64 (D.num (getD (getD (enS false list) (toNat i0) []) 0 D.dead)), D.int i64 (D.num (getD (getD (enS false list) (toNat i0) []) 1 D.dead)), D.int i64 (D.num (getD (getD (enS false list) (toNat i0) []) 2 D.dead)), D.int i64 (D.num (getD (getD (enS false list) (toNat i0) []) 3 D.dead))]] 0 0 true true false]
def X76_5 (list : List Heard) (i0 : Int) : St := St.mk [V_ [C.d (D.sl false 4 (enS false list))], U_, B_ false, I_ i0, V_ [C.ptr 0 0 0 [] 4 0 0], V_ [C.d (D.sl false 4 (enS false list))], I_ (ofNat (length (enS false list))), I_ i0, B_ true, I_ i0, V_ [C.rptr (getD (enS false list) (toNat i0) [])], TV.v true [C.d (D.int i64 (D.num (getD (getD (enS false list) (toNat i0) []) 0 D.dead))), C.d (D.int i64 (D.num (getD (getD (enS false list) (toNat i0) []) 1 D.dead))), C.d (D.int i64 (D.num (getD (getD (enS false list) (toNat i0) []) 2 D.dead))), C.d (D.int i64 (D.num (getD (getD (enS false list) (toNat i0) []) 3 D.dead)))], V_ [C.ptr 0 0 0 [] 4 0 0], I_ (D.num (getD (getD (enS false list) (toNat i0) []) 0 D.dead)), B_ (inR (D.num (getD (getD (enS false list) (toNat i0) []) 0 D.dead)) (1) (9)), V_ [C.d (D.bool !inR (D.num (getD (getD (enS false list) (toNat i0) []) 0 D.dead)) (1) (9))], B_ false, V_ [C.ptr 0 0 0 [] 4 0 1], I_ (D.num (getD (getD (enS false list) (toNat i0) []) 1 D.dead)), B_ (inR (D.num (getD (getD (enS false list) (toNat i0) []) 1 D.dead)) (1) (4)), V_ [C.d (D.bool !inR (D.num (getD (getD (enS false list) (toNat i0) []) 1 D.dead)) (1) (4))], V_ [C.d (D.bool !inR (D.num (getD (getD (enS false list) (toNat i0) []) 1 D.dead)) (1) (4))], B_ false, V_ [C.ptr 0 0 0 [] 4 0 2], I_ (D.num (getD (getD (enS false list) (toNat i0) []) 2 D.dead)), B_ (isPortB (D.num (getD (getD (enS false list) (toNat i0) []) 2 D.dead))), V_ [C.d (D.bool !isPortB (D.num (getD (getD (enS false list) (toNat i0) []) 2 D.dead)))], V_ [C.d (D.bool !isPortB (D.num (getD (getD (enS false list) (toNat i0) []) 2 D.dead)))], B_ false, V_ [C.ptr 0 0 0 [] 4 0 3], I_ (D.num (getD (getD (enS false list) (toNat i0) []) 3 D.dead)), B_ (inR (D.num (getD (getD (enS false list) (toNat i0) []) 3 D.dead)) (1) (20)), V_ [C.d (D.bool !inR (D.num (getD (getD (enS false list) (toNat i0) []) 3 D.dead)) (1) (20))], B_ true, U_, U_, U_, U_, U_, U_, U_, U_, U_, U_, U_, U_, U_, U_, U_, U_] [Root.mk true 4 [[D.int i64 (D.num (getD (getD (enS false list) (toNat i0) []) 0 D.dead)), D.int i64 (D.num (getD (getD (enS false list) (toNat i0) []) 1 D.dead)), D.int i64 (D.num (getD (getD (enS false list) (toNat i0) []) 2 D.dead)), D.int i64 (D.num (getD (getD (enS false list) (toNat i0) []) 3 D.dead))]] 0 0 true true false]
def X76_6 (list : List Heard) (i0 : Int) : St := St.mk [V_ [C.d (D.sl false 4 (enS false list))], U_, B_ false, I_ i0, V_ [C.ptr 0 0 0 [] 4 0 0], V_ [C.d (D.sl false 4 (enS false list))], I_ (ofNat (length (enS false list))), I_ i0, B_ true, I_ i0, V_ [C.rptr (getD (enS false list) (toNat i0) [])], TV.v true [C.d (D.int i64 (D.num (getD (getD (enS false list) (toNat i0) []) 0 D.dead))), C.d (D.int i64 (D.num (getD (getD (enS false list) (toNat i0) []) 1 D.dead))), C.d (D.int i64 (D.num (getD (getD (enS false list) (toNat i0) []) 2 D.dead))), C.d (D.int i64 (D.num (getD (getD (enS false list) (toNat i0) []) 3 D.dead)))], V_ [C.ptr 0 0 0 [] 4 0 0], I_ (D.num (getD (getD (enS false list) (toNat i0) []) 0 D.dead)), B_ (inR (D.num (getD (getD (enS false list) (toNat i0) []) 0 D.dead)) (1) (9)), V_ [C.d (D.bool !inR (D.num (getD (getD (enS false list) (toNat i0) []) 0 D.dead)) (1) (9))], B_ false, V_ [C.ptr 0 0 0 [] 4 0 1], I_ (D.num (getD (getD (enS false list) (toNat i0) []) 1 D.dead)), B_ (inR (D.num (getD (getD (enS false list) (toNat i0) []) 1 D.dead)) (1) (4)), V_ [C.d (D.bool !inR (D.num (getD (getD (enS false list) (toNat i0) []) 1 D.dead)) (1) (4))], V_ [C.d (D.bool !inR (D.num (getD (getD (enS false list) (toNat i0) []) 1 D.dead)) (1) (4))], B_ false, V_ [C.ptr 0 0 0 [] 4 0 2], I_ (D.num (getD (getD (enS false list) (toNat i0) []) 2 D.dead)), B_ (isPortB (D.num (getD (getD (enS false list) (toNat i0) []) 2 D.dead))), V_ [C.d (D.bool !isPortB (D.num (getD (getD (enS false list) (toNat i0) []) 2 D.dead)))], V_ [C.d (D.bool !isPortB (D.num (getD (getD (enS false list) (toNat i0) []) 2 D.dead)))], B_ false, V_ [C.ptr 0 0 0 [] 4 0 3], I_ (D.num (getD (getD (enS false list) (toNat i0) []) 3 D.dead)), B_ (inR (D.num (getD (getD (enS false list) (toNat i0) []) 3 D.dead)) (1) (20)), V_ [C.d (D.bool !inR (D.num (getD (getD (enS false list) (toNat i0) []) 3 D.dead)) (1) (20))], B_ false, I_ i0, B_ (decide (i0 > 0)), B_ true, V_ [C.d (D.sl false 4 (enS false list))], I_ i0, I_ (wrap i64 (i0 - 1)), V_ [C.rptr (getD (enS false list) (toNat (wrap i64 (i0 - 1))) [])], TV.v true [C.d (D.int i64 (D.num (getD (getD (enS false list) (toNat (wrap i64 (i0 - 1))) []) 0 D.dead))), C.d (D.int i64 (D.num (getD (getD (enS false list) (toNat (wrap i64 (i0 - 1))) []) 1 D.dead))), C.d (D.int i64 (D.num (getD (getD (enS false list) (toNat (wrap i64 (i0 - 1))) []) 2 D.dead))), C.d (D.int i64 (D.num (getD (getD (enS false list) (toNat (wrap i64 (i0 - 1))) []) 3 D.dead)))], TV.v true [C.d (D.int i64 (D.num (getD (getD (enS false list) (toNat i0) []) 0 D.dead))), C.d (D.int i64 (D.num (getD (getD (enS false list) (toNat i0) []) 1 D.dead))), C.d (D.int i64 (D.num (getD (getD (enS false list) (toNat i0) []) 2 D.dead))), C.d (D.int i64 (D.num (getD (getD (enS false list) (toNat i0) []) 3 D.dead)))], B_ (aheadB (Heard.mk (D.num (getD (getD (enS false list) (toNat (wrap i64 (i0 - 1))) []) 0 D.dead)) (D.num (getD (getD (enS false list) (toNat (wrap i64 (i0 - 1))) []) 1 D.dead)) (D.num (getD (getD (enS false list) (toNat (wrap i64 (i0 - 1))) []) 2 D.dead)) (D.num (getD (getD (enS false list) (toNat (wrap i64 (i0 - 1))) []) 3 D.dead))) (Heard.mk (D.num (getD (getD (enS false list) (toNat i0) []) 0 D.dead)) (D.num (getD (getD (enS false list) (toNat i0) []) 1 D.dead)) (D.num (getD (getD (enS false list) (toNat i0) []) 2 D.dead)) (D.num (getD (getD (enS false list) (toNat i0) []) 3 D.dead)))), V_ [C.d (D.bool !aheadB (Heard.mk (D.num (getD (getD (enS false list) (toNat (wrap i64 (i0 - 1))) []) 0 D.dead)) (D.num (getD (getD (enS false list) (toNat (wrap i64 (i0 - 1))) []) 1 D.dead)) (D.num (getD (getD (enS false list) (toNat (wrap i64 (i0 - 1))) []) 2 D.dead)) (D.num (getD (getD (enS false list) (toNat (wrap i64 (i0 - 1))) []) 3 D.dead))) (Heard.mk (D.num (getD (getD (enS false list) (toNat i0) []) 0 D.dead)) (D.num (getD (getD (enS false list) (toNat i0) []) 1 D.dead)) (D.num (getD (getD (enS false list) (toNat i0) []) 2 D.dead)) (D.num (getD (getD (enS false list) (toNat i0) []) 3 D.dead))))], B_ true, U_, U_, U_, U_] [Root.mk true 4 [[D.int i64 (D.num (getD (getD (enS false list) (toNat i0) []) 0 D.dead)), D.int i64 (D.num (getD (getD (enS false list) (toNat i0) []) 1 D.dead)), D.int i64 (D.num (getD (getD (enS false list) (toNat i0) []) 2 D.dead)), D.int i64 (D.num (getD (getD (enS false list) (toNat i0) []) 3 D.dead))]] 0 0 true true false]
def X76_7 (list : List Heard) (i0 : Int) : St := St.mk [V_ [C.d (D.sl false 4 (enS false list))], U_, U_, U_, U_, V_ [C.d (D.sl false 4 (enS false list))], I_ (ofNat (length (enS false list))), I_ i0, B_ false, U_, U_, U_, U_, U_, U_, U_, U_, U_, U_, U_, U_, U_, U_, U_, U_, U_, U_, U_, U_, U_, U_, U_, U_, U_, U_, U_, U_, U_, U_, U_, U_, U_, U_, U_, U_, U_, U_, U_, U_, U_] []
theorem q76_0 (list : List Heard) (n : Nat) (i0 : Int) (f : St → RR) (K : Ex → St → RR) : B76_0 n (S76_0 list i0) (kThen (fun st ↦ f (St.head 0 225 140737488355228 st)) K) = bif decide (i0 < ofNat (length (enS false list))) then bif decide (0 ≤ i0) && decide (i0 < ofNat (length (enS false list))) then bif Leaf.fit false (Leaf.int i64) (getD (getD (enS false list) (toNat i0) []) 0 D.dead) && (Leaf.fit false (Leaf.int i64) (getD (getD (enS false list) (toNat i0) []) 1 D.dead) && (Leaf.fit false (Leaf.int i64) (getD (getD (enS false list) (toNat i0) []) 2 D.dead) && (Leaf.fit false (Leaf.int i64) (getD (getD (enS false list) (toNat i0) []) 3 D.dead) && true))) then bif !inR (D.num (getD (getD (enS false list) (toNat i0) []) 0 D.dead)) (1) (9) then K Ex.ret (X76_2 list i0) else bif !inR (D.num (getD (getD (enS false list) (toNat i0) []) 1 D.dead)) (1) (4) then K Ex.ret (X76_3 list i0) else bif !isPortB (D.num (getD (getD (enS false list) (toNat i0) []) 2 D.dead)) then K Ex.ret (X76_4 list i0) else bif !inR (D.num (getD (getD (enS false list) (toNat i0) []) 3 D.dead)) (1) (20) then K Ex.ret (X76_5 list i0) else bif decide (i0 > 0) then bif decide (0 ≤ wrap i64 (i0 - 1)) && decide (wrap i64 (i0 - 1) < ofNat (length (enS false list))) then bif Leaf.fit false (Leaf.int i64) (getD (getD (enS false list) (toNat (wrap i64 (i0 - 1))) []) 0 D.dead) && (Leaf.fit false (Leaf.int i64) (getD (getD (enS false list) (toNat (wrap i64 (i0 - 1))) []) 1 D.dead) && (Leaf.fit false (Leaf.int i64) (getD (getD (enS false list) (toNat (wrap i64 (i0 - 1))) []) 2 D.dead) && (Leaf.fit false (Leaf.int i64) (getD (getD (enS false list) (toNat (wrap i64 (i0 - 1))) []) 3 D.dead) && true))) then bif !aheadB (Heard.mk (D.num (getD (getD (enS false list) (toNat (wrap i64 (i0 - 1))) []) 0 D.dead)) (D.num (getD (getD (enS false list) (toNat (wrap i64 (i0 - 1))) []) 1 D.dead)) (D.num (getD (getD (enS false list) (toNat (wrap i64 (i0 - 1))) []) 2 D.dead)) (D.num (getD (getD (enS false list) (toNat (wrap i64 (i0 - 1))) []) 3 D.dead))) (Heard.mk (D.num (getD (getD (enS false list) (toNat i0) []) 0 D.dead)) (D.num (getD (getD (enS false list) (toNat i0) []) 1 D.dead)) (D.num (getD (getD (enS false list) (toNat i0) []) 2 D.dead)) (D.num (getD (getD (enS false list) (toNat i0) []) 3 D.dead))) then K Ex.ret (X76_6 list i0) else f (S76_0 list (wrap i64 (i0 + 1))) else none else none else f (S76_0 list (wrap i64 (i0 + 1))) else none else none else K (Ex.exit 0) (X76_7 list i0) := by kernel_rfl
theorem aX76_2 (list : List Heard) (n : Nat) (i0 : Int) : k76_1 n Ex.ret (X76_2 list i0) = some ([[D.bool false]], []) := by kernel_rfl
theorem aX76_3 (list : List Heard) (n : Nat) (i0 : Int) : k76_1 n Ex.ret (X76_3 list i0) = some ([[D.bool false]], []) := by kernel_rfl
theorem aX76_4 (list : List Heard) (n : Nat) (i0 : Int) : k76_1 n Ex.ret (X76_4 list i0) = some ([[D.bool false]], []) := by kernel_rfl
theorem aX76_5 (list : List Heard) (n : Nat) (i0 : Int) : k76_1 n Ex.ret (X76_5 list i0) = some ([[D.bool false]], []) := by kernel_rfl
theorem aX76_6 (list : List Heard) (n : Nat) (i0 : Int) : k76_1 n Ex.ret (X76_6 list i0) = some ([[D.bool false]], []) := by kernel_rfl
theorem aX76_7 (list : List Heard) (n : Nat) (i0 : Int) : k76_1 n (Ex.exit 0) (X76_7 list i0) = some ([[D.bool (decide (ofNat (length (enS false list)) ≤ 12))]], []) := by kernel_rfl
theorem r76 (list : List Heard) (n : Nat) : evFn ⟨prog, Hx, 76⟩ T118.call n f76 [[.sl false 4 (enS false list)]] = loopRun (B76_0 n) 0 225 140737488355228 n (S76_0 list (0)) (k76_1 n) := by kernel_rfl
theorem m76 (list : List Heard) (hpre : (o76 list).1 = true) : evFn ⟨Go.Proofs.Try.prog, Hx, 76⟩ T118.call (list.length + 1) f76 [[.sl false 4 (enS false list)]] = some (o76 list).2 := by
  refine (r76 list _).trans ?_
  show _ = (some ([[.bool (tableOk list)]], []) : Option (List Row × List Row))
  replace hpre : (decide (list.length ≤ 2097152)) = true := hpre
  have hlen := of_decide_eq_true hpre
  unfold tableOk
  refine loop_list (xs := list) (fun i (_ : Unit) => S76_0 list (Int.ofNat i)) (fun _ _ => True) (fun i _ rest => some ([[D.bool (stepsOk (prevAt list i) rest && decide (list.length ≤ 12))]], [])) ?_ ?_ (list.length + 1) () (by omega) trivial
  · rintro _ _ f
    refine (q76_0 list _ _ f _).trans ?_
    rw [end_lt, cond_false]
    refine (aX76_7 list _ _).trans ?_
    simp only [enS_length, stepsOk, Bool.true_and]
    have hd : decide (Int.ofNat list.length ≤ 12) = decide (list.length ≤ 12) := decide_eq_decide.2 (by show (list.length : Int) ≤ 12 ↔ _; omega)
    rw [hd]
  · rintro i _ hi _ f hf
    refine (q76_0 list _ _ f _).trans ?_
    rw [steps_cons]
    unfold heardOk
    cases h1 : inR list[i].Addr 1 9
    · simp only [enS_length, toNat_of, dec_lt, dec_ge, decide_true, decide_false, cond_true, cond_false, Bool.and_self, Bool.and_true, Bool.true_and, Bool.not_true, Bool.not_false, Nat.lt_irrefl, Nat.zero_add, isS_enS, deS_enS, isS_nil, deS_nil, List.nil_append, lendRows_enS, deepRows_enS, noSl_u8, En.enc, List.getD_cons_zero, List.getD_cons_succ, D.num, D.flag, D.text, D.rows, Leaf.fit, List.append_eq, TReader.eta, Frame.eta, Heard.eta, Member.eta, Card.eta, Out1.eta, Vec.eta, Port.eta, Bridge.eta, In.eta, Out.eta, Link.eta, Net.eta, TEnd.eta, Minder.eta, Reg.eta, Wire.eta, Box.eta, Deed.eta, Bpdu.eta, Visit.eta, Fabric.eta, Got.eta, TRide.eta, Up.eta, Copy.eta, Bucket.eta, Snap.eta, TL9Cur.eta, TL21In.eta, enS_get _ hi, hi, wrap_succ (show i < 4611686018427387904 by omega), h1]
      exact aX76_2 list _ _
    cases h2 : inR list[i].Vlan 1 4
    · simp only [enS_length, toNat_of, dec_lt, dec_ge, decide_true, decide_false, cond_true, cond_false, Bool.and_self, Bool.and_true, Bool.true_and, Bool.not_true, Bool.not_false, Nat.lt_irrefl, Nat.zero_add, isS_enS, deS_enS, isS_nil, deS_nil, List.nil_append, lendRows_enS, deepRows_enS, noSl_u8, En.enc, List.getD_cons_zero, List.getD_cons_succ, D.num, D.flag, D.text, D.rows, Leaf.fit, List.append_eq, TReader.eta, Frame.eta, Heard.eta, Member.eta, Card.eta, Out1.eta, Vec.eta, Port.eta, Bridge.eta, In.eta, Out.eta, Link.eta, Net.eta, TEnd.eta, Minder.eta, Reg.eta, Wire.eta, Box.eta, Deed.eta, Bpdu.eta, Visit.eta, Fabric.eta, Got.eta, TRide.eta, Up.eta, Copy.eta, Bucket.eta, Snap.eta, TL9Cur.eta, TL21In.eta, enS_get _ hi, hi, wrap_succ (show i < 4611686018427387904 by omega), h1, h2]
      exact aX76_3 list _ _
    cases h3 : inR list[i].Port 0 3
    · simp only [enS_length, toNat_of, dec_lt, dec_ge, decide_true, decide_false, cond_true, cond_false, Bool.and_self, Bool.and_true, Bool.true_and, Bool.not_true, Bool.not_false, Nat.lt_irrefl, Nat.zero_add, isS_enS, deS_enS, isS_nil, deS_nil, List.nil_append, lendRows_enS, deepRows_enS, noSl_u8, En.enc, List.getD_cons_zero, List.getD_cons_succ, D.num, D.flag, D.text, D.rows, Leaf.fit, List.append_eq, TReader.eta, Frame.eta, Heard.eta, Member.eta, Card.eta, Out1.eta, Vec.eta, Port.eta, Bridge.eta, In.eta, Out.eta, Link.eta, Net.eta, TEnd.eta, Minder.eta, Reg.eta, Wire.eta, Box.eta, Deed.eta, Bpdu.eta, Visit.eta, Fabric.eta, Got.eta, TRide.eta, Up.eta, Copy.eta, Bucket.eta, Snap.eta, TL9Cur.eta, TL21In.eta, enS_get _ hi, hi, wrap_succ (show i < 4611686018427387904 by omega), h1, h2, h3, isPortB]
      exact aX76_4 list _ _
    cases h4 : inR list[i].Left 1 20
    · simp only [enS_length, toNat_of, dec_lt, dec_ge, decide_true, decide_false, cond_true, cond_false, Bool.and_self, Bool.and_true, Bool.true_and, Bool.not_true, Bool.not_false, Nat.lt_irrefl, Nat.zero_add, isS_enS, deS_enS, isS_nil, deS_nil, List.nil_append, lendRows_enS, deepRows_enS, noSl_u8, En.enc, List.getD_cons_zero, List.getD_cons_succ, D.num, D.flag, D.text, D.rows, Leaf.fit, List.append_eq, TReader.eta, Frame.eta, Heard.eta, Member.eta, Card.eta, Out1.eta, Vec.eta, Port.eta, Bridge.eta, In.eta, Out.eta, Link.eta, Net.eta, TEnd.eta, Minder.eta, Reg.eta, Wire.eta, Box.eta, Deed.eta, Bpdu.eta, Visit.eta, Fabric.eta, Got.eta, TRide.eta, Up.eta, Copy.eta, Bucket.eta, Snap.eta, TL9Cur.eta, TL21In.eta, enS_get _ hi, hi, wrap_succ (show i < 4611686018427387904 by omega), h1, h2, h3, h4, isPortB]
      exact aX76_5 list _ _
    cases i with
    | zero =>
      have h0 : decide (Int.ofNat 0 > 0) = false := rfl
      simp only [enS_length, toNat_of, dec_lt, dec_ge, decide_true, decide_false, cond_true, cond_false, Bool.and_self, Bool.and_true, Bool.true_and, Bool.not_true, Bool.not_false, En.enc, List.getD_cons_zero, List.getD_cons_succ, D.num, Leaf.fit, Heard.eta, enS_get _ hi, hi, h0, h1, h2, h3, h4, isPortB, beq_self_eq_true, wrap_succ (show 0 < 4611686018427387904 by omega)]
      exact (hf () trivial).trans (by rw [show prevAt list (0 + 1) = some list[0] from List.getElem?_eq_getElem hi]; rfl)
    | succ i =>
      have hi' : i < list.length := by omega
      have h0 : decide (Int.ofNat (i + 1) > 0) = true := decide_eq_true (by show (0 : Int) < ((i + 1 : Nat) : Int); omega)
      have hw : IntKind.wrap IntKind.i64 (Int.ofNat (i + 1) - 1) = Int.ofNat i := by rw [show Int.ofNat (i + 1) - 1 = Int.ofNat i by show ((i + 1 : Nat) : Int) - 1 = (i : Int); omega]; exact wrap_nat (by omega)
      have h5 : decide (0 ≤ Int.ofNat i) = true := decide_eq_true (by show (0 : Int) ≤ (i : Int); omega)
      have hp : prevAt list (i + 1) = some list[i] := List.getElem?_eq_getElem hi'
      have hn : prevAt list (i + 1 + 1) = some list[i + 1] := List.getElem?_eq_getElem hi
      rw [hp]
      cases h6 : aheadB list[i] list[i + 1]
      · simp only [enS_length, toNat_of, dec_lt, dec_ge, decide_true, decide_false, cond_true, cond_false, Bool.and_self, Bool.and_true, Bool.true_and, Bool.not_true, Bool.not_false, En.enc, List.getD_cons_zero, List.getD_cons_succ, D.num, Leaf.fit, Heard.eta, enS_get _ hi, enS_get _ hi', hi, hi', h0, h1, h2, h3, h4, h5, hw, h6, isPortB, beq_self_eq_true, Bool.false_and]
        exact aX76_6 list _ _
      · simp only [enS_length, toNat_of, dec_lt, dec_ge, decide_true, decide_false, cond_true, cond_false, Bool.and_self, Bool.and_true, Bool.true_and, Bool.not_true, Bool.not_false, En.enc, List.getD_cons_zero, List.getD_cons_succ, D.num, Leaf.fit, Heard.eta, enS_get _ hi, enS_get _ hi', hi, hi', h0, h1, h2, h3, h4, h5, hw, h6, isPortB, beq_self_eq_true, wrap_succ (show i + 1 < 4611686018427387904 by omega)]
        exact (hf () trivial).trans (by rw [hn])
theorem s76 : SoundAt Go.Proofs.Try.prog Hx 76 c76 := soundAt_of T118_sound mixed func76 (by kernel_rfl) (by
  intro rows r h
  unfold c76 at h
  split at h
  · rename_i list
    obtain ⟨hp, hr⟩ := Prod.mk.inj (Option.some.inj h)
    subst hr
    simp only [Bool.and_eq_true] at hp
    obtain ⟨hs0, hp⟩ := hp
    obtain ⟨xs0, rfl⟩ := isS_ex hs0
    simp only [deS_enS] at hp ⊢
    exact ⟨_, m76 xs0 hp⟩
  · cases h)
def T76 : Table := (76, c76) :: T118
theorem T76_sound : Table.Sound Go.Proofs.Try.prog Hx T76 := Table.sound_cons s76 T118_sound
def o71 (list : List Heard) : Bool × List Row × List Row := (decide (list.length ≤ 2097152), [[.bool (tableOk list)]], [])
def c71 : Contract
  | [[.sl false 4 list]] => some (isS Heard false list && (o71 (deS Heard list)).1, (o71 (deS Heard list)).2.1, (o71 (deS Heard list)).2.2)
  | _ => none

def k71_0 (n : Nat) : Ex → St → RR := kThen (fun st ↦ runCode (Ctx.mk prog Hx (71)) (Table.call T76) n (codeAt [1, 1] (bodyOf f71)) (Lv.mk 4 [] 4) st (kLeave (Ctx.P (Ctx.mk prog Hx (71))) (List.zip (Array.toList (Go.Func.resultTypes f71)) (Array.toList (Go.Func.results f71))) [] [])) (kLeave (Ctx.P (Ctx.mk prog Hx (71))) (List.zip (Array.toList (Go.Func.resultTypes f71)) (Array.toList (Go.Func.results f71))) [] [])
def k71_1 (n : Nat) : Ex → St → RR := kBlock (0) (k71_0 n)
def S71_0 (list : List Heard) (i0 : Int) : St := St.mk [V_ [C.d (D.sl false 4 (enS false list))], U_, U_, I_ i0, U_, U_, U_, U_, U_, U_, U_, U_, U_, U_, U_, U_, U_, U_, U_, U_, U_, U_, U_, U_, U_, U_, U_, U_, U_, U_, U_, U_, U_, U_, U_, U_, U_, U_, U_, U_, U_, U_, U_, U_, U_, U_, U_, U_, U_, U_, U_, U_, U_, U_] []
def B71_0 (n : Nat) : St → (Ex → St → RR) → RR := runCode (Ctx.mk prog Hx (71)) (Table.call T76) n (codeAt [1, 0, 1, 0, 0] (bodyOf f71)) (Lv.mk 9 [(0, 1)] 4)
def X71_2 (list : List Heard) (i0 : Int) : St := St.mk [V_ [C.d (D.sl false 4 (enS false list))], U_, B_ false, I_ i0, V_ [C.ptr 0 0 0 [] 4 0 0], I_ i0, V_ [C.d (D.sl false 4 (enS false list))], I_ (ofNat (length (enS false list))), B_ true, U_, U_, V_ [C.d (D.sl false 4 (enS false list))], I_ i0, V_ [C.rptr (getD (enS false list) (toNat i0) [])], TV.v true [C.d (D.int i64 (D.num (getD (getD (enS false list) (toNat i0) []) 0 D.dead))), C.d (D.int i64 (D.num (getD (getD (enS false list) (toNat i0) []) 1 D.dead))), C.d (D.int i64 (D.num (getD (getD (enS false list) (toNat i0) []) 2 D.dead))), C.d (D.int i64 (D.num (getD (getD (enS false list) (toNat i0) []) 3 D.dead)))], V_ [C.ptr 0 0 0 [] 4 0 0], I_ (D.num (getD (getD (enS false list) (toNat i0) []) 0 D.dead)), B_ (inR (D.num (getD (getD (enS false list) (toNat i0) []) 0 D.dead)) (1) (9)), V_ [C.d (D.bool !inR (D.num (getD (getD (enS false list) (toNat i0) []) 0 D.dead)) (1) (9))], B_ true, V_ [C.gone], V_ [C.gone], V_ [C.gone], V_ [C.gone], B_ true, B_ true, V_ [C.gone], V_ [C.gone], V_ [C.gone], V_ [C.gone], B_ true, B_ true, V_ [C.gone], V_ [C.gone], V_ [C.gone], V_ [C.gone], B_ true, B_ true, V_ [C.gone], V_ [C.gone], V_ [C.gone], V_ [C.gone], V_ [C.gone], V_ [C.gone], V_ [C.gone], V_ [C.gone], V_ [C.gone], V_ [C.gone], V_ [C.gone], V_ [C.gone], B_ true, U_, U_, U_] [Root.mk true 4 [[D.int i64 (D.num (getD (getD (enS false list) (toNat i0) []) 0 D.dead)), D.int i64 (D.num (getD (getD (enS false list) (toNat i0) []) 1 D.dead)), D.int i64 (D.num (getD (getD (enS false list) (toNat i0) []) 2 D.dead)), D.int i64 (D.num (getD (getD (enS false list) (toNat i0) []) 3 D.dead))]] 0 0 true true false]
def X71_3 (list : List Heard) (i0 : Int) : St := St.mk [V_ [C.d (D.sl false 4 (enS false list))], U_, B_ false, I_ i0, V_ [C.ptr 0 0 0 [] 4 0 0], I_ i0, V_ [C.d (D.sl false 4 (enS false list))], I_ (ofNat (length (enS false list))), B_ true, U_, U_, V_ [C.d (D.sl false 4 (enS false list))], I_ i0, V_ [C.rptr (getD (enS false list) (toNat i0) [])], TV.v true [C.d (D.int i64 (D.num (getD (getD (enS false list) (toNat i0) []) 0 D.dead))), C.d (D.int i64 (D.num (getD (getD (enS false list) (toNat i0) []) 1 D.dead))), C.d (D.int i64 (D.num (getD (getD (enS false list) (toNat i0) []) 2 D.dead))), C.d (D.int i64 (D.num (getD (getD (enS false list) (toNat i0) []) 3 D.dead)))], V_ [C.ptr 0 0 0 [] 4 0 0], I_ (D.num (getD (getD (enS false list) (toNat i0) []) 0 D.dead)), B_ (inR (D.num (getD (getD (enS false list) (toNat i0) []) 0 D.dead)) (1) (9)), V_ [C.d (D.bool !inR (D.num (getD (getD (enS false list) (toNat i0) []) 0 D.dead)) (1) (9))], B_ false, V_ [C.ptr 0 0 0 [] 4 0 1], I_ (D.num (getD (getD (enS false list) (toNat i0) []) 1 D.dead)), B_ (inR (D.num (getD (getD (enS false list) (toNat i0) []) 1 D.dead)) (1) (4)), V_ [C.d (D.bool !inR (D.num (getD (getD (enS false list) (toNat i0) []) 1 D.dead)) (1) (4))], V_ [C.d (D.bool !inR (D.num (getD (getD (enS false list) (toNat i0) []) 1 D.dead)) (1) (4))], B_ true, V_ [C.gone], V_ [C.gone], V_ [C.gone], V_ [C.gone], B_ true, B_ true, V_ [C.gone], V_ [C.gone], V_ [C.gone], V_ [C.gone], B_ true, B_ true, V_ [C.gone], V_ [C.gone], V_ [C.gone], V_ [C.gone], V_ [C.gone], V_ [C.gone], V_ [C.gone], V_ [C.gone], V_ [C.gone], V_ [C.gone], V_ [C.gone], V_ [C.gone], B_ true, U_, U_, U_] [Root.mk true 4 [[D.int i64 (D.num (getD (getD (enS false list) (toNat i0) []) 0 D.dead)), D.int i64 (D.num (getD (getD (enS false list) (toNat i0) []) 1 D.dead)), D.int i64 (D.num (getD (getD (enS false list) (toNat i0) []) 2 D.dead)), D.int i64 (D.num (getD (getD (enS false list) (toNat i0) []) 3 D.dead))]] 0 0 true true false]
def X71_4 (list : List Heard) (i0 : Int) : St := St.mk [V_ [C.d (D.sl false 4 (enS false list))], U_, B_ false, I_ i0, V_ [C.ptr 0 0 0 [] 4 0 0], I_ i0, V_ [C.d (D.sl false 4 (enS false list))], I_ (ofNat (length (enS false list))), B_ true, U_, U_, V_ [C.d (D.sl false 4 (enS false list))], I_ i0, V_ [C.rptr (getD (enS false list) (toNat i0) [])], TV.v true [C.d (D.int i64 (D.num (getD (getD (enS false list) (toNat i0) []) 0 D.dead))), C.d (D.int i64 (D.num (getD (getD (enS false list) (toNat i0) []) 1 D.dead))), C.d (D.int i64 (D.num (getD (getD (enS false list) (toNat i0) []) 2 D.dead))), C.d (D.int i64 (D.num (getD (getD (enS false list) (toNat i0) []) 3 D.dead)))], V_ [C.ptr 0 0 0 [] 4 0 0], I_ (D.num (getD (getD (enS false list) (toNat i0) []) 0 D.dead)), B_ (inR (D.num (getD (getD (enS false list) (toNat i0) []) 0 D.dead)) (1) (9)), V_ [C.d (D.bool !inR (D.num (getD (getD (enS false list) (toNat i0) []) 0 D.dead)) (1) (9))], B_ false, V_ [C.ptr 0 0 0 [] 4 0 1], I_ (D.num (getD (getD (enS false list) (toNat i0) []) 1 D.dead)), B_ (inR (D.num (getD (getD (enS false list) (toNat i0) []) 1 D.dead)) (1) (4)), V_ [C.d (D.bool !inR (D.num (getD (getD (enS false list) (toNat i0) []) 1 D.dead)) (1) (4))], V_ [C.d (D.bool !inR (D.num (getD (getD (enS false list) (toNat i0) []) 1 D.dead)) (1) (4))], B_ false, V_ [C.ptr 0 0 0 [] 4 0 2], I_ (D.num (getD (getD (enS false list) (toNat i0) []) 2 D.dead)), B_ (inR (D.num (getD (getD (enS false list) (toNat i0) []) 2 D.dead)) (0) (3)), V_ [C.d (D.bool !inR (D.num (getD (getD (enS false list) (toNat i0) []) 2 D.dead)) (0) (3))], V_ [C.d (D.bool !inR (D.num (getD (getD (enS false list) (toNat i0) []) 2 D.dead)) (0) (3))], B_ true, V_ [C.gone], V_ [C.gone], V_ [C.gone], V_ [C.gone], B_ true, B_ true, V_ [C.gone], V_ [C.gone], V_ [C.gone], V_ [C.gone], V_ [C.gone], V_ [C.gone], V_ [C.gone], V_ [C.gone], V_ [C.gone], V_ [C.gone], V_ [C.gone], V_ [C.gone], B_ true, U_, U_, U_] [Root.mk true 4 [[D.int i64 (D.num (getD (getD (enS false list) (toNat i0) []) 0 D.dead)), D.int i64 (D.num (getD (getD (enS false list) (toNat i0) []) 1 D.dead)), D.int i64 (D.num (getD (getD (enS false list) (toNat i0) []) 2 D.dead)), D.int i64 (D.num (getD (getD (enS false list) (toNat i0) []) 3 D.dead))]] 0 0 true true false]
def X71_5 (list : List Heard) (i0 : Int) : St := St.mk [V_ [C.d (D.sl false 4 (enS false list))], U_, B_ false, I_ i0, V_ [C.ptr 0 0 0 [] 4 0 0], I_ i0, V_ [C.d (D.sl false 4 (enS false list))], I_ (ofNat (length (enS false list))), B_ true, U_, U_, V_ [C.d (D.sl false 4 (enS false list))], I_ i0, V_ [C.rptr (getD (enS false list) (toNat i0) [])], TV.v true [C.d (D.int i64 (D.num (getD (getD (enS false list) (toNat i0) []) 0 D.dead))), C.d (D.int i64 (D.num (getD (getD (enS false list) (toNat i0) []) 1 D.dead))), C.d (D.int i64 (D.num (getD (getD (enS false list) (toNat i0) []) 2 D.dead))), C.d (D.int i64 (D.num (getD (getD (enS false list) (toNat i0) []) 3 D.dead)))], V_ [C.ptr 0 0 0 [] 4 0 0], I_ (D.num (getD (getD (enS false list) (toNat i0) []) 0 D.dead)), B_ (inR (D.num (getD (getD (enS false list) (toNat i0) []) 0 D.dead)) (1) (9)), V_ [C.d (D.bool !inR (D.num (getD (getD (enS false list) (toNat i0) []) 0 D.dead)) (1) (9))], B_ false, V_ [C.ptr 0 0 0 [] 4 0 1], I_ (D.num (getD (getD (enS false list) (toNat i0) []) 1 D.dead)), B_ (inR (D.num (getD (getD (enS false list) (toNat i0) []) 1 D.dead)) (1) (4)), V_ [C.d (D.bool !inR (D.num (getD (getD (enS false list) (toNat i0) []) 1 D.dead)) (1) (4))], V_ [C.d (D.bool !inR (D.num (getD (getD (enS false list) (toNat i0) []) 1 D.dead)) (1) (4))], B_ false, V_ [C.ptr 0 0 0 [] 4 0 2], I_ (D.num (getD (getD (enS false list) (toNat i0) []) 2 D.dead)), B_ (inR (D.num (getD (getD (enS false list) (toNat i0) []) 2 D.dead)) (0) (3)), V_ [C.d (D.bool !inR (D.num (getD (getD (enS false list) (toNat i0) []) 2 D.dead)) (0) (3))], V_ [C.d (D.bool !inR (D.num (getD (getD (enS false list) (toNat i0) []) 2 D.dead)) (0) (3))], B_ false, V_ [C.ptr 0 0 0 [] 4 0 3], I_ (D.num (getD (getD (enS false list) (toNat i0) []) 3 D.dead)), B_ (inR (D.num (getD (getD (enS false list) (toNat i0) []) 3 D.dead)) (1) (20)), V_ [C.d (D.bool !inR (D.num (getD (getD (enS false list) (toNat i0) []) 3 D.dead)) (1) (20))], V_ [C.d (D.bool !inR (D.num (getD (getD (enS false list) (toNat i0) []) 3 D.dead)) (1) (20))], B_ true, V_ [C.gone], V_ [C.gone], V_ [C.gone], V_ [C.gone], V_ [C.gone], V_ [C.gone], V_ [C.gone], V_ [C.gone], V_ [C.gone], V_ [C.gone], V_ [C.gone], V_ [C.gone], B_ true, U_, U_, U_] [Root.mk true 4 [[D.int i64 (D.num (getD (getD (enS false list) (toNat i0) []) 0 D.dead)), D.int i64 (D.num (getD (getD (enS false list) (toNat i0) []) 1 D.dead)), D.int i64 (D.num (getD (getD (enS false list) (toNat i0) []) 2 D.dead)), D.int i64 (D.num (getD (getD (enS false list) (toNat i0) []) 3 D.dead))]] 0 0 true true false]
def X71_6 (list : List Heard) (i0 : Int) : St := St.mk [V_ [C.d (D.sl false 4 (enS false list))], U_, B_ false, I_ i0, V_ [C.ptr 0 0 0 [] 4 0 0], I_ i0, V_ [C.d (D.sl false 4 (enS false list))], I_ (ofNat (length (enS false list))), B_ true, U_, U_, V_ [C.d (D.sl false 4 (enS false list))], I_ i0, V_ [C.rptr (getD (enS false list) (toNat i0) [])], TV.v true [C.d (D.int i64 (D.num (getD (getD (enS false list) (toNat i0) []) 0 D.dead))), C.d (D.int i64 (D.num (getD (getD (enS false list) (toNat i0) []) 1 D.dead))), C.d (D.int i64 (D.num (getD (getD (enS false list) (toNat i0) []) 2 D.dead))), C.d (D.int i64 (D.num (getD (getD (enS false list) (toNat i0) []) 3 D.dead)))], V_ [C.ptr 0 0 0 [] 4 0 0], I_ (D.num (getD (getD (enS false list) (toNat i0) []) 0 D.dead)), B_ (inR (D.num (getD (getD (enS false list) (toNat i0) []) 0 D.dead)) (1) (9)), V_ [C.d (D.bool !inR (D.num (getD (getD (enS false list) (toNat i0) []) 0 D.dead)) (1) (9))], B_ false, V_ [C.ptr 0 0 0 [] 4 0 1], I_ (D.num (getD (getD (enS false list) (toNat i0) []) 1 D.dead)), B_ (inR (D.num (getD (getD (enS false list) (toNat i0) []) 1 D.dead)) (1) (4)), V_ [C.d (D.bool !inR (D.num (getD (getD (enS false list) (toNat i0) []) 1 D.dead)) (1) (4))], V_ [C.d (D.bool !inR (D.num (getD (getD (enS false list) (toNat i0) []) 1 D.dead)) (1) (4))], B_ false, V_ [C.ptr 0 0 0 [] 4 0 2], I_ (D.num (getD (getD (enS false list) (toNat i0) []) 2 D.dead)), B_ (inR (D.num (getD (getD (enS false list) (toNat i0) []) 2 D.dead)) (0) (3)), V_ [C.d (D.bool !inR (D.num (getD (getD (enS false list) (toNat i0) []) 2 D.dead)) (0) (3))], V_ [C.d (D.bool !inR (D.num (getD (getD (enS false list) (toNat i0) []) 2 D.dead)) (0) (3))], B_ false, V_ [C.ptr 0 0 0 [] 4 0 3], I_ (D.num (getD (getD (enS false list) (toNat i0) []) 3 D.dead)), B_ (inR (D.num (getD (getD (enS false list) (toNat i0) []) 3 D.dead)) (1) (20)), V_ [C.d (D.bool !inR (D.num (getD (getD (enS false list) (toNat i0) []) 3 D.dead)) (1) (20))], V_ [C.d (D.bool !inR (D.num (getD (getD (enS false list) (toNat i0) []) 3 D.dead)) (1) (20))], B_ false, I_ i0, B_ (decide (i0 > 0)), B_ true, V_ [C.d (D.sl false 4 (enS false list))], I_ i0, I_ (wrap i64 (i0 - 1)), V_ [C.rptr (getD (enS false list) (toNat (wrap i64 (i0 - 1))) [])], TV.v true [C.d (D.int i64 (D.num (getD (getD (enS false list) (toNat (wrap i64 (i0 - 1))) []) 0 D.dead))), C.d (D.int i64 (D.num (getD (getD (enS false list) (toNat (wrap i64 (i0 - 1))) []) 1 D.dead))), C.d (D.int i64 (D.num (getD (getD (enS false list) (toNat (wrap i64 (i0 - 1))) []) 2 D.dead))), C.d (D.int i64 (D.num (getD (getD (enS false list) (toNat (wrap i64 (i0 - 1))) []) 3 D.dead)))], TV.v true [C.d (D.int i64 (D.num (getD (getD (enS false list) (toNat i0) []) 0 D.dead))), C.d (D.int i64 (D.num (getD (getD (enS false list) (toNat i0) []) 1 D.dead))), C.d (D.int i64 (D.num (getD (getD (enS false list) (toNat i0) []) 2 D.dead))), C.d (D.int i64 (D.num (getD (getD (enS false list) (toNat i0) []) 3 D.dead)))], B_ (aheadB (Heard.mk (D.num (getD (getD (enS false list) (toNat (wrap i64 (i0 - 1))) []) 0 D.dead)) (D.num (getD (getD (enS false list) (toNat (wrap i64 (i0 - 1))) []) 1 D.dead)) (D.num (getD (getD (enS false list) (toNat (wrap i64 (i0 - 1))) []) 2 D.dead)) (D.num (getD (getD (enS false list) (toNat (wrap i64 (i0 - 1))) []) 3 D.dead))) (Heard.mk (D.num (getD (getD (enS false list) (toNat i0) []) 0 D.dead)) (D.num (getD (getD (enS false list) (toNat i0) []) 1 D.dead)) (D.num (getD (getD (enS false list) (toNat i0) []) 2 D.dead)) (D.num (getD (getD (enS false list) (toNat i0) []) 3 D.dead)))), V_ [C.d (D.bool !aheadB (Heard.mk (D.num (getD (getD (enS false list) (toNat (wrap i64 (i0 - 1))) []) 0 D.dead)) (D.num (getD (getD (enS false list) (toNat (wrap i64 (i0 - 1))) []) 1 D.dead)) (D.num (getD (getD (enS false list) (toNat (wrap i64 (i0 - 1))) []) 2 D.dead)) (D.num (getD (getD (enS false list) (toNat (wrap i64 (i0 - 1))) []) 3 D.dead))) (Heard.mk (D.num (getD (getD (enS false list) (toNat i0) []) 0 D.dead)) (D.num (getD (getD (enS false list) (toNat i0) []) 1 D.dead)) (D.num (getD (getD (enS false list) (toNat i0) []) 2 D.dead)) (D.num (getD (getD (enS false list) (toNat i0) []) 3 D.dead))))], V_ [C.d (D.bool !aheadB (Heard.mk (D.num (getD (getD (enS false list) (toNat (wrap i64 (i0 - 1))) []) 0 D.dead)) (D.num (getD (getD (enS false list) (toNat (wrap i64 (i0 - 1))) []) 1 D.dead)) (D.num (getD (getD (enS false list) (toNat (wrap i64 (i0 - 1))) []) 2 D.dead)) (D.num (getD (getD (enS false list) (toNat (wrap i64 (i0 - 1))) []) 3 D.dead))) (Heard.mk (D.num (getD (getD (enS false list) (toNat i0) []) 0 D.dead)) (D.num (getD (getD (enS false list) (toNat i0) []) 1 D.dead)) (D.num (getD (getD (enS false list) (toNat i0) []) 2 D.dead)) (D.num (getD (getD (enS false list) (toNat i0) []) 3 D.dead))))], B_ true, U_, U_, U_] [Root.mk true 4 [[D.int i64 (D.num (getD (getD (enS false list) (toNat i0) []) 0 D.dead)), D.int i64 (D.num (getD (getD (enS false list) (toNat i0) []) 1 D.dead)), D.int i64 (D.num (getD (getD (enS false list) (toNat i0) []) 2 D.dead)), D.int i64 (D.num (getD (getD (enS false list) (toNat i0) []) 3 D.dead))]] 0 0 true true false]
def X71_7 (list : List Heard) (i0 : Int) : St := St.mk [V_ [C.d (D.sl false 4 (enS false list))], U_, U_, I_ i0, U_, I_ i0, V_ [C.d (D.sl false 4 (enS false list))], I_ (ofNat (length (enS false list))), B_ false, U_, U_, U_, U_, U_, U_, U_, U_, U_, U_, U_, U_, U_, U_, U_, U_, U_, U_, U_, U_, U_, U_, U_, U_, U_, U_, U_, U_, U_, U_, U_, U_, U_, U_, U_, U_, U_, U_, U_, U_, U_, U_, U_, U_, U_] []
theorem q71_0 (list : List Heard) (n : Nat) (i0 : Int) (f : St → RR) (K : Ex → St → RR) : B71_0 n (S71_0 list i0) (kThen (fun st ↦ f (St.head 0 9 2251799813685244 st)) K) = bif decide (i0 < ofNat (length (enS false list))) then bif decide (0 ≤ i0) && decide (i0 < ofNat (length (enS false list))) then bif Leaf.fit false (Leaf.int i64) (getD (getD (enS false list) (toNat i0) []) 0 D.dead) && (Leaf.fit false (Leaf.int i64) (getD (getD (enS false list) (toNat i0) []) 1 D.dead) && (Leaf.fit false (Leaf.int i64) (getD (getD (enS false list) (toNat i0) []) 2 D.dead) && (Leaf.fit false (Leaf.int i64) (getD (getD (enS false list) (toNat i0) []) 3 D.dead) && true))) then bif !inR (D.num (getD (getD (enS false list) (toNat i0) []) 0 D.dead)) (1) (9) then K Ex.ret (X71_2 list i0) else bif !inR (D.num (getD (getD (enS false list) (toNat i0) []) 1 D.dead)) (1) (4) then K Ex.ret (X71_3 list i0) else bif !inR (D.num (getD (getD (enS false list) (toNat i0) []) 2 D.dead)) (0) (3) then K Ex.ret (X71_4 list i0) else bif !inR (D.num (getD (getD (enS false list) (toNat i0) []) 3 D.dead)) (1) (20) then K Ex.ret (X71_5 list i0) else bif decide (i0 > 0) then bif decide (0 ≤ wrap i64 (i0 - 1)) && decide (wrap i64 (i0 - 1) < ofNat (length (enS false list))) then bif Leaf.fit false (Leaf.int i64) (getD (getD (enS false list) (toNat (wrap i64 (i0 - 1))) []) 0 D.dead) && (Leaf.fit false (Leaf.int i64) (getD (getD (enS false list) (toNat (wrap i64 (i0 - 1))) []) 1 D.dead) && (Leaf.fit false (Leaf.int i64) (getD (getD (enS false list) (toNat (wrap i64 (i0 - 1))) []) 2 D.dead) && (Leaf.fit false (Leaf.int i64) (getD (getD (enS false list) (toNat (wrap i64 (i0 - 1))) []) 3 D.dead) && true))) then bif !aheadB (Heard.mk (D.num (getD (getD (enS false list) (toNat (wrap i64 (i0 - 1))) []) 0 D.dead)) (D.num (getD (getD (enS false list) (toNat (wrap i64 (i0 - 1))) []) 1 D.dead)) (D.num (getD (getD (enS false list) (toNat (wrap i64 (i0 - 1))) []) 2 D.dead)) (D.num (getD (getD (enS false list) (toNat (wrap i64 (i0 - 1))) []) 3 D.dead))) (Heard.mk (D.num (getD (getD (enS false list) (toNat i0) []) 0 D.dead)) (D.num (getD (getD (enS false list) (toNat i0) []) 1 D.dead)) (D.num (getD (getD (enS false list) (toNat i0) []) 2 D.dead)) (D.num (getD (getD (enS false list) (toNat i0) []) 3 D.dead))) then K Ex.ret (X71_6 list i0) else f (S71_0 list (wrap i64 (i0 + 1))) else none else none else f (S71_0 list (wrap i64 (i0 + 1))) else none else none else K (Ex.exit 0) (X71_7 list i0) := by kernel_rfl
theorem aX71_2 (list : List Heard) (n : Nat) (i0 : Int) : k71_1 n Ex.ret (X71_2 list i0) = some ([[D.bool false]], []) := by kernel_rfl
theorem aX71_3 (list : List Heard) (n : Nat) (i0 : Int) : k71_1 n Ex.ret (X71_3 list i0) = some ([[D.bool false]], []) := by kernel_rfl
theorem aX71_4 (list : List Heard) (n : Nat) (i0 : Int) : k71_1 n Ex.ret (X71_4 list i0) = some ([[D.bool false]], []) := by kernel_rfl
theorem aX71_5 (list : List Heard) (n : Nat) (i0 : Int) : k71_1 n Ex.ret (X71_5 list i0) = some ([[D.bool false]], []) := by kernel_rfl
theorem aX71_6 (list : List Heard) (n : Nat) (i0 : Int) : k71_1 n Ex.ret (X71_6 list i0) = some ([[D.bool false]], []) := by kernel_rfl
theorem aX71_7 (list : List Heard) (n : Nat) (i0 : Int) : k71_1 n (Ex.exit 0) (X71_7 list i0) = some ([[D.bool (decide (ofNat (length (enS false list)) ≤ 12))]], []) := by kernel_rfl
theorem r71 (list : List Heard) (n : Nat) : evFn ⟨prog, Hx, 71⟩ T76.call n f71 [[.sl false 4 (enS false list)]] = loopRun (B71_0 n) 0 9 2251799813685244 n (S71_0 list (0)) (k71_1 n) := by kernel_rfl
theorem m71 (list : List Heard) (hpre : (o71 list).1 = true) : evFn ⟨Go.Proofs.Try.prog, Hx, 71⟩ T76.call (list.length + 1) f71 [[.sl false 4 (enS false list)]] = some (o71 list).2 := by
  refine (r71 list _).trans ?_
  show _ = (some ([[.bool (tableOk list)]], []) : Option (List Row × List Row))
  replace hpre : (decide (list.length ≤ 2097152)) = true := hpre
  have hlen := of_decide_eq_true hpre
  unfold tableOk
  refine loop_list (xs := list) (fun i (_ : Unit) => S71_0 list (Int.ofNat i)) (fun _ _ => True) (fun i _ rest => some ([[D.bool (stepsOk (prevAt list i) rest && decide (list.length ≤ 12))]], [])) ?_ ?_ (list.length + 1) () (by omega) trivial
  · rintro _ _ f
    refine (q71_0 list _ _ f _).trans ?_
    rw [end_lt, cond_false]
    refine (aX71_7 list _ _).trans ?_
    simp only [enS_length, stepsOk, Bool.true_and]
    have hd : decide (Int.ofNat list.length ≤ 12) = decide (list.length ≤ 12) := decide_eq_decide.2 (by show (list.length : Int) ≤ 12 ↔ _; omega)
    rw [hd]
  · rintro i _ hi _ f hf
    refine (q71_0 list _ _ f _).trans ?_
    rw [steps_cons]
    unfold heardOk
    cases h1 : inR list[i].Addr 1 9
    · simp only [enS_length, toNat_of, dec_lt, dec_ge, decide_true, decide_false, cond_true, cond_false, Bool.and_self, Bool.and_true, Bool.true_and, Bool.not_true, Bool.not_false, Nat.lt_irrefl, Nat.zero_add, isS_enS, deS_enS, isS_nil, deS_nil, List.nil_append, lendRows_enS, deepRows_enS, noSl_u8, En.enc, List.getD_cons_zero, List.getD_cons_succ, D.num, D.flag, D.text, D.rows, Leaf.fit, List.append_eq, TReader.eta, Frame.eta, Heard.eta, Member.eta, Card.eta, Out1.eta, Vec.eta, Port.eta, Bridge.eta, In.eta, Out.eta, Link.eta, Net.eta, TEnd.eta, Minder.eta, Reg.eta, Wire.eta, Box.eta, Deed.eta, Bpdu.eta, Visit.eta, Fabric.eta, Got.eta, TRide.eta, Up.eta, Copy.eta, Bucket.eta, Snap.eta, TL9Cur.eta, TL21In.eta, enS_get _ hi, hi, wrap_succ (show i < 4611686018427387904 by omega), h1]
      exact aX71_2 list _ _
    cases h2 : inR list[i].Vlan 1 4
    · simp only [enS_length, toNat_of, dec_lt, dec_ge, decide_true, decide_false, cond_true, cond_false, Bool.and_self, Bool.and_true, Bool.true_and, Bool.not_true, Bool.not_false, Nat.lt_irrefl, Nat.zero_add, isS_enS, deS_enS, isS_nil, deS_nil, List.nil_append, lendRows_enS, deepRows_enS, noSl_u8, En.enc, List.getD_cons_zero, List.getD_cons_succ, D.num, D.flag, D.text, D.rows, Leaf.fit, List.append_eq, TReader.eta, Frame.eta, Heard.eta, Member.eta, Card.eta, Out1.eta, Vec.eta, Port.eta, Bridge.eta, In.eta, Out.eta, Link.eta, Net.eta, TEnd.eta, Minder.eta, Reg.eta, Wire.eta, Box.eta, Deed.eta, Bpdu.eta, Visit.eta, Fabric.eta, Got.eta, TRide.eta, Up.eta, Copy.eta, Bucket.eta, Snap.eta, TL9Cur.eta, TL21In.eta, enS_get _ hi, hi, wrap_succ (show i < 4611686018427387904 by omega), h1, h2]
      exact aX71_3 list _ _
    cases h3 : inR list[i].Port 0 3
    · simp only [enS_length, toNat_of, dec_lt, dec_ge, decide_true, decide_false, cond_true, cond_false, Bool.and_self, Bool.and_true, Bool.true_and, Bool.not_true, Bool.not_false, Nat.lt_irrefl, Nat.zero_add, isS_enS, deS_enS, isS_nil, deS_nil, List.nil_append, lendRows_enS, deepRows_enS, noSl_u8, En.enc, List.getD_cons_zero, List.getD_cons_succ, D.num, D.flag, D.text, D.rows, Leaf.fit, List.append_eq, TReader.eta, Frame.eta, Heard.eta, Member.eta, Card.eta, Out1.eta, Vec.eta, Port.eta, Bridge.eta, In.eta, Out.eta, Link.eta, Net.eta, TEnd.eta, Minder.eta, Reg.eta, Wire.eta, Box.eta, Deed.eta, Bpdu.eta, Visit.eta, Fabric.eta, Got.eta, TRide.eta, Up.eta, Copy.eta, Bucket.eta, Snap.eta, TL9Cur.eta, TL21In.eta, enS_get _ hi, hi, wrap_succ (show i < 4611686018427387904 by omega), h1, h2, h3, isPortB]
      exact aX71_4 list _ _
    cases h4 : inR list[i].Left 1 20
    · simp only [enS_length, toNat_of, dec_lt, dec_ge, decide_true, decide_false, cond_true, cond_false, Bool.and_self, Bool.and_true, Bool.true_and, Bool.not_true, Bool.not_false, Nat.lt_irrefl, Nat.zero_add, isS_enS, deS_enS, isS_nil, deS_nil, List.nil_append, lendRows_enS, deepRows_enS, noSl_u8, En.enc, List.getD_cons_zero, List.getD_cons_succ, D.num, D.flag, D.text, D.rows, Leaf.fit, List.append_eq, TReader.eta, Frame.eta, Heard.eta, Member.eta, Card.eta, Out1.eta, Vec.eta, Port.eta, Bridge.eta, In.eta, Out.eta, Link.eta, Net.eta, TEnd.eta, Minder.eta, Reg.eta, Wire.eta, Box.eta, Deed.eta, Bpdu.eta, Visit.eta, Fabric.eta, Got.eta, TRide.eta, Up.eta, Copy.eta, Bucket.eta, Snap.eta, TL9Cur.eta, TL21In.eta, enS_get _ hi, hi, wrap_succ (show i < 4611686018427387904 by omega), h1, h2, h3, h4, isPortB]
      exact aX71_5 list _ _
    cases i with
    | zero =>
      have h0 : decide (Int.ofNat 0 > 0) = false := rfl
      simp only [enS_length, toNat_of, dec_lt, dec_ge, decide_true, decide_false, cond_true, cond_false, Bool.and_self, Bool.and_true, Bool.true_and, Bool.not_true, Bool.not_false, En.enc, List.getD_cons_zero, List.getD_cons_succ, D.num, Leaf.fit, Heard.eta, enS_get _ hi, hi, h0, h1, h2, h3, h4, isPortB, beq_self_eq_true, wrap_succ (show 0 < 4611686018427387904 by omega)]
      exact (hf () trivial).trans (by rw [show prevAt list (0 + 1) = some list[0] from List.getElem?_eq_getElem hi]; rfl)
    | succ i =>
      have hi' : i < list.length := by omega
      have h0 : decide (Int.ofNat (i + 1) > 0) = true := decide_eq_true (by show (0 : Int) < ((i + 1 : Nat) : Int); omega)
      have hw : IntKind.wrap IntKind.i64 (Int.ofNat (i + 1) - 1) = Int.ofNat i := by rw [show Int.ofNat (i + 1) - 1 = Int.ofNat i by show ((i + 1 : Nat) : Int) - 1 = (i : Int); omega]; exact wrap_nat (by omega)
      have h5 : decide (0 ≤ Int.ofNat i) = true := decide_eq_true (by show (0 : Int) ≤ (i : Int); omega)
      have hp : prevAt list (i + 1) = some list[i] := List.getElem?_eq_getElem hi'
      have hn : prevAt list (i + 1 + 1) = some list[i + 1] := List.getElem?_eq_getElem hi
      rw [hp]
      cases h6 : aheadB list[i] list[i + 1]
      · simp only [enS_length, toNat_of, dec_lt, dec_ge, decide_true, decide_false, cond_true, cond_false, Bool.and_self, Bool.and_true, Bool.true_and, Bool.not_true, Bool.not_false, En.enc, List.getD_cons_zero, List.getD_cons_succ, D.num, Leaf.fit, Heard.eta, enS_get _ hi, enS_get _ hi', hi, hi', h0, h1, h2, h3, h4, h5, hw, h6, isPortB, beq_self_eq_true, Bool.false_and]
        exact aX71_6 list _ _
      · simp only [enS_length, toNat_of, dec_lt, dec_ge, decide_true, decide_false, cond_true, cond_false, Bool.and_self, Bool.and_true, Bool.true_and, Bool.not_true, Bool.not_false, En.enc, List.getD_cons_zero, List.getD_cons_succ, D.num, Leaf.fit, Heard.eta, enS_get _ hi, enS_get _ hi', hi, hi', h0, h1, h2, h3, h4, h5, hw, h6, isPortB, beq_self_eq_true, wrap_succ (show i + 1 < 4611686018427387904 by omega)]
        exact (hf () trivial).trans (by rw [hn])
theorem s71 : SoundAt Go.Proofs.Try.prog Hx 71 c71 := soundAt_of T76_sound mixed func71 (by kernel_rfl) (by
  intro rows r h
  unfold c71 at h
  split at h
  · rename_i list
    obtain ⟨hp, hr⟩ := Prod.mk.inj (Option.some.inj h)
    subst hr
    simp only [Bool.and_eq_true] at hp
    obtain ⟨hs0, hp⟩ := hp
    obtain ⟨xs0, rfl⟩ := isS_ex hs0
    simp only [deS_enS] at hp ⊢
    exact ⟨_, m71 xs0 hp⟩
  · cases h)
def T71 : Table := (71, c71) :: T76
theorem T71_sound : Table.Sound Go.Proofs.Try.prog Hx T71 := Table.sound_cons s71 T76_sound
end Go.Ev
end
