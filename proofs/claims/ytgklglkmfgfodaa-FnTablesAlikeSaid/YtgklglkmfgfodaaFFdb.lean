/- Contracts of functions, each by its evaluation. -/
import Derived.Test.YtgklglkmfgfodaaEvMd
import Derived.Test.YtgklglkmfgfodaaProg
import Derived.KernelRfl
import Derived.WalkKit
import Derived.Lib.Walk
import Derived.Lib.SliceRun
import Derived.Lib.AppendZerosOnto
import Derived.Test.YtgklglkmfgfodaaFBase
set_option linter.unusedVariables false
set_option linter.unusedSimpArgs false
set_option maxRecDepth 100000
noncomputable section
open List (getD length drop take set append replicate all isEmpty)
open Int (toNat ofNat)
open Go.IntKind (i64 wrap)
open Go.Proofs.Try (prog f25 f45 f53 f54 f55 f56 f66 f67 f81 f82 f84 f85 f86 f87 f89 f90 f91 f92 f97 f98 func25 func45 func53 func54 func55 func56 func66 func67 func81 func82 func84 func85 func86 func87 func89 func90 func91 func92 func97 func98)
namespace Go.Ev
open Go.RowKit Go.Md
end Go.Ev
namespace Go.Md
open Go Go.Ev
instance : En (List Heard) where
  leaves := [.sl 4 true]
  enc o xs := [.sl o 4 (enS o xs)]
  dec r := deS Heard (r.getD 0 .dead).rows
  nil := []
  dec_enc o x := by simp [D.rows, deS_enS]
  fit o x := by simp [fits, Leaf.fit]
  lend o x := by simp [lendRow, D.lend, lendRows_enS]
  deep x := by simp [deepRow, D.deep, deepRows_enS]
def emptyH : List Heard := []
def heardOk (x : Heard) : Bool := inR x.Addr 1 9 && (inR x.Vlan 1 4 && (inR x.Port 0 3 && inR x.Left 1 20))
def aheadB (a b : Heard) : Bool := decide (a.Vlan < b.Vlan) || (a.Vlan == b.Vlan && decide (a.Addr < b.Addr))
def stepsOk : Option Heard → List Heard → Bool
  | _, [] => true
  | p, x :: xs => heardOk x && ((match p with | none => true | some y => aheadB y x) && stepsOk (some x) xs)
def tableOk (l : List Heard) : Bool := stepsOk none l && decide (l.length ≤ 12)
def prevAt (l : List Heard) : Nat → Option Heard
  | 0 => none
  | i + 1 => l[i]?
def keepB (a v : Int) (x : Heard) : Bool := !(x.Addr == a) || !(x.Vlan == v)
def hearI (l : List Heard) (a v p : Int) : List Heard := (l.takeWhile (fun y => aheadB y ⟨a, v, p, 20⟩)).filter (keepB a v) ++ (⟨a, v, p, 20⟩ :: (l.dropWhile (fun y => aheadB y ⟨a, v, p, 20⟩)).filter (keepB a v))
def hearL (l : List Heard) (a v p : Int) : List Heard := bif tableOk (hearI l a v p) then hearI l a v p else l
def upOk (u : Up) : Bool := inR u.Seq 0 100000 && (inR u.Addr 1 9 && (inR u.Vlan 1 4 && inR u.Port 0 3))
def copyOk (c : Copy) : Bool := inR c.Next 0 100001 && tableOk c.Table
def feedM (c : Copy) (u : Up) : Copy × Bool := bif copyOk c && (upOk u && u.Seq == c.Next) then (⟨c.Next + 1, hearL c.Table u.Addr u.Vlan u.Port⟩, true) else (c, false)
theorem enS_heard (xs : List Heard) : enS false xs = enS true xs := rfl
theorem hear_at (l : List Heard) (p : Heard → Bool) : l.take (l.takeWhile p).length = l.takeWhile p ∧ l.drop (l.takeWhile p).length = l.dropWhile p := by
  have h : l.takeWhile p ++ l.dropWhile p = l := List.takeWhile_append_dropWhile
  constructor
  · conv => lhs; rhs; rw [← h]
    rw [List.take_left']
    rfl
  · conv => lhs; rhs; rw [← h]
    rw [List.drop_left']
    rfl
def catAt (l : List Heard) (a v p : Int) (k : Nat) : List Heard := (l.take k).filter (keepB a v) ++ (⟨a, v, p, 20⟩ :: (l.drop k).filter (keepB a v))
def hearAt (l : List Heard) (a v p : Int) (k : Nat) : List Heard := bif tableOk (catAt l a v p k) then catAt l a v p k else l
theorem hear_cat (l : List Heard) (a v p : Int) : hearL l a v p = hearAt l a v p (l.takeWhile (fun y => aheadB y ⟨a, v, p, 20⟩)).length := by
  obtain ⟨h1, h2⟩ := hear_at l (fun y => aheadB y ⟨a, v, p, 20⟩)
  unfold hearL hearAt
  have : catAt l a v p (l.takeWhile (fun y => aheadB y ⟨a, v, p, 20⟩)).length = hearI l a v p := by
    unfold catAt hearI
    rw [h1, h2]
  rw [this]
def resH (l r : List Heard) : Go.Ev.RR := some ([[D.sl true 4 (enS true (bif tableOk r then r else l))]], [])
def resA (l : List Heard) (a v p : Int) (k : Nat) : Go.Ev.RR := some ([[D.sl true 4 (enS true (hearAt l a v p k))]], [])
/-- The same, in one walk. -/
def insB (a v p : Int) : Bool → List Heard → List Heard
  | d, [] => bif d then [] else [⟨a, v, p, 20⟩]
  | d, y :: ys => (bif !d && !aheadB y ⟨a, v, p, 20⟩ then [⟨a, v, p, 20⟩] else []) ++ ((bif keepB a v y then [y] else []) ++ insB a v p (d || !aheadB y ⟨a, v, p, 20⟩) ys)
theorem ins_true (a v p : Int) : ∀ l : List Heard, insB a v p true l = l.filter (keepB a v)
  | [] => rfl
  | y :: ys => by
    unfold insB
    rw [show (true || !aheadB y ⟨a, v, p, 20⟩) = true from rfl, ins_true a v p ys, List.filter_cons]
    cases keepB a v y <;> rfl
theorem ins_false (a v p : Int) : ∀ l : List Heard, insB a v p false l = hearI l a v p
  | [] => rfl
  | y :: ys => by
    unfold insB
    unfold hearI
    rw [List.takeWhile_cons, List.dropWhile_cons]
    cases h : aheadB y ⟨a, v, p, 20⟩
    · rw [show (false || !false) = true from rfl, ins_true a v p ys]
      simp only [Bool.not_false, Bool.and_self, cond_true, Bool.false_eq_true, if_false, List.filter_nil, List.nil_append, List.filter_cons]
      cases keepB a v y <;> rfl
    · rw [show (false || !true) = false from rfl, ins_false a v p ys]
      simp only [Bool.not_true, Bool.not_false, Bool.and_false, cond_false, if_true, List.nil_append, List.filter_cons]
      unfold hearI
      cases keepB a v y <;> simp
theorem steps_cons (p : Option Heard) (x : Heard) (xs : List Heard) : stepsOk p (x :: xs) = (heardOk x && ((match p with | none => true | some y => aheadB y x) && stepsOk (some x) xs)) := by simp only [stepsOk]
end Go.Md
namespace Go.Ev
open Go.Md
def o84 (n_ : Int) : Bool × List Row × List Row := (true, [[.bool (inR n_ 1 9)]], [])
def c84 : Contract
  | [[.int .i64 n_]] => some ((o84 n_).1, (o84 n_).2.1, (o84 n_).2.2)
  | _ => none

theorem r84 (n_ : Int) (n : Nat) : evFn ⟨prog, Hx, 84⟩ T40.call n f84 [[.int .i64 n_]] = some ([[D.bool (inR n_ (1) (9))]], []) := by kernel_rfl
theorem m84 (n_ : Int) (hpre : (o84 n_).1 = true) : evFn ⟨Go.Proofs.Try.prog, Hx, 84⟩ T40.call 0 f84 [[.int .i64 n_]] = some (o84 n_).2 := by
  refine (r84 n_ _).trans ?_
  show _ = (some ([[.bool (inR n_ 1 9)]], []) : Option (List Row × List Row))
  replace hpre : (true) = true := hpre
  rfl
theorem s84 : SoundAt Go.Proofs.Try.prog Hx 84 c84 := soundAt_of T40_sound mixed func84 (by kernel_rfl) (by
  intro rows r h
  unfold c84 at h
  split at h
  · rename_i n_
    obtain ⟨hp, hr⟩ := Prod.mk.inj (Option.some.inj h)
    subst hr
    exact ⟨_, m84 n_ hp⟩
  · cases h)
def T84 : Table := (84, c84) :: T40
theorem T84_sound : Table.Sound Go.Proofs.Try.prog Hx T84 := Table.sound_cons s84 T40_sound
def o85 (n_ : Int) : Bool × List Row × List Row := (true, [[.bool (inR n_ 1 4)]], [])
def c85 : Contract
  | [[.int .i64 n_]] => some ((o85 n_).1, (o85 n_).2.1, (o85 n_).2.2)
  | _ => none

theorem r85 (n_ : Int) (n : Nat) : evFn ⟨prog, Hx, 85⟩ T84.call n f85 [[.int .i64 n_]] = some ([[D.bool (inR n_ (1) (4))]], []) := by kernel_rfl
theorem m85 (n_ : Int) (hpre : (o85 n_).1 = true) : evFn ⟨Go.Proofs.Try.prog, Hx, 85⟩ T84.call 0 f85 [[.int .i64 n_]] = some (o85 n_).2 := by
  refine (r85 n_ _).trans ?_
  show _ = (some ([[.bool (inR n_ 1 4)]], []) : Option (List Row × List Row))
  replace hpre : (true) = true := hpre
  rfl
theorem s85 : SoundAt Go.Proofs.Try.prog Hx 85 c85 := soundAt_of T84_sound mixed func85 (by kernel_rfl) (by
  intro rows r h
  unfold c85 at h
  split at h
  · rename_i n_
    obtain ⟨hp, hr⟩ := Prod.mk.inj (Option.some.inj h)
    subst hr
    exact ⟨_, m85 n_ hp⟩
  · cases h)
def T85 : Table := (85, c85) :: T84
theorem T85_sound : Table.Sound Go.Proofs.Try.prog Hx T85 := Table.sound_cons s85 T84_sound
def o90 (a : Heard) (b : Heard) : Bool × List Row × List Row := (true, [[.bool (aheadB a b)]], [])
def c90 : Contract
  | [[.int .i64 a_Addr, .int .i64 a_Vlan, .int .i64 a_Port, .int .i64 a_Left], [.int .i64 b_Addr, .int .i64 b_Vlan, .int .i64 b_Port, .int .i64 b_Left]] => some ((o90 ⟨a_Addr, a_Vlan, a_Port, a_Left⟩ ⟨b_Addr, b_Vlan, b_Port, b_Left⟩).1, (o90 ⟨a_Addr, a_Vlan, a_Port, a_Left⟩ ⟨b_Addr, b_Vlan, b_Port, b_Left⟩).2.1, (o90 ⟨a_Addr, a_Vlan, a_Port, a_Left⟩ ⟨b_Addr, b_Vlan, b_Port, b_Left⟩).2.2)
  | _ => none

theorem r90 (a : Heard) (b : Heard) (n : Nat) : evFn ⟨prog, Hx, 90⟩ T85.call n f90 [[.int .i64 a.Addr, .int .i64 a.Vlan, .int .i64 a.Port, .int .i64 a.Left], [.int .i64 b.Addr, .int .i64 b.Vlan, .int .i64 b.Port, .int .i64 b.Left]] = bif decide (Heard.Vlan a < Heard.Vlan b) then some ([[D.bool true]], []) else bif Heard.Vlan a == Heard.Vlan b then some ([[D.bool (decide (Heard.Addr a < Heard.Addr b))]], []) else some ([[D.bool false]], []) := by kernel_rfl
theorem m90 (a : Heard) (b : Heard) (hpre : (o90 a b).1 = true) : evFn ⟨Go.Proofs.Try.prog, Hx, 90⟩ T85.call 0 f90 [[.int .i64 a.Addr, .int .i64 a.Vlan, .int .i64 a.Port, .int .i64 a.Left], [.int .i64 b.Addr, .int .i64 b.Vlan, .int .i64 b.Port, .int .i64 b.Left]] = some (o90 a b).2 := by
  refine (r90 a b _).trans ?_
  show _ = (some ([[.bool (aheadB a b)]], []) : Option (List Row × List Row))
  replace hpre : (true) = true := hpre
  unfold aheadB
  cases decide (a.Vlan < b.Vlan) <;> cases a.Vlan == b.Vlan <;> rfl
theorem s90 : SoundAt Go.Proofs.Try.prog Hx 90 c90 := soundAt_of T85_sound mixed func90 (by kernel_rfl) (by
  intro rows r h
  unfold c90 at h
  split at h
  · rename_i a_Addr a_Vlan a_Port a_Left b_Addr b_Vlan b_Port b_Left
    obtain ⟨hp, hr⟩ := Prod.mk.inj (Option.some.inj h)
    subst hr
    exact ⟨_, m90 ⟨a_Addr, a_Vlan, a_Port, a_Left⟩ ⟨b_Addr, b_Vlan, b_Port, b_Left⟩ hp⟩
  · cases h)
def T90 : Table := (90, c90) :: T85
theorem T90_sound : Table.Sound Go.Proofs.Try.prog Hx T90 := Table.sound_cons s90 T85_sound
def o97 (a : Heard) (b : Heard) : Bool × List Row × List Row := (true, [[.bool (aheadB a b)]], [])
def c97 : Contract
  | [[.int .i64 a_Addr, .int .i64 a_Vlan, .int .i64 a_Port, .int .i64 a_Left], [.int .i64 b_Addr, .int .i64 b_Vlan, .int .i64 b_Port, .int .i64 b_Left]] => some ((o97 ⟨a_Addr, a_Vlan, a_Port, a_Left⟩ ⟨b_Addr, b_Vlan, b_Port, b_Left⟩).1, (o97 ⟨a_Addr, a_Vlan, a_Port, a_Left⟩ ⟨b_Addr, b_Vlan, b_Port, b_Left⟩).2.1, (o97 ⟨a_Addr, a_Vlan, a_Port, a_Left⟩ ⟨b_Addr, b_Vlan, b_Port, b_Left⟩).2.2)
  | _ => none

theorem r97 (a : Heard) (b : Heard) (n : Nat) : evFn ⟨prog, Hx, 97⟩ T90.call n f97 [[.int .i64 a.Addr, .int .i64 a.Vlan, .int .i64 a.Port, .int .i64 a.Left], [.int .i64 b.Addr, .int .i64 b.Vlan, .int .i64 b.Port, .int .i64 b.Left]] = bif decide (Heard.Vlan a < Heard.Vlan b) then some ([[D.bool true]], []) else bif Heard.Vlan a == Heard.Vlan b then some ([[D.bool (decide (Heard.Addr a < Heard.Addr b))]], []) else some ([[D.bool false]], []) := by kernel_rfl
theorem m97 (a : Heard) (b : Heard) (hpre : (o97 a b).1 = true) : evFn ⟨Go.Proofs.Try.prog, Hx, 97⟩ T90.call 0 f97 [[.int .i64 a.Addr, .int .i64 a.Vlan, .int .i64 a.Port, .int .i64 a.Left], [.int .i64 b.Addr, .int .i64 b.Vlan, .int .i64 b.Port, .int .i64 b.Left]] = some (o97 a b).2 := by
  refine (r97 a b _).trans ?_
  show _ = (some ([[.bool (aheadB a b)]], []) : Option (List Row × List Row))
  replace hpre : (true) = true := hpre
  unfold aheadB
  cases decide (a.Vlan < b.Vlan) <;> cases a.Vlan == b.Vlan <;> rfl
theorem s97 : SoundAt Go.Proofs.Try.prog Hx 97 c97 := soundAt_of T90_sound mixed func97 (by kernel_rfl) (by
  intro rows r h
  unfold c97 at h
  split at h
  · rename_i a_Addr a_Vlan a_Port a_Left b_Addr b_Vlan b_Port b_Left
    obtain ⟨hp, hr⟩ := Prod.mk.inj (Option.some.inj h)
    subst hr
    exact ⟨_, m97 ⟨a_Addr, a_Vlan, a_Port, a_Left⟩ ⟨b_Addr, b_Vlan, b_Port, b_Left⟩ hp⟩
  · cases h)
def T97 : Table := (97, c97) :: T90
theorem T97_sound : Table.Sound Go.Proofs.Try.prog Hx T97 := Table.sound_cons s97 T90_sound
def o86 (list : List Heard) : Bool × List Row × List Row := (decide (list.length ≤ 2097152), [[.bool (tableOk list)]], [])
def c86 : Contract
  | [[.sl false 4 list]] => some (isS Heard false list && (o86 (deS Heard list)).1, (o86 (deS Heard list)).2.1, (o86 (deS Heard list)).2.2)
  | _ => none

def k86_0 (n : Nat) : Ex → St → RR := kThen (fun st ↦ runCode (Ctx.mk prog Hx (86)) (Table.call T97) n (codeAt [1, 1] (bodyOf f86)) (Lv.mk 4 [] 4) st (kLeave (Ctx.P (Ctx.mk prog Hx (86))) (List.zip (Array.toList (Go.Func.resultTypes f86)) (Array.toList (Go.Func.results f86))) [] [])) (kLeave (Ctx.P (Ctx.mk prog Hx (86))) (List.zip (Array.toList (Go.Func.resultTypes f86)) (Array.toList (Go.Func.results f86))) [] [])
def k86_1 (n : Nat) : Ex → St → RR := kBlock (0) (k86_0 n)
def S86_0 (list : List Heard) (i0 : Int) : St := St.mk [V_ [C.d (D.sl false 4 (enS false list))], U_, U_, U_, U_, V_ [C.d (D.sl false 4 (enS false list))], I_ (ofNat (length (enS false list))), I_ i0, U_, U_, U_, U_, U_, U_, U_, U_, U_, U_, U_, U_, U_, U_, U_, U_, U_, U_, U_, U_, U_, U_, U_, U_, U_, U_, U_, U_, U_, U_, U_, U_, U_, U_, U_, U_, U_, U_, U_, U_, U_, U_] []
def B86_0 (n : Nat) : St → (Ex → St → RR) → RR := runCode (Ctx.mk prog Hx (86)) (Table.call T97) n (codeAt [1, 0, 1, 0, 0] (bodyOf f86)) (Lv.mk 225 [(0, 1)] 4)
def X86_2 (list : List Heard) (i0 : Int) : St := St.mk [V_ [C.d (D.sl false 4 (enS false list))], U_, B_ false, I_ i0, V_ [C.ptr 0 0 0 [] 4 0 0], V_ [C.d (D.sl false 4 (enS false list))], I_ (ofNat (length (enS false list))), I_ i0, B_ true, I_ i0, V_ [C.rptr (getD (enS false list) (toNat i0) [])], TV.v true [C.d (D.int i64 (D.num (getD (getD (enS false list) (toNat i0) []) 0 D.dead))), C.d (D.int i64 (D.num (getD (getD (enS false list) (toNat i0) []) 1 D.dead))), C.d (D.int i64 (D.num (getD (getD (enS false list) (toNat i0) []) 2 D.dead))), C.d (D.int i64 (D.num (getD (getD (enS false list) (toNat i0) []) 3 D.dead)))], V_ [C.ptr 0 0 0 [] 4 0 0], I_ (D.num (getD (getD (enS false list) (toNat i0) []) 0 D.dead)), B_ (inR (D.num (getD (getD (enS false list) (toNat i0) []) 0 D.dead)) (1) (9)), V_ [C.d (D.bool !inR (D.num (getD (getD (enS false list) (toNat i0) []) 0 D.dead)) (1) (9))], B_ true, V_ [C.gone], V_ [C.gone], V_ [C.gone], V_ [C.gone], B_ true, B_ true, V_ [C.gone], V_ [C.gone], V_ [C.gone], V_ [C.gone], B_ true, B_ true, V_ [C.gone], V_ [C.gone], V_ [C.gone], V_ [C.gone], B_ true, U_, U_, U_, U_, U_, U_, U_, U_, U_, U_, U_, U_, U_, U_, U_, U_] [Root.mk true 4 [[D.int i64 (D.num (getD (getD (enS false list) (toNat i0) []) 0 D.dead)), D.int i64 (D.num (getD (getD (enS false list) (toNat i0) []) 1 D.dead)), D.int i64 (D.num (getD (getD (enS false list) (toNat i0) []) 2 D.dead)), D.int i64 (D.num (getD (getD (enS false list) (toNat i0) []) 3 D.dead))]] 0 0 true true false]
def X86_3 (list : List Heard) (i0 : Int) : St := St.mk [V_ [C.d (D.sl false 4 (enS false list))], U_, B_ false, I_ i0, V_ [C.ptr 0 0 0 [] 4 0 0], V_ [C.d (D.sl false 4 (enS false list))], I_ (ofNat (length (enS false list))), I_ i0, B_ true, I_ i0, V_ [C.rptr (getD (enS false list) (toNat i0) [])], TV.v true [C.d (D.int i64 (D.num (getD (getD (enS false list) (toNat i0) []) 0 D.dead))), C.d (D.int i64 (D.num (getD (getD (enS false list) (toNat i0) []) 1 D.dead))), C.d (D.int i64 (D.num (getD (getD (enS false list) (toNat i0) []) 2 D.dead))), C.d (D.int i64 (D.num (getD (getD (enS false list) (toNat i0) []) 3 D.dead)))], V_ [C.ptr 0 0 0 [] 4 0 0], I_ (D.num (getD (getD (enS false list) (toNat i0) []) 0 D.dead)), B_ (inR (D.num (getD (getD (enS false list) (toNat i0) []) 0 D.dead)) (1) (9)), V_ [C.d (D.bool !inR (D.num (getD (getD (enS false list) (toNat i0) []) 0 D.dead)) (1) (9))], B_ false, V_ [C.ptr 0 0 0 [] 4 0 1], I_ (D.num (getD (getD (enS false list) (toNat i0) []) 1 D.dead)), B_ (inR (D.num (getD (getD (enS false list) (toNat i0) []) 1 D.dead)) (1) (4)), V_ [C.d (D.bool !inR (D.num (getD (getD (enS false list) (toNat i0) []) 1 D.dead)) (1) (4))], V_ [C.d (D.bool !inR (D.num (getD (getD (enS false list) (toNat i0) []) 1 D.dead)) (1) (4))], B_ true, V_ [C.gone], V_ [C.gone], V_ [C.gone], V_ [C.gone], B_ true, B_ true, V_ [C.gone], V_ [C.gone], V_ [C.gone], V_ [C.gone], B_ true, U_, U_, U_, U_, U_, U_, U_, U_, U_, U_, U_, U_, U_, U_, U_, U_] [Root.mk true 4 [[D.int i64 (D.num (getD (getD (enS false list) (toNat i0) []) 0 D.dead)), D.int i64 (D.num (getD (getD (enS false list) (toNat i0) []) 1 D.dead)), D.int i64 (D.num (getD (getD (enS false list) (toNat i0) []) 2 D.dead)), D.int i64 (D.num (getD (getD (enS false list) (toNat i0) []) 3 D.dead))]] 0 0 true true false]
def X86_4 (list : List Heard) (i0 : Int) : St := St.mk [V_ [C.d (D.sl false 4 (enS false list))], U_, B_ false, I_ i0, V_ [C.ptr 0 0 0 [] 4 0 0], V_ [C.d (D.sl false 4 (enS false list))], I_ (ofNat (length (enS false list))), I_ i0, B_ true, I_ i0, V_ [C.rptr (getD (enS false list) (toNat i0) [])], TV.v true [C.d (D.int i64 (D.num (getD (getD (enS false list) (toNat i0) []) 0 D.dead))), C.d (D.int i64 (D.num (getD (getD (enS false list) (toNat i0) []) 1 D.dead))), C.d (D.int i64 (D.num (getD (getD (enS false list) (toNat i0) []) 2 D.dead))), C.d (D.int i64 (D.num (getD (getD (enS false list) (toNat i0) []) 3 D.dead)))], V_ [C.ptr 0 0 0 [] 4 0 0], I_ (D.num (getD (getD (enS false list) (toNat i0) []) 0 D.dead)), B_ (inR (D.num (getD (getD (enS false list) (toNat i0) []) 0 D.dead)) (1) (9)), V_ [C.d (D.bool !inR (D.num (getD (getD (enS false list) (toNat i0) []) 0 D.dead)) (1) (9))], B_ false, V_ [C.ptr 0 0 0 [] 4 0 1], I_ (D.num (getD (getD (enS false list) (toNat i0) []) 1 D.dead)), B_ (inR (D.num (getD (getD (enS false list) (toNat i0) []) 1 D.dead)) (1) (4)), V_ [C.d (D.bool !inR (D.num (getD (getD (enS false list) (toNat i0) []) 1 D.dead)) (1) (4))], V_ [C.d (D.bool !inR (D.num (getD (getD (enS false list) (toNat i0) []) 1 D.dead)) (1) (4))], B_ false, V_ [C.ptr 0 0 0 [] 4 0 2], I_ (D.num (getD (getD (enS false list) (toNat i0) []) 2 D.dead)), B_ (isPortB (D.num (getD (getD (enS false list) (toNat i0) []) 2 D.dead))), V_ [C.d (D.bool !isPortB (D.num (getD (getD (enS false list) (toNat i0) []) 2 D.dead)))], V_ [C.d (D.bool !isPortB (D.num (getD (getD (enS false list) (toNat i0) []) 2 D.dead)))], B_ true, V_ [C.gone], V_ [C.gone], V_ [C.gone], V_ [C.gone], B_ true, U_, U_, U_, U_, U_, U_, U_, U_, U_, U_, U_, U_, U_, U_, U_, U_] [Root.mk true 4 [[D.int i64 (D.num (getD (getD (enS false list) (toNat i0) []) 0 D.dead)), D.int i64 (D.num (getD (getD (enS false list) (toNat i0) []) 1 D.dead)), D.int i64 (D.num (getD (getD (enS false list) (toNat i0) []) 2 D.dead)), D.int i64 (D.num (getD (getD (enS false list) (toNat i0) []) 3 D.dead))]] 0 0 true true false]
def X86_5 (list : List Heard) (i0 : Int) : St := St.mk [V_ [C.d (D.sl false 4 (enS false list))], U_, B_ false, I_ i0, V_ [C.ptr 0 0 0 [] 4 0 0], V_ [C.d (D.sl false 4 (enS false list))], I_ (ofNat (length (enS false list))), I_ i0, B_ true, I_ i0, V_ [C.rptr (getD (enS false list) (toNat i0) [])], TV.v true [C.d (D.int i64 (D.num (getD (getD (enS false list) (toNat i0) []) 0 D.dead))), C.d (D.int i64 (D.num (getD (getD (enS false list) (toNat i0) []) 1 D.dead))), C.d (D.int i64 (D.num (getD (getD (enS false list) (toNat i0) []) 2 D.dead))), C.d (D.int i64 (D.num (getD (getD (enS false list) (toNat i0) []) 3 D.dead)))], V_ [C.ptr 0 0 0 [] 4 0 0], I_ (D.num (getD (getD (enS false list) (toNat i0) []) 0 D.dead)), B_ (inR (D.num (getD (getD (enS false list) (toNat i0) []) 0 D.dead)) (1) (9)), V_ [C.d (D.bool !inR (D.num (getD (getD (enS false list) (toNat i0) []) 0 D.dead)) (1) (9))], B_ false, V_ [C.ptr 0 0 0 [] 4 0 1], I_ (D.num (getD (getD (enS false list) (toNat i0) []) 1 D.dead)), B_ (inR (D.num (getD (getD (enS false list) (toNat i0) []) 1 D.dead)) (1) (4)), V_ [C.d (D.bool !inR (D.num (getD (getD (enS false list) (toNat i0) []) 1 D.dead)) (1) (4))], V_ [C.d (D.bool !inR (D.num (getD (getD (enS false list) (toNat i0) []) 1 D.dead)) (1) (4))], B_ false, V_ [C.ptr 0 0 0 [] 4 0 2], I_ (D.num (getD (getD (enS false list) (toNat i0) []) 2 D.dead)), B_ (isPortB (D.num (getD (getD (enS false list) (toNat i0) []) 2 D.dead))), V_ [C.d (D.bool !isPortB (D.num (getD (getD (enS false list) (toNat i0) []) 2 D.dead)))], V_ [C.d (D.bool !isPortB (D.num (getD (getD (enS false list) (toNat i0) []) 2 D.dead)))], B_ false, V_ [C.ptr 0 0 0 [] 4 0 3], I_ (D.num (getD (getD (enS false list) (toNat i0) []) 3 D.dead)), B_ (inR (D.num (getD (getD (enS false list) (toNat i0) []) 3 D.dead)) (1) (20)), V_ [C.d (D.bool !inR (D.num (getD (getD (enS false list) (toNat i0) []) 3 D.dead)) (1) (20))], B_ true, U_, U_, U_, U_, U_, U_, U_, U_, U_, U_, U_, U_, U_, U_, U_, U_] [Root.mk true 4 [[D.int i64 (D.num (getD (getD (enS false list) (toNat i0) []) 0 D.dead)), D.int i64 (D.num (getD (getD (enS false list) (toNat i0) []) 1 D.dead)), D.int i64 (D.num (getD (getD (enS false list) (toNat i0) []) 2 D.dead)), D.int i64 (D.num (getD (getD (enS false list) (toNat i0) []) 3 D.dead))]] 0 0 true true false]
def X86_6 (list : List Heard) (i0 : Int) : St := St.mk [V_ [C.d (D.sl false 4 (enS false list))], U_, B_ false, I_ i0, V_ [C.ptr 0 0 0 [] 4 0 0], V_ [C.d (D.sl false 4 (enS false list))], I_ (ofNat (length (enS false list))), I_ i0, B_ true, I_ i0, V_ [C.rptr (getD (enS false list) (toNat i0) [])], TV.v true [C.d (D.int i64 (D.num (getD (getD (enS false list) (toNat i0) []) 0 D.dead))), C.d (D.int i64 (D.num (getD (getD (enS false list) (toNat i0) []) 1 D.dead))), C.d (D.int i64 (D.num (getD (getD (enS false list) (toNat i0) []) 2 D.dead))), C.d (D.int i64 (D.num (getD (getD (enS false list) (toNat i0) []) 3 D.dead)))], V_ [C.ptr 0 0 0 [] 4 0 0], I_ (D.num (getD (getD (enS false list) (toNat i0) []) 0 D.dead)), B_ (inR (D.num (getD (getD (enS false list) (toNat i0) []) 0 D.dead)) (1) (9)), V_ [C.d (D.bool !inR (D.num (getD (getD (enS false list) (toNat i0) []) 0 D.dead)) (1) (9))], B_ false, V_ [C.ptr 0 0 0 [] 4 0 1], I_ (D.num (getD (getD (enS false list) (toNat i0) []) 1 D.dead)), B_ (inR (D.num (getD (getD (enS false list) (toNat i0) []) 1 D.dead)) (1) (4)), V_ [C.d (D.bool !inR (D.num (getD (getD (enS false list) (toNat i0) []) 1 D.dead)) (1) (4))], V_ [C.d (D.bool !inR (D.num (getD (getD (enS false list) (toNat i0) []) 1 D.dead)) (1) (4))], B_ false, V_ [C.ptr 0 0 0 [] 4 0 2], I_ (D.num (getD (getD (enS false list) (toNat i0) []) 2 D.dead)), B_ (isPortB (D.num (getD (getD (enS false list) (toNat i0) []) 2 D.dead))), V_ [C.d (D.bool !isPortB (D.num (getD (getD (enS false list) (toNat i0) []) 2 D.dead)))], V_ [C.d (D.bool !isPortB (D.num (getD (getD (enS false list) (toNat i0) []) 2 D.dead)))], B_ false, V_ [C.ptr 0 0 0 [] 4 0 3], I_ (D.num (getD (getD (enS false list) (toNat i0) []) 3 D.dead)), B_ (inR (D.num (getD (getD (enS false list) (toNat i0) []) 3 D.dead)) (1) (20)), V_ [C.d (D.bool !inR (D.num (getD (getD (enS false list) (toNat i0) []) 3 D.dead)) (1) (20))], B_ false, I_ i0, B_ (decide (i0 > 0)), B_ true, V_ [C.d (D.sl false 4 (enS false list))], I_ i0, I_ (wrap i64 (i0 - 1)), V_ [C.rptr (getD (enS false list) (toNat (wrap i64 (i0 - 1))) [])], TV.v true [C.d (D.int i64 (D.num (getD (getD (enS false list) (toNat (wrap i64 (i0 - 1))) []) 0 D.dead))), C.d (D.int i64 (D.num (getD (getD (enS false list) (toNat (wrap i64 (i0 - 1))) []) 1 D.dead))), C.d (D.int i64 (D.num (getD (getD (enS false list) (toNat (wrap i64 (i0 - 1))) []) 2 D.dead))), C.d (D.int i64 (D.num (getD (getD (enS false list) (toNat (wrap i64 (i0 - 1))) []) 3 D.dead)))], TV.v true [C.d (D.int i64 (D.num (getD (getD (enS false list) (toNat i0) []) 0 D.dead))), C.d (D.int i64 (D.num (getD (getD (enS false list) (toNat i0) []) 1 D.dead))), C.d (D.int i64 (D.num (getD (getD (enS false list) (toNat i0) []) 2 D.dead))), C.d (D.int i64 (D.num (getD (getD (enS false list) (toNat i0) []) 3 D.dead)))], B_ (aheadB (Heard.mk (D.num (getD (getD (enS false list) (toNat (wrap i64 (i0 - 1))) []) 0 D.dead)) (D.num (getD (getD (enS false list) (toNat (wrap i64 (i0 - 1))) []) 1 D.dead)) (D.num (getD (getD (enS false list) (toNat (wrap i64 (i0 - 1))) []) 2 D.dead)) (D.num (getD (getD (enS false list) (toNat (wrap i64 (i0 - 1))) []) 3 D.dead))) (Heard.mk (D.num (getD (getD (enS false list) (toNat i0) []) 0 D.dead)) (D.num (getD (getD (enS false list) (toNat i0) []) 1 D.dead)) (D.num (getD (getD (enS false list) (toNat i0) []) 2 D.dead)) (D.num (getD (getD (enS false list) (toNat i0) []) 3 D.dead)))), V_ [C.d (D.bool !aheadB (Heard.mk (D.num (getD (getD (enS false list) (toNat (wrap i64 (i0 - 1))) []) 0 D.dead)) (D.num (getD (getD (enS false list) (toNat (wrap i64 (i0 - 1))) []) 1 D.dead)) (D.num (getD (getD (enS false list) (toNat (wrap i64 (i0 - 1))) []) 2 D.dead)) (D.num (getD (getD (enS false list) (toNat (wrap i64 (i0 - 1))) []) 3 D.dead))) (Heard.mk (D.num (getD (getD (enS false list) (toNat i0) []) 0 D.dead)) (D.num (getD (getD (enS false list) (toNat i0) []) 1 D.dead)) (D.num (getD (getD (enS false list) (toNat i0) []) 2 D.dead)) (D.num (getD (getD (enS false list) (toNat i0) []) 3 D.dead))))], B_ true, U_, U_, U_, U_] [Root.mk true 4 [[D.int i64 (D.num (getD (getD (enS false list) (toNat i0) []) 0 D.dead)), D.int i64 (D.num (getD (getD (enS false list) (toNat i0) []) 1 D.dead)), D.int i64 (D.num (getD (getD (enS false list) (toNat i0) []) 2 D.dead)), D.int i64 (D.num (getD (getD (enS false list) (toNat i0) []) 3 D.dead))]] 0 0 true true false]
def X86_7 (list : List Heard) (i0 : Int) : St := St.mk [V_ [C.d (D.sl false 4 (enS false list))], U_, U_, U_, U_, V_ [C.d (D.sl false 4 (enS false list))], I_ (ofNat (length (enS false list))), I_ i0, B_ false, U_, U_, U_, U_, U_, U_, U_, U_, U_, U_, U_, U_, U_, U_, U_, U_, U_, U_, U_, U_, U_, U_, U_, U_, U_, U_, U_, U_, U_, U_, U_, U_, U_, U_, U_, U_, U_, U_, U_, U_, U_] []
theorem q86_0 (list : List Heard) (n : Nat) (i0 : Int) (f : St → RR) (K : Ex → St → RR) : B86_0 n (S86_0 list i0) (kThen (fun st ↦ f (St.head 0 225 140737488355228 st)) K) = bif decide (i0 < ofNat (length (enS false list))) then bif decide (0 ≤ i0) && decide (i0 < ofNat (length (enS false list))) then bif Leaf.fit false (Leaf.int i64) (getD (getD (enS false list) (toNat i0) []) 0 D.dead) && (Leaf.fit false (Leaf.int i64) (getD (getD (enS false list) (toNat i0) []) 1 D.dead) && (Leaf.fit false (Leaf.int i64) (getD (getD (enS false list) (toNat i0) []) 2 D.dead) && (Leaf.fit false (Leaf.int i64) (getD (getD (enS false list) (toNat i0) []) 3 D.dead) && true))) then bif !inR (D.num (getD (getD (enS false list) (toNat i0) []) 0 D.dead)) (1) (9) then K Ex.ret (X86_2 list i0) else bif !inR (D.num (getD (getD (enS false list) (toNat i0) []) 1 D.dead)) (1) (4) then K Ex.ret (X86_3 list i0) else bif !isPortB (D.num (getD (getD (enS false list) (toNat i0) []) 2 D.dead)) then K Ex.ret (X86_4 list i0) else bif !inR (D.num (getD (getD (enS false list) (toNat i0) []) 3 D.dead)) (1) (20) then K Ex.ret (X86_5 list i0) else bif decide (i0 > 0) then bif decide (0 ≤ wrap i64 (i0 - 1)) && decide (wrap i64 (i0 - 1) < ofNat (length (enS false list))) then bif Leaf.fit false (Leaf.int i64) (getD (getD (enS false list) (toNat (wrap i64 (i0 - 1))) []) 0 D.dead) && (Leaf.fit false (Leaf.int i64) (getD (getD (enS false list) (toNat (wrap i64 (i0 - 1))) []) 1 D.dead) && (Leaf.fit false (Leaf.int i64) (getD (getD (enS false list) (toNat (wrap i64 (i0 - 1))) []) 2 D.dead) && (Leaf.fit false (Leaf.int i64) (getD (getD (enS false list) (toNat (wrap i64 (i0 - 1))) []) 3 D.dead) && true))) then bif !aheadB (Heard.mk (D.num (getD (getD (enS false list) (toNat (wrap i64 (i0 - 1))) []) 0 D.dead)) (D.num (getD (getD (enS false list) (toNat (wrap i64 (i0 - 1))) []) 1 D.dead)) (D.num (getD (getD (enS false list) (toNat (wrap i64 (i0 - 1))) []) 2 D.dead)) (D.num (getD (getD (enS false list) (toNat (wrap i64 (i0 - 1))) []) 3 D.dead))) (Heard.mk (D.num (getD (getD (enS false list) (toNat i0) []) 0 D.dead)) (D.num (getD (getD (enS false list) (toNat i0) []) 1 D.dead)) (D.num (getD (getD (enS false list) (toNat i0) []) 2 D.dead)) (D.num (getD (getD (enS false list) (toNat i0) []) 3 D.dead))) then K Ex.ret (X86_6 list i0) else f (S86_0 list (wrap i64 (i0 + 1))) else none else none else f (S86_0 list (wrap i64 (i0 + 1))) else none else none else K (Ex.exit 0) (X86_7 list i0) := by kernel_rfl
theorem aX86_2 (list : List Heard) (n : Nat) (i0 : Int) : k86_1 n Ex.ret (X86_2 list i0) = some ([[D.bool false]], []) := by kernel_rfl
theorem aX86_3 (list : List Heard) (n : Nat) (i0 : Int) : k86_1 n Ex.ret (X86_3 list i0) = some ([[D.bool false]], []) := by kernel_rfl
theorem aX86_4 (list : List Heard) (n : Nat) (i0 : Int) : k86_1 n Ex.ret (X86_4 list i0) = some ([[D.bool false]], []) := by kernel_rfl
theorem aX86_5 (list : List Heard) (n : Nat) (i0 : Int) : k86_1 n Ex.ret (X86_5 list i0) = some ([[D.bool false]], []) := by kernel_rfl
theorem aX86_6 (list : List Heard) (n : Nat) (i0 : Int) : k86_1 n Ex.ret (X86_6 list i0) = some ([[D.bool false]], []) := by kernel_rfl
theorem aX86_7 (list : List Heard) (n : Nat) (i0 : Int) : k86_1 n (Ex.exit 0) (X86_7 list i0) = some ([[D.bool (decide (ofNat (length (enS false list)) ≤ 12))]], []) := by kernel_rfl
theorem r86 (list : List Heard) (n : Nat) : evFn ⟨prog, Hx, 86⟩ T97.call n f86 [[.sl false 4 (enS false list)]] = loopRun (B86_0 n) 0 225 140737488355228 n (S86_0 list (0)) (k86_1 n) := by kernel_rfl
theorem m86 (list : List Heard) (hpre : (o86 list).1 = true) : evFn ⟨Go.Proofs.Try.prog, Hx, 86⟩ T97.call (list.length + 1) f86 [[.sl false 4 (enS false list)]] = some (o86 list).2 := by
  refine (r86 list _).trans ?_
  show _ = (some ([[.bool (tableOk list)]], []) : Option (List Row × List Row))
  replace hpre : (decide (list.length ≤ 2097152)) = true := hpre
  have hlen := of_decide_eq_true hpre
  unfold tableOk
  refine loop_list (xs := list) (fun i (_ : Unit) => S86_0 list (Int.ofNat i)) (fun _ _ => True) (fun i _ rest => some ([[D.bool (stepsOk (prevAt list i) rest && decide (list.length ≤ 12))]], [])) ?_ ?_ (list.length + 1) () (by omega) trivial
  · rintro _ _ f
    refine (q86_0 list _ _ f _).trans ?_
    rw [end_lt, cond_false]
    refine (aX86_7 list _ _).trans ?_
    simp only [enS_length, stepsOk, Bool.true_and]
    have hd : decide (Int.ofNat list.length ≤ 12) = decide (list.length ≤ 12) := decide_eq_decide.2 (by show (list.length : Int) ≤ 12 ↔ _; omega)
    rw [hd]
  · rintro i _ hi _ f hf
    refine (q86_0 list _ _ f _).trans ?_
    rw [steps_cons]
    unfold heardOk
    cases h1 : inR list[i].Addr 1 9
    · simp only [enS_length, toNat_of, dec_lt, dec_ge, decide_true, decide_false, cond_true, cond_false, Bool.and_self, Bool.and_true, Bool.true_and, Bool.not_true, Bool.not_false, Nat.lt_irrefl, Nat.zero_add, isS_enS, deS_enS, isS_nil, deS_nil, List.nil_append, lendRows_enS, deepRows_enS, noSl_u8, En.enc, List.getD_cons_zero, List.getD_cons_succ, D.num, D.flag, D.text, D.rows, Leaf.fit, List.append_eq, TReader.eta, Frame.eta, Heard.eta, Member.eta, Card.eta, Out1.eta, Vec.eta, Port.eta, Bridge.eta, In.eta, Out.eta, Link.eta, Net.eta, TEnd.eta, Minder.eta, Reg.eta, Wire.eta, Box.eta, Deed.eta, Bpdu.eta, Visit.eta, Fabric.eta, Got.eta, TRide.eta, Up.eta, Copy.eta, Bucket.eta, Snap.eta, TL9Cur.eta, TL21In.eta, enS_get _ hi, hi, wrap_succ (show i < 4611686018427387904 by omega), h1]
      exact aX86_2 list _ _
    cases h2 : inR list[i].Vlan 1 4
    · simp only [enS_length, toNat_of, dec_lt, dec_ge, decide_true, decide_false, cond_true, cond_false, Bool.and_self, Bool.and_true, Bool.true_and, Bool.not_true, Bool.not_false, Nat.lt_irrefl, Nat.zero_add, isS_enS, deS_enS, isS_nil, deS_nil, List.nil_append, lendRows_enS, deepRows_enS, noSl_u8, En.enc, List.getD_cons_zero, List.getD_cons_succ, D.num, D.flag, D.text, D.rows, Leaf.fit, List.append_eq, TReader.eta, Frame.eta, Heard.eta, Member.eta, Card.eta, Out1.eta, Vec.eta, Port.eta, Bridge.eta, In.eta, Out.eta, Link.eta, Net.eta, TEnd.eta, Minder.eta, Reg.eta, Wire.eta, Box.eta, Deed.eta, Bpdu.eta, Visit.eta, Fabric.eta, Got.eta, TRide.eta, Up.eta, Copy.eta, Bucket.eta, Snap.eta, TL9Cur.eta, TL21In.eta, enS_get _ hi, hi, wrap_succ (show i < 4611686018427387904 by omega), h1, h2]
      exact aX86_3 list _ _
    cases h3 : inR list[i].Port 0 3
    · simp only [enS_length, toNat_of, dec_lt, dec_ge, decide_true, decide_false, cond_true, cond_false, Bool.and_self, Bool.and_true, Bool.true_and, Bool.not_true, Bool.not_false, Nat.lt_irrefl, Nat.zero_add, isS_enS, deS_enS, isS_nil, deS_nil, List.nil_append, lendRows_enS, deepRows_enS, noSl_u8, En.enc, List.getD_cons_zero, List.getD_cons_succ, D.num, D.flag, D.text, D.rows, Leaf.fit, List.append_eq, TReader.eta, Frame.eta, Heard.eta, Member.eta, Card.eta, Out1.eta, Vec.eta, Port.eta, Bridge.eta, In.eta, Out.eta, Link.eta, Net.eta, TEnd.eta, Minder.eta, Reg.eta, Wire.eta, Box.eta, Deed.eta, Bpdu.eta, Visit.eta, Fabric.eta, Got.eta, TRide.eta, Up.eta, Copy.eta, Bucket.eta, Snap.eta, TL9Cur.eta, TL21In.eta, enS_get _ hi, hi, wrap_succ (show i < 4611686018427387904 by omega), h1, h2, h3, isPortB]
      exact aX86_4 list _ _
    cases h4 : inR list[i].Left 1 20
    · simp only [enS_length, toNat_of, dec_lt, dec_ge, decide_true, decide_false, cond_true, cond_false, Bool.and_self, Bool.and_true, Bool.true_and, Bool.not_true, Bool.not_false, Nat.lt_irrefl, Nat.zero_add, isS_enS, deS_enS, isS_nil, deS_nil, List.nil_append, lendRows_enS, deepRows_enS, noSl_u8, En.enc, List.getD_cons_zero, List.getD_cons_succ, D.num, D.flag, D.text, D.rows, Leaf.fit, List.append_eq, TReader.eta, Frame.eta, Heard.eta, Member.eta, Card.eta, Out1.eta, Vec.eta, Port.eta, Bridge.eta, In.eta, Out.eta, Link.eta, Net.eta, TEnd.eta, Minder.eta, Reg.eta, Wire.eta, Box.eta, Deed.eta, Bpdu.eta, Visit.eta, Fabric.eta, Got.eta, TRide.eta, Up.eta, Copy.eta, Bucket.eta, Snap.eta, TL9Cur.eta, TL21In.eta, enS_get _ hi, hi, wrap_succ (show i < 4611686018427387904 by omega), h1, h2, h3, h4, isPortB]
      exact aX86_5 list _ _
    cases i with
    | zero =>
      have h0 : decide (Int.ofNat 0 > 0) = false := rfl
      simp only [enS_length, toNat_of, dec_lt, dec_ge, decide_true, decide_false, cond_true, cond_false, Bool.and_self, Bool.and_true, Bool.true_and, Bool.not_true, Bool.not_false, En.enc, List.getD_cons_zero, List.getD_cons_succ, D.num, Leaf.fit, Heard.eta, enS_get _ hi, hi, h0, h1, h2, h3, h4, isPortB, beq_self_eq_true, wrap_succ (show 0 < 4611686018427387904 by omega)]
      exact (hf () trivial).trans (by rw [show prevAt list (0 + 1) = some list[0] from List.getElem?_eq_getElem hi]; rfl)
    | succ i =>
      have hi' : i < list.length := by omega
      have h0 : decide (Int.ofNat (i + 1) > 0) = true := decide_eq_true (by show (0 : Int) < ((i + 1 : Nat) : Int); omega)
      have hw : IntKind.wrap IntKind.i64 (Int.ofNat (i + 1) - 1) = Int.ofNat i := by rw [show Int.ofNat (i + 1) - 1 = Int.ofNat i by show ((i + 1 : Nat) : Int) - 1 = (i : Int); omega]; exact wrap_nat (by omega)
      have h5 : decide (0 ≤ Int.ofNat i) = true := decide_eq_true (by show (0 : Int) ≤ (i : Int); omega)
      have hp : prevAt list (i + 1) = some list[i] := List.getElem?_eq_getElem hi'
      have hn : prevAt list (i + 1 + 1) = some list[i + 1] := List.getElem?_eq_getElem hi
      rw [hp]
      cases h6 : aheadB list[i] list[i + 1]
      · simp only [enS_length, toNat_of, dec_lt, dec_ge, decide_true, decide_false, cond_true, cond_false, Bool.and_self, Bool.and_true, Bool.true_and, Bool.not_true, Bool.not_false, En.enc, List.getD_cons_zero, List.getD_cons_succ, D.num, Leaf.fit, Heard.eta, enS_get _ hi, enS_get _ hi', hi, hi', h0, h1, h2, h3, h4, h5, hw, h6, isPortB, beq_self_eq_true, Bool.false_and]
        exact aX86_6 list _ _
      · simp only [enS_length, toNat_of, dec_lt, dec_ge, decide_true, decide_false, cond_true, cond_false, Bool.and_self, Bool.and_true, Bool.true_and, Bool.not_true, Bool.not_false, En.enc, List.getD_cons_zero, List.getD_cons_succ, D.num, Leaf.fit, Heard.eta, enS_get _ hi, enS_get _ hi', hi, hi', h0, h1, h2, h3, h4, h5, hw, h6, isPortB, beq_self_eq_true, wrap_succ (show i + 1 < 4611686018427387904 by omega)]
        exact (hf () trivial).trans (by rw [hn])
theorem s86 : SoundAt Go.Proofs.Try.prog Hx 86 c86 := soundAt_of T97_sound mixed func86 (by kernel_rfl) (by
  intro rows r h
  unfold c86 at h
  split at h
  · rename_i list
    obtain ⟨hp, hr⟩ := Prod.mk.inj (Option.some.inj h)
    subst hr
    simp only [Bool.and_eq_true] at hp
    obtain ⟨hs0, hp⟩ := hp
    obtain ⟨xs0, rfl⟩ := isS_ex hs0
    simp only [deS_enS] at hp ⊢
    exact ⟨_, m86 xs0 hp⟩
  · cases h)
def T86 : Table := (86, c86) :: T97
theorem T86_sound : Table.Sound Go.Proofs.Try.prog Hx T86 := Table.sound_cons s86 T97_sound
def o87 (list : List Heard) : Bool × List Row × List Row := (decide (list.length ≤ 2097152), [[.bool (tableOk list)]], [])
def c87 : Contract
  | [[.sl false 4 list]] => some (isS Heard false list && (o87 (deS Heard list)).1, (o87 (deS Heard list)).2.1, (o87 (deS Heard list)).2.2)
  | _ => none

def k87_0 (n : Nat) : Ex → St → RR := kThen (fun st ↦ runCode (Ctx.mk prog Hx (87)) (Table.call T86) n (codeAt [1, 1] (bodyOf f87)) (Lv.mk 4 [] 4) st (kLeave (Ctx.P (Ctx.mk prog Hx (87))) (List.zip (Array.toList (Go.Func.resultTypes f87)) (Array.toList (Go.Func.results f87))) [] [])) (kLeave (Ctx.P (Ctx.mk prog Hx (87))) (List.zip (Array.toList (Go.Func.resultTypes f87)) (Array.toList (Go.Func.results f87))) [] [])
def k87_1 (n : Nat) : Ex → St → RR := kBlock (0) (k87_0 n)
def S87_0 (list : List Heard) (i0 : Int) : St := St.mk [V_ [C.d (D.sl false 4 (enS false list))], U_, U_, I_ i0, U_, U_, U_, U_, U_, U_, U_, U_, U_, U_, U_, U_, U_, U_, U_, U_, U_, U_, U_, U_, U_, U_, U_, U_, U_, U_, U_, U_, U_, U_, U_, U_, U_, U_, U_, U_, U_, U_, U_, U_, U_, U_, U_, U_, U_, U_, U_, U_, U_, U_] []
def B87_0 (n : Nat) : St → (Ex → St → RR) → RR := runCode (Ctx.mk prog Hx (87)) (Table.call T86) n (codeAt [1, 0, 1, 0, 0] (bodyOf f87)) (Lv.mk 9 [(0, 1)] 4)
def X87_2 (list : List Heard) (i0 : Int) : St := St.mk [V_ [C.d (D.sl false 4 (enS false list))], U_, B_ false, I_ i0, V_ [C.ptr 0 0 0 [] 4 0 0], I_ i0, V_ [C.d (D.sl false 4 (enS false list))], I_ (ofNat (length (enS false list))), B_ true, U_, U_, V_ [C.d (D.sl false 4 (enS false list))], I_ i0, V_ [C.rptr (getD (enS false list) (toNat i0) [])], TV.v true [C.d (D.int i64 (D.num (getD (getD (enS false list) (toNat i0) []) 0 D.dead))), C.d (D.int i64 (D.num (getD (getD (enS false list) (toNat i0) []) 1 D.dead))), C.d (D.int i64 (D.num (getD (getD (enS false list) (toNat i0) []) 2 D.dead))), C.d (D.int i64 (D.num (getD (getD (enS false list) (toNat i0) []) 3 D.dead)))], V_ [C.ptr 0 0 0 [] 4 0 0], I_ (D.num (getD (getD (enS false list) (toNat i0) []) 0 D.dead)), B_ (inR (D.num (getD (getD (enS false list) (toNat i0) []) 0 D.dead)) (1) (9)), V_ [C.d (D.bool !inR (D.num (getD (getD (enS false list) (toNat i0) []) 0 D.dead)) (1) (9))], B_ true, V_ [C.gone], V_ [C.gone], V_ [C.gone], V_ [C.gone], B_ true, B_ true, V_ [C.gone], V_ [C.gone], V_ [C.gone], V_ [C.gone], B_ true, B_ true, V_ [C.gone], V_ [C.gone], V_ [C.gone], V_ [C.gone], B_ true, B_ true, V_ [C.gone], V_ [C.gone], V_ [C.gone], V_ [C.gone], V_ [C.gone], V_ [C.gone], V_ [C.gone], V_ [C.gone], V_ [C.gone], V_ [C.gone], V_ [C.gone], V_ [C.gone], B_ true, U_, U_, U_] [Root.mk true 4 [[D.int i64 (D.num (getD (getD (enS false list) (toNat i0) []) 0 D.dead)), D.int i64 (D.num (getD (getD (enS false list) (toNat i0) []) 1 D.dead)), D.int i64 (D.num (getD (getD (enS false list) (toNat i0) []) 2 D.dead)), D.int i64 (D.num (getD (getD (enS false list) (toNat i0) []) 3 D.dead))]] 0 0 true true false]
def X87_3 (list : List Heard) (i0 : Int) : St := St.mk [V_ [C.d (D.sl false 4 (enS false list))], U_, B_ false, I_ i0, V_ [C.ptr 0 0 0 [] 4 0 0], I_ i0, V_ [C.d (D.sl false 4 (enS false list))], I_ (ofNat (length (enS false list))), B_ true, U_, U_, V_ [C.d (D.sl false 4 (enS false list))], I_ i0, V_ [C.rptr (getD (enS false list) (toNat i0) [])], TV.v true [C.d (D.int i64 (D.num (getD (getD (enS false list) (toNat i0) []) 0 D.dead))), C.d (D.int i64 (D.num (getD (getD (enS false list) (toNat i0) []) 1 D.dead))), C.d (D.int i64 (D.num (getD (getD (enS false list) (toNat i0) []) 2 D.dead))), C.d (D.int i64 (D.num (getD (getD (enS false list) (toNat i0) []) 3 D.dead)))], V_ [C.ptr 0 0 0 [] 4 0 0], I_ (D.num (getD (getD (enS false list) (toNat i0) []) 0 D.dead)), B_ (inR (D.num (getD (getD (enS false list) (toNat i0) []) 0 D.dead)) (1) (9)), V_ [C.d (D.bool !inR (D.num (getD (getD (enS false list) (toNat i0) []) 0 D.dead)) (1) (9))], B_ false, V_ [C.ptr 0 0 0 [] 4 0 1], I_ (D.num (getD (getD (enS false list) (toNat i0) []) 1 D.dead)), B_ (inR (D.num (getD (getD (enS false list) (toNat i0) []) 1 D.dead)) (1) (4)), V_ [C.d (D.bool !inR (D.num (getD (getD (enS false list) (toNat i0) []) 1 D.dead)) (1) (4))], V_ [C.d (D.bool !inR (D.num (getD (getD (enS false list) (toNat i0) []) 1 D.dead)) (1) (4))], B_ true, V_ [C.gone], V_ [C.gone], V_ [C.gone], V_ [C.gone], B_ true, B_ true, V_ [C.gone], V_ [C.gone], V_ [C.gone], V_ [C.gone], B_ true, B_ true, V_ [C.gone], V_ [C.gone], V_ [C.gone], V_ [C.gone], V_ [C.gone], V_ [C.gone], V_ [C.gone], V_ [C.gone], V_ [C.gone], V_ [C.gone], V_ [C.gone], V_ [C.gone], B_ true, U_, U_, U_] [Root.mk true 4 [[D.int i64 (D.num (getD (getD (enS false list) (toNat i0) []) 0 D.dead)), D.int i64 (D.num (getD (getD (enS false list) (toNat i0) []) 1 D.dead)), D.int i64 (D.num (getD (getD (enS false list) (toNat i0) []) 2 D.dead)), D.int i64 (D.num (getD (getD (enS false list) (toNat i0) []) 3 D.dead))]] 0 0 true true false]
def X87_4 (list : List Heard) (i0 : Int) : St := St.mk [V_ [C.d (D.sl false 4 (enS false list))], U_, B_ false, I_ i0, V_ [C.ptr 0 0 0 [] 4 0 0], I_ i0, V_ [C.d (D.sl false 4 (enS false list))], I_ (ofNat (length (enS false list))), B_ true, U_, U_, V_ [C.d (D.sl false 4 (enS false list))], I_ i0, V_ [C.rptr (getD (enS false list) (toNat i0) [])], TV.v true [C.d (D.int i64 (D.num (getD (getD (enS false list) (toNat i0) []) 0 D.dead))), C.d (D.int i64 (D.num (getD (getD (enS false list) (toNat i0) []) 1 D.dead))), C.d (D.int i64 (D.num (getD (getD (enS false list) (toNat i0) []) 2 D.dead))), C.d (D.int i64 (D.num (getD (getD (enS false list) (toNat i0) []) 3 D.dead)))], V_ [C.ptr 0 0 0 [] 4 0 0], I_ (D.num (getD (getD (enS false list) (toNat i0) []) 0 D.dead)), B_ (inR (D.num (getD (getD (enS false list) (toNat i0) []) 0 D.dead)) (1) (9)), V_ [C.d (D.bool !inR (D.num (getD (getD (enS false list) (toNat i0) []) 0 D.dead)) (1) (9))], B_ false, V_ [C.ptr 0 0 0 [] 4 0 1], I_ (D.num (getD (getD (enS false list) (toNat i0) []) 1 D.dead)), B_ (inR (D.num (getD (getD (enS false list) (toNat i0) []) 1 D.dead)) (1) (4)), V_ [C.d (D.bool !inR (D.num (getD (getD (enS false list) (toNat i0) []) 1 D.dead)) (1) (4))], V_ [C.d (D.bool !inR (D.num (getD (getD (enS false list) (toNat i0) []) 1 D.dead)) (1) (4))], B_ false, V_ [C.ptr 0 0 0 [] 4 0 2], I_ (D.num (getD (getD (enS false list) (toNat i0) []) 2 D.dead)), B_ (inR (D.num (getD (getD (enS false list) (toNat i0) []) 2 D.dead)) (0) (3)), V_ [C.d (D.bool !inR (D.num (getD (getD (enS false list) (toNat i0) []) 2 D.dead)) (0) (3))], V_ [C.d (D.bool !inR (D.num (getD (getD (enS false list) (toNat i0) []) 2 D.dead)) (0) (3))], B_ true, V_ [C.gone], V_ [C.gone], V_ [C.gone], V_ [C.gone], B_ true, B_ true, V_ [C.gone], V_ [C.gone], V_ [C.gone], V_ [C.gone], V_ [C.gone], V_ [C.gone], V_ [C.gone], V_ [C.gone], V_ [C.gone], V_ [C.gone], V_ [C.gone], V_ [C.gone], B_ true, U_, U_, U_] [Root.mk true 4 [[D.int i64 (D.num (getD (getD (enS false list) (toNat i0) []) 0 D.dead)), D.int i64 (D.num (getD (getD (enS false list) (toNat i0) []) 1 D.dead)), D.int i64 (D.num (getD (getD (enS false list) (toNat i0) []) 2 D.dead)), D.int i64 (D.num (getD (getD (enS false list) (toNat i0) []) 3 D.dead))]] 0 0 true true false]
def X87_5 (list : List Heard) (i0 : Int) : St := St.mk [V_ [C.d (D.sl false 4 (enS false list))], U_, B_ false, I_ i0, V_ [C.ptr 0 0 0 [] 4 0 0], I_ i0, V_ [C.d (D.sl false 4 (enS false list))], I_ (ofNat (length (enS false list))), B_ true, U_, U_, V_ [C.d (D.sl false 4 (enS false list))], I_ i0, V_ [C.rptr (getD (enS false list) (toNat i0) [])], TV.v true [C.d (D.int i64 (D.num (getD (getD (enS false list) (toNat i0) []) 0 D.dead))), C.d (D.int i64 (D.num (getD (getD (enS false list) (toNat i0) []) 1 D.dead))), C.d (D.int i64 (D.num (getD (getD (enS false list) (toNat i0) []) 2 D.dead))), C.d (D.int i64 (D.num (getD (getD (enS false list) (toNat i0) []) 3 D.dead)))], V_ [C.ptr 0 0 0 [] 4 0 0], I_ (D.num (getD (getD (enS false list) (toNat i0) []) 0 D.dead)), B_ (inR (D.num (getD (getD (enS false list) (toNat i0) []) 0 D.dead)) (1) (9)), V_ [C.d (D.bool !inR (D.num (getD (getD (enS false list) (toNat i0) []) 0 D.dead)) (1) (9))], B_ false, V_ [C.ptr 0 0 0 [] 4 0 1], I_ (D.num (getD (getD (enS false list) (toNat i0) []) 1 D.dead)), B_ (inR (D.num (getD (getD (enS false list) (toNat i0) []) 1 D.dead)) (1) (4)), V_ [C.d (D.bool !inR (D.num (getD (getD (enS false list) (toNat i0) []) 1 D.dead)) (1) (4))], V_ [C.d (D.bool !inR (D.num (getD (getD (enS false list) (toNat i0) []) 1 D.dead)) (1) (4))], B_ false, V_ [C.ptr 0 0 0 [] 4 0 2], I_ (D.num (getD (getD (enS false list) (toNat i0) []) 2 D.dead)), B_ (inR (D.num (getD (getD (enS false list) (toNat i0) []) 2 D.dead)) (0) (3)), V_ [C.d (D.bool !inR (D.num (getD (getD (enS false list) (toNat i0) []) 2 D.dead)) (0) (3))], V_ [C.d (D.bool !inR (D.num (getD (getD (enS false list) (toNat i0) []) 2 D.dead)) (0) (3))], B_ false, V_ [C.ptr 0 0 0 [] 4 0 3], I_ (D.num (getD (getD (enS false list) (toNat i0) []) 3 D.dead)), B_ (inR (D.num (getD (getD (enS false list) (toNat i0) []) 3 D.dead)) (1) (20)), V_ [C.d (D.bool !inR (D.num (getD (getD (enS false list) (toNat i0) []) 3 D.dead)) (1) (20))], V_ [C.d (D.bool !inR (D.num (getD (getD (enS false list) (toNat i0) []) 3 D.dead)) (1) (20))], B_ true, V_ [C.gone], V_ [C.gone], V_ [C.gone], V_ [C.gone], V_ [C.gone], V_ [C.gone], V_ [C.gone], V_ [C.gone], V_ [C.gone], V_ [C.gone], V_ [C.gone], V_ [C.gone], B_ true, U_, U_, U_] [Root.mk true 4 [[D.int i64 (D.num (getD (getD (enS false list) (toNat i0) []) 0 D.dead)), D.int i64 (D.num (getD (getD (enS false list) (toNat i0) []) 1 D.dead)), D.int i64 (D.num (getD (getD (enS false list) (toNat i0) []) 2 D.dead)), D.int i64 (D.num (getD (getD (enS false list) (toNat i0) []) 3 D.dead))]] 0 0 true true false]
def X87_6 (list : List Heard) (i0 : Int) : St := St.mk [V_ [C.d (D.sl false 4 (enS false list))], U_, B_ false, I_ i0, V_ [C.ptr 0 0 0 [] 4 0 0], I_ i0, V_ [C.d (D.sl false 4 (enS false list))], I_ (ofNat (length (enS false list))), B_ true, U_, U_, V_ [C.d (D.sl false 4 (enS false list))], I_ i0, V_ [C.rptr (getD (enS false list) (toNat i0) [])], TV.v true [C.d (D.int i64 (D.num (getD (getD (enS false list) (toNat i0) []) 0 D.dead))), C.d (D.int i64 (D.num (getD (getD (enS false list) (toNat i0) []) 1 D.dead))), C.d (D.int i64 (D.num (getD (getD (enS false list) (toNat i0) []) 2 D.dead))), C.d (D.int i64 (D.num (getD (getD (enS false list) (toNat i0) []) 3 D.dead)))], V_ [C.ptr 0 0 0 [] 4 0 0], I_ (D.num (getD (getD (enS false list) (toNat i0) []) 0 D.dead)), B_ (inR (D.num (getD (getD (enS false list) (toNat i0) []) 0 D.dead)) (1) (9)), V_ [C.d (D.bool !inR (D.num (getD (getD (enS false list) (toNat i0) []) 0 D.dead)) (1) (9))], B_ false, V_ [C.ptr 0 0 0 [] 4 0 1], I_ (D.num (getD (getD (enS false list) (toNat i0) []) 1 D.dead)), B_ (inR (D.num (getD (getD (enS false list) (toNat i0) []) 1 D.dead)) (1) (4)), V_ [C.d (D.bool !inR (D.num (getD (getD (enS false list) (toNat i0) []) 1 D.dead)) (1) (4))], V_ [C.d (D.bool !inR (D.num (getD (getD (enS false list) (toNat i0) []) 1 D.dead)) (1) (4))], B_ false, V_ [C.ptr 0 0 0 [] 4 0 2], I_ (D.num (getD (getD (enS false list) (toNat i0) []) 2 D.dead)), B_ (inR (D.num (getD (getD (enS false list) (toNat i0) []) 2 D.dead)) (0) (3)), V_ [C.d (D.bool !inR (D.num (getD (getD (enS false list) (toNat i0) []) 2 D.dead)) (0) (3))], V_ [C.d (D.bool !inR (D.num (getD (getD (enS false list) (toNat i0) []) 2 D.dead)) (0) (3))], B_ false, V_ [C.ptr 0 0 0 [] 4 0 3], I_ (D.num (getD (getD (enS false list) (toNat i0) []) 3 D.dead)), B_ (inR (D.num (getD (getD (enS false list) (toNat i0) []) 3 D.dead)) (1) (20)), V_ [C.d (D.bool !inR (D.num (getD (getD (enS false list) (toNat i0) []) 3 D.dead)) (1) (20))], V_ [C.d (D.bool !inR (D.num (getD (getD (enS false list) (toNat i0) []) 3 D.dead)) (1) (20))], B_ false, I_ i0, B_ (decide (i0 > 0)), B_ true, V_ [C.d (D.sl false 4 (enS false list))], I_ i0, I_ (wrap i64 (i0 - 1)), V_ [C.rptr (getD (enS false list) (toNat (wrap i64 (i0 - 1))) [])], TV.v true [C.d (D.int i64 (D.num (getD (getD (enS false list) (toNat (wrap i64 (i0 - 1))) []) 0 D.dead))), C.d (D.int i64 (D.num (getD (getD (enS false list) (toNat (wrap i64 (i0 - 1))) []) 1 D.dead))), C.d (D.int i64 (D.num (getD (getD (enS false list) (toNat (wrap i64 (i0 - 1))) []) 2 D.dead))), C.d (D.int i64 (D.num (getD (getD (enS false list) (toNat (wrap i64 (i0 - 1))) []) 3 D.dead)))], TV.v true [C.d (D.int i64 (D.num (getD (getD (enS false list) (toNat i0) []) 0 D.dead))), C.d (D.int i64 (D.num (getD (getD (enS false list) (toNat i0) []) 1 D.dead))), C.d (D.int i64 (D.num (getD (getD (enS false list) (toNat i0) []) 2 D.dead))), C.d (D.int i64 (D.num (getD (getD (enS false list) (toNat i0) []) 3 D.dead)))], B_ (aheadB (Heard.mk (D.num (getD (getD (enS false list) (toNat (wrap i64 (i0 - 1))) []) 0 D.dead)) (D.num (getD (getD (enS false list) (toNat (wrap i64 (i0 - 1))) []) 1 D.dead)) (D.num (getD (getD (enS false list) (toNat (wrap i64 (i0 - 1))) []) 2 D.dead)) (D.num (getD (getD (enS false list) (toNat (wrap i64 (i0 - 1))) []) 3 D.dead))) (Heard.mk (D.num (getD (getD (enS false list) (toNat i0) []) 0 D.dead)) (D.num (getD (getD (enS false list) (toNat i0) []) 1 D.dead)) (D.num (getD (getD (enS false list) (toNat i0) []) 2 D.dead)) (D.num (getD (getD (enS false list) (toNat i0) []) 3 D.dead)))), V_ [C.d (D.bool !aheadB (Heard.mk (D.num (getD (getD (enS false list) (toNat (wrap i64 (i0 - 1))) []) 0 D.dead)) (D.num (getD (getD (enS false list) (toNat (wrap i64 (i0 - 1))) []) 1 D.dead)) (D.num (getD (getD (enS false list) (toNat (wrap i64 (i0 - 1))) []) 2 D.dead)) (D.num (getD (getD (enS false list) (toNat (wrap i64 (i0 - 1))) []) 3 D.dead))) (Heard.mk (D.num (getD (getD (enS false list) (toNat i0) []) 0 D.dead)) (D.num (getD (getD (enS false list) (toNat i0) []) 1 D.dead)) (D.num (getD (getD (enS false list) (toNat i0) []) 2 D.dead)) (D.num (getD (getD (enS false list) (toNat i0) []) 3 D.dead))))], V_ [C.d (D.bool !aheadB (Heard.mk (D.num (getD (getD (enS false list) (toNat (wrap i64 (i0 - 1))) []) 0 D.dead)) (D.num (getD (getD (enS false list) (toNat (wrap i64 (i0 - 1))) []) 1 D.dead)) (D.num (getD (getD (enS false list) (toNat (wrap i64 (i0 - 1))) []) 2 D.dead)) (D.num (getD (getD (enS false list) (toNat (wrap i64 (i0 - 1))) []) 3 D.dead))) (Heard.mk (D.num (getD (getD (enS false list) (toNat i0) []) 0 D.dead)) (D.num (getD (getD (enS false list) (toNat i0) []) 1 D.dead)) (D.num (getD (getD (enS false list) (toNat i0) []) 2 D.dead)) (D.num (getD (getD (enS false list) (toNat i0) []) 3 D.dead))))], B_ true, U_, U_, U_] [Root.mk true 4 [[D.int i64 (D.num (getD (getD (enS false list) (toNat i0) []) 0 D.dead)), D.int i64 (D.num (getD (getD (enS false list) (toNat i0) []) 1 D.dead)), D.int i64 (D.num (getD (getD (enS false list) (toNat i0) []) 2 D.dead)), D.int i64 (D.num (getD (getD (enS false list) (toNat i0) []) 3 D.dead))]] 0 0 true true false]
def X87_7 (list : List Heard) (i0 : Int) : St := St.mk [V_ [C.d (D.sl false 4 (enS false list))], U_, U_, I_ i0, U_, I_ i0, V_ [C.d (D.sl false 4 (enS false list))], I_ (ofNat (length (enS false list))), B_ false, U_, U_, U_, U_, U_, U_, U_, U_, U_, U_, U_, U_, U_, U_, U_, U_, U_, U_, U_, U_, U_, U_, U_, U_, U_, U_, U_, U_, U_, U_, U_, U_, U_, U_, U_, U_, U_, U_, U_, U_, U_, U_, U_, U_, U_] []
theorem q87_0 (list : List Heard) (n : Nat) (i0 : Int) (f : St → RR) (K : Ex → St → RR) : B87_0 n (S87_0 list i0) (kThen (fun st ↦ f (St.head 0 9 2251799813685244 st)) K) = bif decide (i0 < ofNat (length (enS false list))) then bif decide (0 ≤ i0) && decide (i0 < ofNat (length (enS false list))) then bif Leaf.fit false (Leaf.int i64) (getD (getD (enS false list) (toNat i0) []) 0 D.dead) && (Leaf.fit false (Leaf.int i64) (getD (getD (enS false list) (toNat i0) []) 1 D.dead) && (Leaf.fit false (Leaf.int i64) (getD (getD (enS false list) (toNat i0) []) 2 D.dead) && (Leaf.fit false (Leaf.int i64) (getD (getD (enS false list) (toNat i0) []) 3 D.dead) && true))) then bif !inR (D.num (getD (getD (enS false list) (toNat i0) []) 0 D.dead)) (1) (9) then K Ex.ret (X87_2 list i0) else bif !inR (D.num (getD (getD (enS false list) (toNat i0) []) 1 D.dead)) (1) (4) then K Ex.ret (X87_3 list i0) else bif !inR (D.num (getD (getD (enS false list) (toNat i0) []) 2 D.dead)) (0) (3) then K Ex.ret (X87_4 list i0) else bif !inR (D.num (getD (getD (enS false list) (toNat i0) []) 3 D.dead)) (1) (20) then K Ex.ret (X87_5 list i0) else bif decide (i0 > 0) then bif decide (0 ≤ wrap i64 (i0 - 1)) && decide (wrap i64 (i0 - 1) < ofNat (length (enS false list))) then bif Leaf.fit false (Leaf.int i64) (getD (getD (enS false list) (toNat (wrap i64 (i0 - 1))) []) 0 D.dead) && (Leaf.fit false (Leaf.int i64) (getD (getD (enS false list) (toNat (wrap i64 (i0 - 1))) []) 1 D.dead) && (Leaf.fit false (Leaf.int i64) (getD (getD (enS false list) (toNat (wrap i64 (i0 - 1))) []) 2 D.dead) && (Leaf.fit false (Leaf.int i64) (getD (getD (enS false list) (toNat (wrap i64 (i0 - 1))) []) 3 D.dead) && true))) then bif !aheadB (Heard.mk (D.num (getD (getD (enS false list) (toNat (wrap i64 (i0 - 1))) []) 0 D.dead)) (D.num (getD (getD (enS false list) (toNat (wrap i64 (i0 - 1))) []) 1 D.dead)) (D.num (getD (getD (enS false list) (toNat (wrap i64 (i0 - 1))) []) 2 D.dead)) (D.num (getD (getD (enS false list) (toNat (wrap i64 (i0 - 1))) []) 3 D.dead))) (Heard.mk (D.num (getD (getD (enS false list) (toNat i0) []) 0 D.dead)) (D.num (getD (getD (enS false list) (toNat i0) []) 1 D.dead)) (D.num (getD (getD (enS false list) (toNat i0) []) 2 D.dead)) (D.num (getD (getD (enS false list) (toNat i0) []) 3 D.dead))) then K Ex.ret (X87_6 list i0) else f (S87_0 list (wrap i64 (i0 + 1))) else none else none else f (S87_0 list (wrap i64 (i0 + 1))) else none else none else K (Ex.exit 0) (X87_7 list i0) := by kernel_rfl
theorem aX87_2 (list : List Heard) (n : Nat) (i0 : Int) : k87_1 n Ex.ret (X87_2 list i0) = some ([[D.bool false]], []) := by kernel_rfl
theorem aX87_3 (list : List Heard) (n : Nat) (i0 : Int) : k87_1 n Ex.ret (X87_3 list i0) = some ([[D.bool false]], []) := by kernel_rfl
theorem aX87_4 (list : List Heard) (n : Nat) (i0 : Int) : k87_1 n Ex.ret (X87_4 list i0) = some ([[D.bool false]], []) := by kernel_rfl
theorem aX87_5 (list : List Heard) (n : Nat) (i0 : Int) : k87_1 n Ex.ret (X87_5 list i0) = some ([[D.bool false]], []) := by kernel_rfl
theorem aX87_6 (list : List Heard) (n : Nat) (i0 : Int) : k87_1 n Ex.ret (X87_6 list i0) = some ([[D.bool false]], []) := by kernel_rfl
theorem aX87_7 (list : List Heard) (n : Nat) (i0 : Int) : k87_1 n (Ex.exit 0) (X87_7 list i0) = some ([[D.bool (decide (ofNat (length (enS false list)) ≤ 12))]], []) := by kernel_rfl
theorem r87 (list : List Heard) (n : Nat) : evFn ⟨prog, Hx, 87⟩ T86.call n f87 [[.sl false 4 (enS false list)]] = loopRun (B87_0 n) 0 9 2251799813685244 n (S87_0 list (0)) (k87_1 n) := by kernel_rfl
theorem m87 (list : List Heard) (hpre : (o87 list).1 = true) : evFn ⟨Go.Proofs.Try.prog, Hx, 87⟩ T86.call (list.length + 1) f87 [[.sl false 4 (enS false list)]] = some (o87 list).2 := by
  refine (r87 list _).trans ?_
  show _ = (some ([[.bool (tableOk list)]], []) : Option (List Row × List Row))
  replace hpre : (decide (list.length ≤ 2097152)) = true := hpre
  have hlen := of_decide_eq_true hpre
  unfold tableOk
  refine loop_list (xs := list) (fun i (_ : Unit) => S87_0 list (Int.ofNat i)) (fun _ _ => True) (fun i _ rest => some ([[D.bool (stepsOk (prevAt list i) rest && decide (list.length ≤ 12))]], [])) ?_ ?_ (list.length + 1) () (by omega) trivial
  · rintro _ _ f
    refine (q87_0 list _ _ f _).trans ?_
    rw [end_lt, cond_false]
    refine (aX87_7 list _ _).trans ?_
    simp only [enS_length, stepsOk, Bool.true_and]
    have hd : decide (Int.ofNat list.length ≤ 12) = decide (list.length ≤ 12) := decide_eq_decide.2 (by show (list.length : Int) ≤ 12 ↔ _; omega)
    rw [hd]
  · rintro i _ hi _ f hf
    refine (q87_0 list _ _ f _).trans ?_
    rw [steps_cons]
    unfold heardOk
    cases h1 : inR list[i].Addr 1 9
    · simp only [enS_length, toNat_of, dec_lt, dec_ge, decide_true, decide_false, cond_true, cond_false, Bool.and_self, Bool.and_true, Bool.true_and, Bool.not_true, Bool.not_false, Nat.lt_irrefl, Nat.zero_add, isS_enS, deS_enS, isS_nil, deS_nil, List.nil_append, lendRows_enS, deepRows_enS, noSl_u8, En.enc, List.getD_cons_zero, List.getD_cons_succ, D.num, D.flag, D.text, D.rows, Leaf.fit, List.append_eq, TReader.eta, Frame.eta, Heard.eta, Member.eta, Card.eta, Out1.eta, Vec.eta, Port.eta, Bridge.eta, In.eta, Out.eta, Link.eta, Net.eta, TEnd.eta, Minder.eta, Reg.eta, Wire.eta, Box.eta, Deed.eta, Bpdu.eta, Visit.eta, Fabric.eta, Got.eta, TRide.eta, Up.eta, Copy.eta, Bucket.eta, Snap.eta, TL9Cur.eta, TL21In.eta, enS_get _ hi, hi, wrap_succ (show i < 4611686018427387904 by omega), h1]
      exact aX87_2 list _ _
    cases h2 : inR list[i].Vlan 1 4
    · simp only [enS_length, toNat_of, dec_lt, dec_ge, decide_true, decide_false, cond_true, cond_false, Bool.and_self, Bool.and_true, Bool.true_and, Bool.not_true, Bool.not_false, Nat.lt_irrefl, Nat.zero_add, isS_enS, deS_enS, isS_nil, deS_nil, List.nil_append, lendRows_enS, deepRows_enS, noSl_u8, En.enc, List.getD_cons_zero, List.getD_cons_succ, D.num, D.flag, D.text, D.rows, Leaf.fit, List.append_eq, TReader.eta, Frame.eta, Heard.eta, Member.eta, Card.eta, Out1.eta, Vec.eta, Port.eta, Bridge.eta, In.eta, Out.eta, Link.eta, Net.eta, TEnd.eta, Minder.eta, Reg.eta, Wire.eta, Box.eta, Deed.eta, Bpdu.eta, Visit.eta, Fabric.eta, Got.eta, TRide.eta, Up.eta, Copy.eta, Bucket.eta, Snap.eta, TL9Cur.eta, TL21In.eta, enS_get _ hi, hi, wrap_succ (show i < 4611686018427387904 by omega), h1, h2]
      exact aX87_3 list _ _
    cases h3 : inR list[i].Port 0 3
    · simp only [enS_length, toNat_of, dec_lt, dec_ge, decide_true, decide_false, cond_true, cond_false, Bool.and_self, Bool.and_true, Bool.true_and, Bool.not_true, Bool.not_false, Nat.lt_irrefl, Nat.zero_add, isS_enS, deS_enS, isS_nil, deS_nil, List.nil_append, lendRows_enS, deepRows_enS, noSl_u8, En.enc, List.getD_cons_zero, List.getD_cons_succ, D.num, D.flag, D.text, D.rows, Leaf.fit, List.append_eq, TReader.eta, Frame.eta, Heard.eta, Member.eta, Card.eta, Out1.eta, Vec.eta, Port.eta, Bridge.eta, In.eta, Out.eta, Link.eta, Net.eta, TEnd.eta, Minder.eta, Reg.eta, Wire.eta, Box.eta, Deed.eta, Bpdu.eta, Visit.eta, Fabric.eta, Got.eta, TRide.eta, Up.eta, Copy.eta, Bucket.eta, Snap.eta, TL9Cur.eta, TL21In.eta, enS_get _ hi, hi, wrap_succ (show i < 4611686018427387904 by omega), h1, h2, h3, isPortB]
      exact aX87_4 list _ _
    cases h4 : inR list[i].Left 1 20
    · simp only [enS_length, toNat_of, dec_lt, dec_ge, decide_true, decide_false, cond_true, cond_false, Bool.and_self, Bool.and_true, Bool.true_and, Bool.not_true, Bool.not_false, Nat.lt_irrefl, Nat.zero_add, isS_enS, deS_enS, isS_nil, deS_nil, List.nil_append, lendRows_enS, deepRows_enS, noSl_u8, En.enc, List.getD_cons_zero, List.getD_cons_succ, D.num, D.flag, D.text, D.rows, Leaf.fit, List.append_eq, TReader.eta, Frame.eta, Heard.eta, Member.eta, Card.eta, Out1.eta, Vec.eta, Port.eta, Bridge.eta, In.eta, Out.eta, Link.eta, Net.eta, TEnd.eta, Minder.eta, Reg.eta, Wire.eta, Box.eta, Deed.eta, Bpdu.eta, Visit.eta, Fabric.eta, Got.eta, TRide.eta, Up.eta, Copy.eta, Bucket.eta, Snap.eta, TL9Cur.eta, TL21In.eta, enS_get _ hi, hi, wrap_succ (show i < 4611686018427387904 by omega), h1, h2, h3, h4, isPortB]
      exact aX87_5 list _ _
    cases i with
    | zero =>
      have h0 : decide (Int.ofNat 0 > 0) = false := rfl
      simp only [enS_length, toNat_of, dec_lt, dec_ge, decide_true, decide_false, cond_true, cond_false, Bool.and_self, Bool.and_true, Bool.true_and, Bool.not_true, Bool.not_false, En.enc, List.getD_cons_zero, List.getD_cons_succ, D.num, Leaf.fit, Heard.eta, enS_get _ hi, hi, h0, h1, h2, h3, h4, isPortB, beq_self_eq_true, wrap_succ (show 0 < 4611686018427387904 by omega)]
      exact (hf () trivial).trans (by rw [show prevAt list (0 + 1) = some list[0] from List.getElem?_eq_getElem hi]; rfl)
    | succ i =>
      have hi' : i < list.length := by omega
      have h0 : decide (Int.ofNat (i + 1) > 0) = true := decide_eq_true (by show (0 : Int) < ((i + 1 : Nat) : Int); omega)
      have hw : IntKind.wrap IntKind.i64 (Int.ofNat (i + 1) - 1) = Int.ofNat i := by rw [show Int.ofNat (i + 1) - 1 = Int.ofNat i by show ((i + 1 : Nat) : Int) - 1 = (i : Int); omega]; exact wrap_nat (by omega)
      have h5 : decide (0 ≤ Int.ofNat i) = true := decide_eq_true (by show (0 : Int) ≤ (i : Int); omega)
      have hp : prevAt list (i + 1) = some list[i] := List.getElem?_eq_getElem hi'
      have hn : prevAt list (i + 1 + 1) = some list[i + 1] := List.getElem?_eq_getElem hi
      rw [hp]
      cases h6 : aheadB list[i] list[i + 1]
      · simp only [enS_length, toNat_of, dec_lt, dec_ge, decide_true, decide_false, cond_true, cond_false, Bool.and_self, Bool.and_true, Bool.true_and, Bool.not_true, Bool.not_false, En.enc, List.getD_cons_zero, List.getD_cons_succ, D.num, Leaf.fit, Heard.eta, enS_get _ hi, enS_get _ hi', hi, hi', h0, h1, h2, h3, h4, h5, hw, h6, isPortB, beq_self_eq_true, Bool.false_and]
        exact aX87_6 list _ _
      · simp only [enS_length, toNat_of, dec_lt, dec_ge, decide_true, decide_false, cond_true, cond_false, Bool.and_self, Bool.and_true, Bool.true_and, Bool.not_true, Bool.not_false, En.enc, List.getD_cons_zero, List.getD_cons_succ, D.num, Leaf.fit, Heard.eta, enS_get _ hi, enS_get _ hi', hi, hi', h0, h1, h2, h3, h4, h5, hw, h6, isPortB, beq_self_eq_true, wrap_succ (show i + 1 < 4611686018427387904 by omega)]
        exact (hf () trivial).trans (by rw [hn])
theorem s87 : SoundAt Go.Proofs.Try.prog Hx 87 c87 := soundAt_of T86_sound mixed func87 (by kernel_rfl) (by
  intro rows r h
  unfold c87 at h
  split at h
  · rename_i list
    obtain ⟨hp, hr⟩ := Prod.mk.inj (Option.some.inj h)
    subst hr
    simp only [Bool.and_eq_true] at hp
    obtain ⟨hs0, hp⟩ := hp
    obtain ⟨xs0, rfl⟩ := isS_ex hs0
    simp only [deS_enS] at hp ⊢
    exact ⟨_, m87 xs0 hp⟩
  · cases h)
def T87 : Table := (87, c87) :: T86
theorem T87_sound : Table.Sound Go.Proofs.Try.prog Hx T87 := Table.sound_cons s87 T86_sound
def o91 (list : List Heard) (addr : Int) (vlan : Int) : Bool × List Row × List Row := (decide (list.length ≤ 1048576), [[.sl true 4 (enS true (list.filter (keepB addr vlan)))]], [])
def c91 : Contract
  | [[.sl false 4 list], [.int .i64 addr], [.int .i64 vlan]] => some (isS Heard false list && (o91 (deS Heard list) addr vlan).1, (o91 (deS Heard list) addr vlan).2.1, (o91 (deS Heard list) addr vlan).2.2)
  | _ => none

def k91_0 (n : Nat) : Ex → St → RR := kThen (fun st ↦ runCode (Ctx.mk prog Hx (91)) (Table.call T87) n (codeAt [1, 1, 1] (bodyOf f91)) (Lv.mk 64 [] 64) st (kLeave (Ctx.P (Ctx.mk prog Hx (91))) (List.zip (Array.toList (Go.Func.resultTypes f91)) (Array.toList (Go.Func.results f91))) [] [])) (kLeave (Ctx.P (Ctx.mk prog Hx (91))) (List.zip (Array.toList (Go.Func.resultTypes f91)) (Array.toList (Go.Func.results f91))) [] [])
def k91_1 (n : Nat) : Ex → St → RR := kBlock (0) (k91_0 n)
def S91_0 (list : List Heard) (addr : Int) (vlan : Int) (i0 : Int) (es1 : List (List D)) : St := St.mk [U_, I_ addr, I_ vlan, U_, U_, U_, U_, V_ [C.view 0 0 0 [] 4 none], U_, U_, V_ [C.d (D.sl false 4 (enS false list))], I_ (ofNat (length (enS false list))), I_ i0, U_, U_, U_, U_, U_, U_, U_, U_, U_, U_, U_, U_, U_, U_, U_, U_, U_, U_, U_] [Root.mk false 4 es1 0 0 true true false]
def B91_0 (n : Nat) : St → (Ex → St → RR) → RR := runCode (Ctx.mk prog Hx (91)) (Table.call T87) n (codeAt [1, 1, 0, 1, 0, 0] (bodyOf f91)) (Lv.mk 7302 [(0, 128)] 64)
def X91_2 (list : List Heard) (addr : Int) (vlan : Int) (i0 : Int) (es1 : List (List D)) : St := St.mk [U_, I_ addr, I_ vlan, U_, U_, U_, U_, V_ [C.view 0 0 0 [] 4 none], U_, U_, V_ [C.d (D.sl false 4 (enS false list))], I_ (ofNat (length (enS false list))), I_ i0, B_ false, U_, U_, U_, U_, U_, U_, U_, U_, U_, U_, U_, U_, U_, U_, U_, U_, U_, U_] [Root.mk false 4 es1 0 0 true true false]
theorem q91_0 (list : List Heard) (addr : Int) (vlan : Int) (n : Nat) (i0 : Int) (es1 : List (List D)) (f : St → RR) (K : Ex → St → RR) : B91_0 n (S91_0 list addr vlan i0 es1) (kThen (fun st ↦ f (St.head 0 7302 2147480192 st)) K) = bif decide (i0 < ofNat (length (enS false list))) then bif decide (0 ≤ i0) && decide (i0 < ofNat (length (enS false list))) then bif Leaf.fit false (Leaf.int i64) (getD (getD (enS false list) (toNat i0) []) 0 D.dead) && (Leaf.fit false (Leaf.int i64) (getD (getD (enS false list) (toNat i0) []) 1 D.dead) && (Leaf.fit false (Leaf.int i64) (getD (getD (enS false list) (toNat i0) []) 2 D.dead) && (Leaf.fit false (Leaf.int i64) (getD (getD (enS false list) (toNat i0) []) 3 D.dead) && true))) then bif D.num (getD (getD (enS false list) (toNat i0) []) 0 D.dead) != addr then bif decide ((length es1 + 1) * 32 ≤ 140737488355328) then f (S91_0 list addr vlan (wrap i64 (i0 + 1)) (append es1 [[D.int i64 (D.num (getD (getD (enS false list) (toNat i0) []) 0 D.dead)), D.int i64 (D.num (getD (getD (enS false list) (toNat i0) []) 1 D.dead)), D.int i64 (D.num (getD (getD (enS false list) (toNat i0) []) 2 D.dead)), D.int i64 (D.num (getD (getD (enS false list) (toNat i0) []) 3 D.dead))]])) else none else bif D.num (getD (getD (enS false list) (toNat i0) []) 1 D.dead) != vlan then bif decide ((length es1 + 1) * 32 ≤ 140737488355328) then f (S91_0 list addr vlan (wrap i64 (i0 + 1)) (append es1 [[D.int i64 (D.num (getD (getD (enS false list) (toNat i0) []) 0 D.dead)), D.int i64 (D.num (getD (getD (enS false list) (toNat i0) []) 1 D.dead)), D.int i64 (D.num (getD (getD (enS false list) (toNat i0) []) 2 D.dead)), D.int i64 (D.num (getD (getD (enS false list) (toNat i0) []) 3 D.dead))]])) else none else f (S91_0 list addr vlan (wrap i64 (i0 + 1)) es1) else none else none else K (Ex.exit 0) (X91_2 list addr vlan i0 es1) := by kernel_rfl
theorem aX91_2 (list : List Heard) (addr : Int) (vlan : Int) (n : Nat) (i0 : Int) (es1 : List (List D)) : k91_1 n (Ex.exit 0) (X91_2 list addr vlan i0 es1) = some ([[D.sl true 4 es1]], []) := by kernel_rfl
theorem r91 (list : List Heard) (addr : Int) (vlan : Int) (n : Nat) : evFn ⟨prog, Hx, 91⟩ T87.call n f91 [[.sl false 4 (enS false list)], [.int .i64 addr], [.int .i64 vlan]] = loopRun (B91_0 n) 0 7302 2147480192 n (S91_0 list addr vlan (0) []) (k91_1 n) := by kernel_rfl
theorem m91 (list : List Heard) (addr : Int) (vlan : Int) (hpre : (o91 list addr vlan).1 = true) : evFn ⟨Go.Proofs.Try.prog, Hx, 91⟩ T87.call (list.length + 1) f91 [[.sl false 4 (enS false list)], [.int .i64 addr], [.int .i64 vlan]] = some (o91 list addr vlan).2 := by
  refine (r91 list addr vlan _).trans ?_
  show _ = (some ([[.sl true 4 (enS true (list.filter (keepB addr vlan)))]], []) : Option (List Row × List Row))
  replace hpre : (decide (list.length ≤ 1048576)) = true := hpre
  have hlen := of_decide_eq_true hpre
  refine loop_list (xs := list) (fun i (acc : List Heard) => S91_0 list addr vlan (Int.ofNat i) (enS true acc)) (fun i acc => acc.length ≤ i) (fun i acc rest => some ([[D.sl true 4 (enS true (acc ++ rest.filter (keepB addr vlan)))]], [])) ?_ ?_ (list.length + 1) [] (by omega) (Nat.le_refl _)
  · rintro acc _ f
    refine (q91_0 list addr vlan _ _ _ f _).trans ?_
    rw [end_lt, cond_false]
    refine (aX91_2 list addr vlan _ _ _).trans ?_
    rw [List.filter_nil, List.append_nil]
  · rintro i acc hi hacc f hf
    refine (q91_0 list addr vlan _ _ _ f _).trans ?_
    have hr : decide ((acc.length + 1) * 32 ≤ 140737488355328) = true := decide_eq_true (by omega)
    have ha : enS true acc ++ [[D.int .i64 list[i].Addr, D.int .i64 list[i].Vlan, D.int .i64 list[i].Port, D.int .i64 list[i].Left]] = enS true (acc ++ [list[i]]) := by rw [enS_append, enS_one]; rfl
    have b1 : (list[i].Addr != addr) = !(list[i].Addr == addr) := rfl
    have b2 : (list[i].Vlan != vlan) = !(list[i].Vlan == vlan) := rfl
    have hk : keepB addr vlan list[i] = (!(list[i].Addr == addr) || !(list[i].Vlan == vlan)) := rfl
    have yes : keepB addr vlan list[i] = true → f (S91_0 list addr vlan (Int.ofNat (i + 1)) (enS true (acc ++ [list[i]]))) = some ([[D.sl true 4 (enS true (acc ++ (list[i] :: list.drop (i + 1)).filter (keepB addr vlan)))]], []) := by
      intro h
      refine (hf (acc ++ [list[i]]) (by simp; omega)).trans ?_
      rw [List.filter_cons, if_pos h, List.append_assoc]
      rfl
    cases h1 : list[i].Addr == addr
    · simp only [enS_length, toNat_of, dec_lt, dec_ge, decide_true, decide_false, cond_true, cond_false, Bool.and_self, Bool.and_true, Bool.true_and, Bool.not_true, Bool.not_false, Nat.lt_irrefl, Nat.zero_add, isS_enS, deS_enS, isS_nil, deS_nil, List.nil_append, lendRows_enS, deepRows_enS, noSl_u8, En.enc, List.getD_cons_zero, List.getD_cons_succ, D.num, D.flag, D.text, D.rows, Leaf.fit, List.append_eq, TReader.eta, Frame.eta, Heard.eta, Member.eta, Card.eta, Out1.eta, Vec.eta, Port.eta, Bridge.eta, In.eta, Out.eta, Link.eta, Net.eta, TEnd.eta, Minder.eta, Reg.eta, Wire.eta, Box.eta, Deed.eta, Bpdu.eta, Visit.eta, Fabric.eta, Got.eta, TRide.eta, Up.eta, Copy.eta, Bucket.eta, Snap.eta, TL9Cur.eta, TL21In.eta, enS_get _ hi, hi, wrap_succ (show i < 4611686018427387904 by omega), hr, ha, b1, h1]
      exact yes (by rw [hk, h1]; rfl)
    cases h2 : list[i].Vlan == vlan
    · simp only [enS_length, toNat_of, dec_lt, dec_ge, decide_true, decide_false, cond_true, cond_false, Bool.and_self, Bool.and_true, Bool.true_and, Bool.not_true, Bool.not_false, Nat.lt_irrefl, Nat.zero_add, isS_enS, deS_enS, isS_nil, deS_nil, List.nil_append, lendRows_enS, deepRows_enS, noSl_u8, En.enc, List.getD_cons_zero, List.getD_cons_succ, D.num, D.flag, D.text, D.rows, Leaf.fit, List.append_eq, TReader.eta, Frame.eta, Heard.eta, Member.eta, Card.eta, Out1.eta, Vec.eta, Port.eta, Bridge.eta, In.eta, Out.eta, Link.eta, Net.eta, TEnd.eta, Minder.eta, Reg.eta, Wire.eta, Box.eta, Deed.eta, Bpdu.eta, Visit.eta, Fabric.eta, Got.eta, TRide.eta, Up.eta, Copy.eta, Bucket.eta, Snap.eta, TL9Cur.eta, TL21In.eta, enS_get _ hi, hi, wrap_succ (show i < 4611686018427387904 by omega), hr, ha, b1, b2, h1, h2]
      exact yes (by rw [hk, h1, h2]; rfl)
    · simp only [enS_length, toNat_of, dec_lt, dec_ge, decide_true, decide_false, cond_true, cond_false, Bool.and_self, Bool.and_true, Bool.true_and, Bool.not_true, Bool.not_false, Nat.lt_irrefl, Nat.zero_add, isS_enS, deS_enS, isS_nil, deS_nil, List.nil_append, lendRows_enS, deepRows_enS, noSl_u8, En.enc, List.getD_cons_zero, List.getD_cons_succ, D.num, D.flag, D.text, D.rows, Leaf.fit, List.append_eq, TReader.eta, Frame.eta, Heard.eta, Member.eta, Card.eta, Out1.eta, Vec.eta, Port.eta, Bridge.eta, In.eta, Out.eta, Link.eta, Net.eta, TEnd.eta, Minder.eta, Reg.eta, Wire.eta, Box.eta, Deed.eta, Bpdu.eta, Visit.eta, Fabric.eta, Got.eta, TRide.eta, Up.eta, Copy.eta, Bucket.eta, Snap.eta, TL9Cur.eta, TL21In.eta, enS_get _ hi, hi, wrap_succ (show i < 4611686018427387904 by omega), hr, ha, b1, b2, h1, h2]
      refine (hf acc (by omega)).trans ?_
      rw [List.filter_cons, if_neg (by rw [hk, h1, h2]; decide)]
theorem s91 : SoundAt Go.Proofs.Try.prog Hx 91 c91 := soundAt_of T87_sound mixed func91 (by kernel_rfl) (by
  intro rows r h
  unfold c91 at h
  split at h
  · rename_i list addr vlan
    obtain ⟨hp, hr⟩ := Prod.mk.inj (Option.some.inj h)
    subst hr
    simp only [Bool.and_eq_true] at hp
    obtain ⟨hs0, hp⟩ := hp
    obtain ⟨xs0, rfl⟩ := isS_ex hs0
    simp only [deS_enS] at hp ⊢
    exact ⟨_, m91 xs0 addr vlan hp⟩
  · cases h)
def T91 : Table := (91, c91) :: T87
theorem T91_sound : Table.Sound Go.Proofs.Try.prog Hx T91 := Table.sound_cons s91 T87_sound
def o89 (s : List Heard) : Bool × List Row × List Row := (decide (s.length ≤ 4194304), [[.sl true 4 (enS true (s))]], [])
def c89 : Contract
  | [[.sl false 4 s]] => some (isS Heard false s && (o89 (deS Heard s)).1, (o89 (deS Heard s)).2.1, (o89 (deS Heard s)).2.2)
  | _ => none

theorem r89 (s : List Heard) (n : Nat) : evFn ⟨prog, Hx, 89⟩ T91.call n f89 [[.sl false 4 (enS false s)]] = bif isEmpty (enS false s) then both (some ([[D.sl true 4 []]], [])) (bif decide ((0 + length (enS false s)) * 32 ≤ 140737488355328) then some ([[D.sl true 4 (enS false s)]], []) else none) else bif decide ((0 + length (enS false s)) * 32 ≤ 140737488355328) then some ([[D.sl true 4 (enS false s)]], []) else none := by kernel_rfl
theorem m89 (s : List Heard) (hpre : (o89 s).1 = true) : evFn ⟨Go.Proofs.Try.prog, Hx, 89⟩ T91.call 0 f89 [[.sl false 4 (enS false s)]] = some (o89 s).2 := by
  refine (r89 s _).trans ?_
  show _ = (some ([[.sl true 4 (enS true (s))]], []) : Option (List Row × List Row))
  replace hpre : (decide (s.length ≤ 4194304)) = true := hpre
  have hlen := of_decide_eq_true hpre
  have h1 : decide ((0 + s.length) * 32 ≤ 140737488355328) = true := decide_eq_true (by omega)
  simp only [enS_length, h1, cond_true]
  cases s with
  | nil =>
    rw [show List.isEmpty (enS false ([] : List Heard)) = true from rfl, cond_true]
    exact both_same _
  | cons x xs =>
    rw [show List.isEmpty (enS false (x :: xs)) = false from rfl, cond_false]
    rfl
theorem s89 : SoundAt Go.Proofs.Try.prog Hx 89 c89 := soundAt_of T91_sound mixed func89 (by kernel_rfl) (by
  intro rows r h
  unfold c89 at h
  split at h
  · rename_i s
    obtain ⟨hp, hr⟩ := Prod.mk.inj (Option.some.inj h)
    subst hr
    simp only [Bool.and_eq_true] at hp
    obtain ⟨hs0, hp⟩ := hp
    obtain ⟨xs0, rfl⟩ := isS_ex hs0
    simp only [deS_enS] at hp ⊢
    exact ⟨_, m89 xs0 hp⟩
  · cases h)
def T89 : Table := (89, c89) :: T91
theorem T89_sound : Table.Sound Go.Proofs.Try.prog Hx T89 := Table.sound_cons s89 T91_sound
def o98 (s : List Heard) (n_ : Int) : Bool × List Row × List Row := (decide (s.length = 0) && (decide (0 ≤ n_) && decide (n_ ≤ 16777216)), [[.sl true 4 (enS true (emptyH))]], [])
def c98 : Contract
  | [[.sl true 4 s], [.int .i64 n_]] => some (isS Heard true s && (o98 (deS Heard s) n_).1, (o98 (deS Heard s) n_).2.1, (o98 (deS Heard s) n_).2.2)
  | _ => none

section
open Go.Lib Go.Proofs Go.RowKit
set_option maxHeartbeats 2000000 in
set_option maxRecDepth 100000 in
theorem room98 (base : Option Addr) (l c n : Nat) (w : World) (hlc : l ≤ c) (hc63 : c ≤ 9223372036854775807) (hn63 : n ≤ 9223372036854775807) (hroom : l + n ≤ c) :
    Calls Go.Proofs.Try.prog 98 #[.slice base l c, .int .i64 n] w fun e w' => e = .returned (.slice base l c) ∧ w' = w := by
  have h1 : ¬ ((n : Int) < 0) := by omega
  have h2 : wrap64 ((c : Int) - (l : Int)) = (c : Int) - (l : Int) := by unfold wrap64; omega
  have h3 : wrap64 ((n : Int) - ((c : Int) - (l : Int))) = (n : Int) - ((c : Int) - (l : Int)) := by unfold wrap64; omega
  have h4 : ¬ ((n : Int) - ((c : Int) - (l : Int)) > 0) := by omega
  go_enter func98, Go.Proofs.Try.ntmps98
  go_wp2
  go_ret
  exact ⟨rfl, rfl⟩
theorem info98 : ((Go.Proofs.Try.prog.info? 94).bind fun i => i.zero.map fun z => (i.size, i.bytes, z.cells.size)) = some (4, 32, 4) := by kernel_rfl
theorem ty98 : Go.Proofs.Try.prog.underlying 45 = some (.slice 94) := by kernel_rfl
def Grew98 (w : World) (n : Nat) (e : Ending) (w' : World) : Prop := ∃ (G : Nat) (ca : Array Value), n ≤ G ∧ G ≤ 9223372036854775807 ∧ G * 4 ≤ ca.size ∧
  e = .returned (.slice (some ⟨w.heap.size, 0, none⟩) 0 G) ∧ w' = w.drew.alloc (.cells ca 94)
set_option maxHeartbeats 4000000 in
set_option maxRecDepth 100000 in
theorem grow98 (base : Option Addr) (c n : Nat) (cs : List Value) (w : World) (hroom : c < n) (hbig : n * 32 ≤ 140737488355328) (h63 : n ≤ 4611686018427387904)
    (hcl : cs.length = c * 4) (hnil : base = none → c = 0) (hcs : ∀ a, base = some a → ∀ j v, cs[j]? = some v → w.cell? (a.add j) = some v) :
    Calls Go.Proofs.Try.prog 98 #[.slice base 0 c, .int .i64 n] w fun e w' => Grew98 w n e w' := by
  obtain ⟨i0, z, hi0, hz0, hs0, hb0, hzc⟩ : ∃ i z, Go.Proofs.Try.prog.info? 94 = some i ∧ i.zero = some z ∧ i.size = 4 ∧ i.bytes = 32 ∧ z.cells.size = 4 := by
    have h := info98
    cases hi : Go.Proofs.Try.prog.info? 94 with
    | none => rw [hi] at h; cases h
    | some i =>
      rw [hi] at h
      cases hz : i.zero with
      | none => rw [show (some i : Option TypeInfo).bind (fun i => i.zero.map fun z => (i.size, i.bytes, z.cells.size)) = i.zero.map (fun z => (i.size, i.bytes, z.cells.size)) from rfl, hz] at h; cases h
      | some z =>
        rw [show (some i : Option TypeInfo).bind (fun i => i.zero.map fun z => (i.size, i.bytes, z.cells.size)) = i.zero.map (fun z => (i.size, i.bytes, z.cells.size)) from rfl, hz] at h
        have h2 := Option.some.inj h
        simp only [Prod.mk.injEq] at h2
        exact ⟨i, z, rfl, hz, h2.1, h2.2.1, h2.2.2⟩
  have h1 : ¬ ((n : Int) < 0) := by omega
  have h2 : wrap64 ((c : Int) - ((0 : Nat) : Int)) = (c : Int) := by unfold wrap64; omega
  have h3 : wrap64 ((n : Int) - (c : Int)) = (n : Int) - (c : Int) := by unfold wrap64; omega
  have h4 : (n : Int) - (c : Int) > 0 := by omega
  have z25 : ∀ w, (Go.sizeOf 94).run Go.Proofs.Try.prog w = .ok i0.size w := fun w => by simp [Go.sizeOf, typeInfo, hi0]
  have t22 := ty98
  have u22 := run_underlying t22
  have t3 : Go.Proofs.Try.prog.underlying 3 = some (.int .i64) := by kernel_rfl
  have hck : c + (n - c) = n := by omega
  have hold : (Builtin.firstCells i0.size c (.slice base c c)).run Go.Proofs.Try.prog w.drew = .ok cs.toArray w.drew := by
    rw [hs0]
    cases base with
    | none =>
      have h0 := hnil rfl
      subst h0
      have hc0 : cs = [] := List.length_eq_zero_iff.1 (by simpa using hcl)
      rw [hc0]
      exact run_firstCells_none w.drew 4 0 0 0
    | some a => exact run_firstCells_some w.drew 4 c a c c cs hcl (fun j v hj => hcs a rfl j v hj)
  have hrz : ∀ ty, (Builtin.append_ #[45, 3] ty #[.slice base c c, .int .i64 ((n : Int) - (c : Int))]).run Go.Proofs.Try.prog w =
      .ok (.slice (some ⟨w.heap.size, 0, none⟩) n (grownCap w n c 94)) (w.drew.alloc (.cells (cs.toArray ++ Builtin.zeroCells z.cells (n - c) ++ Builtin.zeroCells z.cells (grownCap w n c 94 - n)) 94)) := fun ty => by
    have h := Lib.run_append_grow_zeros w 45 3 ty 94 i0 z .i64 .i64 t22 t3 hi0 hz0 base c c cs hold (n - c) (by omega) (by omega) (by omega) (by omega)
      (by rw [hb0]; omega)
      (by rw [hck]; exact growslice_fits hroom (by rw [hb0]; exact hbig))
    rw [hck] at h
    rw [show (n : Int) - (c : Int) = ((n - c : Nat) : Int) by omega]
    exact h
  have hGn : n ≤ grownCap w n c 94 := grownCap_ge w _ _ _
  obtain ⟨G, hG⟩ : ∃ G, G = grownCap w n c 94 := ⟨_, rfl⟩
  rw [← hG] at hrz hGn
  have hG63 : G ≤ 9223372036854775807 := by
    have := grownCap_le_maxLen w n c 94 (by unfold maxLen; omega)
    rw [← hG] at this
    unfold maxLen at this
    omega
  have hsz : G * 4 ≤ (cs.toArray ++ Builtin.zeroCells z.cells (n - c) ++ Builtin.zeroCells z.cells (G - n)).size := by
    simp only [Array.size_append, List.size_toArray, size_zeroCells, hzc, hcl]
    omega
  obtain ⟨ca, hca⟩ : ∃ ca, ca = cs.toArray ++ Builtin.zeroCells z.cells (n - c) ++ Builtin.zeroCells z.cells (G - n) := ⟨_, rfl⟩
  rw [← hca] at hrz hsz
  clear hold hck hG hcs hcl hca
  go_enter func98, Go.Proofs.Try.ntmps98
  cases base with
  | none =>
    have h0 := hnil rfl
    subst h0
    go_wp2_with (at_builtin; refine Lib.wpList_append_run _ rfl _ _ _ _ rfl _ _ rfl rfl _ _ (hrz _) ?_)
    all_goals (go_ret; exact ⟨G, ca, hGn, hG63, hsz, rfl, rfl⟩)
  | some a =>
    obtain ⟨ab, ao, asp⟩ := a
    go_wp2_with (at_builtin; refine Lib.wpList_append_run _ rfl _ _ _ _ rfl _ _ rfl rfl _ _ (hrz _) ?_)
    all_goals (go_ret; exact ⟨G, ca, hGn, hG63, hsz, rfl, rfl⟩)
end
section
open Go.RowKit
theorem aggS98 : isAggB Go.Proofs.Try.prog 45 = false := by kernel_rfl
theorem aggI98 : isAggB Go.Proofs.Try.prog 3 = false := by kernel_rfl
theorem ptr98 : isPtrB Go.Proofs.Try.prog 45 = false := by kernel_rfl
theorem mode98 : (Hx.modes 98 f98.params.size).zip f98.params.toList = [(.give, 45), (.lend, 3)] := by kernel_rfl
theorem mut98 : Hx.muts 98 = [] := by kernel_rfl
theorem rts98 : f98.resultTypes.toList = [45] := by kernel_rfl
theorem leave98 {w w' : World} {S F : FP} {r1 r2 : Row} {v u : Value} {A : Option Addr} {cap : Nat} {G1 : FP}
    (hb : Below 0 w w') (hfr : ∀ b, b < w.heap.size → ¬ F b → w'.heap[b]? = w.heap[b]?) (hrep : repD w' S (.sl true 4 []) (.slice A 0 cap) G1)
    (hG : ∀ b, G1 b → (F b ∨ w.heap.size ≤ b) ∧ b < w'.heap.size ∧ ¬ S b) :
    Leaves Go.Proofs.Try.prog w S F [(.give, 45), (.lend, 3)] [] [45] [r1, r2] [v, u] [[.sl true 4 []]] [] (.slice A 0 cap) w' := by
  refine ⟨hb, hfr, trivial, [.slice A 0 cap], G1, fun _ => False, fun _ => False, rfl, ?_, ?_, ?_, ⟨fun b _ h => h, fun b hb => ?_⟩, fun b h => h.elim, fun b h => h.elim⟩
  · refine ⟨G1, fun _ => False, ?_, fun b h => h, fun b => by simp, fun b _ h => h⟩
    unfold outOne
    rw [ptr98, if_neg Bool.false_ne_true]
    refine ⟨?_, ?_⟩
    · unfold aggOk
      rw [aggS98, if_neg Bool.false_ne_true]
      rfl
    · exact ⟨G1, fun _ => False, hrep, fun b h => h, fun b => by simp, fun b _ h => h⟩
  · exact fun b h => h
  · exact fun b h => h
  · rcases hb with h | h
    · exact hG b h
    · exact h.elim

theorem s98 : SoundAt Go.Proofs.Try.prog Hx 98 c98 := by
  intro fn rows out back h1 h2
  rw [func98] at h1
  injection h1 with h1
  subst h1
  unfold c98 at h2
  split at h2
  · rename_i s n_
    obtain ⟨hp, hr⟩ := Prod.mk.inj (Option.some.inj h2)
    simp only [Bool.and_eq_true] at hp
    obtain ⟨hs0, hp⟩ := hp
    obtain ⟨xs0, rfl⟩ := isS_ex hs0
    simp only [deS_enS] at hp hr
    replace hp : (decide (xs0.length = 0) && (decide (0 ≤ n_) && decide (n_ ≤ 16777216))) = true := hp
    simp only [Bool.and_eq_true, decide_eq_true_eq] at hp
    obtain ⟨hx, hn0, hn1⟩ := hp
    obtain rfl := List.length_eq_zero_iff.1 hx
    replace hr : ([[D.sl true 4 []]], []) = (out, back) := hr
    obtain ⟨rfl, rfl⟩ := Prod.mk.inj hr
    refine ⟨by kernel_rfl, by kernel_rfl, fun w S F vs hS hF ha => ?_⟩
    rw [mode98] at ha ⊢
    rw [mut98, rts98]
    rcases vs with _ | ⟨v, _ | ⟨u, _ | ⟨_, _⟩⟩⟩
    · exact ha.elim
    · obtain ⟨_, _, _, h, _⟩ := ha; exact h.elim
    · obtain ⟨F1, F2, ⟨ag, hd⟩, ⟨F3, F4, ⟨hF3, ag2, hd2⟩, hF4, hF2, _⟩, hFF, _⟩ := ha
      have v1 : v.oneCell' = true := by unfold aggOk at ag; rw [aggS98, if_neg Bool.false_ne_true] at ag; exact ag
      have u1 : u.oneCell' = true := by unfold aggOk at ag2; rw [aggI98, if_neg Bool.false_ne_true] at ag2; exact ag2
      rw [cells_one v1] at hd
      rw [cells_one u1] at hd2
      obtain ⟨G1, G2, hv, hnil, hG, _⟩ := hd
      obtain ⟨G3, G4, hu, _, _, _⟩ := hd2
      obtain ⟨A, cap, rfl, hle, hv⟩ := hv
      obtain ⟨rfl, _⟩ := hu
      obtain ⟨n, rfl⟩ := Int.eq_ofNat_of_zero_le hn0
      have hn2 : n ≤ 16777216 := by omega
      have hFG : ∀ b, F b ↔ G1 b := fun b => by
        rw [hFF b, hG b, hF2 b]
        constructor
        · rintro ((h | h) | (h | h))
          · exact h
          · exact (hnil b h).elim
          · exact (hF3 b h).elim
          · exact (hF4 b h).elim
        · exact fun h => .inl (.inl h)
      have hc63 : cap ≤ 9223372036854775807 := by
        rcases hv with ⟨_, _, h, _⟩ | ⟨B, off, F', _, _, ⟨_, _, _, _, h⟩ | ⟨h, _⟩⟩
        · omega
        · exact h
        · cases h
      by_cases hroom : n ≤ cap
      · refine Calls.mono (room98 A 0 cap n w (Nat.zero_le _) hc63 (by omega) (by omega)) (fun e w' he => ?_)
        obtain ⟨rfl, rfl⟩ := he
        exact leave98 (Below.refl 0 _) (fun b _ _ => rfl) ⟨A, cap, rfl, hle, hv⟩ (fun b hb => ⟨.inl ((hFG b).2 hb), hF b ((hFG b).2 hb)⟩)
      · have hmem : ∃ cs : List Value, cs.length = cap * 4 ∧ (A = none → cap = 0) ∧ ∀ a, A = some a → ∀ j v, cs[j]? = some v → w.cell? (a.add j) = some v := by
          rcases hv with ⟨h1, _, rfl, _⟩ | ⟨B, off, F', rfl, _, ⟨_, _, _, ⟨cs, t, hh, hsz⟩, _⟩ | ⟨h, _⟩⟩
          · have h1 := h1.resolve_right (by simp)
            subst h1
            exact ⟨[], by simp, fun _ => rfl, fun a h => by cases h⟩
          · refine ⟨(cs.toList.drop off).take (cap * 4), ?_, (fun h => nomatch h), fun a ha j v hj => ?_⟩
            · rw [List.length_take, List.length_drop, Array.length_toList]
              omega
            · injection ha with ha
              subst ha
              rw [List.getElem?_take] at hj
              split at hj
              · rw [List.getElem?_drop, Array.getElem?_toList] at hj
                rw [addr_add]
                unfold World.cell?
                rw [hh]
                exact hj
              · cases hj
          · cases h
        obtain ⟨cs, hcl, hnilA, hcs⟩ := hmem
        refine Calls.mono (grow98 A cap n cs w (by omega) (by omega) (by omega) hcl hnilA hcs) (fun e w' he => ?_)
        obtain ⟨G, ca, hGn, hG63, hsz, rfl, rfl⟩ := he
        refine leave98 (G1 := fun b => b = w.heap.size) ((Below.drew (Below.refl 0 w)).trans (alloc_below _ _)) (fun b hb _ => alloc_old (w := w.drew) _ hb) ?_ ?_
        · exact ⟨some ⟨w.heap.size, 0, none⟩, G, rfl, Nat.zero_le _, .inr ⟨w.heap.size, 0, fun _ => False, rfl, fun b h => h, .inl ⟨rfl, fun h => h, fun b => by simp, ⟨ca, 94, heap_alloc_new w.drew _, by omega⟩, hG63⟩⟩⟩
        · rintro b rfl
          exact ⟨.inr (Nat.le_refl _), by rw [alloc_size]; show w.heap.size < w.heap.size + 1; omega, fun h => Nat.lt_irrefl _ (hS _ h)⟩
    · obtain ⟨_, _, _, ⟨_, _, _, h, _⟩, _⟩ := ha; exact h.elim
  · cases h2
end
def T98 : Table := (98, c98) :: T89
theorem T98_sound : Table.Sound Go.Proofs.Try.prog Hx T98 := Table.sound_cons s98 T89_sound
def o92 (s : List (List Heard)) : Bool × List Row × List Row := (decide (s.length ≤ 16) && s.all (fun x => decide (x.length ≤ 1048576)), [[.sl true 4 (enS true (s.flatten))]], [])
def c92 : Contract
  | [[.sl false 1 s]] => some (isS (List Heard) false s && (o92 (deS (List Heard) s)).1, (o92 (deS (List Heard) s)).2.1, (o92 (deS (List Heard) s)).2.2)
  | _ => none

def k92_0 (n : Nat) : Ex → St → RR := kThen (fun st ↦ runCode (Ctx.mk prog Hx (92)) (Table.call T98) n (codeAt [1, 1, 1] (bodyOf f92)) (Lv.mk 4 [] 4) st (kLeave (Ctx.P (Ctx.mk prog Hx (92))) (List.zip (Array.toList (Go.Func.resultTypes f92)) (Array.toList (Go.Func.results f92))) [] [])) (kLeave (Ctx.P (Ctx.mk prog Hx (92))) (List.zip (Array.toList (Go.Func.resultTypes f92)) (Array.toList (Go.Func.results f92))) [] [])
def k92_1 (n : Nat) : Ex → St → RR := kBlock (0) (k92_0 n)
def S92_0 (s : List (List Heard)) (i0 : Int) (i1 : Int) : St := St.mk [V_ [C.d (D.sl false 1 (enS false s))], U_, U_, I_ i0, U_, U_, U_, U_, U_, V_ [C.d (D.sl false 1 (enS false s))], I_ (ofNat (length (enS false s))), I_ i1, U_, U_, U_, U_, U_, U_, U_, U_, U_, U_, U_, U_, U_, U_, U_, U_, U_, U_, U_, U_, U_, U_, U_, U_] []
def B92_0 (n : Nat) : St → (Ex → St → RR) → RR := runCode (Ctx.mk prog Hx (92)) (Table.call T98) n (codeAt [1, 1, 0, 1, 0, 0] (bodyOf f92)) (Lv.mk 3593 [(0, 9)] 4)
def X92_2 (s : List (List Heard)) (i0 : Int) (i1 : Int) : St := St.mk [V_ [C.d (D.sl false 1 (enS false s))], U_, U_, I_ i0, U_, U_, U_, U_, U_, V_ [C.d (D.sl false 1 (enS false s))], I_ (ofNat (length (enS false s))), I_ i1, B_ false, U_, U_, U_, U_, U_, U_, U_, U_, U_, U_, U_, U_, U_, U_, U_, U_, U_, U_, U_, U_, U_, U_, U_] []
theorem q92_0 (s : List (List Heard)) (n : Nat) (i0 : Int) (i1 : Int) (f : St → RR) (K : Ex → St → RR) : B92_0 n (S92_0 s i0 i1) (kThen (fun st ↦ f (St.head 0 3593 8386600 st)) K) = bif decide (i1 < ofNat (length (enS false s))) then bif decide (0 ≤ i1) && decide (i1 < ofNat (length (enS false s))) then bif Leaf.fit false (Leaf.sl 4 true) (getD (getD (enS false s) (toNat i1) []) 0 D.dead) && true then bif decide (wrap i64 (i0 + ofNat (length (D.rows (getD (getD (enS false s) (toNat i1) []) 0 D.dead)))) < 0) then none else f (S92_0 s (wrap i64 (i0 + ofNat (length (D.rows (getD (getD (enS false s) (toNat i1) []) 0 D.dead))))) (wrap i64 (i1 + 1))) else none else none else K (Ex.exit 0) (X92_2 s i0 i1) := by kernel_rfl
def k92_3 (n : Nat) : Ex → St → RR := kThen (fun st ↦ runCode (Ctx.mk prog Hx (92)) (Table.call T98) n (codeAt [1, 1, 1, 1, 1] (bodyOf f92)) (Lv.mk 4 [] 4) st (kLeave (Ctx.P (Ctx.mk prog Hx (92))) (List.zip (Array.toList (Go.Func.resultTypes f92)) (Array.toList (Go.Func.results f92))) [] [])) (kLeave (Ctx.P (Ctx.mk prog Hx (92))) (List.zip (Array.toList (Go.Func.resultTypes f92)) (Array.toList (Go.Func.results f92))) [] [])
def k92_4 (n : Nat) : Ex → St → RR := kBlock (2) (k92_3 n)
def S92_1 (s : List (List Heard)) (i0_ : Int) (es1 : List (List D)) : St := St.mk [U_, U_, U_, U_, U_, U_, V_ [C.view 1 0 0 [] 4 none], U_, U_, U_, U_, U_, U_, U_, U_, U_, U_, U_, U_, U_, U_, U_, U_, U_, U_, V_ [C.d (D.sl false 1 (enS false s))], I_ (ofNat (length (enS false s))), I_ i0_, U_, U_, U_, U_, U_, U_, U_, U_] [Root.mk false 4 (enS true emptyH) 0 0 false true false, Root.mk false 4 es1 0 0 true true false]
def B92_1 (n : Nat) : St → (Ex → St → RR) → RR := runCode (Ctx.mk prog Hx (92)) (Table.call T98) n (codeAt [1, 1, 1, 1, 0, 1, 0, 0] (bodyOf f92)) (Lv.mk 234881088 [(2, 64)] 4)
def X92_5 (s : List (List Heard)) (i0_ : Int) (es1 : List (List D)) : St := St.mk [U_, U_, U_, U_, U_, U_, V_ [C.view 1 0 0 [] 4 none], U_, U_, U_, U_, U_, U_, U_, U_, U_, U_, U_, U_, U_, U_, U_, U_, U_, U_, V_ [C.d (D.sl false 1 (enS false s))], I_ (ofNat (length (enS false s))), I_ i0_, B_ false, U_, U_, U_, U_, U_, U_, U_] [Root.mk false 4 (enS true emptyH) 0 0 false true false, Root.mk false 4 es1 0 0 true true false]
theorem q92_1 (s : List (List Heard)) (n : Nat) (i0_ : Int) (es1 : List (List D)) (f : St → RR) (K : Ex → St → RR) : B92_1 n (S92_1 s i0_ es1) (kThen (fun st ↦ f (St.head 1 234881088 34225520960 st)) K) = bif decide (i0_ < ofNat (length (enS false s))) then bif decide (0 ≤ i0_) && decide (i0_ < ofNat (length (enS false s))) then bif Leaf.fit false (Leaf.sl 4 true) (getD (getD (enS false s) (toNat i0_) []) 0 D.dead) && true then bif decide ((length es1 + length (D.rows (getD (getD (enS false s) (toNat i0_) []) 0 D.dead))) * 32 ≤ 140737488355328) then f (S92_1 s (wrap i64 (i0_ + 1)) (append es1 (D.rows (getD (getD (enS false s) (toNat i0_) []) 0 D.dead)))) else none else none else none else K (Ex.exit 2) (X92_5 s i0_ es1) := by kernel_rfl
theorem aX92_5 (s : List (List Heard)) (n : Nat) (i0_ : Int) (es1 : List (List D)) : k92_4 n (Ex.exit 2) (X92_5 s i0_ es1) = some ([[D.sl true 4 es1]], []) := by kernel_rfl
theorem aX92_2 (s : List (List Heard)) (n : Nat) (i0 : Int) (i1 : Int) : k92_1 n (Ex.exit 0) (X92_2 s i0 i1) = bif isS Heard true [] && (decide (length (deS Heard []) = 0) && (decide (0 ≤ i0) && decide (i0 ≤ 16777216))) then loopRun (B92_1 n) 1 234881088 34225520960 n (S92_1 s (0) (enS true emptyH)) (k92_4 n) else none := by kernel_rfl
theorem r92 (s : List (List Heard)) (n : Nat) : evFn ⟨prog, Hx, 92⟩ T98.call n f92 [[.sl false 1 (enS false s)]] = loopRun (B92_0 n) 0 3593 8386600 n (S92_0 s (0) (0)) (k92_1 n) := by kernel_rfl
theorem m92 (s : List (List Heard)) (hpre : (o92 s).1 = true) : evFn ⟨Go.Proofs.Try.prog, Hx, 92⟩ T98.call (s.length + 1) f92 [[.sl false 1 (enS false s)]] = some (o92 s).2 := by
  refine (r92 s _).trans ?_
  show _ = (some ([[.sl true 4 (enS true (s.flatten))]], []) : Option (List Row × List Row))
  replace hpre : (decide (s.length ≤ 16) && s.all (fun x => decide (x.length ≤ 1048576))) = true := hpre
  rw [Bool.and_eq_true] at hpre
  obtain ⟨h16, hall⟩ := hpre
  have h16 := of_decide_eq_true h16
  have hx : ∀ i (hi : i < s.length), s[i].length ≤ 1048576 := fun i hi => of_decide_eq_true (List.all_eq_true.1 hall _ (List.getElem_mem hi))
  refine loop_list (xs := s) (fun i (a : Int) => S92_0 s a (Int.ofNat i)) (fun i a => 0 ≤ a ∧ a ≤ (i : Int) * 1048576) (fun _ _ _ => some ([[D.sl true 4 (enS true s.flatten)]], [])) ?_ ?_ (s.length + 1) 0 (by omega) ⟨by omega, by omega⟩
  · rintro a ⟨ha0, ha1⟩ f
    refine (q92_0 s _ _ _ f _).trans ?_
    rw [end_lt, cond_false]
    refine (aX92_2 s _ _ _).trans ?_
    have c1 : decide (0 ≤ a) = true := decide_eq_true ha0
    have c2 : decide (a ≤ 16777216) = true := decide_eq_true (by omega)
    have c3 : (deS Heard []).length = 0 := rfl
    simp only [isS_nil, c1, c2, c3, decide_true, Bool.and_self, cond_true]
    refine loop_list (xs := s) (fun i (acc : List Heard) => S92_1 s (Int.ofNat i) (enS true acc)) (fun i acc => acc.length ≤ i * 1048576) (fun i acc rest => some ([[D.sl true 4 (enS true (acc ++ rest.flatten))]], [])) ?_ ?_ (s.length + 1) [] (by omega) (Nat.zero_le _)
    · rintro acc _ f
      refine (q92_1 s _ _ _ f _).trans ?_
      rw [end_lt, cond_false]
      refine (aX92_5 s _ _ _).trans ?_
      rw [List.flatten_nil, List.append_nil]
    · rintro i acc hi hacc f hf
      refine (q92_1 s _ _ _ f _).trans ?_
      have := hx i hi
      have hr : decide ((acc.length + s[i].length) * 32 ≤ 140737488355328) = true := decide_eq_true (by omega)
      have ha : enS true acc ++ enS false s[i] = enS true (acc ++ s[i]) := by rw [enS_append]; rfl
      simp only [enS_length, toNat_of, dec_lt, dec_ge, decide_true, decide_false, cond_true, cond_false, Bool.and_self, Bool.and_true, Bool.true_and, Bool.not_true, Bool.not_false, Nat.lt_irrefl, Nat.zero_add, isS_enS, deS_enS, isS_nil, deS_nil, List.nil_append, lendRows_enS, deepRows_enS, noSl_u8, En.enc, List.getD_cons_zero, List.getD_cons_succ, D.num, D.flag, D.text, D.rows, Leaf.fit, List.append_eq, TReader.eta, Frame.eta, Heard.eta, Member.eta, Card.eta, Out1.eta, Vec.eta, Port.eta, Bridge.eta, In.eta, Out.eta, Link.eta, Net.eta, TEnd.eta, Minder.eta, Reg.eta, Wire.eta, Box.eta, Deed.eta, Bpdu.eta, Visit.eta, Fabric.eta, Got.eta, TRide.eta, Up.eta, Copy.eta, Bucket.eta, Snap.eta, TL9Cur.eta, TL21In.eta, enS_get _ hi, hi, wrap_succ (show i < 4611686018427387904 by omega), hr, ha, beq_self_eq_true]
      refine (hf (acc ++ s[i]) (by rw [List.length_append]; omega)).trans ?_
      rw [List.flatten_cons, List.append_assoc]
  · rintro i a hi ⟨ha0, ha1⟩ f hf
    refine (q92_0 s _ _ _ f _).trans ?_
    have := hx i hi
    have hw : IntKind.wrap IntKind.i64 (a + Int.ofNat s[i].length) = a + Int.ofNat s[i].length := wrap_of (by show _ ≤ a + (s[i].length : Int); omega) (by show a + (s[i].length : Int) ≤ _; omega)
    have hn : decide (a + Int.ofNat s[i].length < 0) = false := decide_eq_false (by show ¬ (a + (s[i].length : Int) < 0); omega)
    simp only [enS_length, toNat_of, dec_lt, dec_ge, decide_true, decide_false, cond_true, cond_false, Bool.and_self, Bool.and_true, Bool.true_and, Bool.not_true, Bool.not_false, Nat.lt_irrefl, Nat.zero_add, isS_enS, deS_enS, isS_nil, deS_nil, List.nil_append, lendRows_enS, deepRows_enS, noSl_u8, En.enc, List.getD_cons_zero, List.getD_cons_succ, D.num, D.flag, D.text, D.rows, Leaf.fit, List.append_eq, TReader.eta, Frame.eta, Heard.eta, Member.eta, Card.eta, Out1.eta, Vec.eta, Port.eta, Bridge.eta, In.eta, Out.eta, Link.eta, Net.eta, TEnd.eta, Minder.eta, Reg.eta, Wire.eta, Box.eta, Deed.eta, Bpdu.eta, Visit.eta, Fabric.eta, Got.eta, TRide.eta, Up.eta, Copy.eta, Bucket.eta, Snap.eta, TL9Cur.eta, TL21In.eta, enS_get _ hi, hi, wrap_succ (show i < 4611686018427387904 by omega), hw, hn, beq_self_eq_true]
    refine (hf _ ⟨by show 0 ≤ a + (s[i].length : Int); omega, by show a + (s[i].length : Int) ≤ ((i + 1 : Nat) : Int) * 1048576; omega⟩)
theorem s92 : SoundAt Go.Proofs.Try.prog Hx 92 c92 := soundAt_of T98_sound mixed func92 (by kernel_rfl) (by
  intro rows r h
  unfold c92 at h
  split at h
  · rename_i s
    obtain ⟨hp, hr⟩ := Prod.mk.inj (Option.some.inj h)
    subst hr
    simp only [Bool.and_eq_true] at hp
    obtain ⟨hs0, hp⟩ := hp
    obtain ⟨xs0, rfl⟩ := isS_ex hs0
    simp only [deS_enS] at hp ⊢
    exact ⟨_, m92 xs0 hp⟩
  · cases h)
def T92 : Table := (92, c92) :: T98
theorem T92_sound : Table.Sound Go.Proofs.Try.prog Hx T92 := Table.sound_cons s92 T98_sound
def o67 (list : List Heard) (addr : Int) (vlan : Int) (port : Int) : Bool × List Row × List Row := (decide (list.length ≤ 1048576), [[.sl true 4 (enS true (hearL list addr vlan port))]], [])
def c67 : Contract
  | [[.sl false 4 list], [.int .i64 addr], [.int .i64 vlan], [.int .i64 port]] => some (isS Heard false list && (o67 (deS Heard list) addr vlan port).1, (o67 (deS Heard list) addr vlan port).2.1, (o67 (deS Heard list) addr vlan port).2.2)
  | _ => none

def k67_0 (n : Nat) : Ex → St → RR := kThen (fun st ↦ runCode (Ctx.mk prog Hx (67)) (Table.call T92) n (codeAt [1, 1, 1, 1, 1] (bodyOf f67)) (Lv.mk 256 [] 256) st (kLeave (Ctx.P (Ctx.mk prog Hx (67))) (List.zip (Array.toList (Go.Func.resultTypes f67)) (Array.toList (Go.Func.results f67))) [] [])) (kLeave (Ctx.P (Ctx.mk prog Hx (67))) (List.zip (Array.toList (Go.Func.resultTypes f67)) (Array.toList (Go.Func.results f67))) [] [])
def k67_1 (n : Nat) : Ex → St → RR := kBlock (0) (k67_0 n)
def S67_0 (list : List Heard) (addr : Int) (vlan : Int) (port : Int) (i0 : Int) : St := St.mk [V_ [C.d (D.sl false 4 (enS false list))], I_ addr, I_ vlan, U_, U_, U_, U_, U_, U_, V_ [C.ptr 0 0 0 [] 4 0 0], V_ [C.view 1 0 0 [] 4 none], I_ i0, U_, U_, U_, U_, U_, U_, U_, U_, U_, U_, U_, U_, U_, U_, U_, U_, U_, U_, U_, U_, U_, U_, U_, U_, U_, U_, U_, U_, U_, U_, U_, U_, U_, U_, U_, U_, U_, U_, U_, U_, U_, U_, U_, U_, U_, U_] [Root.mk true 4 [[D.int i64 addr, D.int i64 vlan, D.int i64 port, D.int i64 (20)]] 0 0 true true false, Root.mk false 4 (enS true (deS Heard (enS false list))) 0 0 true true false]
def B67_0 (n : Nat) : St → (Ex → St → RR) → RR := runCode (Ctx.mk prog Hx (67)) (Table.call T92) n (codeAt [1, 1, 1, 1, 0, 0, 0] (bodyOf f67)) (Lv.mk 3591 [(0, 3591)] 256)
def X67_2 (list : List Heard) (addr : Int) (vlan : Int) (port : Int) (i0 : Int) : St := St.mk [V_ [C.d (D.sl false 4 (enS false list))], I_ addr, I_ vlan, U_, U_, U_, U_, U_, U_, V_ [C.ptr 0 0 0 [] 4 0 0], V_ [C.view 1 0 0 [] 4 none], I_ i0, U_, U_, U_, U_, U_, U_, U_, U_, I_ i0, V_ [C.view 1 0 0 [] 4 none], I_ (ofNat (length (enS true (deS Heard (enS false list))))), B_ (decide (i0 < ofNat (length (enS true (deS Heard (enS false list)))))), B_ true, V_ [C.view 1 0 0 [] 4 none], I_ i0, V_ [C.ptr 1 0 0 [] 4 (0 + toNat i0) 0], TV.v true [C.d (D.int i64 (D.num (getD (getD (enS true (deS Heard (enS false list))) (0 + toNat i0) []) 0 D.dead))), C.d (D.int i64 (D.num (getD (getD (enS true (deS Heard (enS false list))) (0 + toNat i0) []) 1 D.dead))), C.d (D.int i64 (D.num (getD (getD (enS true (deS Heard (enS false list))) (0 + toNat i0) []) 2 D.dead))), C.d (D.int i64 (D.num (getD (getD (enS true (deS Heard (enS false list))) (0 + toNat i0) []) 3 D.dead)))], TV.v true [C.d (D.int i64 addr), C.d (D.int i64 vlan), C.d (D.int i64 port), C.d (D.int i64 (20))], B_ (aheadB (Heard.mk (D.num (getD (getD (enS true (deS Heard (enS false list))) (0 + toNat i0) []) 0 D.dead)) (D.num (getD (getD (enS true (deS Heard (enS false list))) (0 + toNat i0) []) 1 D.dead)) (D.num (getD (getD (enS true (deS Heard (enS false list))) (0 + toNat i0) []) 2 D.dead)) (D.num (getD (getD (enS true (deS Heard (enS false list))) (0 + toNat i0) []) 3 D.dead))) (Heard.mk addr vlan port (20))), B_ false, U_, U_, U_, U_, U_, U_, U_, U_, U_, U_, U_, U_, U_, U_, U_, U_, U_, U_, U_, U_, U_, U_, U_, U_, U_, U_] [Root.mk true 4 [[D.int i64 addr, D.int i64 vlan, D.int i64 port, D.int i64 (20)]] 0 0 true true false, Root.mk false 4 (enS true (deS Heard (enS false list))) 0 0 true true false]
def X67_3 (list : List Heard) (addr : Int) (vlan : Int) (port : Int) (i0 : Int) : St := St.mk [V_ [C.d (D.sl false 4 (enS false list))], I_ addr, I_ vlan, U_, U_, U_, U_, U_, U_, V_ [C.ptr 0 0 0 [] 4 0 0], V_ [C.view 1 0 0 [] 4 none], I_ i0, U_, U_, U_, U_, U_, U_, U_, U_, I_ i0, V_ [C.view 1 0 0 [] 4 none], I_ (ofNat (length (enS true (deS Heard (enS false list))))), B_ (decide (i0 < ofNat (length (enS true (deS Heard (enS false list)))))), B_ false, V_ [C.gone], V_ [C.gone], V_ [C.gone], V_ [C.gone], V_ [C.gone], V_ [C.gone], B_ false, U_, U_, U_, U_, U_, U_, U_, U_, U_, U_, U_, U_, U_, U_, U_, U_, U_, U_, U_, U_, U_, U_, U_, U_, U_, U_] [Root.mk true 4 [[D.int i64 addr, D.int i64 vlan, D.int i64 port, D.int i64 (20)]] 0 0 true true false, Root.mk false 4 (enS true (deS Heard (enS false list))) 0 0 true true false]
theorem q67_0 (list : List Heard) (addr : Int) (vlan : Int) (port : Int) (n : Nat) (i0 : Int) (f : St → RR) (K : Ex → St → RR) : B67_0 n (S67_0 list addr vlan port i0) (kThen (fun st ↦ f (St.head 2 3591 17178822656 st)) K) = bif decide (i0 < ofNat (length (enS true (deS Heard (enS false list))))) then bif decide (0 ≤ i0) && decide (i0 < ofNat (length (enS true (deS Heard (enS false list))))) then bif Leaf.fit true (Leaf.int i64) (getD (getD (enS true (deS Heard (enS false list))) (0 + toNat i0) []) 0 D.dead) && (Leaf.fit true (Leaf.int i64) (getD (getD (enS true (deS Heard (enS false list))) (0 + toNat i0) []) 1 D.dead) && (Leaf.fit true (Leaf.int i64) (getD (getD (enS true (deS Heard (enS false list))) (0 + toNat i0) []) 2 D.dead) && (Leaf.fit true (Leaf.int i64) (getD (getD (enS true (deS Heard (enS false list))) (0 + toNat i0) []) 3 D.dead) && true))) then bif aheadB (Heard.mk (D.num (getD (getD (enS true (deS Heard (enS false list))) (0 + toNat i0) []) 0 D.dead)) (D.num (getD (getD (enS true (deS Heard (enS false list))) (0 + toNat i0) []) 1 D.dead)) (D.num (getD (getD (enS true (deS Heard (enS false list))) (0 + toNat i0) []) 2 D.dead)) (D.num (getD (getD (enS true (deS Heard (enS false list))) (0 + toNat i0) []) 3 D.dead))) (Heard.mk addr vlan port (20)) then f (S67_0 list addr vlan port (wrap i64 (i0 + 1))) else K (Ex.exit 0) (X67_2 list addr vlan port i0) else none else none else K (Ex.exit 0) (X67_3 list addr vlan port i0) := by kernel_rfl
theorem aX67_2 (list : List Heard) (addr : Int) (vlan : Int) (port : Int) (n : Nat) (i0 : Int) : k67_1 n (Ex.exit 0) (X67_2 list addr vlan port i0) = bif decide (0 ≤ i0) && decide (i0 ≤ ofNat (length (enS true (deS Heard (enS false list))))) then bif isS Heard false (lendRows (take (toNat (i0 - 0)) (enS true (deS Heard (enS false list))))) && decide (length (deS Heard (lendRows (take (toNat (i0 - 0)) (enS true (deS Heard (enS false list)))))) ≤ 1048576) then bif deepRows (enS true (List.filter (keepB addr vlan) (deS Heard (lendRows (take (toNat (i0 - 0)) (enS true (deS Heard (enS false list)))))))) && true && true && true && true then bif decide (0 ≤ i0) && (decide (i0 ≤ ofNat (length (enS true (deS Heard (enS false list))))) && decide (ofNat (length (enS true (deS Heard (enS false list)))) ≤ ofNat (length (enS true (deS Heard (enS false list)))))) then bif isS Heard false (lendRows (take (toNat (ofNat (length (enS true (deS Heard (enS false list)))) - i0)) (drop (0 + toNat i0) (enS true (deS Heard (enS false list)))))) && decide (length (deS Heard (lendRows (take (toNat (ofNat (length (enS true (deS Heard (enS false list)))) - i0)) (drop (0 + toNat i0) (enS true (deS Heard (enS false list))))))) ≤ 1048576) then bif deepRows (enS true (List.filter (keepB addr vlan) (deS Heard (lendRows (take (toNat (ofNat (length (enS true (deS Heard (enS false list)))) - i0)) (drop (0 + toNat i0) (enS true (deS Heard (enS false list))))))))) && true && true && true && true then bif isS (List Heard) false [[D.sl false 4 (lendRows (enS true (List.filter (keepB addr vlan) (deS Heard (lendRows (take (toNat (i0 - 0)) (enS true (deS Heard (enS false list)))))))))], [D.sl false 4 [[D.int i64 addr, D.int i64 vlan, D.int i64 port, D.int i64 (20)]]], [D.sl false 4 (lendRows (enS true (List.filter (keepB addr vlan) (deS Heard (lendRows (take (toNat (ofNat (length (enS true (deS Heard (enS false list)))) - i0)) (drop (0 + toNat i0) (enS true (deS Heard (enS false list))))))))))]] && (decide (length (deS (List Heard) [[D.sl false 4 (lendRows (enS true (List.filter (keepB addr vlan) (deS Heard (lendRows (take (toNat (i0 - 0)) (enS true (deS Heard (enS false list)))))))))], [D.sl false 4 [[D.int i64 addr, D.int i64 vlan, D.int i64 port, D.int i64 (20)]]], [D.sl false 4 (lendRows (enS true (List.filter (keepB addr vlan) (deS Heard (lendRows (take (toNat (ofNat (length (enS true (deS Heard (enS false list)))) - i0)) (drop (0 + toNat i0) (enS true (deS Heard (enS false list))))))))))]]) ≤ 16) && all (deS (List Heard) [[D.sl false 4 (lendRows (enS true (List.filter (keepB addr vlan) (deS Heard (lendRows (take (toNat (i0 - 0)) (enS true (deS Heard (enS false list)))))))))], [D.sl false 4 [[D.int i64 addr, D.int i64 vlan, D.int i64 port, D.int i64 (20)]]], [D.sl false 4 (lendRows (enS true (List.filter (keepB addr vlan) (deS Heard (lendRows (take (toNat (ofNat (length (enS true (deS Heard (enS false list)))) - i0)) (drop (0 + toNat i0) (enS true (deS Heard (enS false list))))))))))]]) fun x ↦ decide (length x ≤ 1048576)) then bif deepRows (enS true (List.flatten (deS (List Heard) [[D.sl false 4 (lendRows (enS true (List.filter (keepB addr vlan) (deS Heard (lendRows (take (toNat (i0 - 0)) (enS true (deS Heard (enS false list)))))))))], [D.sl false 4 [[D.int i64 addr, D.int i64 vlan, D.int i64 port, D.int i64 (20)]]], [D.sl false 4 (lendRows (enS true (List.filter (keepB addr vlan) (deS Heard (lendRows (take (toNat (ofNat (length (enS true (deS Heard (enS false list)))) - i0)) (drop (0 + toNat i0) (enS true (deS Heard (enS false list))))))))))]]))) && true && true && true && true then bif isS Heard false (lendRows (enS true (List.flatten (deS (List Heard) [[D.sl false 4 (lendRows (enS true (List.filter (keepB addr vlan) (deS Heard (lendRows (take (toNat (i0 - 0)) (enS true (deS Heard (enS false list)))))))))], [D.sl false 4 [[D.int i64 addr, D.int i64 vlan, D.int i64 port, D.int i64 (20)]]], [D.sl false 4 (lendRows (enS true (List.filter (keepB addr vlan) (deS Heard (lendRows (take (toNat (ofNat (length (enS true (deS Heard (enS false list)))) - i0)) (drop (0 + toNat i0) (enS true (deS Heard (enS false list))))))))))]])))) && decide (length (deS Heard (lendRows (enS true (List.flatten (deS (List Heard) [[D.sl false 4 (lendRows (enS true (List.filter (keepB addr vlan) (deS Heard (lendRows (take (toNat (i0 - 0)) (enS true (deS Heard (enS false list)))))))))], [D.sl false 4 [[D.int i64 addr, D.int i64 vlan, D.int i64 port, D.int i64 (20)]]], [D.sl false 4 (lendRows (enS true (List.filter (keepB addr vlan) (deS Heard (lendRows (take (toNat (ofNat (length (enS true (deS Heard (enS false list)))) - i0)) (drop (0 + toNat i0) (enS true (deS Heard (enS false list))))))))))]]))))) ≤ 2097152) then bif !tableOk (deS Heard (lendRows (enS true (List.flatten (deS (List Heard) [[D.sl false 4 (lendRows (enS true (List.filter (keepB addr vlan) (deS Heard (lendRows (take (toNat (i0 - 0)) (enS true (deS Heard (enS false list)))))))))], [D.sl false 4 [[D.int i64 addr, D.int i64 vlan, D.int i64 port, D.int i64 (20)]]], [D.sl false 4 (lendRows (enS true (List.filter (keepB addr vlan) (deS Heard (lendRows (take (toNat (ofNat (length (enS true (deS Heard (enS false list)))) - i0)) (drop (0 + toNat i0) (enS true (deS Heard (enS false list))))))))))]]))))) then bif isS Heard false (enS false list) && decide (length (deS Heard (enS false list)) ≤ 4194304) then some ([[D.sl true 4 (enS true (deS Heard (enS false list)))]], []) else none else some ([[D.sl true 4 (enS true (List.flatten (deS (List Heard) [[D.sl false 4 (lendRows (enS true (List.filter (keepB addr vlan) (deS Heard (lendRows (take (toNat (i0 - 0)) (enS true (deS Heard (enS false list)))))))))], [D.sl false 4 [[D.int i64 addr, D.int i64 vlan, D.int i64 port, D.int i64 (20)]]], [D.sl false 4 (lendRows (enS true (List.filter (keepB addr vlan) (deS Heard (lendRows (take (toNat (ofNat (length (enS true (deS Heard (enS false list)))) - i0)) (drop (0 + toNat i0) (enS true (deS Heard (enS false list))))))))))]])))]], []) else none else none else none else none else none else none else none else none else none := by kernel_rfl
theorem aX67_3 (list : List Heard) (addr : Int) (vlan : Int) (port : Int) (n : Nat) (i0 : Int) : k67_1 n (Ex.exit 0) (X67_3 list addr vlan port i0) = bif decide (0 ≤ i0) && decide (i0 ≤ ofNat (length (enS true (deS Heard (enS false list))))) then bif isS Heard false (lendRows (take (toNat (i0 - 0)) (enS true (deS Heard (enS false list))))) && decide (length (deS Heard (lendRows (take (toNat (i0 - 0)) (enS true (deS Heard (enS false list)))))) ≤ 1048576) then bif deepRows (enS true (List.filter (keepB addr vlan) (deS Heard (lendRows (take (toNat (i0 - 0)) (enS true (deS Heard (enS false list)))))))) && true && true && true && true then bif decide (0 ≤ i0) && (decide (i0 ≤ ofNat (length (enS true (deS Heard (enS false list))))) && decide (ofNat (length (enS true (deS Heard (enS false list)))) ≤ ofNat (length (enS true (deS Heard (enS false list)))))) then bif isS Heard false (lendRows (take (toNat (ofNat (length (enS true (deS Heard (enS false list)))) - i0)) (drop (0 + toNat i0) (enS true (deS Heard (enS false list)))))) && decide (length (deS Heard (lendRows (take (toNat (ofNat (length (enS true (deS Heard (enS false list)))) - i0)) (drop (0 + toNat i0) (enS true (deS Heard (enS false list))))))) ≤ 1048576) then bif deepRows (enS true (List.filter (keepB addr vlan) (deS Heard (lendRows (take (toNat (ofNat (length (enS true (deS Heard (enS false list)))) - i0)) (drop (0 + toNat i0) (enS true (deS Heard (enS false list))))))))) && true && true && true && true then bif isS (List Heard) false [[D.sl false 4 (lendRows (enS true (List.filter (keepB addr vlan) (deS Heard (lendRows (take (toNat (i0 - 0)) (enS true (deS Heard (enS false list)))))))))], [D.sl false 4 [[D.int i64 addr, D.int i64 vlan, D.int i64 port, D.int i64 (20)]]], [D.sl false 4 (lendRows (enS true (List.filter (keepB addr vlan) (deS Heard (lendRows (take (toNat (ofNat (length (enS true (deS Heard (enS false list)))) - i0)) (drop (0 + toNat i0) (enS true (deS Heard (enS false list))))))))))]] && (decide (length (deS (List Heard) [[D.sl false 4 (lendRows (enS true (List.filter (keepB addr vlan) (deS Heard (lendRows (take (toNat (i0 - 0)) (enS true (deS Heard (enS false list)))))))))], [D.sl false 4 [[D.int i64 addr, D.int i64 vlan, D.int i64 port, D.int i64 (20)]]], [D.sl false 4 (lendRows (enS true (List.filter (keepB addr vlan) (deS Heard (lendRows (take (toNat (ofNat (length (enS true (deS Heard (enS false list)))) - i0)) (drop (0 + toNat i0) (enS true (deS Heard (enS false list))))))))))]]) ≤ 16) && all (deS (List Heard) [[D.sl false 4 (lendRows (enS true (List.filter (keepB addr vlan) (deS Heard (lendRows (take (toNat (i0 - 0)) (enS true (deS Heard (enS false list)))))))))], [D.sl false 4 [[D.int i64 addr, D.int i64 vlan, D.int i64 port, D.int i64 (20)]]], [D.sl false 4 (lendRows (enS true (List.filter (keepB addr vlan) (deS Heard (lendRows (take (toNat (ofNat (length (enS true (deS Heard (enS false list)))) - i0)) (drop (0 + toNat i0) (enS true (deS Heard (enS false list))))))))))]]) fun x ↦ decide (length x ≤ 1048576)) then bif deepRows (enS true (List.flatten (deS (List Heard) [[D.sl false 4 (lendRows (enS true (List.filter (keepB addr vlan) (deS Heard (lendRows (take (toNat (i0 - 0)) (enS true (deS Heard (enS false list)))))))))], [D.sl false 4 [[D.int i64 addr, D.int i64 vlan, D.int i64 port, D.int i64 (20)]]], [D.sl false 4 (lendRows (enS true (List.filter (keepB addr vlan) (deS Heard (lendRows (take (toNat (ofNat (length (enS true (deS Heard (enS false list)))) - i0)) (drop (0 + toNat i0) (enS true (deS Heard (enS false list))))))))))]]))) && true && true && true && true then bif isS Heard false (lendRows (enS true (List.flatten (deS (List Heard) [[D.sl false 4 (lendRows (enS true (List.filter (keepB addr vlan) (deS Heard (lendRows (take (toNat (i0 - 0)) (enS true (deS Heard (enS false list)))))))))], [D.sl false 4 [[D.int i64 addr, D.int i64 vlan, D.int i64 port, D.int i64 (20)]]], [D.sl false 4 (lendRows (enS true (List.filter (keepB addr vlan) (deS Heard (lendRows (take (toNat (ofNat (length (enS true (deS Heard (enS false list)))) - i0)) (drop (0 + toNat i0) (enS true (deS Heard (enS false list))))))))))]])))) && decide (length (deS Heard (lendRows (enS true (List.flatten (deS (List Heard) [[D.sl false 4 (lendRows (enS true (List.filter (keepB addr vlan) (deS Heard (lendRows (take (toNat (i0 - 0)) (enS true (deS Heard (enS false list)))))))))], [D.sl false 4 [[D.int i64 addr, D.int i64 vlan, D.int i64 port, D.int i64 (20)]]], [D.sl false 4 (lendRows (enS true (List.filter (keepB addr vlan) (deS Heard (lendRows (take (toNat (ofNat (length (enS true (deS Heard (enS false list)))) - i0)) (drop (0 + toNat i0) (enS true (deS Heard (enS false list))))))))))]]))))) ≤ 2097152) then bif !tableOk (deS Heard (lendRows (enS true (List.flatten (deS (List Heard) [[D.sl false 4 (lendRows (enS true (List.filter (keepB addr vlan) (deS Heard (lendRows (take (toNat (i0 - 0)) (enS true (deS Heard (enS false list)))))))))], [D.sl false 4 [[D.int i64 addr, D.int i64 vlan, D.int i64 port, D.int i64 (20)]]], [D.sl false 4 (lendRows (enS true (List.filter (keepB addr vlan) (deS Heard (lendRows (take (toNat (ofNat (length (enS true (deS Heard (enS false list)))) - i0)) (drop (0 + toNat i0) (enS true (deS Heard (enS false list))))))))))]]))))) then bif isS Heard false (enS false list) && decide (length (deS Heard (enS false list)) ≤ 4194304) then some ([[D.sl true 4 (enS true (deS Heard (enS false list)))]], []) else none else some ([[D.sl true 4 (enS true (List.flatten (deS (List Heard) [[D.sl false 4 (lendRows (enS true (List.filter (keepB addr vlan) (deS Heard (lendRows (take (toNat (i0 - 0)) (enS true (deS Heard (enS false list)))))))))], [D.sl false 4 [[D.int i64 addr, D.int i64 vlan, D.int i64 port, D.int i64 (20)]]], [D.sl false 4 (lendRows (enS true (List.filter (keepB addr vlan) (deS Heard (lendRows (take (toNat (ofNat (length (enS true (deS Heard (enS false list)))) - i0)) (drop (0 + toNat i0) (enS true (deS Heard (enS false list))))))))))]])))]], []) else none else none else none else none else none else none else none else none else none := by kernel_rfl
theorem r67 (list : List Heard) (addr : Int) (vlan : Int) (port : Int) (n : Nat) : evFn ⟨prog, Hx, 67⟩ T92.call n f67 [[.sl false 4 (enS false list)], [.int .i64 addr], [.int .i64 vlan], [.int .i64 port]] = bif isS Heard false (enS false list) && decide (length (deS Heard (enS false list)) ≤ 4194304) then loopRun (B67_0 n) 2 3591 17178822656 n (S67_0 list addr vlan port (0)) (k67_1 n) else none := by kernel_rfl
set_option maxHeartbeats 1000000 in
theorem l67_fin (list : List Heard) (addr vlan port : Int) (hlen : list.length ≤ 1048576) (k : Nat) (hk : k ≤ list.length) (n' : Nat) : k67_1 n' (.exit 0) (X67_3 list addr vlan port (Int.ofNat k)) = resA list addr vlan port k := by
  unfold resA
  have hl4 : decide (list.length ≤ 4194304) = true := decide_eq_true (by omega)
  refine (aX67_3 list addr vlan port _ _).trans ?_
  have e1 : decide (0 ≤ Int.ofNat k) = true := decide_eq_true (Int.natCast_nonneg k)
  have e2 : decide (Int.ofNat k ≤ Int.ofNat list.length) = true := decide_eq_true (Int.ofNat_le.2 hk)
  have e3 : (Int.ofNat k - 0).toNat = k := by show ((k : Int) - 0).toNat = k; omega
  have e4 : (Int.ofNat list.length - Int.ofNat k).toNat = list.length - k := by show ((list.length : Int) - (k : Int)).toNat = _; omega
  have e5 : decide (Int.ofNat list.length ≤ Int.ofNat list.length) = true := decide_eq_true (Int.le_refl _)
  have e6 : (list.drop k).take (list.length - k) = list.drop k := List.take_of_length_le (by rw [List.length_drop]; omega)
  have e7 : decide ((list.take k).length ≤ 1048576) = true := decide_eq_true (by rw [List.length_take]; omega)
  have e8 : decide ((list.drop k).length ≤ 1048576) = true := decide_eq_true (by rw [List.length_drop]; omega)
  simp only [deS_enS, enS_length, e1, e2, e3, e4, e5, enS_take, enS_drop, e6, lendRows_enS, isS_enS, e7, e8, deepRows_enS, Bool.and_self, cond_true, toNat_of, Nat.zero_add]
  generalize hF1 : (list.take k).filter (keepB addr vlan) = F1
  generalize hF2 : (list.drop k).filter (keepB addr vlan) = F2
  have l1 : F1.length ≤ k := by rw [← hF1]; exact Nat.le_trans (List.length_filter_le ..) (by rw [List.length_take]; omega)
  have l2 : F2.length ≤ list.length - k := by rw [← hF2]; exact Nat.le_trans (List.length_filter_le ..) (by rw [List.length_drop]; omega)
  have hc : hearAt list addr vlan port k = bif tableOk (F1 ++ (⟨addr, vlan, port, 20⟩ :: F2)) then F1 ++ (⟨addr, vlan, port, 20⟩ :: F2) else list := by
    unfold hearAt catAt
    rw [hF1, hF2]
  rw [hc]
  have hs : ([[D.sl false 4 (enS false F1)], [D.sl false 4 [[D.int .i64 addr, D.int .i64 vlan, D.int .i64 port, D.int .i64 20]]], [D.sl false 4 (enS false F2)]] : List (List D)) = enS false [F1, [⟨addr, vlan, port, 20⟩], F2] := rfl
  have hall : ([F1, [⟨addr, vlan, port, 20⟩], F2] : List (List Heard)).all (fun x => decide (x.length ≤ 1048576)) = true := by
    simp only [List.all_cons, List.all_nil, Bool.and_true, Bool.and_eq_true, decide_eq_true_eq, List.length_singleton]
    omega
  have h3 : decide (([F1, [⟨addr, vlan, port, 20⟩], F2] : List (List Heard)).length ≤ 16) = true := rfl
  have hfl : ([F1, [⟨addr, vlan, port, 20⟩], F2] : List (List Heard)).flatten = F1 ++ (⟨addr, vlan, port, 20⟩ :: F2) := by simp
  have hfl2 : decide ((F1 ++ (⟨addr, vlan, port, 20⟩ :: F2) : List Heard).length ≤ 2097152) = true := decide_eq_true (by simp; omega)
  simp only [hs, deS_enS, isS_enS, hall, h3, hfl, hfl2, hl4, lendRows_enS, deepRows_enS, Bool.and_self, cond_true]
  cases tableOk (F1 ++ (⟨addr, vlan, port, 20⟩ :: F2))
  · rfl
  · rfl
theorem l67_finb (list : List Heard) (addr vlan port : Int) (hlen : list.length ≤ 1048576) (k : Nat) (hk : k ≤ list.length) (n' : Nat) : k67_1 n' (.exit 0) (X67_2 list addr vlan port (Int.ofNat k)) = resA list addr vlan port k :=
  (aX67_2 list addr vlan port n' _).trans ((aX67_3 list addr vlan port n' _).symm.trans (l67_fin list addr vlan port hlen k hk n'))
theorem m67 (list : List Heard) (addr : Int) (vlan : Int) (port : Int) (hpre : (o67 list addr vlan port).1 = true) : evFn ⟨Go.Proofs.Try.prog, Hx, 67⟩ T92.call (list.length + 1) f67 [[.sl false 4 (enS false list)], [.int .i64 addr], [.int .i64 vlan], [.int .i64 port]] = some (o67 list addr vlan port).2 := by
  refine (r67 list addr vlan port _).trans ?_
  show _ = (some ([[.sl true 4 (enS true (hearL list addr vlan port))]], []) : Option (List Row × List Row))
  replace hpre : (decide (list.length ≤ 1048576)) = true := hpre
  have hlen := of_decide_eq_true hpre
  have hl4 : decide (list.length ≤ 4194304) = true := decide_eq_true (by omega)
  refine bif_t (by rw [deS_enS, isS_enS, hl4]; rfl) ?_
  rw [hear_cat]
  refine (loop_list (xs := list) (fun i (_ : Unit) => S67_0 list addr vlan port (Int.ofNat i)) (fun _ _ => True) (fun i _ rest => resA list addr vlan port (i + (rest.takeWhile (fun y => aheadB y ⟨addr, vlan, port, 20⟩)).length)) ?_ ?_ (list.length + 1) () (by omega) trivial).trans (by rw [Nat.zero_add]; rfl)
  · rintro _ _ f
    refine (q67_0 list addr vlan port _ _ f _).trans ?_
    rw [deS_enS]
    rw [end_lt, cond_false]
    exact l67_fin list addr vlan port hlen list.length (Nat.le_refl _) _
  · rintro i _ hi _ f hf
    refine (q67_0 list addr vlan port _ _ f _).trans ?_
    rw [deS_enS]
    cases h1 : aheadB list[i] ⟨addr, vlan, port, 20⟩
    · have hk : i + ((list[i] :: list.drop (i + 1)).takeWhile (fun y => aheadB y ⟨addr, vlan, port, 20⟩)).length = i := by
        rw [List.takeWhile_cons_of_neg (p := fun y => aheadB y ⟨addr, vlan, port, 20⟩) (by rw [h1]; decide)]
        rfl
      rw [hk]
      refine bif_t (in_lt true hi) (bif_t ?_ (bif_t ?_ (bif_f ?_ (l67_finb list addr vlan port hlen i (by omega) _))))
      · simp only [enS_length, toNat_of, dec_lt, dec_ge, decide_true, decide_false, cond_true, cond_false, Bool.and_self, Bool.and_true, Bool.true_and, Bool.not_true, Bool.not_false, Nat.lt_irrefl, Nat.zero_add, isS_enS, deS_enS, isS_nil, deS_nil, List.nil_append, lendRows_enS, deepRows_enS, noSl_u8, En.enc, List.getD_cons_zero, List.getD_cons_succ, D.num, D.flag, D.text, D.rows, Leaf.fit, List.append_eq, TReader.eta, Frame.eta, Heard.eta, Member.eta, Card.eta, Out1.eta, Vec.eta, Port.eta, Bridge.eta, In.eta, Out.eta, Link.eta, Net.eta, TEnd.eta, Minder.eta, Reg.eta, Wire.eta, Box.eta, Deed.eta, Bpdu.eta, Visit.eta, Fabric.eta, Got.eta, TRide.eta, Up.eta, Copy.eta, Bucket.eta, Snap.eta, TL9Cur.eta, TL21In.eta, enS_get _ hi, hi, wrap_succ (show i < 4611686018427387904 by omega), beq_self_eq_true]
      · simp only [enS_length, toNat_of, dec_lt, dec_ge, decide_true, decide_false, cond_true, cond_false, Bool.and_self, Bool.and_true, Bool.true_and, Bool.not_true, Bool.not_false, Nat.lt_irrefl, Nat.zero_add, isS_enS, deS_enS, isS_nil, deS_nil, List.nil_append, lendRows_enS, deepRows_enS, noSl_u8, En.enc, List.getD_cons_zero, List.getD_cons_succ, D.num, D.flag, D.text, D.rows, Leaf.fit, List.append_eq, TReader.eta, Frame.eta, Heard.eta, Member.eta, Card.eta, Out1.eta, Vec.eta, Port.eta, Bridge.eta, In.eta, Out.eta, Link.eta, Net.eta, TEnd.eta, Minder.eta, Reg.eta, Wire.eta, Box.eta, Deed.eta, Bpdu.eta, Visit.eta, Fabric.eta, Got.eta, TRide.eta, Up.eta, Copy.eta, Bucket.eta, Snap.eta, TL9Cur.eta, TL21In.eta, enS_get _ hi, hi, wrap_succ (show i < 4611686018427387904 by omega), beq_self_eq_true]
      · simp only [enS_length, toNat_of, dec_lt, dec_ge, decide_true, decide_false, cond_true, cond_false, Bool.and_self, Bool.and_true, Bool.true_and, Bool.not_true, Bool.not_false, Nat.lt_irrefl, Nat.zero_add, isS_enS, deS_enS, isS_nil, deS_nil, List.nil_append, lendRows_enS, deepRows_enS, noSl_u8, En.enc, List.getD_cons_zero, List.getD_cons_succ, D.num, D.flag, D.text, D.rows, Leaf.fit, List.append_eq, TReader.eta, Frame.eta, Heard.eta, Member.eta, Card.eta, Out1.eta, Vec.eta, Port.eta, Bridge.eta, In.eta, Out.eta, Link.eta, Net.eta, TEnd.eta, Minder.eta, Reg.eta, Wire.eta, Box.eta, Deed.eta, Bpdu.eta, Visit.eta, Fabric.eta, Got.eta, TRide.eta, Up.eta, Copy.eta, Bucket.eta, Snap.eta, TL9Cur.eta, TL21In.eta, enS_get _ hi, hi, wrap_succ (show i < 4611686018427387904 by omega), h1]
    · have hk : i + ((list[i] :: list.drop (i + 1)).takeWhile (fun y => aheadB y ⟨addr, vlan, port, 20⟩)).length = i + 1 + ((list.drop (i + 1)).takeWhile (fun y => aheadB y ⟨addr, vlan, port, 20⟩)).length := by
        rw [List.takeWhile_cons_of_pos (p := fun y => aheadB y ⟨addr, vlan, port, 20⟩) h1, List.length_cons]
        omega
      rw [hk]
      have h9 := hf () trivial
      generalize hR : resA list addr vlan port (i + 1 + ((list.drop (i + 1)).takeWhile (fun y => aheadB y ⟨addr, vlan, port, 20⟩)).length) = R at h9 ⊢
      simp only [enS_length, toNat_of, dec_lt, dec_ge, decide_true, decide_false, cond_true, cond_false, Bool.and_self, Bool.and_true, Bool.true_and, Bool.not_true, Bool.not_false, Nat.lt_irrefl, Nat.zero_add, isS_enS, deS_enS, isS_nil, deS_nil, List.nil_append, lendRows_enS, deepRows_enS, noSl_u8, En.enc, List.getD_cons_zero, List.getD_cons_succ, D.num, D.flag, D.text, D.rows, Leaf.fit, List.append_eq, TReader.eta, Frame.eta, Heard.eta, Member.eta, Card.eta, Out1.eta, Vec.eta, Port.eta, Bridge.eta, In.eta, Out.eta, Link.eta, Net.eta, TEnd.eta, Minder.eta, Reg.eta, Wire.eta, Box.eta, Deed.eta, Bpdu.eta, Visit.eta, Fabric.eta, Got.eta, TRide.eta, Up.eta, Copy.eta, Bucket.eta, Snap.eta, TL9Cur.eta, TL21In.eta, enS_get _ hi, hi, wrap_succ (show i < 4611686018427387904 by omega), h1, beq_self_eq_true]
      exact h9
theorem s67 : SoundAt Go.Proofs.Try.prog Hx 67 c67 := soundAt_of T92_sound mixed func67 (by kernel_rfl) (by
  intro rows r h
  unfold c67 at h
  split at h
  · rename_i list addr vlan port
    obtain ⟨hp, hr⟩ := Prod.mk.inj (Option.some.inj h)
    subst hr
    simp only [Bool.and_eq_true] at hp
    obtain ⟨hs0, hp⟩ := hp
    obtain ⟨xs0, rfl⟩ := isS_ex hs0
    simp only [deS_enS] at hp ⊢
    exact ⟨_, m67 xs0 addr vlan port hp⟩
  · cases h)
def T67 : Table := (67, c67) :: T92
theorem T67_sound : Table.Sound Go.Proofs.Try.prog Hx T67 := Table.sound_cons s67 T92_sound
def o82 (list : List Heard) (addr : Int) (vlan : Int) (port : Int) : Bool × List Row × List Row := (decide (list.length ≤ 1048576), [[.sl true 4 (enS true (hearL list addr vlan port))]], [])
def c82 : Contract
  | [[.sl false 4 list], [.int .i64 addr], [.int .i64 vlan], [.int .i64 port]] => some (isS Heard false list && (o82 (deS Heard list) addr vlan port).1, (o82 (deS Heard list) addr vlan port).2.1, (o82 (deS Heard list) addr vlan port).2.2)
  | _ => none

def k82_0 (n : Nat) : Ex → St → RR := kThen (fun st ↦ runCode (Ctx.mk prog Hx (82)) (Table.call T67) n (codeAt [1, 1, 1, 1, 1] (bodyOf f82)) (Lv.mk 256 [] 256) st (kLeave (Ctx.P (Ctx.mk prog Hx (82))) (List.zip (Array.toList (Go.Func.resultTypes f82)) (Array.toList (Go.Func.results f82))) [] [])) (kLeave (Ctx.P (Ctx.mk prog Hx (82))) (List.zip (Array.toList (Go.Func.resultTypes f82)) (Array.toList (Go.Func.results f82))) [] [])
def k82_1 (n : Nat) : Ex → St → RR := kBlock (0) (k82_0 n)
def S82_0 (list : List Heard) (addr : Int) (vlan : Int) (port : Int) (b0 : Bool) (i1 : Int) (es2 : List (List D)) : St := St.mk [V_ [C.d (D.sl false 4 (enS false list))], I_ addr, I_ vlan, U_, U_, U_, U_, U_, U_, V_ [C.ptr 0 0 0 [] 4 0 0], V_ [C.view 2 0 0 [] 4 none], B_ b0, I_ i1, U_, U_, U_, U_, U_, U_, U_, U_, U_, U_, U_, U_, U_, U_, U_, U_, U_, U_, U_, U_, U_, U_, U_, U_, U_, U_, U_, U_, U_, U_, U_, U_, U_, U_, U_, U_, U_, U_, U_, U_, U_, U_, U_, U_, U_, U_, U_, U_, U_, U_, U_, U_, U_, U_, U_, U_, U_, U_, U_, U_, U_, U_] [Root.mk true 4 [[D.int i64 addr, D.int i64 vlan, D.int i64 port, D.int i64 (20)]] 0 0 true true false, Root.mk false 4 [] 0 0 false true false, Root.mk false 4 es2 0 0 true true false]
def B82_0 (n : Nat) : St → (Ex → St → RR) → RR := runCode (Ctx.mk prog Hx (82)) (Table.call T67) n (codeAt [1, 1, 1, 1, 0, 1, 0, 0] (bodyOf f82)) (Lv.mk 7687 [(0, 3585)] 256)
def X82_2 (list : List Heard) (addr : Int) (vlan : Int) (port : Int) (b0 : Bool) (i1 : Int) (es2 : List (List D)) : St := St.mk [V_ [C.d (D.sl false 4 (enS false list))], I_ addr, I_ vlan, U_, U_, U_, U_, U_, U_, V_ [C.ptr 0 0 0 [] 4 0 0], V_ [C.view 2 0 0 [] 4 none], B_ b0, I_ i1, U_, U_, U_, U_, U_, I_ i1, V_ [C.d (D.sl false 4 (enS false list))], I_ (ofNat (length (enS false list))), B_ false, U_, U_, U_, U_, U_, U_, U_, U_, U_, U_, U_, U_, U_, U_, U_, U_, U_, U_, U_, U_, U_, U_, U_, U_, U_, U_, U_, U_, U_, U_, U_, U_, U_, U_, U_, U_, U_, U_, U_, U_, U_, U_, U_, U_, U_, U_, U_, U_, U_, U_, U_, U_, U_] [Root.mk true 4 [[D.int i64 addr, D.int i64 vlan, D.int i64 port, D.int i64 (20)]] 0 0 true true false, Root.mk false 4 [] 0 0 false true false, Root.mk false 4 es2 0 0 true true false]
theorem q82_0 (list : List Heard) (addr : Int) (vlan : Int) (port : Int) (n : Nat) (b0 : Bool) (i1 : Int) (es2 : List (List D)) (f : St → RR) (K : Ex → St → RR) : B82_0 n (S82_0 list addr vlan port b0 i1 es2) (kThen (fun st ↦ f (St.head 2 7687 4611686018427132928 st)) K) = bif decide (i1 < ofNat (length (enS false list))) then bif !b0 then bif decide (0 ≤ i1) && decide (i1 < ofNat (length (enS false list))) then bif Leaf.fit false (Leaf.int i64) (getD (getD (enS false list) (toNat i1) []) 0 D.dead) && (Leaf.fit false (Leaf.int i64) (getD (getD (enS false list) (toNat i1) []) 1 D.dead) && (Leaf.fit false (Leaf.int i64) (getD (getD (enS false list) (toNat i1) []) 2 D.dead) && (Leaf.fit false (Leaf.int i64) (getD (getD (enS false list) (toNat i1) []) 3 D.dead) && true))) then bif !aheadB (Heard.mk (D.num (getD (getD (enS false list) (toNat i1) []) 0 D.dead)) (D.num (getD (getD (enS false list) (toNat i1) []) 1 D.dead)) (D.num (getD (getD (enS false list) (toNat i1) []) 2 D.dead)) (D.num (getD (getD (enS false list) (toNat i1) []) 3 D.dead))) (Heard.mk addr vlan port (20)) then bif decide ((length es2 + 1) * 32 ≤ 140737488355328) then bif decide (0 ≤ i1) && decide (i1 < ofNat (length (enS false list))) then bif Leaf.fit false (Leaf.int i64) (getD (getD (enS false list) (toNat i1) []) 0 D.dead) && true then bif D.num (getD (getD (enS false list) (toNat i1) []) 0 D.dead) != addr then bif decide (0 ≤ i1) && decide (i1 < ofNat (length (enS false list))) then bif Leaf.fit false (Leaf.int i64) (getD (getD (enS false list) (toNat i1) []) 0 D.dead) && (Leaf.fit false (Leaf.int i64) (getD (getD (enS false list) (toNat i1) []) 1 D.dead) && (Leaf.fit false (Leaf.int i64) (getD (getD (enS false list) (toNat i1) []) 2 D.dead) && (Leaf.fit false (Leaf.int i64) (getD (getD (enS false list) (toNat i1) []) 3 D.dead) && true))) then bif decide ((length (append es2 [[D.int i64 addr, D.int i64 vlan, D.int i64 port, D.int i64 (20)]]) + 1) * 32 ≤ 140737488355328) then f (S82_0 list addr vlan port true (wrap i64 (i1 + 1)) (append (append es2 [[D.int i64 addr, D.int i64 vlan, D.int i64 port, D.int i64 (20)]]) [[D.int i64 (D.num (getD (getD (enS false list) (toNat i1) []) 0 D.dead)), D.int i64 (D.num (getD (getD (enS false list) (toNat i1) []) 1 D.dead)), D.int i64 (D.num (getD (getD (enS false list) (toNat i1) []) 2 D.dead)), D.int i64 (D.num (getD (getD (enS false list) (toNat i1) []) 3 D.dead))]])) else none else none else none else bif decide (0 ≤ i1) && decide (i1 < ofNat (length (enS false list))) then bif Leaf.fit false (Leaf.int i64) (getD (drop 1 (getD (enS false list) (toNat i1) [])) 0 D.dead) && true then bif D.num (getD (drop 1 (getD (enS false list) (toNat i1) [])) 0 D.dead) != vlan then bif decide (0 ≤ i1) && decide (i1 < ofNat (length (enS false list))) then bif Leaf.fit false (Leaf.int i64) (getD (getD (enS false list) (toNat i1) []) 0 D.dead) && (Leaf.fit false (Leaf.int i64) (getD (getD (enS false list) (toNat i1) []) 1 D.dead) && (Leaf.fit false (Leaf.int i64) (getD (getD (enS false list) (toNat i1) []) 2 D.dead) && (Leaf.fit false (Leaf.int i64) (getD (getD (enS false list) (toNat i1) []) 3 D.dead) && true))) then bif decide ((length (append es2 [[D.int i64 addr, D.int i64 vlan, D.int i64 port, D.int i64 (20)]]) + 1) * 32 ≤ 140737488355328) then f (S82_0 list addr vlan port true (wrap i64 (i1 + 1)) (append (append es2 [[D.int i64 addr, D.int i64 vlan, D.int i64 port, D.int i64 (20)]]) [[D.int i64 (D.num (getD (getD (enS false list) (toNat i1) []) 0 D.dead)), D.int i64 (D.num (getD (getD (enS false list) (toNat i1) []) 1 D.dead)), D.int i64 (D.num (getD (getD (enS false list) (toNat i1) []) 2 D.dead)), D.int i64 (D.num (getD (getD (enS false list) (toNat i1) []) 3 D.dead))]])) else none else none else none else f (S82_0 list addr vlan port true (wrap i64 (i1 + 1)) (append es2 [[D.int i64 addr, D.int i64 vlan, D.int i64 port, D.int i64 (20)]])) else none else none else none else none else none else bif decide (0 ≤ i1) && decide (i1 < ofNat (length (enS false list))) then bif Leaf.fit false (Leaf.int i64) (getD (getD (enS false list) (toNat i1) []) 0 D.dead) && true then bif D.num (getD (getD (enS false list) (toNat i1) []) 0 D.dead) != addr then bif decide (0 ≤ i1) && decide (i1 < ofNat (length (enS false list))) then bif Leaf.fit false (Leaf.int i64) (getD (getD (enS false list) (toNat i1) []) 0 D.dead) && (Leaf.fit false (Leaf.int i64) (getD (getD (enS false list) (toNat i1) []) 1 D.dead) && (Leaf.fit false (Leaf.int i64) (getD (getD (enS false list) (toNat i1) []) 2 D.dead) && (Leaf.fit false (Leaf.int i64) (getD (getD (enS false list) (toNat i1) []) 3 D.dead) && true))) then bif decide ((length es2 + 1) * 32 ≤ 140737488355328) then f (S82_0 list addr vlan port b0 (wrap i64 (i1 + 1)) (append es2 [[D.int i64 (D.num (getD (getD (enS false list) (toNat i1) []) 0 D.dead)), D.int i64 (D.num (getD (getD (enS false list) (toNat i1) []) 1 D.dead)), D.int i64 (D.num (getD (getD (enS false list) (toNat i1) []) 2 D.dead)), D.int i64 (D.num (getD (getD (enS false list) (toNat i1) []) 3 D.dead))]])) else none else none else none else bif decide (0 ≤ i1) && decide (i1 < ofNat (length (enS false list))) then bif Leaf.fit false (Leaf.int i64) (getD (drop 1 (getD (enS false list) (toNat i1) [])) 0 D.dead) && true then bif D.num (getD (drop 1 (getD (enS false list) (toNat i1) [])) 0 D.dead) != vlan then bif decide (0 ≤ i1) && decide (i1 < ofNat (length (enS false list))) then bif Leaf.fit false (Leaf.int i64) (getD (getD (enS false list) (toNat i1) []) 0 D.dead) && (Leaf.fit false (Leaf.int i64) (getD (getD (enS false list) (toNat i1) []) 1 D.dead) && (Leaf.fit false (Leaf.int i64) (getD (getD (enS false list) (toNat i1) []) 2 D.dead) && (Leaf.fit false (Leaf.int i64) (getD (getD (enS false list) (toNat i1) []) 3 D.dead) && true))) then bif decide ((length es2 + 1) * 32 ≤ 140737488355328) then f (S82_0 list addr vlan port b0 (wrap i64 (i1 + 1)) (append es2 [[D.int i64 (D.num (getD (getD (enS false list) (toNat i1) []) 0 D.dead)), D.int i64 (D.num (getD (getD (enS false list) (toNat i1) []) 1 D.dead)), D.int i64 (D.num (getD (getD (enS false list) (toNat i1) []) 2 D.dead)), D.int i64 (D.num (getD (getD (enS false list) (toNat i1) []) 3 D.dead))]])) else none else none else none else f (S82_0 list addr vlan port b0 (wrap i64 (i1 + 1)) es2) else none else none else none else none else none else none else bif decide (0 ≤ i1) && decide (i1 < ofNat (length (enS false list))) then bif Leaf.fit false (Leaf.int i64) (getD (getD (enS false list) (toNat i1) []) 0 D.dead) && true then bif D.num (getD (getD (enS false list) (toNat i1) []) 0 D.dead) != addr then bif decide (0 ≤ i1) && decide (i1 < ofNat (length (enS false list))) then bif Leaf.fit false (Leaf.int i64) (getD (getD (enS false list) (toNat i1) []) 0 D.dead) && (Leaf.fit false (Leaf.int i64) (getD (getD (enS false list) (toNat i1) []) 1 D.dead) && (Leaf.fit false (Leaf.int i64) (getD (getD (enS false list) (toNat i1) []) 2 D.dead) && (Leaf.fit false (Leaf.int i64) (getD (getD (enS false list) (toNat i1) []) 3 D.dead) && true))) then bif decide ((length es2 + 1) * 32 ≤ 140737488355328) then f (S82_0 list addr vlan port b0 (wrap i64 (i1 + 1)) (append es2 [[D.int i64 (D.num (getD (getD (enS false list) (toNat i1) []) 0 D.dead)), D.int i64 (D.num (getD (getD (enS false list) (toNat i1) []) 1 D.dead)), D.int i64 (D.num (getD (getD (enS false list) (toNat i1) []) 2 D.dead)), D.int i64 (D.num (getD (getD (enS false list) (toNat i1) []) 3 D.dead))]])) else none else none else none else bif decide (0 ≤ i1) && decide (i1 < ofNat (length (enS false list))) then bif Leaf.fit false (Leaf.int i64) (getD (drop 1 (getD (enS false list) (toNat i1) [])) 0 D.dead) && true then bif D.num (getD (drop 1 (getD (enS false list) (toNat i1) [])) 0 D.dead) != vlan then bif decide (0 ≤ i1) && decide (i1 < ofNat (length (enS false list))) then bif Leaf.fit false (Leaf.int i64) (getD (getD (enS false list) (toNat i1) []) 0 D.dead) && (Leaf.fit false (Leaf.int i64) (getD (getD (enS false list) (toNat i1) []) 1 D.dead) && (Leaf.fit false (Leaf.int i64) (getD (getD (enS false list) (toNat i1) []) 2 D.dead) && (Leaf.fit false (Leaf.int i64) (getD (getD (enS false list) (toNat i1) []) 3 D.dead) && true))) then bif decide ((length es2 + 1) * 32 ≤ 140737488355328) then f (S82_0 list addr vlan port b0 (wrap i64 (i1 + 1)) (append es2 [[D.int i64 (D.num (getD (getD (enS false list) (toNat i1) []) 0 D.dead)), D.int i64 (D.num (getD (getD (enS false list) (toNat i1) []) 1 D.dead)), D.int i64 (D.num (getD (getD (enS false list) (toNat i1) []) 2 D.dead)), D.int i64 (D.num (getD (getD (enS false list) (toNat i1) []) 3 D.dead))]])) else none else none else none else f (S82_0 list addr vlan port b0 (wrap i64 (i1 + 1)) es2) else none else none else none else none else K (Ex.exit 0) (X82_2 list addr vlan port b0 i1 es2) := by kernel_rfl
theorem aX82_2 (list : List Heard) (addr : Int) (vlan : Int) (port : Int) (n : Nat) (b0 : Bool) (i1 : Int) (es2 : List (List D)) : k82_1 n (Ex.exit 0) (X82_2 list addr vlan port b0 i1 es2) = bif !b0 then bif decide ((length es2 + 1) * 32 ≤ 140737488355328) then bif isS Heard false (lendRows (append es2 [[D.int i64 addr, D.int i64 vlan, D.int i64 port, D.int i64 (20)]])) && decide (length (deS Heard (lendRows (append es2 [[D.int i64 addr, D.int i64 vlan, D.int i64 port, D.int i64 (20)]]))) ≤ 2097152) then bif !tableOk (deS Heard (lendRows (append es2 [[D.int i64 addr, D.int i64 vlan, D.int i64 port, D.int i64 (20)]]))) then bif decide ((0 + length (enS false list)) * 32 ≤ 140737488355328) then some ([[D.sl true 4 (enS false list)]], []) else none else some ([[D.sl true 4 (append es2 [[D.int i64 addr, D.int i64 vlan, D.int i64 port, D.int i64 (20)]])]], []) else none else none else bif isS Heard false (lendRows es2) && decide (length (deS Heard (lendRows es2)) ≤ 2097152) then bif !tableOk (deS Heard (lendRows es2)) then bif decide ((0 + length (enS false list)) * 32 ≤ 140737488355328) then some ([[D.sl true 4 (enS false list)]], []) else none else some ([[D.sl true 4 es2]], []) else none := by kernel_rfl
theorem r82 (list : List Heard) (addr : Int) (vlan : Int) (port : Int) (n : Nat) : evFn ⟨prog, Hx, 82⟩ T67.call n f82 [[.sl false 4 (enS false list)], [.int .i64 addr], [.int .i64 vlan], [.int .i64 port]] = loopRun (B82_0 n) 2 7687 4611686018427132928 n (S82_0 list addr vlan port false (0) []) (k82_1 n) := by kernel_rfl
theorem l82_end (list r : List Heard) (hlen : list.length ≤ 1048576) (hr : r.length ≤ 2097152) : (bif isS Heard false (lendRows (enS true r)) && decide (length (deS Heard (lendRows (enS true r))) ≤ 2097152) then bif !tableOk (deS Heard (lendRows (enS true r))) then bif decide ((0 + length (enS false list)) * 32 ≤ 140737488355328) then some ([[D.sl true 4 (enS false list)]], []) else none else some ([[D.sl true 4 (enS true r)]], []) else none : RR) = resH list r := by
  unfold resH
  have h1 : decide (r.length ≤ 2097152) = true := decide_eq_true hr
  have h2 : decide ((0 + list.length) * 32 ≤ 140737488355328) = true := decide_eq_true (by omega)
  simp only [lendRows_enS, deS_enS, isS_enS, enS_length, h1, h2, Bool.and_self, cond_true]
  cases tableOk r <;> rfl
theorem l82_fin (list : List Heard) (addr vlan port : Int) (hlen : list.length ≤ 1048576) (d : Bool) (i : Int) (acc : List Heard) (ha : acc.length ≤ 2097151) (n' : Nat) : k82_1 n' (.exit 0) (X82_2 list addr vlan port d i (enS true acc)) = resH list (acc ++ insB addr vlan port d []) := by
  refine (aX82_2 list addr vlan port n' d i _).trans ?_
  have e : List.append (enS true acc) [[D.int .i64 addr, D.int .i64 vlan, D.int .i64 port, D.int .i64 20]] = enS true (acc ++ [⟨addr, vlan, port, 20⟩]) := by rw [enS_append, enS_one]; rfl
  have hr : decide ((acc.length + 1) * 32 ≤ 140737488355328) = true := decide_eq_true (by omega)
  rw [e]
  cases d
  · refine bif_t rfl (bif_t (by rw [enS_length]; exact hr) ?_)
    exact l82_end list (acc ++ [⟨addr, vlan, port, 20⟩]) hlen (by simp; omega)
  · refine bif_f rfl ?_
    have := l82_end list acc hlen (by omega)
    rw [show acc ++ insB addr vlan port true [] = acc from List.append_nil _]
    exact this
theorem m82 (list : List Heard) (addr : Int) (vlan : Int) (port : Int) (hpre : (o82 list addr vlan port).1 = true) : evFn ⟨Go.Proofs.Try.prog, Hx, 82⟩ T67.call (list.length + 1) f82 [[.sl false 4 (enS false list)], [.int .i64 addr], [.int .i64 vlan], [.int .i64 port]] = some (o82 list addr vlan port).2 := by
  refine (r82 list addr vlan port _).trans ?_
  show _ = (some ([[.sl true 4 (enS true (hearL list addr vlan port))]], []) : Option (List Row × List Row))
  replace hpre : (decide (list.length ≤ 1048576)) = true := hpre
  have hlen := of_decide_eq_true hpre
  have hm : (some ([[D.sl true 4 (enS true (hearL list addr vlan port))]], []) : RR) = resH list ([] ++ insB addr vlan port false list) := by
    rw [List.nil_append, ins_false]
    rfl
  refine Eq.trans ?_ hm.symm
  refine loop_list (xs := list) (fun i (a : Bool × List Heard) => S82_0 list addr vlan port a.1 (Int.ofNat i) (enS true a.2)) (fun i a => a.2.length ≤ i + (bif a.1 then 1 else 0)) (fun i a rest => resH list (a.2 ++ insB addr vlan port a.1 rest)) ?_ ?_ (list.length + 1) (false, []) (by omega) (Nat.le_refl _)
  · rintro ⟨d, acc⟩ hacc f
    refine (q82_0 list addr vlan port _ _ _ _ f _).trans ?_
    rw [end_lt, cond_false]
    exact l82_fin list addr vlan port hlen d _ acc (by have h : acc.length ≤ list.length + (bif d then 1 else 0) := hacc; cases d <;> simp at h <;> omega) _
  · rintro i ⟨d, acc⟩ hi hacc f hf
    have hacc : acc.length ≤ i + (bif d then 1 else 0) := hacc
    have hacc2 : acc.length ≤ i + 1 := by cases d <;> simp at hacc <;> omega
    refine (q82_0 list addr vlan port _ _ _ _ f _).trans ?_
    have h1 : decide ((acc.length + 1) * 32 ≤ 140737488355328) = true := decide_eq_true (by omega)
    have h2 : decide ((acc.length + 1 + 1) * 32 ≤ 140737488355328) = true := decide_eq_true (by omega)
    have e : enS true acc ++ [[D.int .i64 addr, D.int .i64 vlan, D.int .i64 port, D.int .i64 20]] = enS true (acc ++ [⟨addr, vlan, port, 20⟩]) := by rw [enS_append, enS_one]; rfl
    have e2 : ∀ l : List Heard, enS true l ++ [[D.int .i64 list[i].Addr, D.int .i64 list[i].Vlan, D.int .i64 list[i].Port, D.int .i64 list[i].Left]] = enS true (l ++ [list[i]]) := fun l => by rw [enS_append, enS_one]; rfl
    have b1 : (list[i].Addr != addr) = !(list[i].Addr == addr) := rfl
    have b2 : (list[i].Vlan != vlan) = !(list[i].Vlan == vlan) := rfl
    have hk : keepB addr vlan list[i] = (!(list[i].Addr == addr) || !(list[i].Vlan == vlan)) := rfl
    have step : ∀ (d' : Bool) (acc' : List Heard), d' = (d || !aheadB list[i] ⟨addr, vlan, port, 20⟩) → acc' = acc ++ ((bif !d && !aheadB list[i] ⟨addr, vlan, port, 20⟩ then [⟨addr, vlan, port, 20⟩] else []) ++ (bif keepB addr vlan list[i] then [list[i]] else [])) → f (S82_0 list addr vlan port d' (Int.ofNat (i + 1)) (enS true acc')) = resH list (acc ++ insB addr vlan port d (list[i] :: list.drop (i + 1))) := by
      intro d' acc' hd ha
      have hl : acc'.length ≤ i + 1 + (bif d' then 1 else 0) := by
        rw [ha, hd]
        cases d <;> cases aheadB list[i] ⟨addr, vlan, port, 20⟩ <;> cases keepB addr vlan list[i] <;> simp at hacc ⊢ <;> omega
      refine (hf (d', acc') hl).trans ?_
      have hi2 : acc ++ insB addr vlan port d (list[i] :: list.drop (i + 1)) = acc' ++ insB addr vlan port d' (list.drop (i + 1)) := by
        rw [ha, hd]
        show acc ++ (_ ++ (_ ++ _)) = _
        simp only [List.append_assoc]
      rw [hi2]
    show _ = resH list (acc ++ insB addr vlan port d (list[i] :: list.drop (i + 1)))
    generalize hR : resH list (acc ++ insB addr vlan port d (list[i] :: list.drop (i + 1))) = R at step ⊢
    cases d
    · cases g1 : aheadB list[i] ⟨addr, vlan, port, 20⟩
      · cases g2 : list[i].Addr == addr
        · simp only [enS_length, toNat_of, dec_lt, dec_ge, decide_true, decide_false, cond_true, cond_false, Bool.and_self, Bool.and_true, Bool.true_and, Bool.not_true, Bool.not_false, Nat.lt_irrefl, Nat.zero_add, isS_enS, deS_enS, isS_nil, deS_nil, List.nil_append, lendRows_enS, deepRows_enS, noSl_u8, En.enc, List.getD_cons_zero, List.getD_cons_succ, D.num, D.flag, D.text, D.rows, Leaf.fit, List.append_eq, TReader.eta, Frame.eta, Heard.eta, Member.eta, Card.eta, Out1.eta, Vec.eta, Port.eta, Bridge.eta, In.eta, Out.eta, Link.eta, Net.eta, TEnd.eta, Minder.eta, Reg.eta, Wire.eta, Box.eta, Deed.eta, Bpdu.eta, Visit.eta, Fabric.eta, Got.eta, TRide.eta, Up.eta, Copy.eta, Bucket.eta, Snap.eta, TL9Cur.eta, TL21In.eta, enS_get _ hi, hi, wrap_succ (show i < 4611686018427387904 by omega), h1, h2, e, e2, b1, b2, g1, g2, beq_self_eq_true, List.length_append, List.length_singleton, List.drop_succ_cons, List.drop_zero, List.length_cons, List.length_nil]
          exact step _ _ (by rw [g1]; rfl) (by rw [g1, hk, g2]; simp)
        · cases g3 : list[i].Vlan == vlan
          · simp only [enS_length, toNat_of, dec_lt, dec_ge, decide_true, decide_false, cond_true, cond_false, Bool.and_self, Bool.and_true, Bool.true_and, Bool.not_true, Bool.not_false, Nat.lt_irrefl, Nat.zero_add, isS_enS, deS_enS, isS_nil, deS_nil, List.nil_append, lendRows_enS, deepRows_enS, noSl_u8, En.enc, List.getD_cons_zero, List.getD_cons_succ, D.num, D.flag, D.text, D.rows, Leaf.fit, List.append_eq, TReader.eta, Frame.eta, Heard.eta, Member.eta, Card.eta, Out1.eta, Vec.eta, Port.eta, Bridge.eta, In.eta, Out.eta, Link.eta, Net.eta, TEnd.eta, Minder.eta, Reg.eta, Wire.eta, Box.eta, Deed.eta, Bpdu.eta, Visit.eta, Fabric.eta, Got.eta, TRide.eta, Up.eta, Copy.eta, Bucket.eta, Snap.eta, TL9Cur.eta, TL21In.eta, enS_get _ hi, hi, wrap_succ (show i < 4611686018427387904 by omega), h1, h2, e, e2, b1, b2, g1, g2, g3, beq_self_eq_true, List.length_append, List.length_singleton, List.drop_succ_cons, List.drop_zero, List.length_cons, List.length_nil]
            exact step _ _ (by rw [g1]; rfl) (by rw [g1, hk, g2, g3]; simp)
          · simp only [enS_length, toNat_of, dec_lt, dec_ge, decide_true, decide_false, cond_true, cond_false, Bool.and_self, Bool.and_true, Bool.true_and, Bool.not_true, Bool.not_false, Nat.lt_irrefl, Nat.zero_add, isS_enS, deS_enS, isS_nil, deS_nil, List.nil_append, lendRows_enS, deepRows_enS, noSl_u8, En.enc, List.getD_cons_zero, List.getD_cons_succ, D.num, D.flag, D.text, D.rows, Leaf.fit, List.append_eq, TReader.eta, Frame.eta, Heard.eta, Member.eta, Card.eta, Out1.eta, Vec.eta, Port.eta, Bridge.eta, In.eta, Out.eta, Link.eta, Net.eta, TEnd.eta, Minder.eta, Reg.eta, Wire.eta, Box.eta, Deed.eta, Bpdu.eta, Visit.eta, Fabric.eta, Got.eta, TRide.eta, Up.eta, Copy.eta, Bucket.eta, Snap.eta, TL9Cur.eta, TL21In.eta, enS_get _ hi, hi, wrap_succ (show i < 4611686018427387904 by omega), h1, h2, e, e2, b1, b2, g1, g2, g3, beq_self_eq_true, List.length_append, List.length_singleton, List.drop_succ_cons, List.drop_zero, List.length_cons, List.length_nil]
            exact step _ _ (by rw [g1]; rfl) (by rw [g1, hk, g2, g3]; simp)
      · cases g2 : list[i].Addr == addr
        · simp only [enS_length, toNat_of, dec_lt, dec_ge, decide_true, decide_false, cond_true, cond_false, Bool.and_self, Bool.and_true, Bool.true_and, Bool.not_true, Bool.not_false, Nat.lt_irrefl, Nat.zero_add, isS_enS, deS_enS, isS_nil, deS_nil, List.nil_append, lendRows_enS, deepRows_enS, noSl_u8, En.enc, List.getD_cons_zero, List.getD_cons_succ, D.num, D.flag, D.text, D.rows, Leaf.fit, List.append_eq, TReader.eta, Frame.eta, Heard.eta, Member.eta, Card.eta, Out1.eta, Vec.eta, Port.eta, Bridge.eta, In.eta, Out.eta, Link.eta, Net.eta, TEnd.eta, Minder.eta, Reg.eta, Wire.eta, Box.eta, Deed.eta, Bpdu.eta, Visit.eta, Fabric.eta, Got.eta, TRide.eta, Up.eta, Copy.eta, Bucket.eta, Snap.eta, TL9Cur.eta, TL21In.eta, enS_get _ hi, hi, wrap_succ (show i < 4611686018427387904 by omega), h1, h2, e, e2, b1, b2, g1, g2, beq_self_eq_true, List.drop_succ_cons, List.drop_zero]
          exact step _ _ (by rw [g1]; rfl) (by rw [g1, hk, g2]; simp)
        · cases g3 : list[i].Vlan == vlan
          · simp only [enS_length, toNat_of, dec_lt, dec_ge, decide_true, decide_false, cond_true, cond_false, Bool.and_self, Bool.and_true, Bool.true_and, Bool.not_true, Bool.not_false, Nat.lt_irrefl, Nat.zero_add, isS_enS, deS_enS, isS_nil, deS_nil, List.nil_append, lendRows_enS, deepRows_enS, noSl_u8, En.enc, List.getD_cons_zero, List.getD_cons_succ, D.num, D.flag, D.text, D.rows, Leaf.fit, List.append_eq, TReader.eta, Frame.eta, Heard.eta, Member.eta, Card.eta, Out1.eta, Vec.eta, Port.eta, Bridge.eta, In.eta, Out.eta, Link.eta, Net.eta, TEnd.eta, Minder.eta, Reg.eta, Wire.eta, Box.eta, Deed.eta, Bpdu.eta, Visit.eta, Fabric.eta, Got.eta, TRide.eta, Up.eta, Copy.eta, Bucket.eta, Snap.eta, TL9Cur.eta, TL21In.eta, enS_get _ hi, hi, wrap_succ (show i < 4611686018427387904 by omega), h1, h2, e, e2, b1, b2, g1, g2, g3, beq_self_eq_true, List.drop_succ_cons, List.drop_zero]
            exact step _ _ (by rw [g1]; rfl) (by rw [g1, hk, g2, g3]; simp)
          · simp only [enS_length, toNat_of, dec_lt, dec_ge, decide_true, decide_false, cond_true, cond_false, Bool.and_self, Bool.and_true, Bool.true_and, Bool.not_true, Bool.not_false, Nat.lt_irrefl, Nat.zero_add, isS_enS, deS_enS, isS_nil, deS_nil, List.nil_append, lendRows_enS, deepRows_enS, noSl_u8, En.enc, List.getD_cons_zero, List.getD_cons_succ, D.num, D.flag, D.text, D.rows, Leaf.fit, List.append_eq, TReader.eta, Frame.eta, Heard.eta, Member.eta, Card.eta, Out1.eta, Vec.eta, Port.eta, Bridge.eta, In.eta, Out.eta, Link.eta, Net.eta, TEnd.eta, Minder.eta, Reg.eta, Wire.eta, Box.eta, Deed.eta, Bpdu.eta, Visit.eta, Fabric.eta, Got.eta, TRide.eta, Up.eta, Copy.eta, Bucket.eta, Snap.eta, TL9Cur.eta, TL21In.eta, enS_get _ hi, hi, wrap_succ (show i < 4611686018427387904 by omega), h1, h2, e, e2, b1, b2, g1, g2, g3, beq_self_eq_true, List.drop_succ_cons, List.drop_zero]
            exact step _ _ (by rw [g1]; rfl) (by rw [g1, hk, g2, g3]; simp)
    · cases g2 : list[i].Addr == addr
      · simp only [enS_length, toNat_of, dec_lt, dec_ge, decide_true, decide_false, cond_true, cond_false, Bool.and_self, Bool.and_true, Bool.true_and, Bool.not_true, Bool.not_false, Nat.lt_irrefl, Nat.zero_add, isS_enS, deS_enS, isS_nil, deS_nil, List.nil_append, lendRows_enS, deepRows_enS, noSl_u8, En.enc, List.getD_cons_zero, List.getD_cons_succ, D.num, D.flag, D.text, D.rows, Leaf.fit, List.append_eq, TReader.eta, Frame.eta, Heard.eta, Member.eta, Card.eta, Out1.eta, Vec.eta, Port.eta, Bridge.eta, In.eta, Out.eta, Link.eta, Net.eta, TEnd.eta, Minder.eta, Reg.eta, Wire.eta, Box.eta, Deed.eta, Bpdu.eta, Visit.eta, Fabric.eta, Got.eta, TRide.eta, Up.eta, Copy.eta, Bucket.eta, Snap.eta, TL9Cur.eta, TL21In.eta, enS_get _ hi, hi, wrap_succ (show i < 4611686018427387904 by omega), h1, h2, e, e2, b1, b2, g2, beq_self_eq_true, List.drop_succ_cons, List.drop_zero]
        exact step _ _ rfl (by rw [hk, g2]; simp)
      · cases g3 : list[i].Vlan == vlan
        · simp only [enS_length, toNat_of, dec_lt, dec_ge, decide_true, decide_false, cond_true, cond_false, Bool.and_self, Bool.and_true, Bool.true_and, Bool.not_true, Bool.not_false, Nat.lt_irrefl, Nat.zero_add, isS_enS, deS_enS, isS_nil, deS_nil, List.nil_append, lendRows_enS, deepRows_enS, noSl_u8, En.enc, List.getD_cons_zero, List.getD_cons_succ, D.num, D.flag, D.text, D.rows, Leaf.fit, List.append_eq, TReader.eta, Frame.eta, Heard.eta, Member.eta, Card.eta, Out1.eta, Vec.eta, Port.eta, Bridge.eta, In.eta, Out.eta, Link.eta, Net.eta, TEnd.eta, Minder.eta, Reg.eta, Wire.eta, Box.eta, Deed.eta, Bpdu.eta, Visit.eta, Fabric.eta, Got.eta, TRide.eta, Up.eta, Copy.eta, Bucket.eta, Snap.eta, TL9Cur.eta, TL21In.eta, enS_get _ hi, hi, wrap_succ (show i < 4611686018427387904 by omega), h1, h2, e, e2, b1, b2, g2, g3, beq_self_eq_true, List.drop_succ_cons, List.drop_zero]
          exact step _ _ rfl (by rw [hk, g2, g3]; simp)
        · simp only [enS_length, toNat_of, dec_lt, dec_ge, decide_true, decide_false, cond_true, cond_false, Bool.and_self, Bool.and_true, Bool.true_and, Bool.not_true, Bool.not_false, Nat.lt_irrefl, Nat.zero_add, isS_enS, deS_enS, isS_nil, deS_nil, List.nil_append, lendRows_enS, deepRows_enS, noSl_u8, En.enc, List.getD_cons_zero, List.getD_cons_succ, D.num, D.flag, D.text, D.rows, Leaf.fit, List.append_eq, TReader.eta, Frame.eta, Heard.eta, Member.eta, Card.eta, Out1.eta, Vec.eta, Port.eta, Bridge.eta, In.eta, Out.eta, Link.eta, Net.eta, TEnd.eta, Minder.eta, Reg.eta, Wire.eta, Box.eta, Deed.eta, Bpdu.eta, Visit.eta, Fabric.eta, Got.eta, TRide.eta, Up.eta, Copy.eta, Bucket.eta, Snap.eta, TL9Cur.eta, TL21In.eta, enS_get _ hi, hi, wrap_succ (show i < 4611686018427387904 by omega), h1, h2, e, e2, b1, b2, g2, g3, beq_self_eq_true, List.drop_succ_cons, List.drop_zero]
          exact step _ _ rfl (by rw [hk, g2, g3]; simp)
theorem s82 : SoundAt Go.Proofs.Try.prog Hx 82 c82 := soundAt_of T67_sound mixed func82 (by kernel_rfl) (by
  intro rows r h
  unfold c82 at h
  split at h
  · rename_i list addr vlan port
    obtain ⟨hp, hr⟩ := Prod.mk.inj (Option.some.inj h)
    subst hr
    simp only [Bool.and_eq_true] at hp
    obtain ⟨hs0, hp⟩ := hp
    obtain ⟨xs0, rfl⟩ := isS_ex hs0
    simp only [deS_enS] at hp ⊢
    exact ⟨_, m82 xs0 addr vlan port hp⟩
  · cases h)
def T82 : Table := (82, c82) :: T67
theorem T82_sound : Table.Sound Go.Proofs.Try.prog Hx T82 := Table.sound_cons s82 T67_sound
def o53 (u : Up) : Bool × List Row × List Row := (true, [[.bool (upOk u)]], [])
def c53 : Contract
  | [[.int .i64 u_Seq, .int .i64 u_Addr, .int .i64 u_Vlan, .int .i64 u_Port]] => some ((o53 ⟨u_Seq, u_Addr, u_Vlan, u_Port⟩).1, (o53 ⟨u_Seq, u_Addr, u_Vlan, u_Port⟩).2.1, (o53 ⟨u_Seq, u_Addr, u_Vlan, u_Port⟩).2.2)
  | _ => none

theorem r53 (u : Up) (n : Nat) : evFn ⟨prog, Hx, 53⟩ T82.call n f53 [[.int .i64 u.Seq, .int .i64 u.Addr, .int .i64 u.Vlan, .int .i64 u.Port]] = bif inR (Up.Seq u) (0) (100000) then bif inR (Up.Addr u) (1) (9) then bif inR (Up.Vlan u) (1) (4) then some ([[D.bool (isPortB (Up.Port u))]], []) else some ([[D.bool false]], []) else some ([[D.bool false]], []) else some ([[D.bool false]], []) := by kernel_rfl
theorem m53 (u : Up) (hpre : (o53 u).1 = true) : evFn ⟨Go.Proofs.Try.prog, Hx, 53⟩ T82.call 0 f53 [[.int .i64 u.Seq, .int .i64 u.Addr, .int .i64 u.Vlan, .int .i64 u.Port]] = some (o53 u).2 := by
  refine (r53 u _).trans ?_
  show _ = (some ([[.bool (upOk u)]], []) : Option (List Row × List Row))
  replace hpre : (true) = true := hpre
  unfold upOk isPortB
  simp only [cond_bool]
  apply bool_fin
  simp only [Bool.cond_eq_ite]
  grind
theorem s53 : SoundAt Go.Proofs.Try.prog Hx 53 c53 := soundAt_of T82_sound mixed func53 (by kernel_rfl) (by
  intro rows r h
  unfold c53 at h
  split at h
  · rename_i u_Seq u_Addr u_Vlan u_Port
    obtain ⟨hp, hr⟩ := Prod.mk.inj (Option.some.inj h)
    subst hr
    exact ⟨_, m53 ⟨u_Seq, u_Addr, u_Vlan, u_Port⟩ hp⟩
  · cases h)
def T53 : Table := (53, c53) :: T82
theorem T53_sound : Table.Sound Go.Proofs.Try.prog Hx T53 := Table.sound_cons s53 T82_sound
def o54 (u : Up) : Bool × List Row × List Row := (true, [[.bool (upOk u)]], [])
def c54 : Contract
  | [[.int .i64 u_Seq, .int .i64 u_Addr, .int .i64 u_Vlan, .int .i64 u_Port]] => some ((o54 ⟨u_Seq, u_Addr, u_Vlan, u_Port⟩).1, (o54 ⟨u_Seq, u_Addr, u_Vlan, u_Port⟩).2.1, (o54 ⟨u_Seq, u_Addr, u_Vlan, u_Port⟩).2.2)
  | _ => none

theorem r54 (u : Up) (n : Nat) : evFn ⟨prog, Hx, 54⟩ T53.call n f54 [[.int .i64 u.Seq, .int .i64 u.Addr, .int .i64 u.Vlan, .int .i64 u.Port]] = bif inR (Up.Seq u) (0) (100000) then bif inR (Up.Addr u) (1) (9) then bif inR (Up.Vlan u) (1) (4) then some ([[D.bool (inR (Up.Port u) (0) (3))]], []) else some ([[D.bool false]], []) else some ([[D.bool false]], []) else some ([[D.bool false]], []) := by kernel_rfl
theorem m54 (u : Up) (hpre : (o54 u).1 = true) : evFn ⟨Go.Proofs.Try.prog, Hx, 54⟩ T53.call 0 f54 [[.int .i64 u.Seq, .int .i64 u.Addr, .int .i64 u.Vlan, .int .i64 u.Port]] = some (o54 u).2 := by
  refine (r54 u _).trans ?_
  show _ = (some ([[.bool (upOk u)]], []) : Option (List Row × List Row))
  replace hpre : (true) = true := hpre
  unfold upOk
  simp only [cond_bool]
  apply bool_fin
  simp only [Bool.cond_eq_ite]
  grind
theorem s54 : SoundAt Go.Proofs.Try.prog Hx 54 c54 := soundAt_of T53_sound mixed func54 (by kernel_rfl) (by
  intro rows r h
  unfold c54 at h
  split at h
  · rename_i u_Seq u_Addr u_Vlan u_Port
    obtain ⟨hp, hr⟩ := Prod.mk.inj (Option.some.inj h)
    subst hr
    exact ⟨_, m54 ⟨u_Seq, u_Addr, u_Vlan, u_Port⟩ hp⟩
  · cases h)
def T54 : Table := (54, c54) :: T53
theorem T54_sound : Table.Sound Go.Proofs.Try.prog Hx T54 := Table.sound_cons s54 T53_sound
def o55 (c : Copy) : Bool × List Row × List Row := (decide (c.Table.length ≤ 1048576), [[.bool (copyOk c)]], [])
def c55 : Contract
  | [[.int .i64 c_Next, .sl false 4 c_Table]] => some (isS Heard false c_Table && (o55 ⟨c_Next, (deS Heard c_Table)⟩).1, (o55 ⟨c_Next, (deS Heard c_Table)⟩).2.1, (o55 ⟨c_Next, (deS Heard c_Table)⟩).2.2)
  | _ => none

theorem r55 (c : Copy) (n : Nat) : evFn ⟨prog, Hx, 55⟩ T54.call n f55 [[.int .i64 c.Next, .sl false 4 (enS false c.Table)]] = bif inR (Copy.Next c) (0) (100001) then bif isS Heard false (enS false (Copy.Table c)) && decide (length (deS Heard (enS false (Copy.Table c))) ≤ 2097152) then some ([[D.bool (tableOk (deS Heard (enS false (Copy.Table c))))]], []) else none else some ([[D.bool false]], []) := by kernel_rfl
theorem m55 (c : Copy) (hpre : (o55 c).1 = true) : evFn ⟨Go.Proofs.Try.prog, Hx, 55⟩ T54.call 0 f55 [[.int .i64 c.Next, .sl false 4 (enS false c.Table)]] = some (o55 c).2 := by
  refine (r55 c _).trans ?_
  show _ = (some ([[.bool (copyOk c)]], []) : Option (List Row × List Row))
  replace hpre : (decide (c.Table.length ≤ 1048576)) = true := hpre
  have hlen := of_decide_eq_true hpre
  have h1 : decide (c.Table.length ≤ 2097152) = true := decide_eq_true (by omega)
  unfold copyOk
  simp only [isS_enS, deS_enS, h1, Bool.and_self, cond_true]
  cases inR c.Next 0 100001 <;> rfl
theorem s55 : SoundAt Go.Proofs.Try.prog Hx 55 c55 := soundAt_of T54_sound mixed func55 (by kernel_rfl) (by
  intro rows r h
  unfold c55 at h
  split at h
  · rename_i c_Next c_Table
    obtain ⟨hp, hr⟩ := Prod.mk.inj (Option.some.inj h)
    subst hr
    simp only [Bool.and_eq_true] at hp
    obtain ⟨hs0, hp⟩ := hp
    obtain ⟨xs0, rfl⟩ := isS_ex hs0
    simp only [deS_enS] at hp ⊢
    exact ⟨_, m55 ⟨c_Next, xs0⟩ hp⟩
  · cases h)
def T55 : Table := (55, c55) :: T54
theorem T55_sound : Table.Sound Go.Proofs.Try.prog Hx T55 := Table.sound_cons s55 T54_sound
def o56 (c : Copy) : Bool × List Row × List Row := (decide (c.Table.length ≤ 1048576), [[.bool (copyOk c)]], [])
def c56 : Contract
  | [[.int .i64 c_Next, .sl false 4 c_Table]] => some (isS Heard false c_Table && (o56 ⟨c_Next, (deS Heard c_Table)⟩).1, (o56 ⟨c_Next, (deS Heard c_Table)⟩).2.1, (o56 ⟨c_Next, (deS Heard c_Table)⟩).2.2)
  | _ => none

theorem r56 (c : Copy) (n : Nat) : evFn ⟨prog, Hx, 56⟩ T55.call n f56 [[.int .i64 c.Next, .sl false 4 (enS false c.Table)]] = bif inR (Copy.Next c) (0) (100001) then bif isS Heard false (enS false (Copy.Table c)) && decide (length (deS Heard (enS false (Copy.Table c))) ≤ 2097152) then some ([[D.bool (tableOk (deS Heard (enS false (Copy.Table c))))]], []) else none else some ([[D.bool false]], []) := by kernel_rfl
theorem m56 (c : Copy) (hpre : (o56 c).1 = true) : evFn ⟨Go.Proofs.Try.prog, Hx, 56⟩ T55.call 0 f56 [[.int .i64 c.Next, .sl false 4 (enS false c.Table)]] = some (o56 c).2 := by
  refine (r56 c _).trans ?_
  show _ = (some ([[.bool (copyOk c)]], []) : Option (List Row × List Row))
  replace hpre : (decide (c.Table.length ≤ 1048576)) = true := hpre
  have hlen := of_decide_eq_true hpre
  have h1 : decide (c.Table.length ≤ 2097152) = true := decide_eq_true (by omega)
  unfold copyOk
  simp only [isS_enS, deS_enS, h1, Bool.and_self, cond_true]
  cases inR c.Next 0 100001 <;> rfl
theorem s56 : SoundAt Go.Proofs.Try.prog Hx 56 c56 := soundAt_of T55_sound mixed func56 (by kernel_rfl) (by
  intro rows r h
  unfold c56 at h
  split at h
  · rename_i c_Next c_Table
    obtain ⟨hp, hr⟩ := Prod.mk.inj (Option.some.inj h)
    subst hr
    simp only [Bool.and_eq_true] at hp
    obtain ⟨hs0, hp⟩ := hp
    obtain ⟨xs0, rfl⟩ := isS_ex hs0
    simp only [deS_enS] at hp ⊢
    exact ⟨_, m56 ⟨c_Next, xs0⟩ hp⟩
  · cases h)
def T56 : Table := (56, c56) :: T55
theorem T56_sound : Table.Sound Go.Proofs.Try.prog Hx T56 := Table.sound_cons s56 T55_sound
def o66 (c : Copy) : Bool × List Row × List Row := (decide (c.Table.length ≤ 1048576), [[.int .i64 (c).Next, .sl true 4 (enS true (c).Table)]], [])
def c66 : Contract
  | [[.int .i64 c_Next, .sl false 4 c_Table]] => some (isS Heard false c_Table && (o66 ⟨c_Next, (deS Heard c_Table)⟩).1, (o66 ⟨c_Next, (deS Heard c_Table)⟩).2.1, (o66 ⟨c_Next, (deS Heard c_Table)⟩).2.2)
  | _ => none

theorem r66 (c : Copy) (n : Nat) : evFn ⟨prog, Hx, 66⟩ T56.call n f66 [[.int .i64 c.Next, .sl false 4 (enS false c.Table)]] = bif isS Heard false (enS false (Copy.Table c)) && decide (length (deS Heard (enS false (Copy.Table c))) ≤ 4194304) then some ([[D.int i64 (Copy.Next c), D.sl true 4 (enS true (deS Heard (enS false (Copy.Table c))))]], []) else none := by kernel_rfl
theorem m66 (c : Copy) (hpre : (o66 c).1 = true) : evFn ⟨Go.Proofs.Try.prog, Hx, 66⟩ T56.call 0 f66 [[.int .i64 c.Next, .sl false 4 (enS false c.Table)]] = some (o66 c).2 := by
  refine (r66 c _).trans ?_
  show _ = (some ([[.int .i64 (c).Next, .sl true 4 (enS true (c).Table)]], []) : Option (List Row × List Row))
  replace hpre : (decide (c.Table.length ≤ 1048576)) = true := hpre
  have hlen := of_decide_eq_true hpre
  have h1 : decide (c.Table.length ≤ 4194304) = true := decide_eq_true (by omega)
  simp only [isS_enS, deS_enS, h1, Bool.and_self, cond_true]
theorem s66 : SoundAt Go.Proofs.Try.prog Hx 66 c66 := soundAt_of T56_sound mixed func66 (by kernel_rfl) (by
  intro rows r h
  unfold c66 at h
  split at h
  · rename_i c_Next c_Table
    obtain ⟨hp, hr⟩ := Prod.mk.inj (Option.some.inj h)
    subst hr
    simp only [Bool.and_eq_true] at hp
    obtain ⟨hs0, hp⟩ := hp
    obtain ⟨xs0, rfl⟩ := isS_ex hs0
    simp only [deS_enS] at hp ⊢
    exact ⟨_, m66 ⟨c_Next, xs0⟩ hp⟩
  · cases h)
def T66 : Table := (66, c66) :: T56
theorem T66_sound : Table.Sound Go.Proofs.Try.prog Hx T66 := Table.sound_cons s66 T56_sound
def o81 (c : Copy) : Bool × List Row × List Row := (decide (c.Table.length ≤ 1048576), [[.int .i64 (c).Next, .sl true 4 (enS true (c).Table)]], [])
def c81 : Contract
  | [[.int .i64 c_Next, .sl false 4 c_Table]] => some (isS Heard false c_Table && (o81 ⟨c_Next, (deS Heard c_Table)⟩).1, (o81 ⟨c_Next, (deS Heard c_Table)⟩).2.1, (o81 ⟨c_Next, (deS Heard c_Table)⟩).2.2)
  | _ => none

theorem r81 (c : Copy) (n : Nat) : evFn ⟨prog, Hx, 81⟩ T66.call n f81 [[.int .i64 c.Next, .sl false 4 (enS false c.Table)]] = bif decide ((0 + length (enS false (Copy.Table c))) * 32 ≤ 140737488355328) then some ([[D.int i64 (Copy.Next c), D.sl true 4 (enS false (Copy.Table c))]], []) else none := by kernel_rfl
theorem m81 (c : Copy) (hpre : (o81 c).1 = true) : evFn ⟨Go.Proofs.Try.prog, Hx, 81⟩ T66.call 0 f81 [[.int .i64 c.Next, .sl false 4 (enS false c.Table)]] = some (o81 c).2 := by
  refine (r81 c _).trans ?_
  show _ = (some ([[.int .i64 (c).Next, .sl true 4 (enS true (c).Table)]], []) : Option (List Row × List Row))
  replace hpre : (decide (c.Table.length ≤ 1048576)) = true := hpre
  have hlen := of_decide_eq_true hpre
  have h1 : decide ((0 + c.Table.length) * 32 ≤ 140737488355328) = true := decide_eq_true (by omega)
  simp only [enS_length, h1, cond_true]
  rfl
theorem s81 : SoundAt Go.Proofs.Try.prog Hx 81 c81 := soundAt_of T66_sound mixed func81 (by kernel_rfl) (by
  intro rows r h
  unfold c81 at h
  split at h
  · rename_i c_Next c_Table
    obtain ⟨hp, hr⟩ := Prod.mk.inj (Option.some.inj h)
    subst hr
    simp only [Bool.and_eq_true] at hp
    obtain ⟨hs0, hp⟩ := hp
    obtain ⟨xs0, rfl⟩ := isS_ex hs0
    simp only [deS_enS] at hp ⊢
    exact ⟨_, m81 ⟨c_Next, xs0⟩ hp⟩
  · cases h)
def T81 : Table := (81, c81) :: T66
theorem T81_sound : Table.Sound Go.Proofs.Try.prog Hx T81 := Table.sound_cons s81 T66_sound
def o25 (c : Copy) (u : Up) : Bool × List Row × List Row := (decide (c.Table.length ≤ 1048576), [[.int .i64 ((feedM c u).1).Next, .sl true 4 (enS true ((feedM c u).1).Table)], [.bool ((feedM c u).2)]], [])
def c25 : Contract
  | [[.int .i64 c_Next, .sl false 4 c_Table], [.int .i64 u_Seq, .int .i64 u_Addr, .int .i64 u_Vlan, .int .i64 u_Port]] => some (isS Heard false c_Table && (o25 ⟨c_Next, (deS Heard c_Table)⟩ ⟨u_Seq, u_Addr, u_Vlan, u_Port⟩).1, (o25 ⟨c_Next, (deS Heard c_Table)⟩ ⟨u_Seq, u_Addr, u_Vlan, u_Port⟩).2.1, (o25 ⟨c_Next, (deS Heard c_Table)⟩ ⟨u_Seq, u_Addr, u_Vlan, u_Port⟩).2.2)
  | _ => none

theorem r25 (c : Copy) (u : Up) (n : Nat) : evFn ⟨prog, Hx, 25⟩ T81.call n f25 [[.int .i64 c.Next, .sl false 4 (enS false c.Table)], [.int .i64 u.Seq, .int .i64 u.Addr, .int .i64 u.Vlan, .int .i64 u.Port]] = bif Up.Seq u != Copy.Next c then bif isS Heard false (enS false (Copy.Table c)) && decide (length (deS Heard (enS false (Copy.Table c))) ≤ 1048576) then some ([[D.int i64 (Copy.Next c), D.sl true 4 (enS true (deS Heard (enS false (Copy.Table c))))], [D.bool false]], []) else none else bif !upOk u then bif isS Heard false (enS false (Copy.Table c)) && decide (length (deS Heard (enS false (Copy.Table c))) ≤ 1048576) then some ([[D.int i64 (Copy.Next c), D.sl true 4 (enS true (deS Heard (enS false (Copy.Table c))))], [D.bool false]], []) else none else bif isS Heard false (enS false (Copy.Table c)) && decide (length (deS Heard (enS false (Copy.Table c))) ≤ 1048576) then bif !copyOk (Copy.mk (Copy.Next c) (deS Heard (enS false (Copy.Table c)))) then bif isS Heard false (enS false (Copy.Table c)) && decide (length (deS Heard (enS false (Copy.Table c))) ≤ 1048576) then some ([[D.int i64 (Copy.Next c), D.sl true 4 (enS true (deS Heard (enS false (Copy.Table c))))], [D.bool false]], []) else none else bif isS Heard false (enS false (Copy.Table c)) && decide (length (deS Heard (enS false (Copy.Table c))) ≤ 1048576) then some ([[D.int i64 (wrap i64 (Copy.Next c + 1)), D.sl true 4 (enS true (hearL (deS Heard (enS false (Copy.Table c))) (Up.Addr u) (Up.Vlan u) (Up.Port u)))], [D.bool true]], []) else none else none := by kernel_rfl
theorem m25 (c : Copy) (u : Up) (hpre : (o25 c u).1 = true) : evFn ⟨Go.Proofs.Try.prog, Hx, 25⟩ T81.call 0 f25 [[.int .i64 c.Next, .sl false 4 (enS false c.Table)], [.int .i64 u.Seq, .int .i64 u.Addr, .int .i64 u.Vlan, .int .i64 u.Port]] = some (o25 c u).2 := by
  refine (r25 c u _).trans ?_
  show _ = (some ([[.int .i64 ((feedM c u).1).Next, .sl true 4 (enS true ((feedM c u).1).Table)], [.bool ((feedM c u).2)]], []) : Option (List Row × List Row))
  replace hpre : (decide (c.Table.length ≤ 1048576)) = true := hpre
  have hlen := of_decide_eq_true hpre
  simp only [isS_enS, deS_enS, hpre, Bool.and_self, cond_true, Copy.eta]
  unfold feedM
  have hb : (u.Seq != c.Next) = !(u.Seq == c.Next) := rfl
  rw [hb]
  cases h1 : copyOk c <;> cases h2 : upOk u <;> cases h3 : u.Seq == c.Next <;> simp only [h1, h2, h3, Bool.not_true, Bool.not_false, Bool.and_self, Bool.and_true, Bool.and_false, cond_true, cond_false]
  have hn : inR c.Next 0 100001 = true := by unfold copyOk at h1; exact (Bool.and_eq_true _ _ ▸ h1).1
  have hw : IntKind.wrap IntKind.i64 (c.Next + 1) = c.Next + 1 := by
    unfold inR at hn
    simp only [Bool.and_eq_true, decide_eq_true_eq] at hn
    exact wrap_of (by omega) (by omega)
  rw [hw]
theorem s25 : SoundAt Go.Proofs.Try.prog Hx 25 c25 := soundAt_of T81_sound mixed func25 (by kernel_rfl) (by
  intro rows r h
  unfold c25 at h
  split at h
  · rename_i c_Next c_Table u_Seq u_Addr u_Vlan u_Port
    obtain ⟨hp, hr⟩ := Prod.mk.inj (Option.some.inj h)
    subst hr
    simp only [Bool.and_eq_true] at hp
    obtain ⟨hs0, hp⟩ := hp
    obtain ⟨xs0, rfl⟩ := isS_ex hs0
    simp only [deS_enS] at hp ⊢
    exact ⟨_, m25 ⟨c_Next, xs0⟩ ⟨u_Seq, u_Addr, u_Vlan, u_Port⟩ hp⟩
  · cases h)
def T25 : Table := (25, c25) :: T81
theorem T25_sound : Table.Sound Go.Proofs.Try.prog Hx T25 := Table.sound_cons s25 T81_sound
def o45 (c : Copy) (u : Up) : Bool × List Row × List Row := (decide (c.Table.length ≤ 1048576), [[.int .i64 ((feedM c u).1).Next, .sl true 4 (enS true ((feedM c u).1).Table)], [.bool ((feedM c u).2)]], [])
def c45 : Contract
  | [[.int .i64 c_Next, .sl false 4 c_Table], [.int .i64 u_Seq, .int .i64 u_Addr, .int .i64 u_Vlan, .int .i64 u_Port]] => some (isS Heard false c_Table && (o45 ⟨c_Next, (deS Heard c_Table)⟩ ⟨u_Seq, u_Addr, u_Vlan, u_Port⟩).1, (o45 ⟨c_Next, (deS Heard c_Table)⟩ ⟨u_Seq, u_Addr, u_Vlan, u_Port⟩).2.1, (o45 ⟨c_Next, (deS Heard c_Table)⟩ ⟨u_Seq, u_Addr, u_Vlan, u_Port⟩).2.2)
  | _ => none

theorem r45 (c : Copy) (u : Up) (n : Nat) : evFn ⟨prog, Hx, 45⟩ T25.call n f45 [[.int .i64 c.Next, .sl false 4 (enS false c.Table)], [.int .i64 u.Seq, .int .i64 u.Addr, .int .i64 u.Vlan, .int .i64 u.Port]] = bif isS Heard false (enS false (Copy.Table c)) && decide (length (deS Heard (enS false (Copy.Table c))) ≤ 1048576) then bif !copyOk (Copy.mk (Copy.Next c) (deS Heard (enS false (Copy.Table c)))) then bif isS Heard false (enS false (Copy.Table c)) && decide (length (deS Heard (enS false (Copy.Table c))) ≤ 1048576) then some ([[D.int i64 (Copy.Next c), D.sl true 4 (enS true (deS Heard (enS false (Copy.Table c))))], [D.bool false]], []) else none else bif !upOk u then bif isS Heard false (enS false (Copy.Table c)) && decide (length (deS Heard (enS false (Copy.Table c))) ≤ 1048576) then some ([[D.int i64 (Copy.Next c), D.sl true 4 (enS true (deS Heard (enS false (Copy.Table c))))], [D.bool false]], []) else none else bif Up.Seq u != Copy.Next c then bif isS Heard false (enS false (Copy.Table c)) && decide (length (deS Heard (enS false (Copy.Table c))) ≤ 1048576) then some ([[D.int i64 (Copy.Next c), D.sl true 4 (enS true (deS Heard (enS false (Copy.Table c))))], [D.bool false]], []) else none else bif isS Heard false (enS false (Copy.Table c)) && decide (length (deS Heard (enS false (Copy.Table c))) ≤ 1048576) then some ([[D.int i64 (wrap i64 (Copy.Next c + 1)), D.sl true 4 (enS true (hearL (deS Heard (enS false (Copy.Table c))) (Up.Addr u) (Up.Vlan u) (Up.Port u)))], [D.bool true]], []) else none else none := by kernel_rfl
theorem m45 (c : Copy) (u : Up) (hpre : (o45 c u).1 = true) : evFn ⟨Go.Proofs.Try.prog, Hx, 45⟩ T25.call 0 f45 [[.int .i64 c.Next, .sl false 4 (enS false c.Table)], [.int .i64 u.Seq, .int .i64 u.Addr, .int .i64 u.Vlan, .int .i64 u.Port]] = some (o45 c u).2 := by
  refine (r45 c u _).trans ?_
  show _ = (some ([[.int .i64 ((feedM c u).1).Next, .sl true 4 (enS true ((feedM c u).1).Table)], [.bool ((feedM c u).2)]], []) : Option (List Row × List Row))
  replace hpre : (decide (c.Table.length ≤ 1048576)) = true := hpre
  have hlen := of_decide_eq_true hpre
  simp only [isS_enS, deS_enS, hpre, Bool.and_self, cond_true, Copy.eta]
  unfold feedM
  have hb : (u.Seq != c.Next) = !(u.Seq == c.Next) := rfl
  rw [hb]
  cases h1 : copyOk c <;> cases h2 : upOk u <;> cases h3 : u.Seq == c.Next <;> simp only [h1, h2, h3, Bool.not_true, Bool.not_false, Bool.and_self, Bool.and_true, Bool.and_false, cond_true, cond_false]
  have hn : inR c.Next 0 100001 = true := by unfold copyOk at h1; exact (Bool.and_eq_true _ _ ▸ h1).1
  have hw : IntKind.wrap IntKind.i64 (c.Next + 1) = c.Next + 1 := by
    unfold inR at hn
    simp only [Bool.and_eq_true, decide_eq_true_eq] at hn
    exact wrap_of (by omega) (by omega)
  rw [hw]
theorem s45 : SoundAt Go.Proofs.Try.prog Hx 45 c45 := soundAt_of T25_sound mixed func45 (by kernel_rfl) (by
  intro rows r h
  unfold c45 at h
  split at h
  · rename_i c_Next c_Table u_Seq u_Addr u_Vlan u_Port
    obtain ⟨hp, hr⟩ := Prod.mk.inj (Option.some.inj h)
    subst hr
    simp only [Bool.and_eq_true] at hp
    obtain ⟨hs0, hp⟩ := hp
    obtain ⟨xs0, rfl⟩ := isS_ex hs0
    simp only [deS_enS] at hp ⊢
    exact ⟨_, m45 ⟨c_Next, xs0⟩ ⟨u_Seq, u_Addr, u_Vlan, u_Port⟩ hp⟩
  · cases h)
def T45 : Table := (45, c45) :: T25
theorem T45_sound : Table.Sound Go.Proofs.Try.prog Hx T45 := Table.sound_cons s45 T25_sound
end Go.Ev
end
