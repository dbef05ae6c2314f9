/- Contracts of functions, each by its evaluation. -/
import Derived.Test.YtgklglkmfgfodaaEvMd
import Derived.Test.YtgklglkmfgfodaaProg
import Derived.KernelRfl
import Derived.Test.YtgklglkmfgfodaaFSame
set_option linter.unusedVariables false
set_option linter.unusedSimpArgs false
set_option maxRecDepth 100000
noncomputable section
open List (getD length drop take set append replicate all isEmpty)
open Int (toNat ofNat)
open Go.IntKind (i64 wrap)
open Go.Proofs.Try (prog f4 func4)
namespace Go.Ev
open Go.RowKit Go.Md
end Go.Ev
namespace Go.Md
open Go Go.Ev
theorem lacks_none (n : Int) : lacks n n = [] := by
  unfold lacks
  show (bif decide (n < n) then _ else []) = []
  rw [decide_eq_false (Int.lt_irrefl n)]
  rfl
theorem upE (x : Up) : En.enc true x = [D.int .i64 x.Seq, D.int .i64 x.Addr, D.int .i64 x.Vlan, D.int .i64 x.Port] := rfl
theorem rev_next {α : Type} {T : List α} {k : Nat} (hk : k < T.length) (hj : T.length - 1 - k < T.length) : T.reverse.take k ++ [T[T.length - 1 - k]] = T.reverse.take (k + 1) := by
  have hk' : k < T.reverse.length := by rw [List.length_reverse]; exact hk
  rw [List.take_add_one, List.getElem?_eq_getElem hk']
  congr 1
  rw [List.getElem_reverse]
  rfl
end Go.Md
namespace Go.Ev
open Go.Md
def o4 (code : List UInt8) : Bool × List Row × List Row := (decide (code.length ≤ 9223372036854775807), [[.bool (true)]], [])
def c4 : Contract
  | [[.sl false 1 code]] => some (isS UInt8 false code && (o4 (deS UInt8 code)).1, (o4 (deS UInt8 code)).2.1, (o4 (deS UInt8 code)).2.2)
  | _ => none

def k4_0 (n : Nat) : Ex → St → RR := kThen (fun st ↦ runCode (Ctx.mk prog Hx (4)) (Table.call T51) n (codeAt [1, 1, 1, 1, 1] (bodyOf f4)) (Lv.mk 4 [] 4) st (kLeave (Ctx.P (Ctx.mk prog Hx (4))) (List.zip (Array.toList (Go.Func.resultTypes f4)) (Array.toList (Go.Func.results f4))) [] [])) (kLeave (Ctx.P (Ctx.mk prog Hx (4))) (List.zip (Array.toList (Go.Func.resultTypes f4)) (Array.toList (Go.Func.results f4))) [] [])
def k4_1 (n : Nat) : Ex → St → RR := kBlock (0) (k4_0 n)
def S4_0 (code : List UInt8) (i0 : Int) (es1 : List (List D)) : St := St.mk [U_, U_, U_, V_ [C.view 0 0 0 [] 4 none], I_ (v1_DrawTold2 (deS UInt8 (enS false code))), V_ [C.view 2 0 0 [] 4 none], I_ i0, U_, U_, U_, U_, U_, U_, U_, U_, U_, U_, U_, U_, U_, U_, U_, U_, U_, U_, U_, U_, U_, U_, U_, U_, U_, U_, U_, U_, U_, U_, U_, U_, U_, U_, U_, U_, U_, U_, U_, U_, U_, U_, U_, U_, U_, U_, U_, U_, U_, U_, U_, U_, U_, U_, U_, U_, U_, U_, U_, U_, U_, U_, U_, U_, U_, U_, U_, U_, U_, U_, U_, U_, U_, U_, U_, U_, U_, U_, U_, U_, U_, U_, U_, U_, U_, U_, U_, U_, U_, U_, U_, U_, U_, U_, U_, U_, U_, U_] [Root.mk false 4 (enS true (v0_DrawTold2 (deS UInt8 (enS false code)))) 0 0 true true false, Root.mk false 4 [] 0 0 false true false, Root.mk false 4 es1 0 0 true true false]
def B4_0 (n : Nat) : St → (Ex → St → RR) → RR := runCode (Ctx.mk prog Hx (4)) (Table.call T51) n (codeAt [1, 1, 1, 1, 0, 1, 0, 0] (bodyOf f4)) (Lv.mk 120 [(0, 56)] 4)
def X4_2 (code : List UInt8) (i0 : Int) (es1 : List (List D)) : St := St.mk [U_, U_, U_, V_ [C.view 0 0 0 [] 4 none], I_ (v1_DrawTold2 (deS UInt8 (enS false code))), V_ [C.view 2 0 0 [] 4 none], I_ i0, U_, U_, U_, U_, U_, U_, U_, U_, U_, U_, U_, U_, U_, U_, U_, U_, I_ i0, B_ false, U_, U_, U_, U_, U_, U_, U_, U_, U_, U_, U_, U_, U_, U_, U_, U_, U_, U_, U_, U_, U_, U_, U_, U_, U_, U_, U_, U_, U_, U_, U_, U_, U_, U_, U_, U_, U_, U_, U_, U_, U_, U_, U_, U_, U_, U_, U_, U_, U_, U_, U_, U_, U_, U_, U_, U_, U_, U_, U_, U_, U_, U_, U_, U_, U_, U_, U_, U_, U_, U_, U_, U_, U_, U_, U_, U_, U_, U_, U_, U_] [Root.mk false 4 (enS true (v0_DrawTold2 (deS UInt8 (enS false code)))) 0 0 true true false, Root.mk false 4 [] 0 0 false true false, Root.mk false 4 es1 0 0 true true false]
theorem q4_0 (code : List UInt8) (n : Nat) (i0 : Int) (es1 : List (List D)) (f : St → RR) (K : Ex → St → RR) : B4_0 n (S4_0 code i0 es1) (kThen (fun st ↦ f (St.head 2 120 17171480672 st)) K) = bif decide (i0 ≥ 0) then bif decide (0 ≤ i0) && decide (i0 < ofNat (length (enS true (v0_DrawTold2 (deS UInt8 (enS false code)))))) then bif Leaf.fit true (Leaf.int i64) (getD (getD (enS true (v0_DrawTold2 (deS UInt8 (enS false code)))) (0 + toNat i0) []) 0 D.dead) && (Leaf.fit true (Leaf.int i64) (getD (getD (enS true (v0_DrawTold2 (deS UInt8 (enS false code)))) (0 + toNat i0) []) 1 D.dead) && (Leaf.fit true (Leaf.int i64) (getD (getD (enS true (v0_DrawTold2 (deS UInt8 (enS false code)))) (0 + toNat i0) []) 2 D.dead) && (Leaf.fit true (Leaf.int i64) (getD (getD (enS true (v0_DrawTold2 (deS UInt8 (enS false code)))) (0 + toNat i0) []) 3 D.dead) && true))) then bif decide ((length es1 + 1) * 32 ≤ 140737488355328) then f (S4_0 code (wrap i64 (i0 - 1)) (append es1 [[D.int i64 (D.num (getD (getD (enS true (v0_DrawTold2 (deS UInt8 (enS false code)))) (0 + toNat i0) []) 0 D.dead)), D.int i64 (D.num (getD (getD (enS true (v0_DrawTold2 (deS UInt8 (enS false code)))) (0 + toNat i0) []) 1 D.dead)), D.int i64 (D.num (getD (getD (enS true (v0_DrawTold2 (deS UInt8 (enS false code)))) (0 + toNat i0) []) 2 D.dead)), D.int i64 (D.num (getD (getD (enS true (v0_DrawTold2 (deS UInt8 (enS false code)))) (0 + toNat i0) []) 3 D.dead))]])) else none else none else none else K (Ex.exit 0) (X4_2 code i0 es1) := by kernel_rfl
def k4_3 (n : Nat) : Ex → St → RR := kThen (fun st ↦ runCode (Ctx.mk prog Hx (4)) (Table.call T51) n (codeAt [1, 1, 1, 1, 1, 1, 1, 1, 1] (bodyOf f4)) (Lv.mk 4 [] 4) st (kLeave (Ctx.P (Ctx.mk prog Hx (4))) (List.zip (Array.toList (Go.Func.resultTypes f4)) (Array.toList (Go.Func.results f4))) [] [])) (kLeave (Ctx.P (Ctx.mk prog Hx (4))) (List.zip (Array.toList (Go.Func.resultTypes f4)) (Array.toList (Go.Func.results f4))) [] [])
def k4_4 (n : Nat) : Ex → St → RR := kBlock (2) (k4_3 n)
def S4_1 (code : List UInt8) (es1 : List (List D)) (i0_ : Int) (i1 : Int) (es2 : List (List D)) : St := St.mk [U_, U_, U_, V_ [C.view 0 0 0 [] 4 none], I_ (v1_DrawTold2 (deS UInt8 (enS false code))), U_, U_, V_ [C.ptr 4 0 0 [] 2 0 0], V_ [C.ptr 6 0 0 [] 2 0 0], V_ [C.ptr 7 0 0 [] 2 0 0], I_ i0_, U_, U_, U_, U_, U_, U_, U_, U_, U_, U_, U_, U_, U_, U_, U_, U_, U_, U_, U_, U_, U_, U_, U_, U_, U_, U_, U_, U_, U_, U_, U_, U_, U_, U_, U_, U_, U_, U_, U_, U_, U_, U_, U_, U_, U_, U_, U_, U_, U_, U_, U_, U_, U_, U_, U_, U_, U_, U_, U_, U_, U_, U_, U_, U_, U_, U_, U_, U_, U_, U_, U_, U_, U_, U_, U_, U_, U_, U_, U_, U_, U_, U_, U_, U_, U_, U_, U_, U_, U_, U_, U_, U_, U_, U_] [Root.mk false 4 (enS true (v0_DrawTold2 (deS UInt8 (enS false code)))) 0 0 true true false, Root.mk false 4 [] 0 0 false true false, Root.mk false 4 es1 0 0 true true false, Root.mk false 4 (enS true (Copy.Table (faW (deS Up (lendRows (enS true (v0_DrawTold2 (deS UInt8 (enS false code)))))) (Copy.mk (0) (deS Heard []))))) 0 0 false true false, Root.mk true 2 [En.enc true (faW (deS Up (lendRows (enS true (v0_DrawTold2 (deS UInt8 (enS false code)))))) (Copy.mk (0) (deS Heard [])))] 0 0 true true false, Root.mk false 4 (enS true (Copy.Table (faW (deS Up (lendRows es1)) (Copy.mk (0) (deS Heard []))))) 0 0 false true false, Root.mk true 2 [En.enc true (faW (deS Up (lendRows es1)) (Copy.mk (0) (deS Heard [])))] 0 0 true true false, Root.mk true 2 [[D.int i64 i1, D.sl true 4 es2]] 0 0 true true false]
def B4_1 (n : Nat) : St → (Ex → St → RR) → RR := runCode (Ctx.mk prog Hx (4)) (Table.call T51) n (codeAt [1, 1, 1, 1, 1, 1, 1, 1, 0, 1, 0, 0] (bodyOf f4)) (Lv.mk 1944 [(2, 912)] 4)
def k4_5 (f : St → RR) (K : Ex → St → RR) : Ex → St → RR := kThen (fun st ↦ f (St.head 8 1944 18889465929279557602304 st)) K
def k4_6 (n : Nat) (f : St → RR) (K : Ex → St → RR) : Ex → St → RR := kThen (fun st ↦ runCode (Ctx.mk prog Hx (4)) (Table.call T51) n (codeAt [1, 1, 1, 1, 1, 1, 1, 1, 0, 1, 0, 0, 1, 1] (bodyOf f4)) (Lv.mk 1944 [(2, 912)] 4) st (k4_5 f K)) (k4_5 f K)
def k4_7 (n : Nat) (f : St → RR) (K : Ex → St → RR) : Ex → St → RR := kBlock (3) (k4_6 n f K)
def k4_8 (n : Nat) (f : St → RR) (K : Ex → St → RR) : Ex → St → RR := kBlock (4) (k4_7 n f K)
def S4_2 (code : List UInt8) (es1 : List (List D)) (i0_ : Int) (i0__ : Int) (i1_ : Int) (es2_ : List (List D)) : St := St.mk [U_, U_, U_, V_ [C.view 0 0 0 [] 4 none], I_ (v1_DrawTold2 (deS UInt8 (enS false code))), U_, U_, V_ [C.ptr 4 0 0 [] 2 0 0], V_ [C.ptr 6 0 0 [] 2 0 0], V_ [C.ptr 7 0 0 [] 2 0 0], I_ i0_, I_ i0__, U_, U_, U_, U_, U_, U_, U_, U_, U_, U_, U_, U_, U_, U_, U_, U_, U_, U_, U_, U_, U_, U_, U_, U_, U_, U_, U_, U_, U_, U_, U_, U_, U_, U_, U_, U_, U_, U_, U_, U_, U_, U_, U_, U_, U_, U_, U_, U_, U_, U_, U_, U_, U_, U_, U_, U_, U_, U_, U_, U_, U_, U_, U_, U_, U_, U_, U_, U_, U_, U_, U_, U_, U_, U_, U_, U_, U_, U_, U_, U_, U_, U_, U_, U_, U_, U_, U_, U_, U_, U_, U_, U_, U_] [Root.mk false 4 (enS true (v0_DrawTold2 (deS UInt8 (enS false code)))) 0 0 true true false, Root.mk false 4 [] 0 0 false true false, Root.mk false 4 es1 0 0 true true false, Root.mk false 4 (enS true (Copy.Table (faW (deS Up (lendRows (enS true (v0_DrawTold2 (deS UInt8 (enS false code)))))) (Copy.mk (0) (deS Heard []))))) 0 0 false true false, Root.mk true 2 [En.enc true (faW (deS Up (lendRows (enS true (v0_DrawTold2 (deS UInt8 (enS false code)))))) (Copy.mk (0) (deS Heard [])))] 0 0 true true false, Root.mk false 4 (enS true (Copy.Table (faW (deS Up (lendRows es1)) (Copy.mk (0) (deS Heard []))))) 0 0 false true false, Root.mk true 2 [En.enc true (faW (deS Up (lendRows es1)) (Copy.mk (0) (deS Heard [])))] 0 0 true true false, Root.mk true 2 [[D.int i64 i1_, D.sl true 4 es2_]] 0 0 true true false]
def B4_2 (n : Nat) : St → (Ex → St → RR) → RR := runCode (Ctx.mk prog Hx (4)) (Table.call T51) n (codeAt [1, 1, 1, 1, 1, 1, 1, 1, 0, 1, 0, 0, 1, 0, 0, 1, 0, 0] (bodyOf f4)) (Lv.mk 3992 [(4, 1944), (3, 1944), (2, 912)] 4)
def X4_9 (code : List UInt8) (es1 : List (List D)) (i0_ : Int) (i0__ : Int) (i1_ : Int) (es2_ : List (List D)) : St := St.mk [U_, U_, U_, V_ [C.view 0 0 0 [] 4 none], I_ (v1_DrawTold2 (deS UInt8 (enS false code))), U_, U_, V_ [C.ptr 4 0 0 [] 2 0 0], V_ [C.ptr 6 0 0 [] 2 0 0], V_ [C.ptr 7 0 0 [] 2 0 0], I_ i0_, I_ i0__, U_, U_, U_, U_, U_, U_, U_, U_, U_, U_, U_, U_, U_, U_, U_, U_, U_, U_, U_, U_, U_, U_, U_, U_, U_, U_, U_, U_, U_, U_, U_, U_, U_, U_, I_ i0__, V_ [C.view 0 0 0 [] 4 none], I_ (ofNat (length (enS true (v0_DrawTold2 (deS UInt8 (enS false code)))))), B_ false, U_, U_, U_, U_, U_, U_, U_, U_, U_, U_, U_, U_, U_, U_, U_, U_, U_, U_, U_, U_, U_, U_, U_, U_, U_, U_, U_, U_, U_, U_, U_, U_, U_, U_, U_, U_, U_, U_, U_, U_, U_, U_, U_, U_, U_, U_, U_, U_, U_, U_, U_, U_, U_, U_, U_] [Root.mk false 4 (enS true (v0_DrawTold2 (deS UInt8 (enS false code)))) 0 0 true true false, Root.mk false 4 [] 0 0 false true false, Root.mk false 4 es1 0 0 true true false, Root.mk false 4 (enS true (Copy.Table (faW (deS Up (lendRows (enS true (v0_DrawTold2 (deS UInt8 (enS false code)))))) (Copy.mk (0) (deS Heard []))))) 0 0 false true false, Root.mk true 2 [En.enc true (faW (deS Up (lendRows (enS true (v0_DrawTold2 (deS UInt8 (enS false code)))))) (Copy.mk (0) (deS Heard [])))] 0 0 true true false, Root.mk false 4 (enS true (Copy.Table (faW (deS Up (lendRows es1)) (Copy.mk (0) (deS Heard []))))) 0 0 false true false, Root.mk true 2 [En.enc true (faW (deS Up (lendRows es1)) (Copy.mk (0) (deS Heard [])))] 0 0 true true false, Root.mk true 2 [[D.int i64 i1_, D.sl true 4 es2_]] 0 0 true true false]
theorem q4_2 (code : List UInt8) (n : Nat) (es1 : List (List D)) (i0_ : Int) (i0__ : Int) (i1_ : Int) (es2_ : List (List D)) (f_ : St → RR) (K_ : Ex → St → RR) : B4_2 n (S4_2 code es1 i0_ i0__ i1_ es2_) (kThen (fun st ↦ f_ (St.head 8 3992 18889465861109836679168 st)) K_) = bif decide (i0__ < ofNat (length (enS true (v0_DrawTold2 (deS UInt8 (enS false code)))))) then bif decide (0 ≤ i0__) && decide (i0__ < ofNat (length (enS true (v0_DrawTold2 (deS UInt8 (enS false code)))))) then bif Leaf.fit true (Leaf.int i64) (getD (getD (enS true (v0_DrawTold2 (deS UInt8 (enS false code)))) (0 + toNat i0__) []) 0 D.dead) && true then bif D.num (getD (getD (enS true (v0_DrawTold2 (deS UInt8 (enS false code)))) (0 + toNat i0__) []) 0 D.dead) == i0_ then bif i1_ == i0_ then bif decide (0 ≤ i0__) && decide (i0__ < ofNat (length (enS true (v0_DrawTold2 (deS UInt8 (enS false code)))))) then bif Leaf.fit true (Leaf.int i64) (getD (getD (enS true (v0_DrawTold2 (deS UInt8 (enS false code)))) (0 + toNat i0__) []) 0 D.dead) && (Leaf.fit true (Leaf.int i64) (getD (getD (enS true (v0_DrawTold2 (deS UInt8 (enS false code)))) (0 + toNat i0__) []) 1 D.dead) && (Leaf.fit true (Leaf.int i64) (getD (getD (enS true (v0_DrawTold2 (deS UInt8 (enS false code)))) (0 + toNat i0__) []) 2 D.dead) && (Leaf.fit true (Leaf.int i64) (getD (getD (enS true (v0_DrawTold2 (deS UInt8 (enS false code)))) (0 + toNat i0__) []) 3 D.dead) && true))) then bif isS Heard false (lendRows es2_) && decide (length (deS Heard (lendRows es2_)) ≤ 1048576) then bif deepRows (enS true (Copy.Table (Prod.fst (feedM (Copy.mk i1_ (deS Heard (lendRows es2_))) (En.dec (getD (enS true (v0_DrawTold2 (deS UInt8 (enS false code)))) (0 + toNat i0__) [])))))) && true && true && true && true then f_ (S4_2 code es1 i0_ (wrap i64 (i0__ + 1)) (Copy.Next (Prod.fst (feedM (Copy.mk i1_ (deS Heard (lendRows es2_))) (En.dec (getD (enS true (v0_DrawTold2 (deS UInt8 (enS false code)))) (0 + toNat i0__) []))))) (enS true (Copy.Table (Prod.fst (feedM (Copy.mk i1_ (deS Heard (lendRows es2_))) (En.dec (getD (enS true (v0_DrawTold2 (deS UInt8 (enS false code)))) (0 + toNat i0__) []))))))) else none else none else none else none else f_ (S4_2 code es1 i0_ (wrap i64 (i0__ + 1)) i1_ es2_) else f_ (S4_2 code es1 i0_ (wrap i64 (i0__ + 1)) i1_ es2_) else none else none else K_ (Ex.exit 4) (X4_9 code es1 i0_ i0__ i1_ es2_) := by kernel_rfl
theorem aX4_9 (code : List UInt8) (n : Nat) (es1 : List (List D)) (i0_ : Int) (f : St → RR) (K : Ex → St → RR) (i0__ : Int) (i1_ : Int) (es2_ : List (List D)) : k4_8 n f K (Ex.exit 4) (X4_9 code es1 i0_ i0__ i1_ es2_) = f (S4_1 code es1 (wrap i64 (i0_ + 1)) i1_ es2_) := by kernel_rfl
def X4_10 (code : List UInt8) (es1 : List (List D)) (i0_ : Int) (i1 : Int) (es2 : List (List D)) : St := St.mk [U_, U_, U_, V_ [C.view 0 0 0 [] 4 none], I_ (v1_DrawTold2 (deS UInt8 (enS false code))), U_, U_, V_ [C.ptr 4 0 0 [] 2 0 0], V_ [C.ptr 6 0 0 [] 2 0 0], V_ [C.ptr 7 0 0 [] 2 0 0], I_ i0_, U_, U_, U_, U_, U_, U_, U_, U_, U_, U_, U_, U_, U_, U_, U_, U_, U_, U_, U_, U_, U_, U_, U_, U_, U_, U_, U_, U_, U_, U_, I_ i0_, I_ (v1_DrawTold2 (deS UInt8 (enS false code))), B_ false, U_, U_, U_, U_, U_, U_, U_, U_, U_, U_, U_, U_, U_, U_, U_, U_, U_, U_, U_, U_, U_, U_, U_, U_, U_, U_, U_, U_, U_, U_, U_, U_, U_, U_, U_, U_, U_, U_, U_, U_, U_, U_, U_, U_, U_, U_, U_, U_, U_, U_, U_, U_, U_, U_, U_, U_, U_, U_, U_, U_, U_] [Root.mk false 4 (enS true (v0_DrawTold2 (deS UInt8 (enS false code)))) 0 0 true true false, Root.mk false 4 [] 0 0 false true false, Root.mk false 4 es1 0 0 true true false, Root.mk false 4 (enS true (Copy.Table (faW (deS Up (lendRows (enS true (v0_DrawTold2 (deS UInt8 (enS false code)))))) (Copy.mk (0) (deS Heard []))))) 0 0 false true false, Root.mk true 2 [En.enc true (faW (deS Up (lendRows (enS true (v0_DrawTold2 (deS UInt8 (enS false code)))))) (Copy.mk (0) (deS Heard [])))] 0 0 true true false, Root.mk false 4 (enS true (Copy.Table (faW (deS Up (lendRows es1)) (Copy.mk (0) (deS Heard []))))) 0 0 false true false, Root.mk true 2 [En.enc true (faW (deS Up (lendRows es1)) (Copy.mk (0) (deS Heard [])))] 0 0 true true false, Root.mk true 2 [[D.int i64 i1, D.sl true 4 es2]] 0 0 true true false]
theorem q4_1 (code : List UInt8) (n : Nat) (es1 : List (List D)) (i0_ : Int) (i1 : Int) (es2 : List (List D)) (f : St → RR) (K : Ex → St → RR) : B4_1 n (S4_1 code es1 i0_ i1 es2) (kThen (fun st ↦ f (St.head 8 1944 18889465929279557602304 st)) K) = bif decide (i0_ < v1_DrawTold2 (deS UInt8 (enS false code))) then loopRun (B4_2 n) 8 3992 18889465861109836679168 n (S4_2 code es1 i0_ (0) i1 es2) (k4_8 n f K) else K (Ex.exit 2) (X4_10 code es1 i0_ i1 es2) := by kernel_rfl
theorem aX4_10 (code : List UInt8) (n : Nat) (es1 : List (List D)) (i0_ : Int) (i1 : Int) (es2 : List (List D)) : k4_4 n (Ex.exit 2) (X4_10 code es1 i0_ i1 es2) = bif Copy.Next (faW (deS Up (lendRows (enS true (v0_DrawTold2 (deS UInt8 (enS false code)))))) (Copy.mk (0) (deS Heard []))) == v1_DrawTold2 (deS UInt8 (enS false code)) then bif Copy.Next (faW (deS Up (lendRows es1)) (Copy.mk (0) (deS Heard []))) == v1_DrawTold2 (deS UInt8 (enS false code)) then bif isS Heard false (lendRows (enS true (Copy.Table (faW (deS Up (lendRows (enS true (v0_DrawTold2 (deS UInt8 (enS false code)))))) (Copy.mk (0) (deS Heard [])))))) && isS Heard false (lendRows (enS true (Copy.Table (faW (deS Up (lendRows es1)) (Copy.mk (0) (deS Heard [])))))) && (decide (length (deS Heard (lendRows (enS true (Copy.Table (faW (deS Up (lendRows (enS true (v0_DrawTold2 (deS UInt8 (enS false code)))))) (Copy.mk (0) (deS Heard []))))))) ≤ 1048576) && decide (length (deS Heard (lendRows (enS true (Copy.Table (faW (deS Up (lendRows es1)) (Copy.mk (0) (deS Heard []))))))) ≤ 1048576)) then bif sameB (deS Heard (lendRows (enS true (Copy.Table (faW (deS Up (lendRows (enS true (v0_DrawTold2 (deS UInt8 (enS false code)))))) (Copy.mk (0) (deS Heard []))))))) (deS Heard (lendRows (enS true (Copy.Table (faW (deS Up (lendRows es1)) (Copy.mk (0) (deS Heard []))))))) then bif isS Heard false (lendRows (enS true (Copy.Table (faW (deS Up (lendRows (enS true (v0_DrawTold2 (deS UInt8 (enS false code)))))) (Copy.mk (0) (deS Heard [])))))) && isS Heard false (lendRows es2) && (decide (length (deS Heard (lendRows (enS true (Copy.Table (faW (deS Up (lendRows (enS true (v0_DrawTold2 (deS UInt8 (enS false code)))))) (Copy.mk (0) (deS Heard []))))))) ≤ 1048576) && decide (length (deS Heard (lendRows es2)) ≤ 1048576)) then bif sameB (deS Heard (lendRows (enS true (Copy.Table (faW (deS Up (lendRows (enS true (v0_DrawTold2 (deS UInt8 (enS false code)))))) (Copy.mk (0) (deS Heard []))))))) (deS Heard (lendRows es2)) then bif isS Heard false (lendRows (enS true (Copy.Table (faW (deS Up (lendRows (enS true (v0_DrawTold2 (deS UInt8 (enS false code)))))) (Copy.mk (0) (deS Heard [])))))) && true then bif deepRows (enS true (lacks (Copy.Next (faW (deS Up (lendRows (enS true (v0_DrawTold2 (deS UInt8 (enS false code)))))) (Copy.mk (0) (deS Heard [])))) (v1_DrawTold2 (deS UInt8 (enS false code))))) && true && true && true && true then some ([[D.bool (ofNat (length (enS true (lacks (Copy.Next (faW (deS Up (lendRows (enS true (v0_DrawTold2 (deS UInt8 (enS false code)))))) (Copy.mk (0) (deS Heard [])))) (v1_DrawTold2 (deS UInt8 (enS false code)))))) == 0)]], []) else none else none else some ([[D.bool false]], []) else none else some ([[D.bool false]], []) else none else some ([[D.bool false]], []) else some ([[D.bool false]], []) := by kernel_rfl
theorem aX4_2 (code : List UInt8) (n : Nat) (i0 : Int) (es1 : List (List D)) : k4_1 n (Ex.exit 0) (X4_2 code i0 es1) = bif isS Heard false [] && isS Up false (lendRows (enS true (v0_DrawTold2 (deS UInt8 (enS false code))))) && (decide (length (deS Heard []) ≤ 1048576) && decide (length (deS Up (lendRows (enS true (v0_DrawTold2 (deS UInt8 (enS false code)))))) ≤ 1048576)) then bif deepRows (enS true (Copy.Table (faW (deS Up (lendRows (enS true (v0_DrawTold2 (deS UInt8 (enS false code)))))) (Copy.mk (0) (deS Heard []))))) && true && true && true && true then bif isS Heard false [] && isS Up false (lendRows es1) && (decide (length (deS Heard []) ≤ 1048576) && decide (length (deS Up (lendRows es1)) ≤ 1048576)) then bif deepRows (enS true (Copy.Table (faW (deS Up (lendRows es1)) (Copy.mk (0) (deS Heard []))))) && true && true && true && true then loopRun (B4_1 n) 8 1944 18889465929279557602304 n (S4_1 code es1 (0) (0) []) (k4_4 n) else none else none else none else none := by kernel_rfl
theorem r4 (code : List UInt8) (n : Nat) : evFn ⟨prog, Hx, 4⟩ T51.call n f4 [[.sl false 1 (enS false code)]] = bif isS UInt8 false (enS false code) && true then bif decide (ofNat (length (deS UInt8 (enS false code))) > 1048576) then some ([[D.bool true]], []) else bif isS UInt8 false (enS false code) && decide (length (deS UInt8 (enS false code)) ≤ 1048576) then loopRun (B4_0 n) 2 120 17171480672 n (S4_0 code (wrap i64 (ofNat (length (enS true (v0_DrawTold2 (deS UInt8 (enS false code))))) - 1)) []) (k4_1 n) else none else none := by kernel_rfl
theorem m4 (code : List UInt8) (hpre : (o4 code).1 = true) : evFn ⟨Go.Proofs.Try.prog, Hx, 4⟩ T51.call (60 + code.length) f4 [[.sl false 1 (enS false code)]] = some (o4 code).2 := by
  refine (r4 code _).trans ?_
  show _ = (some ([[.bool (true)]], []) : Option (List Row × List Row))
  replace hpre : (decide (code.length ≤ 9223372036854775807)) = true := hpre
  have hT : ∀ x : Int, (Int.ofNat code.length > x) = ((code.length : Int) > x) := fun _ => rfl
  simp only [isS_enS, deS_enS, Bool.and_self, Bool.and_true, Bool.true_and, cond_true, hT]
  refine bif_c (fun _ => rfl) (fun hbig => ?_)
  have hc := big_no hbig
  refine bif_t hc ?_
  obtain ⟨hlen, U, n, ⟨hn8, hv1⟩, hU, hfrom, hall⟩ := p_DrawTold2 code hc
  rw [enS_length]
  have e0 : IntKind.wrap IntKind.i64 (Int.ofNat (v0_DrawTold2 code).length - 1) = ((v0_DrawTold2 code).length : Int) - 1 - ((0 : Nat) : Int) := by
    rw [wrap_sm (by show _ ≤ ((v0_DrawTold2 code).length : Int) - 1; omega) (by show ((v0_DrawTold2 code).length : Int) - 1 ≤ _; omega)]
    show ((v0_DrawTold2 code).length : Int) - 1 = _
    omega
  rw [e0]
  refine loop_rule (V := Nat) (fun k => S4_0 code ((v0_DrawTold2 code).length - 1 - (k : Int)) (enS true ((v0_DrawTold2 code).reverse.take k))) (fun k => k ≤ (v0_DrawTold2 code).length) (fun k => (v0_DrawTold2 code).length - k) (fun _ => some ([[D.bool true]], [])) ?_ (60 + code.length) 0 (Nat.zero_le _) (by show _ - 0 < _; omega)
  rintro k hk f hf
  refine (q4_0 code _ _ _ f _).trans ?_
  rw [deS_enS]
  by_cases hk2 : k < (v0_DrawTold2 code).length
  · obtain ⟨j, hj⟩ : ∃ j, j = (v0_DrawTold2 code).length - 1 - k := ⟨_, rfl⟩
    have hjl : j < (v0_DrawTold2 code).length := by omega
    have e1 : ((v0_DrawTold2 code).length : Int) - 1 - (k : Int) = Int.ofNat j := by show _ = (j : Int); omega
    rw [e1, decide_eq_true (show Int.ofNat j ≥ 0 from Int.natCast_nonneg j)]
    simp only [enS_length, toNat_of, dec_lt, dec_ge, hjl, decide_true, cond_true, Bool.and_self, Nat.zero_add, enS_get true hjl, En.enc, List.getD_cons_zero, List.getD_cons_succ, D.num, Leaf.fit, beq_self_eq_true, snoc_up]
    refine bif_t (decide_eq_true (by rw [List.length_take]; omega)) ?_
    rw [wrap_sm (show -4611686018427387904 ≤ Int.ofNat j - 1 by show _ ≤ (j : Int) - 1; omega) (by show (j : Int) - 1 ≤ _; omega)]
    have e2 : Int.ofNat j - 1 = ((v0_DrawTold2 code).length : Int) - 1 - ((k + 1 : Nat) : Int) := by show (j : Int) - 1 = _; omega
    rw [e2]
    refine (congrArg (fun z => f (S4_0 code (((v0_DrawTold2 code).length : Int) - 1 - ((k + 1 : Nat) : Int)) (enS true z))) ?_).trans (hf (k + 1) hk2 (by omega))
    subst hj
    exact rev_next hk2 hjl
  have hkl : k = (v0_DrawTold2 code).length := by omega
  rw [decide_eq_false (show ¬ ((v0_DrawTold2 code).length : Int) - 1 - (k : Int) ≥ 0 by omega), cond_false]
  have e3 : (v0_DrawTold2 code).reverse.take k = (v0_DrawTold2 code).reverse := by rw [List.take_of_length_le (by rw [List.length_reverse]; omega)]
  rw [e3]
  refine (aX4_2 code _ _ _).trans ?_
  have f1 : faW (v0_DrawTold2 code) ⟨0, []⟩ = toldT U n := told_all hU hfrom hall n 0 (by omega) (by omega)
  have f2 : faW (v0_DrawTold2 code).reverse ⟨0, []⟩ = toldT U n := told_all hU (told_rev hfrom) (fun i hi => List.mem_reverse.2 (hall i hi)) n 0 (by omega) (by omega)
  have hl1 : decide ((v0_DrawTold2 code).length ≤ 1048576) = true := decide_eq_true (by omega)
  have hl0 : decide (([] : List Heard).length ≤ 1048576) = true := rfl
  simp only [deS_enS, lendRows_enS, isS_enS, deS_nil, isS_nil, deepRows_enS, List.length_reverse, hl1, hl0, Bool.and_self, Bool.and_true, Bool.true_and, cond_true]
  clear hf f
  refine loop_rule (V := Nat) (fun i => S4_1 code (enS true (v0_DrawTold2 code).reverse) (Int.ofNat i) (toldT U i).Next (enS true (toldT U i).Table)) (fun i => i ≤ n) (fun i => n - i) (fun _ => some ([[D.bool true]], [])) ?_ (60 + code.length) 0 (Nat.zero_le _) (by show n - 0 < _; omega)
  rintro i hi f hf
  have ht : ∀ m, (toldT U m).Table.length ≤ 1048576 := fun m => by
    have h := told_ok (U := U) m
    unfold copyOk tableOk at h
    simp only [Bool.and_eq_true, decide_eq_true_eq] at h
    omega
  refine (q4_1 code _ _ _ _ _ f _).trans ?_
  rw [deS_enS, hv1]
  by_cases hin : i < n
  · rw [decide_eq_true (show Int.ofNat i < (n : Int) by show (i : Int) < (n : Int); omega), cond_true]
    have key : ∀ K : Ex → St → RR, loopRun (B4_2 (60 + code.length)) 8 3992 18889465861109836679168 (60 + code.length) (S4_2 code (enS true (v0_DrawTold2 code).reverse) (Int.ofNat i) 0 (toldT U i).Next (enS true (toldT U i).Table)) (k4_8 (60 + code.length) f K) = some ([[D.bool true]], []) := by
      intro K
      refine loop_list (xs := v0_DrawTold2 code) (fun j (c : Copy) => S4_2 code (enS true (v0_DrawTold2 code).reverse) (Int.ofNat i) (Int.ofNat j) c.Next (enS true c.Table)) (fun _ c => c.Table.length ≤ 1048576) (fun _ c rest => f (S4_1 code (enS true (v0_DrawTold2 code).reverse) (Int.ofNat (i + 1)) (inF (i : Int) rest c).Next (enS true (inF (i : Int) rest c).Table))) ?_ ?_ (60 + code.length) (toldT U i) (by omega) (ht i) |>.trans ?_
      · rintro c _ f2
        refine (q4_2 code _ _ _ _ _ _ f2 _).trans ?_
        rw [deS_enS, end_lt, cond_false]
        refine (aX4_9 code _ _ _ _ _ _ _ _).trans ?_
        rw [wrap_succ (show i < 4611686018427387904 by omega)]
        rfl
      · rintro j c hj hcl f2 hf2
        have hcd : decide (c.Table.length ≤ 1048576) = true := decide_eq_true hcl
        refine (q4_2 code _ _ _ _ _ _ f2 _).trans ?_
        rw [deS_enS]
        simp only [enS_length, toNat_of, dec_lt, dec_ge, hj, decide_true, cond_true, Bool.and_self, Bool.and_true, Bool.true_and, Nat.zero_add, enS_get true hj, En.dec_enc, lendRows_enS, deS_enS, isS_enS, deepRows_enS, Copy.eta, hcd, wrap_succ (show j < 4611686018427387904 by omega)]
        simp only [upE, List.getD_cons_zero, List.getD_cons_succ, D.num, Leaf.fit, beq_self_eq_true, Bool.and_self, cond_true]
        have e5 : inF (i : Int) ((v0_DrawTold2 code)[j] :: (v0_DrawTold2 code).drop (j + 1)) c = inF (i : Int) ((v0_DrawTold2 code).drop (j + 1)) (bif (v0_DrawTold2 code)[j].Seq == (i : Int) && c.Next == (i : Int) then (feedM c (v0_DrawTold2 code)[j]).1 else c) := rfl
        rw [e5]
        show (bif (v0_DrawTold2 code)[j].Seq == (i : Int) then bif c.Next == (i : Int) then _ else _ else _) = _
        cases h6 : (v0_DrawTold2 code)[j].Seq == (i : Int)
        · exact hf2 c hcl
        · cases h7 : c.Next == (i : Int)
          · exact hf2 c hcl
          · exact hf2 _ (feed_len c _ hcl)
      · rw [inF_told hU hin _ hfrom (hall i hin)]
        exact hf (i + 1) hin (by omega)
    exact key _
  · have hie : i = n := by omega
    subst hie
    rw [decide_eq_false (show ¬ Int.ofNat i < (i : Int) by show ¬ (i : Int) < (i : Int); omega), cond_false]
    refine (aX4_10 code _ _ _ _ _).trans ?_
    have hn1 : (toldT U i).Next = (i : Int) := told_next hU i (Nat.le_refl i)
    have hl2 : decide ((toldT U i).Table.length ≤ 1048576) = true := decide_eq_true (ht i)
    simp only [deS_enS, lendRows_enS, isS_enS, deS_nil, deepRows_enS, f1, f2, hn1, hv1, hl2, lacks_none, sameB_self, beq_self_eq_true, Bool.and_self, Bool.and_true, Bool.true_and, cond_true]
    rfl
theorem s4 : SoundAt Go.Proofs.Try.prog Hx 4 c4 := soundAt_of T51_sound mixed func4 (by kernel_rfl) (by
  intro rows r h
  unfold c4 at h
  split at h
  · rename_i code
    obtain ⟨hp, hr⟩ := Prod.mk.inj (Option.some.inj h)
    subst hr
    simp only [Bool.and_eq_true] at hp
    obtain ⟨hs0, hp⟩ := hp
    obtain ⟨xs0, rfl⟩ := isS_ex hs0
    simp only [deS_enS] at hp ⊢
    exact ⟨_, m4 xs0 hp⟩
  · cases h)
def T4 : Table := (4, c4) :: T51
theorem T4_sound : Table.Sound Go.Proofs.Try.prog Hx T4 := Table.sound_cons s4 T51_sound
end Go.Ev
end
