/- Contracts of functions, each by its evaluation. -/
import Derived.Test.YtkkpblhaeliofaaEvMd
import Derived.Test.YtkkpblhaeliofaaProg
import Derived.KernelRfl
import Derived.Test.YtkkpblhaeliofaaFReact
set_option linter.unusedVariables false
set_option linter.unusedSimpArgs false
set_option maxRecDepth 100000
noncomputable section
open List (getD length drop take set append replicate all isEmpty)
open Int (toNat ofNat)
open Go.IntKind (i64 wrap)
open Go.Proofs.Try (prog f77 func77)
namespace Go.Ev
open Go.RowKit Go.Md
end Go.Ev
namespace Go.Md
open Go Go.Ev
def outR (id : Int) (c : List Port) (l : List Out) : Go.Ev.RR := some ([[D.sl true 8 (Go.Ev.enS true l)]], [[D.int .i64 id, D.sl true 11 (Go.Ev.enS true c)]])
theorem claim_step {R : Type} {b : Bridge} {i : Nat} {q : Port} {rest : List Port} {ys : List Out} {kd : Int} (F : List (List D) → R) (G : List Out → R) (hf : ∀ zs : List Out, zs.length ≤ ys.length + 1 → F (Go.Ev.enS true zs) = G (zs ++ bif kd == 2 then claimsL b (i + 1) rest else [])) :
    (bif kd == 2 then bif q.Role == 2 then F (List.append (Go.Ev.enS true ys) [[D.int .i64 1, D.int .i64 (Int.ofNat i), D.int .i64 (ownM b (Int.ofNat i)).Root, D.int .i64 (ownM b (Int.ofNat i)).Cost, D.int .i64 (ownM b (Int.ofNat i)).Bridge, D.int .i64 (ownM b (Int.ofNat i)).Port, D.int .i64 (hopsM b), D.bool false]]) else F (Go.Ev.enS true ys) else F (Go.Ev.enS true ys)) = G (ys ++ bif kd == 2 then claimsL b i (q :: rest) else []) := by
  cases hk : kd == 2
  · rw [hk] at hf
    exact hf ys (Nat.le_succ _)
  rw [hk] at hf
  simp only [cond_true] at hf ⊢
  cases hq : q.Role == 2
  · rw [cond_false, hf ys (Nat.le_succ _)]
    unfold claimsL
    rw [hq, cond_false]
    cases rest <;> rfl
  · rw [cond_true]
    refine (congrArg F (Go.Ev.enS_snoc true ys (⟨1, (i : Int), ownM b (i : Int), hopsM b, false⟩ : Out))).trans ?_
    rw [hf _ (by rw [List.length_append]; exact Nat.le_refl _), List.append_assoc]
    conv => rhs; unfold claimsL
    rw [hq, cond_true]
    rfl
theorem gate_step {R : Type} {i : Nat} {p q : Port} {ps qs : List Port} {ys : List Out} (F : List (List D) → R) (G : List Out → R) (hf : ∀ zs : List Out, zs.length ≤ ys.length + 1 → F (Go.Ev.enS true zs) = G (zs ++ gatesL (i + 1) ps qs)) :
    (bif q.Open != p.Open then F (List.append (Go.Ev.enS true ys) [[D.int .i64 2, D.int .i64 (Int.ofNat i), D.int .i64 0, D.int .i64 0, D.int .i64 0, D.int .i64 0, D.int .i64 0, D.bool q.Open]]) else F (Go.Ev.enS true ys)) = G (ys ++ gatesL i (p :: ps) (q :: qs)) := by
  have e : gatesL i (p :: ps) (q :: qs) = bif q.Open != p.Open then ⟨2, (i : Int), noVec, 0, q.Open⟩ :: gatesL (i + 1) ps qs else gatesL (i + 1) ps qs := rfl
  rw [e]
  cases q.Open != p.Open
  · exact hf ys (Nat.le_succ _)
  · refine (congrArg F (Go.Ev.enS_snoc true ys (⟨2, (i : Int), noVec, 0, q.Open⟩ : Out))).trans ?_
    rw [hf _ (by rw [List.length_append]; exact Nat.le_refl _), List.append_assoc]
    rfl
theorem inOk_port {x : In} (h : inOk x = true) : 0 ≤ x.Port ∧ x.Port ≤ 3 := by
  unfold inOk isPortB inR at h
  cases h1 : x.Kind == 1
  · rw [h1, cond_false] at h
    cases h3 : x.Kind == 3
    · rw [h3, cond_false] at h
      simp only [Bool.and_eq_true, beq_iff_eq] at h
      omega
    · rw [h3, cond_true] at h
      simp only [Bool.and_eq_true, decide_eq_true_eq] at h
      omega
  · rw [h1, cond_true] at h
    simp only [Bool.and_eq_true, decide_eq_true_eq] at h
    omega
theorem inOk_kind {x : In} (h : inOk x = true) (h1 : (x.Kind == 1) = false) (h3 : (x.Kind == 3) = false) : (x.Kind == 2) = true := by
  unfold inOk at h
  rw [h1, cond_false, h3, cond_false] at h
  simp only [Bool.and_eq_true] at h
  exact h.1
theorem kind_ne {a c : Int} {x : Int} (h : (x == a) = true) (hn : a ≠ c) : (x == c) = false := by
  have : x = a := by simpa using h
  subst this
  simpa using hn
theorem react_fin {b : Bridge} {x : In} (c : Bridge) (hi : c.Id = b.Id) (hn : newB b x = c) : outR b.Id c.Ports (gatesL 0 b.Ports c.Ports ++ bif x.Kind == 2 then claimsL ⟨b.Id, c.Ports⟩ 0 c.Ports else []) = outR (newB b x).Id (newB b x).Ports (saysM b x) := by
  unfold saysM
  rw [hn, ← hi]
theorem dec_len (b : Bridge) : (decideM b).Ports.length = b.Ports.length := decL_len b b.Ports 0
theorem still_no {b : Bridge} {x : In} (h : (x.Kind == 3) = false) : stillB b x = false := by unfold stillB; rw [h]; rfl
end Go.Md
namespace Go.Ev
open Go.Md
def o77 (b : Bridge) (x : In) : Bool × List Row × List Row := (canB b x, [[.sl true 8 (enS true (saysM b x))]], [[.int .i64 (newB b x).Id, .sl true 11 (enS true (newB b x).Ports)]])
def c77 : Contract
  | [[.int .i64 b_Id, .sl true 11 b_Ports], [.int .i64 x_Kind, .int .i64 x_Port, .int .i64 x_Vec_Root, .int .i64 x_Vec_Cost, .int .i64 x_Vec_Bridge, .int .i64 x_Vec_Port, .int .i64 x_Hops, .bool x_Up]] => some (isS Port true b_Ports && (o77 ⟨b_Id, (deS Port b_Ports)⟩ ⟨x_Kind, x_Port, ⟨x_Vec_Root, x_Vec_Cost, x_Vec_Bridge, x_Vec_Port⟩, x_Hops, x_Up⟩).1, (o77 ⟨b_Id, (deS Port b_Ports)⟩ ⟨x_Kind, x_Port, ⟨x_Vec_Root, x_Vec_Cost, x_Vec_Bridge, x_Vec_Port⟩, x_Hops, x_Up⟩).2.1, (o77 ⟨b_Id, (deS Port b_Ports)⟩ ⟨x_Kind, x_Port, ⟨x_Vec_Root, x_Vec_Cost, x_Vec_Bridge, x_Vec_Port⟩, x_Hops, x_Up⟩).2.2)
  | _ => none

def k77_0 (n : Nat) : Ex → St → RR := kThen (fun st ↦ runCode (Ctx.mk prog Hx (77)) (Table.call T99) n (codeAt [1, 1, 1, 1, 1, 1, 1] (bodyOf f77)) (Lv.mk 16 [] 16) st (kLeave (Ctx.P (Ctx.mk prog Hx (77))) (List.zip (Array.toList (Go.Func.resultTypes f77)) (Array.toList (Go.Func.results f77))) [0] [])) (kLeave (Ctx.P (Ctx.mk prog Hx (77))) (List.zip (Array.toList (Go.Func.resultTypes f77)) (Array.toList (Go.Func.results f77))) [0] [])
def k77_1 (n : Nat) : Ex → St → RR := kBlock (1) (k77_0 n)
def S77_0 (b : Bridge) (x : In) (rs0 : List (List D)) (i1 : Int) (es2 : List (List D)) : St := St.mk (V_ [C.ptr 0 0 0 [] 2 0 0] :: U_ :: U_ :: V_ [C.ptr 1 0 0 [] 8 0 0] :: U_ :: V_ [C.view 2 0 0 [] 11 none] :: U_ :: V_ [C.view 3 0 0 [] 8 none] :: u_ 56 (V_ [C.view 0 0 0 [(0, 1)] 11 none] :: I_ (ofNat (length rs0)) :: I_ i1 :: u_ 50 [])) [Root.mk true 2 [[D.int i64 (Bridge.Id (decideM (Bridge.mk (Bridge.Id b) (deS Port (set (enS true (Bridge.Ports b)) (0 + toNat (In.Port x)) (En.enc true (claimM (En.dec (getD (enS true (Bridge.Ports b)) (0 + toNat (In.Port x)) [])) (In.Vec x) (In.Hops x)))))))), D.sl true 11 rs0]] 0 0 true true false, Root.mk true 8 [En.enc true x] 0 0 true true false, Root.mk false 11 (enS true (deS Port (lendRows (enS true (Bridge.Ports b))))) 0 0 true true false, Root.mk false 8 es2 0 0 true true false]
def B77_0 (n : Nat) : St → (Ex → St → RR) → RR := runCode (Ctx.mk prog Hx (77)) (Table.call T99) n (codeAt [1, 1, 1, 1, 1, 1, 0, 1, 0, 0] (bodyOf f77)) (Lv.mk 129127208515966861481 [(1, 137)] 16)
def X77_2 (b : Bridge) (x : In) (rs0 : List (List D)) (es2 : List (List D)) : St := St.mk (V_ [C.ptr 0 0 0 [] 2 0 0] :: U_ :: U_ :: V_ [C.ptr 1 0 0 [] 8 0 0] :: U_ :: U_ :: U_ :: V_ [C.view 3 0 0 [] 8 none] :: u_ 109 []) [Root.mk true 2 [[D.int i64 (Bridge.Id (decideM (Bridge.mk (Bridge.Id b) (deS Port (set (enS true (Bridge.Ports b)) (0 + toNat (In.Port x)) (En.enc true (claimM (En.dec (getD (enS true (Bridge.Ports b)) (0 + toNat (In.Port x)) [])) (In.Vec x) (In.Hops x)))))))), D.sl true 11 rs0]] 0 0 true true false, Root.mk true 8 [En.enc true x] 0 0 true true false, Root.mk false 11 (enS true (deS Port (lendRows (enS true (Bridge.Ports b))))) 0 0 true true false, Root.mk false 8 es2 0 0 true true false]
theorem q77_0 (b : Bridge) (x : In) (n : Nat) (rs0 : List (List D)) (i1 : Int) (es2 : List (List D)) (f : St → RR) (K : Ex → St → RR) : B77_0 n (S77_0 b x rs0 i1 es2) (kThen (fun st ↦ f (St.head 3 129127208515966861481 154742431123696239524184960 st)) K) = bif decide (i1 < ofNat (length rs0)) then bif decide (0 ≤ i1) && decide (i1 < ofNat (length rs0)) then bif Leaf.fit true Leaf.bool (getD (getD rs0 (0 + toNat i1) []) 0 D.dead) && (Leaf.fit true Leaf.bool (getD (getD rs0 (0 + toNat i1) []) 1 D.dead) && (Leaf.fit true (Leaf.int i64) (getD (getD rs0 (0 + toNat i1) []) 2 D.dead) && (Leaf.fit true (Leaf.int i64) (getD (getD rs0 (0 + toNat i1) []) 3 D.dead) && (Leaf.fit true (Leaf.int i64) (getD (getD rs0 (0 + toNat i1) []) 4 D.dead) && (Leaf.fit true (Leaf.int i64) (getD (getD rs0 (0 + toNat i1) []) 5 D.dead) && (Leaf.fit true (Leaf.int i64) (getD (getD rs0 (0 + toNat i1) []) 6 D.dead) && (Leaf.fit true (Leaf.int i64) (getD (getD rs0 (0 + toNat i1) []) 7 D.dead) && (Leaf.fit true (Leaf.int i64) (getD (getD rs0 (0 + toNat i1) []) 8 D.dead) && (Leaf.fit true (Leaf.int i64) (getD (getD rs0 (0 + toNat i1) []) 9 D.dead) && (Leaf.fit true Leaf.bool (getD (getD rs0 (0 + toNat i1) []) 10 D.dead) && true)))))))))) then bif decide (0 ≤ i1) && decide (i1 < ofNat (length (enS true (deS Port (lendRows (enS true (Bridge.Ports b))))))) then bif Leaf.fit true Leaf.bool (getD (getD (enS true (deS Port (lendRows (enS true (Bridge.Ports b))))) (0 + toNat i1) []) 10 D.dead) && true then bif D.flag (getD (getD rs0 (0 + toNat i1) []) 10 D.dead) != D.flag (getD (getD (enS true (deS Port (lendRows (enS true (Bridge.Ports b))))) (0 + toNat i1) []) 10 D.dead) then bif decide ((length es2 + 1) * 64 ≤ 140737488355328) then f (S77_0 b x rs0 (wrap i64 (i1 + 1)) (append es2 [[D.int i64 (2), D.int i64 i1, D.int i64 (0), D.int i64 (0), D.int i64 (0), D.int i64 (0), D.int i64 (0), D.bool (D.flag (getD (getD rs0 (0 + toNat i1) []) 10 D.dead))]])) else none else f (S77_0 b x rs0 (wrap i64 (i1 + 1)) es2) else none else none else none else none else K (Ex.exit 1) (X77_2 b x rs0 es2) := by kernel_rfl
def k77_3 (n : Nat) : Ex → St → RR := kThen (fun st ↦ runCode (Ctx.mk prog Hx (77)) (Table.call T99) n (codeAt [1, 1, 1, 1, 1, 1, 1, 1] (bodyOf f77)) (Lv.mk 16 [] 16) st (kLeave (Ctx.P (Ctx.mk prog Hx (77))) (List.zip (Array.toList (Go.Func.resultTypes f77)) (Array.toList (Go.Func.results f77))) [0] [])) (kLeave (Ctx.P (Ctx.mk prog Hx (77))) (List.zip (Array.toList (Go.Func.resultTypes f77)) (Array.toList (Go.Func.results f77))) [0] [])
def k77_4 (n : Nat) : Ex → St → RR := kBlock (3) (k77_3 n)
def S77_1 (b : Bridge) (x : In) (rs0 : List (List D)) (es2 : List (List D)) (i0 : Int) (es1 : List (List D)) : St := St.mk (V_ [C.ptr 0 0 0 [] 2 0 0] :: U_ :: U_ :: V_ [C.ptr 1 0 0 [] 8 0 0] :: U_ :: U_ :: U_ :: V_ [C.view 4 0 0 [] 8 none] :: u_ 82 (V_ [C.view 0 0 0 [(0, 1)] 11 none] :: I_ (ofNat (length rs0)) :: I_ i0 :: u_ 24 [])) [Root.mk true 2 [[D.int i64 (Bridge.Id (decideM (Bridge.mk (Bridge.Id b) (deS Port (set (enS true (Bridge.Ports b)) (0 + toNat (In.Port x)) (En.enc true (claimM (En.dec (getD (enS true (Bridge.Ports b)) (0 + toNat (In.Port x)) [])) (In.Vec x) (In.Hops x)))))))), D.sl true 11 rs0]] 0 0 true true false, Root.mk true 8 [En.enc true x] 0 0 true true false, Root.mk false 11 (enS true (deS Port (lendRows (enS true (Bridge.Ports b))))) 0 0 true true false, Root.mk false 8 es2 0 0 false true false, Root.mk false 8 es1 0 0 true true false]
def B77_1 (n : Nat) : St → (Ex → St → RR) → RR := runCode (Ctx.mk prog Hx (77)) (Table.call T99) n (codeAt [1, 1, 1, 1, 1, 1, 1, 0, 1, 0, 0] (bodyOf f77)) (Lv.mk 8665580274997661924293869705 [(3, 128)] 16)
def X77_5 (b : Bridge) (x : In) (rs0 : List (List D)) (es2 : List (List D)) (es1 : List (List D)) : St := St.mk (u_ 7 (V_ [C.view 4 0 0 [] 8 none] :: u_ 109 [])) [Root.mk true 2 [[D.int i64 (Bridge.Id (decideM (Bridge.mk (Bridge.Id b) (deS Port (set (enS true (Bridge.Ports b)) (0 + toNat (In.Port x)) (En.enc true (claimM (En.dec (getD (enS true (Bridge.Ports b)) (0 + toNat (In.Port x)) [])) (In.Vec x) (In.Hops x)))))))), D.sl true 11 rs0]] 0 0 true true false, Root.mk true 8 [En.enc true x] 0 0 true true false, Root.mk false 11 (enS true (deS Port (lendRows (enS true (Bridge.Ports b))))) 0 0 true true false, Root.mk false 8 es2 0 0 false true false, Root.mk false 8 es1 0 0 true true false]
theorem q77_1 (b : Bridge) (x : In) (n : Nat) (rs0 : List (List D)) (es2 : List (List D)) (i0 : Int) (es1 : List (List D)) (f : St → RR) (K : Ex → St → RR) : B77_1 n (S77_1 b x rs0 es2 i0 es1) (kThen (fun st ↦ f (St.head 4 8665580274997661924293869705 83076744784797084914966841671027840 st)) K) = bif decide (i0 < ofNat (length rs0)) then bif decide (0 ≤ i0) && decide (i0 < ofNat (length rs0)) then bif Leaf.fit true Leaf.bool (getD (getD rs0 (0 + toNat i0) []) 0 D.dead) && (Leaf.fit true Leaf.bool (getD (getD rs0 (0 + toNat i0) []) 1 D.dead) && (Leaf.fit true (Leaf.int i64) (getD (getD rs0 (0 + toNat i0) []) 2 D.dead) && (Leaf.fit true (Leaf.int i64) (getD (getD rs0 (0 + toNat i0) []) 3 D.dead) && (Leaf.fit true (Leaf.int i64) (getD (getD rs0 (0 + toNat i0) []) 4 D.dead) && (Leaf.fit true (Leaf.int i64) (getD (getD rs0 (0 + toNat i0) []) 5 D.dead) && (Leaf.fit true (Leaf.int i64) (getD (getD rs0 (0 + toNat i0) []) 6 D.dead) && (Leaf.fit true (Leaf.int i64) (getD (getD rs0 (0 + toNat i0) []) 7 D.dead) && (Leaf.fit true (Leaf.int i64) (getD (getD rs0 (0 + toNat i0) []) 8 D.dead) && (Leaf.fit true (Leaf.int i64) (getD (getD rs0 (0 + toNat i0) []) 9 D.dead) && (Leaf.fit true Leaf.bool (getD (getD rs0 (0 + toNat i0) []) 10 D.dead) && true)))))))))) then bif In.Kind x == 2 then bif D.num (getD (getD rs0 (0 + toNat i0) []) 8 D.dead) == 2 then bif isS Port false (lendRows rs0) && decide (length (deS Port (lendRows rs0)) ≤ 1048576) then bif isS Port false (lendRows rs0) && decide (length (deS Port (lendRows rs0)) ≤ 1048576) then bif decide ((length es1 + 1) * 64 ≤ 140737488355328) then f (S77_1 b x rs0 es2 (wrap i64 (i0 + 1)) (append es1 [[D.int i64 (1), D.int i64 i0, D.int i64 (Vec.Root (ownM (Bridge.mk (Bridge.Id (decideM (Bridge.mk (Bridge.Id b) (deS Port (set (enS true (Bridge.Ports b)) (0 + toNat (In.Port x)) (En.enc true (claimM (En.dec (getD (enS true (Bridge.Ports b)) (0 + toNat (In.Port x)) [])) (In.Vec x) (In.Hops x)))))))) (deS Port (lendRows rs0))) i0)), D.int i64 (Vec.Cost (ownM (Bridge.mk (Bridge.Id (decideM (Bridge.mk (Bridge.Id b) (deS Port (set (enS true (Bridge.Ports b)) (0 + toNat (In.Port x)) (En.enc true (claimM (En.dec (getD (enS true (Bridge.Ports b)) (0 + toNat (In.Port x)) [])) (In.Vec x) (In.Hops x)))))))) (deS Port (lendRows rs0))) i0)), D.int i64 (Vec.Bridge (ownM (Bridge.mk (Bridge.Id (decideM (Bridge.mk (Bridge.Id b) (deS Port (set (enS true (Bridge.Ports b)) (0 + toNat (In.Port x)) (En.enc true (claimM (En.dec (getD (enS true (Bridge.Ports b)) (0 + toNat (In.Port x)) [])) (In.Vec x) (In.Hops x)))))))) (deS Port (lendRows rs0))) i0)), D.int i64 (Vec.Port (ownM (Bridge.mk (Bridge.Id (decideM (Bridge.mk (Bridge.Id b) (deS Port (set (enS true (Bridge.Ports b)) (0 + toNat (In.Port x)) (En.enc true (claimM (En.dec (getD (enS true (Bridge.Ports b)) (0 + toNat (In.Port x)) [])) (In.Vec x) (In.Hops x)))))))) (deS Port (lendRows rs0))) i0)), D.int i64 (hopsM (Bridge.mk (Bridge.Id (decideM (Bridge.mk (Bridge.Id b) (deS Port (set (enS true (Bridge.Ports b)) (0 + toNat (In.Port x)) (En.enc true (claimM (En.dec (getD (enS true (Bridge.Ports b)) (0 + toNat (In.Port x)) [])) (In.Vec x) (In.Hops x)))))))) (deS Port (lendRows rs0)))), D.bool false]])) else none else none else none else f (S77_1 b x rs0 es2 (wrap i64 (i0 + 1)) es1) else f (S77_1 b x rs0 es2 (wrap i64 (i0 + 1)) es1) else none else none else K (Ex.exit 3) (X77_5 b x rs0 es2 es1) := by kernel_rfl
theorem aX77_5 (b : Bridge) (x : In) (n : Nat) (rs0 : List (List D)) (es2 : List (List D)) (es1 : List (List D)) : k77_4 n (Ex.exit 3) (X77_5 b x rs0 es2 es1) = some ([[D.sl true 8 es1]], [[D.int i64 (Bridge.Id (decideM (Bridge.mk (Bridge.Id b) (deS Port (set (enS true (Bridge.Ports b)) (0 + toNat (In.Port x)) (En.enc true (claimM (En.dec (getD (enS true (Bridge.Ports b)) (0 + toNat (In.Port x)) [])) (In.Vec x) (In.Hops x)))))))), D.sl true 11 rs0]]) := by kernel_rfl
theorem aX77_2 (b : Bridge) (x : In) (n : Nat) (rs0 : List (List D)) (es2 : List (List D)) : k77_1 n (Ex.exit 1) (X77_2 b x rs0 es2) = loopRun (B77_1 n) 4 8665580274997661924293869705 83076744784797084914966841671027840 n (S77_1 b x rs0 es2 (0) es2) (k77_4 n) := by kernel_rfl
def S77_2 (b : Bridge) (x : In) (rs0 : List (List D)) (i1 : Int) (es2 : List (List D)) : St := St.mk (V_ [C.ptr 0 0 0 [] 2 0 0] :: U_ :: U_ :: V_ [C.ptr 1 0 0 [] 8 0 0] :: U_ :: V_ [C.view 2 0 0 [] 11 none] :: U_ :: V_ [C.view 3 0 0 [] 8 none] :: u_ 56 (V_ [C.view 0 0 0 [(0, 1)] 11 none] :: I_ (ofNat (length rs0)) :: I_ i1 :: u_ 50 [])) [Root.mk true 2 [[D.int i64 (Bridge.Id (decideM (Bridge.mk (Bridge.Id (tickM (Bridge.mk (Bridge.Id b) (deS Port (enS true (Bridge.Ports b)))))) (deS Port (enS true (Bridge.Ports (tickM (Bridge.mk (Bridge.Id b) (deS Port (enS true (Bridge.Ports b))))))))))), D.sl true 11 rs0]] 0 0 true true false, Root.mk true 8 [En.enc true x] 0 0 true true false, Root.mk false 11 (enS true (deS Port (lendRows (enS true (Bridge.Ports b))))) 0 0 true true false, Root.mk false 8 es2 0 0 true true false]
def B77_2 (n : Nat) : St → (Ex → St → RR) → RR := runCode (Ctx.mk prog Hx (77)) (Table.call T99) n (codeAt [1, 1, 1, 1, 1, 1, 0, 1, 0, 0] (bodyOf f77)) (Lv.mk 129127208515966861481 [(1, 137)] 16)
def X77_6 (b : Bridge) (x : In) (rs0 : List (List D)) (es2 : List (List D)) : St := St.mk (V_ [C.ptr 0 0 0 [] 2 0 0] :: U_ :: U_ :: V_ [C.ptr 1 0 0 [] 8 0 0] :: U_ :: U_ :: U_ :: V_ [C.view 3 0 0 [] 8 none] :: u_ 109 []) [Root.mk true 2 [[D.int i64 (Bridge.Id (decideM (Bridge.mk (Bridge.Id (tickM (Bridge.mk (Bridge.Id b) (deS Port (enS true (Bridge.Ports b)))))) (deS Port (enS true (Bridge.Ports (tickM (Bridge.mk (Bridge.Id b) (deS Port (enS true (Bridge.Ports b))))))))))), D.sl true 11 rs0]] 0 0 true true false, Root.mk true 8 [En.enc true x] 0 0 true true false, Root.mk false 11 (enS true (deS Port (lendRows (enS true (Bridge.Ports b))))) 0 0 true true false, Root.mk false 8 es2 0 0 true true false]
theorem q77_2 (b : Bridge) (x : In) (n : Nat) (rs0 : List (List D)) (i1 : Int) (es2 : List (List D)) (f : St → RR) (K : Ex → St → RR) : B77_2 n (S77_2 b x rs0 i1 es2) (kThen (fun st ↦ f (St.head 3 129127208515966861481 154742431123696239524184960 st)) K) = bif decide (i1 < ofNat (length rs0)) then bif decide (0 ≤ i1) && decide (i1 < ofNat (length rs0)) then bif Leaf.fit true Leaf.bool (getD (getD rs0 (0 + toNat i1) []) 0 D.dead) && (Leaf.fit true Leaf.bool (getD (getD rs0 (0 + toNat i1) []) 1 D.dead) && (Leaf.fit true (Leaf.int i64) (getD (getD rs0 (0 + toNat i1) []) 2 D.dead) && (Leaf.fit true (Leaf.int i64) (getD (getD rs0 (0 + toNat i1) []) 3 D.dead) && (Leaf.fit true (Leaf.int i64) (getD (getD rs0 (0 + toNat i1) []) 4 D.dead) && (Leaf.fit true (Leaf.int i64) (getD (getD rs0 (0 + toNat i1) []) 5 D.dead) && (Leaf.fit true (Leaf.int i64) (getD (getD rs0 (0 + toNat i1) []) 6 D.dead) && (Leaf.fit true (Leaf.int i64) (getD (getD rs0 (0 + toNat i1) []) 7 D.dead) && (Leaf.fit true (Leaf.int i64) (getD (getD rs0 (0 + toNat i1) []) 8 D.dead) && (Leaf.fit true (Leaf.int i64) (getD (getD rs0 (0 + toNat i1) []) 9 D.dead) && (Leaf.fit true Leaf.bool (getD (getD rs0 (0 + toNat i1) []) 10 D.dead) && true)))))))))) then bif decide (0 ≤ i1) && decide (i1 < ofNat (length (enS true (deS Port (lendRows (enS true (Bridge.Ports b))))))) then bif Leaf.fit true Leaf.bool (getD (getD (enS true (deS Port (lendRows (enS true (Bridge.Ports b))))) (0 + toNat i1) []) 10 D.dead) && true then bif D.flag (getD (getD rs0 (0 + toNat i1) []) 10 D.dead) != D.flag (getD (getD (enS true (deS Port (lendRows (enS true (Bridge.Ports b))))) (0 + toNat i1) []) 10 D.dead) then bif decide ((length es2 + 1) * 64 ≤ 140737488355328) then f (S77_2 b x rs0 (wrap i64 (i1 + 1)) (append es2 [[D.int i64 (2), D.int i64 i1, D.int i64 (0), D.int i64 (0), D.int i64 (0), D.int i64 (0), D.int i64 (0), D.bool (D.flag (getD (getD rs0 (0 + toNat i1) []) 10 D.dead))]])) else none else f (S77_2 b x rs0 (wrap i64 (i1 + 1)) es2) else none else none else none else none else K (Ex.exit 1) (X77_6 b x rs0 es2) := by kernel_rfl
def S77_3 (b : Bridge) (x : In) (rs0 : List (List D)) (es2 : List (List D)) (i0 : Int) (es1 : List (List D)) : St := St.mk (V_ [C.ptr 0 0 0 [] 2 0 0] :: U_ :: U_ :: V_ [C.ptr 1 0 0 [] 8 0 0] :: U_ :: U_ :: U_ :: V_ [C.view 4 0 0 [] 8 none] :: u_ 82 (V_ [C.view 0 0 0 [(0, 1)] 11 none] :: I_ (ofNat (length rs0)) :: I_ i0 :: u_ 24 [])) [Root.mk true 2 [[D.int i64 (Bridge.Id (decideM (Bridge.mk (Bridge.Id (tickM (Bridge.mk (Bridge.Id b) (deS Port (enS true (Bridge.Ports b)))))) (deS Port (enS true (Bridge.Ports (tickM (Bridge.mk (Bridge.Id b) (deS Port (enS true (Bridge.Ports b))))))))))), D.sl true 11 rs0]] 0 0 true true false, Root.mk true 8 [En.enc true x] 0 0 true true false, Root.mk false 11 (enS true (deS Port (lendRows (enS true (Bridge.Ports b))))) 0 0 true true false, Root.mk false 8 es2 0 0 false true false, Root.mk false 8 es1 0 0 true true false]
def B77_3 (n : Nat) : St → (Ex → St → RR) → RR := runCode (Ctx.mk prog Hx (77)) (Table.call T99) n (codeAt [1, 1, 1, 1, 1, 1, 1, 0, 1, 0, 0] (bodyOf f77)) (Lv.mk 8665580274997661924293869705 [(3, 128)] 16)
def X77_7 (b : Bridge) (x : In) (rs0 : List (List D)) (es2 : List (List D)) (es1 : List (List D)) : St := St.mk (u_ 7 (V_ [C.view 4 0 0 [] 8 none] :: u_ 109 [])) [Root.mk true 2 [[D.int i64 (Bridge.Id (decideM (Bridge.mk (Bridge.Id (tickM (Bridge.mk (Bridge.Id b) (deS Port (enS true (Bridge.Ports b)))))) (deS Port (enS true (Bridge.Ports (tickM (Bridge.mk (Bridge.Id b) (deS Port (enS true (Bridge.Ports b))))))))))), D.sl true 11 rs0]] 0 0 true true false, Root.mk true 8 [En.enc true x] 0 0 true true false, Root.mk false 11 (enS true (deS Port (lendRows (enS true (Bridge.Ports b))))) 0 0 true true false, Root.mk false 8 es2 0 0 false true false, Root.mk false 8 es1 0 0 true true false]
theorem q77_3 (b : Bridge) (x : In) (n : Nat) (rs0 : List (List D)) (es2 : List (List D)) (i0 : Int) (es1 : List (List D)) (f : St → RR) (K : Ex → St → RR) : B77_3 n (S77_3 b x rs0 es2 i0 es1) (kThen (fun st ↦ f (St.head 4 8665580274997661924293869705 83076744784797084914966841671027840 st)) K) = bif decide (i0 < ofNat (length rs0)) then bif decide (0 ≤ i0) && decide (i0 < ofNat (length rs0)) then bif Leaf.fit true Leaf.bool (getD (getD rs0 (0 + toNat i0) []) 0 D.dead) && (Leaf.fit true Leaf.bool (getD (getD rs0 (0 + toNat i0) []) 1 D.dead) && (Leaf.fit true (Leaf.int i64) (getD (getD rs0 (0 + toNat i0) []) 2 D.dead) && (Leaf.fit true (Leaf.int i64) (getD (getD rs0 (0 + toNat i0) []) 3 D.dead) && (Leaf.fit true (Leaf.int i64) (getD (getD rs0 (0 + toNat i0) []) 4 D.dead) && (Leaf.fit true (Leaf.int i64) (getD (getD rs0 (0 + toNat i0) []) 5 D.dead) && (Leaf.fit true (Leaf.int i64) (getD (getD rs0 (0 + toNat i0) []) 6 D.dead) && (Leaf.fit true (Leaf.int i64) (getD (getD rs0 (0 + toNat i0) []) 7 D.dead) && (Leaf.fit true (Leaf.int i64) (getD (getD rs0 (0 + toNat i0) []) 8 D.dead) && (Leaf.fit true (Leaf.int i64) (getD (getD rs0 (0 + toNat i0) []) 9 D.dead) && (Leaf.fit true Leaf.bool (getD (getD rs0 (0 + toNat i0) []) 10 D.dead) && true)))))))))) then bif In.Kind x == 2 then bif D.num (getD (getD rs0 (0 + toNat i0) []) 8 D.dead) == 2 then bif isS Port false (lendRows rs0) && decide (length (deS Port (lendRows rs0)) ≤ 1048576) then bif isS Port false (lendRows rs0) && decide (length (deS Port (lendRows rs0)) ≤ 1048576) then bif decide ((length es1 + 1) * 64 ≤ 140737488355328) then f (S77_3 b x rs0 es2 (wrap i64 (i0 + 1)) (append es1 [[D.int i64 (1), D.int i64 i0, D.int i64 (Vec.Root (ownM (Bridge.mk (Bridge.Id (decideM (Bridge.mk (Bridge.Id (tickM (Bridge.mk (Bridge.Id b) (deS Port (enS true (Bridge.Ports b)))))) (deS Port (enS true (Bridge.Ports (tickM (Bridge.mk (Bridge.Id b) (deS Port (enS true (Bridge.Ports b))))))))))) (deS Port (lendRows rs0))) i0)), D.int i64 (Vec.Cost (ownM (Bridge.mk (Bridge.Id (decideM (Bridge.mk (Bridge.Id (tickM (Bridge.mk (Bridge.Id b) (deS Port (enS true (Bridge.Ports b)))))) (deS Port (enS true (Bridge.Ports (tickM (Bridge.mk (Bridge.Id b) (deS Port (enS true (Bridge.Ports b))))))))))) (deS Port (lendRows rs0))) i0)), D.int i64 (Vec.Bridge (ownM (Bridge.mk (Bridge.Id (decideM (Bridge.mk (Bridge.Id (tickM (Bridge.mk (Bridge.Id b) (deS Port (enS true (Bridge.Ports b)))))) (deS Port (enS true (Bridge.Ports (tickM (Bridge.mk (Bridge.Id b) (deS Port (enS true (Bridge.Ports b))))))))))) (deS Port (lendRows rs0))) i0)), D.int i64 (Vec.Port (ownM (Bridge.mk (Bridge.Id (decideM (Bridge.mk (Bridge.Id (tickM (Bridge.mk (Bridge.Id b) (deS Port (enS true (Bridge.Ports b)))))) (deS Port (enS true (Bridge.Ports (tickM (Bridge.mk (Bridge.Id b) (deS Port (enS true (Bridge.Ports b))))))))))) (deS Port (lendRows rs0))) i0)), D.int i64 (hopsM (Bridge.mk (Bridge.Id (decideM (Bridge.mk (Bridge.Id (tickM (Bridge.mk (Bridge.Id b) (deS Port (enS true (Bridge.Ports b)))))) (deS Port (enS true (Bridge.Ports (tickM (Bridge.mk (Bridge.Id b) (deS Port (enS true (Bridge.Ports b))))))))))) (deS Port (lendRows rs0)))), D.bool false]])) else none else none else none else f (S77_3 b x rs0 es2 (wrap i64 (i0 + 1)) es1) else f (S77_3 b x rs0 es2 (wrap i64 (i0 + 1)) es1) else none else none else K (Ex.exit 3) (X77_7 b x rs0 es2 es1) := by kernel_rfl
theorem aX77_7 (b : Bridge) (x : In) (n : Nat) (rs0 : List (List D)) (es2 : List (List D)) (es1 : List (List D)) : k77_4 n (Ex.exit 3) (X77_7 b x rs0 es2 es1) = some ([[D.sl true 8 es1]], [[D.int i64 (Bridge.Id (decideM (Bridge.mk (Bridge.Id (tickM (Bridge.mk (Bridge.Id b) (deS Port (enS true (Bridge.Ports b)))))) (deS Port (enS true (Bridge.Ports (tickM (Bridge.mk (Bridge.Id b) (deS Port (enS true (Bridge.Ports b))))))))))), D.sl true 11 rs0]]) := by kernel_rfl
theorem aX77_6 (b : Bridge) (x : In) (n : Nat) (rs0 : List (List D)) (es2 : List (List D)) : k77_1 n (Ex.exit 1) (X77_6 b x rs0 es2) = loopRun (B77_3 n) 4 8665580274997661924293869705 83076744784797084914966841671027840 n (S77_3 b x rs0 es2 (0) es2) (k77_4 n) := by kernel_rfl
def S77_4 (b : Bridge) (x : In) (rs0 : List (List D)) (i1 : Int) (es2 : List (List D)) : St := St.mk (V_ [C.ptr 0 0 0 [] 2 0 0] :: U_ :: U_ :: V_ [C.ptr 1 0 0 [] 8 0 0] :: U_ :: V_ [C.view 2 0 0 [] 11 none] :: U_ :: V_ [C.view 3 0 0 [] 8 none] :: u_ 56 (V_ [C.view 0 0 0 [(0, 1)] 11 none] :: I_ (ofNat (length rs0)) :: I_ i1 :: u_ 50 [])) [Root.mk true 2 [[D.int i64 (Bridge.Id (decideM (Bridge.mk (Bridge.Id b) (deS Port (set (set (enS true (Bridge.Ports b)) (0 + toNat (In.Port x)) [D.bool false, D.bool false, D.int i64 (0), D.int i64 (0), D.int i64 (0), D.int i64 (0), D.int i64 (0), D.int i64 (0), D.int i64 (0), D.int i64 (0), D.bool false]) (0 + toNat (In.Port x)) [D.bool true, D.bool false, D.int i64 (0), D.int i64 (0), D.int i64 (0), D.int i64 (0), D.int i64 (0), D.int i64 (0), D.int i64 (3), D.int i64 (0), D.bool false]))))), D.sl true 11 rs0]] 0 0 true true false, Root.mk true 8 [En.enc true x] 0 0 true true false, Root.mk false 11 (enS true (deS Port (lendRows (enS true (Bridge.Ports b))))) 0 0 true true false, Root.mk false 8 es2 0 0 true true false]
def B77_4 (n : Nat) : St → (Ex → St → RR) → RR := runCode (Ctx.mk prog Hx (77)) (Table.call T99) n (codeAt [1, 1, 1, 1, 1, 1, 0, 1, 0, 0] (bodyOf f77)) (Lv.mk 129127208515966861481 [(1, 137)] 16)
def X77_8 (b : Bridge) (x : In) (rs0 : List (List D)) (es2 : List (List D)) : St := St.mk (V_ [C.ptr 0 0 0 [] 2 0 0] :: U_ :: U_ :: V_ [C.ptr 1 0 0 [] 8 0 0] :: U_ :: U_ :: U_ :: V_ [C.view 3 0 0 [] 8 none] :: u_ 109 []) [Root.mk true 2 [[D.int i64 (Bridge.Id (decideM (Bridge.mk (Bridge.Id b) (deS Port (set (set (enS true (Bridge.Ports b)) (0 + toNat (In.Port x)) [D.bool false, D.bool false, D.int i64 (0), D.int i64 (0), D.int i64 (0), D.int i64 (0), D.int i64 (0), D.int i64 (0), D.int i64 (0), D.int i64 (0), D.bool false]) (0 + toNat (In.Port x)) [D.bool true, D.bool false, D.int i64 (0), D.int i64 (0), D.int i64 (0), D.int i64 (0), D.int i64 (0), D.int i64 (0), D.int i64 (3), D.int i64 (0), D.bool false]))))), D.sl true 11 rs0]] 0 0 true true false, Root.mk true 8 [En.enc true x] 0 0 true true false, Root.mk false 11 (enS true (deS Port (lendRows (enS true (Bridge.Ports b))))) 0 0 true true false, Root.mk false 8 es2 0 0 true true false]
theorem q77_4 (b : Bridge) (x : In) (n : Nat) (rs0 : List (List D)) (i1 : Int) (es2 : List (List D)) (f : St → RR) (K : Ex → St → RR) : B77_4 n (S77_4 b x rs0 i1 es2) (kThen (fun st ↦ f (St.head 3 129127208515966861481 154742431123696239524184960 st)) K) = bif decide (i1 < ofNat (length rs0)) then bif decide (0 ≤ i1) && decide (i1 < ofNat (length rs0)) then bif Leaf.fit true Leaf.bool (getD (getD rs0 (0 + toNat i1) []) 0 D.dead) && (Leaf.fit true Leaf.bool (getD (getD rs0 (0 + toNat i1) []) 1 D.dead) && (Leaf.fit true (Leaf.int i64) (getD (getD rs0 (0 + toNat i1) []) 2 D.dead) && (Leaf.fit true (Leaf.int i64) (getD (getD rs0 (0 + toNat i1) []) 3 D.dead) && (Leaf.fit true (Leaf.int i64) (getD (getD rs0 (0 + toNat i1) []) 4 D.dead) && (Leaf.fit true (Leaf.int i64) (getD (getD rs0 (0 + toNat i1) []) 5 D.dead) && (Leaf.fit true (Leaf.int i64) (getD (getD rs0 (0 + toNat i1) []) 6 D.dead) && (Leaf.fit true (Leaf.int i64) (getD (getD rs0 (0 + toNat i1) []) 7 D.dead) && (Leaf.fit true (Leaf.int i64) (getD (getD rs0 (0 + toNat i1) []) 8 D.dead) && (Leaf.fit true (Leaf.int i64) (getD (getD rs0 (0 + toNat i1) []) 9 D.dead) && (Leaf.fit true Leaf.bool (getD (getD rs0 (0 + toNat i1) []) 10 D.dead) && true)))))))))) then bif decide (0 ≤ i1) && decide (i1 < ofNat (length (enS true (deS Port (lendRows (enS true (Bridge.Ports b))))))) then bif Leaf.fit true Leaf.bool (getD (getD (enS true (deS Port (lendRows (enS true (Bridge.Ports b))))) (0 + toNat i1) []) 10 D.dead) && true then bif D.flag (getD (getD rs0 (0 + toNat i1) []) 10 D.dead) != D.flag (getD (getD (enS true (deS Port (lendRows (enS true (Bridge.Ports b))))) (0 + toNat i1) []) 10 D.dead) then bif decide ((length es2 + 1) * 64 ≤ 140737488355328) then f (S77_4 b x rs0 (wrap i64 (i1 + 1)) (append es2 [[D.int i64 (2), D.int i64 i1, D.int i64 (0), D.int i64 (0), D.int i64 (0), D.int i64 (0), D.int i64 (0), D.bool (D.flag (getD (getD rs0 (0 + toNat i1) []) 10 D.dead))]])) else none else f (S77_4 b x rs0 (wrap i64 (i1 + 1)) es2) else none else none else none else none else K (Ex.exit 1) (X77_8 b x rs0 es2) := by kernel_rfl
def S77_5 (b : Bridge) (x : In) (rs0 : List (List D)) (es2 : List (List D)) (i0 : Int) (es1 : List (List D)) : St := St.mk (V_ [C.ptr 0 0 0 [] 2 0 0] :: U_ :: U_ :: V_ [C.ptr 1 0 0 [] 8 0 0] :: U_ :: U_ :: U_ :: V_ [C.view 4 0 0 [] 8 none] :: u_ 82 (V_ [C.view 0 0 0 [(0, 1)] 11 none] :: I_ (ofNat (length rs0)) :: I_ i0 :: u_ 24 [])) [Root.mk true 2 [[D.int i64 (Bridge.Id (decideM (Bridge.mk (Bridge.Id b) (deS Port (set (set (enS true (Bridge.Ports b)) (0 + toNat (In.Port x)) [D.bool false, D.bool false, D.int i64 (0), D.int i64 (0), D.int i64 (0), D.int i64 (0), D.int i64 (0), D.int i64 (0), D.int i64 (0), D.int i64 (0), D.bool false]) (0 + toNat (In.Port x)) [D.bool true, D.bool false, D.int i64 (0), D.int i64 (0), D.int i64 (0), D.int i64 (0), D.int i64 (0), D.int i64 (0), D.int i64 (3), D.int i64 (0), D.bool false]))))), D.sl true 11 rs0]] 0 0 true true false, Root.mk true 8 [En.enc true x] 0 0 true true false, Root.mk false 11 (enS true (deS Port (lendRows (enS true (Bridge.Ports b))))) 0 0 true true false, Root.mk false 8 es2 0 0 false true false, Root.mk false 8 es1 0 0 true true false]
def B77_5 (n : Nat) : St → (Ex → St → RR) → RR := runCode (Ctx.mk prog Hx (77)) (Table.call T99) n (codeAt [1, 1, 1, 1, 1, 1, 1, 0, 1, 0, 0] (bodyOf f77)) (Lv.mk 8665580274997661924293869705 [(3, 128)] 16)
def X77_9 (b : Bridge) (x : In) (rs0 : List (List D)) (es2 : List (List D)) (es1 : List (List D)) : St := St.mk (u_ 7 (V_ [C.view 4 0 0 [] 8 none] :: u_ 109 [])) [Root.mk true 2 [[D.int i64 (Bridge.Id (decideM (Bridge.mk (Bridge.Id b) (deS Port (set (set (enS true (Bridge.Ports b)) (0 + toNat (In.Port x)) [D.bool false, D.bool false, D.int i64 (0), D.int i64 (0), D.int i64 (0), D.int i64 (0), D.int i64 (0), D.int i64 (0), D.int i64 (0), D.int i64 (0), D.bool false]) (0 + toNat (In.Port x)) [D.bool true, D.bool false, D.int i64 (0), D.int i64 (0), D.int i64 (0), D.int i64 (0), D.int i64 (0), D.int i64 (0), D.int i64 (3), D.int i64 (0), D.bool false]))))), D.sl true 11 rs0]] 0 0 true true false, Root.mk true 8 [En.enc true x] 0 0 true true false, Root.mk false 11 (enS true (deS Port (lendRows (enS true (Bridge.Ports b))))) 0 0 true true false, Root.mk false 8 es2 0 0 false true false, Root.mk false 8 es1 0 0 true true false]
def w77_10 (b : Bridge) (x : In) : List (List D) := set (enS true (Bridge.Ports b)) (0 + toNat (In.Port x)) [D.bool false, D.bool false, D.int i64 (0), D.int i64 (0), D.int i64 (0), D.int i64 (0), D.int i64 (0), D.int i64 (0), D.int i64 (0), D.int i64 (0), D.bool false]
theorem q77_5 (b : Bridge) (x : In) (n : Nat) (rs0 : List (List D)) (es2 : List (List D)) (i0 : Int) (es1 : List (List D)) (f : St → RR) (K : Ex → St → RR) : B77_5 n (S77_5 b x rs0 es2 i0 es1) (kThen (fun st ↦ f (St.head 4 8665580274997661924293869705 83076744784797084914966841671027840 st)) K) = bif decide (i0 < ofNat (length rs0)) then bif decide (0 ≤ i0) && decide (i0 < ofNat (length rs0)) then bif Leaf.fit true Leaf.bool (getD (getD rs0 (0 + toNat i0) []) 0 D.dead) && (Leaf.fit true Leaf.bool (getD (getD rs0 (0 + toNat i0) []) 1 D.dead) && (Leaf.fit true (Leaf.int i64) (getD (getD rs0 (0 + toNat i0) []) 2 D.dead) && (Leaf.fit true (Leaf.int i64) (getD (getD rs0 (0 + toNat i0) []) 3 D.dead) && (Leaf.fit true (Leaf.int i64) (getD (getD rs0 (0 + toNat i0) []) 4 D.dead) && (Leaf.fit true (Leaf.int i64) (getD (getD rs0 (0 + toNat i0) []) 5 D.dead) && (Leaf.fit true (Leaf.int i64) (getD (getD rs0 (0 + toNat i0) []) 6 D.dead) && (Leaf.fit true (Leaf.int i64) (getD (getD rs0 (0 + toNat i0) []) 7 D.dead) && (Leaf.fit true (Leaf.int i64) (getD (getD rs0 (0 + toNat i0) []) 8 D.dead) && (Leaf.fit true (Leaf.int i64) (getD (getD rs0 (0 + toNat i0) []) 9 D.dead) && (Leaf.fit true Leaf.bool (getD (getD rs0 (0 + toNat i0) []) 10 D.dead) && true)))))))))) then bif In.Kind x == 2 then bif D.num (getD (getD rs0 (0 + toNat i0) []) 8 D.dead) == 2 then bif isS Port false (lendRows rs0) && decide (length (deS Port (lendRows rs0)) ≤ 1048576) then bif isS Port false (lendRows rs0) && decide (length (deS Port (lendRows rs0)) ≤ 1048576) then bif decide ((length es1 + 1) * 64 ≤ 140737488355328) then f (S77_5 b x rs0 es2 (wrap i64 (i0 + 1)) (append es1 [[D.int i64 (1), D.int i64 i0, D.int i64 (Vec.Root (ownM (Bridge.mk (Bridge.Id (decideM (Bridge.mk (Bridge.Id b) (deS Port (set (w77_10 b x) (0 + toNat (In.Port x)) [D.bool true, D.bool false, D.int i64 (0), D.int i64 (0), D.int i64 (0), D.int i64 (0), D.int i64 (0), D.int i64 (0), D.int i64 (3), D.int i64 (0), D.bool false]))))) (deS Port (lendRows rs0))) i0)), D.int i64 (Vec.Cost (ownM (Bridge.mk (Bridge.Id (decideM (Bridge.mk (Bridge.Id b) (deS Port (set (w77_10 b x) (0 + toNat (In.Port x)) [D.bool true, D.bool false, D.int i64 (0), D.int i64 (0), D.int i64 (0), D.int i64 (0), D.int i64 (0), D.int i64 (0), D.int i64 (3), D.int i64 (0), D.bool false]))))) (deS Port (lendRows rs0))) i0)), D.int i64 (Vec.Bridge (ownM (Bridge.mk (Bridge.Id (decideM (Bridge.mk (Bridge.Id b) (deS Port (set (w77_10 b x) (0 + toNat (In.Port x)) [D.bool true, D.bool false, D.int i64 (0), D.int i64 (0), D.int i64 (0), D.int i64 (0), D.int i64 (0), D.int i64 (0), D.int i64 (3), D.int i64 (0), D.bool false]))))) (deS Port (lendRows rs0))) i0)), D.int i64 (Vec.Port (ownM (Bridge.mk (Bridge.Id (decideM (Bridge.mk (Bridge.Id b) (deS Port (set (w77_10 b x) (0 + toNat (In.Port x)) [D.bool true, D.bool false, D.int i64 (0), D.int i64 (0), D.int i64 (0), D.int i64 (0), D.int i64 (0), D.int i64 (0), D.int i64 (3), D.int i64 (0), D.bool false]))))) (deS Port (lendRows rs0))) i0)), D.int i64 (hopsM (Bridge.mk (Bridge.Id (decideM (Bridge.mk (Bridge.Id b) (deS Port (set (w77_10 b x) (0 + toNat (In.Port x)) [D.bool true, D.bool false, D.int i64 (0), D.int i64 (0), D.int i64 (0), D.int i64 (0), D.int i64 (0), D.int i64 (0), D.int i64 (3), D.int i64 (0), D.bool false]))))) (deS Port (lendRows rs0)))), D.bool false]])) else none else none else none else f (S77_5 b x rs0 es2 (wrap i64 (i0 + 1)) es1) else f (S77_5 b x rs0 es2 (wrap i64 (i0 + 1)) es1) else none else none else K (Ex.exit 3) (X77_9 b x rs0 es2 es1) := by kernel_rfl
def w77_11 (b : Bridge) (x : In) : List (List D) := set (enS true (Bridge.Ports b)) (0 + toNat (In.Port x)) [D.bool false, D.bool false, D.int i64 (0), D.int i64 (0), D.int i64 (0), D.int i64 (0), D.int i64 (0), D.int i64 (0), D.int i64 (0), D.int i64 (0), D.bool false]
theorem aX77_9 (b : Bridge) (x : In) (n : Nat) (rs0 : List (List D)) (es2 : List (List D)) (es1 : List (List D)) : k77_4 n (Ex.exit 3) (X77_9 b x rs0 es2 es1) = some ([[D.sl true 8 es1]], [[D.int i64 (Bridge.Id (decideM (Bridge.mk (Bridge.Id b) (deS Port (set (w77_11 b x) (0 + toNat (In.Port x)) [D.bool true, D.bool false, D.int i64 (0), D.int i64 (0), D.int i64 (0), D.int i64 (0), D.int i64 (0), D.int i64 (0), D.int i64 (3), D.int i64 (0), D.bool false]))))), D.sl true 11 rs0]]) := by kernel_rfl
theorem aX77_8 (b : Bridge) (x : In) (n : Nat) (rs0 : List (List D)) (es2 : List (List D)) : k77_1 n (Ex.exit 1) (X77_8 b x rs0 es2) = loopRun (B77_5 n) 4 8665580274997661924293869705 83076744784797084914966841671027840 n (S77_5 b x rs0 es2 (0) es2) (k77_4 n) := by kernel_rfl
def S77_6 (b : Bridge) (x : In) (rs0 : List (List D)) (i1 : Int) (es2 : List (List D)) : St := St.mk (V_ [C.ptr 0 0 0 [] 2 0 0] :: U_ :: U_ :: V_ [C.ptr 1 0 0 [] 8 0 0] :: U_ :: V_ [C.view 2 0 0 [] 11 none] :: U_ :: V_ [C.view 3 0 0 [] 8 none] :: u_ 56 (V_ [C.view 0 0 0 [(0, 1)] 11 none] :: I_ (ofNat (length rs0)) :: I_ i1 :: u_ 50 [])) [Root.mk true 2 [[D.int i64 (Bridge.Id (decideM (Bridge.mk (Bridge.Id b) (deS Port (set (enS true (Bridge.Ports b)) (0 + toNat (In.Port x)) [D.bool false, D.bool false, D.int i64 (0), D.int i64 (0), D.int i64 (0), D.int i64 (0), D.int i64 (0), D.int i64 (0), D.int i64 (0), D.int i64 (0), D.bool false]))))), D.sl true 11 rs0]] 0 0 true true false, Root.mk true 8 [En.enc true x] 0 0 true true false, Root.mk false 11 (enS true (deS Port (lendRows (enS true (Bridge.Ports b))))) 0 0 true true false, Root.mk false 8 es2 0 0 true true false]
def B77_6 (n : Nat) : St → (Ex → St → RR) → RR := runCode (Ctx.mk prog Hx (77)) (Table.call T99) n (codeAt [1, 1, 1, 1, 1, 1, 0, 1, 0, 0] (bodyOf f77)) (Lv.mk 129127208515966861481 [(1, 137)] 16)
def X77_12 (b : Bridge) (x : In) (rs0 : List (List D)) (es2 : List (List D)) : St := St.mk (V_ [C.ptr 0 0 0 [] 2 0 0] :: U_ :: U_ :: V_ [C.ptr 1 0 0 [] 8 0 0] :: U_ :: U_ :: U_ :: V_ [C.view 3 0 0 [] 8 none] :: u_ 109 []) [Root.mk true 2 [[D.int i64 (Bridge.Id (decideM (Bridge.mk (Bridge.Id b) (deS Port (set (enS true (Bridge.Ports b)) (0 + toNat (In.Port x)) [D.bool false, D.bool false, D.int i64 (0), D.int i64 (0), D.int i64 (0), D.int i64 (0), D.int i64 (0), D.int i64 (0), D.int i64 (0), D.int i64 (0), D.bool false]))))), D.sl true 11 rs0]] 0 0 true true false, Root.mk true 8 [En.enc true x] 0 0 true true false, Root.mk false 11 (enS true (deS Port (lendRows (enS true (Bridge.Ports b))))) 0 0 true true false, Root.mk false 8 es2 0 0 true true false]
theorem q77_6 (b : Bridge) (x : In) (n : Nat) (rs0 : List (List D)) (i1 : Int) (es2 : List (List D)) (f : St → RR) (K : Ex → St → RR) : B77_6 n (S77_6 b x rs0 i1 es2) (kThen (fun st ↦ f (St.head 3 129127208515966861481 154742431123696239524184960 st)) K) = bif decide (i1 < ofNat (length rs0)) then bif decide (0 ≤ i1) && decide (i1 < ofNat (length rs0)) then bif Leaf.fit true Leaf.bool (getD (getD rs0 (0 + toNat i1) []) 0 D.dead) && (Leaf.fit true Leaf.bool (getD (getD rs0 (0 + toNat i1) []) 1 D.dead) && (Leaf.fit true (Leaf.int i64) (getD (getD rs0 (0 + toNat i1) []) 2 D.dead) && (Leaf.fit true (Leaf.int i64) (getD (getD rs0 (0 + toNat i1) []) 3 D.dead) && (Leaf.fit true (Leaf.int i64) (getD (getD rs0 (0 + toNat i1) []) 4 D.dead) && (Leaf.fit true (Leaf.int i64) (getD (getD rs0 (0 + toNat i1) []) 5 D.dead) && (Leaf.fit true (Leaf.int i64) (getD (getD rs0 (0 + toNat i1) []) 6 D.dead) && (Leaf.fit true (Leaf.int i64) (getD (getD rs0 (0 + toNat i1) []) 7 D.dead) && (Leaf.fit true (Leaf.int i64) (getD (getD rs0 (0 + toNat i1) []) 8 D.dead) && (Leaf.fit true (Leaf.int i64) (getD (getD rs0 (0 + toNat i1) []) 9 D.dead) && (Leaf.fit true Leaf.bool (getD (getD rs0 (0 + toNat i1) []) 10 D.dead) && true)))))))))) then bif decide (0 ≤ i1) && decide (i1 < ofNat (length (enS true (deS Port (lendRows (enS true (Bridge.Ports b))))))) then bif Leaf.fit true Leaf.bool (getD (getD (enS true (deS Port (lendRows (enS true (Bridge.Ports b))))) (0 + toNat i1) []) 10 D.dead) && true then bif D.flag (getD (getD rs0 (0 + toNat i1) []) 10 D.dead) != D.flag (getD (getD (enS true (deS Port (lendRows (enS true (Bridge.Ports b))))) (0 + toNat i1) []) 10 D.dead) then bif decide ((length es2 + 1) * 64 ≤ 140737488355328) then f (S77_6 b x rs0 (wrap i64 (i1 + 1)) (append es2 [[D.int i64 (2), D.int i64 i1, D.int i64 (0), D.int i64 (0), D.int i64 (0), D.int i64 (0), D.int i64 (0), D.bool (D.flag (getD (getD rs0 (0 + toNat i1) []) 10 D.dead))]])) else none else f (S77_6 b x rs0 (wrap i64 (i1 + 1)) es2) else none else none else none else none else K (Ex.exit 1) (X77_12 b x rs0 es2) := by kernel_rfl
def S77_7 (b : Bridge) (x : In) (rs0 : List (List D)) (es2 : List (List D)) (i0 : Int) (es1 : List (List D)) : St := St.mk (V_ [C.ptr 0 0 0 [] 2 0 0] :: U_ :: U_ :: V_ [C.ptr 1 0 0 [] 8 0 0] :: U_ :: U_ :: U_ :: V_ [C.view 4 0 0 [] 8 none] :: u_ 82 (V_ [C.view 0 0 0 [(0, 1)] 11 none] :: I_ (ofNat (length rs0)) :: I_ i0 :: u_ 24 [])) [Root.mk true 2 [[D.int i64 (Bridge.Id (decideM (Bridge.mk (Bridge.Id b) (deS Port (set (enS true (Bridge.Ports b)) (0 + toNat (In.Port x)) [D.bool false, D.bool false, D.int i64 (0), D.int i64 (0), D.int i64 (0), D.int i64 (0), D.int i64 (0), D.int i64 (0), D.int i64 (0), D.int i64 (0), D.bool false]))))), D.sl true 11 rs0]] 0 0 true true false, Root.mk true 8 [En.enc true x] 0 0 true true false, Root.mk false 11 (enS true (deS Port (lendRows (enS true (Bridge.Ports b))))) 0 0 true true false, Root.mk false 8 es2 0 0 false true false, Root.mk false 8 es1 0 0 true true false]
def B77_7 (n : Nat) : St → (Ex → St → RR) → RR := runCode (Ctx.mk prog Hx (77)) (Table.call T99) n (codeAt [1, 1, 1, 1, 1, 1, 1, 0, 1, 0, 0] (bodyOf f77)) (Lv.mk 8665580274997661924293869705 [(3, 128)] 16)
def X77_13 (b : Bridge) (x : In) (rs0 : List (List D)) (es2 : List (List D)) (es1 : List (List D)) : St := St.mk (u_ 7 (V_ [C.view 4 0 0 [] 8 none] :: u_ 109 [])) [Root.mk true 2 [[D.int i64 (Bridge.Id (decideM (Bridge.mk (Bridge.Id b) (deS Port (set (enS true (Bridge.Ports b)) (0 + toNat (In.Port x)) [D.bool false, D.bool false, D.int i64 (0), D.int i64 (0), D.int i64 (0), D.int i64 (0), D.int i64 (0), D.int i64 (0), D.int i64 (0), D.int i64 (0), D.bool false]))))), D.sl true 11 rs0]] 0 0 true true false, Root.mk true 8 [En.enc true x] 0 0 true true false, Root.mk false 11 (enS true (deS Port (lendRows (enS true (Bridge.Ports b))))) 0 0 true true false, Root.mk false 8 es2 0 0 false true false, Root.mk false 8 es1 0 0 true true false]
theorem q77_7 (b : Bridge) (x : In) (n : Nat) (rs0 : List (List D)) (es2 : List (List D)) (i0 : Int) (es1 : List (List D)) (f : St → RR) (K : Ex → St → RR) : B77_7 n (S77_7 b x rs0 es2 i0 es1) (kThen (fun st ↦ f (St.head 4 8665580274997661924293869705 83076744784797084914966841671027840 st)) K) = bif decide (i0 < ofNat (length rs0)) then bif decide (0 ≤ i0) && decide (i0 < ofNat (length rs0)) then bif Leaf.fit true Leaf.bool (getD (getD rs0 (0 + toNat i0) []) 0 D.dead) && (Leaf.fit true Leaf.bool (getD (getD rs0 (0 + toNat i0) []) 1 D.dead) && (Leaf.fit true (Leaf.int i64) (getD (getD rs0 (0 + toNat i0) []) 2 D.dead) && (Leaf.fit true (Leaf.int i64) (getD (getD rs0 (0 + toNat i0) []) 3 D.dead) && (Leaf.fit true (Leaf.int i64) (getD (getD rs0 (0 + toNat i0) []) 4 D.dead) && (Leaf.fit true (Leaf.int i64) (getD (getD rs0 (0 + toNat i0) []) 5 D.dead) && (Leaf.fit true (Leaf.int i64) (getD (getD rs0 (0 + toNat i0) []) 6 D.dead) && (Leaf.fit true (Leaf.int i64) (getD (getD rs0 (0 + toNat i0) []) 7 D.dead) && (Leaf.fit true (Leaf.int i64) (getD (getD rs0 (0 + toNat i0) []) 8 D.dead) && (Leaf.fit true (Leaf.int i64) (getD (getD rs0 (0 + toNat i0) []) 9 D.dead) && (Leaf.fit true Leaf.bool (getD (getD rs0 (0 + toNat i0) []) 10 D.dead) && true)))))))))) then bif In.Kind x == 2 then bif D.num (getD (getD rs0 (0 + toNat i0) []) 8 D.dead) == 2 then bif isS Port false (lendRows rs0) && decide (length (deS Port (lendRows rs0)) ≤ 1048576) then bif isS Port false (lendRows rs0) && decide (length (deS Port (lendRows rs0)) ≤ 1048576) then bif decide ((length es1 + 1) * 64 ≤ 140737488355328) then f (S77_7 b x rs0 es2 (wrap i64 (i0 + 1)) (append es1 [[D.int i64 (1), D.int i64 i0, D.int i64 (Vec.Root (ownM (Bridge.mk (Bridge.Id (decideM (Bridge.mk (Bridge.Id b) (deS Port (set (enS true (Bridge.Ports b)) (0 + toNat (In.Port x)) [D.bool false, D.bool false, D.int i64 (0), D.int i64 (0), D.int i64 (0), D.int i64 (0), D.int i64 (0), D.int i64 (0), D.int i64 (0), D.int i64 (0), D.bool false]))))) (deS Port (lendRows rs0))) i0)), D.int i64 (Vec.Cost (ownM (Bridge.mk (Bridge.Id (decideM (Bridge.mk (Bridge.Id b) (deS Port (set (enS true (Bridge.Ports b)) (0 + toNat (In.Port x)) [D.bool false, D.bool false, D.int i64 (0), D.int i64 (0), D.int i64 (0), D.int i64 (0), D.int i64 (0), D.int i64 (0), D.int i64 (0), D.int i64 (0), D.bool false]))))) (deS Port (lendRows rs0))) i0)), D.int i64 (Vec.Bridge (ownM (Bridge.mk (Bridge.Id (decideM (Bridge.mk (Bridge.Id b) (deS Port (set (enS true (Bridge.Ports b)) (0 + toNat (In.Port x)) [D.bool false, D.bool false, D.int i64 (0), D.int i64 (0), D.int i64 (0), D.int i64 (0), D.int i64 (0), D.int i64 (0), D.int i64 (0), D.int i64 (0), D.bool false]))))) (deS Port (lendRows rs0))) i0)), D.int i64 (Vec.Port (ownM (Bridge.mk (Bridge.Id (decideM (Bridge.mk (Bridge.Id b) (deS Port (set (enS true (Bridge.Ports b)) (0 + toNat (In.Port x)) [D.bool false, D.bool false, D.int i64 (0), D.int i64 (0), D.int i64 (0), D.int i64 (0), D.int i64 (0), D.int i64 (0), D.int i64 (0), D.int i64 (0), D.bool false]))))) (deS Port (lendRows rs0))) i0)), D.int i64 (hopsM (Bridge.mk (Bridge.Id (decideM (Bridge.mk (Bridge.Id b) (deS Port (set (enS true (Bridge.Ports b)) (0 + toNat (In.Port x)) [D.bool false, D.bool false, D.int i64 (0), D.int i64 (0), D.int i64 (0), D.int i64 (0), D.int i64 (0), D.int i64 (0), D.int i64 (0), D.int i64 (0), D.bool false]))))) (deS Port (lendRows rs0)))), D.bool false]])) else none else none else none else f (S77_7 b x rs0 es2 (wrap i64 (i0 + 1)) es1) else f (S77_7 b x rs0 es2 (wrap i64 (i0 + 1)) es1) else none else none else K (Ex.exit 3) (X77_13 b x rs0 es2 es1) := by kernel_rfl
theorem aX77_13 (b : Bridge) (x : In) (n : Nat) (rs0 : List (List D)) (es2 : List (List D)) (es1 : List (List D)) : k77_4 n (Ex.exit 3) (X77_13 b x rs0 es2 es1) = some ([[D.sl true 8 es1]], [[D.int i64 (Bridge.Id (decideM (Bridge.mk (Bridge.Id b) (deS Port (set (enS true (Bridge.Ports b)) (0 + toNat (In.Port x)) [D.bool false, D.bool false, D.int i64 (0), D.int i64 (0), D.int i64 (0), D.int i64 (0), D.int i64 (0), D.int i64 (0), D.int i64 (0), D.int i64 (0), D.bool false]))))), D.sl true 11 rs0]]) := by kernel_rfl
theorem aX77_12 (b : Bridge) (x : In) (n : Nat) (rs0 : List (List D)) (es2 : List (List D)) : k77_1 n (Ex.exit 1) (X77_12 b x rs0 es2) = loopRun (B77_7 n) 4 8665580274997661924293869705 83076744784797084914966841671027840 n (S77_7 b x rs0 es2 (0) es2) (k77_4 n) := by kernel_rfl
def S77_8 (b : Bridge) (x : In) (rs0 : List (List D)) (i1 : Int) (es2 : List (List D)) : St := St.mk (V_ [C.ptr 0 0 0 [] 2 0 0] :: U_ :: U_ :: V_ [C.ptr 1 0 0 [] 8 0 0] :: U_ :: V_ [C.view 2 0 0 [] 11 none] :: U_ :: V_ [C.view 3 0 0 [] 8 none] :: u_ 56 (V_ [C.view 0 0 0 [(0, 1)] 11 none] :: I_ (ofNat (length rs0)) :: I_ i1 :: u_ 50 [])) [Root.mk true 2 [[D.int i64 (Bridge.Id (decideM (Bridge.mk (Bridge.Id b) (deS Port (enS true (Bridge.Ports b)))))), D.sl true 11 rs0]] 0 0 true true false, Root.mk true 8 [En.enc true x] 0 0 true true false, Root.mk false 11 (enS true (deS Port (lendRows (enS true (Bridge.Ports b))))) 0 0 true true false, Root.mk false 8 es2 0 0 true true false]
def B77_8 (n : Nat) : St → (Ex → St → RR) → RR := runCode (Ctx.mk prog Hx (77)) (Table.call T99) n (codeAt [1, 1, 1, 1, 1, 1, 0, 1, 0, 0] (bodyOf f77)) (Lv.mk 129127208515966861481 [(1, 137)] 16)
def X77_14 (b : Bridge) (x : In) (rs0 : List (List D)) (es2 : List (List D)) : St := St.mk (V_ [C.ptr 0 0 0 [] 2 0 0] :: U_ :: U_ :: V_ [C.ptr 1 0 0 [] 8 0 0] :: U_ :: U_ :: U_ :: V_ [C.view 3 0 0 [] 8 none] :: u_ 109 []) [Root.mk true 2 [[D.int i64 (Bridge.Id (decideM (Bridge.mk (Bridge.Id b) (deS Port (enS true (Bridge.Ports b)))))), D.sl true 11 rs0]] 0 0 true true false, Root.mk true 8 [En.enc true x] 0 0 true true false, Root.mk false 11 (enS true (deS Port (lendRows (enS true (Bridge.Ports b))))) 0 0 true true false, Root.mk false 8 es2 0 0 true true false]
theorem q77_8 (b : Bridge) (x : In) (n : Nat) (rs0 : List (List D)) (i1 : Int) (es2 : List (List D)) (f : St → RR) (K : Ex → St → RR) : B77_8 n (S77_8 b x rs0 i1 es2) (kThen (fun st ↦ f (St.head 3 129127208515966861481 154742431123696239524184960 st)) K) = bif decide (i1 < ofNat (length rs0)) then bif decide (0 ≤ i1) && decide (i1 < ofNat (length rs0)) then bif Leaf.fit true Leaf.bool (getD (getD rs0 (0 + toNat i1) []) 0 D.dead) && (Leaf.fit true Leaf.bool (getD (getD rs0 (0 + toNat i1) []) 1 D.dead) && (Leaf.fit true (Leaf.int i64) (getD (getD rs0 (0 + toNat i1) []) 2 D.dead) && (Leaf.fit true (Leaf.int i64) (getD (getD rs0 (0 + toNat i1) []) 3 D.dead) && (Leaf.fit true (Leaf.int i64) (getD (getD rs0 (0 + toNat i1) []) 4 D.dead) && (Leaf.fit true (Leaf.int i64) (getD (getD rs0 (0 + toNat i1) []) 5 D.dead) && (Leaf.fit true (Leaf.int i64) (getD (getD rs0 (0 + toNat i1) []) 6 D.dead) && (Leaf.fit true (Leaf.int i64) (getD (getD rs0 (0 + toNat i1) []) 7 D.dead) && (Leaf.fit true (Leaf.int i64) (getD (getD rs0 (0 + toNat i1) []) 8 D.dead) && (Leaf.fit true (Leaf.int i64) (getD (getD rs0 (0 + toNat i1) []) 9 D.dead) && (Leaf.fit true Leaf.bool (getD (getD rs0 (0 + toNat i1) []) 10 D.dead) && true)))))))))) then bif decide (0 ≤ i1) && decide (i1 < ofNat (length (enS true (deS Port (lendRows (enS true (Bridge.Ports b))))))) then bif Leaf.fit true Leaf.bool (getD (getD (enS true (deS Port (lendRows (enS true (Bridge.Ports b))))) (0 + toNat i1) []) 10 D.dead) && true then bif D.flag (getD (getD rs0 (0 + toNat i1) []) 10 D.dead) != D.flag (getD (getD (enS true (deS Port (lendRows (enS true (Bridge.Ports b))))) (0 + toNat i1) []) 10 D.dead) then bif decide ((length es2 + 1) * 64 ≤ 140737488355328) then f (S77_8 b x rs0 (wrap i64 (i1 + 1)) (append es2 [[D.int i64 (2), D.int i64 i1, D.int i64 (0), D.int i64 (0), D.int i64 (0), D.int i64 (0), D.int i64 (0), D.bool (D.flag (getD (getD rs0 (0 + toNat i1) []) 10 D.dead))]])) else none else f (S77_8 b x rs0 (wrap i64 (i1 + 1)) es2) else none else none else none else none else K (Ex.exit 1) (X77_14 b x rs0 es2) := by kernel_rfl
def S77_9 (b : Bridge) (x : In) (rs0 : List (List D)) (es2 : List (List D)) (i0 : Int) (es1 : List (List D)) : St := St.mk (V_ [C.ptr 0 0 0 [] 2 0 0] :: U_ :: U_ :: V_ [C.ptr 1 0 0 [] 8 0 0] :: U_ :: U_ :: U_ :: V_ [C.view 4 0 0 [] 8 none] :: u_ 82 (V_ [C.view 0 0 0 [(0, 1)] 11 none] :: I_ (ofNat (length rs0)) :: I_ i0 :: u_ 24 [])) [Root.mk true 2 [[D.int i64 (Bridge.Id (decideM (Bridge.mk (Bridge.Id b) (deS Port (enS true (Bridge.Ports b)))))), D.sl true 11 rs0]] 0 0 true true false, Root.mk true 8 [En.enc true x] 0 0 true true false, Root.mk false 11 (enS true (deS Port (lendRows (enS true (Bridge.Ports b))))) 0 0 true true false, Root.mk false 8 es2 0 0 false true false, Root.mk false 8 es1 0 0 true true false]
def B77_9 (n : Nat) : St → (Ex → St → RR) → RR := runCode (Ctx.mk prog Hx (77)) (Table.call T99) n (codeAt [1, 1, 1, 1, 1, 1, 1, 0, 1, 0, 0] (bodyOf f77)) (Lv.mk 8665580274997661924293869705 [(3, 128)] 16)
def X77_15 (b : Bridge) (x : In) (rs0 : List (List D)) (es2 : List (List D)) (es1 : List (List D)) : St := St.mk (u_ 7 (V_ [C.view 4 0 0 [] 8 none] :: u_ 109 [])) [Root.mk true 2 [[D.int i64 (Bridge.Id (decideM (Bridge.mk (Bridge.Id b) (deS Port (enS true (Bridge.Ports b)))))), D.sl true 11 rs0]] 0 0 true true false, Root.mk true 8 [En.enc true x] 0 0 true true false, Root.mk false 11 (enS true (deS Port (lendRows (enS true (Bridge.Ports b))))) 0 0 true true false, Root.mk false 8 es2 0 0 false true false, Root.mk false 8 es1 0 0 true true false]
theorem q77_9 (b : Bridge) (x : In) (n : Nat) (rs0 : List (List D)) (es2 : List (List D)) (i0 : Int) (es1 : List (List D)) (f : St → RR) (K : Ex → St → RR) : B77_9 n (S77_9 b x rs0 es2 i0 es1) (kThen (fun st ↦ f (St.head 4 8665580274997661924293869705 83076744784797084914966841671027840 st)) K) = bif decide (i0 < ofNat (length rs0)) then bif decide (0 ≤ i0) && decide (i0 < ofNat (length rs0)) then bif Leaf.fit true Leaf.bool (getD (getD rs0 (0 + toNat i0) []) 0 D.dead) && (Leaf.fit true Leaf.bool (getD (getD rs0 (0 + toNat i0) []) 1 D.dead) && (Leaf.fit true (Leaf.int i64) (getD (getD rs0 (0 + toNat i0) []) 2 D.dead) && (Leaf.fit true (Leaf.int i64) (getD (getD rs0 (0 + toNat i0) []) 3 D.dead) && (Leaf.fit true (Leaf.int i64) (getD (getD rs0 (0 + toNat i0) []) 4 D.dead) && (Leaf.fit true (Leaf.int i64) (getD (getD rs0 (0 + toNat i0) []) 5 D.dead) && (Leaf.fit true (Leaf.int i64) (getD (getD rs0 (0 + toNat i0) []) 6 D.dead) && (Leaf.fit true (Leaf.int i64) (getD (getD rs0 (0 + toNat i0) []) 7 D.dead) && (Leaf.fit true (Leaf.int i64) (getD (getD rs0 (0 + toNat i0) []) 8 D.dead) && (Leaf.fit true (Leaf.int i64) (getD (getD rs0 (0 + toNat i0) []) 9 D.dead) && (Leaf.fit true Leaf.bool (getD (getD rs0 (0 + toNat i0) []) 10 D.dead) && true)))))))))) then bif In.Kind x == 2 then bif D.num (getD (getD rs0 (0 + toNat i0) []) 8 D.dead) == 2 then bif isS Port false (lendRows rs0) && decide (length (deS Port (lendRows rs0)) ≤ 1048576) then bif isS Port false (lendRows rs0) && decide (length (deS Port (lendRows rs0)) ≤ 1048576) then bif decide ((length es1 + 1) * 64 ≤ 140737488355328) then f (S77_9 b x rs0 es2 (wrap i64 (i0 + 1)) (append es1 [[D.int i64 (1), D.int i64 i0, D.int i64 (Vec.Root (ownM (Bridge.mk (Bridge.Id (decideM (Bridge.mk (Bridge.Id b) (deS Port (enS true (Bridge.Ports b)))))) (deS Port (lendRows rs0))) i0)), D.int i64 (Vec.Cost (ownM (Bridge.mk (Bridge.Id (decideM (Bridge.mk (Bridge.Id b) (deS Port (enS true (Bridge.Ports b)))))) (deS Port (lendRows rs0))) i0)), D.int i64 (Vec.Bridge (ownM (Bridge.mk (Bridge.Id (decideM (Bridge.mk (Bridge.Id b) (deS Port (enS true (Bridge.Ports b)))))) (deS Port (lendRows rs0))) i0)), D.int i64 (Vec.Port (ownM (Bridge.mk (Bridge.Id (decideM (Bridge.mk (Bridge.Id b) (deS Port (enS true (Bridge.Ports b)))))) (deS Port (lendRows rs0))) i0)), D.int i64 (hopsM (Bridge.mk (Bridge.Id (decideM (Bridge.mk (Bridge.Id b) (deS Port (enS true (Bridge.Ports b)))))) (deS Port (lendRows rs0)))), D.bool false]])) else none else none else none else f (S77_9 b x rs0 es2 (wrap i64 (i0 + 1)) es1) else f (S77_9 b x rs0 es2 (wrap i64 (i0 + 1)) es1) else none else none else K (Ex.exit 3) (X77_15 b x rs0 es2 es1) := by kernel_rfl
theorem aX77_15 (b : Bridge) (x : In) (n : Nat) (rs0 : List (List D)) (es2 : List (List D)) (es1 : List (List D)) : k77_4 n (Ex.exit 3) (X77_15 b x rs0 es2 es1) = some ([[D.sl true 8 es1]], [[D.int i64 (Bridge.Id (decideM (Bridge.mk (Bridge.Id b) (deS Port (enS true (Bridge.Ports b)))))), D.sl true 11 rs0]]) := by kernel_rfl
theorem aX77_14 (b : Bridge) (x : In) (n : Nat) (rs0 : List (List D)) (es2 : List (List D)) : k77_1 n (Ex.exit 1) (X77_14 b x rs0 es2) = loopRun (B77_9 n) 4 8665580274997661924293869705 83076744784797084914966841671027840 n (S77_9 b x rs0 es2 (0) es2) (k77_4 n) := by kernel_rfl
def w77_16 (b : Bridge) (x : In) : List (List D) := set (enS true (Bridge.Ports b)) (0 + toNat (In.Port x)) [D.bool false, D.bool false, D.int i64 (0), D.int i64 (0), D.int i64 (0), D.int i64 (0), D.int i64 (0), D.int i64 (0), D.int i64 (0), D.int i64 (0), D.bool false]
def v77_17 (b : Bridge) : List (List D) := lendRows (enS true (Bridge.Ports b))
def v77_18 (b : Bridge) : List Port := deS Port (v77_17 b)
def v77_19 (b : Bridge) : Int := ofNat (length (enS true (Bridge.Ports b)))
def v77_20 (b : Bridge) (x : In) : List D := getD (enS true (Bridge.Ports b)) (0 + toNat (In.Port x)) []
def v77_21 (b : Bridge) (x : In) : Bool := Leaf.fit true Leaf.bool (getD (v77_20 b x) 0 D.dead)
def v77_22 (b : Bridge) (x : In) : Bool := D.flag (getD (v77_20 b x) 0 D.dead)
def v77_23 (b : Bridge) (x : In) : List (List D) := set (enS true (Bridge.Ports b)) (0 + toNat (In.Port x)) (En.enc true (claimM (Port.mk (v77_22 b x) (D.flag (getD (v77_20 b x) 1 D.dead)) (Vec.mk (D.num (getD (v77_20 b x) 2 D.dead)) (D.num (getD (v77_20 b x) 3 D.dead)) (D.num (getD (v77_20 b x) 4 D.dead)) (D.num (getD (v77_20 b x) 5 D.dead))) (D.num (getD (v77_20 b x) 6 D.dead)) (D.num (getD (v77_20 b x) 7 D.dead)) (D.num (getD (v77_20 b x) 8 D.dead)) (D.num (getD (v77_20 b x) 9 D.dead)) (D.flag (getD (v77_20 b x) 10 D.dead))) (In.Vec x) (In.Hops x)))
def v77_24 (b : Bridge) (x : In) : List Port := deS Port (v77_23 b x)
def v77_25 (b : Bridge) : Bool := isS Port true (enS true (Bridge.Ports b))
def v77_26 (b : Bridge) : List Port := deS Port (enS true (Bridge.Ports b))
def v77_27 (b : Bridge) : List (List D) := enS true (Bridge.Ports (tickM (Bridge.mk (Bridge.Id b) (v77_26 b))))
def v77_28 (b : Bridge) : List Port := deS Port (v77_27 b)
def v77_29 (b : Bridge) (x : In) : List (List D) := set (w77_16 b x) (0 + toNat (In.Port x)) [D.bool true, D.bool false, D.int i64 (0), D.int i64 (0), D.int i64 (0), D.int i64 (0), D.int i64 (0), D.int i64 (0), D.int i64 (3), D.int i64 (0), D.bool false]
def v77_30 (b : Bridge) (x : In) : List Port := deS Port (v77_29 b x)
theorem r77 (b : Bridge) (x : In) (n : Nat) : evFn ⟨prog, Hx, 77⟩ T99.call n f77 [[.int .i64 b.Id, .sl true 11 (enS true b.Ports)], [.int .i64 x.Kind, .int .i64 x.Port, .int .i64 x.Vec.Root, .int .i64 x.Vec.Cost, .int .i64 x.Vec.Bridge, .int .i64 x.Vec.Port, .int .i64 x.Hops, .bool x.Up]] = bif isS Port false (v77_17 b) && decide (length (v77_18 b) ≤ 1048576) then bif deepRows (enS true (v77_18 b)) && true && true && true && true then bif decide (0 ≤ In.Port x) && decide (In.Port x < v77_19 b) then bif In.Kind x == 1 then bif v77_21 b x && (Leaf.fit true Leaf.bool (getD (v77_20 b x) 1 D.dead) && (Leaf.fit true (Leaf.int i64) (getD (v77_20 b x) 2 D.dead) && (Leaf.fit true (Leaf.int i64) (getD (v77_20 b x) 3 D.dead) && (Leaf.fit true (Leaf.int i64) (getD (v77_20 b x) 4 D.dead) && (Leaf.fit true (Leaf.int i64) (getD (v77_20 b x) 5 D.dead) && (Leaf.fit true (Leaf.int i64) (getD (v77_20 b x) 6 D.dead) && (Leaf.fit true (Leaf.int i64) (getD (v77_20 b x) 7 D.dead) && (Leaf.fit true (Leaf.int i64) (getD (v77_20 b x) 8 D.dead) && (Leaf.fit true (Leaf.int i64) (getD (v77_20 b x) 9 D.dead) && (Leaf.fit true Leaf.bool (getD (v77_20 b x) 10 D.dead) && true)))))))))) then bif isS Port true (v77_23 b x) && decide (length (v77_24 b x) ≤ 1048576) then loopRun (B77_0 n) 3 129127208515966861481 154742431123696239524184960 n (S77_0 b x (enS true (Bridge.Ports (decideM (Bridge.mk (Bridge.Id b) (v77_24 b x))))) (0) []) (k77_1 n) else none else none else bif In.Kind x == 2 then bif v77_25 b && bridgeOk (Bridge.mk (Bridge.Id b) (v77_26 b)) then bif isS Port true (v77_27 b) && decide (length (v77_28 b) ≤ 1048576) then loopRun (B77_2 n) 3 129127208515966861481 154742431123696239524184960 n (S77_2 b x (enS true (Bridge.Ports (decideM (Bridge.mk (Bridge.Id (tickM (Bridge.mk (Bridge.Id b) (v77_26 b)))) (v77_28 b))))) (0) []) (k77_1 n) else none else none else bif In.Kind x == 3 then bif v77_21 b x && true then bif decide (v77_22 b x = In.Up x) then some ([[D.sl true 8 []]], [En.enc true b]) else bif In.Up x then bif isS Port true (v77_29 b x) && decide (length (v77_30 b x) ≤ 1048576) then loopRun (B77_4 n) 3 129127208515966861481 154742431123696239524184960 n (S77_4 b x (enS true (Bridge.Ports (decideM (Bridge.mk (Bridge.Id b) (v77_30 b x))))) (0) []) (k77_1 n) else none else bif isS Port true (w77_16 b x) && decide (length (deS Port (w77_16 b x)) ≤ 1048576) then loopRun (B77_6 n) 3 129127208515966861481 154742431123696239524184960 n (S77_6 b x (enS true (Bridge.Ports (decideM (Bridge.mk (Bridge.Id b) (deS Port (w77_16 b x)))))) (0) []) (k77_1 n) else none else none else bif v77_25 b && decide (length (v77_26 b) ≤ 1048576) then loopRun (B77_8 n) 3 129127208515966861481 154742431123696239524184960 n (S77_8 b x (enS true (Bridge.Ports (decideM (Bridge.mk (Bridge.Id b) (v77_26 b))))) (0) []) (k77_1 n) else none else none else none else none := by kernel_rfl
theorem l77_c1 (b : Bridge) (x : In) (c : List Port) (es2 : List (List D)) (n : Nat) (hc : c.length ≤ 4) (hn : c.length < n) (acc : List Out) (ha : acc.length ≤ 100) :
    loopRun (B77_1 n) 4 8665580274997661924293869705 83076744784797084914966841671027840 n (S77_1 b x (enS true c) es2 0 (enS true acc)) (k77_4 n) = outR b.Id c (acc ++ bif x.Kind == 2 then claimsL ⟨b.Id, c⟩ 0 c else []) := by
  refine loop_list (xs := c) (fun i (ys : List Out) => S77_1 b x (enS true c) es2 (Int.ofNat i) (enS true ys)) (fun i ys => ys.length ≤ 100 + i) (fun i ys rest => outR b.Id c (ys ++ bif x.Kind == 2 then claimsL ⟨b.Id, c⟩ i rest else [])) ?_ ?_ n acc hn (by omega)
  · rintro ys _ f
    refine (q77_1 b x _ _ _ _ _ f _).trans ?_
    rw [end_lt, cond_false]
    refine (aX77_5 _ _ _ _ _ _).trans ?_
    rw [show (bif x.Kind == 2 then claimsL ⟨b.Id, c⟩ c.length [] else []) = ([] : List Out) by cases x.Kind == 2 <;> rfl, List.append_nil]
    rfl
  · rintro i ys hi hys f hf
    have hcl : decide (c.length ≤ 1048576) = true := decide_eq_true (by omega)
    have hr : decide ((ys.length + 1) * 64 ≤ 140737488355328) = true := decide_eq_true (by omega)
    refine (q77_1 b x _ _ _ _ _ f _).trans ?_
    simp only [deS_enS, lendRows_enS, isS_enS, enS_length, toNat_of, dec_lt, dec_ge, hi, decide_true, cond_true, Bool.and_self, Nat.zero_add, wrap_succ (show i < 4611686018427387904 by omega), enS_get true hi, hcl, hr]
    refine bif_t rfl ?_
    exact claim_step (b := ⟨b.Id, c⟩) (i := i) (q := c[i]) (rest := c.drop (i + 1)) (ys := ys) (kd := x.Kind) (fun es => f (S77_1 b x (enS true c) es2 (Int.ofNat (i + 1)) es)) (outR b.Id c) (fun zs hz => hf zs (by omega))
theorem l77_c3 (b : Bridge) (x : In) (c : List Port) (es2 : List (List D)) (n : Nat) (hc : c.length ≤ 4) (hn : c.length < n) (acc : List Out) (ha : acc.length ≤ 100) :
    loopRun (B77_3 n) 4 8665580274997661924293869705 83076744784797084914966841671027840 n (S77_3 b x (enS true c) es2 0 (enS true acc)) (k77_4 n) = outR b.Id c (acc ++ bif x.Kind == 2 then claimsL ⟨b.Id, c⟩ 0 c else []) := by
  refine loop_list (xs := c) (fun i (ys : List Out) => S77_3 b x (enS true c) es2 (Int.ofNat i) (enS true ys)) (fun i ys => ys.length ≤ 100 + i) (fun i ys rest => outR b.Id c (ys ++ bif x.Kind == 2 then claimsL ⟨b.Id, c⟩ i rest else [])) ?_ ?_ n acc hn (by omega)
  · rintro ys _ f
    refine (q77_3 b x _ _ _ _ _ f _).trans ?_
    rw [end_lt, cond_false]
    refine (aX77_7 _ _ _ _ _ _).trans ?_
    rw [show (bif x.Kind == 2 then claimsL ⟨b.Id, c⟩ c.length [] else []) = ([] : List Out) by cases x.Kind == 2 <;> rfl, List.append_nil]
    rfl
  · rintro i ys hi hys f hf
    have hcl : decide (c.length ≤ 1048576) = true := decide_eq_true (by omega)
    have hr : decide ((ys.length + 1) * 64 ≤ 140737488355328) = true := decide_eq_true (by omega)
    refine (q77_3 b x _ _ _ _ _ f _).trans ?_
    simp only [deS_enS, lendRows_enS, isS_enS, enS_length, toNat_of, dec_lt, dec_ge, hi, decide_true, cond_true, Bool.and_self, Nat.zero_add, wrap_succ (show i < 4611686018427387904 by omega), enS_get true hi, hcl, hr]
    refine bif_t rfl ?_
    exact claim_step (b := ⟨b.Id, c⟩) (i := i) (q := c[i]) (rest := c.drop (i + 1)) (ys := ys) (kd := x.Kind) (fun es => f (S77_3 b x (enS true c) es2 (Int.ofNat (i + 1)) es)) (outR b.Id c) (fun zs hz => hf zs (by omega))
theorem l77_c5 (b : Bridge) (x : In) (c : List Port) (es2 : List (List D)) (n : Nat) (hc : c.length ≤ 4) (hn : c.length < n) (acc : List Out) (ha : acc.length ≤ 100) :
    loopRun (B77_5 n) 4 8665580274997661924293869705 83076744784797084914966841671027840 n (S77_5 b x (enS true c) es2 0 (enS true acc)) (k77_4 n) = outR b.Id c (acc ++ bif x.Kind == 2 then claimsL ⟨b.Id, c⟩ 0 c else []) := by
  refine loop_list (xs := c) (fun i (ys : List Out) => S77_5 b x (enS true c) es2 (Int.ofNat i) (enS true ys)) (fun i ys => ys.length ≤ 100 + i) (fun i ys rest => outR b.Id c (ys ++ bif x.Kind == 2 then claimsL ⟨b.Id, c⟩ i rest else [])) ?_ ?_ n acc hn (by omega)
  · rintro ys _ f
    refine (q77_5 b x _ _ _ _ _ f _).trans ?_
    rw [end_lt, cond_false]
    refine (aX77_9 _ _ _ _ _ _).trans ?_
    rw [show (bif x.Kind == 2 then claimsL ⟨b.Id, c⟩ c.length [] else []) = ([] : List Out) by cases x.Kind == 2 <;> rfl, List.append_nil]
    rfl
  · rintro i ys hi hys f hf
    have hcl : decide (c.length ≤ 1048576) = true := decide_eq_true (by omega)
    have hr : decide ((ys.length + 1) * 64 ≤ 140737488355328) = true := decide_eq_true (by omega)
    refine (q77_5 b x _ _ _ _ _ f _).trans ?_
    simp only [deS_enS, lendRows_enS, isS_enS, enS_length, toNat_of, dec_lt, dec_ge, hi, decide_true, cond_true, Bool.and_self, Nat.zero_add, wrap_succ (show i < 4611686018427387904 by omega), enS_get true hi, hcl, hr]
    refine bif_t rfl ?_
    exact claim_step (b := ⟨b.Id, c⟩) (i := i) (q := c[i]) (rest := c.drop (i + 1)) (ys := ys) (kd := x.Kind) (fun es => f (S77_5 b x (enS true c) es2 (Int.ofNat (i + 1)) es)) (outR b.Id c) (fun zs hz => hf zs (by omega))
theorem l77_c7 (b : Bridge) (x : In) (c : List Port) (es2 : List (List D)) (n : Nat) (hc : c.length ≤ 4) (hn : c.length < n) (acc : List Out) (ha : acc.length ≤ 100) :
    loopRun (B77_7 n) 4 8665580274997661924293869705 83076744784797084914966841671027840 n (S77_7 b x (enS true c) es2 0 (enS true acc)) (k77_4 n) = outR b.Id c (acc ++ bif x.Kind == 2 then claimsL ⟨b.Id, c⟩ 0 c else []) := by
  refine loop_list (xs := c) (fun i (ys : List Out) => S77_7 b x (enS true c) es2 (Int.ofNat i) (enS true ys)) (fun i ys => ys.length ≤ 100 + i) (fun i ys rest => outR b.Id c (ys ++ bif x.Kind == 2 then claimsL ⟨b.Id, c⟩ i rest else [])) ?_ ?_ n acc hn (by omega)
  · rintro ys _ f
    refine (q77_7 b x _ _ _ _ _ f _).trans ?_
    rw [end_lt, cond_false]
    refine (aX77_13 _ _ _ _ _ _).trans ?_
    rw [show (bif x.Kind == 2 then claimsL ⟨b.Id, c⟩ c.length [] else []) = ([] : List Out) by cases x.Kind == 2 <;> rfl, List.append_nil]
    rfl
  · rintro i ys hi hys f hf
    have hcl : decide (c.length ≤ 1048576) = true := decide_eq_true (by omega)
    have hr : decide ((ys.length + 1) * 64 ≤ 140737488355328) = true := decide_eq_true (by omega)
    refine (q77_7 b x _ _ _ _ _ f _).trans ?_
    simp only [deS_enS, lendRows_enS, isS_enS, enS_length, toNat_of, dec_lt, dec_ge, hi, decide_true, cond_true, Bool.and_self, Nat.zero_add, wrap_succ (show i < 4611686018427387904 by omega), enS_get true hi, hcl, hr]
    refine bif_t rfl ?_
    exact claim_step (b := ⟨b.Id, c⟩) (i := i) (q := c[i]) (rest := c.drop (i + 1)) (ys := ys) (kd := x.Kind) (fun es => f (S77_7 b x (enS true c) es2 (Int.ofNat (i + 1)) es)) (outR b.Id c) (fun zs hz => hf zs (by omega))
theorem l77_c9 (b : Bridge) (x : In) (c : List Port) (es2 : List (List D)) (n : Nat) (hc : c.length ≤ 4) (hn : c.length < n) (acc : List Out) (ha : acc.length ≤ 100) :
    loopRun (B77_9 n) 4 8665580274997661924293869705 83076744784797084914966841671027840 n (S77_9 b x (enS true c) es2 0 (enS true acc)) (k77_4 n) = outR b.Id c (acc ++ bif x.Kind == 2 then claimsL ⟨b.Id, c⟩ 0 c else []) := by
  refine loop_list (xs := c) (fun i (ys : List Out) => S77_9 b x (enS true c) es2 (Int.ofNat i) (enS true ys)) (fun i ys => ys.length ≤ 100 + i) (fun i ys rest => outR b.Id c (ys ++ bif x.Kind == 2 then claimsL ⟨b.Id, c⟩ i rest else [])) ?_ ?_ n acc hn (by omega)
  · rintro ys _ f
    refine (q77_9 b x _ _ _ _ _ f _).trans ?_
    rw [end_lt, cond_false]
    refine (aX77_15 _ _ _ _ _ _).trans ?_
    rw [show (bif x.Kind == 2 then claimsL ⟨b.Id, c⟩ c.length [] else []) = ([] : List Out) by cases x.Kind == 2 <;> rfl, List.append_nil]
    rfl
  · rintro i ys hi hys f hf
    have hcl : decide (c.length ≤ 1048576) = true := decide_eq_true (by omega)
    have hr : decide ((ys.length + 1) * 64 ≤ 140737488355328) = true := decide_eq_true (by omega)
    refine (q77_9 b x _ _ _ _ _ f _).trans ?_
    simp only [deS_enS, lendRows_enS, isS_enS, enS_length, toNat_of, dec_lt, dec_ge, hi, decide_true, cond_true, Bool.and_self, Nat.zero_add, wrap_succ (show i < 4611686018427387904 by omega), enS_get true hi, hcl, hr]
    refine bif_t rfl ?_
    exact claim_step (b := ⟨b.Id, c⟩) (i := i) (q := c[i]) (rest := c.drop (i + 1)) (ys := ys) (kd := x.Kind) (fun es => f (S77_9 b x (enS true c) es2 (Int.ofNat (i + 1)) es)) (outR b.Id c) (fun zs hz => hf zs (by omega))
theorem l77_g0 (b : Bridge) (x : In) (c : List Port) (n : Nat) (hc : c.length ≤ 4) (hw : b.Ports.length = c.length) (hn : c.length < n) :
    loopRun (B77_0 n) 3 129127208515966861481 154742431123696239524184960 n (S77_0 b x (enS true c) 0 []) (k77_1 n) = outR b.Id c (gatesL 0 b.Ports c ++ bif x.Kind == 2 then claimsL ⟨b.Id, c⟩ 0 c else []) := by
  refine loop_list (xs := c) (fun i (ys : List Out) => S77_0 b x (enS true c) (Int.ofNat i) (enS true ys)) (fun i ys => ys.length ≤ i) (fun i ys rest => outR b.Id c ((ys ++ gatesL i (b.Ports.drop i) rest) ++ bif x.Kind == 2 then claimsL ⟨b.Id, c⟩ 0 c else [])) ?_ ?_ n [] hn (Nat.le_refl _)
  · rintro ys hys f
    refine (q77_0 b x _ _ _ _ f _).trans ?_
    rw [end_lt, cond_false]
    refine (aX77_2 _ _ _ _ _).trans ?_
    refine (l77_c1 b x c _ n hc hn ys (by omega)).trans ?_
    rw [show b.Ports.drop c.length = [] by rw [← hw, List.drop_length], show gatesL c.length [] [] = [] from rfl, List.append_nil]
  · rintro i ys hi hys f hf
    have hiw : i < b.Ports.length := by omega
    have hr : decide ((ys.length + 1) * 64 ≤ 140737488355328) = true := decide_eq_true (by omega)
    refine (q77_0 b x _ _ _ _ f _).trans ?_
    simp only [deS_enS, lendRows_enS, isS_enS, enS_length, toNat_of, dec_lt, dec_ge, hi, decide_true, cond_true, Bool.and_self, Nat.zero_add, wrap_succ (show i < 4611686018427387904 by omega), hiw, enS_get true hi, enS_get true hiw, hr]
    refine bif_t rfl (bif_t rfl ?_)
    rw [List.drop_eq_getElem_cons hiw]
    exact gate_step (i := i) (p := b.Ports[i]) (q := c[i]) (ps := b.Ports.drop (i + 1)) (qs := c.drop (i + 1)) (ys := ys) (fun es => f (S77_0 b x (enS true c) (Int.ofNat (i + 1)) es)) (fun l => outR b.Id c (l ++ bif x.Kind == 2 then claimsL ⟨b.Id, c⟩ 0 c else [])) (fun zs hz => hf zs (by omega))
theorem l77_g2 (b : Bridge) (x : In) (c : List Port) (n : Nat) (hc : c.length ≤ 4) (hw : b.Ports.length = c.length) (hn : c.length < n) :
    loopRun (B77_2 n) 3 129127208515966861481 154742431123696239524184960 n (S77_2 b x (enS true c) 0 []) (k77_1 n) = outR b.Id c (gatesL 0 b.Ports c ++ bif x.Kind == 2 then claimsL ⟨b.Id, c⟩ 0 c else []) := by
  refine loop_list (xs := c) (fun i (ys : List Out) => S77_2 b x (enS true c) (Int.ofNat i) (enS true ys)) (fun i ys => ys.length ≤ i) (fun i ys rest => outR b.Id c ((ys ++ gatesL i (b.Ports.drop i) rest) ++ bif x.Kind == 2 then claimsL ⟨b.Id, c⟩ 0 c else [])) ?_ ?_ n [] hn (Nat.le_refl _)
  · rintro ys hys f
    refine (q77_2 b x _ _ _ _ f _).trans ?_
    rw [end_lt, cond_false]
    refine (aX77_6 _ _ _ _ _).trans ?_
    refine (l77_c3 b x c _ n hc hn ys (by omega)).trans ?_
    rw [show b.Ports.drop c.length = [] by rw [← hw, List.drop_length], show gatesL c.length [] [] = [] from rfl, List.append_nil]
  · rintro i ys hi hys f hf
    have hiw : i < b.Ports.length := by omega
    have hr : decide ((ys.length + 1) * 64 ≤ 140737488355328) = true := decide_eq_true (by omega)
    refine (q77_2 b x _ _ _ _ f _).trans ?_
    simp only [deS_enS, lendRows_enS, isS_enS, enS_length, toNat_of, dec_lt, dec_ge, hi, decide_true, cond_true, Bool.and_self, Nat.zero_add, wrap_succ (show i < 4611686018427387904 by omega), hiw, enS_get true hi, enS_get true hiw, hr]
    refine bif_t rfl (bif_t rfl ?_)
    rw [List.drop_eq_getElem_cons hiw]
    exact gate_step (i := i) (p := b.Ports[i]) (q := c[i]) (ps := b.Ports.drop (i + 1)) (qs := c.drop (i + 1)) (ys := ys) (fun es => f (S77_2 b x (enS true c) (Int.ofNat (i + 1)) es)) (fun l => outR b.Id c (l ++ bif x.Kind == 2 then claimsL ⟨b.Id, c⟩ 0 c else [])) (fun zs hz => hf zs (by omega))
theorem l77_g4 (b : Bridge) (x : In) (c : List Port) (n : Nat) (hc : c.length ≤ 4) (hw : b.Ports.length = c.length) (hn : c.length < n) :
    loopRun (B77_4 n) 3 129127208515966861481 154742431123696239524184960 n (S77_4 b x (enS true c) 0 []) (k77_1 n) = outR b.Id c (gatesL 0 b.Ports c ++ bif x.Kind == 2 then claimsL ⟨b.Id, c⟩ 0 c else []) := by
  refine loop_list (xs := c) (fun i (ys : List Out) => S77_4 b x (enS true c) (Int.ofNat i) (enS true ys)) (fun i ys => ys.length ≤ i) (fun i ys rest => outR b.Id c ((ys ++ gatesL i (b.Ports.drop i) rest) ++ bif x.Kind == 2 then claimsL ⟨b.Id, c⟩ 0 c else [])) ?_ ?_ n [] hn (Nat.le_refl _)
  · rintro ys hys f
    refine (q77_4 b x _ _ _ _ f _).trans ?_
    rw [end_lt, cond_false]
    refine (aX77_8 _ _ _ _ _).trans ?_
    refine (l77_c5 b x c _ n hc hn ys (by omega)).trans ?_
    rw [show b.Ports.drop c.length = [] by rw [← hw, List.drop_length], show gatesL c.length [] [] = [] from rfl, List.append_nil]
  · rintro i ys hi hys f hf
    have hiw : i < b.Ports.length := by omega
    have hr : decide ((ys.length + 1) * 64 ≤ 140737488355328) = true := decide_eq_true (by omega)
    refine (q77_4 b x _ _ _ _ f _).trans ?_
    simp only [deS_enS, lendRows_enS, isS_enS, enS_length, toNat_of, dec_lt, dec_ge, hi, decide_true, cond_true, Bool.and_self, Nat.zero_add, wrap_succ (show i < 4611686018427387904 by omega), hiw, enS_get true hi, enS_get true hiw, hr]
    refine bif_t rfl (bif_t rfl ?_)
    rw [List.drop_eq_getElem_cons hiw]
    exact gate_step (i := i) (p := b.Ports[i]) (q := c[i]) (ps := b.Ports.drop (i + 1)) (qs := c.drop (i + 1)) (ys := ys) (fun es => f (S77_4 b x (enS true c) (Int.ofNat (i + 1)) es)) (fun l => outR b.Id c (l ++ bif x.Kind == 2 then claimsL ⟨b.Id, c⟩ 0 c else [])) (fun zs hz => hf zs (by omega))
theorem l77_g6 (b : Bridge) (x : In) (c : List Port) (n : Nat) (hc : c.length ≤ 4) (hw : b.Ports.length = c.length) (hn : c.length < n) :
    loopRun (B77_6 n) 3 129127208515966861481 154742431123696239524184960 n (S77_6 b x (enS true c) 0 []) (k77_1 n) = outR b.Id c (gatesL 0 b.Ports c ++ bif x.Kind == 2 then claimsL ⟨b.Id, c⟩ 0 c else []) := by
  refine loop_list (xs := c) (fun i (ys : List Out) => S77_6 b x (enS true c) (Int.ofNat i) (enS true ys)) (fun i ys => ys.length ≤ i) (fun i ys rest => outR b.Id c ((ys ++ gatesL i (b.Ports.drop i) rest) ++ bif x.Kind == 2 then claimsL ⟨b.Id, c⟩ 0 c else [])) ?_ ?_ n [] hn (Nat.le_refl _)
  · rintro ys hys f
    refine (q77_6 b x _ _ _ _ f _).trans ?_
    rw [end_lt, cond_false]
    refine (aX77_12 _ _ _ _ _).trans ?_
    refine (l77_c7 b x c _ n hc hn ys (by omega)).trans ?_
    rw [show b.Ports.drop c.length = [] by rw [← hw, List.drop_length], show gatesL c.length [] [] = [] from rfl, List.append_nil]
  · rintro i ys hi hys f hf
    have hiw : i < b.Ports.length := by omega
    have hr : decide ((ys.length + 1) * 64 ≤ 140737488355328) = true := decide_eq_true (by omega)
    refine (q77_6 b x _ _ _ _ f _).trans ?_
    simp only [deS_enS, lendRows_enS, isS_enS, enS_length, toNat_of, dec_lt, dec_ge, hi, decide_true, cond_true, Bool.and_self, Nat.zero_add, wrap_succ (show i < 4611686018427387904 by omega), hiw, enS_get true hi, enS_get true hiw, hr]
    refine bif_t rfl (bif_t rfl ?_)
    rw [List.drop_eq_getElem_cons hiw]
    exact gate_step (i := i) (p := b.Ports[i]) (q := c[i]) (ps := b.Ports.drop (i + 1)) (qs := c.drop (i + 1)) (ys := ys) (fun es => f (S77_6 b x (enS true c) (Int.ofNat (i + 1)) es)) (fun l => outR b.Id c (l ++ bif x.Kind == 2 then claimsL ⟨b.Id, c⟩ 0 c else [])) (fun zs hz => hf zs (by omega))
theorem l77_g8 (b : Bridge) (x : In) (c : List Port) (n : Nat) (hc : c.length ≤ 4) (hw : b.Ports.length = c.length) (hn : c.length < n) :
    loopRun (B77_8 n) 3 129127208515966861481 154742431123696239524184960 n (S77_8 b x (enS true c) 0 []) (k77_1 n) = outR b.Id c (gatesL 0 b.Ports c ++ bif x.Kind == 2 then claimsL ⟨b.Id, c⟩ 0 c else []) := by
  refine loop_list (xs := c) (fun i (ys : List Out) => S77_8 b x (enS true c) (Int.ofNat i) (enS true ys)) (fun i ys => ys.length ≤ i) (fun i ys rest => outR b.Id c ((ys ++ gatesL i (b.Ports.drop i) rest) ++ bif x.Kind == 2 then claimsL ⟨b.Id, c⟩ 0 c else [])) ?_ ?_ n [] hn (Nat.le_refl _)
  · rintro ys hys f
    refine (q77_8 b x _ _ _ _ f _).trans ?_
    rw [end_lt, cond_false]
    refine (aX77_14 _ _ _ _ _).trans ?_
    refine (l77_c9 b x c _ n hc hn ys (by omega)).trans ?_
    rw [show b.Ports.drop c.length = [] by rw [← hw, List.drop_length], show gatesL c.length [] [] = [] from rfl, List.append_nil]
  · rintro i ys hi hys f hf
    have hiw : i < b.Ports.length := by omega
    have hr : decide ((ys.length + 1) * 64 ≤ 140737488355328) = true := decide_eq_true (by omega)
    refine (q77_8 b x _ _ _ _ f _).trans ?_
    simp only [deS_enS, lendRows_enS, isS_enS, enS_length, toNat_of, dec_lt, dec_ge, hi, decide_true, cond_true, Bool.and_self, Nat.zero_add, wrap_succ (show i < 4611686018427387904 by omega), hiw, enS_get true hi, enS_get true hiw, hr]
    refine bif_t rfl (bif_t rfl ?_)
    rw [List.drop_eq_getElem_cons hiw]
    exact gate_step (i := i) (p := b.Ports[i]) (q := c[i]) (ps := b.Ports.drop (i + 1)) (qs := c.drop (i + 1)) (ys := ys) (fun es => f (S77_8 b x (enS true c) (Int.ofNat (i + 1)) es)) (fun l => outR b.Id c (l ++ bif x.Kind == 2 then claimsL ⟨b.Id, c⟩ 0 c else [])) (fun zs hz => hf zs (by omega))
theorem m77 (b : Bridge) (x : In) (hpre : (o77 b x).1 = true) : evFn ⟨Go.Proofs.Try.prog, Hx, 77⟩ T99.call (b.Ports.length + 1) f77 [[.int .i64 b.Id, .sl true 11 (enS true b.Ports)], [.int .i64 x.Kind, .int .i64 x.Port, .int .i64 x.Vec.Root, .int .i64 x.Vec.Cost, .int .i64 x.Vec.Bridge, .int .i64 x.Vec.Port, .int .i64 x.Hops, .bool x.Up]] = some (o77 b x).2 := by
  refine (r77 b x _).trans ?_
  show _ = (some ([[.sl true 8 (enS true (saysM b x))]], [[.int .i64 (newB b x).Id, .sl true 11 (enS true (newB b x).Ports)]]) : Option (List Row × List Row))
  replace hpre : (canB b x) = true := hpre
  unfold canB at hpre
  simp only [Bool.and_eq_true, decide_eq_true_eq] at hpre
  obtain ⟨hin, hlt, hok⟩ := hpre
  have hpar := bridge_parts hok
  have h4 := bridge_le4 hok
  obtain ⟨k, hk⟩ := Int.eq_ofNat_of_zero_le (inOk_port hin).1
  have hkl : k < b.Ports.length := by omega
  have hk0 : 0 + Int.toNat x.Port = k := by rw [hk, Int.toNat_natCast, Nat.zero_add]
  have hat : atP b x = b.Ports[k] := by
    unfold atP
    rw [hk, Int.toNat_natCast, List.getD_eq_getElem?_getD, List.getElem?_eq_getElem hkl]
    rfl
  have hpk : x.Port.toNat = k := by rw [hk, Int.toNat_natCast]
  have hle : decide (b.Ports.length ≤ 1048576) = true := decide_eq_true (by omega)
  show _ = outR (newB b x).Id (newB b x).Ports (saysM b x)
  have e17 : v77_17 b = enS false b.Ports := lendRows_enS true _
  have e18 : v77_18 b = b.Ports := by unfold v77_18; rw [e17, deS_enS]
  have e19 : v77_19 b = (b.Ports.length : Int) := by unfold v77_19; rw [enS_length]; rfl
  have e20 : v77_20 b x = En.enc true b.Ports[k] := by unfold v77_20; rw [hk0]; exact enS_get true hkl
  have e22 : v77_22 b x = b.Ports[k].Up := by unfold v77_22; rw [e20]; rfl
  have e23 : v77_23 b x = enS true (b.Ports.set k (claimM b.Ports[k] x.Vec x.Hops)) := by
    unfold v77_23 v77_22
    rw [e20, hk0]
    exact enS_set true b.Ports k (claimM b.Ports[k] x.Vec x.Hops)
  have e24 : v77_24 b x = b.Ports.set k (claimM b.Ports[k] x.Vec x.Hops) := by unfold v77_24; rw [e23, deS_enS]
  have e26 : v77_26 b = b.Ports := deS_enS true _
  have e27 : v77_27 b = enS true (b.Ports.map tickP) := by unfold v77_27; rw [e26]; rfl
  have e28 : v77_28 b = b.Ports.map tickP := by unfold v77_28; rw [e27, deS_enS]
  have e16 : w77_16 b x = enS true (b.Ports.set k port0) := by unfold w77_16; rw [hk0]; exact enS_set true b.Ports k port0
  have e29 : v77_29 b x = enS true (b.Ports.set k (linkP true)) := by
    unfold v77_29
    rw [e16, hk0]
    refine (enS_set true (b.Ports.set k port0) k (linkP true)).trans ?_
    rw [List.set_set]
  have e30 : v77_30 b x = b.Ports.set k (linkP true) := by unfold v77_30; rw [e29, deS_enS]
  refine bif_t (by rw [e17, e18, isS_enS, hle]; rfl) ?_
  refine bif_t (by rw [e18, deepRows_enS]; rfl) ?_
  refine bif_t (by rw [e19, hk, decide_eq_true (Int.natCast_nonneg k), decide_eq_true (show (k : Int) < (b.Ports.length : Int) by omega)]; rfl) ?_
  cases h1 : x.Kind == 1
  case true =>
    refine bif_t rfl (bif_t (by unfold v77_21; rw [e20]; rfl) (bif_t (by rw [e23, e24, isS_enS, List.length_set, hle]; rfl) ?_))
    rw [e24]
    refine (l77_g0 b x (decideM ⟨b.Id, b.Ports.set k (claimM b.Ports[k] x.Vec x.Hops)⟩).Ports _ (by rw [dec_len, List.length_set]; exact h4) (by rw [dec_len, List.length_set]) (by rw [dec_len, List.length_set]; omega)).trans ?_
    refine react_fin (b := b) (x := x) (decideM ⟨b.Id, b.Ports.set k (claimM b.Ports[k] x.Vec x.Hops)⟩) rfl ?_
    unfold newB inM
    rw [still_no (kind_ne h1 (by decide)), h1, hat, hpk]
    rfl
  cases h2 : x.Kind == 2
  case true =>
    refine bif_f rfl (bif_t rfl (bif_t (by rw [e26]; show (isS Port true (enS true b.Ports) && _) = true; rw [isS_enS, hok]; rfl) (bif_t (by rw [e27, e28, isS_enS, List.length_map, hle]; rfl) ?_)))
    rw [e26, e28]
    refine (l77_g2 b x (decideM ⟨b.Id, b.Ports.map tickP⟩).Ports _ (by rw [dec_len, List.length_map]; exact h4) (by rw [dec_len, List.length_map]) (by rw [dec_len, List.length_map]; omega)).trans ?_
    refine react_fin (b := b) (x := x) (decideM ⟨b.Id, b.Ports.map tickP⟩) rfl ?_
    unfold newB inM
    rw [still_no (kind_ne h2 (by decide)), h1, h2]
    rfl
  cases h3 : x.Kind == 3
  case false =>
    rw [inOk_kind hin h1 h3] at h2
    cases h2
  refine bif_f rfl (bif_f rfl (bif_t rfl (bif_t (by unfold v77_21; rw [e20]; rfl) ?_)))
  rw [e22]
  cases hs : decide (b.Ports[k].Up = x.Up)
  case true =>
    have hst : stillB b x = true := by unfold stillB; rw [h3, hat, of_decide_eq_true hs]; cases x.Up <;> rfl
    have hnb : newB b x = b := by unfold newB; rw [hst]; rfl
    unfold saysM
    rw [hnb, gatesL_same, h2]
    rfl
  have hst : stillB b x = false := by
    unfold stillB
    rw [h3, hat]
    have := of_decide_eq_false hs
    revert this
    cases b.Ports[k].Up <;> cases x.Up <;> simp
  cases hu : x.Up
  · refine bif_f rfl (bif_f rfl (bif_t (by rw [e16, deS_enS, isS_enS, List.length_set, hle]; rfl) ?_))
    rw [e16, deS_enS]
    refine (l77_g6 b x (decideM ⟨b.Id, b.Ports.set k port0⟩).Ports _ (by rw [dec_len, List.length_set]; exact h4) (by rw [dec_len, List.length_set]) (by rw [dec_len, List.length_set]; omega)).trans ?_
    refine react_fin (b := b) (x := x) (decideM ⟨b.Id, b.Ports.set k port0⟩) rfl ?_
    unfold newB inM
    rw [hst, h1, h2, hu, hpk]
    rfl
  · refine bif_f rfl (bif_t rfl (bif_t (by rw [e29, e30, isS_enS, List.length_set, hle]; rfl) ?_))
    rw [e30]
    refine (l77_g4 b x (decideM ⟨b.Id, b.Ports.set k (linkP true)⟩).Ports _ (by rw [dec_len, List.length_set]; exact h4) (by rw [dec_len, List.length_set]) (by rw [dec_len, List.length_set]; omega)).trans ?_
    refine react_fin (b := b) (x := x) (decideM ⟨b.Id, b.Ports.set k (linkP true)⟩) rfl ?_
    unfold newB inM
    rw [hst, h1, h2, hu, hpk]
    rfl
theorem s77 : SoundAt Go.Proofs.Try.prog Hx 77 c77 := soundAt_of T99_sound mixed func77 (by kernel_rfl) (by
  intro rows r h
  unfold c77 at h
  split at h
  · rename_i b_Id b_Ports x_Kind x_Port x_Vec_Root x_Vec_Cost x_Vec_Bridge x_Vec_Port x_Hops x_Up
    obtain ⟨hp, hr⟩ := Prod.mk.inj (Option.some.inj h)
    subst hr
    simp only [Bool.and_eq_true] at hp
    obtain ⟨hs0, hp⟩ := hp
    obtain ⟨xs0, rfl⟩ := isS_ex hs0
    simp only [deS_enS] at hp ⊢
    exact ⟨_, m77 ⟨b_Id, xs0⟩ ⟨x_Kind, x_Port, ⟨x_Vec_Root, x_Vec_Cost, x_Vec_Bridge, x_Vec_Port⟩, x_Hops, x_Up⟩ hp⟩
  · cases h)
def T77 : Table := (77, c77) :: T99
theorem T77_sound : Table.Sound Go.Proofs.Try.prog Hx T77 := Table.sound_cons s77 T99_sound
end Go.Ev
end
