/- Contracts of functions, each by its evaluation. -/
import Derived.Test.YtljedfojdgfahaaEvMd
import Derived.Test.YtljedfojdgfahaaProg
import Derived.KernelRfl
import Derived.Test.YtljedfojdgfahaaFNet4
set_option linter.unusedVariables false
set_option linter.unusedSimpArgs false
set_option maxRecDepth 100000
noncomputable section
open List (getD length drop take set append replicate all isEmpty)
open Int (toNat ofNat)
open Go.IntKind (i64 wrap)
open Go.Proofs.Try (prog)
namespace Go.Ev
open Go.RowKit Go.Md
end Go.Ev
namespace Go.Md
open Go Go.Ev
def floodM (n : Net) (from_ : Int) : List Visit := bif netOk n && inR from_ 0 ((n.Bridges.length : Int) - 1) then (floodL n from_).1 else []
def cntV : List Visit → List Int → List Int
  | [], o => o
  | v :: vs, o => cntV vs (o.set v.Bridge.toNat (o.getD v.Bridge.toNat 0 + 1))
def heardM (n : Net) (from_ : Int) : List Int := bif netOk n && inR from_ 0 ((n.Bridges.length : Int) - 1) then cntV (floodL n from_).1 (List.replicate n.Bridges.length 0) else []
theorem fl_succ (n : Net) (f k : Nat) (i : Int) (v : Visit) (l : List Visit) (b : List Int) : fl n (f + 1) k i v l b = bif decide ((l ++ (outOf n v).take (60 - l.length)).length ≤ k) || decide ((l ++ (outOf n v).take (60 - l.length)).length = 60) then (l ++ (outOf n v).take (60 - l.length), b ++ List.replicate ((outOf n v).take (60 - l.length)).length i)
    else fl n f (k + 1) (Int.ofNat k) ((l ++ (outOf n v).take (60 - l.length)).getD k ⟨0, 0, 0⟩) (l ++ (outOf n v).take (60 - l.length)) (b ++ List.replicate ((outOf n v).take (60 - l.length)).length i) := rfl
theorem floodL_step (n : Net) (from_ : Int) : floodL n from_ = bif decide (([] ++ (outOf n ⟨from_, -1, 0⟩).take (60 - 0)).length ≤ 0) || decide (([] ++ (outOf n ⟨from_, -1, 0⟩).take (60 - 0)).length = 60) then ([] ++ (outOf n ⟨from_, -1, 0⟩).take (60 - 0), [] ++ List.replicate ((outOf n ⟨from_, -1, 0⟩).take (60 - 0)).length (-1))
    else fl n 60 1 (Int.ofNat 0) (([] ++ (outOf n ⟨from_, -1, 0⟩).take (60 - 0)).getD 0 ⟨0, 0, 0⟩) ([] ++ (outOf n ⟨from_, -1, 0⟩).take (60 - 0)) ([] ++ List.replicate ((outOf n ⟨from_, -1, 0⟩).take (60 - 0)).length (-1)) := fl_succ n 60 0 (-1) ⟨from_, -1, 0⟩ [] []


theorem ids_ok : ∀ (bs u : List Bridge), idsB u bs = true → ∀ b ∈ bs, bridgeOk b = true
  | [], u, _, b, hb => by cases hb
  | x :: bs, u, h, b, hb => by
    rw [ids_cons] at h
    simp only [Bool.and_eq_true] at h
    rcases List.mem_cons.1 hb with rfl | hb
    · exact h.1
    · exact ids_ok bs _ h.2.2 b hb
theorem ports4 {n : Net} (h : netOk n = true) (b : Int) : (portsAt n b).length ≤ 4 := by
  unfold netOk at h
  rw [Bool.and_eq_true] at h
  unfold portsAt
  by_cases hb : b.toNat < n.Bridges.length
  · rw [List.getD_eq_getElem?_getD, List.getElem?_eq_getElem hb]
    have := ids_ok _ _ h.1 _ (List.getElem_mem hb)
    unfold bridgeOk at this
    simp only [Bool.and_eq_true] at this
    have := net_in this.2.2
    simp only [Option.getD_some]
    omega
  · rw [List.getD_eq_getElem?_getD, List.getElem?_eq_none (by omega)]
    simp
theorem outOf_len {n : Net} (h : netOk n = true) (v : Visit) : (outOf n v).length ≤ 4 := Nat.le_trans (outV_len n _ _ _ _ _) (ports4 h _)
theorem fs_stop (n : Net) (f k : Nat) (l : List Visit) (h : l.length ≤ k) : fs n f k l = l := by
  cases f with
  | zero => rfl
  | succ f =>
    unfold fs
    rw [decide_eq_false (by omega)]
    rfl
theorem fs_step (n : Net) (k : Nat) (l : List Visit) (h : k < l.length) (hk : k < 60) : fs n (60 - k) k l = fs n (60 - (k + 1)) (k + 1) (l ++ outOf n (l.getD k ⟨0, 0, 0⟩)) := by
  rw [show 60 - k = (60 - (k + 1)) + 1 by omega]
  show (bif decide (k < l.length) then _ else _) = _
  rw [decide_eq_true h]
  rfl
theorem min60 {L : Nat} (h : L ≤ 1000) : (bif decide (Int.ofNat L < 60) then Int.ofNat L else 60) = Int.ofNat (min L 60) := by
  by_cases h2 : L < 60
  · rw [show decide (Int.ofNat L < 60) = true from decide_eq_true (by show (L : Int) < 60; omega), Nat.min_eq_left (by omega)]; rfl
  · rw [show decide (Int.ofNat L < 60) = false from decide_eq_false (by show ¬ (L : Int) < 60; omega), Nat.min_eq_right (by omega)]; rfl
theorem cut60 (l : List Visit) (h : l.length ≤ 1000) : (bif decide (0 ≤ bif decide (Int.ofNat (List.length (enS true l)) < 60) then Int.ofNat (List.length (enS true l)) else 60) && decide ((bif decide (Int.ofNat (List.length (enS true l)) < 60) then Int.ofNat (List.length (enS true l)) else 60) ≤ Int.ofNat (List.length (enS true l))) then bif (List.all (List.take (Int.toNat ((bif decide (Int.ofNat (List.length (enS true l)) < 60) then Int.ofNat (List.length (enS true l)) else 60) - 0)) (enS true l)) fun r ↦ List.all r D.noSl) && true && decide ((0 + List.length (List.take (Int.toNat ((bif decide (Int.ofNat (List.length (enS true l)) < 60) then Int.ofNat (List.length (enS true l)) else 60) - 0)) (enS true l))) * 24 ≤ 140737488355328) then some ([[D.sl true 3 (List.take (Int.toNat ((bif decide (Int.ofNat (List.length (enS true l)) < 60) then Int.ofNat (List.length (enS true l)) else 60) - 0)) (enS true l))]], []) else none else none) = (some ([[D.sl true 3 (enS true (l.take 60))]], []) : Option (List Row × List Row)) := by
  rw [enS_length, min60 h]
  have h1 : Int.toNat (Int.ofNat (min l.length 60) - 0) = min l.length 60 := by rw [show Int.ofNat (min l.length 60) - 0 = Int.ofNat (min l.length 60) from Int.sub_zero _]; rfl
  have h2 : decide (0 ≤ Int.ofNat (min l.length 60)) = true := decide_eq_true (Int.natCast_nonneg _)
  have h3 : decide (Int.ofNat (min l.length 60) ≤ Int.ofNat l.length) = true := decide_eq_true (by show ((min l.length 60 : Nat) : Int) ≤ (l.length : Int); omega)
  have h4 : l.take (min l.length 60) = l.take 60 := by
    by_cases h5 : l.length ≤ 60
    · rw [Nat.min_eq_left h5, List.take_length, List.take_of_length_le h5]
    · rw [Nat.min_eq_right (by omega)]
  rw [h1, h2, h3, enS_take, h4, noSl_visits, enS_length]
  have h5 : decide ((0 + (l.take 60).length) * 24 ≤ 140737488355328) = true := decide_eq_true (by rw [List.length_take]; omega)
  rw [h5]
  rfl
theorem getD_at {α : Type} {l : List α} {k : Nat} (z : α) (h : k < l.length) : l.getD k z = l[k] := by
  rw [List.getD_eq_getElem?_getD, List.getElem?_eq_getElem h]
  rfl
end Go.Md
namespace Go.Ev
open Go.Md
/- FloodS -/
def o26 (n_ : Net) (from_ : Int) : Bool × List Row × List Row := (Net.small n_, [[.sl true 3 (enS true (floodM n_ from_))]], [])
def c26 : Contract
  | [[.sl false 2 n__Bridges, .sl false 4 n__Links], [.int .i64 from_]] => some (isS Bridge false n__Bridges && isS Link false n__Links && (o26 ⟨(deS Bridge n__Bridges), (deS Link n__Links)⟩ from_).1, (o26 ⟨(deS Bridge n__Bridges), (deS Link n__Links)⟩ from_).2.1, (o26 ⟨(deS Bridge n__Bridges), (deS Link n__Links)⟩ from_).2.2)
  | _ => none

def k26_0 (n : Nat) : Ex → St → RR := kThen (fun st ↦ runCode (Ctx.mk prog Hx (26)) (Table.call T58) n (codeAt [1, 1, 1, 1] (bodyOf Go.Proofs.Try.f26)) (Lv.mk 16 [] 16) st (kLeave (Ctx.P (Ctx.mk prog Hx (26))) (List.zip (Array.toList (Go.Func.resultTypes Go.Proofs.Try.f26)) (Array.toList (Go.Func.results Go.Proofs.Try.f26))) [] [])) (kLeave (Ctx.P (Ctx.mk prog Hx (26))) (List.zip (Array.toList (Go.Func.resultTypes Go.Proofs.Try.f26)) (Array.toList (Go.Func.results Go.Proofs.Try.f26))) [] [])
def k26_1 (n : Nat) : Ex → St → RR := kBlock (0) (k26_0 n)
def S26_0 (n_ : Net) (from_ : Int) (i0 : Int) (es1 : List (List D)) : St := St.mk [U_, U_, TV.v false [C.ptr 0 0 0 [] 2 0 0], U_, U_, TV.v false [C.view 2 0 0 [] 3 none], I_ i0, U_, U_, U_, U_, U_, U_, U_, U_, U_, U_, U_, U_, U_, U_, U_, U_, U_, U_, U_, U_, U_, U_, U_, U_, U_, U_, U_, U_, U_, U_, U_, U_, U_, U_, U_, U_, U_, U_, U_, U_, U_, U_, U_, U_, U_, U_, U_, U_, U_, U_, U_, U_, U_] [Root.mk true 2 [[D.sl false 2 (enS false (Net.Bridges n_)), D.sl false 4 (enS false (Net.Links n_))]] 0 0 true true false, Root.mk false 3 (enS true (outV (Net.mk (deS Bridge (enS false (Net.Bridges n_))) (deS Link (enS false (Net.Links n_)))) from_ (Int.negSucc 0) (1) (0) (portsAt (Net.mk (deS Bridge (enS false (Net.Bridges n_))) (deS Link (enS false (Net.Links n_)))) from_))) 0 0 false true false, Root.mk false 3 es1 0 0 true true false]
def B26_0 (n : Nat) : St → (Ex → St → RR) → RR := runCode (Ctx.mk prog Hx (26)) (Table.call T58) n (codeAt [1, 1, 1, 0, 1, 0, 0] (bodyOf Go.Proofs.Try.f26)) (Lv.mk 100 [(0, 32)] 16)
def X26_2 (n_ : Net) (from_ : Int) (i0 : Int) (es1 : List (List D)) : St := St.mk [U_, U_, TV.v false [C.ptr 0 0 0 [] 2 0 0], U_, U_, TV.v false [C.view 2 0 0 [] 3 none], I_ i0, U_, U_, U_, U_, U_, U_, U_, U_, U_, U_, U_, U_, U_, U_, U_, U_, I_ i0, TV.v false [C.view 2 0 0 [] 3 none], I_ (ofNat (length es1)), B_ (decide (i0 < ofNat (length es1))), B_ true, I_ i0, B_ (decide (i0 < 60)), B_ false, U_, U_, U_, U_, U_, U_, U_, U_, U_, U_, U_, U_, U_, U_, U_, U_, U_, U_, U_, U_, U_, U_, U_, U_, U_, U_, U_, U_, U_] [Root.mk true 2 [[D.sl false 2 (enS false (Net.Bridges n_)), D.sl false 4 (enS false (Net.Links n_))]] 0 0 true true false, Root.mk false 3 (enS true (outV (Net.mk (deS Bridge (enS false (Net.Bridges n_))) (deS Link (enS false (Net.Links n_)))) from_ (Int.negSucc 0) (1) (0) (portsAt (Net.mk (deS Bridge (enS false (Net.Bridges n_))) (deS Link (enS false (Net.Links n_)))) from_))) 0 0 false true false, Root.mk false 3 es1 0 0 true true false]
def X26_3 (n_ : Net) (from_ : Int) (i0 : Int) (es1 : List (List D)) : St := St.mk [U_, U_, TV.v false [C.ptr 0 0 0 [] 2 0 0], U_, U_, TV.v false [C.view 2 0 0 [] 3 none], I_ i0, U_, U_, U_, U_, U_, U_, U_, U_, U_, U_, U_, U_, U_, U_, U_, U_, I_ i0, TV.v false [C.view 2 0 0 [] 3 none], I_ (ofNat (length es1)), B_ (decide (i0 < ofNat (length es1))), B_ false, TV.v false [C.gone], TV.v false [C.gone], B_ false, U_, U_, U_, U_, U_, U_, U_, U_, U_, U_, U_, U_, U_, U_, U_, U_, U_, U_, U_, U_, U_, U_, U_, U_, U_, U_, U_, U_, U_] [Root.mk true 2 [[D.sl false 2 (enS false (Net.Bridges n_)), D.sl false 4 (enS false (Net.Links n_))]] 0 0 true true false, Root.mk false 3 (enS true (outV (Net.mk (deS Bridge (enS false (Net.Bridges n_))) (deS Link (enS false (Net.Links n_)))) from_ (Int.negSucc 0) (1) (0) (portsAt (Net.mk (deS Bridge (enS false (Net.Bridges n_))) (deS Link (enS false (Net.Links n_)))) from_))) 0 0 false true false, Root.mk false 3 es1 0 0 true true false]
theorem q26_0 (n_ : Net) (from_ : Int) (n : Nat) (i0 : Int) (es1 : List (List D)) (f : St → RR) (K : Ex → St → RR) : B26_0 n (S26_0 n_ from_ i0 es1) (kThen (fun st ↦ f (St.head 2 100 9007199246352480 st)) K) = bif decide (i0 < ofNat (length es1)) then bif decide (i0 < 60) then bif decide (0 ≤ i0) && decide (i0 < ofNat (length es1)) then bif Leaf.fit true (Leaf.int i64) (getD (getD es1 (0 + toNat i0) []) 0 D.dead) && true then bif decide (0 ≤ i0) && decide (i0 < ofNat (length es1)) then bif Leaf.fit true (Leaf.int i64) (getD (getD es1 (0 + toNat i0) []) 1 D.dead) && true then bif decide (0 ≤ i0) && decide (i0 < ofNat (length es1)) then bif Leaf.fit true (Leaf.int i64) (getD (getD es1 (0 + toNat i0) []) 2 D.dead) && true then bif isS Bridge false (enS false (Net.Bridges n_)) && isS Link false (enS false (Net.Links n_)) && (Net.small (Net.mk (deS Bridge (enS false (Net.Bridges n_))) (deS Link (enS false (Net.Links n_)))) && (netOk (Net.mk (deS Bridge (enS false (Net.Bridges n_))) (deS Link (enS false (Net.Links n_)))) && inR (D.num (getD (getD es1 (0 + toNat i0) []) 0 D.dead)) (0) (ofNat (length (deS Bridge (enS false (Net.Bridges n_)))) - 1))) then bif (all (enS true (outV (Net.mk (deS Bridge (enS false (Net.Bridges n_))) (deS Link (enS false (Net.Links n_)))) (D.num (getD (getD es1 (0 + toNat i0) []) 0 D.dead)) (D.num (getD (getD es1 (0 + toNat i0) []) 1 D.dead)) (wrap i64 (D.num (getD (getD es1 (0 + toNat i0) []) 2 D.dead) + 1)) (0) (portsAt (Net.mk (deS Bridge (enS false (Net.Bridges n_))) (deS Link (enS false (Net.Links n_)))) (D.num (getD (getD es1 (0 + toNat i0) []) 0 D.dead))))) fun r ↦ all r D.noSl) && true && decide ((length es1 + length (enS true (outV (Net.mk (deS Bridge (enS false (Net.Bridges n_))) (deS Link (enS false (Net.Links n_)))) (D.num (getD (getD es1 (0 + toNat i0) []) 0 D.dead)) (D.num (getD (getD es1 (0 + toNat i0) []) 1 D.dead)) (wrap i64 (D.num (getD (getD es1 (0 + toNat i0) []) 2 D.dead) + 1)) (0) (portsAt (Net.mk (deS Bridge (enS false (Net.Bridges n_))) (deS Link (enS false (Net.Links n_)))) (D.num (getD (getD es1 (0 + toNat i0) []) 0 D.dead)))))) * 24 ≤ 140737488355328) then f (S26_0 n_ from_ (wrap i64 (i0 + 1)) (append es1 (enS true (outV (Net.mk (deS Bridge (enS false (Net.Bridges n_))) (deS Link (enS false (Net.Links n_)))) (D.num (getD (getD es1 (0 + toNat i0) []) 0 D.dead)) (D.num (getD (getD es1 (0 + toNat i0) []) 1 D.dead)) (wrap i64 (D.num (getD (getD es1 (0 + toNat i0) []) 2 D.dead) + 1)) (0) (portsAt (Net.mk (deS Bridge (enS false (Net.Bridges n_))) (deS Link (enS false (Net.Links n_)))) (D.num (getD (getD es1 (0 + toNat i0) []) 0 D.dead))))))) else none else none else none else none else none else none else none else none else K (Ex.exit 0) (X26_2 n_ from_ i0 es1) else K (Ex.exit 0) (X26_3 n_ from_ i0 es1) := by kernel_rfl
theorem aX26_2 (n_ : Net) (from_ : Int) (n : Nat) (i0 : Int) (es1 : List (List D)) : k26_1 n (Ex.exit 0) (X26_2 n_ from_ i0 es1) = bif decide (0 ≤ bif decide (ofNat (length es1) < 60) then ofNat (length es1) else 60) && decide ((bif decide (ofNat (length es1) < 60) then ofNat (length es1) else 60) ≤ ofNat (length es1)) then bif (all (take (toNat ((bif decide (ofNat (length es1) < 60) then ofNat (length es1) else 60) - 0)) es1) fun r ↦ all r D.noSl) && true && decide ((0 + length (take (toNat ((bif decide (ofNat (length es1) < 60) then ofNat (length es1) else 60) - 0)) es1)) * 24 ≤ 140737488355328) then some ([[D.sl true 3 (take (toNat ((bif decide (ofNat (length es1) < 60) then ofNat (length es1) else 60) - 0)) es1)]], []) else none else none := by kernel_rfl
theorem aX26_3 (n_ : Net) (from_ : Int) (n : Nat) (i0 : Int) (es1 : List (List D)) : k26_1 n (Ex.exit 0) (X26_3 n_ from_ i0 es1) = bif decide (0 ≤ bif decide (ofNat (length es1) < 60) then ofNat (length es1) else 60) && decide ((bif decide (ofNat (length es1) < 60) then ofNat (length es1) else 60) ≤ ofNat (length es1)) then bif (all (take (toNat ((bif decide (ofNat (length es1) < 60) then ofNat (length es1) else 60) - 0)) es1) fun r ↦ all r D.noSl) && true && decide ((0 + length (take (toNat ((bif decide (ofNat (length es1) < 60) then ofNat (length es1) else 60) - 0)) es1)) * 24 ≤ 140737488355328) then some ([[D.sl true 3 (take (toNat ((bif decide (ofNat (length es1) < 60) then ofNat (length es1) else 60) - 0)) es1)]], []) else none else none := by kernel_rfl
theorem r26 (n_ : Net) (from_ : Int) (n : Nat) : evFn ⟨prog, Hx, 26⟩ T58.call n Go.Proofs.Try.f26 [[.sl false 2 (enS false n_.Bridges), .sl false 4 (enS false n_.Links)], [.int .i64 from_]] = bif isS Bridge false (enS false (Net.Bridges n_)) && isS Link false (enS false (Net.Links n_)) && Net.small (Net.mk (deS Bridge (enS false (Net.Bridges n_))) (deS Link (enS false (Net.Links n_)))) then bif !netOk (Net.mk (deS Bridge (enS false (Net.Bridges n_))) (deS Link (enS false (Net.Links n_)))) then some ([[D.sl true 3 []]], []) else bif !inR from_ (0) (wrap i64 (ofNat (length (enS false (Net.Bridges n_))) - 1)) then some ([[D.sl true 3 []]], []) else bif isS Bridge false (enS false (Net.Bridges n_)) && isS Link false (enS false (Net.Links n_)) && (Net.small (Net.mk (deS Bridge (enS false (Net.Bridges n_))) (deS Link (enS false (Net.Links n_)))) && (netOk (Net.mk (deS Bridge (enS false (Net.Bridges n_))) (deS Link (enS false (Net.Links n_)))) && inR from_ (0) (ofNat (length (deS Bridge (enS false (Net.Bridges n_)))) - 1))) then loopRun (B26_0 n) 2 100 9007199246352480 n (S26_0 n_ from_ (0) (enS true (outV (Net.mk (deS Bridge (enS false (Net.Bridges n_))) (deS Link (enS false (Net.Links n_)))) from_ (Int.negSucc 0) (1) (0) (portsAt (Net.mk (deS Bridge (enS false (Net.Bridges n_))) (deS Link (enS false (Net.Links n_)))) from_)))) (k26_1 n) else none else none := by kernel_rfl
theorem m26 (n_ : Net) (from_ : Int) (hpre : (o26 n_ from_).1 = true) : evFn ⟨Go.Proofs.Try.prog, Hx, 26⟩ T58.call (61 + n_.Bridges.length) Go.Proofs.Try.f26 [[.sl false 2 (enS false n_.Bridges), .sl false 4 (enS false n_.Links)], [.int .i64 from_]] = some (o26 n_ from_).2 := by
  refine (r26 n_ from_ _).trans ?_
  show _ = (some ([[.sl true 3 (enS true (floodM n_ from_))]], []) : Option (List Row × List Row))
  replace hpre : (Net.small n_) = true := hpre
  have hb : IntKind.wrap IntKind.i64 (Int.ofNat n_.Bridges.length - 1) = (n_.Bridges.length : Int) - 1 := by
    have := (net_small hpre).1
    exact wrap_sm (by show _ ≤ ((n_.Bridges.length : Nat) : Int) - 1; omega) (by show ((n_.Bridges.length : Nat) : Int) - 1 ≤ _; omega)
  simp only [cond_true, cond_false, Bool.and_true, Bool.true_and, Bool.and_self, Bool.not_true, Bool.not_false, isS_enS, deS_enS, lendRows_enS, deepRows_enS, enS_length, toNat_of, decide_true, decide_false, sameB_self, dec_ge, TReader.eta, Frame.eta, Heard.eta, Member.eta, Card.eta, Out1.eta, Vec.eta, Port.eta, Bridge.eta, In.eta, Out.eta, Link.eta, Net.eta, TEnd.eta, Minder.eta, Reg.eta, Wire.eta, Box.eta, Deed.eta, Bpdu.eta, Visit.eta, Fabric.eta, Got.eta, TRide.eta, Up.eta, Copy.eta, Bucket.eta, Snap.eta, TL9Cur.eta, TL21In.eta]
  simp only [hb, hpre, cond_true, Bool.true_and, enS_length]
  unfold floodM
  have hcast : (Int.ofNat n_.Bridges.length : Int) = (n_.Bridges.length : Int) := rfl
  simp only [hcast]
  cases h2 : netOk n_
  · simp only [Bool.not_false, cond_true, Bool.false_and, cond_false, enS_nil]
  cases h1 : inR from_ 0 ((n_.Bridges.length : Int) - 1)
  · simp only [Bool.not_false, Bool.not_true, cond_true, Bool.and_false, cond_false, enS_nil]
  simp only [Bool.not_true, cond_false, cond_true, Bool.and_self]
  have hni := netOk_in hpre h2
  have r0' : outV n_ from_ (Int.negSucc 0) 1 0 (portsAt n_ from_) = outOf n_ ⟨from_, -1, 0⟩ := rfl
  rw [r0', floodL_fs]
  have hlo := fun v : Visit => outOf_len h2 v
  have hvo : ∀ v : Visit, 0 ≤ v.Far → ∀ x ∈ outOf n_ v, vOk n_ (v.Far + 1) x := fun v hv => outV_ok hni (by omega) _ _
  refine loop_rule (V := Nat × List Visit) (fun v => S26_0 n_ from_ (Int.ofNat v.1) (enS true v.2)) (fun v => v.1 ≤ 60 ∧ v.2.length ≤ 4 * v.1 + 4 ∧ ∀ x ∈ v.2, vOk n_ (Int.ofNat v.1 + 1) x) (fun v => 60 - v.1) (fun v => some ([[D.sl true 3 (enS true ((fs n_ (60 - v.1) v.1 v.2).take 60))]], [])) ?_ (61 + n_.Bridges.length) (0, outOf n_ ⟨from_, -1, 0⟩) ⟨Nat.zero_le _, hlo _, fun x hx => hvo ⟨from_, -1, 0⟩ (Int.le_refl 0) x hx⟩ (by simp only; omega)
  rintro ⟨k, l⟩ ⟨hk, hl, hvl⟩ f hf
  simp only at hk hl hvl hf ⊢
  refine (q26_0 n_ from_ _ _ _ f _).trans ?_
  by_cases hkl : k < l.length
  case neg =>
    rw [fs_stop n_ _ k l (by omega), enS_length, dec_lt, decide_eq_false hkl, cond_false]
    exact (aX26_3 n_ from_ _ _ _).trans (cut60 l (by omega))
  by_cases hk60 : k < 60
  case neg =>
    rw [show k = 60 by omega, show fs n_ (60 - 60) 60 l = l from rfl]
    rw [show k = 60 by omega] at hkl
    rw [enS_length, dec_lt, decide_eq_true hkl, cond_true, show decide (Int.ofNat 60 < 60) = false from rfl, cond_false]
    exact (aX26_2 n_ from_ _ _ _).trans (cut60 l (by omega))
  have d60 : decide (Int.ofNat k < 60) = true := decide_eq_true (by show (k : Int) < 60; omega)
  have hvk := hvl _ (List.getElem_mem hkl)
  have hw : IntKind.wrap IntKind.i64 (l[k].Far + 1) = l[k].Far + 1 := wrap_le (by have := hvk.2.1; omega) (by have := hvk.2.2; have h : l[k].Far ≤ (k : Int) + 1 := this; omega)
  have hlen : decide ((l.length + (outOf n_ l[k]).length) * 24 ≤ 140737488355328) = true := decide_eq_true (by have := hlo l[k]; omega)
  have hfold : outV n_ l[k].Bridge l[k].Port (l[k].Far + 1) 0 (portsAt n_ l[k].Bridge) = outOf n_ l[k] := rfl
  simp only [enS_length, toNat_of, dec_lt, dec_ge, decide_true, decide_false, cond_true, cond_false, Bool.and_self, Bool.and_true, Bool.true_and, Bool.not_true, Bool.not_false, Nat.lt_irrefl, Nat.zero_add, isS_enS, deS_enS, isS_nil, deS_nil, List.nil_append, lendRows_enS, deepRows_enS, noSl_u8, En.enc, List.getD_cons_zero, List.getD_cons_succ, D.num, D.flag, D.text, D.rows, Leaf.fit, List.append_eq, TReader.eta, Frame.eta, Heard.eta, Member.eta, Card.eta, Out1.eta, Vec.eta, Port.eta, Bridge.eta, In.eta, Out.eta, Link.eta, Net.eta, TEnd.eta, Minder.eta, Reg.eta, Wire.eta, Box.eta, Deed.eta, Bpdu.eta, Visit.eta, Fabric.eta, Got.eta, TRide.eta, Up.eta, Copy.eta, Bucket.eta, Snap.eta, TL9Cur.eta, TL21In.eta, enS_get _ hkl, hkl, d60, wrap_succ (show k < 4611686018427387904 by omega), hw, hpre, h2, hcast, hvk.1, hfold, noSl_visits, hlen]
  rw [fs_step n_ k l hkl hk60, getD_at _ hkl]
  refine (congrArg f (congrArg (S26_0 n_ from_ _) (enS_append true l (outOf n_ l[k])).symm)).trans (hf (k + 1, l ++ outOf n_ l[k]) ⟨by simp only; omega, by simp only [List.length_append]; have := hlo l[k]; omega, fun x hx => ?_⟩ (by simp only; omega))
  rcases List.mem_append.1 hx with hx | hx
  · have := hvl x hx
    exact ⟨this.1, this.2.1, by have h := this.2.2; show x.Far ≤ ((k + 1 : Nat) : Int) + 1; have h' : x.Far ≤ (k : Int) + 1 := h; omega⟩
  · have := hvo _ hvk.2.1 x hx
    exact ⟨this.1, this.2.1, by have h := this.2.2; have h'' : l[k].Far ≤ (k : Int) + 1 := hvk.2.2; show x.Far ≤ ((k + 1 : Nat) : Int) + 1; omega⟩
theorem s26 : SoundAt Go.Proofs.Try.prog Hx 26 c26 := soundAt_of T58_sound mixed Go.Proofs.Try.func26 (by kernel_rfl) (by
  intro rows r h
  unfold c26 at h
  split at h
  · rename_i n__Bridges n__Links from_
    obtain ⟨hp, hr⟩ := Prod.mk.inj (Option.some.inj h)
    subst hr
    simp only [Bool.and_eq_true] at hp
    obtain ⟨⟨hs0, hs1⟩, hp⟩ := hp
    obtain ⟨xs0, rfl⟩ := isS_ex hs0
    obtain ⟨xs1, rfl⟩ := isS_ex hs1
    simp only [deS_enS] at hp ⊢
    exact ⟨_, m26 ⟨xs0, xs1⟩ from_ hp⟩
  · cases h)
def T26 : Table := (26, c26) :: T58
theorem T26_sound : Table.Sound Go.Proofs.Try.prog Hx T26 := Table.sound_cons s26 T58_sound
/- HeardByS -/
def o20 (n_ : Net) (from_ : Int) : Bool × List Row × List Row := (Net.small n_, [[.sl true 1 (enS true (heardM n_ from_))]], [])
def c20 : Contract
  | [[.sl false 2 n__Bridges, .sl false 4 n__Links], [.int .i64 from_]] => some (isS Bridge false n__Bridges && isS Link false n__Links && (o20 ⟨(deS Bridge n__Bridges), (deS Link n__Links)⟩ from_).1, (o20 ⟨(deS Bridge n__Bridges), (deS Link n__Links)⟩ from_).2.1, (o20 ⟨(deS Bridge n__Bridges), (deS Link n__Links)⟩ from_).2.2)
  | _ => none

def k20_0 (n : Nat) : Ex → St → RR := kThen (fun st ↦ runCode (Ctx.mk prog Hx (20)) (Table.call T26) n (codeAt [1, 1, 1, 1, 1] (bodyOf Go.Proofs.Try.f20)) (Lv.mk 16 [] 16) st (kLeave (Ctx.P (Ctx.mk prog Hx (20))) (List.zip (Array.toList (Go.Func.resultTypes Go.Proofs.Try.f20)) (Array.toList (Go.Func.results Go.Proofs.Try.f20))) [] [])) (kLeave (Ctx.P (Ctx.mk prog Hx (20))) (List.zip (Array.toList (Go.Func.resultTypes Go.Proofs.Try.f20)) (Array.toList (Go.Func.results Go.Proofs.Try.f20))) [] [])
def k20_1 (n : Nat) : Ex → St → RR := kBlock (0) (k20_0 n)
def S20_0 (n_ : Net) (from_ : Int) (i0 : Int) (es1 : List (List D)) : St := St.mk [U_, U_, U_, U_, U_, TV.v false [C.view 1 0 0 [] 1 none], TV.v false [C.view 2 0 0 [] 3 none], I_ i0, U_, U_, U_, U_, U_, U_, U_, U_, U_, U_, U_, U_, U_, U_, U_, U_, U_, U_, U_, U_, U_, U_, U_, U_, U_, U_, U_, U_, U_, U_, U_, U_, U_, U_, U_, U_, U_, U_, U_, U_, U_, U_, U_] [Root.mk true 2 [[D.sl false 2 (enS false (Net.Bridges n_)), D.sl false 4 (enS false (Net.Links n_))]] 0 0 true true false, Root.mk false 1 es1 0 0 true true false, Root.mk false 3 (enS true (floodM (Net.mk (deS Bridge (enS false (Net.Bridges n_))) (deS Link (enS false (Net.Links n_)))) from_)) 0 0 true true false]
def B20_0 (n : Nat) : St → (Ex → St → RR) → RR := runCode (Ctx.mk prog Hx (20)) (Table.call T26) n (codeAt [1, 1, 1, 1, 0, 1, 0, 0] (bodyOf Go.Proofs.Try.f20)) (Lv.mk 224 [(0, 32)] 16)
def X20_2 (n_ : Net) (from_ : Int) (i0 : Int) (es1 : List (List D)) : St := St.mk [U_, U_, U_, U_, U_, TV.v false [C.view 1 0 0 [] 1 none], TV.v false [C.view 2 0 0 [] 3 none], I_ i0, U_, U_, U_, U_, U_, U_, U_, U_, U_, U_, U_, U_, U_, U_, U_, U_, U_, U_, U_, U_, I_ i0, TV.v false [C.view 2 0 0 [] 3 none], I_ (ofNat (length (enS true (floodM (Net.mk (deS Bridge (enS false (Net.Bridges n_))) (deS Link (enS false (Net.Links n_)))) from_)))), B_ false, U_, U_, U_, U_, U_, U_, U_, U_, U_, U_, U_, U_, U_, U_, U_, U_, U_, U_, U_] [Root.mk true 2 [[D.sl false 2 (enS false (Net.Bridges n_)), D.sl false 4 (enS false (Net.Links n_))]] 0 0 true true false, Root.mk false 1 es1 0 0 true true false, Root.mk false 3 (enS true (floodM (Net.mk (deS Bridge (enS false (Net.Bridges n_))) (deS Link (enS false (Net.Links n_)))) from_)) 0 0 true true false]
theorem q20_0 (n_ : Net) (from_ : Int) (n : Nat) (i0 : Int) (es1 : List (List D)) (f : St → RR) (K : Ex → St → RR) : B20_0 n (S20_0 n_ from_ i0 es1) (kThen (fun st ↦ f (St.head 3 224 1125899638407296 st)) K) = bif decide (i0 < ofNat (length (enS true (floodM (Net.mk (deS Bridge (enS false (Net.Bridges n_))) (deS Link (enS false (Net.Links n_)))) from_)))) then bif decide (0 ≤ i0) && decide (i0 < ofNat (length (enS true (floodM (Net.mk (deS Bridge (enS false (Net.Bridges n_))) (deS Link (enS false (Net.Links n_)))) from_)))) then bif Leaf.fit true (Leaf.int i64) (getD (getD (enS true (floodM (Net.mk (deS Bridge (enS false (Net.Bridges n_))) (deS Link (enS false (Net.Links n_)))) from_)) (0 + toNat i0) []) 0 D.dead) && true then bif decide (0 ≤ i0) && decide (i0 < ofNat (length (enS true (floodM (Net.mk (deS Bridge (enS false (Net.Bridges n_))) (deS Link (enS false (Net.Links n_)))) from_)))) then bif Leaf.fit true (Leaf.int i64) (getD (getD (enS true (floodM (Net.mk (deS Bridge (enS false (Net.Bridges n_))) (deS Link (enS false (Net.Links n_)))) from_)) (0 + toNat i0) []) 0 D.dead) && true then bif decide (0 ≤ D.num (getD (getD (enS true (floodM (Net.mk (deS Bridge (enS false (Net.Bridges n_))) (deS Link (enS false (Net.Links n_)))) from_)) (0 + toNat i0) []) 0 D.dead)) && decide (D.num (getD (getD (enS true (floodM (Net.mk (deS Bridge (enS false (Net.Bridges n_))) (deS Link (enS false (Net.Links n_)))) from_)) (0 + toNat i0) []) 0 D.dead) < ofNat (length es1)) then bif Leaf.fit true (Leaf.int i64) (getD (getD es1 (0 + toNat (D.num (getD (getD (enS true (floodM (Net.mk (deS Bridge (enS false (Net.Bridges n_))) (deS Link (enS false (Net.Links n_)))) from_)) (0 + toNat i0) []) 0 D.dead))) []) 0 D.dead) && true then bif decide (0 ≤ D.num (getD (getD (enS true (floodM (Net.mk (deS Bridge (enS false (Net.Bridges n_))) (deS Link (enS false (Net.Links n_)))) from_)) (0 + toNat i0) []) 0 D.dead)) && decide (D.num (getD (getD (enS true (floodM (Net.mk (deS Bridge (enS false (Net.Bridges n_))) (deS Link (enS false (Net.Links n_)))) from_)) (0 + toNat i0) []) 0 D.dead) < ofNat (length es1)) then f (S20_0 n_ from_ (wrap i64 (i0 + 1)) (set es1 (0 + toNat (D.num (getD (getD (enS true (floodM (Net.mk (deS Bridge (enS false (Net.Bridges n_))) (deS Link (enS false (Net.Links n_)))) from_)) (0 + toNat i0) []) 0 D.dead))) [D.int i64 (wrap i64 (D.num (getD (getD es1 (0 + toNat (D.num (getD (getD (enS true (floodM (Net.mk (deS Bridge (enS false (Net.Bridges n_))) (deS Link (enS false (Net.Links n_)))) from_)) (0 + toNat i0) []) 0 D.dead))) []) 0 D.dead) + 1))])) else none else none else none else none else none else none else none else K (Ex.exit 0) (X20_2 n_ from_ i0 es1) := by kernel_rfl
theorem aX20_2 (n_ : Net) (from_ : Int) (n : Nat) (i0 : Int) (es1 : List (List D)) : k20_1 n (Ex.exit 0) (X20_2 n_ from_ i0 es1) = some ([[D.sl true 1 es1]], []) := by kernel_rfl
theorem r20 (n_ : Net) (from_ : Int) (n : Nat) : evFn ⟨prog, Hx, 20⟩ T26.call n Go.Proofs.Try.f20 [[.sl false 2 (enS false n_.Bridges), .sl false 4 (enS false n_.Links)], [.int .i64 from_]] = bif isS Bridge false (enS false (Net.Bridges n_)) && isS Link false (enS false (Net.Links n_)) && Net.small (Net.mk (deS Bridge (enS false (Net.Bridges n_))) (deS Link (enS false (Net.Links n_)))) then bif !netOk (Net.mk (deS Bridge (enS false (Net.Bridges n_))) (deS Link (enS false (Net.Links n_)))) then some ([[D.sl true 1 []]], []) else bif !inR from_ (0) (wrap i64 (ofNat (length (enS false (Net.Bridges n_))) - 1)) then some ([[D.sl true 1 []]], []) else bif decide (0 ≤ ofNat (length (enS false (Net.Bridges n_)))) && (decide (ofNat (length (enS false (Net.Bridges n_))) ≤ ofNat (length (enS false (Net.Bridges n_)))) && decide (toNat (ofNat (length (enS false (Net.Bridges n_)))) * 8 ≤ 140737488355328)) then bif isS Bridge false (enS false (Net.Bridges n_)) && isS Link false (enS false (Net.Links n_)) && Net.small (Net.mk (deS Bridge (enS false (Net.Bridges n_))) (deS Link (enS false (Net.Links n_)))) then loopRun (B20_0 n) 3 224 1125899638407296 n (S20_0 n_ from_ (0) (replicate (toNat (ofNat (length (enS false (Net.Bridges n_))))) [D.int i64 (0)])) (k20_1 n) else none else none else none := by kernel_rfl
theorem m20 (n_ : Net) (from_ : Int) (hpre : (o20 n_ from_).1 = true) : evFn ⟨Go.Proofs.Try.prog, Hx, 20⟩ T26.call (61 + n_.Bridges.length) Go.Proofs.Try.f20 [[.sl false 2 (enS false n_.Bridges), .sl false 4 (enS false n_.Links)], [.int .i64 from_]] = some (o20 n_ from_).2 := by
  refine (r20 n_ from_ _).trans ?_
  show _ = (some ([[.sl true 1 (enS true (heardM n_ from_))]], []) : Option (List Row × List Row))
  replace hpre : (Net.small n_) = true := hpre
  have hs1 := (net_small hpre).1
  have hb : IntKind.wrap IntKind.i64 (Int.ofNat n_.Bridges.length - 1) = (n_.Bridges.length : Int) - 1 := wrap_sm (by show _ ≤ ((n_.Bridges.length : Nat) : Int) - 1; omega) (by show ((n_.Bridges.length : Nat) : Int) - 1 ≤ _; omega)
  simp only [cond_true, cond_false, Bool.and_true, Bool.true_and, Bool.and_self, Bool.not_true, Bool.not_false, isS_enS, deS_enS, lendRows_enS, deepRows_enS, enS_length, toNat_of, decide_true, decide_false, sameB_self, dec_ge, TReader.eta, Frame.eta, Heard.eta, Member.eta, Card.eta, Out1.eta, Vec.eta, Port.eta, Bridge.eta, In.eta, Out.eta, Link.eta, Net.eta, TEnd.eta, Minder.eta, Reg.eta, Wire.eta, Box.eta, Deed.eta, Bpdu.eta, Visit.eta, Fabric.eta, Got.eta, TRide.eta, Up.eta, Copy.eta, Bucket.eta, Snap.eta, TL9Cur.eta, TL21In.eta]
  simp only [hb, hpre, cond_true, Bool.true_and, enS_length]
  unfold heardM
  have hcast : (Int.ofNat n_.Bridges.length : Int) = (n_.Bridges.length : Int) := rfl
  simp only [hcast]
  cases h2 : netOk n_
  · simp only [Bool.not_false, cond_true, Bool.false_and, cond_false, enS_nil]
  cases h1 : inR from_ 0 ((n_.Bridges.length : Int) - 1)
  · simp only [Bool.not_false, Bool.not_true, cond_true, Bool.and_false, cond_false, enS_nil]
  simp only [Bool.not_true, cond_false, cond_true, Bool.and_self]
  have hni := netOk_in hpre h2
  have hlo := floodL_ok hni h1
  have hlen := floodL_len n_ from_
  have hm : floodM n_ from_ = (floodL n_ from_).1 := by unfold floodM; rw [h1, h2]; rfl
  have hz1 : decide (Int.ofNat n_.Bridges.length ≤ Int.ofNat n_.Bridges.length) = true := decide_eq_true (Int.le_refl _)
  have hz2 : decide (n_.Bridges.length * 8 ≤ 140737488355328) = true := decide_eq_true (by omega)
  simp only [← hcast, hz1, hz2, dec_ge, decide_true, Bool.and_self, Bool.true_and, cond_true, toNat_of]
  refine (congrArg (fun z => loopRun _ _ _ _ _ (S20_0 n_ from_ 0 z) _) (enS_rep true n_.Bridges.length (0 : Int))).trans ?_
  refine loop_list (xs := (floodL n_ from_).1) (fun i (o : List Int) => S20_0 n_ from_ (Int.ofNat i) (enS true o)) (fun i o => o.length = n_.Bridges.length ∧ ∀ x ∈ o, 0 ≤ x ∧ x ≤ Int.ofNat i) (fun _ o rest => some ([[D.sl true 1 (enS true (cntV rest o))]], [])) ?_ ?_ (61 + n_.Bridges.length) (List.replicate n_.Bridges.length 0) (by omega) ⟨List.length_replicate .., fun x hx => by rw [List.eq_of_mem_replicate hx]; exact ⟨Int.le_refl 0, Int.le_refl 0⟩⟩
  · rintro o ho f
    refine (q20_0 n_ from_ _ _ _ f _).trans ?_
    simp only [Net.eta, hm, isS_enS, deS_enS]
    rw [end_lt, cond_false]
    exact aX20_2 n_ from_ _ _ _
  · rintro i o hi ⟨ho, hob⟩ f hf
    refine (q20_0 n_ from_ _ _ _ f _).trans ?_
    obtain ⟨a, ha, he⟩ := in_nat (hlo _ (List.getElem_mem hi)).1
    have hao : a < o.length := by omega
    have hxa := hob _ (List.getElem_mem hao)
    have hw : IntKind.wrap IntKind.i64 (o[a] + 1) = o[a] + 1 := wrap_le (by omega) (by have := hxa.2; have h : o[a] ≤ (i : Int) := this; omega)
    have hm' : floodM (Net.mk n_.Bridges n_.Links) from_ = (floodL n_ from_).1 := hm
    simp only [Net.eta, deS_enS, hm]
    simp only [enS_length, toNat_of, dec_lt, dec_ge, decide_true, decide_false, cond_true, cond_false, Bool.and_self, Bool.and_true, Bool.true_and, Bool.not_true, Bool.not_false, Nat.lt_irrefl, Nat.zero_add, isS_enS, deS_enS, isS_nil, deS_nil, List.nil_append, lendRows_enS, deepRows_enS, noSl_u8, En.enc, List.getD_cons_zero, List.getD_cons_succ, D.num, D.flag, D.text, D.rows, Leaf.fit, List.append_eq, TReader.eta, Frame.eta, Heard.eta, Member.eta, Card.eta, Out1.eta, Vec.eta, Port.eta, Bridge.eta, In.eta, Out.eta, Link.eta, Net.eta, TEnd.eta, Minder.eta, Reg.eta, Wire.eta, Box.eta, Deed.eta, Bpdu.eta, Visit.eta, Fabric.eta, Got.eta, TRide.eta, Up.eta, Copy.eta, Bucket.eta, Snap.eta, TL9Cur.eta, TL21In.eta, enS_get _ hi, hi, wrap_succ (show i < 4611686018427387904 by omega), he, enS_get _ hao, hao, hw]
    refine (congrArg f (congrArg (S20_0 n_ from_ _) (enS_set true o a (o[a] + 1)))).trans ((hf (o.set a (o[a] + 1)) ⟨by rw [List.length_set]; exact ho, fun x hx => ?_⟩).trans ?_)
    · rcases List.mem_or_eq_of_mem_set hx with hx | rfl
      · have := hob x hx
        exact ⟨this.1, by have h : x ≤ (i : Int) := this.2; show x ≤ ((i + 1 : Nat) : Int); omega⟩
      · exact ⟨by omega, by have h : o[a] ≤ (i : Int) := hxa.2; show o[a] + 1 ≤ ((i + 1 : Nat) : Int); omega⟩
    · simp only [cntV, he, toNat_of, getD_at _ hao]
theorem s20 : SoundAt Go.Proofs.Try.prog Hx 20 c20 := soundAt_of T26_sound mixed Go.Proofs.Try.func20 (by kernel_rfl) (by
  intro rows r h
  unfold c20 at h
  split at h
  · rename_i n__Bridges n__Links from_
    obtain ⟨hp, hr⟩ := Prod.mk.inj (Option.some.inj h)
    subst hr
    simp only [Bool.and_eq_true] at hp
    obtain ⟨⟨hs0, hs1⟩, hp⟩ := hp
    obtain ⟨xs0, rfl⟩ := isS_ex hs0
    obtain ⟨xs1, rfl⟩ := isS_ex hs1
    simp only [deS_enS] at hp ⊢
    exact ⟨_, m20 ⟨xs0, xs1⟩ from_ hp⟩
  · cases h)
def T20 : Table := (20, c20) :: T26
theorem T20_sound : Table.Sound Go.Proofs.Try.prog Hx T20 := Table.sound_cons s20 T26_sound
/- flood -/
def o55 (n_ : Net) (from_ : Int) : Bool × List Row × List Row := (Net.small n_ && (netOk n_ && inR from_ 0 ((n_.Bridges.length : Int) - 1)), [[.sl true 3 (enS true ((floodL n_ from_).1))], [.sl true 1 (enS true ((floodL n_ from_).2))]], [])
def c55 : Contract
  | [[.sl false 2 n__Bridges, .sl false 4 n__Links], [.int .i64 from_]] => some (isS Bridge false n__Bridges && isS Link false n__Links && (o55 ⟨(deS Bridge n__Bridges), (deS Link n__Links)⟩ from_).1, (o55 ⟨(deS Bridge n__Bridges), (deS Link n__Links)⟩ from_).2.1, (o55 ⟨(deS Bridge n__Bridges), (deS Link n__Links)⟩ from_).2.2)
  | _ => none

def k55_0 : Ex → St → RR := kBlock (0) (kLeave (Ctx.P (Ctx.mk prog Hx (55))) (List.zip (Array.toList (Go.Func.resultTypes Go.Proofs.Try.f55)) (Array.toList (Go.Func.results Go.Proofs.Try.f55))) [] [])
def S55_0 (n_ : Net) (i0 : Int) (es1 : List (List D)) (es2 : List (List D)) (i3 : Int) (i4 : Int) (i5 : Int) : St := St.mk [TV.v false [C.rptr [D.sl false 2 (enS false (Net.Bridges n_)), D.sl false 4 (enS false (Net.Links n_))]], U_, U_, U_, U_, U_, TV.v false [C.view 1 0 0 [] 3 none], TV.v false [C.view 2 0 0 [] 1 none], TV.v false [C.ptr 0 0 0 [] 3 0 0], I_ i0, U_, U_, U_, U_, U_, U_, U_, U_, U_, U_, U_, U_, U_, U_, U_, U_, U_, U_, U_, U_, U_, U_, U_, U_, U_, U_, U_, U_, U_, U_, U_, U_, U_, U_, U_, U_, U_, U_, U_, U_, U_, U_, U_, U_, U_, U_, U_, U_, U_, U_, U_, U_, U_, U_, U_, U_, U_, U_, U_, U_, U_, U_, U_, U_, U_, U_, U_, U_, U_, U_, U_, U_, U_] [Root.mk true 3 [[D.int i64 i3, D.int i64 i4, D.int i64 i5]] 0 0 true true false, Root.mk false 3 es1 0 0 true true false, Root.mk false 1 es2 0 0 true true false]
def B55_0 (n : Nat) : St → (Ex → St → RR) → RR := runCode (Ctx.mk prog Hx (55)) (Table.call T20) n (codeAt [1, 1, 1, 1, 1, 0, 0] (bodyOf Go.Proofs.Try.f55)) (Lv.mk 961 [(0, 48)] 48)
def k55_1 (f : St → RR) (K : Ex → St → RR) : Ex → St → RR := kThen (fun st ↦ f (St.head 1 961 9671406556917033397624560 st)) K
def k55_2 (n : Nat) (f : St → RR) (K : Ex → St → RR) : Ex → St → RR := kThen (fun st ↦ runCode (Ctx.mk prog Hx (55)) (Table.call T20) n (codeAt [1, 1, 1, 1, 1, 0, 0, 1] (bodyOf Go.Proofs.Try.f55)) (Lv.mk 961 [(0, 48)] 48) st (k55_1 f K)) (k55_1 f K)
def k55_3 (n : Nat) (f : St → RR) (K : Ex → St → RR) : Ex → St → RR := kBlock (1) (k55_2 n f K)
def k55_4 (n : Nat) (f : St → RR) (K : Ex → St → RR) : Ex → St → RR := kThen (fun st ↦ runCode (Ctx.mk prog Hx (55)) (Table.call T20) n (codeAt [1, 1, 1, 1, 1, 0, 0, 0, 0, 1, 1] (bodyOf Go.Proofs.Try.f55)) (Lv.mk 961 [(1, 961), (0, 48)] 48) st (k55_3 n f K)) (k55_3 n f K)
def k55_5 (n : Nat) (f : St → RR) (K : Ex → St → RR) : Ex → St → RR := kBlock (2) (k55_4 n f K)
def S55_1 (n_ : Net) (i0 : Int) (es1 : List (List D)) (es2 : List (List D)) (i0_ : Int) (es1_ : List (List D)) (es2_ : List (List D)) : St := St.mk [TV.v false [C.rptr [D.sl false 2 (enS false (Net.Bridges n_)), D.sl false 4 (enS false (Net.Links n_))]], U_, U_, U_, U_, U_, TV.v false [C.view 3 0 0 [] 3 none], TV.v false [C.view 4 0 0 [] 1 none], TV.v false [C.ptr 0 0 0 [] 3 0 0], I_ i0, U_, U_, U_, U_, U_, U_, U_, U_, U_, U_, U_, U_, U_, U_, U_, U_, U_, U_, U_, U_, U_, U_, I_ (ofNat (length (D.rows (getD (drop 1 (getD (enS false (Net.Bridges n_)) (toNat (D.num (getD (getD es1 (0 + toNat i0) []) 0 D.dead))) [])) 0 D.dead)))), I_ i0_, U_, U_, U_, U_, U_, U_, U_, U_, U_, U_, U_, U_, U_, U_, U_, U_, U_, U_, U_, U_, U_, U_, U_, U_, U_, U_, U_, U_, U_, U_, U_, U_, U_, U_, U_, U_, U_, U_, U_, U_, U_, U_, U_, U_, U_, U_, U_, U_, U_] [Root.mk true 3 [[D.int i64 (D.num (getD (getD es1 (0 + toNat i0) []) 0 D.dead)), D.int i64 (D.num (getD (getD es1 (0 + toNat i0) []) 1 D.dead)), D.int i64 (D.num (getD (getD es1 (0 + toNat i0) []) 2 D.dead))]] 0 0 true true false, Root.mk false 3 es1 0 0 false true false, Root.mk false 1 es2 0 0 false true false, Root.mk false 3 es1_ 0 0 true true false, Root.mk false 1 es2_ 0 0 true true false]
def B55_1 (n : Nat) : St → (Ex → St → RR) → RR := runCode (Ctx.mk prog Hx (55)) (Table.call T20) n (codeAt [1, 1, 1, 1, 1, 0, 0, 0, 0, 1, 0, 1, 0, 0] (bodyOf Go.Proofs.Try.f55)) (Lv.mk 12884902849 [(2, 961), (1, 961), (0, 48)] 48)
def X55_6 (n_ : Net) (i0 : Int) (es1 : List (List D)) (es2 : List (List D)) (i0_ : Int) (es1_ : List (List D)) (es2_ : List (List D)) : St := St.mk [TV.v false [C.rptr [D.sl false 2 (enS false (Net.Bridges n_)), D.sl false 4 (enS false (Net.Links n_))]], U_, U_, U_, U_, U_, TV.v false [C.view 3 0 0 [] 3 none], TV.v false [C.view 4 0 0 [] 1 none], TV.v false [C.ptr 0 0 0 [] 3 0 0], I_ i0, U_, U_, U_, U_, U_, U_, U_, U_, U_, U_, U_, U_, U_, U_, U_, U_, U_, U_, U_, U_, U_, U_, I_ (ofNat (length (D.rows (getD (drop 1 (getD (enS false (Net.Bridges n_)) (toNat (D.num (getD (getD es1 (0 + toNat i0) []) 0 D.dead))) [])) 0 D.dead)))), I_ i0_, B_ false, U_, U_, U_, U_, U_, U_, U_, U_, U_, U_, U_, U_, U_, U_, U_, U_, U_, U_, U_, U_, U_, U_, U_, U_, U_, U_, U_, U_, U_, U_, U_, U_, U_, U_, U_, U_, U_, U_, U_, U_, U_, U_, U_, U_, U_, U_, U_, U_] [Root.mk true 3 [[D.int i64 (D.num (getD (getD es1 (0 + toNat i0) []) 0 D.dead)), D.int i64 (D.num (getD (getD es1 (0 + toNat i0) []) 1 D.dead)), D.int i64 (D.num (getD (getD es1 (0 + toNat i0) []) 2 D.dead))]] 0 0 true true false, Root.mk false 3 es1 0 0 false true false, Root.mk false 1 es2 0 0 false true false, Root.mk false 3 es1_ 0 0 true true false, Root.mk false 1 es2_ 0 0 true true false]
theorem q55_1 (n_ : Net) (n : Nat) (i0 : Int) (es1 : List (List D)) (es2 : List (List D)) (i0_ : Int) (es1_ : List (List D)) (es2_ : List (List D)) (f_ : St → RR) (K_ : Ex → St → RR) : B55_1 n (S55_1 n_ i0 es1 es2 i0_ es1_ es2_) (kThen (fun st ↦ f_ (St.head 3 12884902849 2361183241426232679616 st)) K_) = bif decide (i0_ < ofNat (length (D.rows (getD (drop 1 (getD (enS false (Net.Bridges n_)) (toNat (D.num (getD (getD es1 (0 + toNat i0) []) 0 D.dead))) [])) 0 D.dead)))) then bif i0_ == D.num (getD (getD es1 (0 + toNat i0) []) 1 D.dead) then f_ (S55_1 n_ i0 es1 es2 (wrap i64 (i0_ + 1)) es1_ es2_) else bif isS Bridge false (enS false (Net.Bridges n_)) && isS Link false (enS false (Net.Links n_)) && netIn (Net.mk (deS Bridge (enS false (Net.Bridges n_))) (deS Link (enS false (Net.Links n_)))) then bif Prod.snd (acrossB (Net.mk (deS Bridge (enS false (Net.Bridges n_))) (deS Link (enS false (Net.Links n_)))) (TEnd.mk (D.num (getD (getD es1 (0 + toNat i0) []) 0 D.dead)) i0_)) then bif decide (ofNat (length es1_) < 60) then bif decide ((length es1_ + 1) * 24 ≤ 140737488355328) then bif decide ((length es2_ + 1) * 8 ≤ 140737488355328) then f_ (S55_1 n_ i0 es1 es2 (wrap i64 (i0_ + 1)) (append es1_ [[D.int i64 (TEnd.bridge (Prod.fst (acrossB (Net.mk (deS Bridge (enS false (Net.Bridges n_))) (deS Link (enS false (Net.Links n_)))) (TEnd.mk (D.num (getD (getD es1 (0 + toNat i0) []) 0 D.dead)) i0_)))), D.int i64 (TEnd.port (Prod.fst (acrossB (Net.mk (deS Bridge (enS false (Net.Bridges n_))) (deS Link (enS false (Net.Links n_)))) (TEnd.mk (D.num (getD (getD es1 (0 + toNat i0) []) 0 D.dead)) i0_)))), D.int i64 (wrap i64 (D.num (getD (getD es1 (0 + toNat i0) []) 2 D.dead) + 1))]]) (append es2_ [[D.int i64 i0]])) else none else none else f_ (S55_1 n_ i0 es1 es2 (wrap i64 (i0_ + 1)) es1_ es2_) else f_ (S55_1 n_ i0 es1 es2 (wrap i64 (i0_ + 1)) es1_ es2_) else none else K_ (Ex.exit 2) (X55_6 n_ i0 es1 es2 i0_ es1_ es2_) := by kernel_rfl
def X55_7 (n_ : Net) (i0 : Int) (es1 : List (List D)) (es2 : List (List D)) (i0_ : Int) (es1_ : List (List D)) (es2_ : List (List D)) : St := St.mk [TV.v false [C.rptr [D.sl false 2 (enS false (Net.Bridges n_)), D.sl false 4 (enS false (Net.Links n_))]], U_, U_, U_, TV.v false [C.view 3 0 0 [] 3 none], TV.v false [C.view 4 0 0 [] 1 none], TV.v false [C.view 3 0 0 [] 3 none], TV.v false [C.view 4 0 0 [] 1 none], TV.v false [C.ptr 0 0 0 [] 3 0 0], I_ i0, U_, U_, U_, U_, U_, U_, U_, U_, U_, U_, U_, U_, U_, U_, U_, U_, U_, U_, U_, U_, U_, U_, I_ (ofNat (length (D.rows (getD (drop 1 (getD (enS false (Net.Bridges n_)) (toNat (D.num (getD (getD es1 (0 + toNat i0) []) 0 D.dead))) [])) 0 D.dead)))), I_ i0_, B_ false, U_, U_, U_, U_, U_, U_, U_, U_, U_, U_, U_, U_, U_, U_, U_, U_, U_, U_, U_, U_, U_, U_, U_, U_, U_, U_, U_, U_, U_, U_, U_, U_, U_, U_, U_, U_, I_ i0, I_ (wrap i64 (i0 + 1)), TV.v false [C.view 3 0 0 [] 3 none], I_ (ofNat (length es1_)), B_ (decide (wrap i64 (i0 + 1) ≥ ofNat (length es1_))), B_ true, TV.v false [C.gone], TV.v false [C.gone], TV.v false [C.gone], B_ true, TV.v false [C.view 3 0 0 [] 3 none], TV.v false [C.view 4 0 0 [] 1 none]] [Root.mk true 3 [[D.int i64 (D.num (getD (getD es1 (0 + toNat i0) []) 0 D.dead)), D.int i64 (D.num (getD (getD es1 (0 + toNat i0) []) 1 D.dead)), D.int i64 (D.num (getD (getD es1 (0 + toNat i0) []) 2 D.dead))]] 0 0 true true false, Root.mk false 3 es1 0 0 false true false, Root.mk false 1 es2 0 0 false true false, Root.mk false 3 es1_ 0 0 true true false, Root.mk false 1 es2_ 0 0 true true false]
theorem aX55_7 (n_ : Net) (i0 : Int) (es1 : List (List D)) (es2 : List (List D)) (i0_ : Int) (es1_ : List (List D)) (es2_ : List (List D)) : k55_0 Ex.ret (X55_7 n_ i0 es1 es2 i0_ es1_ es2_) = some ([[D.sl true 3 es1_], [D.sl true 1 es2_]], []) := by kernel_rfl
def X55_8 (n_ : Net) (i0 : Int) (es1 : List (List D)) (es2 : List (List D)) (i0_ : Int) (es1_ : List (List D)) (es2_ : List (List D)) : St := St.mk [TV.v false [C.rptr [D.sl false 2 (enS false (Net.Bridges n_)), D.sl false 4 (enS false (Net.Links n_))]], U_, U_, U_, TV.v false [C.view 3 0 0 [] 3 none], TV.v false [C.view 4 0 0 [] 1 none], TV.v false [C.view 3 0 0 [] 3 none], TV.v false [C.view 4 0 0 [] 1 none], TV.v false [C.ptr 0 0 0 [] 3 0 0], I_ i0, U_, U_, U_, U_, U_, U_, U_, U_, U_, U_, U_, U_, U_, U_, U_, U_, U_, U_, U_, U_, U_, U_, I_ (ofNat (length (D.rows (getD (drop 1 (getD (enS false (Net.Bridges n_)) (toNat (D.num (getD (getD es1 (0 + toNat i0) []) 0 D.dead))) [])) 0 D.dead)))), I_ i0_, B_ false, U_, U_, U_, U_, U_, U_, U_, U_, U_, U_, U_, U_, U_, U_, U_, U_, U_, U_, U_, U_, U_, U_, U_, U_, U_, U_, U_, U_, U_, U_, U_, U_, U_, U_, U_, U_, I_ i0, I_ (wrap i64 (i0 + 1)), TV.v false [C.view 3 0 0 [] 3 none], I_ (ofNat (length es1_)), B_ (decide (wrap i64 (i0 + 1) ≥ ofNat (length es1_))), B_ false, TV.v false [C.view 3 0 0 [] 3 none], I_ (ofNat (length es1_)), B_ (ofNat (length es1_) == 60), B_ true, TV.v false [C.view 3 0 0 [] 3 none], TV.v false [C.view 4 0 0 [] 1 none]] [Root.mk true 3 [[D.int i64 (D.num (getD (getD es1 (0 + toNat i0) []) 0 D.dead)), D.int i64 (D.num (getD (getD es1 (0 + toNat i0) []) 1 D.dead)), D.int i64 (D.num (getD (getD es1 (0 + toNat i0) []) 2 D.dead))]] 0 0 true true false, Root.mk false 3 es1 0 0 false true false, Root.mk false 1 es2 0 0 false true false, Root.mk false 3 es1_ 0 0 true true false, Root.mk false 1 es2_ 0 0 true true false]
theorem aX55_8 (n_ : Net) (i0 : Int) (es1 : List (List D)) (es2 : List (List D)) (i0_ : Int) (es1_ : List (List D)) (es2_ : List (List D)) : k55_0 Ex.ret (X55_8 n_ i0 es1 es2 i0_ es1_ es2_) = some ([[D.sl true 3 es1_], [D.sl true 1 es2_]], []) := by kernel_rfl
theorem aX55_6 (n_ : Net) (n : Nat) (i0 : Int) (es1 : List (List D)) (es2 : List (List D)) (f : St → RR) (K : Ex → St → RR) (i0_ : Int) (es1_ : List (List D)) (es2_ : List (List D)) : k55_5 n f K (Ex.exit 2) (X55_6 n_ i0 es1 es2 i0_ es1_ es2_) = bif decide (wrap i64 (i0 + 1) ≥ ofNat (length es1_)) then K Ex.ret (X55_7 n_ i0 es1 es2 i0_ es1_ es2_) else bif ofNat (length es1_) == 60 then K Ex.ret (X55_8 n_ i0 es1 es2 i0_ es1_ es2_) else f (S55_0 n_ (wrap i64 (i0 + 1)) es1_ es2_ (D.num (getD (getD es1 (0 + toNat i0) []) 0 D.dead)) (D.num (getD (getD es1 (0 + toNat i0) []) 1 D.dead)) (D.num (getD (getD es1 (0 + toNat i0) []) 2 D.dead))) := by kernel_rfl
def S55_2 (n_ : Net) (i0 : Int) (es1 : List (List D)) (es2 : List (List D)) (i3 : Int) (i4 : Int) (i5 : Int) (i0_ : Int) (es1_ : List (List D)) (es2_ : List (List D)) : St := St.mk [TV.v false [C.rptr [D.sl false 2 (enS false (Net.Bridges n_)), D.sl false 4 (enS false (Net.Links n_))]], U_, U_, U_, U_, U_, TV.v false [C.view 3 0 0 [] 3 none], TV.v false [C.view 4 0 0 [] 1 none], TV.v false [C.ptr 0 0 0 [] 3 0 0], I_ i0, U_, U_, U_, U_, U_, U_, U_, U_, U_, U_, U_, U_, U_, U_, U_, U_, U_, U_, U_, U_, U_, U_, I_ (ofNat (length (D.rows (getD (drop 1 (getD (enS false (Net.Bridges n_)) (toNat i3) [])) 0 D.dead)))), I_ i0_, U_, U_, U_, U_, U_, U_, U_, U_, U_, U_, U_, U_, U_, U_, U_, U_, U_, U_, U_, U_, U_, U_, U_, U_, U_, U_, U_, U_, U_, U_, U_, U_, U_, U_, U_, U_, U_, U_, U_, U_, U_, U_, U_, U_, U_, U_, U_, U_, U_] [Root.mk true 3 [[D.int i64 i3, D.int i64 i4, D.int i64 i5]] 0 0 true true false, Root.mk false 3 es1 0 0 false true false, Root.mk false 1 es2 0 0 false true false, Root.mk false 3 es1_ 0 0 true true false, Root.mk false 1 es2_ 0 0 true true false]
def B55_2 (n : Nat) : St → (Ex → St → RR) → RR := runCode (Ctx.mk prog Hx (55)) (Table.call T20) n (codeAt [1, 1, 1, 1, 1, 0, 0, 0, 0, 1, 0, 1, 0, 0] (bodyOf Go.Proofs.Try.f55)) (Lv.mk 12884902849 [(2, 961), (1, 961), (0, 48)] 48)
def X55_9 (n_ : Net) (i0 : Int) (es1 : List (List D)) (es2 : List (List D)) (i3 : Int) (i4 : Int) (i5 : Int) (i0_ : Int) (es1_ : List (List D)) (es2_ : List (List D)) : St := St.mk [TV.v false [C.rptr [D.sl false 2 (enS false (Net.Bridges n_)), D.sl false 4 (enS false (Net.Links n_))]], U_, U_, U_, U_, U_, TV.v false [C.view 3 0 0 [] 3 none], TV.v false [C.view 4 0 0 [] 1 none], TV.v false [C.ptr 0 0 0 [] 3 0 0], I_ i0, U_, U_, U_, U_, U_, U_, U_, U_, U_, U_, U_, U_, U_, U_, U_, U_, U_, U_, U_, U_, U_, U_, I_ (ofNat (length (D.rows (getD (drop 1 (getD (enS false (Net.Bridges n_)) (toNat i3) [])) 0 D.dead)))), I_ i0_, B_ false, U_, U_, U_, U_, U_, U_, U_, U_, U_, U_, U_, U_, U_, U_, U_, U_, U_, U_, U_, U_, U_, U_, U_, U_, U_, U_, U_, U_, U_, U_, U_, U_, U_, U_, U_, U_, U_, U_, U_, U_, U_, U_, U_, U_, U_, U_, U_, U_] [Root.mk true 3 [[D.int i64 i3, D.int i64 i4, D.int i64 i5]] 0 0 true true false, Root.mk false 3 es1 0 0 false true false, Root.mk false 1 es2 0 0 false true false, Root.mk false 3 es1_ 0 0 true true false, Root.mk false 1 es2_ 0 0 true true false]
theorem q55_2 (n_ : Net) (n : Nat) (i0 : Int) (es1 : List (List D)) (es2 : List (List D)) (i3 : Int) (i4 : Int) (i5 : Int) (i0_ : Int) (es1_ : List (List D)) (es2_ : List (List D)) (f_ : St → RR) (K_ : Ex → St → RR) : B55_2 n (S55_2 n_ i0 es1 es2 i3 i4 i5 i0_ es1_ es2_) (kThen (fun st ↦ f_ (St.head 3 12884902849 2361183241426232679616 st)) K_) = bif decide (i0_ < ofNat (length (D.rows (getD (drop 1 (getD (enS false (Net.Bridges n_)) (toNat i3) [])) 0 D.dead)))) then bif i0_ == i4 then f_ (S55_2 n_ i0 es1 es2 i3 i4 i5 (wrap i64 (i0_ + 1)) es1_ es2_) else bif isS Bridge false (enS false (Net.Bridges n_)) && isS Link false (enS false (Net.Links n_)) && netIn (Net.mk (deS Bridge (enS false (Net.Bridges n_))) (deS Link (enS false (Net.Links n_)))) then bif Prod.snd (acrossB (Net.mk (deS Bridge (enS false (Net.Bridges n_))) (deS Link (enS false (Net.Links n_)))) (TEnd.mk i3 i0_)) then bif decide (ofNat (length es1_) < 60) then bif decide ((length es1_ + 1) * 24 ≤ 140737488355328) then bif decide ((length es2_ + 1) * 8 ≤ 140737488355328) then f_ (S55_2 n_ i0 es1 es2 i3 i4 i5 (wrap i64 (i0_ + 1)) (append es1_ [[D.int i64 (TEnd.bridge (Prod.fst (acrossB (Net.mk (deS Bridge (enS false (Net.Bridges n_))) (deS Link (enS false (Net.Links n_)))) (TEnd.mk i3 i0_)))), D.int i64 (TEnd.port (Prod.fst (acrossB (Net.mk (deS Bridge (enS false (Net.Bridges n_))) (deS Link (enS false (Net.Links n_)))) (TEnd.mk i3 i0_)))), D.int i64 (wrap i64 (i5 + 1))]]) (append es2_ [[D.int i64 i0]])) else none else none else f_ (S55_2 n_ i0 es1 es2 i3 i4 i5 (wrap i64 (i0_ + 1)) es1_ es2_) else f_ (S55_2 n_ i0 es1 es2 i3 i4 i5 (wrap i64 (i0_ + 1)) es1_ es2_) else none else K_ (Ex.exit 2) (X55_9 n_ i0 es1 es2 i3 i4 i5 i0_ es1_ es2_) := by kernel_rfl
def X55_10 (n_ : Net) (i0 : Int) (es1 : List (List D)) (es2 : List (List D)) (i3 : Int) (i4 : Int) (i5 : Int) (i0_ : Int) (es1_ : List (List D)) (es2_ : List (List D)) : St := St.mk [TV.v false [C.rptr [D.sl false 2 (enS false (Net.Bridges n_)), D.sl false 4 (enS false (Net.Links n_))]], U_, U_, U_, TV.v false [C.view 3 0 0 [] 3 none], TV.v false [C.view 4 0 0 [] 1 none], TV.v false [C.view 3 0 0 [] 3 none], TV.v false [C.view 4 0 0 [] 1 none], TV.v false [C.ptr 0 0 0 [] 3 0 0], I_ i0, U_, U_, U_, U_, U_, U_, U_, U_, U_, U_, U_, U_, U_, U_, U_, U_, U_, U_, U_, U_, U_, U_, I_ (ofNat (length (D.rows (getD (drop 1 (getD (enS false (Net.Bridges n_)) (toNat i3) [])) 0 D.dead)))), I_ i0_, B_ false, U_, U_, U_, U_, U_, U_, U_, U_, U_, U_, U_, U_, U_, U_, U_, U_, U_, U_, U_, U_, U_, U_, U_, U_, U_, U_, U_, U_, U_, U_, U_, U_, U_, U_, U_, U_, I_ i0, I_ (wrap i64 (i0 + 1)), TV.v false [C.view 3 0 0 [] 3 none], I_ (ofNat (length es1_)), B_ (decide (wrap i64 (i0 + 1) ≥ ofNat (length es1_))), B_ true, TV.v false [C.gone], TV.v false [C.gone], TV.v false [C.gone], B_ true, TV.v false [C.view 3 0 0 [] 3 none], TV.v false [C.view 4 0 0 [] 1 none]] [Root.mk true 3 [[D.int i64 i3, D.int i64 i4, D.int i64 i5]] 0 0 true true false, Root.mk false 3 es1 0 0 false true false, Root.mk false 1 es2 0 0 false true false, Root.mk false 3 es1_ 0 0 true true false, Root.mk false 1 es2_ 0 0 true true false]
theorem aX55_10 (n_ : Net) (i0 : Int) (es1 : List (List D)) (es2 : List (List D)) (i3 : Int) (i4 : Int) (i5 : Int) (i0_ : Int) (es1_ : List (List D)) (es2_ : List (List D)) : k55_0 Ex.ret (X55_10 n_ i0 es1 es2 i3 i4 i5 i0_ es1_ es2_) = some ([[D.sl true 3 es1_], [D.sl true 1 es2_]], []) := by kernel_rfl
def X55_11 (n_ : Net) (i0 : Int) (es1 : List (List D)) (es2 : List (List D)) (i3 : Int) (i4 : Int) (i5 : Int) (i0_ : Int) (es1_ : List (List D)) (es2_ : List (List D)) : St := St.mk [TV.v false [C.rptr [D.sl false 2 (enS false (Net.Bridges n_)), D.sl false 4 (enS false (Net.Links n_))]], U_, U_, U_, TV.v false [C.view 3 0 0 [] 3 none], TV.v false [C.view 4 0 0 [] 1 none], TV.v false [C.view 3 0 0 [] 3 none], TV.v false [C.view 4 0 0 [] 1 none], TV.v false [C.ptr 0 0 0 [] 3 0 0], I_ i0, U_, U_, U_, U_, U_, U_, U_, U_, U_, U_, U_, U_, U_, U_, U_, U_, U_, U_, U_, U_, U_, U_, I_ (ofNat (length (D.rows (getD (drop 1 (getD (enS false (Net.Bridges n_)) (toNat i3) [])) 0 D.dead)))), I_ i0_, B_ false, U_, U_, U_, U_, U_, U_, U_, U_, U_, U_, U_, U_, U_, U_, U_, U_, U_, U_, U_, U_, U_, U_, U_, U_, U_, U_, U_, U_, U_, U_, U_, U_, U_, U_, U_, U_, I_ i0, I_ (wrap i64 (i0 + 1)), TV.v false [C.view 3 0 0 [] 3 none], I_ (ofNat (length es1_)), B_ (decide (wrap i64 (i0 + 1) ≥ ofNat (length es1_))), B_ false, TV.v false [C.view 3 0 0 [] 3 none], I_ (ofNat (length es1_)), B_ (ofNat (length es1_) == 60), B_ true, TV.v false [C.view 3 0 0 [] 3 none], TV.v false [C.view 4 0 0 [] 1 none]] [Root.mk true 3 [[D.int i64 i3, D.int i64 i4, D.int i64 i5]] 0 0 true true false, Root.mk false 3 es1 0 0 false true false, Root.mk false 1 es2 0 0 false true false, Root.mk false 3 es1_ 0 0 true true false, Root.mk false 1 es2_ 0 0 true true false]
theorem aX55_11 (n_ : Net) (i0 : Int) (es1 : List (List D)) (es2 : List (List D)) (i3 : Int) (i4 : Int) (i5 : Int) (i0_ : Int) (es1_ : List (List D)) (es2_ : List (List D)) : k55_0 Ex.ret (X55_11 n_ i0 es1 es2 i3 i4 i5 i0_ es1_ es2_) = some ([[D.sl true 3 es1_], [D.sl true 1 es2_]], []) := by kernel_rfl
theorem aX55_9 (n_ : Net) (n : Nat) (i0 : Int) (es1 : List (List D)) (es2 : List (List D)) (i3 : Int) (i4 : Int) (i5 : Int) (f : St → RR) (K : Ex → St → RR) (i0_ : Int) (es1_ : List (List D)) (es2_ : List (List D)) : k55_5 n f K (Ex.exit 2) (X55_9 n_ i0 es1 es2 i3 i4 i5 i0_ es1_ es2_) = bif decide (wrap i64 (i0 + 1) ≥ ofNat (length es1_)) then K Ex.ret (X55_10 n_ i0 es1 es2 i3 i4 i5 i0_ es1_ es2_) else bif ofNat (length es1_) == 60 then K Ex.ret (X55_11 n_ i0 es1 es2 i3 i4 i5 i0_ es1_ es2_) else f (S55_0 n_ (wrap i64 (i0 + 1)) es1_ es2_ i3 i4 i5) := by kernel_rfl
theorem q55_0 (n_ : Net) (n : Nat) (i0 : Int) (es1 : List (List D)) (es2 : List (List D)) (i3 : Int) (i4 : Int) (i5 : Int) (f : St → RR) (K : Ex → St → RR) : B55_0 n (S55_0 n_ i0 es1 es2 i3 i4 i5) (kThen (fun st ↦ f (St.head 1 961 9671406556917033397624560 st)) K) = bif decide (i0 ≥ 0) then bif decide (0 ≤ i0) && decide (i0 < ofNat (length es1)) then bif Leaf.fit true (Leaf.int i64) (getD (getD es1 (0 + toNat i0) []) 0 D.dead) && (Leaf.fit true (Leaf.int i64) (getD (getD es1 (0 + toNat i0) []) 1 D.dead) && (Leaf.fit true (Leaf.int i64) (getD (getD es1 (0 + toNat i0) []) 2 D.dead) && true)) then bif decide (0 ≤ D.num (getD (getD es1 (0 + toNat i0) []) 0 D.dead)) && decide (D.num (getD (getD es1 (0 + toNat i0) []) 0 D.dead) < ofNat (length (enS false (Net.Bridges n_)))) then bif Leaf.fit false (Leaf.sl 11 true) (getD (drop 1 (getD (enS false (Net.Bridges n_)) (toNat (D.num (getD (getD es1 (0 + toNat i0) []) 0 D.dead))) [])) 0 D.dead) && true then loopRun (B55_1 n) 3 12884902849 2361183241426232679616 n (S55_1 n_ i0 es1 es2 (0) es1 es2) (k55_5 n f K) else none else none else none else none else bif decide (0 ≤ i3) && decide (i3 < ofNat (length (enS false (Net.Bridges n_)))) then bif Leaf.fit false (Leaf.sl 11 true) (getD (drop 1 (getD (enS false (Net.Bridges n_)) (toNat i3) [])) 0 D.dead) && true then loopRun (B55_2 n) 3 12884902849 2361183241426232679616 n (S55_2 n_ i0 es1 es2 i3 i4 i5 (0) es1 es2) (k55_5 n f K) else none else none := by kernel_rfl
theorem r55 (n_ : Net) (from_ : Int) (n : Nat) : evFn ⟨prog, Hx, 55⟩ T20.call n Go.Proofs.Try.f55 [[.sl false 2 (enS false n_.Bridges), .sl false 4 (enS false n_.Links)], [.int .i64 from_]] = loopRun (B55_0 n) 1 961 9671406556917033397624560 n (S55_0 n_ (Int.negSucc 0) [] [] from_ (Int.negSucc 0) (0)) k55_0 := by kernel_rfl
theorem l55_inner1 (n_ : Net) (N : Nat) (hN : 1000 ≤ N) (hni : netIn n_ = true) (hp4 : ∀ (a : Nat) (ha : a < n_.Bridges.length), n_.Bridges[a].Ports.length ≤ 4) (hof : ∀ (a : Nat) (ha : a < n_.Bridges.length) (v : Visit), v.Bridge = Int.ofNat a → outOf n_ v = outV n_ (Int.ofNat a) v.Port (v.Far + 1) 0 n_.Bridges[a].Ports) : ∀ (a k : Nat) (ha : a < n_.Bridges.length) (l : List Visit) (b : List Int) (hkl : k < l.length) (hva : l[k].Bridge = Int.ofNat a) (hfar : 0 ≤ l[k].Far ∧ l[k].Far ≤ 1000) (h60 : l.length ≤ 60) (hbl : b.length = l.length) (f : St → Option (List Row × List Row)) (K : Ex → St → Option (List Row × List Row)) (R : Option (List Row × List Row)),
    (k55_5 N f K (Ex.exit 2) (X55_6 n_ (Int.ofNat k) (enS true l) (enS true b) (Int.ofNat n_.Bridges[a].Ports.length) (enS true (l ++ (outOf n_ l[k]).take (60 - l.length))) (enS true (b ++ List.replicate ((outOf n_ l[k]).take (60 - l.length)).length (Int.ofNat k)))) = R) →
    loopRun (B55_1 N) 3 12884902849 2361183241426232679616 N (S55_1 n_ (Int.ofNat k) (enS true l) (enS true b) 0 (enS true l) (enS true b)) (k55_5 N f K) = R := by
  intro a k ha l b hkl hva hfar h60 hbl f K R hR
  have hw : IntKind.wrap IntKind.i64 (l[k].Far + 1) = l[k].Far + 1 := wrap_le (by omega) (by omega)
  rw [hof a ha _ hva] at hR
  refine loop_list (xs := n_.Bridges[a].Ports) (fun j (v : List Visit × List Int) => S55_1 n_ (Int.ofNat k) (enS true l) (enS true b) (Int.ofNat j) (enS true v.1) (enS true v.2)) (fun j v => v.1.length ≤ 60 ∧ v.2.length = v.1.length ∧ v.1 ++ (outV n_ (Int.ofNat a) l[k].Port (l[k].Far + 1) (Int.ofNat j) (n_.Bridges[a].Ports.drop j)).take (60 - v.1.length) = l ++ (outV n_ (Int.ofNat a) l[k].Port (l[k].Far + 1) 0 n_.Bridges[a].Ports).take (60 - l.length) ∧ v.2 ++ List.replicate ((outV n_ (Int.ofNat a) l[k].Port (l[k].Far + 1) (Int.ofNat j) (n_.Bridges[a].Ports.drop j)).take (60 - v.1.length)).length (Int.ofNat k) = b ++ List.replicate ((outV n_ (Int.ofNat a) l[k].Port (l[k].Far + 1) 0 n_.Bridges[a].Ports).take (60 - l.length)).length (Int.ofNat k)) (fun _ _ _ => R) ?_ ?_ N (l, b) (by have := hp4 a ha; omega) ⟨h60, hbl, rfl, rfl⟩
  · rintro ⟨l', b'⟩ ⟨h1, h2, h3, h4⟩ f2
    simp only at h1 h2 h3 h4
    refine (q55_1 n_ _ _ _ _ _ _ _ f2 _).trans ?_
    refine bif_f (by simp only [enS_length, toNat_of, dec_lt, dec_ge, decide_true, decide_false, cond_true, cond_false, Bool.and_self, Bool.and_true, Bool.true_and, Bool.not_true, Bool.not_false, Nat.lt_irrefl, Nat.zero_add, isS_enS, deS_enS, isS_nil, deS_nil, List.nil_append, lendRows_enS, deepRows_enS, noSl_u8, En.enc, List.getD_cons_zero, List.getD_cons_succ, D.num, D.flag, D.text, D.rows, Leaf.fit, List.append_eq, TReader.eta, Frame.eta, Heard.eta, Member.eta, Card.eta, Out1.eta, Vec.eta, Port.eta, Bridge.eta, In.eta, Out.eta, Link.eta, Net.eta, TEnd.eta, Minder.eta, Reg.eta, Wire.eta, Box.eta, Deed.eta, Bpdu.eta, Visit.eta, Fabric.eta, Got.eta, TRide.eta, Up.eta, Copy.eta, Bucket.eta, Snap.eta, TL9Cur.eta, TL21In.eta, enS_get _ hkl, hkl, hva, enS_get _ ha, ha, List.drop_succ_cons, List.drop_zero, beq_self_eq_true]) ?_
    rw [List.drop_length, show outV n_ (Int.ofNat a) l[k].Port (l[k].Far + 1) (Int.ofNat n_.Bridges[a].Ports.length) [] = [] from rfl, List.take_nil, List.append_nil] at h3
    rw [List.drop_length, show outV n_ (Int.ofNat a) l[k].Port (l[k].Far + 1) (Int.ofNat n_.Bridges[a].Ports.length) [] = [] from rfl, List.take_nil, List.length_nil, List.replicate_zero, List.append_nil] at h4
    rw [h3, h4]
    exact hR
  · rintro j ⟨l', b'⟩ hj ⟨h1, h2, h3, h4⟩ f2 hf2
    simp only at h1 h2 h3 h4 hf2
    refine (q55_1 n_ _ _ _ _ _ _ _ f2 _).trans ?_
    have hr1 : decide ((l'.length + 1) * 24 ≤ 140737488355328) = true := decide_eq_true (by omega)
    have hr2 : decide ((b'.length + 1) * 8 ≤ 140737488355328) = true := decide_eq_true (by omega)
    have hc : Int.ofNat j + 1 = Int.ofNat (j + 1) := rfl
    have hp := hp4 a ha
    simp only [enS_length, toNat_of, dec_lt, dec_ge, decide_true, decide_false, cond_true, cond_false, Bool.and_self, Bool.and_true, Bool.true_and, Bool.not_true, Bool.not_false, Nat.lt_irrefl, Nat.zero_add, isS_enS, deS_enS, isS_nil, deS_nil, List.nil_append, lendRows_enS, deepRows_enS, noSl_u8, En.enc, List.getD_cons_zero, List.getD_cons_succ, D.num, D.flag, D.text, D.rows, Leaf.fit, List.append_eq, TReader.eta, Frame.eta, Heard.eta, Member.eta, Card.eta, Out1.eta, Vec.eta, Port.eta, Bridge.eta, In.eta, Out.eta, Link.eta, Net.eta, TEnd.eta, Minder.eta, Reg.eta, Wire.eta, Box.eta, Deed.eta, Bpdu.eta, Visit.eta, Fabric.eta, Got.eta, TRide.eta, Up.eta, Copy.eta, Bucket.eta, Snap.eta, TL9Cur.eta, TL21In.eta, enS_get _ hkl, hkl, hva, enS_get _ ha, ha, hj, List.drop_succ_cons, List.drop_zero, beq_self_eq_true, hni, hr1, hr2, hw, wrap_succ (show j < 4611686018427387904 by omega)]
    rw [List.drop_eq_getElem_cons hj] at h3 h4
    simp only [outV] at h3 h4
    rw [hc] at h3 h4
    cases e1 : (Int.ofNat j == l[k].Port)
    case true =>
      simp only [e1, cond_true, List.nil_append] at h3 h4 ⊢
      exact hf2 (l', b') ⟨h1, h2, h3, h4⟩
    cases e2 : (acrossB n_ ⟨Int.ofNat a, Int.ofNat j⟩).2
    · simp only [e1, e2, cond_false, List.nil_append] at h3 h4 ⊢
      exact hf2 (l', b') ⟨h1, h2, h3, h4⟩
    simp only [e1, e2, cond_false, cond_true, List.singleton_append] at h3 h4 ⊢
    by_cases h60' : l'.length < 60
    · rw [show decide (Int.ofNat l'.length < 60) = true from decide_eq_true (by show (l'.length : Int) < 60; omega), cond_true]
      rw [take_cons_lt _ _ h60'] at h3 h4
      rw [List.length_cons, List.replicate_succ] at h4
      refine (congrArg f2 (congr (congrArg (S55_1 n_ _ _ _ _) ?_) ?_)).trans (hf2 (l' ++ [⟨(acrossB n_ ⟨Int.ofNat a, Int.ofNat j⟩).1.bridge, (acrossB n_ ⟨Int.ofNat a, Int.ofNat j⟩).1.port, l[k].Far + 1⟩], b' ++ [Int.ofNat k]) ⟨by simp only [List.length_append, List.length_singleton]; omega, by simp only [List.length_append, List.length_singleton]; omega, ?_, ?_⟩)
      · exact (enS_append true l' [⟨(acrossB n_ ⟨Int.ofNat a, Int.ofNat j⟩).1.bridge, (acrossB n_ ⟨Int.ofNat a, Int.ofNat j⟩).1.port, l[k].Far + 1⟩]).symm
      · exact (enS_append true b' [Int.ofNat k]).symm
      · simp only [List.append_assoc, List.singleton_append, List.length_append, List.length_singleton]
        exact h3
      · simp only [List.append_assoc, List.singleton_append, List.length_append, List.length_singleton]
        exact h4
    · rw [show decide (Int.ofNat l'.length < 60) = false from decide_eq_false (by show ¬ (l'.length : Int) < 60; omega), cond_false]
      have hz : 60 - l'.length = 0 := by omega
      rw [hz, List.take_zero] at h3 h4
      exact hf2 (l', b') ⟨h1, h2, by simp only [hz, List.take_zero]; exact h3, by simp only [hz, List.take_zero]; exact h4⟩
theorem l55_inner2 (n_ : Net) (N : Nat) (hN : 1000 ≤ N) (hni : netIn n_ = true) (hp4 : ∀ (a : Nat) (ha : a < n_.Bridges.length), n_.Bridges[a].Ports.length ≤ 4) (hof : ∀ (a : Nat) (ha : a < n_.Bridges.length) (v : Visit), v.Bridge = Int.ofNat a → outOf n_ v = outV n_ (Int.ofNat a) v.Port (v.Far + 1) 0 n_.Bridges[a].Ports) : ∀ (a : Nat) (ha : a < n_.Bridges.length) (f : St → Option (List Row × List Row)) (K : Ex → St → Option (List Row × List Row)) (R : Option (List Row × List Row)),
    (k55_5 N f K (Ex.exit 2) (X55_9 n_ (-1) [] [] (Int.ofNat a) (-1) 0 (Int.ofNat n_.Bridges[a].Ports.length) (enS true ([] ++ (outOf n_ ⟨Int.ofNat a, -1, 0⟩).take (60 - 0))) (enS true ([] ++ List.replicate ((outOf n_ ⟨Int.ofNat a, -1, 0⟩).take (60 - 0)).length (-1)))) = R) →
    loopRun (B55_2 N) 3 12884902849 2361183241426232679616 N (S55_2 n_ (-1) [] [] (Int.ofNat a) (-1) 0 0 [] []) (k55_5 N f K) = R := by
  intro a ha f K R hR
  have hw : IntKind.wrap IntKind.i64 (0 + 1) = 0 + 1 := wrap_le (by omega) (by omega)
  rw [hof a ha ⟨Int.ofNat a, -1, 0⟩ rfl] at hR
  refine loop_list (xs := n_.Bridges[a].Ports) (fun j (v : List Visit × List Int) => S55_2 n_ (-1) [] [] (Int.ofNat a) (-1) 0 (Int.ofNat j) (enS true v.1) (enS true v.2)) (fun j v => v.1.length ≤ 60 ∧ v.2.length = v.1.length ∧ v.1 ++ (outV n_ (Int.ofNat a) (-1) (0 + 1) (Int.ofNat j) (n_.Bridges[a].Ports.drop j)).take (60 - v.1.length) = [] ++ (outV n_ (Int.ofNat a) (-1) (0 + 1) 0 n_.Bridges[a].Ports).take (60 - 0) ∧ v.2 ++ List.replicate ((outV n_ (Int.ofNat a) (-1) (0 + 1) (Int.ofNat j) (n_.Bridges[a].Ports.drop j)).take (60 - v.1.length)).length (-1) = [] ++ List.replicate ((outV n_ (Int.ofNat a) (-1) (0 + 1) 0 n_.Bridges[a].Ports).take (60 - 0)).length (-1)) (fun _ _ _ => R) ?_ ?_ N ([], []) (by have := hp4 a ha; omega) ⟨Nat.zero_le _, rfl, rfl, rfl⟩
  · rintro ⟨l', b'⟩ ⟨h1, h2, h3, h4⟩ f2
    simp only at h1 h2 h3 h4
    refine (q55_2 n_ _ _ _ _ _ _ _ _ _ _ f2 _).trans ?_
    refine bif_f (by simp only [enS_length, toNat_of, dec_lt, dec_ge, decide_true, decide_false, cond_true, cond_false, Bool.and_self, Bool.and_true, Bool.true_and, Bool.not_true, Bool.not_false, Nat.lt_irrefl, Nat.zero_add, isS_enS, deS_enS, isS_nil, deS_nil, List.nil_append, lendRows_enS, deepRows_enS, noSl_u8, En.enc, List.getD_cons_zero, List.getD_cons_succ, D.num, D.flag, D.text, D.rows, Leaf.fit, List.append_eq, TReader.eta, Frame.eta, Heard.eta, Member.eta, Card.eta, Out1.eta, Vec.eta, Port.eta, Bridge.eta, In.eta, Out.eta, Link.eta, Net.eta, TEnd.eta, Minder.eta, Reg.eta, Wire.eta, Box.eta, Deed.eta, Bpdu.eta, Visit.eta, Fabric.eta, Got.eta, TRide.eta, Up.eta, Copy.eta, Bucket.eta, Snap.eta, TL9Cur.eta, TL21In.eta, enS_get _ ha, ha, List.drop_succ_cons, List.drop_zero, beq_self_eq_true]) ?_
    rw [List.drop_length, show outV n_ (Int.ofNat a) (-1) (0 + 1) (Int.ofNat n_.Bridges[a].Ports.length) [] = [] from rfl, List.take_nil, List.append_nil] at h3
    rw [List.drop_length, show outV n_ (Int.ofNat a) (-1) (0 + 1) (Int.ofNat n_.Bridges[a].Ports.length) [] = [] from rfl, List.take_nil, List.length_nil, List.replicate_zero, List.append_nil] at h4
    rw [h3, h4]
    exact hR
  · rintro j ⟨l', b'⟩ hj ⟨h1, h2, h3, h4⟩ f2 hf2
    simp only at h1 h2 h3 h4 hf2
    refine (q55_2 n_ _ _ _ _ _ _ _ _ _ _ f2 _).trans ?_
    have hr1 : decide ((l'.length + 1) * 24 ≤ 140737488355328) = true := decide_eq_true (by omega)
    have hr2 : decide ((b'.length + 1) * 8 ≤ 140737488355328) = true := decide_eq_true (by omega)
    have hc : Int.ofNat j + 1 = Int.ofNat (j + 1) := rfl
    have hp := hp4 a ha
    simp only [enS_length, toNat_of, dec_lt, dec_ge, decide_true, decide_false, cond_true, cond_false, Bool.and_self, Bool.and_true, Bool.true_and, Bool.not_true, Bool.not_false, Nat.lt_irrefl, Nat.zero_add, isS_enS, deS_enS, isS_nil, deS_nil, List.nil_append, lendRows_enS, deepRows_enS, noSl_u8, En.enc, List.getD_cons_zero, List.getD_cons_succ, D.num, D.flag, D.text, D.rows, Leaf.fit, List.append_eq, TReader.eta, Frame.eta, Heard.eta, Member.eta, Card.eta, Out1.eta, Vec.eta, Port.eta, Bridge.eta, In.eta, Out.eta, Link.eta, Net.eta, TEnd.eta, Minder.eta, Reg.eta, Wire.eta, Box.eta, Deed.eta, Bpdu.eta, Visit.eta, Fabric.eta, Got.eta, TRide.eta, Up.eta, Copy.eta, Bucket.eta, Snap.eta, TL9Cur.eta, TL21In.eta, enS_get _ ha, ha, hj, List.drop_succ_cons, List.drop_zero, beq_self_eq_true, hni, hr1, hr2, hw, wrap_succ (show j < 4611686018427387904 by omega)]
    rw [List.drop_eq_getElem_cons hj] at h3 h4
    simp only [outV] at h3 h4
    rw [hc] at h3 h4
    cases e1 : (Int.ofNat j == (-1))
    case true =>
      simp only [e1, cond_true, List.nil_append] at h3 h4 ⊢
      exact hf2 (l', b') ⟨h1, h2, h3, h4⟩
    cases e2 : (acrossB n_ ⟨Int.ofNat a, Int.ofNat j⟩).2
    · simp only [e1, e2, cond_false, List.nil_append] at h3 h4 ⊢
      exact hf2 (l', b') ⟨h1, h2, h3, h4⟩
    simp only [e1, e2, cond_false, cond_true, List.singleton_append] at h3 h4 ⊢
    by_cases h60' : l'.length < 60
    · rw [show decide (Int.ofNat l'.length < 60) = true from decide_eq_true (by show (l'.length : Int) < 60; omega), cond_true]
      rw [take_cons_lt _ _ h60'] at h3 h4
      rw [List.length_cons, List.replicate_succ] at h4
      refine (congrArg f2 (congr (congrArg (S55_2 n_ _ _ _ _ _ _ _) ?_) ?_)).trans (hf2 (l' ++ [⟨(acrossB n_ ⟨Int.ofNat a, Int.ofNat j⟩).1.bridge, (acrossB n_ ⟨Int.ofNat a, Int.ofNat j⟩).1.port, 0 + 1⟩], b' ++ [-1]) ⟨by simp only [List.length_append, List.length_singleton]; omega, by simp only [List.length_append, List.length_singleton]; omega, ?_, ?_⟩)
      · exact (enS_append true l' [⟨(acrossB n_ ⟨Int.ofNat a, Int.ofNat j⟩).1.bridge, (acrossB n_ ⟨Int.ofNat a, Int.ofNat j⟩).1.port, 0 + 1⟩]).symm
      · exact (enS_append true b' [-1]).symm
      · simp only [List.append_assoc, List.singleton_append, List.length_append, List.length_singleton]
        exact h3
      · simp only [List.append_assoc, List.singleton_append, List.length_append, List.length_singleton]
        exact h4
    · rw [show decide (Int.ofNat l'.length < 60) = false from decide_eq_false (by show ¬ (l'.length : Int) < 60; omega), cond_false]
      have hz : 60 - l'.length = 0 := by omega
      rw [hz, List.take_zero] at h3 h4
      exact hf2 (l', b') ⟨h1, h2, by simp only [hz, List.take_zero]; exact h3, by simp only [hz, List.take_zero]; exact h4⟩
theorem l55_tail : ∀ (L : List Visit) (B : List Int) (k : Nat) (i0 : Int), IntKind.wrap IntKind.i64 (i0 + 1) = Int.ofNat k → ∀ (X : List Visit × List Int) (F A1 A2 : Option (List Row × List Row)), A1 = some ([[D.sl true 3 (enS true L)], [D.sl true 1 (enS true B)]], []) → A2 = some ([[D.sl true 3 (enS true L)], [D.sl true 1 (enS true B)]], []) → (k < L.length → ¬ L.length = 60 → F = some ([[D.sl true 3 (enS true X.1)], [D.sl true 1 (enS true X.2)]], [])) →
    (bif decide (IntKind.wrap IntKind.i64 (i0 + 1) ≥ Int.ofNat (List.length (enS true L))) then A1 else bif Int.ofNat (List.length (enS true L)) == 60 then A2 else F) = some ([[D.sl true 3 (enS true (bif decide (L.length ≤ k) || decide (L.length = 60) then (L, B) else X).1)], [D.sl true 1 (enS true (bif decide (L.length ≤ k) || decide (L.length = 60) then (L, B) else X).2)]], []) := by
  intro L B k i0 hi X F A1 A2 h1 h2 h3
  rw [hi, enS_length]
  by_cases c1 : L.length ≤ k
  · rw [show decide (Int.ofNat k ≥ Int.ofNat L.length) = true from decide_eq_true (by show (L.length : Int) ≤ (k : Int); omega), decide_eq_true c1, Bool.true_or, cond_true, cond_true]
    exact h1
  · rw [show decide (Int.ofNat k ≥ Int.ofNat L.length) = false from decide_eq_false (by show ¬ (L.length : Int) ≤ (k : Int); omega), decide_eq_false c1, Bool.false_or, cond_false]
    by_cases c2 : L.length = 60
    · rw [show (Int.ofNat L.length == 60) = true from by rw [c2]; rfl, decide_eq_true c2, cond_true, cond_true]
      exact h2
    · rw [show (Int.ofNat L.length == 60) = false from beq_eq_false_iff_ne.2 (by show ¬ (L.length : Int) = 60; omega), decide_eq_false c2, cond_false, cond_false]
      exact h3 (by omega) c2
theorem m55 (n_ : Net) (from_ : Int) (hpre : (o55 n_ from_).1 = true) : evFn ⟨Go.Proofs.Try.prog, Hx, 55⟩ T20.call (1000 + n_.Bridges.length) Go.Proofs.Try.f55 [[.sl false 2 (enS false n_.Bridges), .sl false 4 (enS false n_.Links)], [.int .i64 from_]] = some (o55 n_ from_).2 := by
  refine (r55 n_ from_ _).trans ?_
  show _ = (some ([[.sl true 3 (enS true ((floodL n_ from_).1))], [.sl true 1 (enS true ((floodL n_ from_).2))]], []) : Option (List Row × List Row))
  replace hpre : (Net.small n_ && (netOk n_ && inR from_ 0 ((n_.Bridges.length : Int) - 1))) = true := hpre
  rw [Bool.and_eq_true, Bool.and_eq_true] at hpre
  obtain ⟨hs, hok, hb⟩ := hpre
  have hni := netOk_in hs hok
  have hp4 : ∀ (a : Nat) (ha : a < n_.Bridges.length), n_.Bridges[a].Ports.length ≤ 4 := fun a ha => by
    have := ports4 hok (Int.ofNat a)
    rw [show portsAt n_ (Int.ofNat a) = n_.Bridges[a].Ports from portsAt_nat n_ a ha] at this
    exact this
  have hof : ∀ (a : Nat) (ha : a < n_.Bridges.length) (v : Visit), v.Bridge = Int.ofNat a → outOf n_ v = outV n_ (Int.ofNat a) v.Port (v.Far + 1) 0 n_.Bridges[a].Ports := fun a ha v hv => by
    unfold outOf
    rw [hv, show portsAt n_ (Int.ofNat a) = n_.Bridges[a].Ports from portsAt_nat n_ a ha]
  generalize hN : 1000 + n_.Bridges.length = N
  have hN2 : 1000 ≤ N := by omega
  have inner1 := l55_inner1 n_ N hN2 hni hp4 hof
  have inner2 := l55_inner2 n_ N hN2 hni hp4 hof
  have tail := l55_tail
  obtain ⟨a0, ha0, rfl⟩ := in_nat hb
  have lim : ∀ (l o : List Visit), l.length ≤ 60 → (l ++ o.take (60 - l.length)).length ≤ 60 := fun l o h => by rw [List.length_append, List.length_take]; omega
  have main : ∀ (m k : Nat) (l : List Visit) (b : List Int) (i3 i4 i5 : Int), k < l.length → l.length ≤ 60 → b.length = l.length → (∀ v ∈ l, vOk n_ (Int.ofNat k + 1) v) → 61 - k ≤ m →
      loopRun (B55_0 N) 1 961 9671406556917033397624560 m (S55_0 n_ (Int.ofNat k) (enS true l) (enS true b) i3 i4 i5) k55_0 = some ([[D.sl true 3 (enS true (fl n_ (60 - k) (k + 1) (Int.ofNat k) (l.getD k ⟨0, 0, 0⟩) l b).1)], [D.sl true 1 (enS true (fl n_ (60 - k) (k + 1) (Int.ofNat k) (l.getD k ⟨0, 0, 0⟩) l b).2)]], []) := by
    intro m
    induction m with
    | zero => intro k l b i3 i4 i5 hk h60 hbl hv hm; omega
    | succ m ih =>
      intro k l b i3 i4 i5 hk h60 hbl hv hm
      have hvk := hv _ (List.getElem_mem hk)
      obtain ⟨a, ha, he⟩ := in_nat hvk.1
      refine (q55_0 n_ N _ _ _ _ _ _ (fun st => loopRun (B55_0 N) 1 961 9671406556917033397624560 m st k55_0) k55_0).trans ?_
      refine bif_t (decide_eq_true (by show (0 : Int) ≤ (k : Int); omega)) ?_
      refine bif_t (by simp only [enS_length, toNat_of, dec_lt, dec_ge, decide_true, decide_false, cond_true, cond_false, Bool.and_self, Bool.and_true, Bool.true_and, Bool.not_true, Bool.not_false, Nat.lt_irrefl, Nat.zero_add, isS_enS, deS_enS, isS_nil, deS_nil, List.nil_append, lendRows_enS, deepRows_enS, noSl_u8, En.enc, List.getD_cons_zero, List.getD_cons_succ, D.num, D.flag, D.text, D.rows, Leaf.fit, List.append_eq, TReader.eta, Frame.eta, Heard.eta, Member.eta, Card.eta, Out1.eta, Vec.eta, Port.eta, Bridge.eta, In.eta, Out.eta, Link.eta, Net.eta, TEnd.eta, Minder.eta, Reg.eta, Wire.eta, Box.eta, Deed.eta, Bpdu.eta, Visit.eta, Fabric.eta, Got.eta, TRide.eta, Up.eta, Copy.eta, Bucket.eta, Snap.eta, TL9Cur.eta, TL21In.eta, enS_get _ hk, hk]) ?_
      refine bif_t (by simp only [enS_length, toNat_of, dec_lt, dec_ge, decide_true, decide_false, cond_true, cond_false, Bool.and_self, Bool.and_true, Bool.true_and, Bool.not_true, Bool.not_false, Nat.lt_irrefl, Nat.zero_add, isS_enS, deS_enS, isS_nil, deS_nil, List.nil_append, lendRows_enS, deepRows_enS, noSl_u8, En.enc, List.getD_cons_zero, List.getD_cons_succ, D.num, D.flag, D.text, D.rows, Leaf.fit, List.append_eq, TReader.eta, Frame.eta, Heard.eta, Member.eta, Card.eta, Out1.eta, Vec.eta, Port.eta, Bridge.eta, In.eta, Out.eta, Link.eta, Net.eta, TEnd.eta, Minder.eta, Reg.eta, Wire.eta, Box.eta, Deed.eta, Bpdu.eta, Visit.eta, Fabric.eta, Got.eta, TRide.eta, Up.eta, Copy.eta, Bucket.eta, Snap.eta, TL9Cur.eta, TL21In.eta, enS_get _ hk, hk]) ?_
      refine bif_t (by simp only [enS_length, toNat_of, dec_lt, dec_ge, decide_true, decide_false, cond_true, cond_false, Bool.and_self, Bool.and_true, Bool.true_and, Bool.not_true, Bool.not_false, Nat.lt_irrefl, Nat.zero_add, isS_enS, deS_enS, isS_nil, deS_nil, List.nil_append, lendRows_enS, deepRows_enS, noSl_u8, En.enc, List.getD_cons_zero, List.getD_cons_succ, D.num, D.flag, D.text, D.rows, Leaf.fit, List.append_eq, TReader.eta, Frame.eta, Heard.eta, Member.eta, Card.eta, Out1.eta, Vec.eta, Port.eta, Bridge.eta, In.eta, Out.eta, Link.eta, Net.eta, TEnd.eta, Minder.eta, Reg.eta, Wire.eta, Box.eta, Deed.eta, Bpdu.eta, Visit.eta, Fabric.eta, Got.eta, TRide.eta, Up.eta, Copy.eta, Bucket.eta, Snap.eta, TL9Cur.eta, TL21In.eta, enS_get _ hk, hk, he, ha]) ?_
      refine bif_t (by simp only [enS_length, toNat_of, dec_lt, dec_ge, decide_true, decide_false, cond_true, cond_false, Bool.and_self, Bool.and_true, Bool.true_and, Bool.not_true, Bool.not_false, Nat.lt_irrefl, Nat.zero_add, isS_enS, deS_enS, isS_nil, deS_nil, List.nil_append, lendRows_enS, deepRows_enS, noSl_u8, En.enc, List.getD_cons_zero, List.getD_cons_succ, D.num, D.flag, D.text, D.rows, Leaf.fit, List.append_eq, TReader.eta, Frame.eta, Heard.eta, Member.eta, Card.eta, Out1.eta, Vec.eta, Port.eta, Bridge.eta, In.eta, Out.eta, Link.eta, Net.eta, TEnd.eta, Minder.eta, Reg.eta, Wire.eta, Box.eta, Deed.eta, Bpdu.eta, Visit.eta, Fabric.eta, Got.eta, TRide.eta, Up.eta, Copy.eta, Bucket.eta, Snap.eta, TL9Cur.eta, TL21In.eta, enS_get _ hk, hk, he, enS_get _ ha, ha, List.drop_succ_cons, List.drop_zero, beq_self_eq_true]) ?_
      refine inner1 a k ha l b hk he ⟨hvk.2.1, by have h : l[k].Far ≤ (k : Int) + 1 := hvk.2.2; omega⟩ h60 hbl _ _ _ ?_
      refine (aX55_6 n_ N _ _ _ _ _ _ _ _).trans ?_
      have hw : IntKind.wrap IntKind.i64 (Int.ofNat k + 1) = Int.ofNat (k + 1) := wrap_succ (by omega)
      rw [getD_at _ hk, show 60 - k = (59 - k) + 1 by omega, fl_succ]
      refine tail _ _ (k + 1) _ hw (fl n_ (59 - k) (k + 1 + 1) (Int.ofNat (k + 1)) ((l ++ (outOf n_ l[k]).take (60 - l.length)).getD (k + 1) ⟨0, 0, 0⟩) (l ++ (outOf n_ l[k]).take (60 - l.length)) (b ++ List.replicate ((outOf n_ l[k]).take (60 - l.length)).length (Int.ofNat k))) _ _ _ (aX55_7 n_ _ _ _ _ _ _) (aX55_8 n_ _ _ _ _ _ _) (fun c1 c2 => ?_)
      rw [hw]
      have hl' := lim l (outOf n_ l[k]) h60
      have := ih (k + 1) (l ++ (outOf n_ l[k]).take (60 - l.length)) (b ++ List.replicate ((outOf n_ l[k]).take (60 - l.length)).length (Int.ofNat k)) (D.num (List.getD (List.getD (enS true l) (0 + Int.toNat (Int.ofNat k)) []) 0 D.dead)) (D.num (List.getD (List.getD (enS true l) (0 + Int.toNat (Int.ofNat k)) []) 1 D.dead)) (D.num (List.getD (List.getD (enS true l) (0 + Int.toNat (Int.ofNat k)) []) 2 D.dead)) c1 hl' (by rw [List.length_append, List.length_append, List.length_replicate]; omega) (fun v hx => by
        rcases List.mem_append.1 hx with hx | hx
        · have := hv v hx
          exact ⟨this.1, this.2.1, by have h : v.Far ≤ (k : Int) + 1 := this.2.2; show v.Far ≤ ((k + 1 : Nat) : Int) + 1; omega⟩
        · have h3 := outV_ok hni (b := l[k].Bridge) (but := l[k].Port) (far := l[k].Far + 1) (by have := hvk.2.1; omega) _ _ v (List.mem_of_mem_take hx)
          exact ⟨h3.1, h3.2.1, by have h4 := h3.2.2; have h : l[k].Far ≤ (k : Int) + 1 := hvk.2.2; show v.Far ≤ ((k + 1 : Nat) : Int) + 1; omega⟩) (by omega)
      rw [show 60 - (k + 1) = 59 - k by omega] at this
      exact this
  obtain ⟨M, hM⟩ : ∃ M, N = M + 1 := ⟨N - 1, by omega⟩
  have one : ∀ (st : St), loopRun (B55_0 N) 1 961 9671406556917033397624560 N st k55_0 = (B55_0 N) st (kThen (fun st => (fun st => loopRun (B55_0 N) 1 961 9671406556917033397624560 M st k55_0) (st.head 1 961 9671406556917033397624560)) k55_0) := by
    intro st
    generalize B55_0 N = body
    subst hM
    rfl
  refine (one _).trans ?_
  refine (q55_0 n_ N _ _ _ _ _ _ (fun st => loopRun (B55_0 N) 1 961 9671406556917033397624560 M st k55_0) k55_0).trans ?_
  refine bif_f rfl ?_
  refine bif_t (by simp only [enS_length, toNat_of, dec_lt, dec_ge, decide_true, decide_false, cond_true, cond_false, Bool.and_self, Bool.and_true, Bool.true_and, Bool.not_true, Bool.not_false, Nat.lt_irrefl, Nat.zero_add, isS_enS, deS_enS, isS_nil, deS_nil, List.nil_append, lendRows_enS, deepRows_enS, noSl_u8, En.enc, List.getD_cons_zero, List.getD_cons_succ, D.num, D.flag, D.text, D.rows, Leaf.fit, List.append_eq, TReader.eta, Frame.eta, Heard.eta, Member.eta, Card.eta, Out1.eta, Vec.eta, Port.eta, Bridge.eta, In.eta, Out.eta, Link.eta, Net.eta, TEnd.eta, Minder.eta, Reg.eta, Wire.eta, Box.eta, Deed.eta, Bpdu.eta, Visit.eta, Fabric.eta, Got.eta, TRide.eta, Up.eta, Copy.eta, Bucket.eta, Snap.eta, TL9Cur.eta, TL21In.eta, ha0]) ?_
  refine bif_t (by simp only [enS_length, toNat_of, dec_lt, dec_ge, decide_true, decide_false, cond_true, cond_false, Bool.and_self, Bool.and_true, Bool.true_and, Bool.not_true, Bool.not_false, Nat.lt_irrefl, Nat.zero_add, isS_enS, deS_enS, isS_nil, deS_nil, List.nil_append, lendRows_enS, deepRows_enS, noSl_u8, En.enc, List.getD_cons_zero, List.getD_cons_succ, D.num, D.flag, D.text, D.rows, Leaf.fit, List.append_eq, TReader.eta, Frame.eta, Heard.eta, Member.eta, Card.eta, Out1.eta, Vec.eta, Port.eta, Bridge.eta, In.eta, Out.eta, Link.eta, Net.eta, TEnd.eta, Minder.eta, Reg.eta, Wire.eta, Box.eta, Deed.eta, Bpdu.eta, Visit.eta, Fabric.eta, Got.eta, TRide.eta, Up.eta, Copy.eta, Bucket.eta, Snap.eta, TL9Cur.eta, TL21In.eta, enS_get _ ha0, ha0, List.drop_succ_cons, List.drop_zero, beq_self_eq_true]) ?_
  refine inner2 a0 ha0 _ _ _ ?_
  refine (aX55_9 n_ N _ _ _ _ _ _ _ _ _ _ _).trans ?_
  have hw : IntKind.wrap IntKind.i64 (-1 + 1) = Int.ofNat 0 := by decide
  rw [floodL_step]
  have hh := main M 0 ([] ++ (outOf n_ ⟨Int.ofNat a0, -1, 0⟩).take (60 - 0)) ([] ++ List.replicate ((outOf n_ ⟨Int.ofNat a0, -1, 0⟩).take (60 - 0)).length (-1)) (Int.ofNat a0) (-1) 0
  have hv0 : ∀ v ∈ [] ++ (outOf n_ ⟨Int.ofNat a0, -1, 0⟩).take (60 - 0), vOk n_ (Int.ofNat 0 + 1) v := fun v hx => by
    rw [List.nil_append] at hx
    exact outV_ok hni (b := Int.ofNat a0) (but := -1) (far := 0 + 1) (by omega) _ _ v (List.mem_of_mem_take hx)
  have hl0 : ([] ++ (outOf n_ ⟨Int.ofNat a0, -1, 0⟩).take (60 - 0)).length ≤ 60 := by rw [List.nil_append, List.length_take]; omega
  have hb0 : ([] ++ List.replicate ((outOf n_ ⟨Int.ofNat a0, -1, 0⟩).take (60 - 0)).length (-1 : Int)).length = ([] ++ (outOf n_ ⟨Int.ofNat a0, -1, 0⟩).take (60 - 0)).length := by simp
  generalize [] ++ List.replicate ((outOf n_ ⟨Int.ofNat a0, -1, 0⟩).take (60 - 0)).length (-1 : Int) = B at hh hb0 ⊢
  generalize [] ++ (outOf n_ ⟨Int.ofNat a0, -1, 0⟩).take (60 - 0) = L at hh hv0 hl0 hb0 ⊢
  generalize hX : fl n_ 60 1 (Int.ofNat 0) (L.getD 0 ⟨0, 0, 0⟩) L B = X
  refine tail L B 0 (-1) hw X _ _ _ (aX55_10 n_ _ _ _ _ _ _ _ _ _) (aX55_11 n_ _ _ _ _ _ _ _ _ _) (fun c1 c2 => ?_)
  rw [hw, ← hX]
  exact hh c1 hl0 hb0 hv0 (by omega)
theorem s55 : SoundAt Go.Proofs.Try.prog Hx 55 c55 := soundAt_of T20_sound mixed Go.Proofs.Try.func55 (by kernel_rfl) (by
  intro rows r h
  unfold c55 at h
  split at h
  · rename_i n__Bridges n__Links from_
    obtain ⟨hp, hr⟩ := Prod.mk.inj (Option.some.inj h)
    subst hr
    simp only [Bool.and_eq_true] at hp
    obtain ⟨⟨hs0, hs1⟩, hp⟩ := hp
    obtain ⟨xs0, rfl⟩ := isS_ex hs0
    obtain ⟨xs1, rfl⟩ := isS_ex hs1
    simp only [deS_enS] at hp ⊢
    exact ⟨_, m55 ⟨xs0, xs1⟩ from_ hp⟩
  · cases h)
def T55 : Table := (55, c55) :: T20
theorem T55_sound : Table.Sound Go.Proofs.Try.prog Hx T55 := Table.sound_cons s55 T20_sound
/- Flood -/
def o27 (n_ : Net) (from_ : Int) : Bool × List Row × List Row := (Net.small n_, [[.sl true 3 (enS true (floodM n_ from_))]], [])
def c27 : Contract
  | [[.sl false 2 n__Bridges, .sl false 4 n__Links], [.int .i64 from_]] => some (isS Bridge false n__Bridges && isS Link false n__Links && (o27 ⟨(deS Bridge n__Bridges), (deS Link n__Links)⟩ from_).1, (o27 ⟨(deS Bridge n__Bridges), (deS Link n__Links)⟩ from_).2.1, (o27 ⟨(deS Bridge n__Bridges), (deS Link n__Links)⟩ from_).2.2)
  | _ => none

theorem r27 (n_ : Net) (from_ : Int) (n : Nat) : evFn ⟨prog, Hx, 27⟩ T55.call n Go.Proofs.Try.f27 [[.sl false 2 (enS false n_.Bridges), .sl false 4 (enS false n_.Links)], [.int .i64 from_]] = bif !inR from_ (0) (wrap i64 (ofNat (length (enS false (Net.Bridges n_))) - 1)) then some ([[D.sl true 3 []]], []) else bif isS Bridge false (enS false (Net.Bridges n_)) && isS Link false (enS false (Net.Links n_)) && Net.small (Net.mk (deS Bridge (enS false (Net.Bridges n_))) (deS Link (enS false (Net.Links n_)))) then bif !netOk (Net.mk (deS Bridge (enS false (Net.Bridges n_))) (deS Link (enS false (Net.Links n_)))) then some ([[D.sl true 3 []]], []) else bif isS Bridge false (lendRows (enS false (Net.Bridges n_))) && isS Link false (lendRows (enS false (Net.Links n_))) && (Net.small (Net.mk (deS Bridge (lendRows (enS false (Net.Bridges n_)))) (deS Link (lendRows (enS false (Net.Links n_))))) && (netOk (Net.mk (deS Bridge (lendRows (enS false (Net.Bridges n_)))) (deS Link (lendRows (enS false (Net.Links n_))))) && inR from_ (0) (ofNat (length (deS Bridge (lendRows (enS false (Net.Bridges n_))))) - 1))) then bif deepRows (enS true (Prod.fst (floodL (Net.mk (deS Bridge (lendRows (enS false (Net.Bridges n_)))) (deS Link (lendRows (enS false (Net.Links n_))))) from_))) && true && (deepRows (enS true (Prod.snd (floodL (Net.mk (deS Bridge (lendRows (enS false (Net.Bridges n_)))) (deS Link (lendRows (enS false (Net.Links n_))))) from_))) && true && true) && true && true then some ([[D.sl true 3 (enS true (Prod.fst (floodL (Net.mk (deS Bridge (lendRows (enS false (Net.Bridges n_)))) (deS Link (lendRows (enS false (Net.Links n_))))) from_)))]], []) else none else none else none := by kernel_rfl
theorem m27 (n_ : Net) (from_ : Int) (hpre : (o27 n_ from_).1 = true) : evFn ⟨Go.Proofs.Try.prog, Hx, 27⟩ T55.call 0 Go.Proofs.Try.f27 [[.sl false 2 (enS false n_.Bridges), .sl false 4 (enS false n_.Links)], [.int .i64 from_]] = some (o27 n_ from_).2 := by
  refine (r27 n_ from_ _).trans ?_
  show _ = (some ([[.sl true 3 (enS true (floodM n_ from_))]], []) : Option (List Row × List Row))
  replace hpre : (Net.small n_) = true := hpre
  have hb : IntKind.wrap IntKind.i64 (Int.ofNat n_.Bridges.length - 1) = (n_.Bridges.length : Int) - 1 := by
    have := (net_small hpre).1
    exact wrap_sm (by show _ ≤ ((n_.Bridges.length : Nat) : Int) - 1; omega) (by show ((n_.Bridges.length : Nat) : Int) - 1 ≤ _; omega)
  simp only [cond_true, cond_false, Bool.and_true, Bool.true_and, Bool.and_self, Bool.not_true, Bool.not_false, isS_enS, deS_enS, lendRows_enS, deepRows_enS, enS_length, toNat_of, decide_true, decide_false, sameB_self, dec_ge, TReader.eta, Frame.eta, Heard.eta, Member.eta, Card.eta, Out1.eta, Vec.eta, Port.eta, Bridge.eta, In.eta, Out.eta, Link.eta, Net.eta, TEnd.eta, Minder.eta, Reg.eta, Wire.eta, Box.eta, Deed.eta, Bpdu.eta, Visit.eta, Fabric.eta, Got.eta, TRide.eta, Up.eta, Copy.eta, Bucket.eta, Snap.eta, TL9Cur.eta, TL21In.eta]
  simp only [hb, hpre, cond_true, Bool.true_and, enS_length]
  unfold floodM
  have hcast : (Int.ofNat n_.Bridges.length : Int) = (n_.Bridges.length : Int) := rfl
  simp only [hcast]
  cases h1 : inR from_ 0 ((n_.Bridges.length : Int) - 1)
  · simp only [Bool.and_false, cond_false, Bool.not_false, cond_true]
    rfl
  cases h2 : netOk n_
  · rfl
  simp only [Bool.not_true, cond_false, cond_true, Bool.and_self]
theorem s27 : SoundAt Go.Proofs.Try.prog Hx 27 c27 := soundAt_of T55_sound mixed Go.Proofs.Try.func27 (by kernel_rfl) (by
  intro rows r h
  unfold c27 at h
  split at h
  · rename_i n__Bridges n__Links from_
    obtain ⟨hp, hr⟩ := Prod.mk.inj (Option.some.inj h)
    subst hr
    simp only [Bool.and_eq_true] at hp
    obtain ⟨⟨hs0, hs1⟩, hp⟩ := hp
    obtain ⟨xs0, rfl⟩ := isS_ex hs0
    obtain ⟨xs1, rfl⟩ := isS_ex hs1
    simp only [deS_enS] at hp ⊢
    exact ⟨_, m27 ⟨xs0, xs1⟩ from_ hp⟩
  · cases h)
def T27 : Table := (27, c27) :: T55
theorem T27_sound : Table.Sound Go.Proofs.Try.prog Hx T27 := Table.sound_cons s27 T55_sound
/- HeardBy -/
def o21 (n_ : Net) (from_ : Int) : Bool × List Row × List Row := (Net.small n_, [[.sl true 1 (enS true (heardM n_ from_))]], [])
def c21 : Contract
  | [[.sl false 2 n__Bridges, .sl false 4 n__Links], [.int .i64 from_]] => some (isS Bridge false n__Bridges && isS Link false n__Links && (o21 ⟨(deS Bridge n__Bridges), (deS Link n__Links)⟩ from_).1, (o21 ⟨(deS Bridge n__Bridges), (deS Link n__Links)⟩ from_).2.1, (o21 ⟨(deS Bridge n__Bridges), (deS Link n__Links)⟩ from_).2.2)
  | _ => none

def k21_0 (n : Nat) : Ex → St → RR := kThen (fun st ↦ runCode (Ctx.mk prog Hx (21)) (Table.call T27) n (codeAt [1, 1, 1, 1, 1] (bodyOf Go.Proofs.Try.f21)) (Lv.mk 16 [] 16) st (kLeave (Ctx.P (Ctx.mk prog Hx (21))) (List.zip (Array.toList (Go.Func.resultTypes Go.Proofs.Try.f21)) (Array.toList (Go.Func.results Go.Proofs.Try.f21))) [] [])) (kLeave (Ctx.P (Ctx.mk prog Hx (21))) (List.zip (Array.toList (Go.Func.resultTypes Go.Proofs.Try.f21)) (Array.toList (Go.Func.results Go.Proofs.Try.f21))) [] [])
def k21_1 (n : Nat) : Ex → St → RR := kBlock (0) (k21_0 n)
def S21_0 (n_ : Net) (from_ : Int) (i0 : Int) (es1 : List (List D)) : St := St.mk [U_, U_, U_, U_, U_, TV.v false [C.view 1 0 0 [] 1 none], U_, U_, U_, U_, U_, U_, U_, U_, U_, U_, U_, U_, U_, U_, U_, U_, U_, U_, U_, U_, U_, U_, U_, U_, U_, TV.v false [C.view 2 0 0 [] 3 none], I_ (ofNat (length (enS true (Prod.fst (floodL (Net.mk (deS Bridge (lendRows (enS false (Net.Bridges n_)))) (deS Link (lendRows (enS false (Net.Links n_))))) from_))))), I_ i0, U_, U_, U_, U_, U_, U_, U_, U_, U_, U_, U_, U_] [Root.mk true 2 [[D.sl false 2 (enS false (Net.Bridges n_)), D.sl false 4 (enS false (Net.Links n_))]] 0 0 true true false, Root.mk false 1 es1 0 0 true true false, Root.mk false 3 (enS true (Prod.fst (floodL (Net.mk (deS Bridge (lendRows (enS false (Net.Bridges n_)))) (deS Link (lendRows (enS false (Net.Links n_))))) from_))) 0 0 true true false, Root.mk false 1 (enS true (Prod.snd (floodL (Net.mk (deS Bridge (lendRows (enS false (Net.Bridges n_)))) (deS Link (lendRows (enS false (Net.Links n_))))) from_))) 0 0 true true false]
def B21_0 (n : Nat) : St → (Ex → St → RR) → RR := runCode (Ctx.mk prog Hx (21)) (Table.call T27) n (codeAt [1, 1, 1, 1, 0, 1, 0, 0] (bodyOf Go.Proofs.Try.f21)) (Lv.mk 15032385568 [(0, 32)] 16)
def X21_2 (n_ : Net) (from_ : Int) (i0 : Int) (es1 : List (List D)) : St := St.mk [U_, U_, U_, U_, U_, TV.v false [C.view 1 0 0 [] 1 none], U_, U_, U_, U_, U_, U_, U_, U_, U_, U_, U_, U_, U_, U_, U_, U_, U_, U_, U_, U_, U_, U_, U_, U_, U_, TV.v false [C.view 2 0 0 [] 3 none], I_ (ofNat (length (enS true (Prod.fst (floodL (Net.mk (deS Bridge (lendRows (enS false (Net.Bridges n_)))) (deS Link (lendRows (enS false (Net.Links n_))))) from_))))), I_ i0, B_ false, U_, U_, U_, U_, U_, U_, U_, U_, U_, U_, U_] [Root.mk true 2 [[D.sl false 2 (enS false (Net.Bridges n_)), D.sl false 4 (enS false (Net.Links n_))]] 0 0 true true false, Root.mk false 1 es1 0 0 true true false, Root.mk false 3 (enS true (Prod.fst (floodL (Net.mk (deS Bridge (lendRows (enS false (Net.Bridges n_)))) (deS Link (lendRows (enS false (Net.Links n_))))) from_))) 0 0 true true false, Root.mk false 1 (enS true (Prod.snd (floodL (Net.mk (deS Bridge (lendRows (enS false (Net.Bridges n_)))) (deS Link (lendRows (enS false (Net.Links n_))))) from_))) 0 0 true true false]
theorem q21_0 (n_ : Net) (from_ : Int) (n : Nat) (i0 : Int) (es1 : List (List D)) (f : St → RR) (K : Ex → St → RR) : B21_0 n (S21_0 n_ from_ i0 es1) (kThen (fun st ↦ f (St.head 4 15032385568 35175782154752 st)) K) = bif decide (i0 < ofNat (length (enS true (Prod.fst (floodL (Net.mk (deS Bridge (lendRows (enS false (Net.Bridges n_)))) (deS Link (lendRows (enS false (Net.Links n_))))) from_))))) then bif decide (0 ≤ i0) && decide (i0 < ofNat (length (enS true (Prod.fst (floodL (Net.mk (deS Bridge (lendRows (enS false (Net.Bridges n_)))) (deS Link (lendRows (enS false (Net.Links n_))))) from_))))) then bif Leaf.fit true (Leaf.int i64) (getD (getD (enS true (Prod.fst (floodL (Net.mk (deS Bridge (lendRows (enS false (Net.Bridges n_)))) (deS Link (lendRows (enS false (Net.Links n_))))) from_))) (0 + toNat i0) []) 0 D.dead) && (Leaf.fit true (Leaf.int i64) (getD (getD (enS true (Prod.fst (floodL (Net.mk (deS Bridge (lendRows (enS false (Net.Bridges n_)))) (deS Link (lendRows (enS false (Net.Links n_))))) from_))) (0 + toNat i0) []) 1 D.dead) && (Leaf.fit true (Leaf.int i64) (getD (getD (enS true (Prod.fst (floodL (Net.mk (deS Bridge (lendRows (enS false (Net.Bridges n_)))) (deS Link (lendRows (enS false (Net.Links n_))))) from_))) (0 + toNat i0) []) 2 D.dead) && true)) then bif decide (0 ≤ D.num (getD (getD (enS true (Prod.fst (floodL (Net.mk (deS Bridge (lendRows (enS false (Net.Bridges n_)))) (deS Link (lendRows (enS false (Net.Links n_))))) from_))) (0 + toNat i0) []) 0 D.dead)) && decide (D.num (getD (getD (enS true (Prod.fst (floodL (Net.mk (deS Bridge (lendRows (enS false (Net.Bridges n_)))) (deS Link (lendRows (enS false (Net.Links n_))))) from_))) (0 + toNat i0) []) 0 D.dead) < ofNat (length es1)) then bif Leaf.fit true (Leaf.int i64) (getD (getD es1 (0 + toNat (D.num (getD (getD (enS true (Prod.fst (floodL (Net.mk (deS Bridge (lendRows (enS false (Net.Bridges n_)))) (deS Link (lendRows (enS false (Net.Links n_))))) from_))) (0 + toNat i0) []) 0 D.dead))) []) 0 D.dead) && true then bif decide (0 ≤ D.num (getD (getD (enS true (Prod.fst (floodL (Net.mk (deS Bridge (lendRows (enS false (Net.Bridges n_)))) (deS Link (lendRows (enS false (Net.Links n_))))) from_))) (0 + toNat i0) []) 0 D.dead)) && decide (D.num (getD (getD (enS true (Prod.fst (floodL (Net.mk (deS Bridge (lendRows (enS false (Net.Bridges n_)))) (deS Link (lendRows (enS false (Net.Links n_))))) from_))) (0 + toNat i0) []) 0 D.dead) < ofNat (length es1)) then f (S21_0 n_ from_ (wrap i64 (i0 + 1)) (set es1 (0 + toNat (D.num (getD (getD (enS true (Prod.fst (floodL (Net.mk (deS Bridge (lendRows (enS false (Net.Bridges n_)))) (deS Link (lendRows (enS false (Net.Links n_))))) from_))) (0 + toNat i0) []) 0 D.dead))) [D.int i64 (wrap i64 (D.num (getD (getD es1 (0 + toNat (D.num (getD (getD (enS true (Prod.fst (floodL (Net.mk (deS Bridge (lendRows (enS false (Net.Bridges n_)))) (deS Link (lendRows (enS false (Net.Links n_))))) from_))) (0 + toNat i0) []) 0 D.dead))) []) 0 D.dead) + 1))])) else none else none else none else none else none else K (Ex.exit 0) (X21_2 n_ from_ i0 es1) := by kernel_rfl
theorem aX21_2 (n_ : Net) (from_ : Int) (n : Nat) (i0 : Int) (es1 : List (List D)) : k21_1 n (Ex.exit 0) (X21_2 n_ from_ i0 es1) = some ([[D.sl true 1 es1]], []) := by kernel_rfl
theorem r21 (n_ : Net) (from_ : Int) (n : Nat) : evFn ⟨prog, Hx, 21⟩ T27.call n Go.Proofs.Try.f21 [[.sl false 2 (enS false n_.Bridges), .sl false 4 (enS false n_.Links)], [.int .i64 from_]] = bif !inR from_ (0) (wrap i64 (ofNat (length (enS false (Net.Bridges n_))) - 1)) then some ([[D.sl true 1 []]], []) else bif isS Bridge false (enS false (Net.Bridges n_)) && isS Link false (enS false (Net.Links n_)) && Net.small (Net.mk (deS Bridge (enS false (Net.Bridges n_))) (deS Link (enS false (Net.Links n_)))) then bif !netOk (Net.mk (deS Bridge (enS false (Net.Bridges n_))) (deS Link (enS false (Net.Links n_)))) then some ([[D.sl true 1 []]], []) else bif decide (0 ≤ ofNat (length (enS false (Net.Bridges n_)))) && (decide (ofNat (length (enS false (Net.Bridges n_))) ≤ ofNat (length (enS false (Net.Bridges n_)))) && decide (toNat (ofNat (length (enS false (Net.Bridges n_)))) * 8 ≤ 140737488355328)) then bif isS Bridge false (lendRows (enS false (Net.Bridges n_))) && isS Link false (lendRows (enS false (Net.Links n_))) && (Net.small (Net.mk (deS Bridge (lendRows (enS false (Net.Bridges n_)))) (deS Link (lendRows (enS false (Net.Links n_))))) && (netOk (Net.mk (deS Bridge (lendRows (enS false (Net.Bridges n_)))) (deS Link (lendRows (enS false (Net.Links n_))))) && inR from_ (0) (ofNat (length (deS Bridge (lendRows (enS false (Net.Bridges n_))))) - 1))) then bif deepRows (enS true (Prod.fst (floodL (Net.mk (deS Bridge (lendRows (enS false (Net.Bridges n_)))) (deS Link (lendRows (enS false (Net.Links n_))))) from_))) && true && (deepRows (enS true (Prod.snd (floodL (Net.mk (deS Bridge (lendRows (enS false (Net.Bridges n_)))) (deS Link (lendRows (enS false (Net.Links n_))))) from_))) && true && true) && true && true then loopRun (B21_0 n) 4 15032385568 35175782154752 n (S21_0 n_ from_ (0) (replicate (toNat (ofNat (length (enS false (Net.Bridges n_))))) [D.int i64 (0)])) (k21_1 n) else none else none else none else none := by kernel_rfl
theorem m21 (n_ : Net) (from_ : Int) (hpre : (o21 n_ from_).1 = true) : evFn ⟨Go.Proofs.Try.prog, Hx, 21⟩ T27.call (61 + n_.Bridges.length) Go.Proofs.Try.f21 [[.sl false 2 (enS false n_.Bridges), .sl false 4 (enS false n_.Links)], [.int .i64 from_]] = some (o21 n_ from_).2 := by
  refine (r21 n_ from_ _).trans ?_
  show _ = (some ([[.sl true 1 (enS true (heardM n_ from_))]], []) : Option (List Row × List Row))
  replace hpre : (Net.small n_) = true := hpre
  have hs1 := (net_small hpre).1
  have hb : IntKind.wrap IntKind.i64 (Int.ofNat n_.Bridges.length - 1) = (n_.Bridges.length : Int) - 1 := wrap_sm (by show _ ≤ ((n_.Bridges.length : Nat) : Int) - 1; omega) (by show ((n_.Bridges.length : Nat) : Int) - 1 ≤ _; omega)
  simp only [cond_true, cond_false, Bool.and_true, Bool.true_and, Bool.and_self, Bool.not_true, Bool.not_false, isS_enS, deS_enS, lendRows_enS, deepRows_enS, enS_length, toNat_of, decide_true, decide_false, sameB_self, dec_ge, TReader.eta, Frame.eta, Heard.eta, Member.eta, Card.eta, Out1.eta, Vec.eta, Port.eta, Bridge.eta, In.eta, Out.eta, Link.eta, Net.eta, TEnd.eta, Minder.eta, Reg.eta, Wire.eta, Box.eta, Deed.eta, Bpdu.eta, Visit.eta, Fabric.eta, Got.eta, TRide.eta, Up.eta, Copy.eta, Bucket.eta, Snap.eta, TL9Cur.eta, TL21In.eta]
  simp only [hb, hpre, cond_true, Bool.true_and, enS_length]
  unfold heardM
  have hcast : (Int.ofNat n_.Bridges.length : Int) = (n_.Bridges.length : Int) := rfl
  simp only [hcast]
  cases h1 : inR from_ 0 ((n_.Bridges.length : Int) - 1)
  · simp only [Bool.and_false, cond_false, Bool.not_false, cond_true]
    rfl
  cases h2 : netOk n_
  · rfl
  simp only [Bool.not_true, cond_false, cond_true, Bool.and_self]
  have hni := netOk_in hpre h2
  have hlo := floodL_ok hni h1
  have hlen := floodL_len n_ from_
  have hz1 : decide (Int.ofNat n_.Bridges.length ≤ Int.ofNat n_.Bridges.length) = true := decide_eq_true (Int.le_refl _)
  have hz2 : decide (n_.Bridges.length * 8 ≤ 140737488355328) = true := decide_eq_true (by omega)
  simp only [← hcast, hz1, hz2, dec_ge, decide_true, Bool.and_self, Bool.true_and, cond_true, toNat_of]
  refine (congrArg (fun z => loopRun _ _ _ _ _ (S21_0 n_ from_ 0 z) _) (enS_rep true n_.Bridges.length (0 : Int))).trans ?_
  refine loop_list (xs := (floodL n_ from_).1) (fun i (o : List Int) => S21_0 n_ from_ (Int.ofNat i) (enS true o)) (fun i o => o.length = n_.Bridges.length ∧ ∀ x ∈ o, 0 ≤ x ∧ x ≤ Int.ofNat i) (fun _ o rest => some ([[D.sl true 1 (enS true (cntV rest o))]], [])) ?_ ?_ (61 + n_.Bridges.length) (List.replicate n_.Bridges.length 0) (by omega) ⟨List.length_replicate .., fun x hx => by rw [List.eq_of_mem_replicate hx]; exact ⟨Int.le_refl 0, Int.le_refl 0⟩⟩
  · rintro o ho f
    refine (q21_0 n_ from_ _ _ _ f _).trans ?_
    simp only [lendRows_enS, deS_enS, Net.eta]
    rw [end_lt, cond_false]
    exact aX21_2 n_ from_ _ _ _
  · rintro i o hi ⟨ho, hob⟩ f hf
    refine (q21_0 n_ from_ _ _ _ f _).trans ?_
    obtain ⟨a, ha, he⟩ := in_nat (hlo _ (List.getElem_mem hi)).1
    have hao : a < o.length := by omega
    have hxa := hob _ (List.getElem_mem hao)
    have hw : IntKind.wrap IntKind.i64 (o[a] + 1) = o[a] + 1 := wrap_le (by omega) (by have := hxa.2; have h : o[a] ≤ (i : Int) := this; omega)
    simp only [lendRows_enS, deS_enS, Net.eta]
    simp only [enS_length, toNat_of, dec_lt, dec_ge, decide_true, decide_false, cond_true, cond_false, Bool.and_self, Bool.and_true, Bool.true_and, Bool.not_true, Bool.not_false, Nat.lt_irrefl, Nat.zero_add, isS_enS, deS_enS, isS_nil, deS_nil, List.nil_append, lendRows_enS, deepRows_enS, noSl_u8, En.enc, List.getD_cons_zero, List.getD_cons_succ, D.num, D.flag, D.text, D.rows, Leaf.fit, List.append_eq, TReader.eta, Frame.eta, Heard.eta, Member.eta, Card.eta, Out1.eta, Vec.eta, Port.eta, Bridge.eta, In.eta, Out.eta, Link.eta, Net.eta, TEnd.eta, Minder.eta, Reg.eta, Wire.eta, Box.eta, Deed.eta, Bpdu.eta, Visit.eta, Fabric.eta, Got.eta, TRide.eta, Up.eta, Copy.eta, Bucket.eta, Snap.eta, TL9Cur.eta, TL21In.eta, enS_get _ hi, hi, wrap_succ (show i < 4611686018427387904 by omega), he, enS_get _ hao, hao, hw]
    refine (congrArg f (congrArg (S21_0 n_ from_ _) (enS_set true o a (o[a] + 1)))).trans ((hf (o.set a (o[a] + 1)) ⟨by rw [List.length_set]; exact ho, fun x hx => ?_⟩).trans ?_)
    · rcases List.mem_or_eq_of_mem_set hx with hx | rfl
      · have := hob x hx
        exact ⟨this.1, by have h : x ≤ (i : Int) := this.2; show x ≤ ((i + 1 : Nat) : Int); omega⟩
      · exact ⟨by omega, by have h : o[a] ≤ (i : Int) := hxa.2; show o[a] + 1 ≤ ((i + 1 : Nat) : Int); omega⟩
    · simp only [cntV, he, toNat_of, getD_at _ hao]
theorem s21 : SoundAt Go.Proofs.Try.prog Hx 21 c21 := soundAt_of T27_sound mixed Go.Proofs.Try.func21 (by kernel_rfl) (by
  intro rows r h
  unfold c21 at h
  split at h
  · rename_i n__Bridges n__Links from_
    obtain ⟨hp, hr⟩ := Prod.mk.inj (Option.some.inj h)
    subst hr
    simp only [Bool.and_eq_true] at hp
    obtain ⟨⟨hs0, hs1⟩, hp⟩ := hp
    obtain ⟨xs0, rfl⟩ := isS_ex hs0
    obtain ⟨xs1, rfl⟩ := isS_ex hs1
    simp only [deS_enS] at hp ⊢
    exact ⟨_, m21 ⟨xs0, xs1⟩ from_ hp⟩
  · cases h)
def T21 : Table := (21, c21) :: T27
theorem T21_sound : Table.Sound Go.Proofs.Try.prog Hx T21 := Table.sound_cons s21 T27_sound
end Go.Ev
end
