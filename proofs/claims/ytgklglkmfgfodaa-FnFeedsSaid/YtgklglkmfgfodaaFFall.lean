/- Contracts of functions, each by its evaluation. -/
import Derived.Test.YtgklglkmfgfodaaEvMd
import Derived.Test.YtgklglkmfgfodaaProg
import Derived.KernelRfl
import Derived.Test.YtgklglkmfgfodaaFFlen
set_option linter.unusedVariables false
set_option linter.unusedSimpArgs false
set_option maxRecDepth 100000
noncomputable section
open List (getD length drop take set append replicate all isEmpty)
open Int (toNat ofNat)
open Go.IntKind (i64 wrap)
open Go.Proofs.Try (prog f24 f47 func24 func47)
namespace Go.Ev
open Go.RowKit Go.Md
end Go.Ev
namespace Go.Md
open Go Go.Ev
def passF : List Up → Copy → Bool → Copy × Bool
  | [], c, t => (c, t)
  | u :: us, c, t => passF us (feedM c u).1 (t || (feedM c u).2)
theorem feed_no {c : Copy} {u : Up} (h : (copyOk c && (upOk u && u.Seq == c.Next)) = false) : feedM c u = (c, false) := by
  unfold feedM
  rw [h]
  rfl
theorem feed_yes {c : Copy} {u : Up} (h : (copyOk c && (upOk u && u.Seq == c.Next)) = true) : feedM c u = (⟨c.Next + 1, hearL c.Table u.Addr u.Vlan u.Port⟩, true) := by
  unfold feedM
  rw [h]
  rfl
theorem yes_next {c : Copy} {u : Up} (h : (copyOk c && (upOk u && u.Seq == c.Next)) = true) : 0 ≤ c.Next ∧ c.Next ≤ 100000 := by
  simp only [Bool.and_eq_true, beq_iff_eq] at h
  obtain ⟨_, h1, h2⟩ := h
  unfold upOk inR at h1
  simp only [Bool.and_eq_true, decide_eq_true_eq] at h1
  omega
theorem feed_ok {c : Copy} {u : Up} (hc : copyOk c = true) : copyOk (feedM c u).1 = true := by
  cases h : copyOk c && (upOk u && u.Seq == c.Next)
  · rw [feed_no h]; exact hc
  · rw [feed_yes h]
    obtain ⟨h0, h1⟩ := yes_next h
    unfold copyOk at hc ⊢
    rw [Bool.and_eq_true] at hc ⊢
    refine ⟨?_, ?_⟩
    · unfold inR
      simp only [Bool.and_eq_true, decide_eq_true_eq]
      omega
    · show tableOk (hearL c.Table u.Addr u.Vlan u.Port) = true
      unfold hearL
      cases ht : tableOk (hearI c.Table u.Addr u.Vlan u.Port)
      · exact hc.2
      · exact ht
theorem pass_next : ∀ (l : List Up) (c : Copy) (t : Bool), c.Next ≤ (passF l c t).1.Next ∧ ((passF l c t).2 = true → t = true ∨ (c.Next < (passF l c t).1.Next ∧ c.Next ≤ 100000))
  | [], c, t => ⟨Int.le_refl _, fun h => .inl h⟩
  | u :: us, c, t => by
    show c.Next ≤ (passF us (feedM c u).1 (t || (feedM c u).2)).1.Next ∧ _
    obtain ⟨h1, h2⟩ := pass_next us (feedM c u).1 (t || (feedM c u).2)
    cases h : copyOk c && (upOk u && u.Seq == c.Next)
    · have e := feed_no h
      rw [e] at h1 h2
      refine ⟨by rw [e]; exact h1, fun hp => ?_⟩
      have hp' : (passF us (feedM c u).1 (t || (feedM c u).2)).2 = true := hp
      rw [e] at hp'
      rcases h2 hp' with h3 | h3
      · exact .inl (by simpa using h3)
      · refine .inr ?_
        show c.Next < (passF us (feedM c u).1 (t || (feedM c u).2)).1.Next ∧ _
        rw [e]
        exact h3
    · have e := feed_yes h
      obtain ⟨h5, h6⟩ := yes_next h
      rw [e] at h1
      have h1 : c.Next + 1 ≤ (passF us ⟨c.Next + 1, hearL c.Table u.Addr u.Vlan u.Port⟩ (t || true)).1.Next := h1
      refine ⟨by rw [e]; show c.Next ≤ (passF us ⟨c.Next + 1, hearL c.Table u.Addr u.Vlan u.Port⟩ (t || true)).1.Next; omega, fun _ => .inr ?_⟩
      show c.Next < (passF us (feedM c u).1 (t || (feedM c u).2)).1.Next ∧ _
      rw [e]
      exact ⟨by show c.Next < (passF us ⟨c.Next + 1, hearL c.Table u.Addr u.Vlan u.Port⟩ (t || true)).1.Next; omega, h6⟩
theorem pass_dec (l : List Up) (c : Copy) (h : (passF l c false).2 = true) : (100001 - (passF l c false).1.Next).toNat < (100001 - c.Next).toNat := by
  rcases (pass_next l c false).2 h with h1 | ⟨h1, h2⟩
  · cases h1
  · omega
theorem pass_no : ∀ (l : List Up) (c : Copy) (t : Bool), copyOk c = false → passF l c t = (c, t)
  | [], c, t, _ => rfl
  | u :: us, c, t, h => by
    show passF us (feedM c u).1 (t || (feedM c u).2) = _
    rw [feed_no (by rw [h]; rfl), Bool.or_false]
    exact pass_no us c t h
theorem pass_len : ∀ (l : List Up) (c : Copy) (t : Bool), c.Table.length ≤ 1048576 → (passF l c t).1.Table.length ≤ 1048576
  | [], c, t, h => h
  | u :: us, c, t, h => pass_len us _ _ (feed_len c u h)
theorem pass_ok : ∀ (l : List Up) (c : Copy) (t : Bool), copyOk c = true → copyOk (passF l c t).1 = true
  | [], c, t, h => h
  | u :: us, c, t, h => pass_ok us _ _ (feed_ok h)
def faW (l : List Up) (c : Copy) : Copy :=
  if h : (passF l c false).2 = true then faW l (passF l c false).1 else (passF l c false).1
  termination_by (100001 - c.Next).toNat
  decreasing_by exact pass_dec l c h
theorem faW_yes {l : List Up} {c : Copy} (h : (passF l c false).2 = true) : faW l c = faW l (passF l c false).1 := by
  rw [faW, dif_pos h]
theorem faW_stop {l : List Up} {c : Copy} (h : (passF l c false).2 = false) : faW l c = (passF l c false).1 := by
  rw [faW, dif_neg (by rw [h]; decide)]
theorem faW_no {l : List Up} {c : Copy} (h : copyOk c = false) : faW l c = c := by
  have e := pass_no l c false h
  rw [faW_stop (by rw [e]), e]
theorem faW_len (l : List Up) : ∀ (n : Nat) (c : Copy), (100001 - c.Next).toNat < n → c.Table.length ≤ 1048576 → (faW l c).Table.length ≤ 1048576
  | 0, c, h, _ => absurd h (Nat.not_lt_zero _)
  | n + 1, c, h, hc => by
    cases ht : (passF l c false).2
    · rw [faW_stop ht]; exact pass_len l c false hc
    · rw [faW_yes ht]
      exact faW_len l n _ (by have := pass_dec l c ht; omega) (pass_len l c false hc)
def outC (c : Copy) : Go.Ev.RR := some ([[D.int .i64 c.Next, D.sl true 4 (enS true c.Table)]], [])
/-- What comes of a round's end: went on or not, and the copy. -/
def outF (l : List Up) (v : Bool × Copy) : Go.Ev.RR := bif v.1 then outC (faW l v.2) else outC v.2
def muF (v : Bool × Copy) : Nat := bif v.1 then (bif copyOk v.2 then (100001 - v.2.Next).toNat + 1 else 1) else 0
theorem mu_pass {l : List Up} {c : Copy} : muF ((passF l c false).2, (passF l c false).1) < muF (true, c) := by
  unfold muF
  simp only [cond_true]
  cases hc : copyOk c
  · rw [pass_no l c false hc]
    simp
  · rw [cond_true]
    cases ht : (passF l c false).2
    · simp
    · have := pass_dec l c ht
      rw [pass_ok l c false hc]
      simp only [cond_true]
      omega
theorem out_pass {l : List Up} {c : Copy} : outF l ((passF l c false).2, (passF l c false).1) = outF l (true, c) := by
  unfold outF
  simp only [cond_true]
  cases ht : (passF l c false).2
  · rw [faW_stop ht]; rfl
  · rw [faW_yes ht]; rfl
theorem mu_le {v : Bool × Copy} : muF v ≤ 100002 := by
  unfold muF
  cases v.1
  · simp
  · cases hc : copyOk v.2
    · simp
    · unfold copyOk inR at hc
      simp only [Bool.and_eq_true, decide_eq_true_eq] at hc
      simp only [cond_true]
      omega
end Go.Md
namespace Go.Ev
open Go.Md
def o24 (c : Copy) (list : List Up) : Bool × List Row × List Row := (decide (c.Table.length ≤ 1048576) && decide (list.length ≤ 1048576), [[.int .i64 (faW list c).Next, .sl true 4 (enS true (faW list c).Table)]], [])
def c24 : Contract
  | [[.int .i64 c_Next, .sl false 4 c_Table], [.sl false 4 list]] => some (isS Heard false c_Table && isS Up false list && (o24 ⟨c_Next, (deS Heard c_Table)⟩ (deS Up list)).1, (o24 ⟨c_Next, (deS Heard c_Table)⟩ (deS Up list)).2.1, (o24 ⟨c_Next, (deS Heard c_Table)⟩ (deS Up list)).2.2)
  | _ => none

def k24_0 (n : Nat) : Ex → St → RR := kThen (fun st ↦ runCode (Ctx.mk prog Hx (24)) (Table.call T45) n (codeAt [1, 1, 1, 1] (bodyOf f24)) (Lv.mk 16 [] 16) st (kLeave (Ctx.P (Ctx.mk prog Hx (24))) (List.zip (Array.toList (Go.Func.resultTypes f24)) (Array.toList (Go.Func.results f24))) [] [])) (kLeave (Ctx.P (Ctx.mk prog Hx (24))) (List.zip (Array.toList (Go.Func.resultTypes f24)) (Array.toList (Go.Func.results f24))) [] [])
def k24_1 (n : Nat) : Ex → St → RR := kBlock (0) (k24_0 n)
def S24_0 (c : Copy) (list : List Up) (b0 : Bool) (i1 : Int) (es2 : List (List D)) : St := St.mk [U_, V_ [C.d (D.sl false 4 (enS false list))], U_, U_, V_ [C.ptr 1 0 0 [] 2 0 0], V_ [C.ptr 3 0 0 [] 2 0 0], B_ b0, U_, U_, U_, U_, U_, U_, U_, U_, U_, U_, U_, U_, U_, U_, U_, U_, U_, U_, U_, U_, U_, U_, U_, U_, U_, U_, U_, U_, U_, U_, U_, U_, U_] [Root.mk true 2 [[D.int i64 (Copy.Next c), D.sl false 4 (enS false (Copy.Table c))]] 0 0 true true false, Root.mk true 2 [[D.int i64 (0), D.sl true 4 []]] 0 0 true true false, Root.mk false 4 (enS true (deS Heard (enS false (Copy.Table c)))) 0 0 false true false, Root.mk true 2 [[D.int i64 i1, D.sl true 4 es2]] 0 0 true true false]
def B24_0 (n : Nat) : St → (Ex → St → RR) → RR := runCode (Ctx.mk prog Hx (24)) (Table.call T45) n (codeAt [1, 1, 1, 0, 1, 0, 0] (bodyOf f24)) (Lv.mk 114 [(0, 48)] 16)
def k24_2 (f : St → RR) (K : Ex → St → RR) : Ex → St → RR := kThen (fun st ↦ f (St.head 4 114 549755781440 st)) K
def k24_3 (f : St → RR) (K : Ex → St → RR) : Ex → St → RR := kBlock (1) (k24_2 f K)
def k24_4 (f : St → RR) (K : Ex → St → RR) : Ex → St → RR := kBlock (2) (k24_3 f K)
def S24_1 (c : Copy) (list : List Up) (i0 : Int) (b1 : Bool) (i2 : Int) (es3 : List (List D)) : St := St.mk [U_, V_ [C.d (D.sl false 4 (enS false list))], U_, U_, V_ [C.ptr 1 0 0 [] 2 0 0], V_ [C.ptr 3 0 0 [] 2 0 0], B_ b1, U_, U_, U_, U_, U_, U_, U_, U_, U_, V_ [C.d (D.sl false 4 (enS false list))], I_ (ofNat (length (enS false list))), I_ i0, U_, U_, U_, U_, U_, U_, U_, U_, U_, U_, U_, U_, U_, U_, U_, U_, U_, U_, U_, U_, U_] [Root.mk true 2 [[D.int i64 (Copy.Next c), D.sl false 4 (enS false (Copy.Table c))]] 0 0 true true false, Root.mk true 2 [[D.int i64 (0), D.sl true 4 []]] 0 0 true true false, Root.mk false 4 (enS true (deS Heard (enS false (Copy.Table c)))) 0 0 false true false, Root.mk true 2 [[D.int i64 i2, D.sl true 4 es3]] 0 0 true true false]
def B24_1 (n : Nat) : St → (Ex → St → RR) → RR := runCode (Ctx.mk prog Hx (24)) (Table.call T45) n (codeAt [1, 1, 1, 0, 1, 0, 0, 1, 0, 1, 1, 0, 0] (bodyOf f24)) (Lv.mk 458866 [(2, 114), (1, 114), (0, 48)] 16)
def X24_5 (c : Copy) (list : List Up) (i0 : Int) (b1 : Bool) (i2 : Int) (es3 : List (List D)) : St := St.mk [U_, V_ [C.d (D.sl false 4 (enS false list))], U_, U_, V_ [C.ptr 1 0 0 [] 2 0 0], V_ [C.ptr 3 0 0 [] 2 0 0], B_ b1, U_, U_, U_, U_, U_, U_, U_, U_, U_, V_ [C.d (D.sl false 4 (enS false list))], I_ (ofNat (length (enS false list))), I_ i0, B_ false, U_, U_, U_, U_, U_, U_, U_, U_, U_, U_, U_, U_, U_, U_, U_, U_, U_, U_, U_, U_] [Root.mk true 2 [[D.int i64 (Copy.Next c), D.sl false 4 (enS false (Copy.Table c))]] 0 0 true true false, Root.mk true 2 [[D.int i64 (0), D.sl true 4 []]] 0 0 true true false, Root.mk false 4 (enS true (deS Heard (enS false (Copy.Table c)))) 0 0 false true false, Root.mk true 2 [[D.int i64 i2, D.sl true 4 es3]] 0 0 true true false]
theorem q24_1 (c : Copy) (list : List Up) (n : Nat) (i0 : Int) (b1 : Bool) (i2 : Int) (es3 : List (List D)) (f_ : St → RR) (K_ : Ex → St → RR) : B24_1 n (S24_1 c list i0 b1 i2 es3) (kThen (fun st ↦ f_ (St.head 4 458866 549755552064 st)) K_) = bif decide (i0 < ofNat (length (enS false list))) then bif decide (0 ≤ i0) && decide (i0 < ofNat (length (enS false list))) then bif Leaf.fit false (Leaf.int i64) (getD (getD (enS false list) (toNat i0) []) 0 D.dead) && (Leaf.fit false (Leaf.int i64) (getD (getD (enS false list) (toNat i0) []) 1 D.dead) && (Leaf.fit false (Leaf.int i64) (getD (getD (enS false list) (toNat i0) []) 2 D.dead) && (Leaf.fit false (Leaf.int i64) (getD (getD (enS false list) (toNat i0) []) 3 D.dead) && true))) then bif D.num (getD (getD (enS false list) (toNat i0) []) 0 D.dead) != i2 then f_ (S24_1 c list (wrap i64 (i0 + 1)) b1 i2 es3) else bif !upOk (Up.mk (D.num (getD (getD (enS false list) (toNat i0) []) 0 D.dead)) (D.num (getD (getD (enS false list) (toNat i0) []) 1 D.dead)) (D.num (getD (getD (enS false list) (toNat i0) []) 2 D.dead)) (D.num (getD (getD (enS false list) (toNat i0) []) 3 D.dead))) then f_ (S24_1 c list (wrap i64 (i0 + 1)) b1 i2 es3) else bif isS Heard false (lendRows es3) && decide (length (deS Heard (lendRows es3)) ≤ 1048576) then bif deepRows (enS true (Copy.Table (Prod.fst (feedM (Copy.mk i2 (deS Heard (lendRows es3))) (Up.mk (D.num (getD (getD (enS false list) (toNat i0) []) 0 D.dead)) (D.num (getD (getD (enS false list) (toNat i0) []) 1 D.dead)) (D.num (getD (getD (enS false list) (toNat i0) []) 2 D.dead)) (D.num (getD (getD (enS false list) (toNat i0) []) 3 D.dead))))))) && true && true && true && true then f_ (S24_1 c list (wrap i64 (i0 + 1)) true (Copy.Next (Prod.fst (feedM (Copy.mk i2 (deS Heard (lendRows es3))) (Up.mk (D.num (getD (getD (enS false list) (toNat i0) []) 0 D.dead)) (D.num (getD (getD (enS false list) (toNat i0) []) 1 D.dead)) (D.num (getD (getD (enS false list) (toNat i0) []) 2 D.dead)) (D.num (getD (getD (enS false list) (toNat i0) []) 3 D.dead)))))) (enS true (Copy.Table (Prod.fst (feedM (Copy.mk i2 (deS Heard (lendRows es3))) (Up.mk (D.num (getD (getD (enS false list) (toNat i0) []) 0 D.dead)) (D.num (getD (getD (enS false list) (toNat i0) []) 1 D.dead)) (D.num (getD (getD (enS false list) (toNat i0) []) 2 D.dead)) (D.num (getD (getD (enS false list) (toNat i0) []) 3 D.dead)))))))) else none else none else none else none else K_ (Ex.exit 2) (X24_5 c list i0 b1 i2 es3) := by kernel_rfl
theorem aX24_5 (c : Copy) (list : List Up) (f : St → RR) (K : Ex → St → RR) (i0 : Int) (b1 : Bool) (i2 : Int) (es3 : List (List D)) : k24_4 f K (Ex.exit 2) (X24_5 c list i0 b1 i2 es3) = f (S24_0 c list b1 i2 es3) := by kernel_rfl
def X24_6 (c : Copy) (list : List Up) (b0 : Bool) (i1 : Int) (es2 : List (List D)) : St := St.mk [U_, V_ [C.d (D.sl false 4 (enS false list))], U_, U_, V_ [C.ptr 1 0 0 [] 2 0 0], V_ [C.ptr 3 0 0 [] 2 0 0], B_ b0, U_, U_, U_, U_, U_, U_, U_, U_, B_ false, U_, U_, U_, U_, U_, U_, U_, U_, U_, U_, U_, U_, U_, U_, U_, U_, U_, U_, U_, U_, U_, U_, U_, U_] [Root.mk true 2 [[D.int i64 (Copy.Next c), D.sl false 4 (enS false (Copy.Table c))]] 0 0 true true false, Root.mk true 2 [[D.int i64 (0), D.sl true 4 []]] 0 0 true true false, Root.mk false 4 (enS true (deS Heard (enS false (Copy.Table c)))) 0 0 false true false, Root.mk true 2 [[D.int i64 i1, D.sl true 4 es2]] 0 0 true true false]
theorem q24_0 (c : Copy) (list : List Up) (n : Nat) (b0 : Bool) (i1 : Int) (es2 : List (List D)) (f : St → RR) (K : Ex → St → RR) : B24_0 n (S24_0 c list b0 i1 es2) (kThen (fun st ↦ f (St.head 4 114 549755781440 st)) K) = bif b0 then loopRun (B24_1 n) 4 458866 549755552064 n (S24_1 c list (0) false i1 es2) (k24_4 f K) else K (Ex.exit 0) (X24_6 c list b0 i1 es2) := by kernel_rfl
theorem aX24_6 (c : Copy) (list : List Up) (n : Nat) (b0 : Bool) (i1 : Int) (es2 : List (List D)) : k24_1 n (Ex.exit 0) (X24_6 c list b0 i1 es2) = some ([[D.int i64 i1, D.sl true 4 es2]], []) := by kernel_rfl
theorem r24 (c : Copy) (list : List Up) (n : Nat) : evFn ⟨prog, Hx, 24⟩ T45.call n f24 [[.int .i64 c.Next, .sl false 4 (enS false c.Table)], [.sl false 4 (enS false list)]] = bif isS Heard false (enS false (Copy.Table c)) && decide (length (deS Heard (enS false (Copy.Table c))) ≤ 1048576) then bif isS Heard false (enS false (Copy.Table c)) && decide (length (deS Heard (enS false (Copy.Table c))) ≤ 1048576) then bif !copyOk (Copy.mk (Copy.Next c) (deS Heard (enS false (Copy.Table c)))) then some ([[D.int i64 (Copy.Next c), D.sl true 4 (enS true (deS Heard (enS false (Copy.Table c))))]], []) else loopRun (B24_0 n) 4 114 549755781440 n (S24_0 c list true (Copy.Next c) (enS true (deS Heard (enS false (Copy.Table c))))) (k24_1 n) else none else none := by kernel_rfl
theorem l24_in (c : Copy) (list : List Up) (n : Nat) (hn : list.length < n) (hl : list.length ≤ 4611686018427387903) (c0 : Copy) (h0 : c0.Table.length ≤ 1048576) (hk : copyOk c0 = true) (f : St → RR) (K : Ex → St → RR)
    (hf : ∀ v : Bool × Copy, v = ((passF list c0 false).2, (passF list c0 false).1) → f (S24_0 c list v.1 v.2.Next (enS true v.2.Table)) = outF list v) :
    loopRun (B24_1 n) 4 458866 549755552064 n (S24_1 c list 0 false c0.Next (enS true c0.Table)) (k24_4 f K) = outF list ((passF list c0 false).2, (passF list c0 false).1) := by
  refine loop_list (xs := list) (fun i (a : Copy × Bool) => S24_1 c list (Int.ofNat i) a.2 a.1.Next (enS true a.1.Table)) (fun i a => a.1.Table.length ≤ 1048576 ∧ copyOk a.1 = true ∧ passF (list.drop i) a.1 a.2 = passF list c0 false) (fun _ _ _ => outF list ((passF list c0 false).2, (passF list c0 false).1)) ?_ ?_ n (c0, false) hn ⟨h0, hk, rfl⟩
  · rintro ⟨c1, t⟩ ⟨h1, hk1, h2⟩ f_
    refine (q24_1 c list _ _ _ _ _ f_ _).trans ?_
    rw [end_lt, cond_false]
    refine (aX24_5 c list f K _ _ _ _).trans ?_
    rw [List.drop_length] at h2
    have h2 : (c1, t) = passF list c0 false := h2
    rw [← h2]
    exact hf (t, c1) (by rw [← h2])
  · rintro i ⟨c1, t⟩ hi ⟨h1, hk1, h2⟩ f_ hf_
    have h1 : c1.Table.length ≤ 1048576 := h1
    have hk1 : copyOk c1 = true := hk1
    have h2 : passF (list.drop i) c1 t = passF list c0 false := h2
    rw [List.drop_eq_getElem_cons hi] at h2
    have h2 : passF (list.drop (i + 1)) (feedM c1 list[i]).1 (t || (feedM c1 list[i]).2) = passF list c0 false := h2
    have hb : decide (c1.Table.length ≤ 1048576) = true := decide_eq_true h1
    have h4 := feed_len c1 list[i] h1
    refine (q24_1 c list _ _ _ _ _ f_ _).trans ?_
    generalize hR : outF list ((passF list c0 false).2, (passF list c0 false).1) = R at hf_ ⊢
    have b1 : (list[i].Seq != c1.Next) = !(list[i].Seq == c1.Next) := rfl
    have skip : (copyOk c1 && (upOk list[i] && list[i].Seq == c1.Next)) = false → f_ (S24_1 c list (Int.ofNat (i + 1)) t c1.Next (enS true c1.Table)) = R := fun h => by
      rw [feed_no h, Bool.or_false] at h2
      exact hf_ (c1, t) ⟨h1, hk1, h2⟩
    cases g1 : list[i].Seq == c1.Next
    · simp only [enS_length, toNat_of, dec_lt, dec_ge, decide_true, decide_false, cond_true, cond_false, Bool.and_self, Bool.and_true, Bool.true_and, Bool.not_true, Bool.not_false, Nat.lt_irrefl, Nat.zero_add, isS_enS, deS_enS, isS_nil, deS_nil, List.nil_append, lendRows_enS, deepRows_enS, noSl_u8, En.enc, List.getD_cons_zero, List.getD_cons_succ, D.num, D.flag, D.text, D.rows, Leaf.fit, List.append_eq, TReader.eta, Frame.eta, Heard.eta, Member.eta, Card.eta, Out1.eta, Vec.eta, Port.eta, Bridge.eta, In.eta, Out.eta, Link.eta, Net.eta, TEnd.eta, Minder.eta, Reg.eta, Wire.eta, Box.eta, Deed.eta, Bpdu.eta, Visit.eta, Fabric.eta, Got.eta, TRide.eta, Up.eta, Copy.eta, Bucket.eta, Snap.eta, TL9Cur.eta, TL21In.eta, enS_get _ hi, hi, wrap_succ (show i < 4611686018427387904 by omega), b1, g1]
      exact skip (by rw [g1, Bool.and_false, Bool.and_false])
    cases g2 : upOk list[i]
    · simp only [enS_length, toNat_of, dec_lt, dec_ge, decide_true, decide_false, cond_true, cond_false, Bool.and_self, Bool.and_true, Bool.true_and, Bool.not_true, Bool.not_false, Nat.lt_irrefl, Nat.zero_add, isS_enS, deS_enS, isS_nil, deS_nil, List.nil_append, lendRows_enS, deepRows_enS, noSl_u8, En.enc, List.getD_cons_zero, List.getD_cons_succ, D.num, D.flag, D.text, D.rows, Leaf.fit, List.append_eq, TReader.eta, Frame.eta, Heard.eta, Member.eta, Card.eta, Out1.eta, Vec.eta, Port.eta, Bridge.eta, In.eta, Out.eta, Link.eta, Net.eta, TEnd.eta, Minder.eta, Reg.eta, Wire.eta, Box.eta, Deed.eta, Bpdu.eta, Visit.eta, Fabric.eta, Got.eta, TRide.eta, Up.eta, Copy.eta, Bucket.eta, Snap.eta, TL9Cur.eta, TL21In.eta, enS_get _ hi, hi, wrap_succ (show i < 4611686018427387904 by omega), b1, g1, g2]
      exact skip (by rw [g2, Bool.false_and, Bool.and_false])
    · simp only [enS_length, toNat_of, dec_lt, dec_ge, decide_true, decide_false, cond_true, cond_false, Bool.and_self, Bool.and_true, Bool.true_and, Bool.not_true, Bool.not_false, Nat.lt_irrefl, Nat.zero_add, isS_enS, deS_enS, isS_nil, deS_nil, List.nil_append, lendRows_enS, deepRows_enS, noSl_u8, En.enc, List.getD_cons_zero, List.getD_cons_succ, D.num, D.flag, D.text, D.rows, Leaf.fit, List.append_eq, TReader.eta, Frame.eta, Heard.eta, Member.eta, Card.eta, Out1.eta, Vec.eta, Port.eta, Bridge.eta, In.eta, Out.eta, Link.eta, Net.eta, TEnd.eta, Minder.eta, Reg.eta, Wire.eta, Box.eta, Deed.eta, Bpdu.eta, Visit.eta, Fabric.eta, Got.eta, TRide.eta, Up.eta, Copy.eta, Bucket.eta, Snap.eta, TL9Cur.eta, TL21In.eta, enS_get _ hi, hi, wrap_succ (show i < 4611686018427387904 by omega), b1, g1, g2, hb]
      have hy : (copyOk c1 && (upOk list[i] && list[i].Seq == c1.Next)) = true := by rw [hk1, g1, g2]; rfl
      refine hf_ ((feedM c1 list[i]).1, true) ⟨h4, feed_ok hk1, ?_⟩
      have h3 : (feedM c1 list[i]).2 = true := by rw [feed_yes hy]
      rw [h3, Bool.or_true] at h2
      exact h2
theorem l24_out (c : Copy) (list : List Up) (n : Nat) (hn : list.length + 100003 ≤ n) (hl : list.length ≤ 4611686018427387903) (h0 : c.Table.length ≤ 1048576) (hk : copyOk c = true) :
    loopRun (B24_0 n) 4 114 549755781440 n (S24_0 c list true c.Next (enS true c.Table)) (k24_1 n) = outC (faW list c) := by
  refine loop_rule (V := Bool × Copy) (fun v => S24_0 c list v.1 v.2.Next (enS true v.2.Table)) (fun v => v.2.Table.length ≤ 1048576 ∧ copyOk v.2 = true) muF (outF list) ?_ n (true, c) ⟨h0, hk⟩ (by have := mu_le (v := (true, c)); omega)
  rintro ⟨b, c1⟩ ⟨h1, hk1⟩ f hf
  have h1 : c1.Table.length ≤ 1048576 := h1
  refine (q24_0 c list n _ _ _ f _).trans ?_
  cases b
  · refine bif_f rfl ?_
    exact aX24_6 c list n _ _ _
  · refine bif_t rfl ?_
    refine (l24_in c list n (by omega) hl c1 h1 hk1 f (k24_1 n) ?_).trans out_pass
    rintro v rfl
    exact hf _ ⟨pass_len list c1 false h1, pass_ok list c1 false hk1⟩ mu_pass
theorem m24 (c : Copy) (list : List Up) (hpre : (o24 c list).1 = true) : evFn ⟨Go.Proofs.Try.prog, Hx, 24⟩ T45.call (100003 + list.length) f24 [[.int .i64 c.Next, .sl false 4 (enS false c.Table)], [.sl false 4 (enS false list)]] = some (o24 c list).2 := by
  refine (r24 c list _).trans ?_
  show _ = (some ([[.int .i64 (faW list c).Next, .sl true 4 (enS true (faW list c).Table)]], []) : Option (List Row × List Row))
  replace hpre : (decide (c.Table.length ≤ 1048576) && decide (list.length ≤ 1048576)) = true := hpre
  rw [Bool.and_eq_true] at hpre
  obtain ⟨hpre, hpl⟩ := hpre
  have hlen := of_decide_eq_true hpre
  have hlist : list.length ≤ 4611686018427387903 := by have := of_decide_eq_true hpl; omega
  refine bif_t (by rw [isS_enS, deS_enS]; exact hpre) ?_
  refine bif_t (by rw [isS_enS, deS_enS]; exact hpre) ?_
  rw [deS_enS]
  cases hk : copyOk c
  · refine bif_t rfl ?_
    rw [faW_no hk]
  · refine bif_f rfl ?_
    exact l24_out c list _ (by omega) hlist hlen hk
theorem s24 : SoundAt Go.Proofs.Try.prog Hx 24 c24 := soundAt_of T45_sound mixed func24 (by kernel_rfl) (by
  intro rows r h
  unfold c24 at h
  split at h
  · rename_i c_Next c_Table list
    obtain ⟨hp, hr⟩ := Prod.mk.inj (Option.some.inj h)
    subst hr
    simp only [Bool.and_eq_true] at hp
    obtain ⟨⟨hs0, hs1⟩, hp⟩ := hp
    obtain ⟨xs0, rfl⟩ := isS_ex hs0
    obtain ⟨xs1, rfl⟩ := isS_ex hs1
    simp only [deS_enS] at hp ⊢
    exact ⟨_, m24 ⟨c_Next, xs0⟩ xs1 hp⟩
  · cases h)
def T24 : Table := (24, c24) :: T45
theorem T24_sound : Table.Sound Go.Proofs.Try.prog Hx T24 := Table.sound_cons s24 T45_sound
def o47 (c : Copy) (list : List Up) : Bool × List Row × List Row := (decide (c.Table.length ≤ 1048576) && decide (list.length ≤ 1048576), [[.int .i64 (faW list c).Next, .sl true 4 (enS true (faW list c).Table)]], [])
def c47 : Contract
  | [[.int .i64 c_Next, .sl false 4 c_Table], [.sl false 4 list]] => some (isS Heard false c_Table && isS Up false list && (o47 ⟨c_Next, (deS Heard c_Table)⟩ (deS Up list)).1, (o47 ⟨c_Next, (deS Heard c_Table)⟩ (deS Up list)).2.1, (o47 ⟨c_Next, (deS Heard c_Table)⟩ (deS Up list)).2.2)
  | _ => none

def k47_0 (n : Nat) : Ex → St → RR := kThen (fun st ↦ runCode (Ctx.mk prog Hx (47)) (Table.call T24) n (codeAt [1, 1, 1] (bodyOf f47)) (Lv.mk 16 [] 16) st (kLeave (Ctx.P (Ctx.mk prog Hx (47))) (List.zip (Array.toList (Go.Func.resultTypes f47)) (Array.toList (Go.Func.results f47))) [] [])) (kLeave (Ctx.P (Ctx.mk prog Hx (47))) (List.zip (Array.toList (Go.Func.resultTypes f47)) (Array.toList (Go.Func.results f47))) [] [])
def k47_1 (n : Nat) : Ex → St → RR := kBlock (0) (k47_0 n)
def S47_0 (c : Copy) (list : List Up) (b0 : Bool) (i1 : Int) (es2 : List (List D)) : St := St.mk [U_, V_ [C.d (D.sl false 4 (enS false list))], U_, U_, V_ [C.ptr 1 0 0 [] 2 0 0], V_ [C.ptr 3 0 0 [] 2 0 0], B_ b0, U_, U_, U_, U_, U_, U_, U_, U_, U_, U_, U_, U_, U_, U_, U_, U_, U_, U_, U_, U_, U_, U_, U_, U_, U_, U_, U_] [Root.mk true 2 [[D.int i64 (Copy.Next c), D.sl false 4 (enS false (Copy.Table c))]] 0 0 true true false, Root.mk true 2 [[D.int i64 (0), D.sl true 4 []]] 0 0 true true false, Root.mk false 4 (enS true (deS Heard (enS false (Copy.Table c)))) 0 0 false true false, Root.mk true 2 [[D.int i64 i1, D.sl true 4 es2]] 0 0 true true false]
def B47_0 (n : Nat) : St → (Ex → St → RR) → RR := runCode (Ctx.mk prog Hx (47)) (Table.call T24) n (codeAt [1, 1, 0, 1, 0, 0] (bodyOf f47)) (Lv.mk 114 [(0, 48)] 16)
def k47_2 (f : St → RR) (K : Ex → St → RR) : Ex → St → RR := kThen (fun st ↦ f (St.head 4 114 8589931456 st)) K
def k47_3 (f : St → RR) (K : Ex → St → RR) : Ex → St → RR := kBlock (1) (k47_2 f K)
def k47_4 (f : St → RR) (K : Ex → St → RR) : Ex → St → RR := kBlock (2) (k47_3 f K)
def S47_1 (c : Copy) (list : List Up) (b0_ : Bool) (i1_ : Int) (i2 : Int) (es3 : List (List D)) : St := St.mk [U_, V_ [C.d (D.sl false 4 (enS false list))], U_, U_, V_ [C.ptr 1 0 0 [] 2 0 0], V_ [C.ptr 3 0 0 [] 2 0 0], B_ b0_, I_ i1_, U_, U_, U_, U_, U_, U_, U_, U_, U_, U_, U_, U_, U_, U_, U_, U_, U_, U_, U_, U_, U_, U_, U_, U_, U_, U_] [Root.mk true 2 [[D.int i64 (Copy.Next c), D.sl false 4 (enS false (Copy.Table c))]] 0 0 true true false, Root.mk true 2 [[D.int i64 (0), D.sl true 4 []]] 0 0 true true false, Root.mk false 4 (enS true (deS Heard (enS false (Copy.Table c)))) 0 0 false true false, Root.mk true 2 [[D.int i64 i2, D.sl true 4 es3]] 0 0 true true false]
def B47_1 (n : Nat) : St → (Ex → St → RR) → RR := runCode (Ctx.mk prog Hx (47)) (Table.call T24) n (codeAt [1, 1, 0, 1, 0, 0, 1, 0, 1, 1, 0, 0] (bodyOf f47)) (Lv.mk 242 [(2, 114), (1, 114), (0, 48)] 16)
def X47_5 (c : Copy) (list : List Up) (b0_ : Bool) (i1_ : Int) (i2 : Int) (es3 : List (List D)) : St := St.mk [U_, V_ [C.d (D.sl false 4 (enS false list))], U_, U_, V_ [C.ptr 1 0 0 [] 2 0 0], V_ [C.ptr 3 0 0 [] 2 0 0], B_ b0_, I_ i1_, U_, U_, U_, U_, U_, I_ i1_, V_ [C.d (D.sl false 4 (enS false list))], I_ (ofNat (length (enS false list))), B_ false, U_, U_, U_, U_, U_, U_, U_, U_, U_, U_, U_, U_, U_, U_, U_, U_, U_] [Root.mk true 2 [[D.int i64 (Copy.Next c), D.sl false 4 (enS false (Copy.Table c))]] 0 0 true true false, Root.mk true 2 [[D.int i64 (0), D.sl true 4 []]] 0 0 true true false, Root.mk false 4 (enS true (deS Heard (enS false (Copy.Table c)))) 0 0 false true false, Root.mk true 2 [[D.int i64 i2, D.sl true 4 es3]] 0 0 true true false]
theorem q47_1 (c : Copy) (list : List Up) (n : Nat) (b0_ : Bool) (i1_ : Int) (i2 : Int) (es3 : List (List D)) (f_ : St → RR) (K_ : Ex → St → RR) : B47_1 n (S47_1 c list b0_ i1_ i2 es3) (kThen (fun st ↦ f_ (St.head 4 242 8589927360 st)) K_) = bif decide (i1_ < ofNat (length (enS false list))) then bif decide (0 ≤ i1_) && decide (i1_ < ofNat (length (enS false list))) then bif Leaf.fit false (Leaf.int i64) (getD (getD (enS false list) (toNat i1_) []) 0 D.dead) && (Leaf.fit false (Leaf.int i64) (getD (getD (enS false list) (toNat i1_) []) 1 D.dead) && (Leaf.fit false (Leaf.int i64) (getD (getD (enS false list) (toNat i1_) []) 2 D.dead) && (Leaf.fit false (Leaf.int i64) (getD (getD (enS false list) (toNat i1_) []) 3 D.dead) && true))) then bif isS Heard false (lendRows es3) && decide (length (deS Heard (lendRows es3)) ≤ 1048576) then bif deepRows (enS true (Copy.Table (Prod.fst (feedM (Copy.mk i2 (deS Heard (lendRows es3))) (Up.mk (D.num (getD (getD (enS false list) (toNat i1_) []) 0 D.dead)) (D.num (getD (getD (enS false list) (toNat i1_) []) 1 D.dead)) (D.num (getD (getD (enS false list) (toNat i1_) []) 2 D.dead)) (D.num (getD (getD (enS false list) (toNat i1_) []) 3 D.dead))))))) && true && true && true && true then bif b0_ then f_ (S47_1 c list true (wrap i64 (i1_ + 1)) (Copy.Next (Prod.fst (feedM (Copy.mk i2 (deS Heard (lendRows es3))) (Up.mk (D.num (getD (getD (enS false list) (toNat i1_) []) 0 D.dead)) (D.num (getD (getD (enS false list) (toNat i1_) []) 1 D.dead)) (D.num (getD (getD (enS false list) (toNat i1_) []) 2 D.dead)) (D.num (getD (getD (enS false list) (toNat i1_) []) 3 D.dead)))))) (enS true (Copy.Table (Prod.fst (feedM (Copy.mk i2 (deS Heard (lendRows es3))) (Up.mk (D.num (getD (getD (enS false list) (toNat i1_) []) 0 D.dead)) (D.num (getD (getD (enS false list) (toNat i1_) []) 1 D.dead)) (D.num (getD (getD (enS false list) (toNat i1_) []) 2 D.dead)) (D.num (getD (getD (enS false list) (toNat i1_) []) 3 D.dead)))))))) else f_ (S47_1 c list (Prod.snd (feedM (Copy.mk i2 (deS Heard (lendRows es3))) (Up.mk (D.num (getD (getD (enS false list) (toNat i1_) []) 0 D.dead)) (D.num (getD (getD (enS false list) (toNat i1_) []) 1 D.dead)) (D.num (getD (getD (enS false list) (toNat i1_) []) 2 D.dead)) (D.num (getD (getD (enS false list) (toNat i1_) []) 3 D.dead))))) (wrap i64 (i1_ + 1)) (Copy.Next (Prod.fst (feedM (Copy.mk i2 (deS Heard (lendRows es3))) (Up.mk (D.num (getD (getD (enS false list) (toNat i1_) []) 0 D.dead)) (D.num (getD (getD (enS false list) (toNat i1_) []) 1 D.dead)) (D.num (getD (getD (enS false list) (toNat i1_) []) 2 D.dead)) (D.num (getD (getD (enS false list) (toNat i1_) []) 3 D.dead)))))) (enS true (Copy.Table (Prod.fst (feedM (Copy.mk i2 (deS Heard (lendRows es3))) (Up.mk (D.num (getD (getD (enS false list) (toNat i1_) []) 0 D.dead)) (D.num (getD (getD (enS false list) (toNat i1_) []) 1 D.dead)) (D.num (getD (getD (enS false list) (toNat i1_) []) 2 D.dead)) (D.num (getD (getD (enS false list) (toNat i1_) []) 3 D.dead)))))))) else none else none else none else none else K_ (Ex.exit 2) (X47_5 c list b0_ i1_ i2 es3) := by kernel_rfl
theorem aX47_5 (c : Copy) (list : List Up) (f : St → RR) (K : Ex → St → RR) (b0_ : Bool) (i1_ : Int) (i2 : Int) (es3 : List (List D)) : k47_4 f K (Ex.exit 2) (X47_5 c list b0_ i1_ i2 es3) = f (S47_0 c list b0_ i2 es3) := by kernel_rfl
def X47_6 (c : Copy) (list : List Up) (b0 : Bool) (i1 : Int) (es2 : List (List D)) : St := St.mk [U_, V_ [C.d (D.sl false 4 (enS false list))], U_, U_, V_ [C.ptr 1 0 0 [] 2 0 0], V_ [C.ptr 3 0 0 [] 2 0 0], B_ b0, U_, U_, U_, U_, U_, B_ false, U_, U_, U_, U_, U_, U_, U_, U_, U_, U_, U_, U_, U_, U_, U_, U_, U_, U_, U_, U_, U_] [Root.mk true 2 [[D.int i64 (Copy.Next c), D.sl false 4 (enS false (Copy.Table c))]] 0 0 true true false, Root.mk true 2 [[D.int i64 (0), D.sl true 4 []]] 0 0 true true false, Root.mk false 4 (enS true (deS Heard (enS false (Copy.Table c)))) 0 0 false true false, Root.mk true 2 [[D.int i64 i1, D.sl true 4 es2]] 0 0 true true false]
theorem q47_0 (c : Copy) (list : List Up) (n : Nat) (b0 : Bool) (i1 : Int) (es2 : List (List D)) (f : St → RR) (K : Ex → St → RR) : B47_0 n (S47_0 c list b0 i1 es2) (kThen (fun st ↦ f (St.head 4 114 8589931456 st)) K) = bif b0 then loopRun (B47_1 n) 4 242 8589927360 n (S47_1 c list false (0) i1 es2) (k47_4 f K) else K (Ex.exit 0) (X47_6 c list b0 i1 es2) := by kernel_rfl
theorem aX47_6 (c : Copy) (list : List Up) (n : Nat) (b0 : Bool) (i1 : Int) (es2 : List (List D)) : k47_1 n (Ex.exit 0) (X47_6 c list b0 i1 es2) = some ([[D.int i64 i1, D.sl true 4 es2]], []) := by kernel_rfl
theorem r47 (c : Copy) (list : List Up) (n : Nat) : evFn ⟨prog, Hx, 47⟩ T24.call n f47 [[.int .i64 c.Next, .sl false 4 (enS false c.Table)], [.sl false 4 (enS false list)]] = bif isS Heard false (enS false (Copy.Table c)) && decide (length (deS Heard (enS false (Copy.Table c))) ≤ 1048576) then loopRun (B47_0 n) 4 114 8589931456 n (S47_0 c list true (Copy.Next c) (enS true (deS Heard (enS false (Copy.Table c))))) (k47_1 n) else none := by kernel_rfl
theorem l47_in (c : Copy) (list : List Up) (n : Nat) (hn : list.length < n) (hl : list.length ≤ 4611686018427387903) (c0 : Copy) (h0 : c0.Table.length ≤ 1048576) (f : St → RR) (K : Ex → St → RR)
    (hf : ∀ v : Bool × Copy, v = ((passF list c0 false).2, (passF list c0 false).1) → f (S47_0 c list v.1 v.2.Next (enS true v.2.Table)) = outF list v) :
    loopRun (B47_1 n) 4 242 8589927360 n (S47_1 c list false 0 c0.Next (enS true c0.Table)) (k47_4 f K) = outF list ((passF list c0 false).2, (passF list c0 false).1) := by
  refine loop_list (xs := list) (fun i (a : Copy × Bool) => S47_1 c list a.2 (Int.ofNat i) a.1.Next (enS true a.1.Table)) (fun i a => a.1.Table.length ≤ 1048576 ∧ passF (list.drop i) a.1 a.2 = passF list c0 false) (fun _ _ _ => outF list ((passF list c0 false).2, (passF list c0 false).1)) ?_ ?_ n (c0, false) hn ⟨h0, rfl⟩
  · rintro ⟨c1, t⟩ ⟨h1, h2⟩ f_
    refine (q47_1 c list _ _ _ _ _ f_ _).trans ?_
    rw [end_lt, cond_false]
    refine (aX47_5 c list f K _ _ _ _).trans ?_
    rw [List.drop_length] at h2
    have h2 : (c1, t) = passF list c0 false := h2
    rw [← h2]
    exact hf (t, c1) (by rw [← h2])
  · rintro i ⟨c1, t⟩ hi ⟨h1, h2⟩ f_ hf_
    have h1 : c1.Table.length ≤ 1048576 := h1

    have h2 : passF (list.drop i) c1 t = passF list c0 false := h2
    rw [List.drop_eq_getElem_cons hi] at h2
    have h2 : passF (list.drop (i + 1)) (feedM c1 list[i]).1 (t || (feedM c1 list[i]).2) = passF list c0 false := h2
    have hb : decide (c1.Table.length ≤ 1048576) = true := decide_eq_true h1
    have h4 := feed_len c1 list[i] h1
    refine (q47_1 c list _ _ _ _ _ f_ _).trans ?_
    generalize hR : outF list ((passF list c0 false).2, (passF list c0 false).1) = R at hf_ ⊢
    cases t
    · simp only [enS_length, toNat_of, dec_lt, dec_ge, decide_true, decide_false, cond_true, cond_false, Bool.and_self, Bool.and_true, Bool.true_and, Bool.not_true, Bool.not_false, Nat.lt_irrefl, Nat.zero_add, isS_enS, deS_enS, isS_nil, deS_nil, List.nil_append, lendRows_enS, deepRows_enS, noSl_u8, En.enc, List.getD_cons_zero, List.getD_cons_succ, D.num, D.flag, D.text, D.rows, Leaf.fit, List.append_eq, TReader.eta, Frame.eta, Heard.eta, Member.eta, Card.eta, Out1.eta, Vec.eta, Port.eta, Bridge.eta, In.eta, Out.eta, Link.eta, Net.eta, TEnd.eta, Minder.eta, Reg.eta, Wire.eta, Box.eta, Deed.eta, Bpdu.eta, Visit.eta, Fabric.eta, Got.eta, TRide.eta, Up.eta, Copy.eta, Bucket.eta, Snap.eta, TL9Cur.eta, TL21In.eta, enS_get _ hi, hi, wrap_succ (show i < 4611686018427387904 by omega), hb]
      exact hf_ ((feedM c1 list[i]).1, (feedM c1 list[i]).2) ⟨h4, by rw [Bool.false_or] at h2; exact h2⟩
    · simp only [enS_length, toNat_of, dec_lt, dec_ge, decide_true, decide_false, cond_true, cond_false, Bool.and_self, Bool.and_true, Bool.true_and, Bool.not_true, Bool.not_false, Nat.lt_irrefl, Nat.zero_add, isS_enS, deS_enS, isS_nil, deS_nil, List.nil_append, lendRows_enS, deepRows_enS, noSl_u8, En.enc, List.getD_cons_zero, List.getD_cons_succ, D.num, D.flag, D.text, D.rows, Leaf.fit, List.append_eq, TReader.eta, Frame.eta, Heard.eta, Member.eta, Card.eta, Out1.eta, Vec.eta, Port.eta, Bridge.eta, In.eta, Out.eta, Link.eta, Net.eta, TEnd.eta, Minder.eta, Reg.eta, Wire.eta, Box.eta, Deed.eta, Bpdu.eta, Visit.eta, Fabric.eta, Got.eta, TRide.eta, Up.eta, Copy.eta, Bucket.eta, Snap.eta, TL9Cur.eta, TL21In.eta, enS_get _ hi, hi, wrap_succ (show i < 4611686018427387904 by omega), hb]
      exact hf_ ((feedM c1 list[i]).1, true) ⟨h4, by rw [Bool.true_or] at h2; exact h2⟩
theorem l47_out (c : Copy) (list : List Up) (n : Nat) (hn : list.length + 100003 ≤ n) (hl : list.length ≤ 4611686018427387903) (h0 : c.Table.length ≤ 1048576) :
    loopRun (B47_0 n) 4 114 8589931456 n (S47_0 c list true c.Next (enS true c.Table)) (k47_1 n) = outC (faW list c) := by
  refine loop_rule (V := Bool × Copy) (fun v => S47_0 c list v.1 v.2.Next (enS true v.2.Table)) (fun v => v.2.Table.length ≤ 1048576) muF (outF list) ?_ n (true, c) h0 (by have := mu_le (v := (true, c)); omega)
  rintro ⟨b, c1⟩ h1 f hf
  have h1 : c1.Table.length ≤ 1048576 := h1
  refine (q47_0 c list n _ _ _ f _).trans ?_
  cases b
  · refine bif_f rfl ?_
    exact aX47_6 c list n _ _ _
  · refine bif_t rfl ?_
    refine (l47_in c list n (by omega) hl c1 h1 f (k47_1 n) ?_).trans out_pass
    rintro v rfl
    exact hf _ (pass_len list c1 false h1) mu_pass
theorem m47 (c : Copy) (list : List Up) (hpre : (o47 c list).1 = true) : evFn ⟨Go.Proofs.Try.prog, Hx, 47⟩ T24.call (100003 + list.length) f47 [[.int .i64 c.Next, .sl false 4 (enS false c.Table)], [.sl false 4 (enS false list)]] = some (o47 c list).2 := by
  refine (r47 c list _).trans ?_
  show _ = (some ([[.int .i64 (faW list c).Next, .sl true 4 (enS true (faW list c).Table)]], []) : Option (List Row × List Row))
  replace hpre : (decide (c.Table.length ≤ 1048576) && decide (list.length ≤ 1048576)) = true := hpre
  rw [Bool.and_eq_true] at hpre
  obtain ⟨hpre, hpl⟩ := hpre
  have hlen := of_decide_eq_true hpre
  have hlist : list.length ≤ 4611686018427387903 := by have := of_decide_eq_true hpl; omega
  refine bif_t (by rw [isS_enS, deS_enS]; exact hpre) ?_
  rw [deS_enS]
  exact l47_out c list _ (by omega) hlist hlen
theorem s47 : SoundAt Go.Proofs.Try.prog Hx 47 c47 := soundAt_of T24_sound mixed func47 (by kernel_rfl) (by
  intro rows r h
  unfold c47 at h
  split at h
  · rename_i c_Next c_Table list
    obtain ⟨hp, hr⟩ := Prod.mk.inj (Option.some.inj h)
    subst hr
    simp only [Bool.and_eq_true] at hp
    obtain ⟨⟨hs0, hs1⟩, hp⟩ := hp
    obtain ⟨xs0, rfl⟩ := isS_ex hs0
    obtain ⟨xs1, rfl⟩ := isS_ex hs1
    simp only [deS_enS] at hp ⊢
    exact ⟨_, m47 ⟨c_Next, xs0⟩ xs1 hp⟩
  · cases h)
def T47 : Table := (47, c47) :: T24
theorem T47_sound : Table.Sound Go.Proofs.Try.prog Hx T47 := Table.sound_cons s47 T24_sound
end Go.Ev
end
