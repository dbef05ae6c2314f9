/- Contracts of functions, each by its evaluation. -/
import Derived.Test.YtgklglkmfgfodaaEvMd
import Derived.Test.YtgklglkmfgfodaaProg
import Derived.KernelRfl
import Derived.Test.YtgklglkmfgfodaaFTold
set_option linter.unusedVariables false
set_option linter.unusedSimpArgs false
set_option maxRecDepth 100000
noncomputable section
open List (getD length drop take set append replicate all isEmpty)
open Int (toNat ofNat)
open Go.IntKind (i64 wrap)
open Go.Proofs.Try (prog f23 f44 f46 f48 f49 f50 f65 f80 f83 f95 f96 f99 func23 func44 func46 func48 func49 func50 func65 func80 func83 func95 func96 func99)
namespace Go.Ev
open Go.RowKit Go.Md
end Go.Ev
namespace Go.Md
open Go Go.Ev
theorem snoc_heard (o : Bool) (xs : List Heard) (a b c d : Int) : List.append (enS o xs) [[D.int .i64 a, D.int .i64 b, D.int .i64 c, D.int .i64 d]] = enS o (xs ++ [(⟨a, b, c, d⟩ : Heard)]) := enS_snoc o xs ⟨a, b, c, d⟩
theorem snoc_up (o : Bool) (xs : List Up) (a b c d : Int) : List.append (enS o xs) [[D.int .i64 a, D.int .i64 b, D.int .i64 c, D.int .i64 d]] = enS o (xs ++ [(⟨a, b, c, d⟩ : Up)]) := enS_snoc o xs ⟨a, b, c, d⟩
theorem snoc_upE (xs : List Up) (x : Up) : List.append (enS true xs) [En.enc true x] = enS true (xs ++ [x]) := enS_snoc true xs x
theorem set_up (xs : List Up) (i : Nat) (x : Up) : List.set (enS true xs) i [D.int .i64 x.Seq, D.int .i64 x.Addr, D.int .i64 x.Vlan, D.int .i64 x.Port] = enS true (xs.set i x) := enS_set true xs i x
theorem hear_len1 (l : List Heard) (a v p : Int) : (hearL l a v p).length ≤ l.length + 1 := by
  unfold hearL
  cases tableOk (hearI l a v p)
  · exact Nat.le_succ _
  · unfold hearI
    rw [cond_true, List.length_append, List.length_cons]
    have h1 := List.length_filter_le (keepB a v) (l.takeWhile (fun y => aheadB y ⟨a, v, p, 20⟩))
    have h2 := List.length_filter_le (keepB a v) (l.dropWhile (fun y => aheadB y ⟨a, v, p, 20⟩))
    have h3 : (l.takeWhile (fun y => aheadB y ⟨a, v, p, 20⟩)).length + (l.dropWhile (fun y => aheadB y ⟨a, v, p, 20⟩)).length = l.length := by
      rw [← List.length_append, List.takeWhile_append_dropWhile]
    omega
theorem len_snoc {α : Type} (xs : List α) (x : α) : (xs ++ [x]).length = xs.length + 1 := by rw [List.length_append]; rfl
end Go.Md
namespace Go.Ev
open Go.Md
end Go.Ev
namespace Go.Md
open Go Go.Ev
def P_AgeS (list : List Heard) (x : (List Heard)) : Prop := evFn ⟨Go.Proofs.Try.prog, Hx, 99⟩ T27.call (1 + list.length) f99 [[.sl false 4 (enS false list)]] = some ([[.sl true 4 (enS true x)]], []) ∧ (x.length ≤ list.length)
noncomputable def w_AgeS (list : List Heard) : (List Heard) := @Classical.epsilon ((List Heard)) ⟨[]⟩ (P_AgeS list)
noncomputable def v0_AgeS (list : List Heard) : List Heard := (w_AgeS list)
end Go.Md
namespace Go.Ev
open Go.Md
def o99 (list : List Heard) : Bool × List Row × List Row := (decide (list.length ≤ 1048576), [[.sl true 4 (enS true (v0_AgeS list))]], [])
def c99 : Contract
  | [[.sl false 4 list]] => some (isS Heard false list && (o99 (deS Heard list)).1, (o99 (deS Heard list)).2.1, (o99 (deS Heard list)).2.2)
  | _ => none

def k99_0 (n : Nat) : Ex → St → RR := kThen (fun st ↦ runCode (Ctx.mk prog Hx (99)) (Table.call T27) n (codeAt [1, 1, 1] (bodyOf f99)) (Lv.mk 4 [] 4) st (kLeave (Ctx.P (Ctx.mk prog Hx (99))) (List.zip (Array.toList (Go.Func.resultTypes f99)) (Array.toList (Go.Func.results f99))) [] [])) (kLeave (Ctx.P (Ctx.mk prog Hx (99))) (List.zip (Array.toList (Go.Func.resultTypes f99)) (Array.toList (Go.Func.results f99))) [] [])
def k99_1 (n : Nat) : Ex → St → RR := kBlock (0) (k99_0 n)
def S99_0 (list : List Heard) (i0 : Int) (es1 : List (List D)) : St := St.mk [V_ [C.d (D.sl false 4 (enS false list))], U_, U_, V_ [C.view 1 0 0 [] 4 none], I_ i0, U_, U_, U_, U_, U_, U_, U_, U_, U_, U_, U_, U_, U_, U_, U_, U_, U_, U_, U_, U_, U_, U_, U_, U_] [Root.mk false 4 [] 0 0 false true false, Root.mk false 4 es1 0 0 true true false]
def B99_0 (n : Nat) : St → (Ex → St → RR) → RR := runCode (Ctx.mk prog Hx (99)) (Table.call T27) n (codeAt [1, 1, 0, 1, 0, 0] (bodyOf f99)) (Lv.mk 25 [(0, 8)] 4)
def X99_2 (list : List Heard) (i0 : Int) (es1 : List (List D)) : St := St.mk [V_ [C.d (D.sl false 4 (enS false list))], U_, U_, V_ [C.view 1 0 0 [] 4 none], I_ i0, U_, U_, I_ i0, V_ [C.d (D.sl false 4 (enS false list))], I_ (ofNat (length (enS false list))), B_ false, U_, U_, U_, U_, U_, U_, U_, U_, U_, U_, U_, U_, U_, U_, U_, U_, U_, U_] [Root.mk false 4 [] 0 0 false true false, Root.mk false 4 es1 0 0 true true false]
theorem q99_0 (list : List Heard) (n : Nat) (i0 : Int) (es1 : List (List D)) (f : St → RR) (K : Ex → St → RR) : B99_0 n (S99_0 list i0 es1) (kThen (fun st ↦ f (St.head 1 25 268435384 st)) K) = bif decide (i0 < ofNat (length (enS false list))) then bif decide (0 ≤ i0) && decide (i0 < ofNat (length (enS false list))) then bif Leaf.fit false (Leaf.int i64) (getD (getD (enS false list) (toNat i0) []) 0 D.dead) && (Leaf.fit false (Leaf.int i64) (getD (getD (enS false list) (toNat i0) []) 1 D.dead) && (Leaf.fit false (Leaf.int i64) (getD (getD (enS false list) (toNat i0) []) 2 D.dead) && (Leaf.fit false (Leaf.int i64) (getD (getD (enS false list) (toNat i0) []) 3 D.dead) && true))) then bif decide (D.num (getD (getD (enS false list) (toNat i0) []) 3 D.dead) > 1) then bif decide ((length es1 + 1) * 32 ≤ 140737488355328) then f (S99_0 list (wrap i64 (i0 + 1)) (append es1 [[D.int i64 (D.num (getD (getD (enS false list) (toNat i0) []) 0 D.dead)), D.int i64 (D.num (getD (getD (enS false list) (toNat i0) []) 1 D.dead)), D.int i64 (D.num (getD (getD (enS false list) (toNat i0) []) 2 D.dead)), D.int i64 (wrap i64 (D.num (getD (getD (enS false list) (toNat i0) []) 3 D.dead) - 1))]])) else none else f (S99_0 list (wrap i64 (i0 + 1)) es1) else none else none else K (Ex.exit 0) (X99_2 list i0 es1) := by kernel_rfl
theorem aX99_2 (list : List Heard) (n : Nat) (i0 : Int) (es1 : List (List D)) : k99_1 n (Ex.exit 0) (X99_2 list i0 es1) = some ([[D.sl true 4 es1]], []) := by kernel_rfl
theorem r99 (list : List Heard) (n : Nat) : evFn ⟨prog, Hx, 99⟩ T27.call n f99 [[.sl false 4 (enS false list)]] = loopRun (B99_0 n) 1 25 268435384 n (S99_0 list (0) []) (k99_1 n) := by kernel_rfl
def G_AgeS (list : List Heard) (r : Option (List Row × List Row)) : Prop := ∃ x : (List Heard), r = some ([[.sl true 4 (enS true x)]], []) ∧ (x.length ≤ list.length)
theorem leaf_AgeS (list : List Heard) {z0 : List Heard} (h : (z0 : List Heard).length ≤ list.length) : G_AgeS list (some ([[.sl true 4 (enS true z0)]], [])) := ⟨z0, rfl, h⟩
theorem e_AgeS (list : List Heard) (hpre : (o99 list).1 = true) : ∃ x, P_AgeS list x := by
  show G_AgeS list _
  refine Eq.mpr (congrArg (G_AgeS list) (r99 list _)) ?_
  replace hpre : (decide (list.length ≤ 1048576)) = true := hpre
  have hc := of_decide_eq_true hpre
  refine g_loop (V := Nat × List Heard) (fun v => S99_0 list (Int.ofNat v.1) (enS true v.2)) (fun v => v.1 ≤ list.length ∧ v.2.length ≤ v.1) (fun v => list.length - v.1) ?_ (1 + list.length) (0, []) ⟨Nat.zero_le _, Nat.le_refl _⟩ (by show list.length - 0 < _; omega)
  rintro ⟨i, l⟩ ⟨h1, h2⟩ f hf
  simp only at h1 h2
  refine g_eq (q99_0 list _ _ _ f _) ?_
  by_cases hi : i < list.length
  · refine g_t (in_lt false hi) ?_
    refine g_pre (by rw [in_lt false hi, dec_ge]; rfl) (g_pre (by rw [toNat_of, enS_get false hi]; rfl) ?_)
    rw [wrap_succ (by omega)]
    refine g_if (fun _ => ?_) (fun _ => ?_)
    · refine g_pre (by rw [enS_length]; exact decide_eq_true (by show (l.length + 1) * 32 ≤ 140737488355328; omega)) ?_
      rw [snoc_heard]
      exact hf (i + 1, _) ⟨hi, by rw [len_snoc]; exact Nat.succ_le_succ h2⟩ (by show list.length - (i + 1) < list.length - i; omega)
    · exact hf (i + 1, l) ⟨hi, by show l.length ≤ i + 1; omega⟩ (by show list.length - (i + 1) < list.length - i; omega)
  · obtain rfl : i = list.length := by omega
    refine g_f (end_lt false list) (g_eq (aX99_2 list _ _ _) ?_)
    refine leaf_AgeS _  ?_
    exact h2
theorem p_AgeS (list : List Heard) (hpre : (o99 list).1 = true) : (v0_AgeS list).length ≤ list.length := (Classical.epsilon_spec (e_AgeS list hpre)).2
theorem m99 (list : List Heard) (hpre : (o99 list).1 = true) : evFn ⟨Go.Proofs.Try.prog, Hx, 99⟩ T27.call (1 + list.length) f99 [[.sl false 4 (enS false list)]] = some (o99 list).2 := (Classical.epsilon_spec (e_AgeS list hpre)).1
theorem s99 : SoundAt Go.Proofs.Try.prog Hx 99 c99 := soundAt_of T27_sound mixed func99 (by kernel_rfl) (by
  intro rows r h
  unfold c99 at h
  split at h
  · rename_i list
    obtain ⟨hp, hr⟩ := Prod.mk.inj (Option.some.inj h)
    subst hr
    simp only [Bool.and_eq_true] at hp
    obtain ⟨hs0, hp⟩ := hp
    obtain ⟨xs0, rfl⟩ := isS_ex hs0
    simp only [deS_enS] at hp ⊢
    exact ⟨_, m99 xs0 hp⟩
  · cases h)
def T99 : Table := (99, c99) :: T27
theorem T99_sound : Table.Sound Go.Proofs.Try.prog Hx T99 := Table.sound_cons s99 T27_sound
end Go.Ev
namespace Go.Md
open Go Go.Ev
def P_l3DrawRight (c : TL1Cur) (x : (List Heard) × TL1Cur) : Prop := evFn ⟨Go.Proofs.Try.prog, Hx, 95⟩ T99.call 20 f95 [[.sl false 1 c.b, .int .i64 c.i, .int .i64 c.h]] = some ([[.sl true 4 (enS true x.1)]], [[.sl false 1 x.2.b, .int .i64 x.2.i, .int .i64 x.2.h]]) ∧ (x.1.length ≤ 9 ∧ curOk x.2 = true)
noncomputable def w_l3DrawRight (c : TL1Cur) : (List Heard) × TL1Cur := @Classical.epsilon ((List Heard) × TL1Cur) ⟨([], ⟨[], 0, 0⟩)⟩ (P_l3DrawRight c)
noncomputable def v0_l3DrawRight (c : TL1Cur) : List Heard := (w_l3DrawRight c).1
noncomputable def b0_l3DrawRight (c : TL1Cur) : TL1Cur := (w_l3DrawRight c).2
end Go.Md
namespace Go.Ev
open Go.Md
def o95 (c : TL1Cur) : Bool × List Row × List Row := (curOk c, [[.sl true 4 (enS true (v0_l3DrawRight c))]], [[.sl false 1 (b0_l3DrawRight c).b, .int .i64 (b0_l3DrawRight c).i, .int .i64 (b0_l3DrawRight c).h]])
def c95 : Contract
  | [[.sl false 1 c_b, .int .i64 c_i, .int .i64 c_h]] => some ((o95 ⟨c_b, c_i, c_h⟩).1, (o95 ⟨c_b, c_i, c_h⟩).2.1, (o95 ⟨c_b, c_i, c_h⟩).2.2)
  | _ => none

def k95_0 (n : Nat) : Ex → St → RR := kThen (fun st ↦ runCode (Ctx.mk prog Hx (95)) (Table.call T99) n (codeAt [1, 1, 1] (bodyOf f95)) (Lv.mk 4 [] 4) st (kLeave (Ctx.P (Ctx.mk prog Hx (95))) (List.zip (Array.toList (Go.Func.resultTypes f95)) (Array.toList (Go.Func.results f95))) [0] [])) (kLeave (Ctx.P (Ctx.mk prog Hx (95))) (List.zip (Array.toList (Go.Func.resultTypes f95)) (Array.toList (Go.Func.results f95))) [0] [])
def k95_1 (n : Nat) : Ex → St → RR := kBlock (0) (k95_0 n)
def S95_0 (i0 : Int) (es1 : List (List D)) (i2 : Int) (i3 : Int) (es4 : List (List D)) : St := St.mk [V_ [C.ptr 0 0 0 [] 3 0 0], U_, U_, V_ [C.view 2 0 0 [] 4 none], I_ i0, U_, U_, U_, U_, U_, U_, U_, U_, U_, U_, U_, U_, U_, U_, U_, U_, U_, U_, U_, U_, U_, U_, U_, U_, U_, U_] [Root.mk true 3 [[D.sl false 1 es1, D.int i64 i2, D.int i64 i3]] 0 0 true true false, Root.mk false 4 [] 0 0 false true false, Root.mk false 4 es4 0 0 true true false]
def B95_0 (n : Nat) : St → (Ex → St → RR) → RR := runCode (Ctx.mk prog Hx (95)) (Table.call T99) n (codeAt [1, 1, 0, 1, 0, 0] (bodyOf f95)) (Lv.mk 25 [(0, 8)] 4)
def X95_2 (i0 : Int) (es1 : List (List D)) (i2 : Int) (i3 : Int) (es4 : List (List D)) : St := St.mk [V_ [C.ptr 0 0 0 [] 3 0 0], U_, U_, V_ [C.view 2 0 0 [] 4 none], I_ i0, U_, U_, U_, I_ i0, V_ [C.ptr 0 0 0 [] 3 0 0], I_ (v0_l1Below (TL1Cur.mk es1 i2 i3) (9)), B_ false, U_, U_, U_, U_, U_, U_, U_, U_, U_, U_, U_, U_, U_, U_, U_, U_, U_, U_, U_] [Root.mk true 3 [[D.sl false 1 (TL1Cur.b (b0_l1Below (TL1Cur.mk es1 i2 i3) (9))), D.int i64 (TL1Cur.i (b0_l1Below (TL1Cur.mk es1 i2 i3) (9))), D.int i64 (TL1Cur.h (b0_l1Below (TL1Cur.mk es1 i2 i3) (9)))]] 0 1 true true false, Root.mk false 4 [] 0 0 false true false, Root.mk false 4 es4 0 0 true true false]
theorem q95_0 (n : Nat) (i0 : Int) (es1 : List (List D)) (i2 : Int) (i3 : Int) (es4 : List (List D)) (f : St → RR) (K : Ex → St → RR) : B95_0 n (S95_0 i0 es1 i2 i3 es4) (kThen (fun st ↦ f (St.head 2 25 1073741688 st)) K) = bif curOk (TL1Cur.mk es1 i2 i3) then bif decide (i0 < v0_l1Below (TL1Cur.mk es1 i2 i3) (9)) then bif curOk (b0_l1Below (TL1Cur.mk es1 i2 i3) (9)) then bif curOk (b0_l1Below (b0_l1Below (TL1Cur.mk es1 i2 i3) (9)) (4)) then bif curOk (b0_l1Below (b0_l1Below (b0_l1Below (TL1Cur.mk es1 i2 i3) (9)) (4)) (3)) then bif isS Heard false (lendRows es4) && decide (length (deS Heard (lendRows es4)) ≤ 1048576) then bif deepRows (enS true (hearL (deS Heard (lendRows es4)) (wrap i64 (1 + v0_l1Below (b0_l1Below (TL1Cur.mk es1 i2 i3) (9)) (4))) (wrap i64 (1 + v0_l1Below (b0_l1Below (b0_l1Below (TL1Cur.mk es1 i2 i3) (9)) (4)) (3))) (v0_l1Below (b0_l1Below (b0_l1Below (b0_l1Below (TL1Cur.mk es1 i2 i3) (9)) (4)) (3)) (4)))) && true && true && true && true then bif curOk (b0_l1Below (b0_l1Below (b0_l1Below (b0_l1Below (TL1Cur.mk es1 i2 i3) (9)) (4)) (3)) (4)) then bif v0_l1Once (b0_l1Below (b0_l1Below (b0_l1Below (b0_l1Below (TL1Cur.mk es1 i2 i3) (9)) (4)) (3)) (4)) (4) then bif isS Heard false (lendRows (enS true (hearL (deS Heard (lendRows es4)) (wrap i64 (1 + v0_l1Below (b0_l1Below (TL1Cur.mk es1 i2 i3) (9)) (4))) (wrap i64 (1 + v0_l1Below (b0_l1Below (b0_l1Below (TL1Cur.mk es1 i2 i3) (9)) (4)) (3))) (v0_l1Below (b0_l1Below (b0_l1Below (b0_l1Below (TL1Cur.mk es1 i2 i3) (9)) (4)) (3)) (4))))) && decide (length (deS Heard (lendRows (enS true (hearL (deS Heard (lendRows es4)) (wrap i64 (1 + v0_l1Below (b0_l1Below (TL1Cur.mk es1 i2 i3) (9)) (4))) (wrap i64 (1 + v0_l1Below (b0_l1Below (b0_l1Below (TL1Cur.mk es1 i2 i3) (9)) (4)) (3))) (v0_l1Below (b0_l1Below (b0_l1Below (b0_l1Below (TL1Cur.mk es1 i2 i3) (9)) (4)) (3)) (4)))))) ≤ 1048576) then bif deepRows (enS true (v0_AgeS (deS Heard (lendRows (enS true (hearL (deS Heard (lendRows es4)) (wrap i64 (1 + v0_l1Below (b0_l1Below (TL1Cur.mk es1 i2 i3) (9)) (4))) (wrap i64 (1 + v0_l1Below (b0_l1Below (b0_l1Below (TL1Cur.mk es1 i2 i3) (9)) (4)) (3))) (v0_l1Below (b0_l1Below (b0_l1Below (b0_l1Below (TL1Cur.mk es1 i2 i3) (9)) (4)) (3)) (4)))))))) && true && true && true && true then f (S95_0 (wrap i64 (i0 + 1)) (TL1Cur.b (b0_l1Once (b0_l1Below (b0_l1Below (b0_l1Below (b0_l1Below (TL1Cur.mk es1 i2 i3) (9)) (4)) (3)) (4)) (4))) (TL1Cur.i (b0_l1Once (b0_l1Below (b0_l1Below (b0_l1Below (b0_l1Below (TL1Cur.mk es1 i2 i3) (9)) (4)) (3)) (4)) (4))) (TL1Cur.h (b0_l1Once (b0_l1Below (b0_l1Below (b0_l1Below (b0_l1Below (TL1Cur.mk es1 i2 i3) (9)) (4)) (3)) (4)) (4))) (enS true (v0_AgeS (deS Heard (lendRows (enS true (hearL (deS Heard (lendRows es4)) (wrap i64 (1 + v0_l1Below (b0_l1Below (TL1Cur.mk es1 i2 i3) (9)) (4))) (wrap i64 (1 + v0_l1Below (b0_l1Below (b0_l1Below (TL1Cur.mk es1 i2 i3) (9)) (4)) (3))) (v0_l1Below (b0_l1Below (b0_l1Below (b0_l1Below (TL1Cur.mk es1 i2 i3) (9)) (4)) (3)) (4))))))))) else none else none else f (S95_0 (wrap i64 (i0 + 1)) (TL1Cur.b (b0_l1Once (b0_l1Below (b0_l1Below (b0_l1Below (b0_l1Below (TL1Cur.mk es1 i2 i3) (9)) (4)) (3)) (4)) (4))) (TL1Cur.i (b0_l1Once (b0_l1Below (b0_l1Below (b0_l1Below (b0_l1Below (TL1Cur.mk es1 i2 i3) (9)) (4)) (3)) (4)) (4))) (TL1Cur.h (b0_l1Once (b0_l1Below (b0_l1Below (b0_l1Below (b0_l1Below (TL1Cur.mk es1 i2 i3) (9)) (4)) (3)) (4)) (4))) (enS true (hearL (deS Heard (lendRows es4)) (wrap i64 (1 + v0_l1Below (b0_l1Below (TL1Cur.mk es1 i2 i3) (9)) (4))) (wrap i64 (1 + v0_l1Below (b0_l1Below (b0_l1Below (TL1Cur.mk es1 i2 i3) (9)) (4)) (3))) (v0_l1Below (b0_l1Below (b0_l1Below (b0_l1Below (TL1Cur.mk es1 i2 i3) (9)) (4)) (3)) (4))))) else none else none else none else none else none else none else K (Ex.exit 0) (X95_2 i0 es1 i2 i3 es4) else none := by kernel_rfl
theorem aX95_2 (n : Nat) (i0 : Int) (es1 : List (List D)) (i2 : Int) (i3 : Int) (es4 : List (List D)) : k95_1 n (Ex.exit 0) (X95_2 i0 es1 i2 i3 es4) = some ([[D.sl true 4 es4]], [[D.sl false 1 (TL1Cur.b (b0_l1Below (TL1Cur.mk es1 i2 i3) (9))), D.int i64 (TL1Cur.i (b0_l1Below (TL1Cur.mk es1 i2 i3) (9))), D.int i64 (TL1Cur.h (b0_l1Below (TL1Cur.mk es1 i2 i3) (9)))]]) := by kernel_rfl
theorem r95 (c : TL1Cur) (n : Nat) : evFn ⟨prog, Hx, 95⟩ T99.call n f95 [[.sl false 1 c.b, .int .i64 c.i, .int .i64 c.h]] = loopRun (B95_0 n) 2 25 1073741688 n (S95_0 (0) (TL1Cur.b c) (TL1Cur.i c) (TL1Cur.h c) []) (k95_1 n) := by kernel_rfl
def G_l3DrawRight (c : TL1Cur) (r : Option (List Row × List Row)) : Prop := ∃ x : (List Heard) × TL1Cur, r = some ([[.sl true 4 (enS true x.1)]], [[.sl false 1 x.2.b, .int .i64 x.2.i, .int .i64 x.2.h]]) ∧ (x.1.length ≤ 9 ∧ curOk x.2 = true)
theorem leaf_l3DrawRight (c : TL1Cur) {z0 : List Heard} {z1_b : List (List D)} {z1_i : Int} {z1_h : Int} (h : (z0 : List Heard).length ≤ 9 ∧ curOk (⟨z1_b, z1_i, z1_h⟩ : TL1Cur) = true) : G_l3DrawRight c (some ([[.sl true 4 (enS true z0)]], [[.sl false 1 z1_b, .int .i64 z1_i, .int .i64 z1_h]])) := ⟨(z0, ⟨z1_b, z1_i, z1_h⟩), rfl, h⟩
theorem e_l3DrawRight (c : TL1Cur) (hpre : (o95 c).1 = true) : ∃ x, P_l3DrawRight c x := by
  show G_l3DrawRight c _
  refine Eq.mpr (congrArg (G_l3DrawRight c) (r95 c _)) ?_
  replace hpre : (curOk c) = true := hpre
  refine g_loop (V := Nat × TL1Cur × List Heard) (fun v => S95_0 (Int.ofNat v.1) v.2.1.b v.2.1.i v.2.1.h (enS true v.2.2)) (fun v => v.1 ≤ 9 ∧ curOk v.2.1 = true ∧ v.2.2.length ≤ v.1) (fun v => 9 - v.1) ?_ 20 (0, c, []) ⟨Nat.zero_le _, hpre, Nat.le_refl _⟩ (by show 9 - 0 < 20; omega)
  rintro ⟨i, c, l⟩ ⟨h1, h2, h3⟩ f hf
  simp only at h1 h2 h3
  refine g_eq (q95_0 _ _ _ _ _ _ f _) ?_
  simp only [TL1Cur.eta, lendRows_enS, deS_enS, isS_enS, deepRows_enS, Bool.true_and, Bool.and_self, Bool.and_true, cond_true]
  have k1 := k_l1Below c 9 h2
  refine g_pre h2 (g_if (fun h => ?_) (fun h => ?_))
  · have hi : i < 9 := by
      have h4 := of_decide_eq_true h
      have h5 := (p_l1Below c 9 h2).1.2 (by omega)
      have h6 : (i : Int) < v0_l1Below c 9 := h4
      omega
    have k2 := k_l1Below _ 4 k1
    have k3 := k_l1Below _ 3 k2
    have k4 := k_l1Below _ 4 k3
    have hl : ∀ a v p : Int, (hearL l a v p).length ≤ i + 1 := fun a v p => Nat.le_trans (hear_len1 l a v p) (by omega)
    have hd : ∀ a v p : Int, decide ((hearL l a v p).length ≤ 1048576) = true := fun a v p => decide_eq_true (Nat.le_trans (hl a v p) (by omega))
    refine g_pre k1 (g_pre k2 (g_pre k3 (g_pre (decide_eq_true (by omega)) ?_)))
    refine g_pre k4 (g_if (fun _ => g_pre (hd _ _ _) ?_) (fun _ => ?_))
    · rw [wrap_succ (by omega)]
      exact hf (i + 1, b0_l1Once _ 4, v0_AgeS _) ⟨hi, k_l1Once _ 4 k4, Nat.le_trans (p_AgeS _ (hd _ _ _)) (hl _ _ _)⟩ (by show 9 - (i + 1) < 9 - i; omega)
    · rw [wrap_succ (by omega)]
      exact hf (i + 1, b0_l1Once _ 4, hearL l _ _ _) ⟨hi, k_l1Once _ 4 k4, hl _ _ _⟩ (by show 9 - (i + 1) < 9 - i; omega)
  · refine g_eq (aX95_2 _ _ _ _ _ _) ?_
    refine leaf_l3DrawRight _  ?_
    exact ⟨by omega, k1⟩
theorem p_l3DrawRight (c : TL1Cur) (hpre : (o95 c).1 = true) : (v0_l3DrawRight c).length ≤ 9 ∧ curOk (b0_l3DrawRight c) = true := (Classical.epsilon_spec (e_l3DrawRight c hpre)).2
theorem k_l3DrawRight (c : TL1Cur) (hpre : (curOk c) = true) : curOk (b0_l3DrawRight c) = true := (p_l3DrawRight c hpre).2
theorem m95 (c : TL1Cur) (hpre : (o95 c).1 = true) : evFn ⟨Go.Proofs.Try.prog, Hx, 95⟩ T99.call 20 f95 [[.sl false 1 c.b, .int .i64 c.i, .int .i64 c.h]] = some (o95 c).2 := (Classical.epsilon_spec (e_l3DrawRight c hpre)).1
theorem s95 : SoundAt Go.Proofs.Try.prog Hx 95 c95 := soundAt_of T99_sound mixed func95 (by kernel_rfl) (by
  intro rows r h
  unfold c95 at h
  split at h
  · rename_i c_b c_i c_h
    obtain ⟨hp, hr⟩ := Prod.mk.inj (Option.some.inj h)
    subst hr
    exact ⟨_, m95 ⟨c_b, c_i, c_h⟩ hp⟩
  · cases h)
def T95 : Table := (95, c95) :: T99
theorem T95_sound : Table.Sound Go.Proofs.Try.prog Hx T95 := Table.sound_cons s95 T99_sound
end Go.Ev
namespace Go.Md
open Go Go.Ev
def P_l3Draw (c : TL1Cur) (x : (List Heard) × TL1Cur) : Prop := evFn ⟨Go.Proofs.Try.prog, Hx, 96⟩ T95.call 20 f96 [[.sl false 1 c.b, .int .i64 c.i, .int .i64 c.h]] = some ([[.sl true 4 (enS true x.1)]], [[.sl false 1 x.2.b, .int .i64 x.2.i, .int .i64 x.2.h]]) ∧ (x.1.length ≤ 30 ∧ curOk x.2 = true)
noncomputable def w_l3Draw (c : TL1Cur) : (List Heard) × TL1Cur := @Classical.epsilon ((List Heard) × TL1Cur) ⟨([], ⟨[], 0, 0⟩)⟩ (P_l3Draw c)
noncomputable def v0_l3Draw (c : TL1Cur) : List Heard := (w_l3Draw c).1
noncomputable def b0_l3Draw (c : TL1Cur) : TL1Cur := (w_l3Draw c).2
end Go.Md
namespace Go.Ev
open Go.Md
def o96 (c : TL1Cur) : Bool × List Row × List Row := (curOk c, [[.sl true 4 (enS true (v0_l3Draw c))]], [[.sl false 1 (b0_l3Draw c).b, .int .i64 (b0_l3Draw c).i, .int .i64 (b0_l3Draw c).h]])
def c96 : Contract
  | [[.sl false 1 c_b, .int .i64 c_i, .int .i64 c_h]] => some ((o96 ⟨c_b, c_i, c_h⟩).1, (o96 ⟨c_b, c_i, c_h⟩).2.1, (o96 ⟨c_b, c_i, c_h⟩).2.2)
  | _ => none

def k96_0 (n : Nat) : Ex → St → RR := kThen (fun st ↦ runCode (Ctx.mk prog Hx (96)) (Table.call T95) n (codeAt [1, 1, 1] (bodyOf f96)) (Lv.mk 4 [] 4) st (kLeave (Ctx.P (Ctx.mk prog Hx (96))) (List.zip (Array.toList (Go.Func.resultTypes f96)) (Array.toList (Go.Func.results f96))) [0] [])) (kLeave (Ctx.P (Ctx.mk prog Hx (96))) (List.zip (Array.toList (Go.Func.resultTypes f96)) (Array.toList (Go.Func.results f96))) [0] [])
def k96_1 (n : Nat) : Ex → St → RR := kBlock (0) (k96_0 n)
def k96_2 (n : Nat) : Ex → St → RR := kBlock (1) (k96_1 n)
def S96_0 (c : TL1Cur) (i0 : Int) (es1 : List (List D)) : St := St.mk [U_, U_, U_, V_ [C.view 2 0 0 [] 4 none], I_ i0, U_, U_, U_, U_, U_, U_, U_, U_, U_, U_, U_, U_, U_, U_, U_, U_, U_, U_, U_, U_, U_, U_, U_, U_, U_, U_, U_, U_, U_, U_] [Root.mk true 3 [[D.sl false 1 (TL1Cur.b (b0_l1Below (b0_l3DrawRight c) (8))), D.int i64 (TL1Cur.i (b0_l1Below (b0_l3DrawRight c) (8))), D.int i64 (TL1Cur.h (b0_l1Below (b0_l3DrawRight c) (8)))]] 0 0 true true false, Root.mk false 4 (enS true (v0_l3DrawRight c)) 0 0 false true false, Root.mk false 4 es1 0 0 true true false]
def B96_0 (n : Nat) : St → (Ex → St → RR) → RR := runCode (Ctx.mk prog Hx (96)) (Table.call T95) n (codeAt [1, 1, 0, 1, 0, 1, 1, 1, 0, 1, 0, 0] (bodyOf f96)) (Lv.mk 24 [(1, 8), (0, 8)] 4)
def X96_3 (c : TL1Cur) (i0 : Int) (es1 : List (List D)) : St := St.mk [U_, U_, U_, V_ [C.view 2 0 0 [] 4 none], I_ i0, U_, U_, U_, U_, U_, U_, U_, U_, U_, U_, U_, U_, U_, U_, U_, U_, U_, U_, U_, U_, U_, U_, I_ i0, B_ false, U_, U_, U_, U_, U_, U_] [Root.mk true 3 [[D.sl false 1 (TL1Cur.b (b0_l1Below (b0_l3DrawRight c) (8))), D.int i64 (TL1Cur.i (b0_l1Below (b0_l3DrawRight c) (8))), D.int i64 (TL1Cur.h (b0_l1Below (b0_l3DrawRight c) (8)))]] 0 0 true true false, Root.mk false 4 (enS true (v0_l3DrawRight c)) 0 0 false true false, Root.mk false 4 es1 0 0 true true false]
theorem q96_0 (c : TL1Cur) (n : Nat) (i0 : Int) (es1 : List (List D)) (f : St → RR) (K : Ex → St → RR) : B96_0 n (S96_0 c i0 es1) (kThen (fun st ↦ f (St.head 2 24 17045651480 st)) K) = bif decide (i0 ≤ 9) then bif isS Heard false (lendRows es1) && decide (length (deS Heard (lendRows es1)) ≤ 1048576) then bif deepRows (enS true (hearL (deS Heard (lendRows es1)) i0 (4) (0))) && true && true && true && true then f (S96_0 c (wrap i64 (i0 + 1)) (enS true (hearL (deS Heard (lendRows es1)) i0 (4) (0)))) else none else none else K (Ex.exit 1) (X96_3 c i0 es1) := by kernel_rfl
theorem aX96_3 (c : TL1Cur) (n : Nat) (i0 : Int) (es1 : List (List D)) : k96_2 n (Ex.exit 1) (X96_3 c i0 es1) = some ([[D.sl true 4 es1]], [[D.sl false 1 (TL1Cur.b (b0_l1Below (b0_l3DrawRight c) (8))), D.int i64 (TL1Cur.i (b0_l1Below (b0_l3DrawRight c) (8))), D.int i64 (TL1Cur.h (b0_l1Below (b0_l3DrawRight c) (8)))]]) := by kernel_rfl
theorem r96 (c : TL1Cur) (n : Nat) : evFn ⟨prog, Hx, 96⟩ T95.call n f96 [[.sl false 1 c.b, .int .i64 c.i, .int .i64 c.h]] = bif curOk c then bif curOk (b0_l3DrawRight c) then bif v0_l1Below (b0_l3DrawRight c) (8) == 0 then bif curOk (b0_l1Below (b0_l3DrawRight c) (8)) then bif curOk (b0_l1Below (b0_l1Below (b0_l3DrawRight c) (8)) (11)) then bif curOk (b0_l1Below (b0_l1Below (b0_l1Below (b0_l3DrawRight c) (8)) (11)) (6)) then bif isS Int true [[D.int i64 (0)], [D.int i64 (1)], [D.int i64 (20)], [D.int i64 (21)]] && (curOk (b0_l1Below (b0_l1Below (b0_l1Below (b0_l1Below (b0_l3DrawRight c) (8)) (11)) (6)) (6)) && (decide (0 < length (deS Int [[D.int i64 (0)], [D.int i64 (1)], [D.int i64 (20)], [D.int i64 (21)]])) && decide (length (deS Int [[D.int i64 (0)], [D.int i64 (1)], [D.int i64 (20)], [D.int i64 (21)]]) ≤ 1048576))) then bif decide ((length (enS true (v0_l3DrawRight c)) + 1) * 32 ≤ 140737488355328) then some ([[D.sl true 4 (append (enS true (v0_l3DrawRight c)) [[D.int i64 (v0_l1Below (b0_l1Below (b0_l3DrawRight c) (8)) (11)), D.int i64 (v0_l1Below (b0_l1Below (b0_l1Below (b0_l3DrawRight c) (8)) (11)) (6)), D.int i64 (wrap i64 (v0_l1Below (b0_l1Below (b0_l1Below (b0_l1Below (b0_l3DrawRight c) (8)) (11)) (6)) (6) - 1)), D.int i64 (v0_l1PickInt (b0_l1Below (b0_l1Below (b0_l1Below (b0_l1Below (b0_l3DrawRight c) (8)) (11)) (6)) (6)) (deS Int [[D.int i64 (0)], [D.int i64 (1)], [D.int i64 (20)], [D.int i64 (21)]]))]])]], [[D.sl false 1 (TL1Cur.b (b0_l1PickInt (b0_l1Below (b0_l1Below (b0_l1Below (b0_l1Below (b0_l3DrawRight c) (8)) (11)) (6)) (6)) (deS Int [[D.int i64 (0)], [D.int i64 (1)], [D.int i64 (20)], [D.int i64 (21)]]))), D.int i64 (TL1Cur.i (b0_l1PickInt (b0_l1Below (b0_l1Below (b0_l1Below (b0_l1Below (b0_l3DrawRight c) (8)) (11)) (6)) (6)) (deS Int [[D.int i64 (0)], [D.int i64 (1)], [D.int i64 (20)], [D.int i64 (21)]]))), D.int i64 (TL1Cur.h (b0_l1PickInt (b0_l1Below (b0_l1Below (b0_l1Below (b0_l1Below (b0_l3DrawRight c) (8)) (11)) (6)) (6)) (deS Int [[D.int i64 (0)], [D.int i64 (1)], [D.int i64 (20)], [D.int i64 (21)]])))]]) else none else none else none else none else none else bif v0_l1Below (b0_l3DrawRight c) (8) == 1 then loopRun (B96_0 n) 2 24 17045651480 n (S96_0 c (1) (enS true (v0_l3DrawRight c))) (k96_2 n) else some ([[D.sl true 4 (enS true (v0_l3DrawRight c))]], [[D.sl false 1 (TL1Cur.b (b0_l1Below (b0_l3DrawRight c) (8))), D.int i64 (TL1Cur.i (b0_l1Below (b0_l3DrawRight c) (8))), D.int i64 (TL1Cur.h (b0_l1Below (b0_l3DrawRight c) (8)))]]) else none else none := by kernel_rfl
def G_l3Draw (c : TL1Cur) (r : Option (List Row × List Row)) : Prop := ∃ x : (List Heard) × TL1Cur, r = some ([[.sl true 4 (enS true x.1)]], [[.sl false 1 x.2.b, .int .i64 x.2.i, .int .i64 x.2.h]]) ∧ (x.1.length ≤ 30 ∧ curOk x.2 = true)
theorem leaf_l3Draw (c : TL1Cur) {z0 : List Heard} {z1_b : List (List D)} {z1_i : Int} {z1_h : Int} (h : (z0 : List Heard).length ≤ 30 ∧ curOk (⟨z1_b, z1_i, z1_h⟩ : TL1Cur) = true) : G_l3Draw c (some ([[.sl true 4 (enS true z0)]], [[.sl false 1 z1_b, .int .i64 z1_i, .int .i64 z1_h]])) := ⟨(z0, ⟨z1_b, z1_i, z1_h⟩), rfl, h⟩
theorem e_l3Draw (c : TL1Cur) (hpre : (o96 c).1 = true) : ∃ x, P_l3Draw c x := by
  show G_l3Draw c _
  refine Eq.mpr (congrArg (G_l3Draw c) (r96 c _)) ?_
  replace hpre : (curOk c) = true := hpre
  refine g_pre hpre ?_
  have x := p_l3DrawRight c hpre
  have k1 := k_l1Below (b0_l3DrawRight c) 8 x.2
  refine g_pre x.2 (g_if (fun _ => ?_) (fun _ => ?_))
  · have k2 := k_l1Below _ 11 k1
    have k3 := k_l1Below _ 6 k2
    refine g_pre k1 (g_pre k2 (g_pre k3 (g_pre (by simp (maxDischargeDepth := 60) [TL1Cur.eta, isS_int_cons, isS_nil, deS, List.map_cons, List.map_nil, List.length_cons, List.length_nil, k_l1Byte, k_l1Below, k_l1Once, k_l1PickInt, k_l3DrawRight, k3]) (g_pre (by rw [enS_length]; exact decide_eq_true (by have := x.1; omega)) ?_))))
    rw [snoc_heard]
    refine leaf_l3Draw _  ?_
    exact ⟨by rw [len_snoc]; have := x.1; omega, by simp (maxDischargeDepth := 60) [TL1Cur.eta, isS_int_cons, isS_nil, deS, List.map_cons, List.map_nil, List.length_cons, List.length_nil, k_l1Byte, k_l1Below, k_l1Once, k_l1PickInt, k_l3DrawRight, k3]⟩
  refine g_if (fun _ => ?_) (fun _ => ?_)
  · refine g_loop (V := Nat × List Heard) (fun v => S96_0 c (Int.ofNat v.1) (enS true v.2)) (fun v => v.1 ≤ 10 ∧ v.2.length ≤ 9 + v.1) (fun v => 10 - v.1) ?_ 20 (1, v0_l3DrawRight c) ⟨by omega, by show (v0_l3DrawRight c).length ≤ 10; have := x.1; omega⟩ (by show 10 - 1 < 20; omega)
    rintro ⟨i, l⟩ ⟨h1, h2⟩ f hf
    simp only at h1 h2
    refine g_eq (q96_0 c _ _ _ f _) ?_
    simp only [lendRows_enS, deS_enS, isS_enS, deepRows_enS, Bool.true_and, Bool.and_self, Bool.and_true, cond_true]
    refine g_if (fun h => ?_) (fun h => ?_)
    · have hi : i ≤ 9 := by
        have h4 := of_decide_eq_true h
        have h6 : (i : Int) ≤ 9 := h4
        omega
      refine g_pre (decide_eq_true (by omega)) ?_
      rw [wrap_succ (by omega)]
      exact hf (i + 1, hearL l _ _ _) ⟨by show i + 1 ≤ 10; omega, Nat.le_trans (hear_len1 l _ _ _) (by show l.length + 1 ≤ 9 + (i + 1); omega)⟩ (by show 10 - (i + 1) < 10 - i; omega)
    · refine g_eq (aX96_3 c _ _ _) ?_
      refine leaf_l3Draw _  ?_
      exact ⟨by omega, k1⟩
  · refine leaf_l3Draw _  ?_
    exact ⟨by have := x.1; omega, k1⟩
theorem p_l3Draw (c : TL1Cur) (hpre : (o96 c).1 = true) : (v0_l3Draw c).length ≤ 30 ∧ curOk (b0_l3Draw c) = true := (Classical.epsilon_spec (e_l3Draw c hpre)).2
theorem k_l3Draw (c : TL1Cur) (hpre : (curOk c) = true) : curOk (b0_l3Draw c) = true := (p_l3Draw c hpre).2
theorem m96 (c : TL1Cur) (hpre : (o96 c).1 = true) : evFn ⟨Go.Proofs.Try.prog, Hx, 96⟩ T95.call 20 f96 [[.sl false 1 c.b, .int .i64 c.i, .int .i64 c.h]] = some (o96 c).2 := (Classical.epsilon_spec (e_l3Draw c hpre)).1
theorem s96 : SoundAt Go.Proofs.Try.prog Hx 96 c96 := soundAt_of T95_sound mixed func96 (by kernel_rfl) (by
  intro rows r h
  unfold c96 at h
  split at h
  · rename_i c_b c_i c_h
    obtain ⟨hp, hr⟩ := Prod.mk.inj (Option.some.inj h)
    subst hr
    exact ⟨_, m96 ⟨c_b, c_i, c_h⟩ hp⟩
  · cases h)
def T96 : Table := (96, c96) :: T95
theorem T96_sound : Table.Sound Go.Proofs.Try.prog Hx T96 := Table.sound_cons s96 T95_sound
end Go.Ev
namespace Go.Md
open Go Go.Ev
def P_l22DrawUp (c : TL1Cur) (seq : Int) (x : Up × TL1Cur) : Prop := evFn ⟨Go.Proofs.Try.prog, Hx, 65⟩ T96.call 0 f65 [[.sl false 1 c.b, .int .i64 c.i, .int .i64 c.h], [.int .i64 seq]] = some ([[.int .i64 x.1.Seq, .int .i64 x.1.Addr, .int .i64 x.1.Vlan, .int .i64 x.1.Port]], [[.sl false 1 x.2.b, .int .i64 x.2.i, .int .i64 x.2.h]]) ∧ ((x.1.Seq = seq ∧ (inR seq 0 100000 = true → upOk x.1 = true)) ∧ curOk x.2 = true)
noncomputable def w_l22DrawUp (c : TL1Cur) (seq : Int) : Up × TL1Cur := @Classical.epsilon (Up × TL1Cur) ⟨(⟨0, 0, 0, 0⟩, ⟨[], 0, 0⟩)⟩ (P_l22DrawUp c seq)
noncomputable def v0_l22DrawUp (c : TL1Cur) (seq : Int) : Up := (w_l22DrawUp c seq).1
noncomputable def b0_l22DrawUp (c : TL1Cur) (seq : Int) : TL1Cur := (w_l22DrawUp c seq).2
end Go.Md
namespace Go.Ev
open Go.Md
def o65 (c : TL1Cur) (seq : Int) : Bool × List Row × List Row := (curOk c, [[.int .i64 (v0_l22DrawUp c seq).Seq, .int .i64 (v0_l22DrawUp c seq).Addr, .int .i64 (v0_l22DrawUp c seq).Vlan, .int .i64 (v0_l22DrawUp c seq).Port]], [[.sl false 1 (b0_l22DrawUp c seq).b, .int .i64 (b0_l22DrawUp c seq).i, .int .i64 (b0_l22DrawUp c seq).h]])
def c65 : Contract
  | [[.sl false 1 c_b, .int .i64 c_i, .int .i64 c_h], [.int .i64 seq]] => some ((o65 ⟨c_b, c_i, c_h⟩ seq).1, (o65 ⟨c_b, c_i, c_h⟩ seq).2.1, (o65 ⟨c_b, c_i, c_h⟩ seq).2.2)
  | _ => none

theorem r65 (c : TL1Cur) (seq : Int) (n : Nat) : evFn ⟨prog, Hx, 65⟩ T96.call n f65 [[.sl false 1 c.b, .int .i64 c.i, .int .i64 c.h], [.int .i64 seq]] = bif curOk c then bif curOk (b0_l1Below c (4)) then bif curOk (b0_l1Below (b0_l1Below c (4)) (2)) then some ([[D.int i64 seq, D.int i64 (wrap i64 (1 + v0_l1Below c (4))), D.int i64 (wrap i64 (1 + v0_l1Below (b0_l1Below c (4)) (2))), D.int i64 (v0_l1Below (b0_l1Below (b0_l1Below c (4)) (2)) (4))]], [[D.sl false 1 (TL1Cur.b (b0_l1Below (b0_l1Below (b0_l1Below c (4)) (2)) (4))), D.int i64 (TL1Cur.i (b0_l1Below (b0_l1Below (b0_l1Below c (4)) (2)) (4))), D.int i64 (TL1Cur.h (b0_l1Below (b0_l1Below (b0_l1Below c (4)) (2)) (4)))]]) else none else none else none := by kernel_rfl
def G_l22DrawUp (c : TL1Cur) (seq : Int) (r : Option (List Row × List Row)) : Prop := ∃ x : Up × TL1Cur, r = some ([[.int .i64 x.1.Seq, .int .i64 x.1.Addr, .int .i64 x.1.Vlan, .int .i64 x.1.Port]], [[.sl false 1 x.2.b, .int .i64 x.2.i, .int .i64 x.2.h]]) ∧ ((x.1.Seq = seq ∧ (inR seq 0 100000 = true → upOk x.1 = true)) ∧ curOk x.2 = true)
theorem leaf_l22DrawUp (c : TL1Cur) (seq : Int) {z0_Seq : Int} {z0_Addr : Int} {z0_Vlan : Int} {z0_Port : Int} {z1_b : List (List D)} {z1_i : Int} {z1_h : Int} (h : ((⟨z0_Seq, z0_Addr, z0_Vlan, z0_Port⟩ : Up).Seq = seq ∧ (inR seq 0 100000 = true → upOk (⟨z0_Seq, z0_Addr, z0_Vlan, z0_Port⟩ : Up) = true)) ∧ curOk (⟨z1_b, z1_i, z1_h⟩ : TL1Cur) = true) : G_l22DrawUp c seq (some ([[.int .i64 z0_Seq, .int .i64 z0_Addr, .int .i64 z0_Vlan, .int .i64 z0_Port]], [[.sl false 1 z1_b, .int .i64 z1_i, .int .i64 z1_h]])) := ⟨(⟨z0_Seq, z0_Addr, z0_Vlan, z0_Port⟩, ⟨z1_b, z1_i, z1_h⟩), rfl, h⟩
theorem e_l22DrawUp (c : TL1Cur) (seq : Int) (hpre : (o65 c seq).1 = true) : ∃ x, P_l22DrawUp c seq x := by
  show G_l22DrawUp c seq _
  refine Eq.mpr (congrArg (G_l22DrawUp c seq) (r65 c seq _)) ?_
  replace hpre : (curOk c) = true := hpre
  have x := p_l1Below c 4 hpre
  have y := p_l1Below _ 2 x.2
  have z := p_l1Below _ 4 y.2
  refine g_pre hpre (g_pre x.2 (g_pre y.2 ?_))
  refine leaf_l22DrawUp _ _  ?_
  refine ⟨⟨rfl, fun h => ?_⟩, z.2⟩
  have x1 := x.1.1; have x2 := x.1.2 (by omega)
  have y1 := y.1.1; have y2 := y.1.2 (by omega)
  have z1 := z.1.1; have z2 := z.1.2 (by omega)
  simp (disch := omega) only [wrap_sm]
  unfold upOk
  simp only
  rw [h]
  unfold inR
  simp only [Bool.and_eq_true, decide_eq_true_eq, Bool.true_and]
  omega
theorem p_l22DrawUp (c : TL1Cur) (seq : Int) (hpre : (o65 c seq).1 = true) : ((v0_l22DrawUp c seq).Seq = seq ∧ (inR seq 0 100000 = true → upOk (v0_l22DrawUp c seq) = true)) ∧ curOk (b0_l22DrawUp c seq) = true := (Classical.epsilon_spec (e_l22DrawUp c seq hpre)).2
theorem k_l22DrawUp (c : TL1Cur) (seq : Int) (hpre : (curOk c) = true) : curOk (b0_l22DrawUp c seq) = true := (p_l22DrawUp c seq hpre).2
theorem m65 (c : TL1Cur) (seq : Int) (hpre : (o65 c seq).1 = true) : evFn ⟨Go.Proofs.Try.prog, Hx, 65⟩ T96.call 0 f65 [[.sl false 1 c.b, .int .i64 c.i, .int .i64 c.h], [.int .i64 seq]] = some (o65 c seq).2 := (Classical.epsilon_spec (e_l22DrawUp c seq hpre)).1
theorem s65 : SoundAt Go.Proofs.Try.prog Hx 65 c65 := soundAt_of T96_sound mixed func65 (by kernel_rfl) (by
  intro rows r h
  unfold c65 at h
  split at h
  · rename_i c_b c_i c_h seq
    obtain ⟨hp, hr⟩ := Prod.mk.inj (Option.some.inj h)
    subst hr
    exact ⟨_, m65 ⟨c_b, c_i, c_h⟩ seq hp⟩
  · cases h)
def T65 : Table := (65, c65) :: T96
theorem T65_sound : Table.Sound Go.Proofs.Try.prog Hx T65 := Table.sound_cons s65 T96_sound
end Go.Ev
namespace Go.Md
open Go Go.Ev
def P_l22DrawCopy (c : TL1Cur) (x : Copy × TL1Cur) : Prop := evFn ⟨Go.Proofs.Try.prog, Hx, 80⟩ T65.call 20 f80 [[.sl false 1 c.b, .int .i64 c.i, .int .i64 c.h]] = some ([[.int .i64 x.1.Next, .sl true 4 (enS true x.1.Table)]], [[.sl false 1 x.2.b, .int .i64 x.2.i, .int .i64 x.2.h]]) ∧ (x.1.Table.length ≤ 30 ∧ curOk x.2 = true)
noncomputable def w_l22DrawCopy (c : TL1Cur) : Copy × TL1Cur := @Classical.epsilon (Copy × TL1Cur) ⟨(⟨0, []⟩, ⟨[], 0, 0⟩)⟩ (P_l22DrawCopy c)
noncomputable def v0_l22DrawCopy (c : TL1Cur) : Copy := (w_l22DrawCopy c).1
noncomputable def b0_l22DrawCopy (c : TL1Cur) : TL1Cur := (w_l22DrawCopy c).2
end Go.Md
namespace Go.Ev
open Go.Md
def o80 (c : TL1Cur) : Bool × List Row × List Row := (curOk c, [[.int .i64 (v0_l22DrawCopy c).Next, .sl true 4 (enS true (v0_l22DrawCopy c).Table)]], [[.sl false 1 (b0_l22DrawCopy c).b, .int .i64 (b0_l22DrawCopy c).i, .int .i64 (b0_l22DrawCopy c).h]])
def c80 : Contract
  | [[.sl false 1 c_b, .int .i64 c_i, .int .i64 c_h]] => some ((o80 ⟨c_b, c_i, c_h⟩).1, (o80 ⟨c_b, c_i, c_h⟩).2.1, (o80 ⟨c_b, c_i, c_h⟩).2.2)
  | _ => none

theorem r80 (c : TL1Cur) (n : Nat) : evFn ⟨prog, Hx, 80⟩ T65.call n f80 [[.sl false 1 c.b, .int .i64 c.i, .int .i64 c.h]] = bif isS Int true [[D.int i64 (0)], [D.int i64 (0)], [D.int i64 (1)], [D.int i64 (3)], [D.int i64 (100000)]] && (curOk c && (decide (0 < length (deS Int [[D.int i64 (0)], [D.int i64 (0)], [D.int i64 (1)], [D.int i64 (3)], [D.int i64 (100000)]])) && decide (length (deS Int [[D.int i64 (0)], [D.int i64 (0)], [D.int i64 (1)], [D.int i64 (3)], [D.int i64 (100000)]]) ≤ 1048576))) then bif curOk (b0_l1PickInt c (deS Int [[D.int i64 (0)], [D.int i64 (0)], [D.int i64 (1)], [D.int i64 (3)], [D.int i64 (100000)]])) then bif curOk (b0_l3DrawRight (b0_l1PickInt c (deS Int [[D.int i64 (0)], [D.int i64 (0)], [D.int i64 (1)], [D.int i64 (3)], [D.int i64 (100000)]]))) then bif v0_l1Below (b0_l3DrawRight (b0_l1PickInt c (deS Int [[D.int i64 (0)], [D.int i64 (0)], [D.int i64 (1)], [D.int i64 (3)], [D.int i64 (100000)]]))) (10) == 0 then bif isS Int true [[D.int i64 (Int.negSucc 0)], [D.int i64 (100001)], [D.int i64 (100002)]] && (curOk (b0_l1Below (b0_l3DrawRight (b0_l1PickInt c (deS Int [[D.int i64 (0)], [D.int i64 (0)], [D.int i64 (1)], [D.int i64 (3)], [D.int i64 (100000)]]))) (10)) && (decide (0 < length (deS Int [[D.int i64 (Int.negSucc 0)], [D.int i64 (100001)], [D.int i64 (100002)]])) && decide (length (deS Int [[D.int i64 (Int.negSucc 0)], [D.int i64 (100001)], [D.int i64 (100002)]]) ≤ 1048576))) then some ([[D.int i64 (v0_l1PickInt (b0_l1Below (b0_l3DrawRight (b0_l1PickInt c (deS Int [[D.int i64 (0)], [D.int i64 (0)], [D.int i64 (1)], [D.int i64 (3)], [D.int i64 (100000)]]))) (10)) (deS Int [[D.int i64 (Int.negSucc 0)], [D.int i64 (100001)], [D.int i64 (100002)]])), D.sl true 4 (enS true (v0_l3DrawRight (b0_l1PickInt c (deS Int [[D.int i64 (0)], [D.int i64 (0)], [D.int i64 (1)], [D.int i64 (3)], [D.int i64 (100000)]]))))]], [[D.sl false 1 (TL1Cur.b (b0_l1PickInt (b0_l1Below (b0_l3DrawRight (b0_l1PickInt c (deS Int [[D.int i64 (0)], [D.int i64 (0)], [D.int i64 (1)], [D.int i64 (3)], [D.int i64 (100000)]]))) (10)) (deS Int [[D.int i64 (Int.negSucc 0)], [D.int i64 (100001)], [D.int i64 (100002)]]))), D.int i64 (TL1Cur.i (b0_l1PickInt (b0_l1Below (b0_l3DrawRight (b0_l1PickInt c (deS Int [[D.int i64 (0)], [D.int i64 (0)], [D.int i64 (1)], [D.int i64 (3)], [D.int i64 (100000)]]))) (10)) (deS Int [[D.int i64 (Int.negSucc 0)], [D.int i64 (100001)], [D.int i64 (100002)]]))), D.int i64 (TL1Cur.h (b0_l1PickInt (b0_l1Below (b0_l3DrawRight (b0_l1PickInt c (deS Int [[D.int i64 (0)], [D.int i64 (0)], [D.int i64 (1)], [D.int i64 (3)], [D.int i64 (100000)]]))) (10)) (deS Int [[D.int i64 (Int.negSucc 0)], [D.int i64 (100001)], [D.int i64 (100002)]])))]]) else none else bif v0_l1Below (b0_l3DrawRight (b0_l1PickInt c (deS Int [[D.int i64 (0)], [D.int i64 (0)], [D.int i64 (1)], [D.int i64 (3)], [D.int i64 (100000)]]))) (10) == 1 then bif curOk (b0_l1Below (b0_l3DrawRight (b0_l1PickInt c (deS Int [[D.int i64 (0)], [D.int i64 (0)], [D.int i64 (1)], [D.int i64 (3)], [D.int i64 (100000)]]))) (10)) then some ([[D.int i64 (v0_l1PickInt c (deS Int [[D.int i64 (0)], [D.int i64 (0)], [D.int i64 (1)], [D.int i64 (3)], [D.int i64 (100000)]])), D.sl true 4 (enS true (v0_l3Draw (b0_l1Below (b0_l3DrawRight (b0_l1PickInt c (deS Int [[D.int i64 (0)], [D.int i64 (0)], [D.int i64 (1)], [D.int i64 (3)], [D.int i64 (100000)]]))) (10))))]], [[D.sl false 1 (TL1Cur.b (b0_l3Draw (b0_l1Below (b0_l3DrawRight (b0_l1PickInt c (deS Int [[D.int i64 (0)], [D.int i64 (0)], [D.int i64 (1)], [D.int i64 (3)], [D.int i64 (100000)]]))) (10)))), D.int i64 (TL1Cur.i (b0_l3Draw (b0_l1Below (b0_l3DrawRight (b0_l1PickInt c (deS Int [[D.int i64 (0)], [D.int i64 (0)], [D.int i64 (1)], [D.int i64 (3)], [D.int i64 (100000)]]))) (10)))), D.int i64 (TL1Cur.h (b0_l3Draw (b0_l1Below (b0_l3DrawRight (b0_l1PickInt c (deS Int [[D.int i64 (0)], [D.int i64 (0)], [D.int i64 (1)], [D.int i64 (3)], [D.int i64 (100000)]]))) (10))))]]) else none else some ([[D.int i64 (v0_l1PickInt c (deS Int [[D.int i64 (0)], [D.int i64 (0)], [D.int i64 (1)], [D.int i64 (3)], [D.int i64 (100000)]])), D.sl true 4 (enS true (v0_l3DrawRight (b0_l1PickInt c (deS Int [[D.int i64 (0)], [D.int i64 (0)], [D.int i64 (1)], [D.int i64 (3)], [D.int i64 (100000)]]))))]], [[D.sl false 1 (TL1Cur.b (b0_l1Below (b0_l3DrawRight (b0_l1PickInt c (deS Int [[D.int i64 (0)], [D.int i64 (0)], [D.int i64 (1)], [D.int i64 (3)], [D.int i64 (100000)]]))) (10))), D.int i64 (TL1Cur.i (b0_l1Below (b0_l3DrawRight (b0_l1PickInt c (deS Int [[D.int i64 (0)], [D.int i64 (0)], [D.int i64 (1)], [D.int i64 (3)], [D.int i64 (100000)]]))) (10))), D.int i64 (TL1Cur.h (b0_l1Below (b0_l3DrawRight (b0_l1PickInt c (deS Int [[D.int i64 (0)], [D.int i64 (0)], [D.int i64 (1)], [D.int i64 (3)], [D.int i64 (100000)]]))) (10)))]]) else none else none else none := by kernel_rfl
theorem l80_a (c : TL1Cur) (h : curOk c = true) : (v0_l3DrawRight c).length ≤ 30 := by have := (p_l3DrawRight c h).1; omega
theorem l80_b (c : TL1Cur) (h : curOk c = true) : (v0_l3Draw c).length ≤ 30 := (p_l3Draw c h).1
def G_l22DrawCopy (c : TL1Cur) (r : Option (List Row × List Row)) : Prop := ∃ x : Copy × TL1Cur, r = some ([[.int .i64 x.1.Next, .sl true 4 (enS true x.1.Table)]], [[.sl false 1 x.2.b, .int .i64 x.2.i, .int .i64 x.2.h]]) ∧ (x.1.Table.length ≤ 30 ∧ curOk x.2 = true)
theorem leaf_l22DrawCopy (c : TL1Cur) {z0_Next : Int} {z0_Table : List Heard} {z1_b : List (List D)} {z1_i : Int} {z1_h : Int} (h : (⟨z0_Next, z0_Table⟩ : Copy).Table.length ≤ 30 ∧ curOk (⟨z1_b, z1_i, z1_h⟩ : TL1Cur) = true) : G_l22DrawCopy c (some ([[.int .i64 z0_Next, .sl true 4 (enS true z0_Table)]], [[.sl false 1 z1_b, .int .i64 z1_i, .int .i64 z1_h]])) := ⟨(⟨z0_Next, z0_Table⟩, ⟨z1_b, z1_i, z1_h⟩), rfl, h⟩
theorem e_l22DrawCopy (c : TL1Cur) (hpre : (o80 c).1 = true) : ∃ x, P_l22DrawCopy c x := by
  show G_l22DrawCopy c _
  refine Eq.mpr (congrArg (G_l22DrawCopy c) (r80 c _)) ?_
  replace hpre : (curOk c) = true := hpre
  repeat' first | refine leaf_l22DrawCopy _  ?_ | refine g_pre ?_ ?_ | refine g_if (fun _ => ?_) (fun _ => ?_)
  all_goals simp (maxDischargeDepth := 60) [TL1Cur.eta, isS_int_cons, isS_nil, deS, List.map_cons, List.map_nil, List.length_cons, List.length_nil, k_l1Byte, k_l1Below, k_l1Once, k_l1PickInt, k_l3DrawRight, k_l3Draw, k_l22DrawUp, hpre, l80_a, l80_b]
theorem p_l22DrawCopy (c : TL1Cur) (hpre : (o80 c).1 = true) : (v0_l22DrawCopy c).Table.length ≤ 30 ∧ curOk (b0_l22DrawCopy c) = true := (Classical.epsilon_spec (e_l22DrawCopy c hpre)).2
theorem k_l22DrawCopy (c : TL1Cur) (hpre : (curOk c) = true) : curOk (b0_l22DrawCopy c) = true := (p_l22DrawCopy c hpre).2
theorem m80 (c : TL1Cur) (hpre : (o80 c).1 = true) : evFn ⟨Go.Proofs.Try.prog, Hx, 80⟩ T65.call 20 f80 [[.sl false 1 c.b, .int .i64 c.i, .int .i64 c.h]] = some (o80 c).2 := (Classical.epsilon_spec (e_l22DrawCopy c hpre)).1
theorem s80 : SoundAt Go.Proofs.Try.prog Hx 80 c80 := soundAt_of T65_sound mixed func80 (by kernel_rfl) (by
  intro rows r h
  unfold c80 at h
  split at h
  · rename_i c_b c_i c_h
    obtain ⟨hp, hr⟩ := Prod.mk.inj (Option.some.inj h)
    subst hr
    exact ⟨_, m80 ⟨c_b, c_i, c_h⟩ hp⟩
  · cases h)
def T80 : Table := (80, c80) :: T65
theorem T80_sound : Table.Sound Go.Proofs.Try.prog Hx T80 := Table.sound_cons s80 T65_sound
end Go.Ev
namespace Go.Md
open Go Go.Ev
def P_l22DrawList (c : TL1Cur) (x : (List Up) × TL1Cur) : Prop := evFn ⟨Go.Proofs.Try.prog, Hx, 83⟩ T80.call 20 f83 [[.sl false 1 c.b, .int .i64 c.i, .int .i64 c.h]] = some ([[.sl true 4 (enS true x.1)]], [[.sl false 1 x.2.b, .int .i64 x.2.i, .int .i64 x.2.h]]) ∧ (x.1.length ≤ 8 ∧ curOk x.2 = true)
noncomputable def w_l22DrawList (c : TL1Cur) : (List Up) × TL1Cur := @Classical.epsilon ((List Up) × TL1Cur) ⟨([], ⟨[], 0, 0⟩)⟩ (P_l22DrawList c)
noncomputable def v0_l22DrawList (c : TL1Cur) : List Up := (w_l22DrawList c).1
noncomputable def b0_l22DrawList (c : TL1Cur) : TL1Cur := (w_l22DrawList c).2
end Go.Md
namespace Go.Ev
open Go.Md
def o83 (c : TL1Cur) : Bool × List Row × List Row := (curOk c, [[.sl true 4 (enS true (v0_l22DrawList c))]], [[.sl false 1 (b0_l22DrawList c).b, .int .i64 (b0_l22DrawList c).i, .int .i64 (b0_l22DrawList c).h]])
def c83 : Contract
  | [[.sl false 1 c_b, .int .i64 c_i, .int .i64 c_h]] => some ((o83 ⟨c_b, c_i, c_h⟩).1, (o83 ⟨c_b, c_i, c_h⟩).2.1, (o83 ⟨c_b, c_i, c_h⟩).2.2)
  | _ => none

def k83_0 (n : Nat) : Ex → St → RR := kThen (fun st ↦ runCode (Ctx.mk prog Hx (83)) (Table.call T80) n (codeAt [1, 1, 1, 1] (bodyOf f83)) (Lv.mk 4 [] 4) st (kLeave (Ctx.P (Ctx.mk prog Hx (83))) (List.zip (Array.toList (Go.Func.resultTypes f83)) (Array.toList (Go.Func.results f83))) [0] [])) (kLeave (Ctx.P (Ctx.mk prog Hx (83))) (List.zip (Array.toList (Go.Func.resultTypes f83)) (Array.toList (Go.Func.results f83))) [0] [])
def k83_1 (n : Nat) : Ex → St → RR := kBlock (0) (k83_0 n)
def S83_0 (c : TL1Cur) (i0 : Int) (es1 : List (List D)) (i2 : Int) (i3 : Int) (es4 : List (List D)) : St := St.mk [V_ [C.ptr 0 0 0 [] 3 0 0], U_, U_, V_ [C.view 2 0 0 [] 4 none], I_ (v0_l1Below c (7)), I_ i0, U_, U_, U_, U_, U_, U_, U_, U_, U_, U_, U_, U_, U_, U_, U_, U_, U_, U_, U_, U_, U_, U_, U_, U_, U_, U_, U_, U_, U_, U_, U_, U_, U_, U_, U_, U_, U_, U_, U_, U_, U_, U_, U_, U_, U_, U_, U_, U_, U_, U_, U_, U_, U_, U_, U_, U_, U_, U_, U_, U_, U_, U_, U_] [Root.mk true 3 [[D.sl false 1 es1, D.int i64 i2, D.int i64 i3]] 0 0 true true false, Root.mk false 4 [] 0 0 false true false, Root.mk false 4 es4 0 0 true true false]
def B83_0 (n : Nat) : St → (Ex → St → RR) → RR := runCode (Ctx.mk prog Hx (83)) (Table.call T80) n (codeAt [1, 1, 1, 0, 1, 0, 0] (bodyOf f83)) (Lv.mk 57 [(0, 9)] 4)
def X83_2 (c : TL1Cur) (i0 : Int) (es1 : List (List D)) (i2 : Int) (i3 : Int) (es4 : List (List D)) : St := St.mk [V_ [C.ptr 0 0 0 [] 3 0 0], U_, U_, V_ [C.view 2 0 0 [] 4 none], I_ (v0_l1Below c (7)), I_ i0, U_, U_, U_, U_, U_, U_, I_ i0, I_ (v0_l1Below c (7)), B_ false, U_, U_, U_, U_, U_, U_, U_, U_, U_, U_, U_, U_, U_, U_, U_, U_, U_, U_, U_, U_, U_, U_, U_, U_, U_, U_, U_, U_, U_, U_, U_, U_, U_, U_, U_, U_, U_, U_, U_, U_, U_, U_, U_, U_, U_, U_, U_, U_, U_, U_, U_, U_, U_, U_] [Root.mk true 3 [[D.sl false 1 es1, D.int i64 i2, D.int i64 i3]] 0 0 true true false, Root.mk false 4 [] 0 0 false true false, Root.mk false 4 es4 0 0 true true false]
theorem q83_0 (c : TL1Cur) (n : Nat) (i0 : Int) (es1 : List (List D)) (i2 : Int) (i3 : Int) (es4 : List (List D)) (f : St → RR) (K : Ex → St → RR) : B83_0 n (S83_0 c i0 es1 i2 i3 es4) (kThen (fun st ↦ f (St.head 2 57 8384552 st)) K) = bif decide (i0 < v0_l1Below c (7)) then bif curOk (TL1Cur.mk es1 i2 i3) then bif decide ((length es4 + 1) * 32 ≤ 140737488355328) then f (S83_0 c (wrap i64 (i0 + 1)) (TL1Cur.b (b0_l22DrawUp (TL1Cur.mk es1 i2 i3) i0)) (TL1Cur.i (b0_l22DrawUp (TL1Cur.mk es1 i2 i3) i0)) (TL1Cur.h (b0_l22DrawUp (TL1Cur.mk es1 i2 i3) i0)) (append es4 [En.enc true (v0_l22DrawUp (TL1Cur.mk es1 i2 i3) i0)])) else none else none else K (Ex.exit 0) (X83_2 c i0 es1 i2 i3 es4) := by kernel_rfl
def k83_3 (n : Nat) : Ex → St → RR := kThen (fun st ↦ runCode (Ctx.mk prog Hx (83)) (Table.call T80) n (codeAt [1, 1, 1, 1, 1] (bodyOf f83)) (Lv.mk 4 [] 4) st (kLeave (Ctx.P (Ctx.mk prog Hx (83))) (List.zip (Array.toList (Go.Func.resultTypes f83)) (Array.toList (Go.Func.results f83))) [0] [])) (kLeave (Ctx.P (Ctx.mk prog Hx (83))) (List.zip (Array.toList (Go.Func.resultTypes f83)) (Array.toList (Go.Func.results f83))) [0] [])
def k83_4 (n : Nat) : Ex → St → RR := kBlock (2) (k83_3 n)
def S83_1 (i0_ : Int) (es1_ : List (List D)) (i2_ : Int) (i3_ : Int) (es4_ : List (List D)) : St := St.mk [V_ [C.ptr 0 0 0 [] 3 0 0], U_, U_, V_ [C.view 2 0 0 [] 4 none], U_, U_, I_ i0_, U_, U_, U_, U_, U_, U_, U_, U_, U_, U_, U_, U_, U_, U_, U_, U_, U_, U_, U_, U_, U_, U_, U_, U_, U_, U_, U_, U_, U_, U_, U_, U_, U_, U_, U_, U_, U_, U_, U_, U_, U_, U_, U_, U_, U_, U_, U_, U_, U_, U_, U_, U_, U_, U_, U_, U_, U_, U_, U_, U_, U_, U_] [Root.mk true 3 [[D.sl false 1 es1_, D.int i64 i2_, D.int i64 i3_]] 0 0 true true false, Root.mk false 4 [] 0 0 false true false, Root.mk false 4 es4_ 0 0 true true false]
def B83_1 (n : Nat) : St → (Ex → St → RR) → RR := runCode (Ctx.mk prog Hx (83)) (Table.call T80) n (codeAt [1, 1, 1, 1, 0, 1, 0, 0] (bodyOf f83)) (Lv.mk 73 [(2, 9)] 4)
def X83_5 (i0_ : Int) (es1_ : List (List D)) (i2_ : Int) (i3_ : Int) (es4_ : List (List D)) : St := St.mk [V_ [C.ptr 0 0 0 [] 3 0 0], U_, U_, V_ [C.view 2 0 0 [] 4 none], U_, U_, I_ i0_, U_, U_, U_, U_, U_, U_, U_, U_, U_, U_, U_, U_, U_, U_, U_, U_, I_ i0_, V_ [C.view 2 0 0 [] 4 none], I_ (ofNat (length es4_)), B_ false, U_, U_, U_, U_, U_, U_, U_, U_, U_, U_, U_, U_, U_, U_, U_, U_, U_, U_, U_, U_, U_, U_, U_, U_, U_, U_, U_, U_, U_, U_, U_, U_, U_, U_, U_, U_, U_, U_, U_, U_, U_, U_] [Root.mk true 3 [[D.sl false 1 es1_, D.int i64 i2_, D.int i64 i3_]] 0 0 true true false, Root.mk false 4 [] 0 0 false true false, Root.mk false 4 es4_ 0 0 true true false]
def w83_6 (i0_ : Int) (es1_ : List (List D)) (i2_ : Int) (i3_ : Int) (es4_ : List (List D)) : List (List D) := set es4_ (0 + toNat i0_) [D.int i64 (D.num (getD (getD es4_ (0 + toNat (v0_l1Below (TL1Cur.mk es1_ i2_ i3_) (ofNat (length es4_)))) []) 0 D.dead)), D.int i64 (D.num (getD (getD es4_ (0 + toNat (v0_l1Below (TL1Cur.mk es1_ i2_ i3_) (ofNat (length es4_)))) []) 1 D.dead)), D.int i64 (D.num (getD (getD es4_ (0 + toNat (v0_l1Below (TL1Cur.mk es1_ i2_ i3_) (ofNat (length es4_)))) []) 2 D.dead)), D.int i64 (D.num (getD (getD es4_ (0 + toNat (v0_l1Below (TL1Cur.mk es1_ i2_ i3_) (ofNat (length es4_)))) []) 3 D.dead))]
theorem q83_1 (n : Nat) (i0_ : Int) (es1_ : List (List D)) (i2_ : Int) (i3_ : Int) (es4_ : List (List D)) (f : St → RR) (K : Ex → St → RR) : B83_1 n (S83_1 i0_ es1_ i2_ i3_ es4_) (kThen (fun st ↦ f (St.head 3 73 281474968322496 st)) K) = bif decide (i0_ < ofNat (length es4_)) then bif curOk (TL1Cur.mk es1_ i2_ i3_) then bif decide (0 ≤ i0_) && decide (i0_ < ofNat (length es4_)) then bif Leaf.fit true (Leaf.int i64) (getD (getD es4_ (0 + toNat i0_) []) 0 D.dead) && (Leaf.fit true (Leaf.int i64) (getD (getD es4_ (0 + toNat i0_) []) 1 D.dead) && (Leaf.fit true (Leaf.int i64) (getD (getD es4_ (0 + toNat i0_) []) 2 D.dead) && (Leaf.fit true (Leaf.int i64) (getD (getD es4_ (0 + toNat i0_) []) 3 D.dead) && true))) then bif decide (0 ≤ v0_l1Below (TL1Cur.mk es1_ i2_ i3_) (ofNat (length es4_))) && decide (v0_l1Below (TL1Cur.mk es1_ i2_ i3_) (ofNat (length es4_)) < ofNat (length es4_)) then bif Leaf.fit true (Leaf.int i64) (getD (getD es4_ (0 + toNat (v0_l1Below (TL1Cur.mk es1_ i2_ i3_) (ofNat (length es4_)))) []) 0 D.dead) && (Leaf.fit true (Leaf.int i64) (getD (getD es4_ (0 + toNat (v0_l1Below (TL1Cur.mk es1_ i2_ i3_) (ofNat (length es4_)))) []) 1 D.dead) && (Leaf.fit true (Leaf.int i64) (getD (getD es4_ (0 + toNat (v0_l1Below (TL1Cur.mk es1_ i2_ i3_) (ofNat (length es4_)))) []) 2 D.dead) && (Leaf.fit true (Leaf.int i64) (getD (getD es4_ (0 + toNat (v0_l1Below (TL1Cur.mk es1_ i2_ i3_) (ofNat (length es4_)))) []) 3 D.dead) && true))) then bif decide (0 ≤ i0_) && decide (i0_ < ofNat (length es4_)) then bif decide (0 ≤ v0_l1Below (TL1Cur.mk es1_ i2_ i3_) (ofNat (length es4_))) && decide (v0_l1Below (TL1Cur.mk es1_ i2_ i3_) (ofNat (length es4_)) < ofNat (length (w83_6 i0_ es1_ i2_ i3_ es4_))) then f (S83_1 (wrap i64 (i0_ + 1)) (TL1Cur.b (b0_l1Below (TL1Cur.mk es1_ i2_ i3_) (ofNat (length es4_)))) (TL1Cur.i (b0_l1Below (TL1Cur.mk es1_ i2_ i3_) (ofNat (length es4_)))) (TL1Cur.h (b0_l1Below (TL1Cur.mk es1_ i2_ i3_) (ofNat (length es4_)))) (set (w83_6 i0_ es1_ i2_ i3_ es4_) (0 + toNat (v0_l1Below (TL1Cur.mk es1_ i2_ i3_) (ofNat (length es4_)))) [D.int i64 (D.num (getD (getD es4_ (0 + toNat i0_) []) 0 D.dead)), D.int i64 (D.num (getD (getD es4_ (0 + toNat i0_) []) 1 D.dead)), D.int i64 (D.num (getD (getD es4_ (0 + toNat i0_) []) 2 D.dead)), D.int i64 (D.num (getD (getD es4_ (0 + toNat i0_) []) 3 D.dead))])) else none else none else none else none else none else none else none else K (Ex.exit 2) (X83_5 i0_ es1_ i2_ i3_ es4_) := by kernel_rfl
theorem aX83_5 (n : Nat) (i0_ : Int) (es1_ : List (List D)) (i2_ : Int) (i3_ : Int) (es4_ : List (List D)) : k83_4 n (Ex.exit 2) (X83_5 i0_ es1_ i2_ i3_ es4_) = bif curOk (TL1Cur.mk es1_ i2_ i3_) then bif v0_l1Below (TL1Cur.mk es1_ i2_ i3_) (4) == 0 then bif decide (ofNat (length es4_) > 0) then bif decide (0 < ofNat (length es4_)) then bif Leaf.fit true (Leaf.int i64) (getD (getD es4_ 0 []) 0 D.dead) && (Leaf.fit true (Leaf.int i64) (getD (getD es4_ 0 []) 1 D.dead) && (Leaf.fit true (Leaf.int i64) (getD (getD es4_ 0 []) 2 D.dead) && (Leaf.fit true (Leaf.int i64) (getD (getD es4_ 0 []) 3 D.dead) && true))) then bif decide ((length es4_ + 1) * 32 ≤ 140737488355328) then some ([[D.sl true 4 (append es4_ [[D.int i64 (D.num (getD (getD es4_ 0 []) 0 D.dead)), D.int i64 (D.num (getD (getD es4_ 0 []) 1 D.dead)), D.int i64 (D.num (getD (getD es4_ 0 []) 2 D.dead)), D.int i64 (D.num (getD (getD es4_ 0 []) 3 D.dead))]])]], [[D.sl false 1 (TL1Cur.b (b0_l1Below (TL1Cur.mk es1_ i2_ i3_) (4))), D.int i64 (TL1Cur.i (b0_l1Below (TL1Cur.mk es1_ i2_ i3_) (4))), D.int i64 (TL1Cur.h (b0_l1Below (TL1Cur.mk es1_ i2_ i3_) (4)))]]) else none else none else none else some ([[D.sl true 4 es4_]], [[D.sl false 1 (TL1Cur.b (b0_l1Below (TL1Cur.mk es1_ i2_ i3_) (4))), D.int i64 (TL1Cur.i (b0_l1Below (TL1Cur.mk es1_ i2_ i3_) (4))), D.int i64 (TL1Cur.h (b0_l1Below (TL1Cur.mk es1_ i2_ i3_) (4)))]]) else bif v0_l1Below (TL1Cur.mk es1_ i2_ i3_) (4) == 1 then bif decide (ofNat (length es4_) > 0) then bif decide (1 ≤ ofNat (length es4_)) && decide (ofNat (length es4_) ≤ ofNat (length es4_)) then some ([[D.sl true 4 (take (toNat (ofNat (length es4_) - 1)) (drop 1 es4_))]], [[D.sl false 1 (TL1Cur.b (b0_l1Below (TL1Cur.mk es1_ i2_ i3_) (4))), D.int i64 (TL1Cur.i (b0_l1Below (TL1Cur.mk es1_ i2_ i3_) (4))), D.int i64 (TL1Cur.h (b0_l1Below (TL1Cur.mk es1_ i2_ i3_) (4)))]]) else none else some ([[D.sl true 4 es4_]], [[D.sl false 1 (TL1Cur.b (b0_l1Below (TL1Cur.mk es1_ i2_ i3_) (4))), D.int i64 (TL1Cur.i (b0_l1Below (TL1Cur.mk es1_ i2_ i3_) (4))), D.int i64 (TL1Cur.h (b0_l1Below (TL1Cur.mk es1_ i2_ i3_) (4)))]]) else some ([[D.sl true 4 es4_]], [[D.sl false 1 (TL1Cur.b (b0_l1Below (TL1Cur.mk es1_ i2_ i3_) (4))), D.int i64 (TL1Cur.i (b0_l1Below (TL1Cur.mk es1_ i2_ i3_) (4))), D.int i64 (TL1Cur.h (b0_l1Below (TL1Cur.mk es1_ i2_ i3_) (4)))]]) else none := by kernel_rfl
theorem aX83_2 (c : TL1Cur) (n : Nat) (i0 : Int) (es1 : List (List D)) (i2 : Int) (i3 : Int) (es4 : List (List D)) : k83_1 n (Ex.exit 0) (X83_2 c i0 es1 i2 i3 es4) = loopRun (B83_1 n) 3 73 281474968322496 n (S83_1 (0) es1 i2 i3 es4) (k83_4 n) := by kernel_rfl
theorem r83 (c : TL1Cur) (n : Nat) : evFn ⟨prog, Hx, 83⟩ T80.call n f83 [[.sl false 1 c.b, .int .i64 c.i, .int .i64 c.h]] = bif curOk c then loopRun (B83_0 n) 2 57 8384552 n (S83_0 c (0) (TL1Cur.b (b0_l1Below c (7))) (TL1Cur.i (b0_l1Below c (7))) (TL1Cur.h (b0_l1Below c (7))) []) (k83_1 n) else none := by kernel_rfl
def G_l22DrawList (c : TL1Cur) (r : Option (List Row × List Row)) : Prop := ∃ x : (List Up) × TL1Cur, r = some ([[.sl true 4 (enS true x.1)]], [[.sl false 1 x.2.b, .int .i64 x.2.i, .int .i64 x.2.h]]) ∧ (x.1.length ≤ 8 ∧ curOk x.2 = true)
theorem leaf_l22DrawList (c : TL1Cur) {z0 : List Up} {z1_b : List (List D)} {z1_i : Int} {z1_h : Int} (h : (z0 : List Up).length ≤ 8 ∧ curOk (⟨z1_b, z1_i, z1_h⟩ : TL1Cur) = true) : G_l22DrawList c (some ([[.sl true 4 (enS true z0)]], [[.sl false 1 z1_b, .int .i64 z1_i, .int .i64 z1_h]])) := ⟨(z0, ⟨z1_b, z1_i, z1_h⟩), rfl, h⟩
theorem e_l22DrawList (c : TL1Cur) (hpre : (o83 c).1 = true) : ∃ x, P_l22DrawList c x := by
  show G_l22DrawList c _
  refine Eq.mpr (congrArg (G_l22DrawList c) (r83 c _)) ?_
  replace hpre : (curOk c) = true := hpre
  have x := p_l1Below c 7 hpre
  refine g_pre hpre ?_
  refine g_loop (V := Nat × TL1Cur × List Up) (fun v => S83_0 c (Int.ofNat v.1) v.2.1.b v.2.1.i v.2.1.h (enS true v.2.2)) (fun v => v.1 ≤ 7 ∧ curOk v.2.1 = true ∧ v.2.2.length = v.1) (fun v => 7 - v.1) ?_ 20 (0, _, []) ⟨Nat.zero_le _, x.2, rfl⟩ (by show 7 - 0 < 20; omega)
  rintro ⟨i, d, l⟩ ⟨h1, h2, h3⟩ f hf
  simp only at h1 h2 h3
  refine g_eq (q83_0 c _ _ _ _ _ _ f _) ?_
  simp only [TL1Cur.eta]
  refine g_if (fun h => ?_) (fun h => ?_)
  · have hi : i < 7 := by
      have h4 := of_decide_eq_true h
      have h5 := x.1.2 (by omega)
      have h6 : (i : Int) < v0_l1Below c 7 := h4
      omega
    refine g_pre h2 (g_pre (by rw [enS_length]; exact decide_eq_true (by omega)) ?_)
    rw [wrap_succ (by omega), snoc_upE]
    exact hf (i + 1, b0_l22DrawUp d _, l ++ [_]) ⟨hi, k_l22DrawUp d _ h2, by rw [len_snoc, h3]⟩ (by show 7 - (i + 1) < 7 - i; omega)
  refine g_eq (aX83_2 c _ _ _ _ _ _) ?_
  refine g_loop (V := Nat × TL1Cur × List Up) (fun v => S83_1 (Int.ofNat v.1) v.2.1.b v.2.1.i v.2.1.h (enS true v.2.2)) (fun v => v.1 ≤ v.2.2.length ∧ curOk v.2.1 = true ∧ v.2.2.length ≤ 7) (fun v => v.2.2.length - v.1) ?_ 20 (0, d, l) ⟨Nat.zero_le _, h2, by show l.length ≤ 7; omega⟩ (by show l.length - 0 < 20; omega)
  clear hf h h1 h3 h2
  rintro ⟨i, d, l⟩ ⟨h1, h2, h3⟩ f hf
  simp only at h1 h2 h3
  refine g_eq (q83_1 _ _ _ _ _ _ f _) ?_
  simp only [TL1Cur.eta, w83_6, enS_length]
  by_cases hi : i < l.length
  · have y := p_l1Below d (Int.ofNat l.length) h2
    obtain ⟨k, hk⟩ := Int.eq_ofNat_of_zero_le y.1.1
    have hkl : k < l.length := by have := y.1.2 (by show (0 : Int) < (l.length : Int); omega); rw [hk] at this; exact Int.ofNat_lt.1 this
    have e1 : decide (Int.ofNat i < Int.ofNat l.length) = true := by rw [dec_lt]; exact decide_eq_true hi
    have e2 : decide ((k : Int) < Int.ofNat l.length) = true := decide_eq_true (by show (k : Int) < (l.length : Int); omega)
    have e3 : decide (0 ≤ (k : Int)) = true := decide_eq_true (by omega)
    simp only [hk, e1, e2, e3, dec_ge, Int.toNat_natCast, toNat_of, Nat.zero_add, enS_get true hi, enS_get true hkl, En.enc, List.getD_cons_zero, List.getD_cons_succ, D.num, Leaf.fit, set_up, enS_length, List.length_set, Bool.and_self, cond_true, wrap_succ (show i < 4611686018427387904 by omega), beq_self_eq_true]
    refine g_pre h2 ?_
    exact hf (i + 1, b0_l1Below d (Int.ofNat l.length), _) ⟨by show i + 1 ≤ _; rw [List.length_set, List.length_set]; exact hi, y.2, by rw [List.length_set, List.length_set]; exact h3⟩ (by show List.length (List.set _ _ _) - (i + 1) < l.length - i; rw [List.length_set, List.length_set]; omega)
  · have e1 : decide (Int.ofNat i < Int.ofNat l.length) = false := by rw [dec_lt]; exact decide_eq_false hi
    refine g_f e1 (g_eq (aX83_5 _ _ _ _ _ _) ?_)
    simp only [TL1Cur.eta, enS_length]
    have k1 := k_l1Below d 4 h2
    refine g_pre h2 (g_if (fun _ => ?_) (fun _ => g_if (fun _ => ?_) (fun _ => ?_)))
    · refine g_if (fun h => ?_) (fun h => ?_)
      · have h0 : 0 < l.length := by have := of_decide_eq_true h; exact Int.ofNat_lt.1 this
        refine g_pre (decide_eq_true (by show (0 : Int) < (l.length : Int); omega)) ?_
        rw [enS_get true h0]
        refine g_pre rfl (g_pre (decide_eq_true (by omega)) ?_)
        rw [snoc_up]
        refine leaf_l22DrawList _  ?_
        exact ⟨by rw [len_snoc]; omega, k1⟩
      · refine leaf_l22DrawList _  ?_
        exact ⟨by omega, k1⟩
    · refine g_if (fun h => ?_) (fun h => ?_)
      · have h0 : 0 < l.length := by have := of_decide_eq_true h; exact Int.ofNat_lt.1 this
        refine g_pre (by rw [decide_eq_true (show (1 : Int) ≤ Int.ofNat l.length by show (1 : Int) ≤ (l.length : Int); omega), decide_eq_true (Int.le_refl _)]; rfl) ?_
        rw [enS_drop, enS_take]
        refine leaf_l22DrawList _  ?_
        exact ⟨by rw [List.length_take, List.length_drop]; omega, k1⟩
      · refine leaf_l22DrawList _  ?_
        exact ⟨by omega, k1⟩
    · refine leaf_l22DrawList _  ?_
      exact ⟨by omega, k1⟩
theorem p_l22DrawList (c : TL1Cur) (hpre : (o83 c).1 = true) : (v0_l22DrawList c).length ≤ 8 ∧ curOk (b0_l22DrawList c) = true := (Classical.epsilon_spec (e_l22DrawList c hpre)).2
theorem k_l22DrawList (c : TL1Cur) (hpre : (curOk c) = true) : curOk (b0_l22DrawList c) = true := (p_l22DrawList c hpre).2
theorem m83 (c : TL1Cur) (hpre : (o83 c).1 = true) : evFn ⟨Go.Proofs.Try.prog, Hx, 83⟩ T80.call 20 f83 [[.sl false 1 c.b, .int .i64 c.i, .int .i64 c.h]] = some (o83 c).2 := (Classical.epsilon_spec (e_l22DrawList c hpre)).1
theorem s83 : SoundAt Go.Proofs.Try.prog Hx 83 c83 := soundAt_of T80_sound mixed func83 (by kernel_rfl) (by
  intro rows r h
  unfold c83 at h
  split at h
  · rename_i c_b c_i c_h
    obtain ⟨hp, hr⟩ := Prod.mk.inj (Option.some.inj h)
    subst hr
    exact ⟨_, m83 ⟨c_b, c_i, c_h⟩ hp⟩
  · cases h)
def T83 : Table := (83, c83) :: T80
theorem T83_sound : Table.Sound Go.Proofs.Try.prog Hx T83 := Table.sound_cons s83 T80_sound
end Go.Ev
namespace Go.Md
open Go Go.Ev
def P_DrawUpOk (code : List UInt8) (x : Up) : Prop := evFn ⟨Go.Proofs.Try.prog, Hx, 49⟩ T83.call (20 + code.length) f49 [[.sl false 1 (enS false code)]] = some ([[.int .i64 x.Seq, .int .i64 x.Addr, .int .i64 x.Vlan, .int .i64 x.Port]], []) ∧ (True)
noncomputable def w_DrawUpOk (code : List UInt8) : Up := @Classical.epsilon (Up) ⟨⟨0, 0, 0, 0⟩⟩ (P_DrawUpOk code)
noncomputable def v0_DrawUpOk (code : List UInt8) : Up := (w_DrawUpOk code)
end Go.Md
namespace Go.Ev
open Go.Md
def o49 (code : List UInt8) : Bool × List Row × List Row := (decide (code.length ≤ 1048576), [[.int .i64 (v0_DrawUpOk code).Seq, .int .i64 (v0_DrawUpOk code).Addr, .int .i64 (v0_DrawUpOk code).Vlan, .int .i64 (v0_DrawUpOk code).Port]], [])
def c49 : Contract
  | [[.sl false 1 code]] => some (isS UInt8 false code && (o49 (deS UInt8 code)).1, (o49 (deS UInt8 code)).2.1, (o49 (deS UInt8 code)).2.2)
  | _ => none

theorem r49 (code : List UInt8) (n : Nat) : evFn ⟨prog, Hx, 49⟩ T83.call n f49 [[.sl false 1 (enS false code)]] = bif isS UInt8 false (enS false code) && decide (length (deS UInt8 (enS false code)) ≤ 1048576) then bif isS Int true [[D.int i64 (0)], [D.int i64 (5)], [D.int i64 (100000)], [D.int i64 (100001)], [D.int i64 (Int.negSucc 0)]] && (curOk (v0_l1New (deS UInt8 (enS false code))) && (decide (0 < length (deS Int [[D.int i64 (0)], [D.int i64 (5)], [D.int i64 (100000)], [D.int i64 (100001)], [D.int i64 (Int.negSucc 0)]])) && decide (length (deS Int [[D.int i64 (0)], [D.int i64 (5)], [D.int i64 (100000)], [D.int i64 (100001)], [D.int i64 (Int.negSucc 0)]]) ≤ 1048576))) then bif curOk (b0_l1PickInt (v0_l1New (deS UInt8 (enS false code))) (deS Int [[D.int i64 (0)], [D.int i64 (5)], [D.int i64 (100000)], [D.int i64 (100001)], [D.int i64 (Int.negSucc 0)]])) then bif curOk (b0_l22DrawUp (b0_l1PickInt (v0_l1New (deS UInt8 (enS false code))) (deS Int [[D.int i64 (0)], [D.int i64 (5)], [D.int i64 (100000)], [D.int i64 (100001)], [D.int i64 (Int.negSucc 0)]])) (v0_l1PickInt (v0_l1New (deS UInt8 (enS false code))) (deS Int [[D.int i64 (0)], [D.int i64 (5)], [D.int i64 (100000)], [D.int i64 (100001)], [D.int i64 (Int.negSucc 0)]]))) then bif v0_l1Below (b0_l22DrawUp (b0_l1PickInt (v0_l1New (deS UInt8 (enS false code))) (deS Int [[D.int i64 (0)], [D.int i64 (5)], [D.int i64 (100000)], [D.int i64 (100001)], [D.int i64 (Int.negSucc 0)]])) (v0_l1PickInt (v0_l1New (deS UInt8 (enS false code))) (deS Int [[D.int i64 (0)], [D.int i64 (5)], [D.int i64 (100000)], [D.int i64 (100001)], [D.int i64 (Int.negSucc 0)]]))) (6) == 0 then bif isS Int true [[D.int i64 (0)], [D.int i64 (9)], [D.int i64 (10)]] && (curOk (b0_l1Below (b0_l22DrawUp (b0_l1PickInt (v0_l1New (deS UInt8 (enS false code))) (deS Int [[D.int i64 (0)], [D.int i64 (5)], [D.int i64 (100000)], [D.int i64 (100001)], [D.int i64 (Int.negSucc 0)]])) (v0_l1PickInt (v0_l1New (deS UInt8 (enS false code))) (deS Int [[D.int i64 (0)], [D.int i64 (5)], [D.int i64 (100000)], [D.int i64 (100001)], [D.int i64 (Int.negSucc 0)]]))) (6)) && (decide (0 < length (deS Int [[D.int i64 (0)], [D.int i64 (9)], [D.int i64 (10)]])) && decide (length (deS Int [[D.int i64 (0)], [D.int i64 (9)], [D.int i64 (10)]]) ≤ 1048576))) then some ([[D.int i64 (Up.Seq (v0_l22DrawUp (b0_l1PickInt (v0_l1New (deS UInt8 (enS false code))) (deS Int [[D.int i64 (0)], [D.int i64 (5)], [D.int i64 (100000)], [D.int i64 (100001)], [D.int i64 (Int.negSucc 0)]])) (v0_l1PickInt (v0_l1New (deS UInt8 (enS false code))) (deS Int [[D.int i64 (0)], [D.int i64 (5)], [D.int i64 (100000)], [D.int i64 (100001)], [D.int i64 (Int.negSucc 0)]])))), D.int i64 (v0_l1PickInt (b0_l1Below (b0_l22DrawUp (b0_l1PickInt (v0_l1New (deS UInt8 (enS false code))) (deS Int [[D.int i64 (0)], [D.int i64 (5)], [D.int i64 (100000)], [D.int i64 (100001)], [D.int i64 (Int.negSucc 0)]])) (v0_l1PickInt (v0_l1New (deS UInt8 (enS false code))) (deS Int [[D.int i64 (0)], [D.int i64 (5)], [D.int i64 (100000)], [D.int i64 (100001)], [D.int i64 (Int.negSucc 0)]]))) (6)) (deS Int [[D.int i64 (0)], [D.int i64 (9)], [D.int i64 (10)]])), D.int i64 (Up.Vlan (v0_l22DrawUp (b0_l1PickInt (v0_l1New (deS UInt8 (enS false code))) (deS Int [[D.int i64 (0)], [D.int i64 (5)], [D.int i64 (100000)], [D.int i64 (100001)], [D.int i64 (Int.negSucc 0)]])) (v0_l1PickInt (v0_l1New (deS UInt8 (enS false code))) (deS Int [[D.int i64 (0)], [D.int i64 (5)], [D.int i64 (100000)], [D.int i64 (100001)], [D.int i64 (Int.negSucc 0)]])))), D.int i64 (Up.Port (v0_l22DrawUp (b0_l1PickInt (v0_l1New (deS UInt8 (enS false code))) (deS Int [[D.int i64 (0)], [D.int i64 (5)], [D.int i64 (100000)], [D.int i64 (100001)], [D.int i64 (Int.negSucc 0)]])) (v0_l1PickInt (v0_l1New (deS UInt8 (enS false code))) (deS Int [[D.int i64 (0)], [D.int i64 (5)], [D.int i64 (100000)], [D.int i64 (100001)], [D.int i64 (Int.negSucc 0)]]))))]], []) else none else bif v0_l1Below (b0_l22DrawUp (b0_l1PickInt (v0_l1New (deS UInt8 (enS false code))) (deS Int [[D.int i64 (0)], [D.int i64 (5)], [D.int i64 (100000)], [D.int i64 (100001)], [D.int i64 (Int.negSucc 0)]])) (v0_l1PickInt (v0_l1New (deS UInt8 (enS false code))) (deS Int [[D.int i64 (0)], [D.int i64 (5)], [D.int i64 (100000)], [D.int i64 (100001)], [D.int i64 (Int.negSucc 0)]]))) (6) == 1 then bif isS Int true [[D.int i64 (Int.negSucc 0)], [D.int i64 (4)]] && (curOk (b0_l1Below (b0_l22DrawUp (b0_l1PickInt (v0_l1New (deS UInt8 (enS false code))) (deS Int [[D.int i64 (0)], [D.int i64 (5)], [D.int i64 (100000)], [D.int i64 (100001)], [D.int i64 (Int.negSucc 0)]])) (v0_l1PickInt (v0_l1New (deS UInt8 (enS false code))) (deS Int [[D.int i64 (0)], [D.int i64 (5)], [D.int i64 (100000)], [D.int i64 (100001)], [D.int i64 (Int.negSucc 0)]]))) (6)) && (decide (0 < length (deS Int [[D.int i64 (Int.negSucc 0)], [D.int i64 (4)]])) && decide (length (deS Int [[D.int i64 (Int.negSucc 0)], [D.int i64 (4)]]) ≤ 1048576))) then some ([[D.int i64 (Up.Seq (v0_l22DrawUp (b0_l1PickInt (v0_l1New (deS UInt8 (enS false code))) (deS Int [[D.int i64 (0)], [D.int i64 (5)], [D.int i64 (100000)], [D.int i64 (100001)], [D.int i64 (Int.negSucc 0)]])) (v0_l1PickInt (v0_l1New (deS UInt8 (enS false code))) (deS Int [[D.int i64 (0)], [D.int i64 (5)], [D.int i64 (100000)], [D.int i64 (100001)], [D.int i64 (Int.negSucc 0)]])))), D.int i64 (Up.Addr (v0_l22DrawUp (b0_l1PickInt (v0_l1New (deS UInt8 (enS false code))) (deS Int [[D.int i64 (0)], [D.int i64 (5)], [D.int i64 (100000)], [D.int i64 (100001)], [D.int i64 (Int.negSucc 0)]])) (v0_l1PickInt (v0_l1New (deS UInt8 (enS false code))) (deS Int [[D.int i64 (0)], [D.int i64 (5)], [D.int i64 (100000)], [D.int i64 (100001)], [D.int i64 (Int.negSucc 0)]])))), D.int i64 (Up.Vlan (v0_l22DrawUp (b0_l1PickInt (v0_l1New (deS UInt8 (enS false code))) (deS Int [[D.int i64 (0)], [D.int i64 (5)], [D.int i64 (100000)], [D.int i64 (100001)], [D.int i64 (Int.negSucc 0)]])) (v0_l1PickInt (v0_l1New (deS UInt8 (enS false code))) (deS Int [[D.int i64 (0)], [D.int i64 (5)], [D.int i64 (100000)], [D.int i64 (100001)], [D.int i64 (Int.negSucc 0)]])))), D.int i64 (v0_l1PickInt (b0_l1Below (b0_l22DrawUp (b0_l1PickInt (v0_l1New (deS UInt8 (enS false code))) (deS Int [[D.int i64 (0)], [D.int i64 (5)], [D.int i64 (100000)], [D.int i64 (100001)], [D.int i64 (Int.negSucc 0)]])) (v0_l1PickInt (v0_l1New (deS UInt8 (enS false code))) (deS Int [[D.int i64 (0)], [D.int i64 (5)], [D.int i64 (100000)], [D.int i64 (100001)], [D.int i64 (Int.negSucc 0)]]))) (6)) (deS Int [[D.int i64 (Int.negSucc 0)], [D.int i64 (4)]]))]], []) else none else some ([En.enc true (v0_l22DrawUp (b0_l1PickInt (v0_l1New (deS UInt8 (enS false code))) (deS Int [[D.int i64 (0)], [D.int i64 (5)], [D.int i64 (100000)], [D.int i64 (100001)], [D.int i64 (Int.negSucc 0)]])) (v0_l1PickInt (v0_l1New (deS UInt8 (enS false code))) (deS Int [[D.int i64 (0)], [D.int i64 (5)], [D.int i64 (100000)], [D.int i64 (100001)], [D.int i64 (Int.negSucc 0)]])))], []) else none else none else none else none := by kernel_rfl
def G_DrawUpOk (code : List UInt8) (r : Option (List Row × List Row)) : Prop := ∃ x : Up, r = some ([[.int .i64 x.Seq, .int .i64 x.Addr, .int .i64 x.Vlan, .int .i64 x.Port]], []) ∧ (True)
theorem leaf_DrawUpOk (code : List UInt8) {z0_Seq : Int} {z0_Addr : Int} {z0_Vlan : Int} {z0_Port : Int} (h : True) : G_DrawUpOk code (some ([[.int .i64 z0_Seq, .int .i64 z0_Addr, .int .i64 z0_Vlan, .int .i64 z0_Port]], [])) := ⟨⟨z0_Seq, z0_Addr, z0_Vlan, z0_Port⟩, rfl, h⟩
theorem e_DrawUpOk (code : List UInt8) (hpre : (o49 code).1 = true) : ∃ x, P_DrawUpOk code x := by
  show G_DrawUpOk code _
  refine Eq.mpr (congrArg (G_DrawUpOk code) (r49 code _)) ?_
  replace hpre : (decide (code.length ≤ 1048576)) = true := hpre
  simp only [isS_enS, deS_enS, Bool.true_and]
  have hc := p_l1New code hpre
  repeat' first | refine leaf_DrawUpOk _  ?_ | refine g_pre ?_ ?_ | refine g_if (fun _ => ?_) (fun _ => ?_)
  all_goals simp (maxDischargeDepth := 60) [TL1Cur.eta, isS_int_cons, isS_nil, deS, List.map_cons, List.map_nil, List.length_cons, List.length_nil, k_l1Byte, k_l1Below, k_l1Once, k_l1PickInt, k_l3DrawRight, k_l3Draw, k_l22DrawUp, k_l22DrawCopy, k_l22DrawList, hpre, hc, of_decide_eq_true hpre]
theorem p_DrawUpOk (code : List UInt8) (hpre : (o49 code).1 = true) : True := (Classical.epsilon_spec (e_DrawUpOk code hpre)).2
theorem m49 (code : List UInt8) (hpre : (o49 code).1 = true) : evFn ⟨Go.Proofs.Try.prog, Hx, 49⟩ T83.call (20 + code.length) f49 [[.sl false 1 (enS false code)]] = some (o49 code).2 := (Classical.epsilon_spec (e_DrawUpOk code hpre)).1
theorem s49 : SoundAt Go.Proofs.Try.prog Hx 49 c49 := soundAt_of T83_sound mixed func49 (by kernel_rfl) (by
  intro rows r h
  unfold c49 at h
  split at h
  · rename_i code
    obtain ⟨hp, hr⟩ := Prod.mk.inj (Option.some.inj h)
    subst hr
    simp only [Bool.and_eq_true] at hp
    obtain ⟨hs0, hp⟩ := hp
    obtain ⟨xs0, rfl⟩ := isS_ex hs0
    simp only [deS_enS] at hp ⊢
    exact ⟨_, m49 xs0 hp⟩
  · cases h)
def T49 : Table := (49, c49) :: T83
theorem T49_sound : Table.Sound Go.Proofs.Try.prog Hx T49 := Table.sound_cons s49 T83_sound
end Go.Ev
namespace Go.Md
open Go Go.Ev
def P_DrawCopyOk (code : List UInt8) (x : Copy) : Prop := evFn ⟨Go.Proofs.Try.prog, Hx, 50⟩ T49.call (20 + code.length) f50 [[.sl false 1 (enS false code)]] = some ([[.int .i64 x.Next, .sl true 4 (enS true x.Table)]], []) ∧ (x.Table.length ≤ 30)
noncomputable def w_DrawCopyOk (code : List UInt8) : Copy := @Classical.epsilon (Copy) ⟨⟨0, []⟩⟩ (P_DrawCopyOk code)
noncomputable def v0_DrawCopyOk (code : List UInt8) : Copy := (w_DrawCopyOk code)
end Go.Md
namespace Go.Ev
open Go.Md
def o50 (code : List UInt8) : Bool × List Row × List Row := (decide (code.length ≤ 1048576), [[.int .i64 (v0_DrawCopyOk code).Next, .sl true 4 (enS true (v0_DrawCopyOk code).Table)]], [])
def c50 : Contract
  | [[.sl false 1 code]] => some (isS UInt8 false code && (o50 (deS UInt8 code)).1, (o50 (deS UInt8 code)).2.1, (o50 (deS UInt8 code)).2.2)
  | _ => none

theorem r50 (code : List UInt8) (n : Nat) : evFn ⟨prog, Hx, 50⟩ T49.call n f50 [[.sl false 1 (enS false code)]] = bif isS UInt8 false (enS false code) && decide (length (deS UInt8 (enS false code)) ≤ 1048576) then bif curOk (v0_l1New (deS UInt8 (enS false code))) then some ([En.enc true (v0_l22DrawCopy (v0_l1New (deS UInt8 (enS false code))))], []) else none else none := by kernel_rfl
theorem l50_a (c : TL1Cur) (h : curOk c = true) : (v0_l22DrawCopy c).Table.length ≤ 30 := (p_l22DrawCopy c h).1
def G_DrawCopyOk (code : List UInt8) (r : Option (List Row × List Row)) : Prop := ∃ x : Copy, r = some ([[.int .i64 x.Next, .sl true 4 (enS true x.Table)]], []) ∧ (x.Table.length ≤ 30)
theorem leaf_DrawCopyOk (code : List UInt8) {z0_Next : Int} {z0_Table : List Heard} (h : (⟨z0_Next, z0_Table⟩ : Copy).Table.length ≤ 30) : G_DrawCopyOk code (some ([[.int .i64 z0_Next, .sl true 4 (enS true z0_Table)]], [])) := ⟨⟨z0_Next, z0_Table⟩, rfl, h⟩
theorem e_DrawCopyOk (code : List UInt8) (hpre : (o50 code).1 = true) : ∃ x, P_DrawCopyOk code x := by
  show G_DrawCopyOk code _
  refine Eq.mpr (congrArg (G_DrawCopyOk code) (r50 code _)) ?_
  replace hpre : (decide (code.length ≤ 1048576)) = true := hpre
  simp only [isS_enS, deS_enS, Bool.true_and]
  have hc := p_l1New code hpre
  repeat' first | refine leaf_DrawCopyOk _  ?_ | refine g_pre ?_ ?_ | refine g_if (fun _ => ?_) (fun _ => ?_)
  all_goals simp (maxDischargeDepth := 60) [TL1Cur.eta, isS_int_cons, isS_nil, deS, List.map_cons, List.map_nil, List.length_cons, List.length_nil, k_l1Byte, k_l1Below, k_l1Once, k_l1PickInt, k_l3DrawRight, k_l3Draw, k_l22DrawUp, k_l22DrawCopy, k_l22DrawList, hpre, hc, of_decide_eq_true hpre, l50_a]
theorem p_DrawCopyOk (code : List UInt8) (hpre : (o50 code).1 = true) : (v0_DrawCopyOk code).Table.length ≤ 30 := (Classical.epsilon_spec (e_DrawCopyOk code hpre)).2
theorem m50 (code : List UInt8) (hpre : (o50 code).1 = true) : evFn ⟨Go.Proofs.Try.prog, Hx, 50⟩ T49.call (20 + code.length) f50 [[.sl false 1 (enS false code)]] = some (o50 code).2 := (Classical.epsilon_spec (e_DrawCopyOk code hpre)).1
theorem s50 : SoundAt Go.Proofs.Try.prog Hx 50 c50 := soundAt_of T49_sound mixed func50 (by kernel_rfl) (by
  intro rows r h
  unfold c50 at h
  split at h
  · rename_i code
    obtain ⟨hp, hr⟩ := Prod.mk.inj (Option.some.inj h)
    subst hr
    simp only [Bool.and_eq_true] at hp
    obtain ⟨hs0, hp⟩ := hp
    obtain ⟨xs0, rfl⟩ := isS_ex hs0
    simp only [deS_enS] at hp ⊢
    exact ⟨_, m50 xs0 hp⟩
  · cases h)
def T50 : Table := (50, c50) :: T49
theorem T50_sound : Table.Sound Go.Proofs.Try.prog Hx T50 := Table.sound_cons s50 T49_sound
end Go.Ev
namespace Go.Md
open Go Go.Ev
def P_DrawFeed (code : List UInt8) (x : Copy × Up) : Prop := evFn ⟨Go.Proofs.Try.prog, Hx, 44⟩ T50.call (20 + code.length) f44 [[.sl false 1 (enS false code)]] = some ([[.int .i64 x.1.Next, .sl true 4 (enS true x.1.Table)], [.int .i64 x.2.Seq, .int .i64 x.2.Addr, .int .i64 x.2.Vlan, .int .i64 x.2.Port]], []) ∧ (x.1.Table.length ≤ 30)
noncomputable def w_DrawFeed (code : List UInt8) : Copy × Up := @Classical.epsilon (Copy × Up) ⟨(⟨0, []⟩, ⟨0, 0, 0, 0⟩)⟩ (P_DrawFeed code)
noncomputable def v0_DrawFeed (code : List UInt8) : Copy := (w_DrawFeed code).1
noncomputable def v1_DrawFeed (code : List UInt8) : Up := (w_DrawFeed code).2
end Go.Md
namespace Go.Ev
open Go.Md
def o44 (code : List UInt8) : Bool × List Row × List Row := (decide (code.length ≤ 1048576), [[.int .i64 (v0_DrawFeed code).Next, .sl true 4 (enS true (v0_DrawFeed code).Table)], [.int .i64 (v1_DrawFeed code).Seq, .int .i64 (v1_DrawFeed code).Addr, .int .i64 (v1_DrawFeed code).Vlan, .int .i64 (v1_DrawFeed code).Port]], [])
def c44 : Contract
  | [[.sl false 1 code]] => some (isS UInt8 false code && (o44 (deS UInt8 code)).1, (o44 (deS UInt8 code)).2.1, (o44 (deS UInt8 code)).2.2)
  | _ => none

theorem r44 (code : List UInt8) (n : Nat) : evFn ⟨prog, Hx, 44⟩ T50.call n f44 [[.sl false 1 (enS false code)]] = bif isS UInt8 false (enS false code) && decide (length (deS UInt8 (enS false code)) ≤ 1048576) then bif curOk (v0_l1New (deS UInt8 (enS false code))) then bif curOk (b0_l22DrawCopy (v0_l1New (deS UInt8 (enS false code)))) then bif curOk (b0_l22DrawUp (b0_l22DrawCopy (v0_l1New (deS UInt8 (enS false code)))) (Copy.Next (v0_l22DrawCopy (v0_l1New (deS UInt8 (enS false code)))))) then bif v0_l1Once (b0_l22DrawUp (b0_l22DrawCopy (v0_l1New (deS UInt8 (enS false code)))) (Copy.Next (v0_l22DrawCopy (v0_l1New (deS UInt8 (enS false code)))))) (4) then bif curOk (b0_l1Once (b0_l22DrawUp (b0_l22DrawCopy (v0_l1New (deS UInt8 (enS false code)))) (Copy.Next (v0_l22DrawCopy (v0_l1New (deS UInt8 (enS false code)))))) (4)) then some ([En.enc true (v0_l22DrawCopy (v0_l1New (deS UInt8 (enS false code)))), [D.int i64 (wrap i64 (v0_l1Below (b0_l1Once (b0_l22DrawUp (b0_l22DrawCopy (v0_l1New (deS UInt8 (enS false code)))) (Copy.Next (v0_l22DrawCopy (v0_l1New (deS UInt8 (enS false code)))))) (4)) (5) - 1)), D.int i64 (Up.Addr (v0_l22DrawUp (b0_l22DrawCopy (v0_l1New (deS UInt8 (enS false code)))) (Copy.Next (v0_l22DrawCopy (v0_l1New (deS UInt8 (enS false code))))))), D.int i64 (Up.Vlan (v0_l22DrawUp (b0_l22DrawCopy (v0_l1New (deS UInt8 (enS false code)))) (Copy.Next (v0_l22DrawCopy (v0_l1New (deS UInt8 (enS false code))))))), D.int i64 (Up.Port (v0_l22DrawUp (b0_l22DrawCopy (v0_l1New (deS UInt8 (enS false code)))) (Copy.Next (v0_l22DrawCopy (v0_l1New (deS UInt8 (enS false code)))))))]], []) else none else some ([En.enc true (v0_l22DrawCopy (v0_l1New (deS UInt8 (enS false code)))), En.enc true (v0_l22DrawUp (b0_l22DrawCopy (v0_l1New (deS UInt8 (enS false code)))) (Copy.Next (v0_l22DrawCopy (v0_l1New (deS UInt8 (enS false code))))))], []) else none else none else none else none := by kernel_rfl
theorem l44_a (c : TL1Cur) (h : curOk c = true) : (v0_l22DrawCopy c).Table.length ≤ 30 := (p_l22DrawCopy c h).1
def G_DrawFeed (code : List UInt8) (r : Option (List Row × List Row)) : Prop := ∃ x : Copy × Up, r = some ([[.int .i64 x.1.Next, .sl true 4 (enS true x.1.Table)], [.int .i64 x.2.Seq, .int .i64 x.2.Addr, .int .i64 x.2.Vlan, .int .i64 x.2.Port]], []) ∧ (x.1.Table.length ≤ 30)
theorem leaf_DrawFeed (code : List UInt8) {z0_Next : Int} {z0_Table : List Heard} {z1_Seq : Int} {z1_Addr : Int} {z1_Vlan : Int} {z1_Port : Int} (h : (⟨z0_Next, z0_Table⟩ : Copy).Table.length ≤ 30) : G_DrawFeed code (some ([[.int .i64 z0_Next, .sl true 4 (enS true z0_Table)], [.int .i64 z1_Seq, .int .i64 z1_Addr, .int .i64 z1_Vlan, .int .i64 z1_Port]], [])) := ⟨(⟨z0_Next, z0_Table⟩, ⟨z1_Seq, z1_Addr, z1_Vlan, z1_Port⟩), rfl, h⟩
theorem e_DrawFeed (code : List UInt8) (hpre : (o44 code).1 = true) : ∃ x, P_DrawFeed code x := by
  show G_DrawFeed code _
  refine Eq.mpr (congrArg (G_DrawFeed code) (r44 code _)) ?_
  replace hpre : (decide (code.length ≤ 1048576)) = true := hpre
  simp only [isS_enS, deS_enS, Bool.true_and]
  have hc := p_l1New code hpre
  repeat' first | refine leaf_DrawFeed _  ?_ | refine g_pre ?_ ?_ | refine g_if (fun _ => ?_) (fun _ => ?_)
  all_goals simp (maxDischargeDepth := 60) [TL1Cur.eta, isS_int_cons, isS_nil, deS, List.map_cons, List.map_nil, List.length_cons, List.length_nil, k_l1Byte, k_l1Below, k_l1Once, k_l1PickInt, k_l3DrawRight, k_l3Draw, k_l22DrawUp, k_l22DrawCopy, k_l22DrawList, hpre, hc, of_decide_eq_true hpre, l44_a]
theorem p_DrawFeed (code : List UInt8) (hpre : (o44 code).1 = true) : (v0_DrawFeed code).Table.length ≤ 30 := (Classical.epsilon_spec (e_DrawFeed code hpre)).2
theorem m44 (code : List UInt8) (hpre : (o44 code).1 = true) : evFn ⟨Go.Proofs.Try.prog, Hx, 44⟩ T50.call (20 + code.length) f44 [[.sl false 1 (enS false code)]] = some (o44 code).2 := (Classical.epsilon_spec (e_DrawFeed code hpre)).1
theorem s44 : SoundAt Go.Proofs.Try.prog Hx 44 c44 := soundAt_of T50_sound mixed func44 (by kernel_rfl) (by
  intro rows r h
  unfold c44 at h
  split at h
  · rename_i code
    obtain ⟨hp, hr⟩ := Prod.mk.inj (Option.some.inj h)
    subst hr
    simp only [Bool.and_eq_true] at hp
    obtain ⟨hs0, hp⟩ := hp
    obtain ⟨xs0, rfl⟩ := isS_ex hs0
    simp only [deS_enS] at hp ⊢
    exact ⟨_, m44 xs0 hp⟩
  · cases h)
def T44 : Table := (44, c44) :: T50
theorem T44_sound : Table.Sound Go.Proofs.Try.prog Hx T44 := Table.sound_cons s44 T50_sound
end Go.Ev
namespace Go.Md
open Go Go.Ev
def P_DrawFeedAll (code : List UInt8) (x : Copy × (List Up)) : Prop := evFn ⟨Go.Proofs.Try.prog, Hx, 46⟩ T44.call (20 + code.length) f46 [[.sl false 1 (enS false code)]] = some ([[.int .i64 x.1.Next, .sl true 4 (enS true x.1.Table)], [.sl true 4 (enS true x.2)]], []) ∧ (x.1.Table.length ≤ 30 ∧ x.2.length ≤ 8)
noncomputable def w_DrawFeedAll (code : List UInt8) : Copy × (List Up) := @Classical.epsilon (Copy × (List Up)) ⟨(⟨0, []⟩, [])⟩ (P_DrawFeedAll code)
noncomputable def v0_DrawFeedAll (code : List UInt8) : Copy := (w_DrawFeedAll code).1
noncomputable def v1_DrawFeedAll (code : List UInt8) : List Up := (w_DrawFeedAll code).2
end Go.Md
namespace Go.Ev
open Go.Md
def o46 (code : List UInt8) : Bool × List Row × List Row := (decide (code.length ≤ 1048576), [[.int .i64 (v0_DrawFeedAll code).Next, .sl true 4 (enS true (v0_DrawFeedAll code).Table)], [.sl true 4 (enS true (v1_DrawFeedAll code))]], [])
def c46 : Contract
  | [[.sl false 1 code]] => some (isS UInt8 false code && (o46 (deS UInt8 code)).1, (o46 (deS UInt8 code)).2.1, (o46 (deS UInt8 code)).2.2)
  | _ => none

theorem r46 (code : List UInt8) (n : Nat) : evFn ⟨prog, Hx, 46⟩ T44.call n f46 [[.sl false 1 (enS false code)]] = bif isS UInt8 false (enS false code) && decide (length (deS UInt8 (enS false code)) ≤ 1048576) then bif curOk (v0_l1New (deS UInt8 (enS false code))) then bif curOk (b0_l22DrawCopy (v0_l1New (deS UInt8 (enS false code)))) then some ([En.enc true (v0_l22DrawCopy (v0_l1New (deS UInt8 (enS false code)))), [D.sl true 4 (enS true (v0_l22DrawList (b0_l22DrawCopy (v0_l1New (deS UInt8 (enS false code))))))]], []) else none else none else none := by kernel_rfl
theorem l46_a (c : TL1Cur) (h : curOk c = true) : (v0_l22DrawCopy c).Table.length ≤ 30 := (p_l22DrawCopy c h).1
theorem l46_b (c : TL1Cur) (h : curOk c = true) : (v0_l22DrawList c).length ≤ 8 := (p_l22DrawList c h).1
def G_DrawFeedAll (code : List UInt8) (r : Option (List Row × List Row)) : Prop := ∃ x : Copy × (List Up), r = some ([[.int .i64 x.1.Next, .sl true 4 (enS true x.1.Table)], [.sl true 4 (enS true x.2)]], []) ∧ (x.1.Table.length ≤ 30 ∧ x.2.length ≤ 8)
theorem leaf_DrawFeedAll (code : List UInt8) {z0_Next : Int} {z0_Table : List Heard} {z1 : List Up} (h : (⟨z0_Next, z0_Table⟩ : Copy).Table.length ≤ 30 ∧ (z1 : List Up).length ≤ 8) : G_DrawFeedAll code (some ([[.int .i64 z0_Next, .sl true 4 (enS true z0_Table)], [.sl true 4 (enS true z1)]], [])) := ⟨(⟨z0_Next, z0_Table⟩, z1), rfl, h⟩
theorem e_DrawFeedAll (code : List UInt8) (hpre : (o46 code).1 = true) : ∃ x, P_DrawFeedAll code x := by
  show G_DrawFeedAll code _
  refine Eq.mpr (congrArg (G_DrawFeedAll code) (r46 code _)) ?_
  replace hpre : (decide (code.length ≤ 1048576)) = true := hpre
  simp only [isS_enS, deS_enS, Bool.true_and]
  have hc := p_l1New code hpre
  repeat' first | refine leaf_DrawFeedAll _  ?_ | refine g_pre ?_ ?_ | refine g_if (fun _ => ?_) (fun _ => ?_)
  all_goals simp (maxDischargeDepth := 60) [TL1Cur.eta, isS_int_cons, isS_nil, deS, List.map_cons, List.map_nil, List.length_cons, List.length_nil, k_l1Byte, k_l1Below, k_l1Once, k_l1PickInt, k_l3DrawRight, k_l3Draw, k_l22DrawUp, k_l22DrawCopy, k_l22DrawList, hpre, hc, of_decide_eq_true hpre, l46_a, l46_b]
theorem p_DrawFeedAll (code : List UInt8) (hpre : (o46 code).1 = true) : (v0_DrawFeedAll code).Table.length ≤ 30 ∧ (v1_DrawFeedAll code).length ≤ 8 := (Classical.epsilon_spec (e_DrawFeedAll code hpre)).2
theorem m46 (code : List UInt8) (hpre : (o46 code).1 = true) : evFn ⟨Go.Proofs.Try.prog, Hx, 46⟩ T44.call (20 + code.length) f46 [[.sl false 1 (enS false code)]] = some (o46 code).2 := (Classical.epsilon_spec (e_DrawFeedAll code hpre)).1
theorem s46 : SoundAt Go.Proofs.Try.prog Hx 46 c46 := soundAt_of T44_sound mixed func46 (by kernel_rfl) (by
  intro rows r h
  unfold c46 at h
  split at h
  · rename_i code
    obtain ⟨hp, hr⟩ := Prod.mk.inj (Option.some.inj h)
    subst hr
    simp only [Bool.and_eq_true] at hp
    obtain ⟨hs0, hp⟩ := hp
    obtain ⟨xs0, rfl⟩ := isS_ex hs0
    simp only [deS_enS] at hp ⊢
    exact ⟨_, m46 xs0 hp⟩
  · cases h)
def T46 : Table := (46, c46) :: T44
theorem T46_sound : Table.Sound Go.Proofs.Try.prog Hx T46 := Table.sound_cons s46 T44_sound
end Go.Ev
namespace Go.Md
open Go Go.Ev
def P_DrawLacks (code : List UInt8) (x : Copy × Int) : Prop := evFn ⟨Go.Proofs.Try.prog, Hx, 48⟩ T46.call (20 + code.length) f48 [[.sl false 1 (enS false code)]] = some ([[.int .i64 x.1.Next, .sl true 4 (enS true x.1.Table)], [.int .i64 x.2]], []) ∧ (x.1.Table.length ≤ 30)
noncomputable def w_DrawLacks (code : List UInt8) : Copy × Int := @Classical.epsilon (Copy × Int) ⟨(⟨0, []⟩, 0)⟩ (P_DrawLacks code)
noncomputable def v0_DrawLacks (code : List UInt8) : Copy := (w_DrawLacks code).1
noncomputable def v1_DrawLacks (code : List UInt8) : Int := (w_DrawLacks code).2
end Go.Md
namespace Go.Ev
open Go.Md
def o48 (code : List UInt8) : Bool × List Row × List Row := (decide (code.length ≤ 1048576), [[.int .i64 (v0_DrawLacks code).Next, .sl true 4 (enS true (v0_DrawLacks code).Table)], [.int .i64 (v1_DrawLacks code)]], [])
def c48 : Contract
  | [[.sl false 1 code]] => some (isS UInt8 false code && (o48 (deS UInt8 code)).1, (o48 (deS UInt8 code)).2.1, (o48 (deS UInt8 code)).2.2)
  | _ => none

theorem r48 (code : List UInt8) (n : Nat) : evFn ⟨prog, Hx, 48⟩ T46.call n f48 [[.sl false 1 (enS false code)]] = bif isS UInt8 false (enS false code) && decide (length (deS UInt8 (enS false code)) ≤ 1048576) then bif curOk (v0_l1New (deS UInt8 (enS false code))) then bif isS Int true [[D.int i64 (0)], [D.int i64 (3)], [D.int i64 (5)], [D.int i64 (50)], [D.int i64 (100000)], [D.int i64 (Int.negSucc 0)], [D.int i64 (9223372036854775807)]] && (curOk (b0_l22DrawCopy (v0_l1New (deS UInt8 (enS false code)))) && (decide (0 < length (deS Int [[D.int i64 (0)], [D.int i64 (3)], [D.int i64 (5)], [D.int i64 (50)], [D.int i64 (100000)], [D.int i64 (Int.negSucc 0)], [D.int i64 (9223372036854775807)]])) && decide (length (deS Int [[D.int i64 (0)], [D.int i64 (3)], [D.int i64 (5)], [D.int i64 (50)], [D.int i64 (100000)], [D.int i64 (Int.negSucc 0)], [D.int i64 (9223372036854775807)]]) ≤ 1048576))) then some ([En.enc true (v0_l22DrawCopy (v0_l1New (deS UInt8 (enS false code)))), [D.int i64 (v0_l1PickInt (b0_l22DrawCopy (v0_l1New (deS UInt8 (enS false code)))) (deS Int [[D.int i64 (0)], [D.int i64 (3)], [D.int i64 (5)], [D.int i64 (50)], [D.int i64 (100000)], [D.int i64 (Int.negSucc 0)], [D.int i64 (9223372036854775807)]]))]], []) else none else none else none := by kernel_rfl
theorem l48_a (c : TL1Cur) (h : curOk c = true) : (v0_l22DrawCopy c).Table.length ≤ 30 := (p_l22DrawCopy c h).1
def G_DrawLacks (code : List UInt8) (r : Option (List Row × List Row)) : Prop := ∃ x : Copy × Int, r = some ([[.int .i64 x.1.Next, .sl true 4 (enS true x.1.Table)], [.int .i64 x.2]], []) ∧ (x.1.Table.length ≤ 30)
theorem leaf_DrawLacks (code : List UInt8) {z0_Next : Int} {z0_Table : List Heard} {z1 : Int} (h : (⟨z0_Next, z0_Table⟩ : Copy).Table.length ≤ 30) : G_DrawLacks code (some ([[.int .i64 z0_Next, .sl true 4 (enS true z0_Table)], [.int .i64 z1]], [])) := ⟨(⟨z0_Next, z0_Table⟩, z1), rfl, h⟩
theorem e_DrawLacks (code : List UInt8) (hpre : (o48 code).1 = true) : ∃ x, P_DrawLacks code x := by
  show G_DrawLacks code _
  refine Eq.mpr (congrArg (G_DrawLacks code) (r48 code _)) ?_
  replace hpre : (decide (code.length ≤ 1048576)) = true := hpre
  simp only [isS_enS, deS_enS, Bool.true_and]
  have hc := p_l1New code hpre
  repeat' first | refine leaf_DrawLacks _  ?_ | refine g_pre ?_ ?_ | refine g_if (fun _ => ?_) (fun _ => ?_)
  all_goals simp (maxDischargeDepth := 60) [TL1Cur.eta, isS_int_cons, isS_nil, deS, List.map_cons, List.map_nil, List.length_cons, List.length_nil, k_l1Byte, k_l1Below, k_l1Once, k_l1PickInt, k_l3DrawRight, k_l3Draw, k_l22DrawUp, k_l22DrawCopy, k_l22DrawList, hpre, hc, of_decide_eq_true hpre, l48_a]
theorem p_DrawLacks (code : List UInt8) (hpre : (o48 code).1 = true) : (v0_DrawLacks code).Table.length ≤ 30 := (Classical.epsilon_spec (e_DrawLacks code hpre)).2
theorem m48 (code : List UInt8) (hpre : (o48 code).1 = true) : evFn ⟨Go.Proofs.Try.prog, Hx, 48⟩ T46.call (20 + code.length) f48 [[.sl false 1 (enS false code)]] = some (o48 code).2 := (Classical.epsilon_spec (e_DrawLacks code hpre)).1
theorem s48 : SoundAt Go.Proofs.Try.prog Hx 48 c48 := soundAt_of T46_sound mixed func48 (by kernel_rfl) (by
  intro rows r h
  unfold c48 at h
  split at h
  · rename_i code
    obtain ⟨hp, hr⟩ := Prod.mk.inj (Option.some.inj h)
    subst hr
    simp only [Bool.and_eq_true] at hp
    obtain ⟨hs0, hp⟩ := hp
    obtain ⟨xs0, rfl⟩ := isS_ex hs0
    simp only [deS_enS] at hp ⊢
    exact ⟨_, m48 xs0 hp⟩
  · cases h)
def T48 : Table := (48, c48) :: T46
theorem T48_sound : Table.Sound Go.Proofs.Try.prog Hx T48 := Table.sound_cons s48 T46_sound
end Go.Ev
namespace Go.Md
open Go Go.Ev
def P_DrawTold2 (code : List UInt8) (x : (List Up) × Int) : Prop := evFn ⟨Go.Proofs.Try.prog, Hx, 23⟩ T48.call (20 + code.length) f23 [[.sl false 1 (enS false code)]] = some ([[.sl true 4 (enS true x.1)], [.int .i64 x.2]], []) ∧ (x.1.length ≤ 9 ∧ ∃ (U : Nat → Up) (n : Nat), (n ≤ 8 ∧ x.2 = (n : Int)) ∧ Ups U n ∧ fromU U n x.1 ∧ (∀ i, i < n → U i ∈ x.1))
noncomputable def w_DrawTold2 (code : List UInt8) : (List Up) × Int := @Classical.epsilon ((List Up) × Int) ⟨([], 0)⟩ (P_DrawTold2 code)
noncomputable def v0_DrawTold2 (code : List UInt8) : List Up := (w_DrawTold2 code).1
noncomputable def v1_DrawTold2 (code : List UInt8) : Int := (w_DrawTold2 code).2
end Go.Md
namespace Go.Ev
open Go.Md
def o23 (code : List UInt8) : Bool × List Row × List Row := (decide (code.length ≤ 1048576), [[.sl true 4 (enS true (v0_DrawTold2 code))], [.int .i64 (v1_DrawTold2 code)]], [])
def c23 : Contract
  | [[.sl false 1 code]] => some (isS UInt8 false code && (o23 (deS UInt8 code)).1, (o23 (deS UInt8 code)).2.1, (o23 (deS UInt8 code)).2.2)
  | _ => none

def k23_0 (n : Nat) : Ex → St → RR := kThen (fun st ↦ runCode (Ctx.mk prog Hx (23)) (Table.call T48) n (codeAt [1, 1, 1, 1, 1] (bodyOf f23)) (Lv.mk 12 [] 12) st (kLeave (Ctx.P (Ctx.mk prog Hx (23))) (List.zip (Array.toList (Go.Func.resultTypes f23)) (Array.toList (Go.Func.results f23))) [] [])) (kLeave (Ctx.P (Ctx.mk prog Hx (23))) (List.zip (Array.toList (Go.Func.resultTypes f23)) (Array.toList (Go.Func.results f23))) [] [])
def k23_1 (n : Nat) : Ex → St → RR := kBlock (0) (k23_0 n)
def S23_0 (code : List UInt8) (i0 : Int) (es1 : List (List D)) (i2 : Int) (i3 : Int) (es4 : List (List D)) : St := St.mk [U_, U_, U_, U_, V_ [C.ptr 0 0 0 [] 3 0 0], I_ (wrap i64 (1 + v0_l1Below (v0_l1New (deS UInt8 (enS false code))) (8))), V_ [C.view 2 0 0 [] 4 none], I_ i0, U_, U_, U_, U_, U_, U_, U_, U_, U_, U_, U_, U_, U_, U_, U_, U_, U_, U_, U_, U_, U_, U_, U_, U_, U_, U_, U_, U_, U_, U_, U_, U_, U_, U_, U_, U_, U_, U_, U_, U_, U_, U_, U_, U_, U_, U_, U_, U_, U_, U_, U_, U_, U_] [Root.mk true 3 [[D.sl false 1 es1, D.int i64 i2, D.int i64 i3]] 0 0 true true false, Root.mk false 4 [] 0 0 false true false, Root.mk false 4 es4 0 0 true true false]
def B23_0 (n : Nat) : St → (Ex → St → RR) → RR := runCode (Ctx.mk prog Hx (23)) (Table.call T48) n (codeAt [1, 1, 1, 1, 0, 1, 0, 0] (bodyOf f23)) (Lv.mk 240 [(0, 112)] 12)
def X23_2 (code : List UInt8) (i0 : Int) (es1 : List (List D)) (i2 : Int) (i3 : Int) (es4 : List (List D)) : St := St.mk [U_, U_, U_, U_, V_ [C.ptr 0 0 0 [] 3 0 0], I_ (wrap i64 (1 + v0_l1Below (v0_l1New (deS UInt8 (enS false code))) (8))), V_ [C.view 2 0 0 [] 4 none], I_ i0, U_, U_, U_, U_, U_, U_, U_, U_, U_, I_ i0, I_ (wrap i64 (1 + v0_l1Below (v0_l1New (deS UInt8 (enS false code))) (8))), B_ false, U_, U_, U_, U_, U_, U_, U_, U_, U_, U_, U_, U_, U_, U_, U_, U_, U_, U_, U_, U_, U_, U_, U_, U_, U_, U_, U_, U_, U_, U_, U_, U_, U_, U_, U_, U_, U_, U_, U_, U_, U_] [Root.mk true 3 [[D.sl false 1 es1, D.int i64 i2, D.int i64 i3]] 0 0 true true false, Root.mk false 4 [] 0 0 false true false, Root.mk false 4 es4 0 0 true true false]
theorem q23_0 (code : List UInt8) (n : Nat) (i0 : Int) (es1 : List (List D)) (i2 : Int) (i3 : Int) (es4 : List (List D)) (f : St → RR) (K : Ex → St → RR) : B23_0 n (S23_0 code i0 es1 i2 i3 es4) (kThen (fun st ↦ f (St.head 2 240 268304576 st)) K) = bif decide (i0 < wrap i64 (1 + v0_l1Below (v0_l1New (deS UInt8 (enS false code))) (8))) then bif curOk (TL1Cur.mk es1 i2 i3) then bif decide ((length es4 + 1) * 32 ≤ 140737488355328) then f (S23_0 code (wrap i64 (i0 + 1)) (TL1Cur.b (b0_l22DrawUp (TL1Cur.mk es1 i2 i3) i0)) (TL1Cur.i (b0_l22DrawUp (TL1Cur.mk es1 i2 i3) i0)) (TL1Cur.h (b0_l22DrawUp (TL1Cur.mk es1 i2 i3) i0)) (append es4 [En.enc true (v0_l22DrawUp (TL1Cur.mk es1 i2 i3) i0)])) else none else none else K (Ex.exit 0) (X23_2 code i0 es1 i2 i3 es4) := by kernel_rfl
def k23_3 (n : Nat) : Ex → St → RR := kThen (fun st ↦ runCode (Ctx.mk prog Hx (23)) (Table.call T48) n (codeAt [1, 1, 1, 1, 1, 1] (bodyOf f23)) (Lv.mk 12 [] 12) st (kLeave (Ctx.P (Ctx.mk prog Hx (23))) (List.zip (Array.toList (Go.Func.resultTypes f23)) (Array.toList (Go.Func.results f23))) [] [])) (kLeave (Ctx.P (Ctx.mk prog Hx (23))) (List.zip (Array.toList (Go.Func.resultTypes f23)) (Array.toList (Go.Func.results f23))) [] [])
def k23_4 (n : Nat) : Ex → St → RR := kBlock (2) (k23_3 n)
def S23_1 (code : List UInt8) (i0_ : Int) (es1_ : List (List D)) (i2_ : Int) (i3_ : Int) (es4_ : List (List D)) : St := St.mk [U_, U_, U_, U_, V_ [C.ptr 0 0 0 [] 3 0 0], I_ (wrap i64 (1 + v0_l1Below (v0_l1New (deS UInt8 (enS false code))) (8))), V_ [C.view 2 0 0 [] 4 none], U_, I_ i0_, U_, U_, U_, U_, U_, U_, U_, U_, U_, U_, U_, U_, U_, U_, U_, U_, U_, U_, U_, U_, U_, U_, U_, U_, U_, U_, U_, U_, U_, U_, U_, U_, U_, U_, U_, U_, U_, U_, U_, U_, U_, U_, U_, U_, U_, U_, U_, U_, U_, U_, U_, U_] [Root.mk true 3 [[D.sl false 1 es1_, D.int i64 i2_, D.int i64 i3_]] 0 0 true true false, Root.mk false 4 [] 0 0 false true false, Root.mk false 4 es4_ 0 0 true true false]
def B23_1 (n : Nat) : St → (Ex → St → RR) → RR := runCode (Ctx.mk prog Hx (23)) (Table.call T48) n (codeAt [1, 1, 1, 1, 1, 0, 1, 0, 0] (bodyOf f23)) (Lv.mk 368 [(2, 112)] 12)
def X23_5 (code : List UInt8) (i0_ : Int) (es1_ : List (List D)) (i2_ : Int) (i3_ : Int) (es4_ : List (List D)) : St := St.mk [U_, U_, U_, U_, V_ [C.ptr 0 0 0 [] 3 0 0], I_ (wrap i64 (1 + v0_l1Below (v0_l1New (deS UInt8 (enS false code))) (8))), V_ [C.view 2 0 0 [] 4 none], U_, I_ i0_, U_, U_, U_, U_, U_, U_, U_, U_, U_, U_, U_, U_, U_, U_, U_, U_, U_, U_, U_, I_ i0_, I_ (wrap i64 (1 + v0_l1Below (v0_l1New (deS UInt8 (enS false code))) (8))), B_ false, U_, U_, U_, U_, U_, U_, U_, U_, U_, U_, U_, U_, U_, U_, U_, U_, U_, U_, U_, U_, U_, U_, U_, U_, U_, U_, U_, U_, U_, U_] [Root.mk true 3 [[D.sl false 1 es1_, D.int i64 i2_, D.int i64 i3_]] 0 0 true true false, Root.mk false 4 [] 0 0 false true false, Root.mk false 4 es4_ 0 0 true true false]
def w23_6 (code : List UInt8) (i0_ : Int) (es1_ : List (List D)) (i2_ : Int) (i3_ : Int) (es4_ : List (List D)) : List (List D) := set es4_ (0 + toNat i0_) [D.int i64 (D.num (getD (getD es4_ (0 + toNat (v0_l1Below (TL1Cur.mk es1_ i2_ i3_) (wrap i64 (1 + v0_l1Below (v0_l1New (deS UInt8 (enS false code))) (8))))) []) 0 D.dead)), D.int i64 (D.num (getD (getD es4_ (0 + toNat (v0_l1Below (TL1Cur.mk es1_ i2_ i3_) (wrap i64 (1 + v0_l1Below (v0_l1New (deS UInt8 (enS false code))) (8))))) []) 1 D.dead)), D.int i64 (D.num (getD (getD es4_ (0 + toNat (v0_l1Below (TL1Cur.mk es1_ i2_ i3_) (wrap i64 (1 + v0_l1Below (v0_l1New (deS UInt8 (enS false code))) (8))))) []) 2 D.dead)), D.int i64 (D.num (getD (getD es4_ (0 + toNat (v0_l1Below (TL1Cur.mk es1_ i2_ i3_) (wrap i64 (1 + v0_l1Below (v0_l1New (deS UInt8 (enS false code))) (8))))) []) 3 D.dead))]
theorem q23_1 (code : List UInt8) (n : Nat) (i0_ : Int) (es1_ : List (List D)) (i2_ : Int) (i3_ : Int) (es4_ : List (List D)) (f : St → RR) (K : Ex → St → RR) : B23_1 n (S23_1 code i0_ es1_ i2_ i3_ es4_) (kThen (fun st ↦ f (St.head 3 368 2251799545251584 st)) K) = bif decide (i0_ < wrap i64 (1 + v0_l1Below (v0_l1New (deS UInt8 (enS false code))) (8))) then bif curOk (TL1Cur.mk es1_ i2_ i3_) then bif decide (0 ≤ i0_) && decide (i0_ < ofNat (length es4_)) then bif Leaf.fit true (Leaf.int i64) (getD (getD es4_ (0 + toNat i0_) []) 0 D.dead) && (Leaf.fit true (Leaf.int i64) (getD (getD es4_ (0 + toNat i0_) []) 1 D.dead) && (Leaf.fit true (Leaf.int i64) (getD (getD es4_ (0 + toNat i0_) []) 2 D.dead) && (Leaf.fit true (Leaf.int i64) (getD (getD es4_ (0 + toNat i0_) []) 3 D.dead) && true))) then bif decide (0 ≤ v0_l1Below (TL1Cur.mk es1_ i2_ i3_) (wrap i64 (1 + v0_l1Below (v0_l1New (deS UInt8 (enS false code))) (8)))) && decide (v0_l1Below (TL1Cur.mk es1_ i2_ i3_) (wrap i64 (1 + v0_l1Below (v0_l1New (deS UInt8 (enS false code))) (8))) < ofNat (length es4_)) then bif Leaf.fit true (Leaf.int i64) (getD (getD es4_ (0 + toNat (v0_l1Below (TL1Cur.mk es1_ i2_ i3_) (wrap i64 (1 + v0_l1Below (v0_l1New (deS UInt8 (enS false code))) (8))))) []) 0 D.dead) && (Leaf.fit true (Leaf.int i64) (getD (getD es4_ (0 + toNat (v0_l1Below (TL1Cur.mk es1_ i2_ i3_) (wrap i64 (1 + v0_l1Below (v0_l1New (deS UInt8 (enS false code))) (8))))) []) 1 D.dead) && (Leaf.fit true (Leaf.int i64) (getD (getD es4_ (0 + toNat (v0_l1Below (TL1Cur.mk es1_ i2_ i3_) (wrap i64 (1 + v0_l1Below (v0_l1New (deS UInt8 (enS false code))) (8))))) []) 2 D.dead) && (Leaf.fit true (Leaf.int i64) (getD (getD es4_ (0 + toNat (v0_l1Below (TL1Cur.mk es1_ i2_ i3_) (wrap i64 (1 + v0_l1Below (v0_l1New (deS UInt8 (enS false code))) (8))))) []) 3 D.dead) && true))) then bif decide (0 ≤ i0_) && decide (i0_ < ofNat (length es4_)) then bif decide (0 ≤ v0_l1Below (TL1Cur.mk es1_ i2_ i3_) (wrap i64 (1 + v0_l1Below (v0_l1New (deS UInt8 (enS false code))) (8)))) && decide (v0_l1Below (TL1Cur.mk es1_ i2_ i3_) (wrap i64 (1 + v0_l1Below (v0_l1New (deS UInt8 (enS false code))) (8))) < ofNat (length (w23_6 code i0_ es1_ i2_ i3_ es4_))) then f (S23_1 code (wrap i64 (i0_ + 1)) (TL1Cur.b (b0_l1Below (TL1Cur.mk es1_ i2_ i3_) (wrap i64 (1 + v0_l1Below (v0_l1New (deS UInt8 (enS false code))) (8))))) (TL1Cur.i (b0_l1Below (TL1Cur.mk es1_ i2_ i3_) (wrap i64 (1 + v0_l1Below (v0_l1New (deS UInt8 (enS false code))) (8))))) (TL1Cur.h (b0_l1Below (TL1Cur.mk es1_ i2_ i3_) (wrap i64 (1 + v0_l1Below (v0_l1New (deS UInt8 (enS false code))) (8))))) (set (w23_6 code i0_ es1_ i2_ i3_ es4_) (0 + toNat (v0_l1Below (TL1Cur.mk es1_ i2_ i3_) (wrap i64 (1 + v0_l1Below (v0_l1New (deS UInt8 (enS false code))) (8))))) [D.int i64 (D.num (getD (getD es4_ (0 + toNat i0_) []) 0 D.dead)), D.int i64 (D.num (getD (getD es4_ (0 + toNat i0_) []) 1 D.dead)), D.int i64 (D.num (getD (getD es4_ (0 + toNat i0_) []) 2 D.dead)), D.int i64 (D.num (getD (getD es4_ (0 + toNat i0_) []) 3 D.dead))])) else none else none else none else none else none else none else none else K (Ex.exit 2) (X23_5 code i0_ es1_ i2_ i3_ es4_) := by kernel_rfl
theorem aX23_5 (code : List UInt8) (n : Nat) (i0_ : Int) (es1_ : List (List D)) (i2_ : Int) (i3_ : Int) (es4_ : List (List D)) : k23_4 n (Ex.exit 2) (X23_5 code i0_ es1_ i2_ i3_ es4_) = bif curOk (TL1Cur.mk es1_ i2_ i3_) then bif decide (0 ≤ v0_l1Below (TL1Cur.mk es1_ i2_ i3_) (wrap i64 (1 + v0_l1Below (v0_l1New (deS UInt8 (enS false code))) (8)))) && decide (v0_l1Below (TL1Cur.mk es1_ i2_ i3_) (wrap i64 (1 + v0_l1Below (v0_l1New (deS UInt8 (enS false code))) (8))) < ofNat (length es4_)) then bif Leaf.fit true (Leaf.int i64) (getD (getD es4_ (0 + toNat (v0_l1Below (TL1Cur.mk es1_ i2_ i3_) (wrap i64 (1 + v0_l1Below (v0_l1New (deS UInt8 (enS false code))) (8))))) []) 0 D.dead) && (Leaf.fit true (Leaf.int i64) (getD (getD es4_ (0 + toNat (v0_l1Below (TL1Cur.mk es1_ i2_ i3_) (wrap i64 (1 + v0_l1Below (v0_l1New (deS UInt8 (enS false code))) (8))))) []) 1 D.dead) && (Leaf.fit true (Leaf.int i64) (getD (getD es4_ (0 + toNat (v0_l1Below (TL1Cur.mk es1_ i2_ i3_) (wrap i64 (1 + v0_l1Below (v0_l1New (deS UInt8 (enS false code))) (8))))) []) 2 D.dead) && (Leaf.fit true (Leaf.int i64) (getD (getD es4_ (0 + toNat (v0_l1Below (TL1Cur.mk es1_ i2_ i3_) (wrap i64 (1 + v0_l1Below (v0_l1New (deS UInt8 (enS false code))) (8))))) []) 3 D.dead) && true))) then bif decide ((length es4_ + 1) * 32 ≤ 140737488355328) then some ([[D.sl true 4 (append es4_ [[D.int i64 (D.num (getD (getD es4_ (0 + toNat (v0_l1Below (TL1Cur.mk es1_ i2_ i3_) (wrap i64 (1 + v0_l1Below (v0_l1New (deS UInt8 (enS false code))) (8))))) []) 0 D.dead)), D.int i64 (D.num (getD (getD es4_ (0 + toNat (v0_l1Below (TL1Cur.mk es1_ i2_ i3_) (wrap i64 (1 + v0_l1Below (v0_l1New (deS UInt8 (enS false code))) (8))))) []) 1 D.dead)), D.int i64 (D.num (getD (getD es4_ (0 + toNat (v0_l1Below (TL1Cur.mk es1_ i2_ i3_) (wrap i64 (1 + v0_l1Below (v0_l1New (deS UInt8 (enS false code))) (8))))) []) 2 D.dead)), D.int i64 (D.num (getD (getD es4_ (0 + toNat (v0_l1Below (TL1Cur.mk es1_ i2_ i3_) (wrap i64 (1 + v0_l1Below (v0_l1New (deS UInt8 (enS false code))) (8))))) []) 3 D.dead))]])], [D.int i64 (wrap i64 (1 + v0_l1Below (v0_l1New (deS UInt8 (enS false code))) (8)))]], []) else none else none else none else none := by kernel_rfl
theorem aX23_2 (code : List UInt8) (n : Nat) (i0 : Int) (es1 : List (List D)) (i2 : Int) (i3 : Int) (es4 : List (List D)) : k23_1 n (Ex.exit 0) (X23_2 code i0 es1 i2 i3 es4) = loopRun (B23_1 n) 3 368 2251799545251584 n (S23_1 code (0) es1 i2 i3 es4) (k23_4 n) := by kernel_rfl
theorem r23 (code : List UInt8) (n : Nat) : evFn ⟨prog, Hx, 23⟩ T48.call n f23 [[.sl false 1 (enS false code)]] = bif isS UInt8 false (enS false code) && decide (length (deS UInt8 (enS false code)) ≤ 1048576) then bif curOk (v0_l1New (deS UInt8 (enS false code))) then loopRun (B23_0 n) 2 240 268304576 n (S23_0 code (0) (TL1Cur.b (b0_l1Below (v0_l1New (deS UInt8 (enS false code))) (8))) (TL1Cur.i (b0_l1Below (v0_l1New (deS UInt8 (enS false code))) (8))) (TL1Cur.h (b0_l1Below (v0_l1New (deS UInt8 (enS false code))) (8))) []) (k23_1 n) else none else none := by kernel_rfl
def G_DrawTold2 (code : List UInt8) (r : Option (List Row × List Row)) : Prop := ∃ x : (List Up) × Int, r = some ([[.sl true 4 (enS true x.1)], [.int .i64 x.2]], []) ∧ (x.1.length ≤ 9 ∧ ∃ (U : Nat → Up) (n : Nat), (n ≤ 8 ∧ x.2 = (n : Int)) ∧ Ups U n ∧ fromU U n x.1 ∧ (∀ i, i < n → U i ∈ x.1))
theorem leaf_DrawTold2 (code : List UInt8) {z0 : List Up} {z1 : Int} (h : (z0 : List Up).length ≤ 9 ∧ ∃ (U : Nat → Up) (n : Nat), (n ≤ 8 ∧ (z1 : Int) = (n : Int)) ∧ Ups U n ∧ fromU U n (z0 : List Up) ∧ (∀ i, i < n → U i ∈ (z0 : List Up))) : G_DrawTold2 code (some ([[.sl true 4 (enS true z0)], [.int .i64 z1]], [])) := ⟨(z0, z1), rfl, h⟩
theorem e_DrawTold2 (code : List UInt8) (hpre : (o23 code).1 = true) : ∃ x, P_DrawTold2 code x := by
  show G_DrawTold2 code _
  refine Eq.mpr (congrArg (G_DrawTold2 code) (r23 code _)) ?_
  replace hpre : (decide (code.length ≤ 1048576)) = true := hpre
  simp only [isS_enS, deS_enS, Bool.true_and]
  have hc := p_l1New code hpre
  have x := p_l1Below (v0_l1New code) 8 hc
  have hn : ∃ n : Nat, IntKind.wrap IntKind.i64 (1 + v0_l1Below (v0_l1New code) 8) = (n : Int) ∧ 1 ≤ n ∧ n ≤ 8 := by
    have x1 := x.1.1; have x2 := x.1.2 (by omega)
    refine ⟨(1 + v0_l1Below (v0_l1New code) 8).toNat, ?_, by omega, by omega⟩
    rw [wrap_sm (by omega) (by omega)]
    omega
  obtain ⟨n, hn, hn1, hn8⟩ := hn
  refine g_pre hpre (g_pre hc ?_)
  refine g_loop (V := Nat × TL1Cur × List Up) (fun v => S23_0 code (Int.ofNat v.1) v.2.1.b v.2.1.i v.2.1.h (enS true v.2.2)) (fun v => v.1 ≤ n ∧ curOk v.2.1 = true ∧ v.2.2.length = v.1 ∧ (∀ j (h : j < v.2.2.length), v.2.2[j].Seq = (j : Int) ∧ upOk v.2.2[j] = true)) (fun v => n - v.1) ?_ (20 + code.length) (0, _, []) ⟨Nat.zero_le _, x.2, rfl, fun j h => absurd h (Nat.not_lt_zero j)⟩ (by show n - 0 < 20 + code.length; omega)
  rintro ⟨i, d, l⟩ ⟨h1, h2, h3, h4⟩ f hf
  simp only at h1 h2 h3 h4
  refine g_eq (q23_0 code _ _ _ _ _ _ f _) ?_
  simp only [TL1Cur.eta, deS_enS, hn]
  refine g_if (fun h => ?_) (fun h => ?_)
  · have hi : i < n := by
      have h5 := of_decide_eq_true h
      have h6 : (i : Int) < (n : Int) := h5
      omega
    refine g_pre h2 (g_pre (by rw [enS_length]; exact decide_eq_true (by omega)) ?_)
    rw [wrap_succ (by omega), snoc_upE]
    have hp := p_l22DrawUp d (Int.ofNat i) h2
    refine hf (i + 1, b0_l22DrawUp d _, l ++ [_]) ⟨hi, k_l22DrawUp d _ h2, by rw [len_snoc, h3], ?_⟩ (by show n - (i + 1) < n - i; omega)
    intro j hj
    try simp only
    rw [List.getElem_append]
    split
    · exact h4 j _
    · have hj2 : j = i := by
        simp only at hj
        rw [len_snoc] at hj
        omega
      subst hj2
      simp only [List.getElem_singleton]
      refine ⟨hp.1.1, hp.1.2 ?_⟩
      unfold inR
      rw [decide_eq_true (show Int.ofNat j ≥ 0 from Int.natCast_nonneg j), decide_eq_true (show Int.ofNat j ≤ 100000 by show (j : Int) ≤ 100000; omega)]
      rfl
  have hin : i = n := by
    have h5 := of_decide_eq_false h
    have h6 : ¬ (i : Int) < (n : Int) := h5
    omega
  have hU : ∃ U : Nat → Up, Ups U n ∧ fromU U n l ∧ (∀ j, j < n → U j ∈ l) := by
    refine ⟨fun j => l.getD j ⟨0, 0, 0, 0⟩, ⟨by omega, ?_, ?_⟩, ?_, ?_⟩
    · intro j hj
      have hj2 : j < l.length := by omega
      rw [List.getD_eq_getElem?_getD, List.getElem?_eq_getElem hj2]
      exact (h4 j hj2).2
    · intro j hj
      have hj2 : j < l.length := by omega
      try simp only
      rw [List.getD_eq_getElem?_getD, List.getElem?_eq_getElem hj2]
      exact (h4 j hj2).1
    · intro u hu
      obtain ⟨j, hj, he⟩ := List.getElem_of_mem hu
      refine ⟨j, by omega, ?_⟩
      try simp only
      rw [List.getD_eq_getElem?_getD, List.getElem?_eq_getElem hj]
      exact he.symm
    · intro j hj
      have hj2 : j < l.length := by omega
      try simp only
      rw [List.getD_eq_getElem?_getD, List.getElem?_eq_getElem hj2]
      exact List.getElem_mem hj2
  obtain ⟨U, hU1, hU2, hU3⟩ := hU
  refine g_eq (aX23_2 code _ _ _ _ _ _) ?_
  refine g_loop (V := Nat × TL1Cur × List Up) (fun v => S23_1 code (Int.ofNat v.1) v.2.1.b v.2.1.i v.2.1.h (enS true v.2.2)) (fun v => v.1 ≤ n ∧ curOk v.2.1 = true ∧ v.2.2.length = n ∧ fromU U n v.2.2 ∧ (∀ j, j < n → U j ∈ v.2.2)) (fun v => n - v.1) ?_ (20 + code.length) (0, d, l) ⟨Nat.zero_le _, h2, by show l.length = n; omega, hU2, hU3⟩ (by show n - 0 < 20 + code.length; omega)
  clear hf h h1 h3 h2 h4 hU2 hU3
  rintro ⟨i, d, l⟩ ⟨h1, h2, h3, h4, h5⟩ f hf
  simp only at h1 h2 h3 h4 h5
  refine g_eq (q23_1 code _ _ _ _ _ _ f _) ?_
  simp only [TL1Cur.eta, w23_6, enS_length, deS_enS, hn]
  have y := p_l1Below d (n : Int) h2
  obtain ⟨k, hk⟩ := Int.eq_ofNat_of_zero_le y.1.1
  have hkl : k < l.length := by have := y.1.2 (by omega); rw [hk] at this; have := Int.ofNat_lt.1 this; omega
  have e2 : decide ((k : Int) < Int.ofNat l.length) = true := decide_eq_true (by show (k : Int) < (l.length : Int); omega)
  have e3 : decide (0 ≤ (k : Int)) = true := decide_eq_true (by omega)
  by_cases hi : i < n
  · have hil : i < l.length := by omega
    have e1 : decide (Int.ofNat i < Int.ofNat l.length) = true := by rw [dec_lt]; exact decide_eq_true hil
    have e4 : decide (Int.ofNat i < (n : Int)) = true := decide_eq_true (by show (i : Int) < (n : Int); omega)
    simp only [hk, e1, e2, e3, e4, dec_ge, Int.toNat_natCast, toNat_of, Nat.zero_add, enS_get true hil, enS_get true hkl, En.enc, List.getD_cons_zero, List.getD_cons_succ, D.num, Leaf.fit, set_up, enS_length, List.length_set, Bool.and_self, cond_true, wrap_succ (show i < 4611686018427387904 by omega), beq_self_eq_true]
    refine g_pre h2 ?_
    have hperm := List.set_set_perm hil hkl
    exact hf (i + 1, b0_l1Below d (n : Int), _) ⟨hi, y.2, by show List.length (List.set _ _ _) = n; rw [List.length_set, List.length_set]; exact h3, fun u hu => h4 u (hperm.mem_iff.1 hu), fun j hj => hperm.mem_iff.2 (h5 j hj)⟩ (by show n - (i + 1) < n - i; omega)
  · have e4 : decide (Int.ofNat i < (n : Int)) = false := decide_eq_false (by show ¬ (i : Int) < (n : Int); omega)
    refine g_f e4 (g_eq (aX23_5 code _ _ _ _ _ _) ?_)
    simp only [TL1Cur.eta, enS_length, deS_enS, hn]
    simp only [hk, e2, e3, Int.toNat_natCast, Nat.zero_add, enS_get true hkl, En.enc, List.getD_cons_zero, List.getD_cons_succ, D.num, Leaf.fit, Bool.and_self, cond_true, beq_self_eq_true]
    refine g_pre h2 (g_pre rfl (g_pre (decide_eq_true (by omega)) ?_))
    rw [snoc_up]
    refine leaf_DrawTold2 _  ?_
    refine ⟨by rw [len_snoc]; omega, U, n, ⟨hn8, rfl⟩, hU1, ?_, fun j hj => List.mem_append_left _ (h5 j hj)⟩
    intro u hu
    rcases List.mem_append.1 hu with h6 | h6
    · exact h4 u h6
    · rw [List.mem_singleton.1 h6]
      exact h4 _ (List.getElem_mem hkl)
theorem p_DrawTold2 (code : List UInt8) (hpre : (o23 code).1 = true) : (v0_DrawTold2 code).length ≤ 9 ∧ ∃ (U : Nat → Up) (n : Nat), (n ≤ 8 ∧ (v1_DrawTold2 code) = (n : Int)) ∧ Ups U n ∧ fromU U n (v0_DrawTold2 code) ∧ (∀ i, i < n → U i ∈ (v0_DrawTold2 code)) := (Classical.epsilon_spec (e_DrawTold2 code hpre)).2
theorem m23 (code : List UInt8) (hpre : (o23 code).1 = true) : evFn ⟨Go.Proofs.Try.prog, Hx, 23⟩ T48.call (20 + code.length) f23 [[.sl false 1 (enS false code)]] = some (o23 code).2 := (Classical.epsilon_spec (e_DrawTold2 code hpre)).1
theorem s23 : SoundAt Go.Proofs.Try.prog Hx 23 c23 := soundAt_of T48_sound mixed func23 (by kernel_rfl) (by
  intro rows r h
  unfold c23 at h
  split at h
  · rename_i code
    obtain ⟨hp, hr⟩ := Prod.mk.inj (Option.some.inj h)
    subst hr
    simp only [Bool.and_eq_true] at hp
    obtain ⟨hs0, hp⟩ := hp
    obtain ⟨xs0, rfl⟩ := isS_ex hs0
    simp only [deS_enS] at hp ⊢
    exact ⟨_, m23 xs0 hp⟩
  · cases h)
def T23 : Table := (23, c23) :: T48
theorem T23_sound : Table.Sound Go.Proofs.Try.prog Hx T23 := Table.sound_cons s23 T48_sound
end Go.Ev
end
