/- Contracts of functions, each by its evaluation. -/
import Derived.Test.YtihhlajibgoemaaEvMd
import Derived.Test.YtihhlajibgoemaaProg
import Derived.KernelRfl
import Derived.Test.YtihhlajibgoemaaFTab
set_option linter.unusedVariables false
set_option linter.unusedSimpArgs false
set_option maxRecDepth 100000
noncomputable section
open List (getD length drop take set append replicate all isEmpty)
open Int (toNat ofNat)
open Go.IntKind (i64 wrap)
open Go.Proofs.Try (prog f17 f22 func17 func22)
namespace Go.Ev
open Go.RowKit Go.Md
end Go.Ev
namespace Go.Md
open Go Go.Ev
def noPort : Port := ⟨false, false, ⟨0, 0, 0, 0⟩, 0, 0, 0, 0, false⟩
def memL : Option Int → List Int → Bool
  | _, [] => true
  | p, n :: ns => inR n 1 4 && ((match p with | none => true | some q => decide (q < n)) && memL (some n) ns)
def hasI (l : List Int) (n : Int) : Bool := l.any (fun x => x == n)
def memberOk (m : Member) : Bool := memL none m.In && (inR m.Own 1 4 && hasI m.In m.Own)
def cardOk (c : Card) : Bool := c.Members.all memberOk && (inR (c.Open.length : Int) 1 4 && (decide (c.Members.length = c.Open.length) && tableOk c.Table))
def opnAt (b : Bridge) (i : Nat) : Bool := i == 3 || (b.Ports.getD i noPort).Open
def opensL (b : Bridge) : List Bool := [opnAt b 0, opnAt b 1, opnAt b 2, true]
def cardB (b : Bridge) : Card := ⟨opensL b, [⟨1, [1]⟩, ⟨1, [1]⟩, ⟨1, [1]⟩, ⟨1, [1]⟩], []⟩
def idxI (v : Int) : Int → List Int → Int
  | _, [] => -1
  | k, x :: xs => bif v == x then k else idxI v (k + 1) xs
theorem idxI_cons (v x : Int) (k : Int) (xs : List Int) : idxI v k (x :: xs) = bif v == x then k else idxI v (k + 1) xs := by simp only [idxI]
theorem beq_sym (x y : Int) : (x == y) = (y == x) := by
  rw [Bool.eq_iff_iff, beq_iff_eq, beq_iff_eq]
  exact eq_comm
theorem idxI_ge (v : Int) : ∀ (xs : List Int) (k : Int), 0 ≤ k → decide (idxI v k xs ≥ 0) = hasI xs v
  | [], k, h => rfl
  | x :: xs, k, h => by
    unfold hasI
    rw [idxI_cons, List.any_cons, beq_sym v x]
    cases x == v
    · simp only [cond_false, Bool.false_or]
      exact idxI_ge v xs (k + 1) (by omega)
    · simp only [cond_true, Bool.true_or]
      exact decide_eq_true h
def prevI (l : List Int) : Nat → Option Int
  | 0 => none
  | i + 1 => l[i]?
theorem memL_cons (p : Option Int) (n : Int) (ns : List Int) : memL p (n :: ns) = (inR n 1 4 && ((match p with | none => true | some q => decide (q < n)) && memL (some n) ns)) := by simp only [memL]
theorem card_small {c : Card} (h : Card.small c = true) : c.Open.length ≤ 1048576 ∧ c.Members.length ≤ 1048576 ∧ (∀ m ∈ c.Members, m.In.length ≤ 1048576) ∧ c.Table.length ≤ 1048576 := by
  unfold Card.small at h
  simp only [Bool.and_eq_true, decide_eq_true_eq, List.all_eq_true] at h
  obtain ⟨⟨h1, h2, h3⟩, h4⟩ := h
  refine ⟨h1, h2, fun m hm => ?_, h4⟩
  have := h3 m hm
  unfold Member.small at this
  exact of_decide_eq_true this
theorem fab_small {f : Fabric} (h : Fabric.small f = true) : Net.small f.Net = true ∧ f.Cards.length ≤ 1048576 ∧ ∀ c ∈ f.Cards, Card.small c = true := by
  unfold Fabric.small at h
  simp only [Bool.and_eq_true, decide_eq_true_eq, List.all_eq_true] at h
  exact h
theorem ge_not' (a b : Int) : decide (a ≥ b) = !decide (a < b) := by
  by_cases h : a < b
  · rw [decide_eq_true h, decide_eq_false (by omega)]; rfl
  · rw [decide_eq_false h, decide_eq_true (by omega)]; rfl
theorem nat_beq (a b : Nat) : (Int.ofNat a == Int.ofNat b) = decide (a = b) := by
  rw [Bool.eq_iff_iff]
  simp
  omega
def opF (b : Bridge) (i : Nat) : Bool := (b.Ports.getD i noPort).Open
def opT (b : Bridge) : List Bool := [opF b 0, opF b 1, opF b 2, opF b 3]
def opP : List Bool := [false, false, false, false]
theorem opF_at {b : Bridge} {i : Nat} (h : i < b.Ports.length) : opF b i = b.Ports[i].Open := by
  unfold opF
  rw [List.getD_eq_getElem?_getD, List.getElem?_eq_getElem h]
  rfl
theorem opF_out {b : Bridge} {i : Nat} (h : b.Ports.length ≤ i) : opF b i = false := by
  unfold opF
  rw [List.getD_eq_getElem?_getD, List.getElem?_eq_none h]
  rfl
theorem opT_get (b : Bridge) : ∀ i (h : i < (opT b).length), (opT b)[i] = opF b i
  | 0, _ => rfl
  | 1, _ => rfl
  | 2, _ => rfl
  | 3, _ => rfl
  | n + 4, h => absurd h (by show ¬ (n + 4 < 4); omega)
theorem opT_end {b : Bridge} : ∀ k, b.Ports.length = k → k ≤ 4 → (opT b).take k ++ opP.drop k = opT b
  | 0, h, _ => by
    show opP = opT b
    unfold opT opP
    rw [opF_out (i := 0) (by omega), opF_out (i := 1) (by omega), opF_out (i := 2) (by omega), opF_out (i := 3) (by omega)]
  | 1, h, _ => by
    show [opF b 0, false, false, false] = opT b
    unfold opT
    rw [opF_out (i := 1) (by omega), opF_out (i := 2) (by omega), opF_out (i := 3) (by omega)]
  | 2, h, _ => by
    show [opF b 0, opF b 1, false, false] = opT b
    unfold opT
    rw [opF_out (i := 2) (by omega), opF_out (i := 3) (by omega)]
  | 3, h, _ => by
    show [opF b 0, opF b 1, opF b 2, false] = opT b
    unfold opT
    rw [opF_out (i := 3) (by omega)]
  | 4, _, _ => rfl
  | n + 5, _, h => absurd h (by omega)
theorem opT_set (b : Bridge) : (opT b).set 3 true = opensL b := rfl
theorem opens_get (b : Bridge) : ∀ i (h : i < (opensL b).length), i < 3 → (opensL b)[i] = opF b i
  | 0, _, _ => rfl
  | 1, _, _ => rfl
  | 2, _, _ => rfl
  | n + 3, _, h => absurd h (by omega)
theorem mixS {α : Type} {T P : List α} {i : Nat} {x : α} (hl : T.length = P.length) (hi : i < P.length) (hx : T[i]'(by omega) = x) : (T.take i ++ P.drop i).set i x = T.take (i + 1) ++ P.drop (i + 1) := by
  rw [List.drop_eq_getElem_cons hi, mid_set (T.take i) P[i] x (P.drop (i + 1)) (by rw [List.length_take]; omega), ← hx, List.take_append_getElem]
theorem mixL {α : Type} {T P : List α} (h : T.length = P.length) (i : Nat) : (T.take i ++ P.drop i).length = P.length := by
  rw [List.length_append, List.length_take, List.length_drop]
  omega
end Go.Md
namespace Go.Ev
open Go.Md
def o22 (b : Bridge) : Bool × List Row × List Row := (decide (b.Ports.length ≤ 4), [[.sl true 1 (enS true (opensL b))]], [])
def c22 : Contract
  | [[.int .i64 b_Id, .sl false 11 b_Ports]] => some (isS Port false b_Ports && (o22 ⟨b_Id, (deS Port b_Ports)⟩).1, (o22 ⟨b_Id, (deS Port b_Ports)⟩).2.1, (o22 ⟨b_Id, (deS Port b_Ports)⟩).2.2)
  | _ => none

def k22_0 (n : Nat) : Ex → St → RR := kThen (fun st ↦ runCode (Ctx.mk prog Hx (22)) (Table.call T8) n (codeAt [1, 1, 1] (bodyOf f22)) (Lv.mk 4 [] 4) st (kLeave (Ctx.P (Ctx.mk prog Hx (22))) (List.zip (Array.toList (Go.Func.resultTypes f22)) (Array.toList (Go.Func.results f22))) [] [])) (kLeave (Ctx.P (Ctx.mk prog Hx (22))) (List.zip (Array.toList (Go.Func.resultTypes f22)) (Array.toList (Go.Func.results f22))) [] [])
def k22_1 (n : Nat) : Ex → St → RR := kBlock (0) (k22_0 n)
def S22_0 (b : Bridge) (i0 : Int) (es1 : List (List D)) : St := St.mk [U_, U_, U_, V_ [C.view 1 0 0 [] 1 none], U_, U_, U_, U_, V_ [C.d (D.sl false 11 (enS false (Bridge.Ports b)))], I_ (ofNat (length (enS false (Bridge.Ports b)))), I_ i0, U_, U_, U_, U_, U_, U_, U_, U_, U_, U_, U_, U_, U_] [Root.mk true 2 [En.enc false b] 0 0 true true false, Root.mk false 1 es1 0 0 true true false]
def B22_0 (n : Nat) : St → (Ex → St → RR) → RR := runCode (Ctx.mk prog Hx (22)) (Table.call T8) n (codeAt [1, 1, 0, 1, 0, 0] (bodyOf f22)) (Lv.mk 1800 [(0, 8)] 4)
def X22_2 (b : Bridge) (i0 : Int) (es1 : List (List D)) : St := St.mk [U_, U_, U_, V_ [C.view 1 0 0 [] 1 none], U_, U_, U_, U_, V_ [C.d (D.sl false 11 (enS false (Bridge.Ports b)))], I_ (ofNat (length (enS false (Bridge.Ports b)))), I_ i0, B_ false, U_, U_, U_, U_, U_, U_, U_, U_, U_, U_, U_, U_] [Root.mk true 2 [En.enc false b] 0 0 true true false, Root.mk false 1 es1 0 0 true true false]
theorem q22_0 (b : Bridge) (n : Nat) (i0 : Int) (es1 : List (List D)) (f : St → RR) (K : Ex → St → RR) : B22_0 n (S22_0 b i0 es1) (kThen (fun st ↦ f (St.head 2 1800 2096176 st)) K) = bif decide (i0 < ofNat (length (enS false (Bridge.Ports b)))) then bif decide (0 ≤ i0) && decide (i0 < ofNat (length (enS false (Bridge.Ports b)))) then bif Leaf.fit false Leaf.bool (getD (getD (enS false (Bridge.Ports b)) (toNat i0) []) 0 D.dead) && (Leaf.fit false Leaf.bool (getD (getD (enS false (Bridge.Ports b)) (toNat i0) []) 1 D.dead) && (Leaf.fit false (Leaf.int i64) (getD (getD (enS false (Bridge.Ports b)) (toNat i0) []) 2 D.dead) && (Leaf.fit false (Leaf.int i64) (getD (getD (enS false (Bridge.Ports b)) (toNat i0) []) 3 D.dead) && (Leaf.fit false (Leaf.int i64) (getD (getD (enS false (Bridge.Ports b)) (toNat i0) []) 4 D.dead) && (Leaf.fit false (Leaf.int i64) (getD (getD (enS false (Bridge.Ports b)) (toNat i0) []) 5 D.dead) && (Leaf.fit false (Leaf.int i64) (getD (getD (enS false (Bridge.Ports b)) (toNat i0) []) 6 D.dead) && (Leaf.fit false (Leaf.int i64) (getD (getD (enS false (Bridge.Ports b)) (toNat i0) []) 7 D.dead) && (Leaf.fit false (Leaf.int i64) (getD (getD (enS false (Bridge.Ports b)) (toNat i0) []) 8 D.dead) && (Leaf.fit false (Leaf.int i64) (getD (getD (enS false (Bridge.Ports b)) (toNat i0) []) 9 D.dead) && (Leaf.fit false Leaf.bool (getD (getD (enS false (Bridge.Ports b)) (toNat i0) []) 10 D.dead) && true)))))))))) then bif decide (0 ≤ i0) && decide (i0 < ofNat (length es1)) then f (S22_0 b (wrap i64 (i0 + 1)) (set es1 (0 + toNat i0) [D.bool (D.flag (getD (getD (enS false (Bridge.Ports b)) (toNat i0) []) 10 D.dead))])) else none else none else none else K (Ex.exit 0) (X22_2 b i0 es1) := by kernel_rfl
theorem aX22_2 (b : Bridge) (n : Nat) (i0 : Int) (es1 : List (List D)) : k22_1 n (Ex.exit 0) (X22_2 b i0 es1) = bif decide (3 < ofNat (length es1)) then some ([[D.sl true 1 (set es1 3 [D.bool true])]], []) else none := by kernel_rfl
theorem r22 (b : Bridge) (n : Nat) : evFn ⟨prog, Hx, 22⟩ T8.call n f22 [[.int .i64 b.Id, .sl false 11 (enS false b.Ports)]] = loopRun (B22_0 n) 2 1800 2096176 n (S22_0 b (0) [[D.bool false], [D.bool false], [D.bool false], [D.bool false]]) (k22_1 n) := by kernel_rfl
theorem m22 (b : Bridge) (hpre : (o22 b).1 = true) : evFn ⟨Go.Proofs.Try.prog, Hx, 22⟩ T8.call 6 f22 [[.int .i64 b.Id, .sl false 11 (enS false b.Ports)]] = some (o22 b).2 := by
  refine (r22 b _).trans ?_
  show _ = (some ([[.sl true 1 (enS true (opensL b))]], []) : Option (List Row × List Row))
  replace hpre : (decide (b.Ports.length ≤ 4)) = true := hpre
  have h4 : b.Ports.length ≤ 4 := of_decide_eq_true hpre
  have hT : (opT b).length = opP.length := rfl
  refine loop_rule (V := Nat) (fun i => S22_0 b (Int.ofNat i) (enS true ((opT b).take i ++ opP.drop i))) (fun i => i ≤ b.Ports.length) (fun i => b.Ports.length - i) (fun _ => some ([[D.sl true 1 (enS true (opensL b))]], [])) ?_ 6 0 (Nat.zero_le _) (by omega)
  intro i hil f hf
  have hyl : ((opT b).take i ++ opP.drop i).length = 4 := mixL hT i
  refine (q22_0 b _ _ _ f _).trans ?_
  by_cases hi : i < b.Ports.length
  · have hi4 : i < 4 := by omega
    refine bif_t (in_lt false hi) (bif_t (by rw [in_lt false hi, dec_ge]; rfl) (bif_t (by rw [toNat_of, enS_get false hi]; rfl) (bif_t (by rw [enS_length, hyl, dec_ge]; exact decide_eq_true (show (i : Int) < 4 by omega)) ?_)))
    rw [toNat_of, Nat.zero_add, enS_get false hi, wrap_succ (show i < 4611686018427387904 by omega)]
    refine (congrArg f (congrArg (S22_0 b _) ((enS_set true _ i b.Ports[i].Open).trans (congrArg (enS true) (mixS hT hi4 ((opT_get b i hi4).trans (opF_at hi))))))).trans ?_
    exact hf (i + 1) hi (by omega)
  · obtain rfl : i = b.Ports.length := by omega
    refine bif_f (end_lt false b.Ports) ?_
    refine (aX22_2 b _ _ _).trans ?_
    rw [opT_end _ rfl h4]
    refine bif_t rfl ?_
    exact congrArg (fun z => (some ([[D.sl true 1 z]], []) : RR)) ((enS_set true (opT b) 3 true).trans (congrArg (enS true) (opT_set b)))
theorem s22 : SoundAt Go.Proofs.Try.prog Hx 22 c22 := soundAt_of T8_sound mixed func22 (by kernel_rfl) (by
  intro rows r h
  unfold c22 at h
  split at h
  · rename_i b_Id b_Ports
    obtain ⟨hp, hr⟩ := Prod.mk.inj (Option.some.inj h)
    subst hr
    simp only [Bool.and_eq_true] at hp
    obtain ⟨hs0, hp⟩ := hp
    obtain ⟨xs0, rfl⟩ := isS_ex hs0
    simp only [deS_enS] at hp ⊢
    exact ⟨_, m22 ⟨b_Id, xs0⟩ hp⟩
  · cases h)
def T22 : Table := (22, c22) :: T8
theorem T22_sound : Table.Sound Go.Proofs.Try.prog Hx T22 := Table.sound_cons s22 T8_sound
def o17 (b : Bridge) : Bool × List Row × List Row := (decide (b.Ports.length ≤ 1048576), [[.sl true 1 (enS true (cardB b).Open), .sl true 2 (enS true (cardB b).Members), .sl true 4 (enS true (cardB b).Table)]], [])
def c17 : Contract
  | [[.int .i64 b_Id, .sl false 11 b_Ports]] => some (isS Port false b_Ports && (o17 ⟨b_Id, (deS Port b_Ports)⟩).1, (o17 ⟨b_Id, (deS Port b_Ports)⟩).2.1, (o17 ⟨b_Id, (deS Port b_Ports)⟩).2.2)
  | _ => none

def k17_0 (n : Nat) : Ex → St → RR := kThen (fun st ↦ runCode (Ctx.mk prog Hx (17)) (Table.call T22) n (codeAt [1, 1, 1] (bodyOf f17)) (Lv.mk 4 [] 4) st (kLeave (Ctx.P (Ctx.mk prog Hx (17))) (List.zip (Array.toList (Go.Func.resultTypes f17)) (Array.toList (Go.Func.results f17))) [] [])) (kLeave (Ctx.P (Ctx.mk prog Hx (17))) (List.zip (Array.toList (Go.Func.resultTypes f17)) (Array.toList (Go.Func.results f17))) [] [])
def k17_1 (n : Nat) : Ex → St → RR := kBlock (0) (k17_0 n)
def S17_0 (b : Bridge) (i0 : Int) (es1 : List (List D)) (es2 : List (List D)) : St := St.mk [U_, V_ [C.ptr 0 0 0 [] 2 0 0], V_ [C.ptr 1 0 0 [] 3 0 0], V_ [C.ptr 2 0 0 [] 3 0 0], I_ i0, U_, U_, U_, U_, U_, U_, U_, U_, U_, U_, U_, U_, U_, U_, U_, U_, U_, U_, U_, U_, U_, U_, U_, U_, U_, U_, U_, U_, U_, U_, U_, U_, U_, U_, U_, U_, U_] [Root.mk true 2 [En.enc false b] 0 0 true true false, Root.mk true 3 [[D.sl true 1 [], D.sl true 2 [], D.sl true 4 []]] 0 0 true true false, Root.mk true 3 [[D.sl true 1 es1, D.sl true 2 es2, D.sl true 4 []]] 0 0 true true false]
def B17_0 (n : Nat) : St → (Ex → St → RR) → RR := runCode (Ctx.mk prog Hx (17)) (Table.call T22) n (codeAt [1, 1, 0, 1, 0, 0] (bodyOf f17)) (Lv.mk 30 [(0, 12)] 4)
def X17_2 (b : Bridge) (i0 : Int) (es1 : List (List D)) (es2 : List (List D)) : St := St.mk [U_, V_ [C.ptr 0 0 0 [] 2 0 0], V_ [C.ptr 1 0 0 [] 3 0 0], V_ [C.ptr 2 0 0 [] 3 0 0], I_ i0, U_, U_, I_ i0, B_ false, U_, U_, U_, U_, U_, U_, U_, U_, U_, U_, U_, U_, U_, U_, U_, U_, U_, U_, U_, U_, U_, U_, U_, U_, U_, U_, U_, U_, U_, U_, U_, U_, U_] [Root.mk true 2 [En.enc false b] 0 0 true true false, Root.mk true 3 [[D.sl true 1 [], D.sl true 2 [], D.sl true 4 []]] 0 0 true true false, Root.mk true 3 [[D.sl true 1 es1, D.sl true 2 es2, D.sl true 4 []]] 0 0 true true false]
theorem q17_0 (b : Bridge) (n : Nat) (i0 : Int) (es1 : List (List D)) (es2 : List (List D)) (f : St → RR) (K : Ex → St → RR) : B17_0 n (S17_0 b i0 es1 es2) (kThen (fun st ↦ f (St.head 3 30 2199023255472 st)) K) = bif decide (i0 < 4) then bif i0 != 3 then bif decide (i0 < ofNat (length (enS false (Bridge.Ports b)))) then bif decide (0 ≤ i0) && decide (i0 < ofNat (length (enS false (Bridge.Ports b)))) then bif Leaf.fit false Leaf.bool (getD (drop 10 (getD (enS false (Bridge.Ports b)) (toNat i0) [])) 0 D.dead) && true then bif decide ((length es1 + 1) * 1 ≤ 140737488355328) then bif decide ((length es2 + 1) * 32 ≤ 140737488355328) then f (S17_0 b (wrap i64 (i0 + 1)) (append es1 [[D.bool (D.flag (getD (drop 10 (getD (enS false (Bridge.Ports b)) (toNat i0) [])) 0 D.dead))]]) (append es2 [[D.int i64 (1), D.sl true 1 [[D.int i64 (1)]]]])) else none else none else none else none else bif decide ((length es1 + 1) * 1 ≤ 140737488355328) then bif decide ((length es2 + 1) * 32 ≤ 140737488355328) then f (S17_0 b (wrap i64 (i0 + 1)) (append es1 [[D.bool (i0 == 3)]]) (append es2 [[D.int i64 (1), D.sl true 1 [[D.int i64 (1)]]]])) else none else none else bif decide ((length es1 + 1) * 1 ≤ 140737488355328) then bif decide ((length es2 + 1) * 32 ≤ 140737488355328) then f (S17_0 b (wrap i64 (i0 + 1)) (append es1 [[D.bool (i0 == 3)]]) (append es2 [[D.int i64 (1), D.sl true 1 [[D.int i64 (1)]]]])) else none else none else K (Ex.exit 0) (X17_2 b i0 es1 es2) := by kernel_rfl
theorem aX17_2 (b : Bridge) (n : Nat) (i0 : Int) (es1 : List (List D)) (es2 : List (List D)) : k17_1 n (Ex.exit 0) (X17_2 b i0 es1 es2) = some ([[D.sl true 1 es1, D.sl true 2 es2, D.sl true 4 []]], []) := by kernel_rfl
theorem r17 (b : Bridge) (n : Nat) : evFn ⟨prog, Hx, 17⟩ T22.call n f17 [[.int .i64 b.Id, .sl false 11 (enS false b.Ports)]] = loopRun (B17_0 n) 3 30 2199023255472 n (S17_0 b (0) [] []) (k17_1 n) := by kernel_rfl
theorem m17 (b : Bridge) (hpre : (o17 b).1 = true) : evFn ⟨Go.Proofs.Try.prog, Hx, 17⟩ T22.call 6 f17 [[.int .i64 b.Id, .sl false 11 (enS false b.Ports)]] = some (o17 b).2 := by
  refine (r17 b _).trans ?_
  show _ = (some ([[.sl true 1 (enS true (cardB b).Open), .sl true 2 (enS true (cardB b).Members), .sl true 4 (enS true (cardB b).Table)]], []) : Option (List Row × List Row))
  replace hpre : (decide (b.Ports.length ≤ 1048576)) = true := hpre
  have hlen := of_decide_eq_true hpre
  refine loop_rule (V := Nat) (fun i => S17_0 b (Int.ofNat i) (enS true ((opensL b).take i)) (enS true (List.replicate i (⟨1, [1]⟩ : Member)))) (fun i => i ≤ 4) (fun i => 4 - i) (fun _ => some ([[D.sl true 1 (enS true (opensL b)), D.sl true 2 (enS true (cardB b).Members), D.sl true 4 []]], [])) ?_ 6 0 (Nat.zero_le _) (by omega)
  intro i hil f hf
  refine (q17_0 b _ _ _ _ f _).trans ?_
  have h1 : decide ((((opensL b).take i).length + 1) * 1 ≤ 140737488355328) = true := decide_eq_true (by rw [List.length_take]; omega)
  have h2 : decide (((List.replicate i (⟨1, [1]⟩ : Member)).length + 1) * 32 ≤ 140737488355328) = true := decide_eq_true (by rw [List.length_replicate]; omega)
  have key : ∀ x, (∀ h : i < (opensL b).length, (opensL b)[i] = x) → i < 4 → f (S17_0 b (IntKind.wrap IntKind.i64 (Int.ofNat i + 1)) (List.append (enS true ((opensL b).take i)) [[D.bool x]]) (List.append (enS true (List.replicate i (⟨1, [1]⟩ : Member))) [[D.int .i64 1, D.sl true 1 [[D.int .i64 1]]]])) = some ([[D.sl true 1 (enS true (opensL b)), D.sl true 2 (enS true (cardB b).Members), D.sl true 4 []]], []) := by
    intro x hx hi
    have hi' : i < (opensL b).length := hi
    rw [wrap_succ (show i < 4611686018427387904 by omega)]
    have e1 : List.append (enS true ((opensL b).take i)) [[D.bool x]] = enS true ((opensL b).take (i + 1)) := by
      refine (enS_snoc true ((opensL b).take i) x).trans ?_
      rw [← hx hi', List.take_append_getElem]
    have e2 : List.append (enS true (List.replicate i (⟨1, [1]⟩ : Member))) [[D.int .i64 1, D.sl true 1 [[D.int .i64 1]]]] = enS true (List.replicate (i + 1) (⟨1, [1]⟩ : Member)) := by
      refine (enS_snoc true (List.replicate i (⟨1, [1]⟩ : Member)) ⟨1, [1]⟩).trans ?_
      rw [List.replicate_succ']
    rw [e1, e2]
    exact hf (i + 1) (by omega) (by omega)
  by_cases hi : i < 4
  case neg =>
    obtain rfl : i = 4 := by omega
    refine bif_f rfl ?_
    exact aX17_2 b _ _ _ _
  refine bif_t (decide_eq_true (show (i : Int) < 4 by omega)) ?_
  by_cases h3 : i = 3
  · subst h3
    refine bif_f rfl (bif_t (by rw [enS_length]; exact h1) (bif_t (by rw [enS_length]; exact h2) ?_))
    exact key true (fun _ => rfl) (by omega)
  have hne : (Int.ofNat i != 3) = true := by
    rw [bne_iff_ne]
    show (i : Int) ≠ 3
    omega
  have hg : ∀ h : i < (opensL b).length, (opensL b)[i] = opF b i := fun h => opens_get b i h (by omega)
  refine bif_t hne ?_
  by_cases hp : i < b.Ports.length
  · refine bif_t (in_lt false hp) (bif_t (by rw [in_lt false hp, dec_ge]; rfl) (bif_t (by rw [toNat_of, enS_get false hp]; rfl) (bif_t (by rw [enS_length]; exact h1) (bif_t (by rw [enS_length]; exact h2) ?_))))
    rw [toNat_of, enS_get false hp]
    exact key b.Ports[i].Open (fun h => (hg h).trans (opF_at hp)) hi
  · refine bif_f (by rw [enS_length, dec_lt]; exact decide_eq_false hp) (bif_t (by rw [enS_length]; exact h1) (bif_t (by rw [enS_length]; exact h2) ?_))
    have hz : (Int.ofNat i == 3) = false := by
      rw [beq_eq_false_iff_ne]
      show (i : Int) ≠ 3
      omega
    rw [hz]
    exact key false (fun h => (hg h).trans (opF_out (by omega))) hi
theorem s17 : SoundAt Go.Proofs.Try.prog Hx 17 c17 := soundAt_of T22_sound mixed func17 (by kernel_rfl) (by
  intro rows r h
  unfold c17 at h
  split at h
  · rename_i b_Id b_Ports
    obtain ⟨hp, hr⟩ := Prod.mk.inj (Option.some.inj h)
    subst hr
    simp only [Bool.and_eq_true] at hp
    obtain ⟨hs0, hp⟩ := hp
    obtain ⟨xs0, rfl⟩ := isS_ex hs0
    simp only [deS_enS] at hp ⊢
    exact ⟨_, m17 ⟨b_Id, xs0⟩ hp⟩
  · cases h)
def T17 : Table := (17, c17) :: T22
theorem T17_sound : Table.Sound Go.Proofs.Try.prog Hx T17 := Table.sound_cons s17 T22_sound
end Go.Ev
end
