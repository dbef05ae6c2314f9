/- Contracts of functions, each by its evaluation. -/
import Derived.Test.YtgklglkmfgfodaaEvMd
import Derived.Test.YtgklglkmfgfodaaProg
import Derived.KernelRfl
import Derived.Test.YtgklglkmfgfodaaFDtab
set_option linter.unusedVariables false
set_option linter.unusedSimpArgs false
set_option maxRecDepth 100000
noncomputable section
open List (getD length drop take set append replicate all isEmpty)
open Int (toNat ofNat)
open Go.IntKind (i64 wrap)
open Go.Proofs.Try (prog f26 f51 func26 func51)
namespace Go.Ev
open Go.RowKit Go.Md
end Go.Ev
namespace Go.Md
open Go Go.Ev
theorem sameB_ne {α : Type} {x y : α} (h : x ≠ y) : sameB x y = false := by
  cases hs : sameB x y
  · rfl
  · exact absurd (sameB_eq hs) h
theorem bool_same {α : Type} {x y : α} {c : Bool} (h : c = true ↔ x = y) : c = sameB x y := by
  rw [Bool.eq_iff_iff, h]
  exact ⟨fun e => by rw [e]; exact sameB_self y, sameB_eq⟩
theorem heard_same (x y : Heard) : (x.Addr == y.Addr && (x.Vlan == y.Vlan && (x.Port == y.Port && (x.Left == y.Left && true)))) = sameB x y := bool_same (by
  cases x; cases y
  simp only [Bool.and_eq_true, beq_iff_eq, Bool.and_true, Heard.mk.injEq])
theorem take_next {α : Type} {a b : List α} {i : Nat} (hi : i < a.length) (hib : i < b.length) (ht : a.take i = b.take i) (he : a[i] = b[i]) : a.take (i + 1) = b.take (i + 1) := by
  rw [List.take_add_one, List.take_add_one, ht, List.getElem?_eq_getElem hi, List.getElem?_eq_getElem hib, he]
end Go.Md
namespace Go.Ev
open Go.Md
def o26 (a : List Heard) (b : List Heard) : Bool × List Row × List Row := (decide (a.length ≤ 1048576) && decide (b.length ≤ 1048576), [[.bool (sameB a b)]], [])
def c26 : Contract
  | [[.sl false 4 a], [.sl false 4 b]] => some (isS Heard false a && isS Heard false b && (o26 (deS Heard a) (deS Heard b)).1, (o26 (deS Heard a) (deS Heard b)).2.1, (o26 (deS Heard a) (deS Heard b)).2.2)
  | _ => none

def k26_0 (n : Nat) : Ex → St → RR := kThen (fun st ↦ runCode (Ctx.mk prog Hx (26)) (Table.call T23) n (codeAt [1, 1, 1] (bodyOf f26)) (Lv.mk 16 [] 16) st (kLeave (Ctx.P (Ctx.mk prog Hx (26))) (List.zip (Array.toList (Go.Func.resultTypes f26)) (Array.toList (Go.Func.results f26))) [] [])) (kLeave (Ctx.P (Ctx.mk prog Hx (26))) (List.zip (Array.toList (Go.Func.resultTypes f26)) (Array.toList (Go.Func.results f26))) [] [])
def k26_1 (n : Nat) : Ex → St → RR := kBlock (0) (k26_0 n)
def S26_0 (a : List Heard) (b : List Heard) (i0 : Int) : St := St.mk [V_ [C.d (D.sl false 4 (enS false a))], V_ [C.d (D.sl false 4 (enS false b))], U_, U_, U_, I_ i0, U_, U_, U_, U_, U_, U_, U_, U_, U_, U_, U_, U_, U_, U_, U_, U_, U_, U_, U_, U_] []
def B26_0 (n : Nat) : St → (Ex → St → RR) → RR := runCode (Ctx.mk prog Hx (26)) (Table.call T23) n (codeAt [1, 1, 0, 1, 0, 0] (bodyOf f26)) (Lv.mk 35 [(0, 0)] 16)
def X26_2 (a : List Heard) (b : List Heard) (i0 : Int) : St := St.mk [V_ [C.d (D.sl false 4 (enS false a))], V_ [C.d (D.sl false 4 (enS false b))], U_, U_, B_ false, I_ i0, U_, U_, U_, U_, U_, I_ i0, V_ [C.d (D.sl false 4 (enS false a))], I_ (ofNat (length (enS false a))), B_ true, U_, U_, V_ [C.d (D.sl false 4 (enS false a))], I_ i0, V_ [C.rptr (getD (enS false a) (toNat i0) [])], TV.v true [C.d (D.int i64 (D.num (getD (getD (enS false a) (toNat i0) []) 0 D.dead))), C.d (D.int i64 (D.num (getD (getD (enS false a) (toNat i0) []) 1 D.dead))), C.d (D.int i64 (D.num (getD (getD (enS false a) (toNat i0) []) 2 D.dead))), C.d (D.int i64 (D.num (getD (getD (enS false a) (toNat i0) []) 3 D.dead)))], V_ [C.d (D.sl false 4 (enS false b))], I_ i0, V_ [C.rptr (getD (enS false b) (toNat i0) [])], TV.v true [C.d (D.int i64 (D.num (getD (getD (enS false b) (toNat i0) []) 0 D.dead))), C.d (D.int i64 (D.num (getD (getD (enS false b) (toNat i0) []) 1 D.dead))), C.d (D.int i64 (D.num (getD (getD (enS false b) (toNat i0) []) 2 D.dead))), C.d (D.int i64 (D.num (getD (getD (enS false b) (toNat i0) []) 3 D.dead)))], B_ true] []
def X26_3 (a : List Heard) (b : List Heard) (i0 : Int) : St := St.mk [V_ [C.d (D.sl false 4 (enS false a))], V_ [C.d (D.sl false 4 (enS false b))], U_, U_, U_, I_ i0, U_, U_, U_, U_, U_, I_ i0, V_ [C.d (D.sl false 4 (enS false a))], I_ (ofNat (length (enS false a))), B_ false, U_, U_, U_, U_, U_, U_, U_, U_, U_, U_, U_] []
theorem q26_0 (a : List Heard) (b : List Heard) (n : Nat) (i0 : Int) (f : St → RR) (K : Ex → St → RR) : B26_0 n (S26_0 a b i0) (kThen (fun st ↦ f (St.head 0 35 67106864 st)) K) = bif decide (i0 < ofNat (length (enS false a))) then bif decide (0 ≤ i0) && decide (i0 < ofNat (length (enS false a))) then bif Leaf.fit false (Leaf.int i64) (getD (getD (enS false a) (toNat i0) []) 0 D.dead) && (Leaf.fit false (Leaf.int i64) (getD (getD (enS false a) (toNat i0) []) 1 D.dead) && (Leaf.fit false (Leaf.int i64) (getD (getD (enS false a) (toNat i0) []) 2 D.dead) && (Leaf.fit false (Leaf.int i64) (getD (getD (enS false a) (toNat i0) []) 3 D.dead) && true))) then bif decide (0 ≤ i0) && decide (i0 < ofNat (length (enS false b))) then bif Leaf.fit false (Leaf.int i64) (getD (getD (enS false b) (toNat i0) []) 0 D.dead) && (Leaf.fit false (Leaf.int i64) (getD (getD (enS false b) (toNat i0) []) 1 D.dead) && (Leaf.fit false (Leaf.int i64) (getD (getD (enS false b) (toNat i0) []) 2 D.dead) && (Leaf.fit false (Leaf.int i64) (getD (getD (enS false b) (toNat i0) []) 3 D.dead) && true))) then bif !(D.num (getD (getD (enS false a) (toNat i0) []) 0 D.dead) == D.num (getD (getD (enS false b) (toNat i0) []) 0 D.dead) && (D.num (getD (getD (enS false a) (toNat i0) []) 1 D.dead) == D.num (getD (getD (enS false b) (toNat i0) []) 1 D.dead) && (D.num (getD (getD (enS false a) (toNat i0) []) 2 D.dead) == D.num (getD (getD (enS false b) (toNat i0) []) 2 D.dead) && (D.num (getD (getD (enS false a) (toNat i0) []) 3 D.dead) == D.num (getD (getD (enS false b) (toNat i0) []) 3 D.dead) && true)))) then K Ex.ret (X26_2 a b i0) else f (S26_0 a b (wrap i64 (i0 + 1))) else none else none else none else none else K (Ex.exit 0) (X26_3 a b i0) := by kernel_rfl
theorem aX26_2 (a : List Heard) (b : List Heard) (n : Nat) (i0 : Int) : k26_1 n Ex.ret (X26_2 a b i0) = some ([[D.bool false]], []) := by kernel_rfl
theorem aX26_3 (a : List Heard) (b : List Heard) (n : Nat) (i0 : Int) : k26_1 n (Ex.exit 0) (X26_3 a b i0) = some ([[D.bool true]], []) := by kernel_rfl
theorem r26 (a : List Heard) (b : List Heard) (n : Nat) : evFn ⟨prog, Hx, 26⟩ T23.call n f26 [[.sl false 4 (enS false a)], [.sl false 4 (enS false b)]] = bif ofNat (length (enS false a)) != ofNat (length (enS false b)) then some ([[D.bool false]], []) else loopRun (B26_0 n) 0 35 67106864 n (S26_0 a b (0)) (k26_1 n) := by kernel_rfl
theorem m26 (a : List Heard) (b : List Heard) (hpre : (o26 a b).1 = true) : evFn ⟨Go.Proofs.Try.prog, Hx, 26⟩ T23.call (a.length + 1) f26 [[.sl false 4 (enS false a)], [.sl false 4 (enS false b)]] = some (o26 a b).2 := by
  refine (r26 a b _).trans ?_
  show _ = (some ([[.bool (sameB a b)]], []) : Option (List Row × List Row))
  replace hpre : (decide (a.length ≤ 1048576) && decide (b.length ≤ 1048576)) = true := hpre
  rw [Bool.and_eq_true] at hpre
  have h1 := of_decide_eq_true hpre.1
  have h2 := of_decide_eq_true hpre.2
  rw [enS_length, enS_length]
  by_cases hl : a.length = b.length
  case neg =>
    have e0 : (Int.ofNat a.length != Int.ofNat b.length) = true := by
      rw [bne_iff_ne]
      intro h
      exact hl (Int.ofNat.inj h)
    rw [e0, sameB_ne (fun h => hl (by rw [h]))]
    rfl
  have e0 : (Int.ofNat a.length != Int.ofNat b.length) = false := by rw [hl]; exact bne_self_eq_false _
  rw [e0, cond_false]
  refine loop_list (xs := a) (fun i (_ : Unit) => S26_0 a b (Int.ofNat i)) (fun i _ => a.take i = b.take i) (fun _ _ _ => some ([[D.bool (sameB a b)]], [])) ?_ ?_ (a.length + 1) () (by omega) rfl
  · rintro _ ht f
    refine (q26_0 a b _ _ f _).trans ?_
    rw [end_lt, cond_false]
    have he : a = b := by rw [List.take_length, hl, List.take_length] at ht; exact ht
    rw [sameB_eq (by rw [he]; exact sameB_self b : sameB a b = true), sameB_self]
    exact aX26_3 b b _ _
  · rintro i _ hi ht f hf
    have hib : i < b.length := by omega
    refine (q26_0 a b _ _ f _).trans ?_
    simp only [enS_length, toNat_of, dec_lt, dec_ge, hi, hib, decide_true, cond_true, Bool.and_self, enS_get false hi, enS_get false hib, En.enc, List.getD_cons_zero, List.getD_cons_succ, D.num, Leaf.fit, beq_self_eq_true, heard_same, wrap_succ (show i < 4611686018427387904 by omega)]
    cases hs : sameB a[i] b[i]
    · rw [sameB_ne (fun h => by subst h; rw [sameB_self] at hs; cases hs)]
      exact aX26_2 a b _ _
    · exact hf () (take_next hi hib ht (sameB_eq hs))
theorem s26 : SoundAt Go.Proofs.Try.prog Hx 26 c26 := soundAt_of T23_sound mixed func26 (by kernel_rfl) (by
  intro rows r h
  unfold c26 at h
  split at h
  · rename_i a b
    obtain ⟨hp, hr⟩ := Prod.mk.inj (Option.some.inj h)
    subst hr
    simp only [Bool.and_eq_true] at hp
    obtain ⟨⟨hs0, hs1⟩, hp⟩ := hp
    obtain ⟨xs0, rfl⟩ := isS_ex hs0
    obtain ⟨xs1, rfl⟩ := isS_ex hs1
    simp only [deS_enS] at hp ⊢
    exact ⟨_, m26 xs0 xs1 hp⟩
  · cases h)
def T26 : Table := (26, c26) :: T23
theorem T26_sound : Table.Sound Go.Proofs.Try.prog Hx T26 := Table.sound_cons s26 T23_sound
def o51 (a : List Int) (b : List Int) : Bool × List Row × List Row := (decide (a.length ≤ 1048576) && decide (b.length ≤ 1048576), [[.bool (sameB a b)]], [])
def c51 : Contract
  | [[.sl false 1 a], [.sl false 1 b]] => some (isS Int false a && isS Int false b && (o51 (deS Int a) (deS Int b)).1, (o51 (deS Int a) (deS Int b)).2.1, (o51 (deS Int a) (deS Int b)).2.2)
  | _ => none

def k51_0 (n : Nat) : Ex → St → RR := kThen (fun st ↦ runCode (Ctx.mk prog Hx (51)) (Table.call T26) n (codeAt [1, 1, 1] (bodyOf f51)) (Lv.mk 16 [] 16) st (kLeave (Ctx.P (Ctx.mk prog Hx (51))) (List.zip (Array.toList (Go.Func.resultTypes f51)) (Array.toList (Go.Func.results f51))) [] [])) (kLeave (Ctx.P (Ctx.mk prog Hx (51))) (List.zip (Array.toList (Go.Func.resultTypes f51)) (Array.toList (Go.Func.results f51))) [] [])
def k51_1 (n : Nat) : Ex → St → RR := kBlock (0) (k51_0 n)
def S51_0 (a : List Int) (b : List Int) (i0 : Int) : St := St.mk [V_ [C.d (D.sl false 1 (enS false a))], V_ [C.d (D.sl false 1 (enS false b))], U_, U_, U_, I_ i0, U_, U_, U_, U_, U_, U_, U_, U_, U_, U_, U_, U_, U_, U_, U_, U_, U_, U_, U_, U_] []
def B51_0 (n : Nat) : St → (Ex → St → RR) → RR := runCode (Ctx.mk prog Hx (51)) (Table.call T26) n (codeAt [1, 1, 0, 1, 0, 0] (bodyOf f51)) (Lv.mk 35 [(0, 0)] 16)
def X51_2 (a : List Int) (b : List Int) (i0 : Int) : St := St.mk [V_ [C.d (D.sl false 1 (enS false a))], V_ [C.d (D.sl false 1 (enS false b))], U_, U_, B_ false, I_ i0, U_, U_, U_, U_, U_, I_ i0, V_ [C.d (D.sl false 1 (enS false a))], I_ (ofNat (length (enS false a))), B_ true, U_, U_, V_ [C.d (D.sl false 1 (enS false a))], I_ i0, V_ [C.rptr (getD (enS false a) (toNat i0) [])], I_ (D.num (getD (getD (enS false a) (toNat i0) []) 0 D.dead)), V_ [C.d (D.sl false 1 (enS false b))], I_ i0, V_ [C.rptr (getD (enS false b) (toNat i0) [])], I_ (D.num (getD (getD (enS false b) (toNat i0) []) 0 D.dead)), B_ true] []
def X51_3 (a : List Int) (b : List Int) (i0 : Int) : St := St.mk [V_ [C.d (D.sl false 1 (enS false a))], V_ [C.d (D.sl false 1 (enS false b))], U_, U_, U_, I_ i0, U_, U_, U_, U_, U_, I_ i0, V_ [C.d (D.sl false 1 (enS false a))], I_ (ofNat (length (enS false a))), B_ false, U_, U_, U_, U_, U_, U_, U_, U_, U_, U_, U_] []
theorem q51_0 (a : List Int) (b : List Int) (n : Nat) (i0 : Int) (f : St → RR) (K : Ex → St → RR) : B51_0 n (S51_0 a b i0) (kThen (fun st ↦ f (St.head 0 35 67106864 st)) K) = bif decide (i0 < ofNat (length (enS false a))) then bif decide (0 ≤ i0) && decide (i0 < ofNat (length (enS false a))) then bif Leaf.fit false (Leaf.int i64) (getD (getD (enS false a) (toNat i0) []) 0 D.dead) && true then bif decide (0 ≤ i0) && decide (i0 < ofNat (length (enS false b))) then bif Leaf.fit false (Leaf.int i64) (getD (getD (enS false b) (toNat i0) []) 0 D.dead) && true then bif D.num (getD (getD (enS false a) (toNat i0) []) 0 D.dead) != D.num (getD (getD (enS false b) (toNat i0) []) 0 D.dead) then K Ex.ret (X51_2 a b i0) else f (S51_0 a b (wrap i64 (i0 + 1))) else none else none else none else none else K (Ex.exit 0) (X51_3 a b i0) := by kernel_rfl
theorem aX51_2 (a : List Int) (b : List Int) (n : Nat) (i0 : Int) : k51_1 n Ex.ret (X51_2 a b i0) = some ([[D.bool false]], []) := by kernel_rfl
theorem aX51_3 (a : List Int) (b : List Int) (n : Nat) (i0 : Int) : k51_1 n (Ex.exit 0) (X51_3 a b i0) = some ([[D.bool true]], []) := by kernel_rfl
theorem r51 (a : List Int) (b : List Int) (n : Nat) : evFn ⟨prog, Hx, 51⟩ T26.call n f51 [[.sl false 1 (enS false a)], [.sl false 1 (enS false b)]] = bif ofNat (length (enS false a)) != ofNat (length (enS false b)) then some ([[D.bool false]], []) else loopRun (B51_0 n) 0 35 67106864 n (S51_0 a b (0)) (k51_1 n) := by kernel_rfl
theorem m51 (a : List Int) (b : List Int) (hpre : (o51 a b).1 = true) : evFn ⟨Go.Proofs.Try.prog, Hx, 51⟩ T26.call (a.length + 1) f51 [[.sl false 1 (enS false a)], [.sl false 1 (enS false b)]] = some (o51 a b).2 := by
  refine (r51 a b _).trans ?_
  show _ = (some ([[.bool (sameB a b)]], []) : Option (List Row × List Row))
  replace hpre : (decide (a.length ≤ 1048576) && decide (b.length ≤ 1048576)) = true := hpre
  rw [Bool.and_eq_true] at hpre
  have h1 := of_decide_eq_true hpre.1
  have h2 := of_decide_eq_true hpre.2
  rw [enS_length, enS_length]
  by_cases hl : a.length = b.length
  case neg =>
    have e0 : (Int.ofNat a.length != Int.ofNat b.length) = true := by
      rw [bne_iff_ne]
      intro h
      exact hl (Int.ofNat.inj h)
    rw [e0, sameB_ne (fun h => hl (by rw [h]))]
    rfl
  have e0 : (Int.ofNat a.length != Int.ofNat b.length) = false := by rw [hl]; exact bne_self_eq_false _
  rw [e0, cond_false]
  refine loop_list (xs := a) (fun i (_ : Unit) => S51_0 a b (Int.ofNat i)) (fun i _ => a.take i = b.take i) (fun _ _ _ => some ([[D.bool (sameB a b)]], [])) ?_ ?_ (a.length + 1) () (by omega) rfl
  · rintro _ ht f
    refine (q51_0 a b _ _ f _).trans ?_
    rw [end_lt, cond_false]
    have he : a = b := by rw [List.take_length, hl, List.take_length] at ht; exact ht
    rw [sameB_eq (by rw [he]; exact sameB_self b : sameB a b = true), sameB_self]
    exact aX51_3 b b _ _
  · rintro i _ hi ht f hf
    have hib : i < b.length := by omega
    refine (q51_0 a b _ _ f _).trans ?_
    simp only [enS_length, toNat_of, dec_lt, dec_ge, hi, hib, decide_true, cond_true, Bool.and_self, Bool.and_true, enS_get false hi, enS_get false hib, En.enc, List.getD_cons_zero, D.num, Leaf.fit, beq_self_eq_true, wrap_succ (show i < 4611686018427387904 by omega)]
    cases hs : a[i] != b[i]
    · exact hf () (take_next hi hib ht (by rw [bne_eq_false_iff_eq] at hs; exact hs))
    · rw [bne_iff_ne] at hs
      rw [sameB_ne (fun h => hs (by subst h; rfl))]
      exact aX51_2 a b _ _
theorem s51 : SoundAt Go.Proofs.Try.prog Hx 51 c51 := soundAt_of T26_sound mixed func51 (by kernel_rfl) (by
  intro rows r h
  unfold c51 at h
  split at h
  · rename_i a b
    obtain ⟨hp, hr⟩ := Prod.mk.inj (Option.some.inj h)
    subst hr
    simp only [Bool.and_eq_true] at hp
    obtain ⟨⟨hs0, hs1⟩, hp⟩ := hp
    obtain ⟨xs0, rfl⟩ := isS_ex hs0
    obtain ⟨xs1, rfl⟩ := isS_ex hs1
    simp only [deS_enS] at hp ⊢
    exact ⟨_, m51 xs0 xs1 hp⟩
  · cases h)
def T51 : Table := (51, c51) :: T26
theorem T51_sound : Table.Sound Go.Proofs.Try.prog Hx T51 := Table.sound_cons s51 T26_sound
end Go.Ev
end
