/- Contracts of functions, each by its evaluation. -/
import Derived.Test.YtkkpblhaeliofaaEvMd
import Derived.Test.YtkkpblhaeliofaaProg
import Derived.KernelRfl
import Derived.Test.YtkkpblhaeliofaaFDent
set_option linter.unusedVariables false
set_option linter.unusedSimpArgs false
set_option maxRecDepth 100000
noncomputable section
open List (getD length drop take set append replicate all isEmpty)
open Int (toNat ofNat)
open Go.IntKind (i64 wrap)
open Go.Proofs.Try (prog f17 f21 func17 func21)
namespace Go.Ev
open Go.RowKit Go.Md
end Go.Ev
namespace Go.Md
open Go Go.Ev
theorem sameB_ne {α : Type} {x y : α} (h : x ≠ y) : sameB x y = false := by
  cases hs : sameB x y
  · rfl
  · exact absurd (sameB_eq hs) h
theorem bool_same {α : Type} {x y : α} {c : Bool} (h : c = true ↔ x = y) : c = sameB x y := by
  rw [Bool.eq_iff_iff, h]
  exact ⟨fun e => by rw [e]; exact sameB_self y, sameB_eq⟩
theorem take_next {α : Type} {a b : List α} {i : Nat} (hi : i < a.length) (hib : i < b.length) (ht : a.take i = b.take i) (he : a[i] = b[i]) : a.take (i + 1) = b.take (i + 1) := by
  rw [List.take_add_one, List.take_add_one, ht, List.getElem?_eq_getElem hi, List.getElem?_eq_getElem hib, he]
theorem step_same {R : Type} {c : Bool} {p : Prop} {x y r : R} (h : c = true ↔ p) (hne : ¬ p → x = r) (heq : p → y = r) : (bif !c then x else y) = r := by
  cases c
  · exact hne (fun hp => Bool.noConfusion (h.2 hp))
  · exact heq (h.1 rfl)
end Go.Md
namespace Go.Ev
open Go.Md
def o21 (a : Bridge) (b : Bridge) : Bool × List Row × List Row := (decide (a.Ports.length ≤ 1048576) && decide (b.Ports.length ≤ 1048576), [[.bool (sameB a b)]], [])
def c21 : Contract
  | [[.int .i64 a_Id, .sl false 11 a_Ports], [.int .i64 b_Id, .sl false 11 b_Ports]] => some (isS Port false a_Ports && isS Port false b_Ports && (o21 ⟨a_Id, (deS Port a_Ports)⟩ ⟨b_Id, (deS Port b_Ports)⟩).1, (o21 ⟨a_Id, (deS Port a_Ports)⟩ ⟨b_Id, (deS Port b_Ports)⟩).2.1, (o21 ⟨a_Id, (deS Port a_Ports)⟩ ⟨b_Id, (deS Port b_Ports)⟩).2.2)
  | _ => none

def k21_0 (n : Nat) : Ex → St → RR := kThen (fun st ↦ runCode (Ctx.mk prog Hx (21)) (Table.call T50) n (codeAt [1, 1, 1] (bodyOf f21)) (Lv.mk 16 [] 16) st (kLeave (Ctx.P (Ctx.mk prog Hx (21))) (List.zip (Array.toList (Go.Func.resultTypes f21)) (Array.toList (Go.Func.results f21))) [] [])) (kLeave (Ctx.P (Ctx.mk prog Hx (21))) (List.zip (Array.toList (Go.Func.resultTypes f21)) (Array.toList (Go.Func.results f21))) [] [])
def k21_1 (n : Nat) : Ex → St → RR := kBlock (0) (k21_0 n)
def S21_0 (a : Bridge) (b : Bridge) (i0 : Int) : St := St.mk (U_ :: U_ :: V_ [C.ptr 0 0 0 [] 2 0 0] :: V_ [C.ptr 1 0 0 [] 2 0 0] :: U_ :: I_ i0 :: u_ 32 []) [Root.mk true 2 [En.enc false a] 0 0 true true false, Root.mk true 2 [En.enc false b] 0 0 true true false]
def B21_0 (n : Nat) : St → (Ex → St → RR) → RR := runCode (Ctx.mk prog Hx (21)) (Table.call T50) n (codeAt [1, 1, 0, 1, 0, 0] (bodyOf f21)) (Lv.mk 44 [(0, 0)] 16)
def X21_2 (a : Bridge) (b : Bridge) : St := St.mk (u_ 4 (B_ false :: u_ 33 [])) [Root.mk true 2 [En.enc false a] 0 0 true true false, Root.mk true 2 [En.enc false b] 0 0 true true false]
def X21_3 (a : Bridge) (b : Bridge) : St := St.mk (u_ 38 []) [Root.mk true 2 [En.enc false a] 0 0 true true false, Root.mk true 2 [En.enc false b] 0 0 true true false]
theorem q21_0 (a : Bridge) (b : Bridge) (n : Nat) (i0 : Int) (f : St → RR) (K : Ex → St → RR) : B21_0 n (S21_0 a b i0) (kThen (fun st ↦ f (St.head 2 44 274876858416 st)) K) = bif decide (i0 < ofNat (length (enS false (Bridge.Ports a)))) then bif decide (0 ≤ i0) && decide (i0 < ofNat (length (enS false (Bridge.Ports a)))) then bif Leaf.fit false Leaf.bool (getD (getD (enS false (Bridge.Ports a)) (toNat i0) []) 0 D.dead) && (Leaf.fit false Leaf.bool (getD (getD (enS false (Bridge.Ports a)) (toNat i0) []) 1 D.dead) && (Leaf.fit false (Leaf.int i64) (getD (getD (enS false (Bridge.Ports a)) (toNat i0) []) 2 D.dead) && (Leaf.fit false (Leaf.int i64) (getD (getD (enS false (Bridge.Ports a)) (toNat i0) []) 3 D.dead) && (Leaf.fit false (Leaf.int i64) (getD (getD (enS false (Bridge.Ports a)) (toNat i0) []) 4 D.dead) && (Leaf.fit false (Leaf.int i64) (getD (getD (enS false (Bridge.Ports a)) (toNat i0) []) 5 D.dead) && (Leaf.fit false (Leaf.int i64) (getD (getD (enS false (Bridge.Ports a)) (toNat i0) []) 6 D.dead) && (Leaf.fit false (Leaf.int i64) (getD (getD (enS false (Bridge.Ports a)) (toNat i0) []) 7 D.dead) && (Leaf.fit false (Leaf.int i64) (getD (getD (enS false (Bridge.Ports a)) (toNat i0) []) 8 D.dead) && (Leaf.fit false (Leaf.int i64) (getD (getD (enS false (Bridge.Ports a)) (toNat i0) []) 9 D.dead) && (Leaf.fit false Leaf.bool (getD (getD (enS false (Bridge.Ports a)) (toNat i0) []) 10 D.dead) && true)))))))))) then bif decide (0 ≤ i0) && decide (i0 < ofNat (length (enS false (Bridge.Ports b)))) then bif Leaf.fit false Leaf.bool (getD (getD (enS false (Bridge.Ports b)) (toNat i0) []) 0 D.dead) && (Leaf.fit false Leaf.bool (getD (getD (enS false (Bridge.Ports b)) (toNat i0) []) 1 D.dead) && (Leaf.fit false (Leaf.int i64) (getD (getD (enS false (Bridge.Ports b)) (toNat i0) []) 2 D.dead) && (Leaf.fit false (Leaf.int i64) (getD (getD (enS false (Bridge.Ports b)) (toNat i0) []) 3 D.dead) && (Leaf.fit false (Leaf.int i64) (getD (getD (enS false (Bridge.Ports b)) (toNat i0) []) 4 D.dead) && (Leaf.fit false (Leaf.int i64) (getD (getD (enS false (Bridge.Ports b)) (toNat i0) []) 5 D.dead) && (Leaf.fit false (Leaf.int i64) (getD (getD (enS false (Bridge.Ports b)) (toNat i0) []) 6 D.dead) && (Leaf.fit false (Leaf.int i64) (getD (getD (enS false (Bridge.Ports b)) (toNat i0) []) 7 D.dead) && (Leaf.fit false (Leaf.int i64) (getD (getD (enS false (Bridge.Ports b)) (toNat i0) []) 8 D.dead) && (Leaf.fit false (Leaf.int i64) (getD (getD (enS false (Bridge.Ports b)) (toNat i0) []) 9 D.dead) && (Leaf.fit false Leaf.bool (getD (getD (enS false (Bridge.Ports b)) (toNat i0) []) 10 D.dead) && true)))))))))) then bif !(decide (D.flag (getD (getD (enS false (Bridge.Ports a)) (toNat i0) []) 0 D.dead) = D.flag (getD (getD (enS false (Bridge.Ports b)) (toNat i0) []) 0 D.dead)) && (decide (D.flag (getD (getD (enS false (Bridge.Ports a)) (toNat i0) []) 1 D.dead) = D.flag (getD (getD (enS false (Bridge.Ports b)) (toNat i0) []) 1 D.dead)) && (D.num (getD (getD (enS false (Bridge.Ports a)) (toNat i0) []) 2 D.dead) == D.num (getD (getD (enS false (Bridge.Ports b)) (toNat i0) []) 2 D.dead) && (D.num (getD (getD (enS false (Bridge.Ports a)) (toNat i0) []) 3 D.dead) == D.num (getD (getD (enS false (Bridge.Ports b)) (toNat i0) []) 3 D.dead) && (D.num (getD (getD (enS false (Bridge.Ports a)) (toNat i0) []) 4 D.dead) == D.num (getD (getD (enS false (Bridge.Ports b)) (toNat i0) []) 4 D.dead) && (D.num (getD (getD (enS false (Bridge.Ports a)) (toNat i0) []) 5 D.dead) == D.num (getD (getD (enS false (Bridge.Ports b)) (toNat i0) []) 5 D.dead) && true))) && (D.num (getD (getD (enS false (Bridge.Ports a)) (toNat i0) []) 6 D.dead) == D.num (getD (getD (enS false (Bridge.Ports b)) (toNat i0) []) 6 D.dead) && (D.num (getD (getD (enS false (Bridge.Ports a)) (toNat i0) []) 7 D.dead) == D.num (getD (getD (enS false (Bridge.Ports b)) (toNat i0) []) 7 D.dead) && (D.num (getD (getD (enS false (Bridge.Ports a)) (toNat i0) []) 8 D.dead) == D.num (getD (getD (enS false (Bridge.Ports b)) (toNat i0) []) 8 D.dead) && (D.num (getD (getD (enS false (Bridge.Ports a)) (toNat i0) []) 9 D.dead) == D.num (getD (getD (enS false (Bridge.Ports b)) (toNat i0) []) 9 D.dead) && (decide (D.flag (getD (getD (enS false (Bridge.Ports a)) (toNat i0) []) 10 D.dead) = D.flag (getD (getD (enS false (Bridge.Ports b)) (toNat i0) []) 10 D.dead)) && true)))))))) then K Ex.ret (X21_2 a b) else f (S21_0 a b (wrap i64 (i0 + 1))) else none else none else none else none else K (Ex.exit 0) (X21_3 a b) := by kernel_rfl
theorem aX21_2 (a : Bridge) (b : Bridge) (n : Nat) : k21_1 n Ex.ret (X21_2 a b) = some ([[D.bool false]], []) := by kernel_rfl
theorem aX21_3 (a : Bridge) (b : Bridge) (n : Nat) : k21_1 n (Ex.exit 0) (X21_3 a b) = some ([[D.bool true]], []) := by kernel_rfl
theorem r21 (a : Bridge) (b : Bridge) (n : Nat) : evFn ⟨prog, Hx, 21⟩ T50.call n f21 [[.int .i64 a.Id, .sl false 11 (enS false a.Ports)], [.int .i64 b.Id, .sl false 11 (enS false b.Ports)]] = bif Bridge.Id a != Bridge.Id b then some ([[D.bool false]], []) else bif ofNat (length (enS false (Bridge.Ports a))) != ofNat (length (enS false (Bridge.Ports b))) then some ([[D.bool false]], []) else loopRun (B21_0 n) 2 44 274876858416 n (S21_0 a b (0)) (k21_1 n) := by kernel_rfl
theorem m21 (a : Bridge) (b : Bridge) (hpre : (o21 a b).1 = true) : evFn ⟨Go.Proofs.Try.prog, Hx, 21⟩ T50.call (a.Ports.length + 1) f21 [[.int .i64 a.Id, .sl false 11 (enS false a.Ports)], [.int .i64 b.Id, .sl false 11 (enS false b.Ports)]] = some (o21 a b).2 := by
  refine (r21 a b _).trans ?_
  show _ = (some ([[.bool (sameB a b)]], []) : Option (List Row × List Row))
  replace hpre : (decide (a.Ports.length ≤ 1048576) && decide (b.Ports.length ≤ 1048576)) = true := hpre
  rw [Bool.and_eq_true] at hpre
  have h1 := of_decide_eq_true hpre.1
  have h2 := of_decide_eq_true hpre.2
  rw [enS_length, enS_length]
  cases hid : a.Id != b.Id
  case true =>
    rw [bne_iff_ne] at hid
    rw [sameB_ne (fun h => hid (by rw [h]))]
    rfl
  rw [bne_eq_false_iff_eq] at hid
  rw [cond_false]
  by_cases hl : a.Ports.length = b.Ports.length
  case neg =>
    have e0 : (Int.ofNat a.Ports.length != Int.ofNat b.Ports.length) = true := by
      rw [bne_iff_ne]
      intro h
      exact hl (Int.ofNat.inj h)
    rw [e0, sameB_ne (fun h => hl (by rw [h]))]
    rfl
  have e0 : (Int.ofNat a.Ports.length != Int.ofNat b.Ports.length) = false := by rw [hl]; exact bne_self_eq_false _
  rw [e0, cond_false]
  refine loop_list (xs := a.Ports) (fun i (_ : Unit) => S21_0 a b (Int.ofNat i)) (fun i _ => a.Ports.take i = b.Ports.take i) (fun _ _ _ => some ([[D.bool (sameB a b)]], [])) ?_ ?_ (a.Ports.length + 1) () (by omega) rfl
  · rintro _ ht f
    refine (q21_0 a b _ _ f _).trans ?_
    rw [end_lt, cond_false]
    have he : a.Ports = b.Ports := by rw [List.take_length, hl, List.take_length] at ht; exact ht
    have hab : a = b := by
      cases a; cases b
      simp only at hid he
      rw [hid, he]
    rw [sameB_eq (by rw [hab]; exact sameB_self b : sameB a b = true), sameB_self]
    exact aX21_3 _ _ _
  · rintro i _ hi ht f hf
    have hib : i < b.Ports.length := by omega
    refine (q21_0 a b _ _ f _).trans ?_
    simp only [enS_length, toNat_of, dec_lt, dec_ge, hi, hib, decide_true, cond_true, Bool.and_self, enS_get false hi, enS_get false hib, En.enc, List.getD_cons_zero, List.getD_cons_succ, D.num, D.flag, Leaf.fit, beq_self_eq_true, wrap_succ (show i < 4611686018427387904 by omega)]
    refine step_same (p := a.Ports[i] = b.Ports[i]) ?_ (fun hne => ?_) (fun he => hf () (take_next hi hib ht he))
    · generalize a.Ports[i] = x
      generalize b.Ports[i] = y
      obtain ⟨x1, x2, ⟨x3, x4, x5, x6⟩, x7, x8, x9, x10, x11⟩ := x
      obtain ⟨y1, y2, ⟨y3, y4, y5, y6⟩, y7, y8, y9, y10, y11⟩ := y
      simp only [Bool.and_eq_true, beq_iff_eq, decide_eq_true_eq, Port.mk.injEq, Vec.mk.injEq, and_true]
    · rw [sameB_ne (fun h => hne (by subst h; rfl))]
      exact aX21_2 _ _ _
theorem s21 : SoundAt Go.Proofs.Try.prog Hx 21 c21 := soundAt_of T50_sound mixed func21 (by kernel_rfl) (by
  intro rows r h
  unfold c21 at h
  split at h
  · rename_i a_Id a_Ports b_Id b_Ports
    obtain ⟨hp, hr⟩ := Prod.mk.inj (Option.some.inj h)
    subst hr
    simp only [Bool.and_eq_true] at hp
    obtain ⟨⟨hs0, hs1⟩, hp⟩ := hp
    obtain ⟨xs0, rfl⟩ := isS_ex hs0
    obtain ⟨xs1, rfl⟩ := isS_ex hs1
    simp only [deS_enS] at hp ⊢
    exact ⟨_, m21 ⟨a_Id, xs0⟩ ⟨b_Id, xs1⟩ hp⟩
  · cases h)
def T21 : Table := (21, c21) :: T50
theorem T21_sound : Table.Sound Go.Proofs.Try.prog Hx T21 := Table.sound_cons s21 T50_sound
end Go.Ev
namespace Go.Md
open Go Go.Ev
def P_lawsAt (code : List UInt8) (i : Int) (x : Int) : Prop := evFn ⟨Go.Proofs.Try.prog, Hx, 17⟩ T21.call 0 f17 [[.sl false 1 (enS false code)], [.int .i64 i]] = some ([[.int .i64 x]], []) ∧ (0 ≤ x ∧ x ≤ 255)
noncomputable def w_lawsAt (code : List UInt8) (i : Int) : Int := @Classical.epsilon (Int) ⟨0⟩ (P_lawsAt code i)
noncomputable def v0_lawsAt (code : List UInt8) (i : Int) : Int := (w_lawsAt code i)
end Go.Md
namespace Go.Ev
open Go.Md
def o17 (code : List UInt8) (i : Int) : Bool × List Row × List Row := (decide (code.length ≤ 1048576) && (decide (0 ≤ i) && decide (i ≤ 1000)), [[.int .i64 (v0_lawsAt code i)]], [])
def c17 : Contract
  | [[.sl false 1 code], [.int .i64 i]] => some (isS UInt8 false code && (o17 (deS UInt8 code) i).1, (o17 (deS UInt8 code) i).2.1, (o17 (deS UInt8 code) i).2.2)
  | _ => none

theorem r17 (code : List UInt8) (i : Int) (n : Nat) : evFn ⟨prog, Hx, 17⟩ T21.call n f17 [[.sl false 1 (enS false code)], [.int .i64 i]] = bif decide (i < ofNat (length (enS false code))) then bif decide (0 ≤ i) && decide (i < ofNat (length (enS false code))) then bif Leaf.fit false (Leaf.int IntKind.u8) (getD (getD (enS false code) (toNat i) []) 0 D.dead) && true then some ([[D.int i64 (wrap i64 (D.num (getD (getD (enS false code) (toNat i) []) 0 D.dead)))]], []) else none else none else some ([[D.int i64 (Int.tmod (wrap i64 (wrap i64 (i * 7) + ofNat (length (enS false code)))) (256))]], []) := by kernel_rfl
def G_lawsAt (code : List UInt8) (i : Int) (r : Option (List Row × List Row)) : Prop := ∃ x : Int, r = some ([[.int .i64 x]], []) ∧ (0 ≤ x ∧ x ≤ 255)
theorem leaf_lawsAt (code : List UInt8) (i : Int) {z0 : Int} (h : 0 ≤ (z0 : Int) ∧ (z0 : Int) ≤ 255) : G_lawsAt code i (some ([[.int .i64 z0]], [])) := ⟨z0, rfl, h⟩
theorem e_lawsAt (code : List UInt8) (i : Int) (hpre : (o17 code i).1 = true) : ∃ x, P_lawsAt code i x := by
  show G_lawsAt code i _
  refine Eq.mpr (congrArg (G_lawsAt code i) (r17 code i _)) ?_
  replace hpre : (decide (code.length ≤ 1048576) && (decide (0 ≤ i) && decide (i ≤ 1000))) = true := hpre
  simp only [Bool.and_eq_true, decide_eq_true_eq] at hpre
  obtain ⟨h1, h2, h3⟩ := hpre
  obtain ⟨k, rfl⟩ := Int.eq_ofNat_of_zero_le h2
  rw [enS_length]
  refine g_if (fun h => ?_) (fun h => ?_)
  · have hk : k < code.length := by
      have := of_decide_eq_true h
      exact Int.ofNat_lt.1 this
    rw [Int.toNat_natCast, enS_get false hk]
    refine g_pre (by rw [h, decide_eq_true h2]; rfl) (g_pre rfl ?_)
    refine leaf_lawsAt _ _  ?_
    show 0 ≤ IntKind.wrap IntKind.i64 ((code[k].toNat : Nat) : Int) ∧ IntKind.wrap IntKind.i64 ((code[k].toNat : Nat) : Int) ≤ 255
    have := code[k].toNat_lt
    rw [wrap_sm (by omega) (by omega)]
    omega
  · refine leaf_lawsAt _ _  ?_
    rw [wrap_sm (show -4611686018427387904 ≤ (k : Int) * 7 by omega) (by omega), wrap_sm (show -4611686018427387904 ≤ (k : Int) * 7 + Int.ofNat code.length by show _ ≤ (k : Int) * 7 + (code.length : Int); omega) (by show (k : Int) * 7 + (code.length : Int) ≤ _; omega)]
    have h5 : (0 : Int) ≤ (k : Int) * 7 + Int.ofNat code.length := by show (0 : Int) ≤ (k : Int) * 7 + (code.length : Int); omega
    have := mod_b (n := 256) h5
    have h6 := this.2 (by omega)
    exact ⟨this.1, by omega⟩
theorem p_lawsAt (code : List UInt8) (i : Int) (hpre : (o17 code i).1 = true) : 0 ≤ (v0_lawsAt code i) ∧ (v0_lawsAt code i) ≤ 255 := (Classical.epsilon_spec (e_lawsAt code i hpre)).2
theorem m17 (code : List UInt8) (i : Int) (hpre : (o17 code i).1 = true) : evFn ⟨Go.Proofs.Try.prog, Hx, 17⟩ T21.call 0 f17 [[.sl false 1 (enS false code)], [.int .i64 i]] = some (o17 code i).2 := (Classical.epsilon_spec (e_lawsAt code i hpre)).1
theorem s17 : SoundAt Go.Proofs.Try.prog Hx 17 c17 := soundAt_of T21_sound mixed func17 (by kernel_rfl) (by
  intro rows r h
  unfold c17 at h
  split at h
  · rename_i code i
    obtain ⟨hp, hr⟩ := Prod.mk.inj (Option.some.inj h)
    subst hr
    simp only [Bool.and_eq_true] at hp
    obtain ⟨hs0, hp⟩ := hp
    obtain ⟨xs0, rfl⟩ := isS_ex hs0
    simp only [deS_enS] at hp ⊢
    exact ⟨_, m17 xs0 i hp⟩
  · cases h)
def T17 : Table := (17, c17) :: T21
theorem T17_sound : Table.Sound Go.Proofs.Try.prog Hx T17 := Table.sound_cons s17 T21_sound
end Go.Ev
end
