/- Contracts of functions, each by its evaluation. -/
import Derived.Test.YtgklglkmfgfodaaEvMd
import Derived.Test.YtgklglkmfgfodaaProg
import Derived.KernelRfl
import Derived.Test.YtgklglkmfgfodaaFFall
set_option linter.unusedVariables false
set_option linter.unusedSimpArgs false
set_option maxRecDepth 100000
noncomputable section
open List (getD length drop take set append replicate all isEmpty)
open Int (toNat ofNat)
open Go.IntKind (i64 wrap)
open Go.Proofs.Try (prog f27 f52 func27 func52)
namespace Go.Ev
open Go.RowKit Go.Md
end Go.Ev
namespace Go.Md
open Go Go.Ev
def lacksL (n : Int) : Int → Nat → List Int
  | _, 0 => []
  | a, k + 1 => bif decide (a < n) then a :: lacksL n (IntKind.wrap IntKind.i64 (a + 1)) k else []
def lacks (a n : Int) : List Int := lacksL n a 20
theorem lacksL_length (n : Int) : ∀ (k : Nat) (a : Int), (lacksL n a k).length ≤ k
  | 0, _ => Nat.le_refl 0
  | k + 1, a => by
    unfold lacksL
    cases decide (a < n)
    · exact Nat.zero_le _
    · exact Nat.succ_le_succ (lacksL_length n k _)
theorem lacks_length (a n : Int) : (lacks a n).length ≤ 20 := lacksL_length n 20 a
end Go.Md
namespace Go.Ev
open Go.Md
def o52 (c : Copy) (n_ : Int) : Bool × List Row × List Row := (true, [[.sl true 1 (enS true (lacks c.Next n_))]], [])
def c52 : Contract
  | [[.int .i64 c_Next, .sl false 4 c_Table], [.int .i64 n_]] => some (isS Heard false c_Table && (o52 ⟨c_Next, (deS Heard c_Table)⟩ n_).1, (o52 ⟨c_Next, (deS Heard c_Table)⟩ n_).2.1, (o52 ⟨c_Next, (deS Heard c_Table)⟩ n_).2.2)
  | _ => none

def k52_0 (n : Nat) : Ex → St → RR := kThen (fun st ↦ runCode (Ctx.mk prog Hx (52)) (Table.call T47) n (codeAt [1, 1, 1] (bodyOf f52)) (Lv.mk 16 [] 16) st (kLeave (Ctx.P (Ctx.mk prog Hx (52))) (List.zip (Array.toList (Go.Func.resultTypes f52)) (Array.toList (Go.Func.results f52))) [] [])) (kLeave (Ctx.P (Ctx.mk prog Hx (52))) (List.zip (Array.toList (Go.Func.resultTypes f52)) (Array.toList (Go.Func.results f52))) [] [])
def k52_1 (n : Nat) : Ex → St → RR := kBlock (0) (k52_0 n)
def S52_0 (c : Copy) (n_ : Int) (i0 : Int) (es1 : List (List D)) : St := St.mk [U_, I_ n_, U_, U_, U_, V_ [C.view 2 0 0 [] 1 none], I_ i0, U_, U_, U_, U_, U_, U_, U_, U_, U_, U_, U_, U_, U_, U_, U_, U_, U_, U_] [Root.mk true 2 [[D.int i64 (Copy.Next c), D.sl false 4 (enS false (Copy.Table c))]] 0 0 true true false, Root.mk false 1 [] 0 0 false true false, Root.mk false 1 es1 0 0 true true false]
def B52_0 (n : Nat) : St → (Ex → St → RR) → RR := runCode (Ctx.mk prog Hx (52)) (Table.call T47) n (codeAt [1, 1, 0, 1, 0, 0] (bodyOf f52)) (Lv.mk 98 [(0, 32)] 16)
def X52_2 (c : Copy) (n_ : Int) (i0 : Int) (es1 : List (List D)) : St := St.mk [U_, I_ n_, U_, U_, U_, V_ [C.view 2 0 0 [] 1 none], I_ i0, U_, U_, U_, I_ i0, I_ n_, B_ (decide (i0 < n_)), B_ true, V_ [C.view 2 0 0 [] 1 none], I_ (ofNat (length es1)), B_ (decide (ofNat (length es1) < 20)), B_ false, U_, U_, U_, U_, U_, U_, U_] [Root.mk true 2 [[D.int i64 (Copy.Next c), D.sl false 4 (enS false (Copy.Table c))]] 0 0 true true false, Root.mk false 1 [] 0 0 false true false, Root.mk false 1 es1 0 0 true true false]
def X52_3 (c : Copy) (n_ : Int) (i0 : Int) (es1 : List (List D)) : St := St.mk [U_, I_ n_, U_, U_, U_, V_ [C.view 2 0 0 [] 1 none], I_ i0, U_, U_, U_, I_ i0, I_ n_, B_ (decide (i0 < n_)), B_ false, V_ [C.gone], V_ [C.gone], V_ [C.gone], B_ false, U_, U_, U_, U_, U_, U_, U_] [Root.mk true 2 [[D.int i64 (Copy.Next c), D.sl false 4 (enS false (Copy.Table c))]] 0 0 true true false, Root.mk false 1 [] 0 0 false true false, Root.mk false 1 es1 0 0 true true false]
theorem q52_0 (c : Copy) (n_ : Int) (n : Nat) (i0 : Int) (es1 : List (List D)) (f : St → RR) (K : Ex → St → RR) : B52_0 n (S52_0 c n_ i0 es1) (kThen (fun st ↦ f (St.head 2 98 16776288 st)) K) = bif decide (i0 < n_) then bif decide (ofNat (length es1) < 20) then bif decide ((length es1 + 1) * 8 ≤ 140737488355328) then f (S52_0 c n_ (wrap i64 (i0 + 1)) (append es1 [[D.int i64 i0]])) else none else K (Ex.exit 0) (X52_2 c n_ i0 es1) else K (Ex.exit 0) (X52_3 c n_ i0 es1) := by kernel_rfl
theorem aX52_2 (c : Copy) (n_ : Int) (n : Nat) (i0 : Int) (es1 : List (List D)) : k52_1 n (Ex.exit 0) (X52_2 c n_ i0 es1) = some ([[D.sl true 1 es1]], []) := by kernel_rfl
theorem aX52_3 (c : Copy) (n_ : Int) (n : Nat) (i0 : Int) (es1 : List (List D)) : k52_1 n (Ex.exit 0) (X52_3 c n_ i0 es1) = some ([[D.sl true 1 es1]], []) := by kernel_rfl
theorem r52 (c : Copy) (n_ : Int) (n : Nat) : evFn ⟨prog, Hx, 52⟩ T47.call n f52 [[.int .i64 c.Next, .sl false 4 (enS false c.Table)], [.int .i64 n_]] = loopRun (B52_0 n) 2 98 16776288 n (S52_0 c n_ (Copy.Next c) []) (k52_1 n) := by kernel_rfl
theorem m52 (c : Copy) (n_ : Int) (hpre : (o52 c n_).1 = true) : evFn ⟨Go.Proofs.Try.prog, Hx, 52⟩ T47.call 21 f52 [[.int .i64 c.Next, .sl false 4 (enS false c.Table)], [.int .i64 n_]] = some (o52 c n_).2 := by
  refine (r52 c n_ _).trans ?_
  show _ = (some ([[.sl true 1 (enS true (lacks c.Next n_))]], []) : Option (List Row × List Row))
  replace hpre : (true) = true := hpre
  refine loop_upto (fun i (v : Int × List Int) => S52_0 c n_ v.1 (enS true v.2)) (fun i v => v.2.length = i) (fun k i v => some ([[D.sl true 1 (enS true (v.2 ++ lacksL n_ v.1 k))]], [])) 20 ?_ ?_ 21 (c.Next, []) (by omega) rfl
  · rintro ⟨a, ys⟩ hl f
    refine (q52_0 c n_ _ _ _ f _).trans ?_
    simp only at hl
    have h20 : decide (Int.ofNat 20 < 20) = false := rfl
    simp only [enS_length, hl, lacksL, List.append_nil, h20, cond_false]
    cases decide (a < n_) <;> simp only [cond_true, cond_false]
    · exact aX52_3 c n_ _ _ _
    · exact aX52_2 c n_ _ _ _
  · rintro k i ⟨a, ys⟩ hk hl f hf
    refine (q52_0 c n_ _ _ _ f _).trans ?_
    simp only at hl
    have h1 : decide (Int.ofNat i < 20) = true := by simp; omega
    have h2 : decide ((i + 1) * 8 ≤ 140737488355328) = true := decide_eq_true (by omega)
    simp only [enS_length, hl, h1, h2, cond_true]
    cases hn : decide (a < n_) <;> simp only [cond_true, cond_false]
    · refine (aX52_3 c n_ _ _ _).trans ?_
      simp only [lacksL, hn, cond_false, List.append_nil]
    · refine (congrArg f (congrArg (S52_0 c n_ _) (enS_snoc true ys a))).trans ((hf (IntKind.wrap IntKind.i64 (a + 1), ys ++ [a]) (by simp [hl])).trans ?_)
      simp only [lacksL, hn, cond_true, List.append_assoc, List.singleton_append]
theorem s52 : SoundAt Go.Proofs.Try.prog Hx 52 c52 := soundAt_of T47_sound mixed func52 (by kernel_rfl) (by
  intro rows r h
  unfold c52 at h
  split at h
  · rename_i c_Next c_Table n_
    obtain ⟨hp, hr⟩ := Prod.mk.inj (Option.some.inj h)
    subst hr
    simp only [Bool.and_eq_true] at hp
    obtain ⟨hs0, hp⟩ := hp
    obtain ⟨xs0, rfl⟩ := isS_ex hs0
    simp only [deS_enS] at hp ⊢
    exact ⟨_, m52 ⟨c_Next, xs0⟩ n_ hp⟩
  · cases h)
def T52 : Table := (52, c52) :: T47
theorem T52_sound : Table.Sound Go.Proofs.Try.prog Hx T52 := Table.sound_cons s52 T47_sound
def o27 (c : Copy) (n_ : Int) : Bool × List Row × List Row := (true, [[.sl true 1 (enS true (lacks c.Next n_))]], [])
def c27 : Contract
  | [[.int .i64 c_Next, .sl false 4 c_Table], [.int .i64 n_]] => some (isS Heard false c_Table && (o27 ⟨c_Next, (deS Heard c_Table)⟩ n_).1, (o27 ⟨c_Next, (deS Heard c_Table)⟩ n_).2.1, (o27 ⟨c_Next, (deS Heard c_Table)⟩ n_).2.2)
  | _ => none

def k27_0 (n : Nat) : Ex → St → RR := kThen (fun st ↦ runCode (Ctx.mk prog Hx (27)) (Table.call T52) n (codeAt [1, 1, 1] (bodyOf f27)) (Lv.mk 16 [] 16) st (kLeave (Ctx.P (Ctx.mk prog Hx (27))) (List.zip (Array.toList (Go.Func.resultTypes f27)) (Array.toList (Go.Func.results f27))) [] [])) (kLeave (Ctx.P (Ctx.mk prog Hx (27))) (List.zip (Array.toList (Go.Func.resultTypes f27)) (Array.toList (Go.Func.results f27))) [] [])
def k27_1 (n : Nat) : Ex → St → RR := kBlock (0) (k27_0 n)
def S27_0 (c : Copy) (n_ : Int) (i0 : Int) (es1 : List (List D)) : St := St.mk [U_, I_ n_, U_, U_, U_, V_ [C.view 1 0 0 [] 1 none], I_ i0, U_, U_, U_, U_, U_, U_, U_, U_, U_, U_, U_, U_, U_, U_, U_, U_, U_] [Root.mk true 2 [[D.int i64 (Copy.Next c), D.sl false 4 (enS false (Copy.Table c))]] 0 0 true true false, Root.mk false 1 es1 0 0 true true false]
def B27_0 (n : Nat) : St → (Ex → St → RR) → RR := runCode (Ctx.mk prog Hx (27)) (Table.call T52) n (codeAt [1, 1, 0, 1, 0, 0] (bodyOf f27)) (Lv.mk 98 [(0, 32)] 16)
def X27_2 (c : Copy) (n_ : Int) (i0 : Int) (es1 : List (List D)) : St := St.mk [U_, I_ n_, U_, U_, U_, V_ [C.view 1 0 0 [] 1 none], I_ i0, U_, U_, I_ i0, I_ n_, B_ (decide (i0 < n_)), B_ true, V_ [C.view 1 0 0 [] 1 none], I_ (ofNat (length es1)), B_ (decide (ofNat (length es1) < 20)), B_ false, U_, U_, U_, U_, U_, U_, U_] [Root.mk true 2 [[D.int i64 (Copy.Next c), D.sl false 4 (enS false (Copy.Table c))]] 0 0 true true false, Root.mk false 1 es1 0 0 true true false]
def X27_3 (c : Copy) (n_ : Int) (i0 : Int) (es1 : List (List D)) : St := St.mk [U_, I_ n_, U_, U_, U_, V_ [C.view 1 0 0 [] 1 none], I_ i0, U_, U_, I_ i0, I_ n_, B_ (decide (i0 < n_)), B_ false, V_ [C.gone], V_ [C.gone], V_ [C.gone], B_ false, U_, U_, U_, U_, U_, U_, U_] [Root.mk true 2 [[D.int i64 (Copy.Next c), D.sl false 4 (enS false (Copy.Table c))]] 0 0 true true false, Root.mk false 1 es1 0 0 true true false]
theorem q27_0 (c : Copy) (n_ : Int) (n : Nat) (i0 : Int) (es1 : List (List D)) (f : St → RR) (K : Ex → St → RR) : B27_0 n (S27_0 c n_ i0 es1) (kThen (fun st ↦ f (St.head 1 98 8388192 st)) K) = bif decide (i0 < n_) then bif decide (ofNat (length es1) < 20) then bif decide ((length es1 + 1) * 8 ≤ 140737488355328) then f (S27_0 c n_ (wrap i64 (i0 + 1)) (append es1 [[D.int i64 i0]])) else none else K (Ex.exit 0) (X27_2 c n_ i0 es1) else K (Ex.exit 0) (X27_3 c n_ i0 es1) := by kernel_rfl
theorem aX27_2 (c : Copy) (n_ : Int) (n : Nat) (i0 : Int) (es1 : List (List D)) : k27_1 n (Ex.exit 0) (X27_2 c n_ i0 es1) = some ([[D.sl true 1 es1]], []) := by kernel_rfl
theorem aX27_3 (c : Copy) (n_ : Int) (n : Nat) (i0 : Int) (es1 : List (List D)) : k27_1 n (Ex.exit 0) (X27_3 c n_ i0 es1) = some ([[D.sl true 1 es1]], []) := by kernel_rfl
theorem r27 (c : Copy) (n_ : Int) (n : Nat) : evFn ⟨prog, Hx, 27⟩ T52.call n f27 [[.int .i64 c.Next, .sl false 4 (enS false c.Table)], [.int .i64 n_]] = loopRun (B27_0 n) 1 98 8388192 n (S27_0 c n_ (Copy.Next c) []) (k27_1 n) := by kernel_rfl
theorem m27 (c : Copy) (n_ : Int) (hpre : (o27 c n_).1 = true) : evFn ⟨Go.Proofs.Try.prog, Hx, 27⟩ T52.call 21 f27 [[.int .i64 c.Next, .sl false 4 (enS false c.Table)], [.int .i64 n_]] = some (o27 c n_).2 := by
  refine (r27 c n_ _).trans ?_
  show _ = (some ([[.sl true 1 (enS true (lacks c.Next n_))]], []) : Option (List Row × List Row))
  replace hpre : (true) = true := hpre
  refine loop_upto (fun i (v : Int × List Int) => S27_0 c n_ v.1 (enS true v.2)) (fun i v => v.2.length = i) (fun k i v => some ([[D.sl true 1 (enS true (v.2 ++ lacksL n_ v.1 k))]], [])) 20 ?_ ?_ 21 (c.Next, []) (by omega) rfl
  · rintro ⟨a, ys⟩ hl f
    refine (q27_0 c n_ _ _ _ f _).trans ?_
    simp only at hl
    have h20 : decide (Int.ofNat 20 < 20) = false := rfl
    simp only [enS_length, hl, lacksL, List.append_nil, h20, cond_false]
    cases decide (a < n_) <;> simp only [cond_true, cond_false]
    · exact aX27_3 c n_ _ _ _
    · exact aX27_2 c n_ _ _ _
  · rintro k i ⟨a, ys⟩ hk hl f hf
    refine (q27_0 c n_ _ _ _ f _).trans ?_
    simp only at hl
    have h1 : decide (Int.ofNat i < 20) = true := by simp; omega
    have h2 : decide ((i + 1) * 8 ≤ 140737488355328) = true := decide_eq_true (by omega)
    simp only [enS_length, hl, h1, h2, cond_true]
    cases hn : decide (a < n_) <;> simp only [cond_true, cond_false]
    · refine (aX27_3 c n_ _ _ _).trans ?_
      simp only [lacksL, hn, cond_false, List.append_nil]
    · refine (congrArg f (congrArg (S27_0 c n_ _) (enS_snoc true ys a))).trans ((hf (IntKind.wrap IntKind.i64 (a + 1), ys ++ [a]) (by simp [hl])).trans ?_)
      simp only [lacksL, hn, cond_true, List.append_assoc, List.singleton_append]
theorem s27 : SoundAt Go.Proofs.Try.prog Hx 27 c27 := soundAt_of T52_sound mixed func27 (by kernel_rfl) (by
  intro rows r h
  unfold c27 at h
  split at h
  · rename_i c_Next c_Table n_
    obtain ⟨hp, hr⟩ := Prod.mk.inj (Option.some.inj h)
    subst hr
    simp only [Bool.and_eq_true] at hp
    obtain ⟨hs0, hp⟩ := hp
    obtain ⟨xs0, rfl⟩ := isS_ex hs0
    simp only [deS_enS] at hp ⊢
    exact ⟨_, m27 ⟨c_Next, xs0⟩ n_ hp⟩
  · cases h)
def T27 : Table := (27, c27) :: T52
theorem T27_sound : Table.Sound Go.Proofs.Try.prog Hx T27 := Table.sound_cons s27 T52_sound
end Go.Ev
end
