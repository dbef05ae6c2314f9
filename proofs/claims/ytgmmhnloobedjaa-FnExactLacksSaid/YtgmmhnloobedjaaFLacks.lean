/- Contracts of functions, each by its evaluation. -/
import Derived.Test.YtgmmhnloobedjaaEvMd
import Derived.Test.YtgmmhnloobedjaaProg
import Derived.KernelRfl
import Derived.Test.YtgmmhnloobedjaaFHl
noncomputable section
namespace Go.Ev
open Go.RowKit Go.Md
set_option linter.unusedVariables false
set_option linter.unusedSimpArgs false
set_option maxRecDepth 100000
end Go.Ev
namespace Go.Md
open Go Go.Ev
def lacksL (n : Int) : Int → Nat → List Int
  | _, 0 => []
  | a, k + 1 => bif decide (a < n) then a :: lacksL n (IntKind.wrap IntKind.i64 (a + 1)) k else []
def lacks (a n : Int) : List Int := lacksL n a 20
theorem lacksL_length (n : Int) : ∀ (k : Nat) (a : Int), (lacksL n a k).length ≤ k
  | 0, _ => Nat.le_refl 0
  | k + 1, a => by
    unfold lacksL
    cases decide (a < n)
    · exact Nat.zero_le _
    · exact Nat.succ_le_succ (lacksL_length n k _)
theorem lacks_length (a n : Int) : (lacks a n).length ≤ 20 := lacksL_length n 20 a
end Go.Md
namespace Go.Ev
open Go.Md
/- specLacks -/
def o26 (c : Copy) (n_ : Int) : Bool × List Row × List Row := (true, [[.sl true 1 (enS true (lacks c.Next n_))]], [])
def c26 : Contract
  | [[.int .i64 c_Next, .sl false 4 c_Table], [.int .i64 n_]] => some (isS Heard false c_Table && (o26 ⟨c_Next, (deS Heard c_Table)⟩ n_).1, (o26 ⟨c_Next, (deS Heard c_Table)⟩ n_).2.1, (o26 ⟨c_Next, (deS Heard c_Table)⟩ n_).2.2)
  | _ => none

noncomputable def k26_0 (n : Nat) : Ex → St → Option (List Row × List Row) := kThen (fun st ↦ runCode (Ctx.mk Go.Proofs.Try.prog Hx (26)) (Table.call T30) n (codeAt [1, 1, 1] (bodyOf Go.Proofs.Try.f26)) (Lv.mk 16 [] 16) st (kLeave (Ctx.P (Ctx.mk Go.Proofs.Try.prog Hx (26))) (List.zip (Array.toList (Go.Func.resultTypes Go.Proofs.Try.f26)) (Array.toList (Go.Func.results Go.Proofs.Try.f26))) [] [])) (kLeave (Ctx.P (Ctx.mk Go.Proofs.Try.prog Hx (26))) (List.zip (Array.toList (Go.Func.resultTypes Go.Proofs.Try.f26)) (Array.toList (Go.Func.results Go.Proofs.Try.f26))) [] [])
noncomputable def k26_1 (n : Nat) : Ex → St → Option (List Row × List Row) := kBlock (0) (k26_0 n)
noncomputable def S26_0 (c : Copy) (n_ : Int) (i0 : Int) (es1 : List (List D)) : St := St.mk [TV.v false [C.undef], TV.v false [C.d (D.int IntKind.i64 n_)], TV.v false [C.undef], TV.v false [C.undef], TV.v false [C.undef], TV.v false [C.view 2 0 0 [] 1 none], TV.v false [C.d (D.int IntKind.i64 i0)], TV.v false [C.undef], TV.v false [C.undef], TV.v false [C.undef], TV.v false [C.undef], TV.v false [C.undef], TV.v false [C.undef], TV.v false [C.undef], TV.v false [C.undef], TV.v false [C.undef], TV.v false [C.undef], TV.v false [C.undef], TV.v false [C.undef], TV.v false [C.undef], TV.v false [C.undef], TV.v false [C.undef], TV.v false [C.undef], TV.v false [C.undef], TV.v false [C.undef]] [Root.mk true 2 [[D.int IntKind.i64 (Copy.Next c), D.sl false 4 (enS false (Copy.Table c))]] 0 0 true true, Root.mk false 1 [] 0 0 false true, Root.mk false 1 es1 0 0 true true]
noncomputable def B26_0 (n : Nat) : St → (Ex → St → Option (List Row × List Row)) → Option (List Row × List Row) := runCode (Ctx.mk Go.Proofs.Try.prog Hx (26)) (Table.call T30) n (codeAt [1, 1, 0, 1, 0, 0] (bodyOf Go.Proofs.Try.f26)) (Lv.mk 0 [(0, 32)] 16)
noncomputable def X26_2 (c : Copy) (n_ : Int) (i0 : Int) (es1 : List (List D)) : St := St.mk [TV.v false [C.undef], TV.v false [C.d (D.int IntKind.i64 n_)], TV.v false [C.undef], TV.v false [C.undef], TV.v false [C.undef], TV.v false [C.view 2 0 0 [] 1 none], TV.v false [C.d (D.int IntKind.i64 i0)], TV.v false [C.undef], TV.v false [C.undef], TV.v false [C.undef], TV.v false [C.d (D.int IntKind.i64 i0)], TV.v false [C.d (D.int IntKind.i64 n_)], TV.v false [C.d (D.bool (decide (i0 < n_)))], TV.v false [C.d (D.bool true)], TV.v false [C.view 2 0 0 [] 1 none], TV.v false [C.d (D.int IntKind.i64 (Int.ofNat (List.length es1)))], TV.v false [C.d (D.bool (decide (Int.ofNat (List.length es1) < 20)))], TV.v false [C.d (D.bool false)], TV.v false [C.undef], TV.v false [C.undef], TV.v false [C.undef], TV.v false [C.undef], TV.v false [C.undef], TV.v false [C.undef], TV.v false [C.undef]] [Root.mk true 2 [[D.int IntKind.i64 (Copy.Next c), D.sl false 4 (enS false (Copy.Table c))]] 0 0 true true, Root.mk false 1 [] 0 0 false true, Root.mk false 1 es1 0 0 true true]
noncomputable def X26_3 (c : Copy) (n_ : Int) (i0 : Int) (es1 : List (List D)) : St := St.mk [TV.v false [C.undef], TV.v false [C.d (D.int IntKind.i64 n_)], TV.v false [C.undef], TV.v false [C.undef], TV.v false [C.undef], TV.v false [C.view 2 0 0 [] 1 none], TV.v false [C.d (D.int IntKind.i64 i0)], TV.v false [C.undef], TV.v false [C.undef], TV.v false [C.undef], TV.v false [C.d (D.int IntKind.i64 i0)], TV.v false [C.d (D.int IntKind.i64 n_)], TV.v false [C.d (D.bool (decide (i0 < n_)))], TV.v false [C.d (D.bool false)], TV.v false [C.gone], TV.v false [C.gone], TV.v false [C.gone], TV.v false [C.d (D.bool false)], TV.v false [C.undef], TV.v false [C.undef], TV.v false [C.undef], TV.v false [C.undef], TV.v false [C.undef], TV.v false [C.undef], TV.v false [C.undef]] [Root.mk true 2 [[D.int IntKind.i64 (Copy.Next c), D.sl false 4 (enS false (Copy.Table c))]] 0 0 true true, Root.mk false 1 [] 0 0 false true, Root.mk false 1 es1 0 0 true true]
theorem q26_0 (c : Copy) (n_ : Int) (n : Nat) (i0 : Int) (es1 : List (List D)) (f : St → Option (List Row × List Row)) (K : Ex → St → Option (List Row × List Row)) : B26_0 n (S26_0 c n_ i0 es1) (@kThen (List Row × List Row) (fun st ↦ f (St.head 2 98 16776288 st)) K) = bif decide (i0 < n_) then bif decide (Int.ofNat (List.length es1) < 20) then bif decide ((List.length es1 + 1) * 8 ≤ 140737488355328) then f (S26_0 c n_ (IntKind.wrap IntKind.i64 (i0 + 1)) (List.append es1 [[D.int IntKind.i64 i0]])) else none else K (Ex.exit 0) (X26_2 c n_ i0 es1) else K (Ex.exit 0) (X26_3 c n_ i0 es1) := by kernel_rfl
theorem aX26_2 (c : Copy) (n_ : Int) (n : Nat) (i0 : Int) (es1 : List (List D)) : k26_1 n (Ex.exit 0) (X26_2 c n_ i0 es1) = some ([[D.sl true 1 es1]], []) := by kernel_rfl
theorem aX26_3 (c : Copy) (n_ : Int) (n : Nat) (i0 : Int) (es1 : List (List D)) : k26_1 n (Ex.exit 0) (X26_3 c n_ i0 es1) = some ([[D.sl true 1 es1]], []) := by kernel_rfl
theorem r26 (c : Copy) (n_ : Int) (n : Nat) : evFn ⟨Go.Proofs.Try.prog, Hx, 26⟩ T30.call n Go.Proofs.Try.f26 [[.int .i64 c.Next, .sl false 4 (enS false c.Table)], [.int .i64 n_]] = loopRun (B26_0 n) 2 98 16776288 n (S26_0 c n_ (Copy.Next c) []) (k26_1 n) := by kernel_rfl
theorem m26 (c : Copy) (n_ : Int) (hpre : (o26 c n_).1 = true) : evFn ⟨Go.Proofs.Try.prog, Hx, 26⟩ T30.call 21 Go.Proofs.Try.f26 [[.int .i64 c.Next, .sl false 4 (enS false c.Table)], [.int .i64 n_]] = some (o26 c n_).2 := by
  refine (r26 c n_ _).trans ?_
  show _ = (some ([[.sl true 1 (enS true (lacks c.Next n_))]], []) : Option (List Row × List Row))
  replace hpre : (true) = true := hpre
  refine loop_upto (fun i (v : Int × List Int) => S26_0 c n_ v.1 (enS true v.2)) (fun i v => v.2.length = i) (fun k i v => some ([[D.sl true 1 (enS true (v.2 ++ lacksL n_ v.1 k))]], [])) 20 ?_ ?_ 21 (c.Next, []) (by omega) rfl
  · rintro ⟨a, ys⟩ hl f
    refine (q26_0 c n_ _ _ _ f _).trans ?_
    simp only at hl
    have h20 : decide (Int.ofNat 20 < 20) = false := rfl
    simp only [enS_length, hl, lacksL, List.append_nil, h20, cond_false]
    cases decide (a < n_) <;> simp only [cond_true, cond_false]
    · exact aX26_3 c n_ _ _ _
    · exact aX26_2 c n_ _ _ _
  · rintro k i ⟨a, ys⟩ hk hl f hf
    refine (q26_0 c n_ _ _ _ f _).trans ?_
    simp only at hl
    have h1 : decide (Int.ofNat i < 20) = true := by simp; omega
    have h2 : decide ((i + 1) * 8 ≤ 140737488355328) = true := decide_eq_true (by omega)
    simp only [enS_length, hl, h1, h2, cond_true]
    cases hn : decide (a < n_) <;> simp only [cond_true, cond_false]
    · refine (aX26_3 c n_ _ _ _).trans ?_
      simp only [lacksL, hn, cond_false, List.append_nil]
    · refine (congrArg f (congrArg (S26_0 c n_ _) (enS_snoc true ys a))).trans ((hf (IntKind.wrap IntKind.i64 (a + 1), ys ++ [a]) (by simp [hl])).trans ?_)
      simp only [lacksL, hn, cond_true, List.append_assoc, List.singleton_append]
theorem s26 : SoundAt Go.Proofs.Try.prog Hx 26 c26 := soundAt_of T30_sound mixed Go.Proofs.Try.func26 (by kernel_rfl) (by
  intro rows r h
  unfold c26 at h
  split at h
  · rename_i c_Next c_Table n_
    obtain ⟨hp, hr⟩ := Prod.mk.inj (Option.some.inj h)
    subst hr
    simp only [Bool.and_eq_true] at hp
    obtain ⟨hs0, hp⟩ := hp
    obtain ⟨xs0, rfl⟩ := isS_ex hs0
    simp only [deS_enS] at hp ⊢
    exact ⟨_, m26 ⟨c_Next, xs0⟩ n_ hp⟩
  · cases h)
def T26 : Table := (26, c26) :: T30
theorem T26_sound : Table.Sound Go.Proofs.Try.prog Hx T26 := Table.sound_cons s26 T30_sound
/- implLacks -/
def o27 (c : Copy) (n_ : Int) : Bool × List Row × List Row := (true, [[.sl true 1 (enS true (lacks c.Next n_))]], [])
def c27 : Contract
  | [[.int .i64 c_Next, .sl false 4 c_Table], [.int .i64 n_]] => some (isS Heard false c_Table && (o27 ⟨c_Next, (deS Heard c_Table)⟩ n_).1, (o27 ⟨c_Next, (deS Heard c_Table)⟩ n_).2.1, (o27 ⟨c_Next, (deS Heard c_Table)⟩ n_).2.2)
  | _ => none

noncomputable def k27_0 (n : Nat) : Ex → St → Option (List Row × List Row) := kThen (fun st ↦ runCode (Ctx.mk Go.Proofs.Try.prog Hx (27)) (Table.call T26) n (codeAt [1, 1, 1] (bodyOf Go.Proofs.Try.f27)) (Lv.mk 16 [] 16) st (kLeave (Ctx.P (Ctx.mk Go.Proofs.Try.prog Hx (27))) (List.zip (Array.toList (Go.Func.resultTypes Go.Proofs.Try.f27)) (Array.toList (Go.Func.results Go.Proofs.Try.f27))) [] [])) (kLeave (Ctx.P (Ctx.mk Go.Proofs.Try.prog Hx (27))) (List.zip (Array.toList (Go.Func.resultTypes Go.Proofs.Try.f27)) (Array.toList (Go.Func.results Go.Proofs.Try.f27))) [] [])
noncomputable def k27_1 (n : Nat) : Ex → St → Option (List Row × List Row) := kBlock (0) (k27_0 n)
noncomputable def S27_0 (c : Copy) (n_ : Int) (i0 : Int) (es1 : List (List D)) : St := St.mk [TV.v false [C.undef], TV.v false [C.d (D.int IntKind.i64 n_)], TV.v false [C.undef], TV.v false [C.undef], TV.v false [C.undef], TV.v false [C.view 1 0 0 [] 1 none], TV.v false [C.d (D.int IntKind.i64 i0)], TV.v false [C.undef], TV.v false [C.undef], TV.v false [C.undef], TV.v false [C.undef], TV.v false [C.undef], TV.v false [C.undef], TV.v false [C.undef], TV.v false [C.undef], TV.v false [C.undef], TV.v false [C.undef], TV.v false [C.undef], TV.v false [C.undef], TV.v false [C.undef], TV.v false [C.undef], TV.v false [C.undef], TV.v false [C.undef], TV.v false [C.undef]] [Root.mk true 2 [[D.int IntKind.i64 (Copy.Next c), D.sl false 4 (enS false (Copy.Table c))]] 0 0 true true, Root.mk false 1 es1 0 0 true true]
noncomputable def B27_0 (n : Nat) : St → (Ex → St → Option (List Row × List Row)) → Option (List Row × List Row) := runCode (Ctx.mk Go.Proofs.Try.prog Hx (27)) (Table.call T26) n (codeAt [1, 1, 0, 1, 0, 0] (bodyOf Go.Proofs.Try.f27)) (Lv.mk 0 [(0, 32)] 16)
noncomputable def X27_2 (c : Copy) (n_ : Int) (i0 : Int) (es1 : List (List D)) : St := St.mk [TV.v false [C.undef], TV.v false [C.d (D.int IntKind.i64 n_)], TV.v false [C.undef], TV.v false [C.undef], TV.v false [C.undef], TV.v false [C.view 1 0 0 [] 1 none], TV.v false [C.d (D.int IntKind.i64 i0)], TV.v false [C.undef], TV.v false [C.undef], TV.v false [C.d (D.int IntKind.i64 i0)], TV.v false [C.d (D.int IntKind.i64 n_)], TV.v false [C.d (D.bool (decide (i0 < n_)))], TV.v false [C.d (D.bool true)], TV.v false [C.view 1 0 0 [] 1 none], TV.v false [C.d (D.int IntKind.i64 (Int.ofNat (List.length es1)))], TV.v false [C.d (D.bool (decide (Int.ofNat (List.length es1) < 20)))], TV.v false [C.d (D.bool false)], TV.v false [C.undef], TV.v false [C.undef], TV.v false [C.undef], TV.v false [C.undef], TV.v false [C.undef], TV.v false [C.undef], TV.v false [C.undef]] [Root.mk true 2 [[D.int IntKind.i64 (Copy.Next c), D.sl false 4 (enS false (Copy.Table c))]] 0 0 true true, Root.mk false 1 es1 0 0 true true]
noncomputable def X27_3 (c : Copy) (n_ : Int) (i0 : Int) (es1 : List (List D)) : St := St.mk [TV.v false [C.undef], TV.v false [C.d (D.int IntKind.i64 n_)], TV.v false [C.undef], TV.v false [C.undef], TV.v false [C.undef], TV.v false [C.view 1 0 0 [] 1 none], TV.v false [C.d (D.int IntKind.i64 i0)], TV.v false [C.undef], TV.v false [C.undef], TV.v false [C.d (D.int IntKind.i64 i0)], TV.v false [C.d (D.int IntKind.i64 n_)], TV.v false [C.d (D.bool (decide (i0 < n_)))], TV.v false [C.d (D.bool false)], TV.v false [C.gone], TV.v false [C.gone], TV.v false [C.gone], TV.v false [C.d (D.bool false)], TV.v false [C.undef], TV.v false [C.undef], TV.v false [C.undef], TV.v false [C.undef], TV.v false [C.undef], TV.v false [C.undef], TV.v false [C.undef]] [Root.mk true 2 [[D.int IntKind.i64 (Copy.Next c), D.sl false 4 (enS false (Copy.Table c))]] 0 0 true true, Root.mk false 1 es1 0 0 true true]
theorem q27_0 (c : Copy) (n_ : Int) (n : Nat) (i0 : Int) (es1 : List (List D)) (f : St → Option (List Row × List Row)) (K : Ex → St → Option (List Row × List Row)) : B27_0 n (S27_0 c n_ i0 es1) (@kThen (List Row × List Row) (fun st ↦ f (St.head 1 98 8388192 st)) K) = bif decide (i0 < n_) then bif decide (Int.ofNat (List.length es1) < 20) then bif decide ((List.length es1 + 1) * 8 ≤ 140737488355328) then f (S27_0 c n_ (IntKind.wrap IntKind.i64 (i0 + 1)) (List.append es1 [[D.int IntKind.i64 i0]])) else none else K (Ex.exit 0) (X27_2 c n_ i0 es1) else K (Ex.exit 0) (X27_3 c n_ i0 es1) := by kernel_rfl
theorem aX27_2 (c : Copy) (n_ : Int) (n : Nat) (i0 : Int) (es1 : List (List D)) : k27_1 n (Ex.exit 0) (X27_2 c n_ i0 es1) = some ([[D.sl true 1 es1]], []) := by kernel_rfl
theorem aX27_3 (c : Copy) (n_ : Int) (n : Nat) (i0 : Int) (es1 : List (List D)) : k27_1 n (Ex.exit 0) (X27_3 c n_ i0 es1) = some ([[D.sl true 1 es1]], []) := by kernel_rfl
theorem r27 (c : Copy) (n_ : Int) (n : Nat) : evFn ⟨Go.Proofs.Try.prog, Hx, 27⟩ T26.call n Go.Proofs.Try.f27 [[.int .i64 c.Next, .sl false 4 (enS false c.Table)], [.int .i64 n_]] = loopRun (B27_0 n) 1 98 8388192 n (S27_0 c n_ (Copy.Next c) []) (k27_1 n) := by kernel_rfl
theorem m27 (c : Copy) (n_ : Int) (hpre : (o27 c n_).1 = true) : evFn ⟨Go.Proofs.Try.prog, Hx, 27⟩ T26.call 21 Go.Proofs.Try.f27 [[.int .i64 c.Next, .sl false 4 (enS false c.Table)], [.int .i64 n_]] = some (o27 c n_).2 := by
  refine (r27 c n_ _).trans ?_
  show _ = (some ([[.sl true 1 (enS true (lacks c.Next n_))]], []) : Option (List Row × List Row))
  replace hpre : (true) = true := hpre
  refine loop_upto (fun i (v : Int × List Int) => S27_0 c n_ v.1 (enS true v.2)) (fun i v => v.2.length = i) (fun k i v => some ([[D.sl true 1 (enS true (v.2 ++ lacksL n_ v.1 k))]], [])) 20 ?_ ?_ 21 (c.Next, []) (by omega) rfl
  · rintro ⟨a, ys⟩ hl f
    refine (q27_0 c n_ _ _ _ f _).trans ?_
    simp only at hl
    have h20 : decide (Int.ofNat 20 < 20) = false := rfl
    simp only [enS_length, hl, lacksL, List.append_nil, h20, cond_false]
    cases decide (a < n_) <;> simp only [cond_true, cond_false]
    · exact aX27_3 c n_ _ _ _
    · exact aX27_2 c n_ _ _ _
  · rintro k i ⟨a, ys⟩ hk hl f hf
    refine (q27_0 c n_ _ _ _ f _).trans ?_
    simp only at hl
    have h1 : decide (Int.ofNat i < 20) = true := by simp; omega
    have h2 : decide ((i + 1) * 8 ≤ 140737488355328) = true := decide_eq_true (by omega)
    simp only [enS_length, hl, h1, h2, cond_true]
    cases hn : decide (a < n_) <;> simp only [cond_true, cond_false]
    · refine (aX27_3 c n_ _ _ _).trans ?_
      simp only [lacksL, hn, cond_false, List.append_nil]
    · refine (congrArg f (congrArg (S27_0 c n_ _) (enS_snoc true ys a))).trans ((hf (IntKind.wrap IntKind.i64 (a + 1), ys ++ [a]) (by simp [hl])).trans ?_)
      simp only [lacksL, hn, cond_true, List.append_assoc, List.singleton_append]
theorem s27 : SoundAt Go.Proofs.Try.prog Hx 27 c27 := soundAt_of T26_sound mixed Go.Proofs.Try.func27 (by kernel_rfl) (by
  intro rows r h
  unfold c27 at h
  split at h
  · rename_i c_Next c_Table n_
    obtain ⟨hp, hr⟩ := Prod.mk.inj (Option.some.inj h)
    subst hr
    simp only [Bool.and_eq_true] at hp
    obtain ⟨hs0, hp⟩ := hp
    obtain ⟨xs0, rfl⟩ := isS_ex hs0
    simp only [deS_enS] at hp ⊢
    exact ⟨_, m27 ⟨c_Next, xs0⟩ n_ hp⟩
  · cases h)
def T27 : Table := (27, c27) :: T26
theorem T27_sound : Table.Sound Go.Proofs.Try.prog Hx T27 := Table.sound_cons s27 T26_sound
/- law -/
def o7 (aC : Copy) (aN : Int) : Bool × List Row × List Row := (Copy.big aC, [[.bool (true)]], [])
def c7 : Contract
  | [[.int .i64 aC_Next, .sl false 4 aC_Table], [.int .i64 aN]] => some (isS Heard false aC_Table && (o7 ⟨aC_Next, (deS Heard aC_Table)⟩ aN).1, (o7 ⟨aC_Next, (deS Heard aC_Table)⟩ aN).2.1, (o7 ⟨aC_Next, (deS Heard aC_Table)⟩ aN).2.2)
  | _ => none

theorem r7 (aC : Copy) (aN : Int) (n : Nat) : evFn ⟨Go.Proofs.Try.prog, Hx, 7⟩ T27.call n Go.Proofs.Try.f7 [[.int .i64 aC.Next, .sl false 4 (enS false aC.Table)], [.int .i64 aN]] = bif isS Heard false (enS false (Copy.Table aC)) && Copy.big (Copy.mk (Copy.Next aC) (deS Heard (enS false (Copy.Table aC)))) then bif decide (szR (Copy.wt (Copy.mk (Copy.Next aC) (deS Heard (enS false (Copy.Table aC))))) (1048576) < 0) then some ([[D.bool true]], []) else bif isS Heard false (enS false (Copy.Table aC)) && Copy.small (Copy.mk (Copy.Next aC) (deS Heard (enS false (Copy.Table aC)))) then bif isS Heard false (lendRows (enS true (deS Heard (enS false (Copy.Table aC))))) && true then bif deepRows (enS true (lacks (Copy.Next aC) aN)) && true && true && true && true then bif isS Heard false (enS false (Copy.Table aC)) && Copy.small (Copy.mk (Copy.Next aC) (deS Heard (enS false (Copy.Table aC)))) then bif isS Heard false (lendRows (enS true (deS Heard (enS false (Copy.Table aC))))) && true then bif deepRows (enS true (lacks (Copy.Next aC) aN)) && true && true && true && true then bif isS Int false (lendRows (enS true (lacks (Copy.Next aC) aN))) && isS Int false (lendRows (enS true (lacks (Copy.Next aC) aN))) && (sameB (deS Int (lendRows (enS true (lacks (Copy.Next aC) aN)))) (deS Int (lendRows (enS true (lacks (Copy.Next aC) aN)))) && decide (List.length (deS Int (lendRows (enS true (lacks (Copy.Next aC) aN)))) ≤ 1048576)) then bif isS Heard false (enS false (Copy.Table aC)) && Copy.small (Copy.mk (Copy.Next aC) (deS Heard (enS false (Copy.Table aC)))) then bif isS Heard false (lendRows (enS true (deS Heard (enS false (Copy.Table aC))))) && isS Heard false (lendRows (enS true (deS Heard (enS false (Copy.Table aC))))) && (sameB (Copy.mk (Copy.Next aC) (deS Heard (lendRows (enS true (deS Heard (enS false (Copy.Table aC))))))) (Copy.mk (Copy.Next aC) (deS Heard (lendRows (enS true (deS Heard (enS false (Copy.Table aC))))))) && Copy.small (Copy.mk (Copy.Next aC) (deS Heard (lendRows (enS true (deS Heard (enS false (Copy.Table aC)))))))) then bif isS Heard true (enS true (deS Heard (enS false (Copy.Table aC)))) && (decide (1 + Copy.nTop (Copy.mk (Copy.Next aC) (deS Heard (enS true (deS Heard (enS false (Copy.Table aC)))))) ≤ 4611686018427387904) && decide (List.length (deS Heard (enS true (deS Heard (enS false (Copy.Table aC))))) ≤ 1152921504606846976)) then bif decide (1 + Copy.nTop (Copy.mk (Copy.Next aC) (deS Heard (enS true (deS Heard (enS false (Copy.Table aC)))))) < 0) then some ([[D.bool false]], []) else bif isS Int false (lendRows (enS true (lacks (Copy.Next aC) aN))) && isS Int false (lendRows (enS true (lacks (Copy.Next aC) aN))) && (sameB (deS Int (lendRows (enS true (lacks (Copy.Next aC) aN)))) (deS Int (lendRows (enS true (lacks (Copy.Next aC) aN)))) && decide (List.length (deS Int (lendRows (enS true (lacks (Copy.Next aC) aN)))) ≤ 1048576)) then bif isS Int true (enS true (lacks (Copy.Next aC) aN)) && (decide (1 + cntS oneN (deS Int (enS true (lacks (Copy.Next aC) aN))) ≤ 4611686018427387904) && decide (List.length (deS Int (enS true (lacks (Copy.Next aC) aN))) ≤ 1152921504606846976)) then bif isS Int false (lendRows (enS true (markS intMk oneN (deS Int (enS true (lacks (Copy.Next aC) aN))) (1)))) && (sameB (markS intMk oneN (deS Int (lendRows (enS true (markS intMk oneN (deS Int (enS true (lacks (Copy.Next aC) aN))) (1))))) (1)) (deS Int (lendRows (enS true (markS intMk oneN (deS Int (enS true (lacks (Copy.Next aC) aN))) (1))))) && (decide (1 + cntS oneN (deS Int (lendRows (enS true (markS intMk oneN (deS Int (enS true (lacks (Copy.Next aC) aN))) (1))))) ≤ 4611686018427387904) && decide (List.length (deS Int (lendRows (enS true (markS intMk oneN (deS Int (enS true (lacks (Copy.Next aC) aN))) (1))))) ≤ 1152921504606846976))) then bif decide (1 + cntS oneN (deS Int (lendRows (enS true (markS intMk oneN (deS Int (enS true (lacks (Copy.Next aC) aN))) (1))))) < 0) then some ([[D.bool false]], []) else bif 1 + cntS oneN (deS Int (lendRows (enS true (markS intMk oneN (deS Int (enS true (lacks (Copy.Next aC) aN))) (1))))) != 1 + cntS oneN (deS Int (enS true (lacks (Copy.Next aC) aN))) then some ([[D.bool false]], []) else bif isS Heard false (enS false (Copy.Table aC)) && Copy.small (Copy.mk (Copy.Next aC) (deS Heard (enS false (Copy.Table aC)))) then bif isS Heard false (lendRows (enS true (deS Heard (enS false (Copy.Table aC))))) && true then bif deepRows (enS true (lacks (Copy.Next aC) aN)) && true && true && true && true then bif isS Int false (lendRows (enS true (lacks (Copy.Next aC) aN))) && isS Int false (lendRows (enS true (lacks (Copy.Next aC) aN))) && (sameB (deS Int (lendRows (enS true (lacks (Copy.Next aC) aN)))) (deS Int (lendRows (enS true (lacks (Copy.Next aC) aN)))) && decide (List.length (deS Int (lendRows (enS true (lacks (Copy.Next aC) aN)))) ≤ 1048576)) then bif isS Int false (lendRows (enS true (markS intMk oneN (deS Int (enS true (lacks (Copy.Next aC) aN))) (1)))) && (sameB (markS intMk oneN (deS Int (lendRows (enS true (markS intMk oneN (deS Int (enS true (lacks (Copy.Next aC) aN))) (1))))) (1)) (deS Int (lendRows (enS true (markS intMk oneN (deS Int (enS true (lacks (Copy.Next aC) aN))) (1))))) && (decide (1 + cntS oneN (deS Int (lendRows (enS true (markS intMk oneN (deS Int (enS true (lacks (Copy.Next aC) aN))) (1))))) ≤ 4611686018427387904) && decide (List.length (deS Int (lendRows (enS true (markS intMk oneN (deS Int (enS true (lacks (Copy.Next aC) aN))) (1))))) ≤ 1152921504606846976))) then bif decide (1 + cntS oneN (deS Int (lendRows (enS true (markS intMk oneN (deS Int (enS true (lacks (Copy.Next aC) aN))) (1))))) < 0) then some ([[D.bool false]], []) else bif 1 + cntS oneN (deS Int (lendRows (enS true (markS intMk oneN (deS Int (enS true (lacks (Copy.Next aC) aN))) (1))))) != 1 + cntS oneN (deS Int (enS true (lacks (Copy.Next aC) aN))) then some ([[D.bool false]], []) else some ([[D.bool true]], []) else none else none else none else none else none else none else none else none else none else none else none else none else none else none else none else none else none else none else none := by kernel_rfl
theorem m7 (aC : Copy) (aN : Int) (hpre : (o7 aC aN).1 = true) : evFn ⟨Go.Proofs.Try.prog, Hx, 7⟩ T27.call 0 Go.Proofs.Try.f7 [[.int .i64 aC.Next, .sl false 4 (enS false aC.Table)], [.int .i64 aN]] = some (o7 aC aN).2 := by
  refine (r7 aC aN _).trans ?_
  show _ = (some ([[.bool (true)]], []) : Option (List Row × List Row))
  replace hpre : (Copy.big aC) = true := hpre
  rcases szR_cases (Copy.wt aC) 1048576 (by omega) with ⟨hw, _, hz⟩ | ⟨_, _, hz⟩
  case inr => simp only [hpre, isS_enS, deS_enS, Bool.and_self, cond_true, hz, Copy.eta]
  have hsm := Copy.small_of aC hw
  have hl := lacks_length aC.Next aN
  have ht : (aC.Table.length : Int) ≤ 1048576 := hw
  have hc1 : Copy.nTop aC = 4 * (aC.Table.length : Int) := cntS_const (fun _ => rfl) _
  generalize hg : lacks aC.Next aN = g at hl ⊢
  have hc2 : cntS oneN g = 1 * (g.length : Int) := cntS_const (fun _ => rfl) _
  obtain ⟨hi1, hi2⟩ := markS_idem (mk := intMk) (n := oneN) (fun _ _ => rfl) (fun _ _ => rfl) g 1
  have hi3 := markS_length intMk oneN g 1
  have d1 : decide (1 + Copy.nTop aC ≤ 4611686018427387904) = true := decide_eq_true (by omega)
  have d2 : decide (aC.Table.length ≤ 1152921504606846976) = true := decide_eq_true (by omega)
  have d3 : decide (1 + cntS oneN g ≤ 4611686018427387904) = true := decide_eq_true (by omega)
  have d4 : decide (g.length ≤ 1152921504606846976) = true := decide_eq_true (by omega)
  have d5 : decide (g.length ≤ 1048576) = true := decide_eq_true (by omega)
  have d6 : decide (1 + Copy.nTop aC < 0) = false := decide_eq_false (by omega)
  have d7 : decide (1 + cntS oneN g < 0) = false := decide_eq_false (by omega)
  simp only [hpre, hsm, hz, d1, d2, d3, d4, d5, d6, d7, hi1, hi2, hi3, isS_enS, deS_enS, lendRows_enS, deepRows_enS, sameB_self, enS_length, Bool.and_self, Bool.and_true, Bool.true_and, cond_true, cond_false, Copy.eta, Bool.not_true, bne_self_eq_false]
theorem s7 : SoundAt Go.Proofs.Try.prog Hx 7 c7 := soundAt_of T27_sound mixed Go.Proofs.Try.func7 (by kernel_rfl) (by
  intro rows r h
  unfold c7 at h
  split at h
  · rename_i aC_Next aC_Table aN
    obtain ⟨hp, hr⟩ := Prod.mk.inj (Option.some.inj h)
    subst hr
    simp only [Bool.and_eq_true] at hp
    obtain ⟨hs0, hp⟩ := hp
    obtain ⟨xs0, rfl⟩ := isS_ex hs0
    simp only [deS_enS] at hp ⊢
    exact ⟨_, m7 ⟨aC_Next, xs0⟩ aN hp⟩
  · cases h)
def T7 : Table := (7, c7) :: T27
theorem T7_sound : Table.Sound Go.Proofs.Try.prog Hx T7 := Table.sound_cons s7 T27_sound
end Go.Ev
end
