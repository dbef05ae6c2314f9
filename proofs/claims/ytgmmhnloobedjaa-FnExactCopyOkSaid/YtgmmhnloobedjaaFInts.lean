/- Contracts of functions, each by its evaluation. -/
import Derived.Test.YtgmmhnloobedjaaEvLib
import Derived.Test.YtgmmhnloobedjaaProg
import Derived.KernelRfl
import Derived.Test.YtgmmhnloobedjaaFBucket
namespace Go.Ev
open Go.RowKit Go.Md
set_option linter.unusedVariables false
set_option linter.unusedSimpArgs false
set_option maxRecDepth 100000
end Go.Ev
namespace Go.Md
open Go Go.Ev
def isInts (es : List (List D)) : Bool := isRow false [.int .i64] es && decide (es.length ≤ 1048576)
def ints (es : List (List D)) : List Int := es.map fun r => (r.getD 0 .dead).num
def eqInts (es es' : List (List D)) : Bool := ints es == ints es'
theorem isInts_row {es : List (List D)} (h : isInts es = true) : isRow false [.int .i64] es = true ∧ es.length ≤ 1048576 := by simpa [isInts] using h
theorem isInts_at {es : List (List D)} (h : isInts es = true) {i : Nat} (hi : i < es.length) : ∃ x, es.getD i [] = [.int .i64 x] := fits_int (isRow_get (isInts_row h).1 hi)
theorem ints_get {es : List (List D)} (i : Nat) (hi : i < es.length) : (ints es)[i]? = some ((es.getD i []).getD 0 .dead).num := by
  unfold ints
  rw [List.getElem?_map, List.getD_eq_getElem?_getD (l := es), List.getElem?_eq_getElem hi]
  rfl
end Go.Md
namespace Go.Ev
open Go.Md
/- toIntS -/
def c14 : Contract
  | [[.sl false 1 es]] => some (isInts es, [[.sl true 1 es]], [])
  | _ => none

noncomputable def k14_0 (n : Nat) : Ex → St → Option (List Row × List Row) := kThen (fun st ↦ runCode (Ctx.mk Go.Proofs.Try.prog Hx (14)) (Table.call T42) n (codeAt [1, 1, 1] (bodyOf Go.Proofs.Try.f14)) (Lv.mk 4 [] 4) st (kLeave (Ctx.P (Ctx.mk Go.Proofs.Try.prog Hx (14))) (List.zip (Array.toList (Go.Func.resultTypes Go.Proofs.Try.f14)) (Array.toList (Go.Func.results Go.Proofs.Try.f14))) [])) (kLeave (Ctx.P (Ctx.mk Go.Proofs.Try.prog Hx (14))) (List.zip (Array.toList (Go.Func.resultTypes Go.Proofs.Try.f14)) (Array.toList (Go.Func.results Go.Proofs.Try.f14))) [])
noncomputable def k14_1 (n : Nat) : Ex → St → Option (List Row × List Row) := kBlock (0) (k14_0 n)
noncomputable def S14_0 (es : List (List D)) (i0 : Int) (es1 : List (List D)) : St := St.mk [TV.v false [C.d (D.sl false 1 es)], TV.v false [C.undef], TV.v false [C.undef], TV.v false [C.view 0 0 0 [] 1 none], TV.v false [C.d (D.int IntKind.i64 i0)], TV.v false [C.undef], TV.v false [C.undef], TV.v false [C.undef], TV.v false [C.undef], TV.v false [C.undef], TV.v false [C.undef], TV.v false [C.undef], TV.v false [C.undef], TV.v false [C.undef], TV.v false [C.undef], TV.v false [C.undef], TV.v false [C.undef], TV.v false [C.undef], TV.v false [C.undef], TV.v false [C.undef], TV.v false [C.undef], TV.v false [C.undef]] [Root.mk false 1 es1 0 0 true true]
noncomputable def B14_0 (n : Nat) : St → (Ex → St → Option (List Row × List Row)) → Option (List Row × List Row) := runCode (Ctx.mk Go.Proofs.Try.prog Hx (14)) (Table.call T42) n (codeAt [1, 1, 0, 1, 0, 0] (bodyOf Go.Proofs.Try.f14)) (Lv.mk 0 [(0, 8)] 4)
noncomputable def X14_2 (es : List (List D)) (i0 : Int) (es1 : List (List D)) : St := St.mk [TV.v false [C.d (D.sl false 1 es)], TV.v false [C.undef], TV.v false [C.undef], TV.v false [C.view 0 0 0 [] 1 none], TV.v false [C.d (D.int IntKind.i64 i0)], TV.v false [C.undef], TV.v false [C.undef], TV.v false [C.undef], TV.v false [C.d (D.int IntKind.i64 i0)], TV.v false [C.d (D.sl false 1 es)], TV.v false [C.d (D.int IntKind.i64 (Int.ofNat (List.length es)))], TV.v false [C.d (D.bool false)], TV.v false [C.undef], TV.v false [C.undef], TV.v false [C.undef], TV.v false [C.undef], TV.v false [C.undef], TV.v false [C.undef], TV.v false [C.undef], TV.v false [C.undef], TV.v false [C.undef], TV.v false [C.undef]] [Root.mk false 1 es1 0 0 true true]
theorem q14_0 (es : List (List D)) (n : Nat) (i0 : Int) (es1 : List (List D)) (f : St → Option (List Row × List Row)) (K : Ex → St → Option (List Row × List Row)) : B14_0 n (S14_0 es i0 es1) (@kThen (List Row × List Row) (fun st ↦ f (St.head 1 25 2096912 st)) K) = bif decide (i0 < Int.ofNat (List.length es)) then bif decide (0 ≤ i0) && decide (i0 < Int.ofNat (List.length es)) then bif Leaf.fit false (Leaf.int IntKind.i64) (List.getD (List.getD es (Int.toNat i0) []) 0 D.dead) && true then bif decide (0 ≤ i0) && decide (i0 < Int.ofNat (List.length es1)) then f (S14_0 es (IntKind.wrap IntKind.i64 (i0 + 1)) (List.set es1 (0 + Int.toNat i0) [D.int IntKind.i64 (D.num (List.getD (List.getD es (Int.toNat i0) []) 0 D.dead))])) else none else none else none else K (Ex.exit 0) (X14_2 es i0 es1) := by kernel_rfl
theorem aX14_2 (es : List (List D)) (n : Nat) (i0 : Int) (es1 : List (List D)) : k14_1 n (Ex.exit 0) (X14_2 es i0 es1) = some ([[D.sl true 1 es1]], []) := by kernel_rfl
theorem r14 (es : List (List D)) (n : Nat) : evFn ⟨Go.Proofs.Try.prog, Hx, 14⟩ T42.call n Go.Proofs.Try.f14 [[.sl false 1 es]] = bif decide (0 ≤ Int.ofNat (List.length es)) && (decide (Int.ofNat (List.length es) ≤ Int.ofNat (List.length es)) && decide (Int.toNat (Int.ofNat (List.length es)) * 8 ≤ 140737488355328)) then loopRun (B14_0 n) 1 25 2096912 n (S14_0 es (0) (List.replicate (Int.toNat (Int.ofNat (List.length es))) [D.int IntKind.i64 (0)])) (k14_1 n) else none := by kernel_rfl
theorem m14 (es : List (List D)) (hpre : (isInts es) = true) : evFn ⟨Go.Proofs.Try.prog, Hx, 14⟩ T42.call (es.length + 1) Go.Proofs.Try.f14 [[.sl false 1 es]] = some ([[.sl true 1 es]], []) := by
  refine (r14 es _).trans ?_
  obtain ⟨hrow, hlen⟩ := isInts_row hpre
  rw [make_ok (by omega), cond_true]
  refine loop_scan (es := es) (fun i xs => S14_0 es (Int.ofNat i) xs) (fun i xs => xs.length = es.length ∧ xs.take i = es.take i) (fun _ _ => some ([[D.sl true 1 es]], [])) ?_ ?_ (es.length + 1) (List.replicate es.length [D.int IntKind.i64 0]) (by omega) ⟨List.length_replicate .., rfl⟩
  · rintro xs ⟨h2, h3⟩ f
    refine (q14_0 es _ _ xs f _).trans ?_
    simp only [dec_lt, Nat.lt_irrefl, decide_false, cond_false]
    rw [List.take_length, ← h2, List.take_length] at h3
    subst h3
    exact aX14_2 xs _ _ xs
  · rintro i xs hi ⟨h2, h3⟩ f hf
    obtain ⟨x, hx⟩ := isInts_at hpre hi
    refine (q14_0 es _ _ xs f _).trans ?_
    rw [toNat_of, hx, dec_lt, dec_lt, dec_ge, h2, Nat.zero_add, wrap_succ (by omega)]
    simp only [hi, decide_true, cond_true, Bool.and_self, Leaf.fit, List.getD_cons_zero, D.num]
    refine hf (xs.set i [.int .i64 x]) ⟨by simp [h2], ?_⟩
    rw [← hx]
    exact getD_take_succ hi h2 h3
theorem s14 : SoundAt Go.Proofs.Try.prog Hx 14 c14 := soundAt_of T42_sound mixed Go.Proofs.Try.func14 (by kernel_rfl) (by
  intro rows r h
  unfold c14 at h
  split at h
  · rename_i es
    injection h with h
    injection h with hp h
    subst h
    exact ⟨_, m14 es hp⟩
  · cases h)
def T14 : Table := (14, c14) :: T42
theorem T14_sound : Table.Sound Go.Proofs.Try.prog Hx T14 := Table.sound_cons s14 T42_sound
/- eqIntS -/
def c17 : Contract
  | [[.sl false 1 es], [.sl false 1 es']] => some (isInts es && isInts es', [[.bool (eqInts es es')]], [])
  | _ => none

noncomputable def k17_0 (n : Nat) : Ex → St → Option (List Row × List Row) := kThen (fun st ↦ runCode (Ctx.mk Go.Proofs.Try.prog Hx (17)) (Table.call T14) n (codeAt [1, 1, 1] (bodyOf Go.Proofs.Try.f17)) (Lv.mk 16 [] 16) st (kLeave (Ctx.P (Ctx.mk Go.Proofs.Try.prog Hx (17))) (List.zip (Array.toList (Go.Func.resultTypes Go.Proofs.Try.f17)) (Array.toList (Go.Func.results Go.Proofs.Try.f17))) [])) (kLeave (Ctx.P (Ctx.mk Go.Proofs.Try.prog Hx (17))) (List.zip (Array.toList (Go.Func.resultTypes Go.Proofs.Try.f17)) (Array.toList (Go.Func.results Go.Proofs.Try.f17))) [])
noncomputable def k17_1 (n : Nat) : Ex → St → Option (List Row × List Row) := kBlock (0) (k17_0 n)
noncomputable def S17_0 (es : List (List D)) (es' : List (List D)) (i0 : Int) : St := St.mk [TV.v false [C.d (D.sl false 1 es)], TV.v false [C.d (D.sl false 1 es')], TV.v false [C.undef], TV.v false [C.undef], TV.v false [C.undef], TV.v false [C.d (D.int IntKind.i64 i0)], TV.v false [C.undef], TV.v false [C.undef], TV.v false [C.undef], TV.v false [C.undef], TV.v false [C.undef], TV.v false [C.undef], TV.v false [C.undef], TV.v false [C.undef], TV.v false [C.undef], TV.v false [C.undef], TV.v false [C.undef], TV.v false [C.undef], TV.v false [C.undef], TV.v false [C.undef], TV.v false [C.undef], TV.v false [C.undef], TV.v false [C.undef], TV.v false [C.undef], TV.v false [C.undef], TV.v false [C.undef]] []
noncomputable def B17_0 (n : Nat) : St → (Ex → St → Option (List Row × List Row)) → Option (List Row × List Row) := runCode (Ctx.mk Go.Proofs.Try.prog Hx (17)) (Table.call T14) n (codeAt [1, 1, 0, 1, 0, 0] (bodyOf Go.Proofs.Try.f17)) (Lv.mk 0 [(0, 0)] 16)
noncomputable def X17_2 (es : List (List D)) (es' : List (List D)) (i0 : Int) : St := St.mk [TV.v false [C.d (D.sl false 1 es)], TV.v false [C.d (D.sl false 1 es')], TV.v false [C.undef], TV.v false [C.undef], TV.v false [C.d (D.bool false)], TV.v false [C.d (D.int IntKind.i64 i0)], TV.v false [C.undef], TV.v false [C.undef], TV.v false [C.undef], TV.v false [C.undef], TV.v false [C.undef], TV.v false [C.d (D.int IntKind.i64 i0)], TV.v false [C.d (D.sl false 1 es)], TV.v false [C.d (D.int IntKind.i64 (Int.ofNat (List.length es)))], TV.v false [C.d (D.bool true)], TV.v false [C.undef], TV.v false [C.undef], TV.v false [C.d (D.sl false 1 es)], TV.v false [C.d (D.int IntKind.i64 i0)], TV.v false [C.rptr (List.getD es (Int.toNat i0) [])], TV.v false [C.d (D.int IntKind.i64 (D.num (List.getD (List.getD es (Int.toNat i0) []) 0 D.dead)))], TV.v false [C.d (D.sl false 1 es')], TV.v false [C.d (D.int IntKind.i64 i0)], TV.v false [C.rptr (List.getD es' (Int.toNat i0) [])], TV.v false [C.d (D.int IntKind.i64 (D.num (List.getD (List.getD es' (Int.toNat i0) []) 0 D.dead)))], TV.v false [C.d (D.bool true)]] []
noncomputable def X17_3 (es : List (List D)) (es' : List (List D)) (i0 : Int) : St := St.mk [TV.v false [C.d (D.sl false 1 es)], TV.v false [C.d (D.sl false 1 es')], TV.v false [C.undef], TV.v false [C.undef], TV.v false [C.undef], TV.v false [C.d (D.int IntKind.i64 i0)], TV.v false [C.undef], TV.v false [C.undef], TV.v false [C.undef], TV.v false [C.undef], TV.v false [C.undef], TV.v false [C.d (D.int IntKind.i64 i0)], TV.v false [C.d (D.sl false 1 es)], TV.v false [C.d (D.int IntKind.i64 (Int.ofNat (List.length es)))], TV.v false [C.d (D.bool false)], TV.v false [C.undef], TV.v false [C.undef], TV.v false [C.undef], TV.v false [C.undef], TV.v false [C.undef], TV.v false [C.undef], TV.v false [C.undef], TV.v false [C.undef], TV.v false [C.undef], TV.v false [C.undef], TV.v false [C.undef]] []
theorem q17_0 (es : List (List D)) (es' : List (List D)) (n : Nat) (i0 : Int) (f : St → Option (List Row × List Row)) (K : Ex → St → Option (List Row × List Row)) : B17_0 n (S17_0 es es' i0) (@kThen (List Row × List Row) (fun st ↦ f (St.head 0 35 67106864 st)) K) = bif decide (i0 < Int.ofNat (List.length es)) then bif decide (0 ≤ i0) && decide (i0 < Int.ofNat (List.length es)) then bif Leaf.fit false (Leaf.int IntKind.i64) (List.getD (List.getD es (Int.toNat i0) []) 0 D.dead) && true then bif decide (0 ≤ i0) && decide (i0 < Int.ofNat (List.length es')) then bif Leaf.fit false (Leaf.int IntKind.i64) (List.getD (List.getD es' (Int.toNat i0) []) 0 D.dead) && true then bif D.num (List.getD (List.getD es (Int.toNat i0) []) 0 D.dead) != D.num (List.getD (List.getD es' (Int.toNat i0) []) 0 D.dead) then K Ex.ret (X17_2 es es' i0) else f (S17_0 es es' (IntKind.wrap IntKind.i64 (i0 + 1))) else none else none else none else none else K (Ex.exit 0) (X17_3 es es' i0) := by kernel_rfl
theorem aX17_2 (es : List (List D)) (es' : List (List D)) (n : Nat) (i0 : Int) : k17_1 n Ex.ret (X17_2 es es' i0) = some ([[D.bool false]], []) := by kernel_rfl
theorem aX17_3 (es : List (List D)) (es' : List (List D)) (n : Nat) (i0 : Int) : k17_1 n (Ex.exit 0) (X17_3 es es' i0) = some ([[D.bool true]], []) := by kernel_rfl
theorem r17 (es es' : List (List D)) (n : Nat) : evFn ⟨Go.Proofs.Try.prog, Hx, 17⟩ T14.call n Go.Proofs.Try.f17 [[.sl false 1 es], [.sl false 1 es']] = bif Int.ofNat (List.length es) != Int.ofNat (List.length es') then some ([[D.bool false]], []) else loopRun (B17_0 n) 0 35 67106864 n (S17_0 es es' (0)) (k17_1 n) := by kernel_rfl
theorem m17 (es es' : List (List D)) (hpre : (isInts es && isInts es') = true) : evFn ⟨Go.Proofs.Try.prog, Hx, 17⟩ T14.call (es.length + 1) Go.Proofs.Try.f17 [[.sl false 1 es], [.sl false 1 es']] = some ([[.bool (eqInts es es')]], []) := by
  refine (r17 es es' _).trans ?_
  rw [Bool.and_eq_true] at hpre
  obtain ⟨h1, h2⟩ := hpre
  have hlen := (isInts_row h1).2
  rw [len_ne]
  by_cases hl : es.length = es'.length
  · simp only [hl, decide_true, Bool.not_true, cond_false]
    rw [← hl]
    refine loop_scan (es := es) (fun i (_ : Unit) => S17_0 es es' (Int.ofNat i)) (fun i _ => ∀ j, j < i → (ints es)[j]? = (ints es')[j]?) (fun _ _ => some ([[D.bool (eqInts es es')]], [])) ?_ ?_ (es.length + 1) () (by omega) (fun j hj => absurd hj (Nat.not_lt_zero j))
    · intro _ hp f
      refine (q17_0 es es' _ _ f _).trans ?_
      simp only [dec_lt, Nat.lt_irrefl, decide_false, cond_false]
      refine (aX17_3 es es' _ _).trans ?_
      have : ints es = ints es' := List.ext_getElem? (fun j => by
        by_cases hj : j < es.length
        · exact hp j hj
        · rw [List.getElem?_eq_none (by unfold ints; rw [List.length_map]; omega), List.getElem?_eq_none (by unfold ints; rw [List.length_map]; omega)])
      unfold eqInts
      rw [this]
      simp
    · intro i _ hi hp f hf
      obtain ⟨x, hx⟩ := isInts_at h1 hi
      obtain ⟨y, hy⟩ := isInts_at h2 (i := i) (by omega)
      refine (q17_0 es es' _ _ f _).trans ?_
      rw [toNat_of, hx, hy, dec_lt, dec_lt, dec_ge, ← hl, wrap_succ (by omega)]
      simp only [hi, decide_true, cond_true, Bool.and_self, Leaf.fit, List.getD_cons_zero, D.num]
      by_cases hxy : x = y
      · subst hxy
        simp only [bne_self_eq_false, cond_false]
        refine hf () (fun j hj => ?_)
        by_cases hji : j = i
        · subst hji
          rw [ints_get j hi, ints_get j (by omega), hx, hy]
        · exact hp j (by omega)
      · simp only [bne, beq_eq_false_iff_ne.2 hxy, Bool.not_false, cond_true]
        refine (aX17_2 es es' _ _).trans ?_
        have : eqInts es es' = false := by
          unfold eqInts
          refine beq_eq_false_iff_ne.2 (fun he => hxy ?_)
          have h3 := ints_get i hi
          have h4 := ints_get (es := es') i (by omega)
          rw [he, h4, hx, hy] at h3
          simpa [D.num] using h3.symm
        rw [this]
  · simp only [hl, decide_false, Bool.not_false, cond_true]
    have : eqInts es es' = false := by
      unfold eqInts
      refine beq_eq_false_iff_ne.2 (fun he => hl ?_)
      have := congrArg List.length he
      simpa [ints] using this
    rw [this]
theorem s17 : SoundAt Go.Proofs.Try.prog Hx 17 c17 := soundAt_of T14_sound mixed Go.Proofs.Try.func17 (by kernel_rfl) (by
  intro rows r h
  unfold c17 at h
  split at h
  · rename_i es es'
    injection h with h
    injection h with hp h
    subst h
    exact ⟨_, m17 es es' hp⟩
  · cases h)
def T17 : Table := (17, c17) :: T14
theorem T17_sound : Table.Sound Go.Proofs.Try.prog Hx T17 := Table.sound_cons s17 T14_sound
end Go.Ev
