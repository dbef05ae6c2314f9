/- Contracts of functions, each by its evaluation. -/
import Derived.Test.YtgmmhnloobedjaaEvLib
import Derived.Test.YtgmmhnloobedjaaProg
import Derived.KernelRfl
import Derived.Test.YtgmmhnloobedjaaFInts
namespace Go.Ev
open Go.RowKit Go.Md
set_option linter.unusedVariables false
set_option linter.unusedSimpArgs false
set_option maxRecDepth 100000
end Go.Ev
namespace Go.Md
open Go Go.Ev
def hN (r : List D) (k : Nat) : Int := (r.getD k .dead).num
def isH : List Leaf := [.int .i64, .int .i64, .int .i64, .int .i64]
def isHs (es : List (List D)) : Bool := isRow false isH es && decide (es.length ≤ 1048576)
def heardOk (a v p l : Int) : Bool := inR a 1 9 && (inR v 1 4 && (inR p 0 3 && inR l 1 20))
def aheadB (a v a' v' : Int) : Bool := decide (v < v') || (v == v' && decide (a < a'))
def stepOk (es : List (List D)) (i : Nat) : Bool := heardOk (hN (es.getD i []) 0) (hN (es.getD i []) 1) (hN (es.getD i []) 2) (hN (es.getD i []) 3) && (decide (i = 0) || aheadB (hN (es.getD (i - 1) []) 0) (hN (es.getD (i - 1) []) 1) (hN (es.getD i []) 0) (hN (es.getD i []) 1))
def tableOk (es : List (List D)) : Bool := (List.range es.length).all (stepOk es) && decide (es.length ≤ 12)
def szH (es : List (List D)) (x : Int) : Int := bif decide (IntKind.i64.wrap (x - Int.ofNat es.length) < 0) then -1 else IntKind.i64.wrap (x - Int.ofNat es.length)
theorem isHs_row {es : List (List D)} (h : isHs es = true) : isRow false isH es = true ∧ es.length ≤ 1048576 := by simpa [isHs] using h
theorem fits_H {own : Bool} {r : List D} (h : fits own isH r = true) : ∃ a v p l, r = [.int .i64 a, .int .i64 v, .int .i64 p, .int .i64 l] := by
  match r, h with
  | [d1, d2, d3, d4], h =>
    simp only [isH, fits, Bool.and_true, Bool.and_eq_true] at h
    obtain ⟨a, rfl⟩ := fit_int h.1
    obtain ⟨v, rfl⟩ := fit_int h.2.1
    obtain ⟨p, rfl⟩ := fit_int h.2.2.1
    obtain ⟨l, rfl⟩ := fit_int h.2.2.2
    exact ⟨a, v, p, l, rfl⟩
  | [], h => cases h
  | [d1], h => simp [isH, fits] at h
  | [d1, d2], h => simp [isH, fits] at h
  | [d1, d2, d3], h => simp [isH, fits] at h
  | d1 :: d2 :: d3 :: d4 :: d5 :: ds, h => simp [isH, fits] at h
theorem isHs_at {es : List (List D)} (h : isHs es = true) {i : Nat} (hi : i < es.length) : ∃ a v p l, es.getD i [] = [.int .i64 a, .int .i64 v, .int .i64 p, .int .i64 l] := fits_H (isRow_get (isHs_row h).1 hi)
theorem table_fail {es : List (List D)} {i : Nat} (hi : i < es.length) (h : stepOk es i = false) : tableOk es = false := by
  unfold tableOk
  have : (List.range es.length).all (stepOk es) = false := by
    cases hx : (List.range es.length).all (stepOk es) with
    | false => rfl
    | true => have := List.all_eq_true.1 hx i (List.mem_range.2 hi); rw [h] at this; cases this
  rw [this]; rfl
theorem table_end {es : List (List D)} (h : ∀ j, j < es.length → stepOk es j = true) : tableOk es = decide (Int.ofNat es.length ≤ 12) := by
  unfold tableOk
  have : (List.range es.length).all (stepOk es) = true := List.all_eq_true.2 (fun j hj => h j (List.mem_range.1 hj))
  rw [this, Bool.true_and]
  by_cases h12 : es.length ≤ 12
  · simp only [h12, decide_true]; symm; simp; omega
  · simp only [h12, decide_false]; symm; simp; omega
end Go.Md
namespace Go.Ev
open Go.Md
/- isAddr -/
def c68 : Contract
  | [[.int .i64 a]] => some (true, [[.bool (inR a 1 9)]], [])
  | _ => none

theorem r68 (a : Int) (n : Nat) : evFn ⟨Go.Proofs.Try.prog, Hx, 68⟩ T17.call n Go.Proofs.Try.f68 [[.int .i64 a]] = some ([[D.bool (inR a (1) (9))]], []) := by kernel_rfl
theorem m68 (a : Int)  : evFn ⟨Go.Proofs.Try.prog, Hx, 68⟩ T17.call 0 Go.Proofs.Try.f68 [[.int .i64 a]] = some ([[.bool (inR a 1 9)]], []) := by
  refine (r68 a _).trans ?_
  rfl
theorem s68 : SoundAt Go.Proofs.Try.prog Hx 68 c68 := soundAt_of T17_sound mixed Go.Proofs.Try.func68 (by kernel_rfl) (by
  intro rows r h
  unfold c68 at h
  split at h
  · rename_i a
    injection h with h
    injection h with hp h
    subst h
    exact ⟨_, m68 a⟩
  · cases h)
def T68 : Table := (68, c68) :: T17
theorem T68_sound : Table.Sound Go.Proofs.Try.prog Hx T68 := Table.sound_cons s68 T17_sound
/- isVlan -/
def c69 : Contract
  | [[.int .i64 a]] => some (true, [[.bool (inR a 1 4)]], [])
  | _ => none

theorem r69 (a : Int) (n : Nat) : evFn ⟨Go.Proofs.Try.prog, Hx, 69⟩ T68.call n Go.Proofs.Try.f69 [[.int .i64 a]] = some ([[D.bool (inR a (1) (4))]], []) := by kernel_rfl
theorem m69 (a : Int)  : evFn ⟨Go.Proofs.Try.prog, Hx, 69⟩ T68.call 0 Go.Proofs.Try.f69 [[.int .i64 a]] = some ([[.bool (inR a 1 4)]], []) := by
  refine (r69 a _).trans ?_
  rfl
theorem s69 : SoundAt Go.Proofs.Try.prog Hx 69 c69 := soundAt_of T68_sound mixed Go.Proofs.Try.func69 (by kernel_rfl) (by
  intro rows r h
  unfold c69 at h
  split at h
  · rename_i a
    injection h with h
    injection h with hp h
    subst h
    exact ⟨_, m69 a⟩
  · cases h)
def T69 : Table := (69, c69) :: T68
theorem T69_sound : Table.Sound Go.Proofs.Try.prog Hx T69 := Table.sound_cons s69 T68_sound
/- isPort -/
def c65 : Contract
  | [[.int .i64 a]] => some (true, [[.bool (inR a 0 3)]], [])
  | _ => none

theorem r65 (a : Int) (n : Nat) : evFn ⟨Go.Proofs.Try.prog, Hx, 65⟩ T69.call n Go.Proofs.Try.f65 [[.int .i64 a]] = some ([[D.bool (inR a (0) (3))]], []) := by kernel_rfl
theorem m65 (a : Int)  : evFn ⟨Go.Proofs.Try.prog, Hx, 65⟩ T69.call 0 Go.Proofs.Try.f65 [[.int .i64 a]] = some ([[.bool (inR a 0 3)]], []) := by
  refine (r65 a _).trans ?_
  rfl
theorem s65 : SoundAt Go.Proofs.Try.prog Hx 65 c65 := soundAt_of T69_sound mixed Go.Proofs.Try.func65 (by kernel_rfl) (by
  intro rows r h
  unfold c65 at h
  split at h
  · rename_i a
    injection h with h
    injection h with hp h
    subst h
    exact ⟨_, m65 a⟩
  · cases h)
def T65 : Table := (65, c65) :: T69
theorem T65_sound : Table.Sound Go.Proofs.Try.prog Hx T65 := Table.sound_cons s65 T69_sound
/- ahead -/
def c70 : Contract
  | [[.int .i64 a, .int .i64 v, .int .i64 p, .int .i64 l], [.int .i64 a', .int .i64 v', .int .i64 p', .int .i64 l']] => some (true, [[.bool (aheadB a v a' v')]], [])
  | _ => none

theorem r70 (a v p l a' v' p' l' : Int) (n : Nat) : evFn ⟨Go.Proofs.Try.prog, Hx, 70⟩ T65.call n Go.Proofs.Try.f70 [[.int .i64 a, .int .i64 v, .int .i64 p, .int .i64 l], [.int .i64 a', .int .i64 v', .int .i64 p', .int .i64 l']] = bif decide (v < v') then some ([[D.bool true]], []) else bif v == v' then some ([[D.bool (decide (a < a'))]], []) else some ([[D.bool false]], []) := by kernel_rfl
theorem m70 (a v p l a' v' p' l' : Int)  : evFn ⟨Go.Proofs.Try.prog, Hx, 70⟩ T65.call 0 Go.Proofs.Try.f70 [[.int .i64 a, .int .i64 v, .int .i64 p, .int .i64 l], [.int .i64 a', .int .i64 v', .int .i64 p', .int .i64 l']] = some ([[.bool (aheadB a v a' v')]], []) := by
  refine (r70 a v p l a' v' p' l' _).trans ?_
  unfold aheadB
  cases decide (v < v') <;> cases v == v' <;> rfl
theorem s70 : SoundAt Go.Proofs.Try.prog Hx 70 c70 := soundAt_of T65_sound mixed Go.Proofs.Try.func70 (by kernel_rfl) (by
  intro rows r h
  unfold c70 at h
  split at h
  · rename_i a v p l a' v' p' l'
    injection h with h
    injection h with hp h
    subst h
    exact ⟨_, m70 a v p l a' v' p' l'⟩
  · cases h)
def T70 : Table := (70, c70) :: T65
theorem T70_sound : Table.Sound Go.Proofs.Try.prog Hx T70 := Table.sound_cons s70 T65_sound
/- l3Before -/
def c66 : Contract
  | [[.int .i64 a, .int .i64 v, .int .i64 p, .int .i64 l], [.int .i64 a', .int .i64 v', .int .i64 p', .int .i64 l']] => some (true, [[.bool (aheadB a v a' v')]], [])
  | _ => none

theorem r66 (a v p l a' v' p' l' : Int) (n : Nat) : evFn ⟨Go.Proofs.Try.prog, Hx, 66⟩ T70.call n Go.Proofs.Try.f66 [[.int .i64 a, .int .i64 v, .int .i64 p, .int .i64 l], [.int .i64 a', .int .i64 v', .int .i64 p', .int .i64 l']] = bif decide (v < v') then some ([[D.bool true]], []) else bif v == v' then some ([[D.bool (decide (a < a'))]], []) else some ([[D.bool false]], []) := by kernel_rfl
theorem m66 (a v p l a' v' p' l' : Int)  : evFn ⟨Go.Proofs.Try.prog, Hx, 66⟩ T70.call 0 Go.Proofs.Try.f66 [[.int .i64 a, .int .i64 v, .int .i64 p, .int .i64 l], [.int .i64 a', .int .i64 v', .int .i64 p', .int .i64 l']] = some ([[.bool (aheadB a v a' v')]], []) := by
  refine (r66 a v p l a' v' p' l' _).trans ?_
  unfold aheadB
  cases decide (v < v') <;> cases v == v' <;> rfl
theorem s66 : SoundAt Go.Proofs.Try.prog Hx 66 c66 := soundAt_of T70_sound mixed Go.Proofs.Try.func66 (by kernel_rfl) (by
  intro rows r h
  unfold c66 at h
  split at h
  · rename_i a v p l a' v' p' l'
    injection h with h
    injection h with hp h
    subst h
    exact ⟨_, m66 a v p l a' v' p' l'⟩
  · cases h)
def T66 : Table := (66, c66) :: T70
theorem T66_sound : Table.Sound Go.Proofs.Try.prog Hx T66 := Table.sound_cons s66 T70_sound
/- specTableOk -/
def c51 : Contract
  | [[.sl false 4 es]] => some (isHs es, [[.bool (tableOk es)]], [])
  | _ => none

noncomputable def k51_0 (n : Nat) : Ex → St → Option (List Row × List Row) := kThen (fun st ↦ runCode (Ctx.mk Go.Proofs.Try.prog Hx (51)) (Table.call T66) n (codeAt [1, 1] (bodyOf Go.Proofs.Try.f51)) (Lv.mk 4 [] 4) st (kLeave (Ctx.P (Ctx.mk Go.Proofs.Try.prog Hx (51))) (List.zip (Array.toList (Go.Func.resultTypes Go.Proofs.Try.f51)) (Array.toList (Go.Func.results Go.Proofs.Try.f51))) [])) (kLeave (Ctx.P (Ctx.mk Go.Proofs.Try.prog Hx (51))) (List.zip (Array.toList (Go.Func.resultTypes Go.Proofs.Try.f51)) (Array.toList (Go.Func.results Go.Proofs.Try.f51))) [])
noncomputable def k51_1 (n : Nat) : Ex → St → Option (List Row × List Row) := kBlock (0) (k51_0 n)
noncomputable def S51_0 (es : List (List D)) (i0 : Int) : St := St.mk [TV.v false [C.d (D.sl false 4 es)], TV.v false [C.undef], TV.v false [C.undef], TV.v false [C.d (D.int IntKind.i64 i0)], TV.v false [C.undef], TV.v false [C.undef], TV.v false [C.undef], TV.v false [C.undef], TV.v false [C.undef], TV.v false [C.undef], TV.v false [C.undef], TV.v false [C.undef], TV.v false [C.undef], TV.v false [C.undef], TV.v false [C.undef], TV.v false [C.undef], TV.v false [C.undef], TV.v false [C.undef], TV.v false [C.undef], TV.v false [C.undef], TV.v false [C.undef], TV.v false [C.undef], TV.v false [C.undef], TV.v false [C.undef], TV.v false [C.undef], TV.v false [C.undef], TV.v false [C.undef], TV.v false [C.undef], TV.v false [C.undef], TV.v false [C.undef], TV.v false [C.undef], TV.v false [C.undef], TV.v false [C.undef], TV.v false [C.undef], TV.v false [C.undef], TV.v false [C.undef], TV.v false [C.undef], TV.v false [C.undef], TV.v false [C.undef], TV.v false [C.undef], TV.v false [C.undef], TV.v false [C.undef], TV.v false [C.undef], TV.v false [C.undef], TV.v false [C.undef], TV.v false [C.undef], TV.v false [C.undef], TV.v false [C.undef], TV.v false [C.undef], TV.v false [C.undef], TV.v false [C.undef], TV.v false [C.undef], TV.v false [C.undef], TV.v false [C.undef]] []
noncomputable def B51_0 (n : Nat) : St → (Ex → St → Option (List Row × List Row)) → Option (List Row × List Row) := runCode (Ctx.mk Go.Proofs.Try.prog Hx (51)) (Table.call T66) n (codeAt [1, 0, 1, 0, 0] (bodyOf Go.Proofs.Try.f51)) (Lv.mk 0 [(0, 1)] 4)
noncomputable def X51_2 (es : List (List D)) (i0 : Int) : St := St.mk [TV.v false [C.d (D.sl false 4 es)], TV.v false [C.undef], TV.v false [C.d (D.bool false)], TV.v false [C.d (D.int IntKind.i64 i0)], TV.v false [C.ptr 0 0 0 [] 4 0 0], TV.v false [C.d (D.int IntKind.i64 i0)], TV.v false [C.d (D.sl false 4 es)], TV.v false [C.d (D.int IntKind.i64 (Int.ofNat (List.length es)))], TV.v false [C.d (D.bool true)], TV.v false [C.undef], TV.v false [C.undef], TV.v false [C.d (D.sl false 4 es)], TV.v false [C.d (D.int IntKind.i64 i0)], TV.v false [C.rptr (List.getD es (Int.toNat i0) [])], TV.v true [C.d (D.int IntKind.i64 (D.num (List.getD (List.getD es (Int.toNat i0) []) 0 D.dead))), C.d (D.int IntKind.i64 (D.num (List.getD (List.getD es (Int.toNat i0) []) 1 D.dead))), C.d (D.int IntKind.i64 (D.num (List.getD (List.getD es (Int.toNat i0) []) 2 D.dead))), C.d (D.int IntKind.i64 (D.num (List.getD (List.getD es (Int.toNat i0) []) 3 D.dead)))], TV.v false [C.ptr 0 0 0 [] 4 0 0], TV.v false [C.d (D.int IntKind.i64 (D.num (List.getD (List.getD es (Int.toNat i0) []) 0 D.dead)))], TV.v false [C.d (D.bool (inR (D.num (List.getD (List.getD es (Int.toNat i0) []) 0 D.dead)) (1) (9)))], TV.v false [C.d (D.bool !inR (D.num (List.getD (List.getD es (Int.toNat i0) []) 0 D.dead)) (1) (9))], TV.v false [C.d (D.bool true)], TV.v false [C.gone], TV.v false [C.gone], TV.v false [C.gone], TV.v false [C.gone], TV.v false [C.d (D.bool true)], TV.v false [C.d (D.bool true)], TV.v false [C.gone], TV.v false [C.gone], TV.v false [C.gone], TV.v false [C.gone], TV.v false [C.d (D.bool true)], TV.v false [C.d (D.bool true)], TV.v false [C.gone], TV.v false [C.gone], TV.v false [C.gone], TV.v false [C.gone], TV.v false [C.d (D.bool true)], TV.v false [C.d (D.bool true)], TV.v false [C.gone], TV.v false [C.gone], TV.v false [C.gone], TV.v false [C.gone], TV.v false [C.gone], TV.v false [C.gone], TV.v false [C.gone], TV.v false [C.gone], TV.v false [C.gone], TV.v false [C.gone], TV.v false [C.gone], TV.v false [C.gone], TV.v false [C.d (D.bool true)], TV.v false [C.undef], TV.v false [C.undef], TV.v false [C.undef]] [Root.mk true 4 [[D.int IntKind.i64 (D.num (List.getD (List.getD es (Int.toNat i0) []) 0 D.dead)), D.int IntKind.i64 (D.num (List.getD (List.getD es (Int.toNat i0) []) 1 D.dead)), D.int IntKind.i64 (D.num (List.getD (List.getD es (Int.toNat i0) []) 2 D.dead)), D.int IntKind.i64 (D.num (List.getD (List.getD es (Int.toNat i0) []) 3 D.dead))]] 0 0 true true]
noncomputable def X51_3 (es : List (List D)) (i0 : Int) : St := St.mk [TV.v false [C.d (D.sl false 4 es)], TV.v false [C.undef], TV.v false [C.d (D.bool false)], TV.v false [C.d (D.int IntKind.i64 i0)], TV.v false [C.ptr 0 0 0 [] 4 0 0], TV.v false [C.d (D.int IntKind.i64 i0)], TV.v false [C.d (D.sl false 4 es)], TV.v false [C.d (D.int IntKind.i64 (Int.ofNat (List.length es)))], TV.v false [C.d (D.bool true)], TV.v false [C.undef], TV.v false [C.undef], TV.v false [C.d (D.sl false 4 es)], TV.v false [C.d (D.int IntKind.i64 i0)], TV.v false [C.rptr (List.getD es (Int.toNat i0) [])], TV.v true [C.d (D.int IntKind.i64 (D.num (List.getD (List.getD es (Int.toNat i0) []) 0 D.dead))), C.d (D.int IntKind.i64 (D.num (List.getD (List.getD es (Int.toNat i0) []) 1 D.dead))), C.d (D.int IntKind.i64 (D.num (List.getD (List.getD es (Int.toNat i0) []) 2 D.dead))), C.d (D.int IntKind.i64 (D.num (List.getD (List.getD es (Int.toNat i0) []) 3 D.dead)))], TV.v false [C.ptr 0 0 0 [] 4 0 0], TV.v false [C.d (D.int IntKind.i64 (D.num (List.getD (List.getD es (Int.toNat i0) []) 0 D.dead)))], TV.v false [C.d (D.bool (inR (D.num (List.getD (List.getD es (Int.toNat i0) []) 0 D.dead)) (1) (9)))], TV.v false [C.d (D.bool !inR (D.num (List.getD (List.getD es (Int.toNat i0) []) 0 D.dead)) (1) (9))], TV.v false [C.d (D.bool false)], TV.v false [C.ptr 0 0 0 [] 4 0 1], TV.v false [C.d (D.int IntKind.i64 (D.num (List.getD (List.getD es (Int.toNat i0) []) 1 D.dead)))], TV.v false [C.d (D.bool (inR (D.num (List.getD (List.getD es (Int.toNat i0) []) 1 D.dead)) (1) (4)))], TV.v false [C.d (D.bool !inR (D.num (List.getD (List.getD es (Int.toNat i0) []) 1 D.dead)) (1) (4))], TV.v false [C.d (D.bool !inR (D.num (List.getD (List.getD es (Int.toNat i0) []) 1 D.dead)) (1) (4))], TV.v false [C.d (D.bool true)], TV.v false [C.gone], TV.v false [C.gone], TV.v false [C.gone], TV.v false [C.gone], TV.v false [C.d (D.bool true)], TV.v false [C.d (D.bool true)], TV.v false [C.gone], TV.v false [C.gone], TV.v false [C.gone], TV.v false [C.gone], TV.v false [C.d (D.bool true)], TV.v false [C.d (D.bool true)], TV.v false [C.gone], TV.v false [C.gone], TV.v false [C.gone], TV.v false [C.gone], TV.v false [C.gone], TV.v false [C.gone], TV.v false [C.gone], TV.v false [C.gone], TV.v false [C.gone], TV.v false [C.gone], TV.v false [C.gone], TV.v false [C.gone], TV.v false [C.d (D.bool true)], TV.v false [C.undef], TV.v false [C.undef], TV.v false [C.undef]] [Root.mk true 4 [[D.int IntKind.i64 (D.num (List.getD (List.getD es (Int.toNat i0) []) 0 D.dead)), D.int IntKind.i64 (D.num (List.getD (List.getD es (Int.toNat i0) []) 1 D.dead)), D.int IntKind.i64 (D.num (List.getD (List.getD es (Int.toNat i0) []) 2 D.dead)), D.int IntKind.i64 (D.num (List.getD (List.getD es (Int.toNat i0) []) 3 D.dead))]] 0 0 true true]
noncomputable def X51_4 (es : List (List D)) (i0 : Int) : St := St.mk [TV.v false [C.d (D.sl false 4 es)], TV.v false [C.undef], TV.v false [C.d (D.bool false)], TV.v false [C.d (D.int IntKind.i64 i0)], TV.v false [C.ptr 0 0 0 [] 4 0 0], TV.v false [C.d (D.int IntKind.i64 i0)], TV.v false [C.d (D.sl false 4 es)], TV.v false [C.d (D.int IntKind.i64 (Int.ofNat (List.length es)))], TV.v false [C.d (D.bool true)], TV.v false [C.undef], TV.v false [C.undef], TV.v false [C.d (D.sl false 4 es)], TV.v false [C.d (D.int IntKind.i64 i0)], TV.v false [C.rptr (List.getD es (Int.toNat i0) [])], TV.v true [C.d (D.int IntKind.i64 (D.num (List.getD (List.getD es (Int.toNat i0) []) 0 D.dead))), C.d (D.int IntKind.i64 (D.num (List.getD (List.getD es (Int.toNat i0) []) 1 D.dead))), C.d (D.int IntKind.i64 (D.num (List.getD (List.getD es (Int.toNat i0) []) 2 D.dead))), C.d (D.int IntKind.i64 (D.num (List.getD (List.getD es (Int.toNat i0) []) 3 D.dead)))], TV.v false [C.ptr 0 0 0 [] 4 0 0], TV.v false [C.d (D.int IntKind.i64 (D.num (List.getD (List.getD es (Int.toNat i0) []) 0 D.dead)))], TV.v false [C.d (D.bool (inR (D.num (List.getD (List.getD es (Int.toNat i0) []) 0 D.dead)) (1) (9)))], TV.v false [C.d (D.bool !inR (D.num (List.getD (List.getD es (Int.toNat i0) []) 0 D.dead)) (1) (9))], TV.v false [C.d (D.bool false)], TV.v false [C.ptr 0 0 0 [] 4 0 1], TV.v false [C.d (D.int IntKind.i64 (D.num (List.getD (List.getD es (Int.toNat i0) []) 1 D.dead)))], TV.v false [C.d (D.bool (inR (D.num (List.getD (List.getD es (Int.toNat i0) []) 1 D.dead)) (1) (4)))], TV.v false [C.d (D.bool !inR (D.num (List.getD (List.getD es (Int.toNat i0) []) 1 D.dead)) (1) (4))], TV.v false [C.d (D.bool !inR (D.num (List.getD (List.getD es (Int.toNat i0) []) 1 D.dead)) (1) (4))], TV.v false [C.d (D.bool false)], TV.v false [C.ptr 0 0 0 [] 4 0 2], TV.v false [C.d (D.int IntKind.i64 (D.num (List.getD (List.getD es (Int.toNat i0) []) 2 D.dead)))], TV.v false [C.d (D.bool (inR (D.num (List.getD (List.getD es (Int.toNat i0) []) 2 D.dead)) (0) (3)))], TV.v false [C.d (D.bool !inR (D.num (List.getD (List.getD es (Int.toNat i0) []) 2 D.dead)) (0) (3))], TV.v false [C.d (D.bool !inR (D.num (List.getD (List.getD es (Int.toNat i0) []) 2 D.dead)) (0) (3))], TV.v false [C.d (D.bool true)], TV.v false [C.gone], TV.v false [C.gone], TV.v false [C.gone], TV.v false [C.gone], TV.v false [C.d (D.bool true)], TV.v false [C.d (D.bool true)], TV.v false [C.gone], TV.v false [C.gone], TV.v false [C.gone], TV.v false [C.gone], TV.v false [C.gone], TV.v false [C.gone], TV.v false [C.gone], TV.v false [C.gone], TV.v false [C.gone], TV.v false [C.gone], TV.v false [C.gone], TV.v false [C.gone], TV.v false [C.d (D.bool true)], TV.v false [C.undef], TV.v false [C.undef], TV.v false [C.undef]] [Root.mk true 4 [[D.int IntKind.i64 (D.num (List.getD (List.getD es (Int.toNat i0) []) 0 D.dead)), D.int IntKind.i64 (D.num (List.getD (List.getD es (Int.toNat i0) []) 1 D.dead)), D.int IntKind.i64 (D.num (List.getD (List.getD es (Int.toNat i0) []) 2 D.dead)), D.int IntKind.i64 (D.num (List.getD (List.getD es (Int.toNat i0) []) 3 D.dead))]] 0 0 true true]
noncomputable def X51_5 (es : List (List D)) (i0 : Int) : St := St.mk [TV.v false [C.d (D.sl false 4 es)], TV.v false [C.undef], TV.v false [C.d (D.bool false)], TV.v false [C.d (D.int IntKind.i64 i0)], TV.v false [C.ptr 0 0 0 [] 4 0 0], TV.v false [C.d (D.int IntKind.i64 i0)], TV.v false [C.d (D.sl false 4 es)], TV.v false [C.d (D.int IntKind.i64 (Int.ofNat (List.length es)))], TV.v false [C.d (D.bool true)], TV.v false [C.undef], TV.v false [C.undef], TV.v false [C.d (D.sl false 4 es)], TV.v false [C.d (D.int IntKind.i64 i0)], TV.v false [C.rptr (List.getD es (Int.toNat i0) [])], TV.v true [C.d (D.int IntKind.i64 (D.num (List.getD (List.getD es (Int.toNat i0) []) 0 D.dead))), C.d (D.int IntKind.i64 (D.num (List.getD (List.getD es (Int.toNat i0) []) 1 D.dead))), C.d (D.int IntKind.i64 (D.num (List.getD (List.getD es (Int.toNat i0) []) 2 D.dead))), C.d (D.int IntKind.i64 (D.num (List.getD (List.getD es (Int.toNat i0) []) 3 D.dead)))], TV.v false [C.ptr 0 0 0 [] 4 0 0], TV.v false [C.d (D.int IntKind.i64 (D.num (List.getD (List.getD es (Int.toNat i0) []) 0 D.dead)))], TV.v false [C.d (D.bool (inR (D.num (List.getD (List.getD es (Int.toNat i0) []) 0 D.dead)) (1) (9)))], TV.v false [C.d (D.bool !inR (D.num (List.getD (List.getD es (Int.toNat i0) []) 0 D.dead)) (1) (9))], TV.v false [C.d (D.bool false)], TV.v false [C.ptr 0 0 0 [] 4 0 1], TV.v false [C.d (D.int IntKind.i64 (D.num (List.getD (List.getD es (Int.toNat i0) []) 1 D.dead)))], TV.v false [C.d (D.bool (inR (D.num (List.getD (List.getD es (Int.toNat i0) []) 1 D.dead)) (1) (4)))], TV.v false [C.d (D.bool !inR (D.num (List.getD (List.getD es (Int.toNat i0) []) 1 D.dead)) (1) (4))], TV.v false [C.d (D.bool !inR (D.num (List.getD (List.getD es (Int.toNat i0) []) 1 D.dead)) (1) (4))], TV.v false [C.d (D.bool false)], TV.v false [C.ptr 0 0 0 [] 4 0 2], TV.v false [C.d (D.int IntKind.i64 (D.num (List.getD (List.getD es (Int.toNat i0) []) 2 D.dead)))], TV.v false [C.d (D.bool (inR (D.num (List.getD (List.getD es (Int.toNat i0) []) 2 D.dead)) (0) (3)))], TV.v false [C.d (D.bool !inR (D.num (List.getD (List.getD es (Int.toNat i0) []) 2 D.dead)) (0) (3))], TV.v false [C.d (D.bool !inR (D.num (List.getD (List.getD es (Int.toNat i0) []) 2 D.dead)) (0) (3))], TV.v false [C.d (D.bool false)], TV.v false [C.ptr 0 0 0 [] 4 0 3], TV.v false [C.d (D.int IntKind.i64 (D.num (List.getD (List.getD es (Int.toNat i0) []) 3 D.dead)))], TV.v false [C.d (D.bool (inR (D.num (List.getD (List.getD es (Int.toNat i0) []) 3 D.dead)) (1) (20)))], TV.v false [C.d (D.bool !inR (D.num (List.getD (List.getD es (Int.toNat i0) []) 3 D.dead)) (1) (20))], TV.v false [C.d (D.bool !inR (D.num (List.getD (List.getD es (Int.toNat i0) []) 3 D.dead)) (1) (20))], TV.v false [C.d (D.bool true)], TV.v false [C.gone], TV.v false [C.gone], TV.v false [C.gone], TV.v false [C.gone], TV.v false [C.gone], TV.v false [C.gone], TV.v false [C.gone], TV.v false [C.gone], TV.v false [C.gone], TV.v false [C.gone], TV.v false [C.gone], TV.v false [C.gone], TV.v false [C.d (D.bool true)], TV.v false [C.undef], TV.v false [C.undef], TV.v false [C.undef]] [Root.mk true 4 [[D.int IntKind.i64 (D.num (List.getD (List.getD es (Int.toNat i0) []) 0 D.dead)), D.int IntKind.i64 (D.num (List.getD (List.getD es (Int.toNat i0) []) 1 D.dead)), D.int IntKind.i64 (D.num (List.getD (List.getD es (Int.toNat i0) []) 2 D.dead)), D.int IntKind.i64 (D.num (List.getD (List.getD es (Int.toNat i0) []) 3 D.dead))]] 0 0 true true]
noncomputable def X51_6 (es : List (List D)) (i0 : Int) : St := St.mk [TV.v false [C.d (D.sl false 4 es)], TV.v false [C.undef], TV.v false [C.d (D.bool false)], TV.v false [C.d (D.int IntKind.i64 i0)], TV.v false [C.ptr 0 0 0 [] 4 0 0], TV.v false [C.d (D.int IntKind.i64 i0)], TV.v false [C.d (D.sl false 4 es)], TV.v false [C.d (D.int IntKind.i64 (Int.ofNat (List.length es)))], TV.v false [C.d (D.bool true)], TV.v false [C.undef], TV.v false [C.undef], TV.v false [C.d (D.sl false 4 es)], TV.v false [C.d (D.int IntKind.i64 i0)], TV.v false [C.rptr (List.getD es (Int.toNat i0) [])], TV.v true [C.d (D.int IntKind.i64 (D.num (List.getD (List.getD es (Int.toNat i0) []) 0 D.dead))), C.d (D.int IntKind.i64 (D.num (List.getD (List.getD es (Int.toNat i0) []) 1 D.dead))), C.d (D.int IntKind.i64 (D.num (List.getD (List.getD es (Int.toNat i0) []) 2 D.dead))), C.d (D.int IntKind.i64 (D.num (List.getD (List.getD es (Int.toNat i0) []) 3 D.dead)))], TV.v false [C.ptr 0 0 0 [] 4 0 0], TV.v false [C.d (D.int IntKind.i64 (D.num (List.getD (List.getD es (Int.toNat i0) []) 0 D.dead)))], TV.v false [C.d (D.bool (inR (D.num (List.getD (List.getD es (Int.toNat i0) []) 0 D.dead)) (1) (9)))], TV.v false [C.d (D.bool !inR (D.num (List.getD (List.getD es (Int.toNat i0) []) 0 D.dead)) (1) (9))], TV.v false [C.d (D.bool false)], TV.v false [C.ptr 0 0 0 [] 4 0 1], TV.v false [C.d (D.int IntKind.i64 (D.num (List.getD (List.getD es (Int.toNat i0) []) 1 D.dead)))], TV.v false [C.d (D.bool (inR (D.num (List.getD (List.getD es (Int.toNat i0) []) 1 D.dead)) (1) (4)))], TV.v false [C.d (D.bool !inR (D.num (List.getD (List.getD es (Int.toNat i0) []) 1 D.dead)) (1) (4))], TV.v false [C.d (D.bool !inR (D.num (List.getD (List.getD es (Int.toNat i0) []) 1 D.dead)) (1) (4))], TV.v false [C.d (D.bool false)], TV.v false [C.ptr 0 0 0 [] 4 0 2], TV.v false [C.d (D.int IntKind.i64 (D.num (List.getD (List.getD es (Int.toNat i0) []) 2 D.dead)))], TV.v false [C.d (D.bool (inR (D.num (List.getD (List.getD es (Int.toNat i0) []) 2 D.dead)) (0) (3)))], TV.v false [C.d (D.bool !inR (D.num (List.getD (List.getD es (Int.toNat i0) []) 2 D.dead)) (0) (3))], TV.v false [C.d (D.bool !inR (D.num (List.getD (List.getD es (Int.toNat i0) []) 2 D.dead)) (0) (3))], TV.v false [C.d (D.bool false)], TV.v false [C.ptr 0 0 0 [] 4 0 3], TV.v false [C.d (D.int IntKind.i64 (D.num (List.getD (List.getD es (Int.toNat i0) []) 3 D.dead)))], TV.v false [C.d (D.bool (inR (D.num (List.getD (List.getD es (Int.toNat i0) []) 3 D.dead)) (1) (20)))], TV.v false [C.d (D.bool !inR (D.num (List.getD (List.getD es (Int.toNat i0) []) 3 D.dead)) (1) (20))], TV.v false [C.d (D.bool !inR (D.num (List.getD (List.getD es (Int.toNat i0) []) 3 D.dead)) (1) (20))], TV.v false [C.d (D.bool false)], TV.v false [C.d (D.int IntKind.i64 i0)], TV.v false [C.d (D.bool (decide (i0 > 0)))], TV.v false [C.d (D.bool true)], TV.v false [C.d (D.sl false 4 es)], TV.v false [C.d (D.int IntKind.i64 i0)], TV.v false [C.d (D.int IntKind.i64 (IntKind.wrap IntKind.i64 (i0 - 1)))], TV.v false [C.rptr (List.getD es (Int.toNat (IntKind.wrap IntKind.i64 (i0 - 1))) [])], TV.v true [C.d (D.int IntKind.i64 (D.num (List.getD (List.getD es (Int.toNat (IntKind.wrap IntKind.i64 (i0 - 1))) []) 0 D.dead))), C.d (D.int IntKind.i64 (D.num (List.getD (List.getD es (Int.toNat (IntKind.wrap IntKind.i64 (i0 - 1))) []) 1 D.dead))), C.d (D.int IntKind.i64 (D.num (List.getD (List.getD es (Int.toNat (IntKind.wrap IntKind.i64 (i0 - 1))) []) 2 D.dead))), C.d (D.int IntKind.i64 (D.num (List.getD (List.getD es (Int.toNat (IntKind.wrap IntKind.i64 (i0 - 1))) []) 3 D.dead)))], TV.v true [C.d (D.int IntKind.i64 (D.num (List.getD (List.getD es (Int.toNat i0) []) 0 D.dead))), C.d (D.int IntKind.i64 (D.num (List.getD (List.getD es (Int.toNat i0) []) 1 D.dead))), C.d (D.int IntKind.i64 (D.num (List.getD (List.getD es (Int.toNat i0) []) 2 D.dead))), C.d (D.int IntKind.i64 (D.num (List.getD (List.getD es (Int.toNat i0) []) 3 D.dead)))], TV.v false [C.d (D.bool (aheadB (D.num (List.getD (List.getD es (Int.toNat (IntKind.wrap IntKind.i64 (i0 - 1))) []) 0 D.dead)) (D.num (List.getD (List.getD es (Int.toNat (IntKind.wrap IntKind.i64 (i0 - 1))) []) 1 D.dead)) (D.num (List.getD (List.getD es (Int.toNat i0) []) 0 D.dead)) (D.num (List.getD (List.getD es (Int.toNat i0) []) 1 D.dead))))], TV.v false [C.d (D.bool !aheadB (D.num (List.getD (List.getD es (Int.toNat (IntKind.wrap IntKind.i64 (i0 - 1))) []) 0 D.dead)) (D.num (List.getD (List.getD es (Int.toNat (IntKind.wrap IntKind.i64 (i0 - 1))) []) 1 D.dead)) (D.num (List.getD (List.getD es (Int.toNat i0) []) 0 D.dead)) (D.num (List.getD (List.getD es (Int.toNat i0) []) 1 D.dead)))], TV.v false [C.d (D.bool !aheadB (D.num (List.getD (List.getD es (Int.toNat (IntKind.wrap IntKind.i64 (i0 - 1))) []) 0 D.dead)) (D.num (List.getD (List.getD es (Int.toNat (IntKind.wrap IntKind.i64 (i0 - 1))) []) 1 D.dead)) (D.num (List.getD (List.getD es (Int.toNat i0) []) 0 D.dead)) (D.num (List.getD (List.getD es (Int.toNat i0) []) 1 D.dead)))], TV.v false [C.d (D.bool true)], TV.v false [C.undef], TV.v false [C.undef], TV.v false [C.undef]] [Root.mk true 4 [[D.int IntKind.i64 (D.num (List.getD (List.getD es (Int.toNat i0) []) 0 D.dead)), D.int IntKind.i64 (D.num (List.getD (List.getD es (Int.toNat i0) []) 1 D.dead)), D.int IntKind.i64 (D.num (List.getD (List.getD es (Int.toNat i0) []) 2 D.dead)), D.int IntKind.i64 (D.num (List.getD (List.getD es (Int.toNat i0) []) 3 D.dead))]] 0 0 true true]
noncomputable def X51_7 (es : List (List D)) (i0 : Int) : St := St.mk [TV.v false [C.d (D.sl false 4 es)], TV.v false [C.undef], TV.v false [C.undef], TV.v false [C.d (D.int IntKind.i64 i0)], TV.v false [C.undef], TV.v false [C.d (D.int IntKind.i64 i0)], TV.v false [C.d (D.sl false 4 es)], TV.v false [C.d (D.int IntKind.i64 (Int.ofNat (List.length es)))], TV.v false [C.d (D.bool false)], TV.v false [C.undef], TV.v false [C.undef], TV.v false [C.undef], TV.v false [C.undef], TV.v false [C.undef], TV.v false [C.undef], TV.v false [C.undef], TV.v false [C.undef], TV.v false [C.undef], TV.v false [C.undef], TV.v false [C.undef], TV.v false [C.undef], TV.v false [C.undef], TV.v false [C.undef], TV.v false [C.undef], TV.v false [C.undef], TV.v false [C.undef], TV.v false [C.undef], TV.v false [C.undef], TV.v false [C.undef], TV.v false [C.undef], TV.v false [C.undef], TV.v false [C.undef], TV.v false [C.undef], TV.v false [C.undef], TV.v false [C.undef], TV.v false [C.undef], TV.v false [C.undef], TV.v false [C.undef], TV.v false [C.undef], TV.v false [C.undef], TV.v false [C.undef], TV.v false [C.undef], TV.v false [C.undef], TV.v false [C.undef], TV.v false [C.undef], TV.v false [C.undef], TV.v false [C.undef], TV.v false [C.undef], TV.v false [C.undef], TV.v false [C.undef], TV.v false [C.undef], TV.v false [C.undef], TV.v false [C.undef], TV.v false [C.undef]] []
theorem q51_0 (es : List (List D)) (n : Nat) (i0 : Int) (f : St → Option (List Row × List Row)) (K : Ex → St → Option (List Row × List Row)) : B51_0 n (S51_0 es i0) (@kThen (List Row × List Row) (fun st ↦ f (St.head 0 9 2251799813685244 st)) K) = bif decide (i0 < Int.ofNat (List.length es)) then bif decide (0 ≤ i0) && decide (i0 < Int.ofNat (List.length es)) then bif Leaf.fit false (Leaf.int IntKind.i64) (List.getD (List.getD es (Int.toNat i0) []) 0 D.dead) && (Leaf.fit false (Leaf.int IntKind.i64) (List.getD (List.getD es (Int.toNat i0) []) 1 D.dead) && (Leaf.fit false (Leaf.int IntKind.i64) (List.getD (List.getD es (Int.toNat i0) []) 2 D.dead) && (Leaf.fit false (Leaf.int IntKind.i64) (List.getD (List.getD es (Int.toNat i0) []) 3 D.dead) && true))) then bif !inR (D.num (List.getD (List.getD es (Int.toNat i0) []) 0 D.dead)) (1) (9) then K Ex.ret (X51_2 es i0) else bif !inR (D.num (List.getD (List.getD es (Int.toNat i0) []) 1 D.dead)) (1) (4) then K Ex.ret (X51_3 es i0) else bif !inR (D.num (List.getD (List.getD es (Int.toNat i0) []) 2 D.dead)) (0) (3) then K Ex.ret (X51_4 es i0) else bif !inR (D.num (List.getD (List.getD es (Int.toNat i0) []) 3 D.dead)) (1) (20) then K Ex.ret (X51_5 es i0) else bif decide (i0 > 0) then bif decide (0 ≤ IntKind.wrap IntKind.i64 (i0 - 1)) && decide (IntKind.wrap IntKind.i64 (i0 - 1) < Int.ofNat (List.length es)) then bif Leaf.fit false (Leaf.int IntKind.i64) (List.getD (List.getD es (Int.toNat (IntKind.wrap IntKind.i64 (i0 - 1))) []) 0 D.dead) && (Leaf.fit false (Leaf.int IntKind.i64) (List.getD (List.getD es (Int.toNat (IntKind.wrap IntKind.i64 (i0 - 1))) []) 1 D.dead) && (Leaf.fit false (Leaf.int IntKind.i64) (List.getD (List.getD es (Int.toNat (IntKind.wrap IntKind.i64 (i0 - 1))) []) 2 D.dead) && (Leaf.fit false (Leaf.int IntKind.i64) (List.getD (List.getD es (Int.toNat (IntKind.wrap IntKind.i64 (i0 - 1))) []) 3 D.dead) && true))) then bif !aheadB (D.num (List.getD (List.getD es (Int.toNat (IntKind.wrap IntKind.i64 (i0 - 1))) []) 0 D.dead)) (D.num (List.getD (List.getD es (Int.toNat (IntKind.wrap IntKind.i64 (i0 - 1))) []) 1 D.dead)) (D.num (List.getD (List.getD es (Int.toNat i0) []) 0 D.dead)) (D.num (List.getD (List.getD es (Int.toNat i0) []) 1 D.dead)) then K Ex.ret (X51_6 es i0) else f (S51_0 es (IntKind.wrap IntKind.i64 (i0 + 1))) else none else none else f (S51_0 es (IntKind.wrap IntKind.i64 (i0 + 1))) else none else none else K (Ex.exit 0) (X51_7 es i0) := by kernel_rfl
theorem aX51_2 (es : List (List D)) (n : Nat) (i0 : Int) : k51_1 n Ex.ret (X51_2 es i0) = some ([[D.bool false]], []) := by kernel_rfl
theorem aX51_3 (es : List (List D)) (n : Nat) (i0 : Int) : k51_1 n Ex.ret (X51_3 es i0) = some ([[D.bool false]], []) := by kernel_rfl
theorem aX51_4 (es : List (List D)) (n : Nat) (i0 : Int) : k51_1 n Ex.ret (X51_4 es i0) = some ([[D.bool false]], []) := by kernel_rfl
theorem aX51_5 (es : List (List D)) (n : Nat) (i0 : Int) : k51_1 n Ex.ret (X51_5 es i0) = some ([[D.bool false]], []) := by kernel_rfl
theorem aX51_6 (es : List (List D)) (n : Nat) (i0 : Int) : k51_1 n Ex.ret (X51_6 es i0) = some ([[D.bool false]], []) := by kernel_rfl
theorem aX51_7 (es : List (List D)) (n : Nat) (i0 : Int) : k51_1 n (Ex.exit 0) (X51_7 es i0) = some ([[D.bool (decide (Int.ofNat (List.length es) ≤ 12))]], []) := by kernel_rfl
theorem r51 (es : List (List D)) (n : Nat) : evFn ⟨Go.Proofs.Try.prog, Hx, 51⟩ T66.call n Go.Proofs.Try.f51 [[.sl false 4 es]] = loopRun (B51_0 n) 0 9 2251799813685244 n (S51_0 es (0)) (k51_1 n) := by kernel_rfl
theorem m51 (es : List (List D)) (hpre : (isHs es) = true) : evFn ⟨Go.Proofs.Try.prog, Hx, 51⟩ T66.call (es.length + 1) Go.Proofs.Try.f51 [[.sl false 4 es]] = some ([[.bool (tableOk es)]], []) := by
  refine (r51 es _).trans ?_
  obtain ⟨hrow, hlen⟩ := isHs_row hpre
  refine loop_scan (es := es) (fun i (_ : Unit) => S51_0 es (Int.ofNat i)) (fun i _ => ∀ j, j < i → stepOk es j = true) (fun _ _ => some ([[D.bool (tableOk es)]], [])) ?_ ?_ (es.length + 1) () (by omega) (fun j hj => absurd hj (Nat.not_lt_zero j))
  · intro _ hp f
    refine (q51_0 es _ _ f _).trans ?_
    simp only [dec_lt, Nat.lt_irrefl, decide_false, cond_false]
    refine (aX51_7 es _ _).trans ?_
    rw [table_end hp]
  · intro i _ hi hp f hf
    obtain ⟨a, v, p, l, hx⟩ := isHs_at hpre hi
    refine (q51_0 es _ _ f _).trans ?_
    have hpos : decide (Int.ofNat i > 0) = decide (0 < i) := by by_cases h : 0 < i <;> simp [h]
    have next : stepOk es i = true → f (S51_0 es (Int.ofNat (i + 1))) = some ([[D.bool (tableOk es)]], []) := fun h => hf () (fun j hj => by
      by_cases hji : j = i
      · subst hji; exact h
      · exact hp j (by omega))
    have fail : stepOk es i = false → some ([[D.bool false]], []) = (some ([[D.bool (tableOk es)]], []) : Option (List Row × List Row)) := fun h => by rw [table_fail hi h]
    rw [toNat_of, hx, dec_lt, dec_ge, hpos, wrap_succ (by omega)]
    simp only [hi, decide_true, cond_true, Bool.and_self, Leaf.fit, List.getD_cons_zero, List.getD_cons_succ, D.num]
    have hstep : stepOk es i = (heardOk a v p l && (decide (i = 0) || aheadB (hN (es.getD (i - 1) []) 0) (hN (es.getD (i - 1) []) 1) a v)) := by unfold stepOk; rw [hx]; rfl
    unfold heardOk at hstep
    cases h1 : inR a 1 9
    · exact (aX51_2 es (es.length + 1) (Int.ofNat i)).trans (fail (by rw [hstep, h1]; rfl))
    cases h2 : inR v 1 4
    · exact (aX51_3 es (es.length + 1) (Int.ofNat i)).trans (fail (by rw [hstep, h1, h2]; rfl))
    cases h3 : inR p 0 3
    · exact (aX51_4 es (es.length + 1) (Int.ofNat i)).trans (fail (by rw [hstep, h1, h2, h3]; rfl))
    cases h4 : inR l 1 20
    · exact (aX51_5 es (es.length + 1) (Int.ofNat i)).trans (fail (by rw [hstep, h1, h2, h3, h4]; rfl))
    simp only [Bool.not_true, cond_false]
    by_cases hi0 : 0 < i
    · have hw : IntKind.wrap IntKind.i64 (Int.ofNat i - 1) = Int.ofNat (i - 1) := by
        rw [wrap_of (by have : (0 : Int) ≤ Int.ofNat i := Int.natCast_nonneg i; omega) (by show ((i : Nat) : Int) - 1 ≤ _; omega)]
        show ((i : Nat) : Int) - 1 = ((i - 1 : Nat) : Int)
        omega
      obtain ⟨a', v', p', l', hy⟩ := isHs_at hpre (i := i - 1) (by omega)
      rw [hw, toNat_of, dec_lt, dec_ge, hy]
      simp only [hi0, show i - 1 < es.length by omega, decide_true, cond_true, Bool.and_self, Leaf.fit, List.getD_cons_zero, List.getD_cons_succ, D.num]
      rw [hy] at hstep
      have hstep' : stepOk es i = aheadB a' v' a v := by
        rw [hstep, h1, h2, h3, h4]
        have : decide (i = 0) = false := by simp; omega
        rw [this]; rfl
      cases h5 : aheadB a' v' a v
      · exact (aX51_6 es (es.length + 1) (Int.ofNat i)).trans (fail (by rw [hstep', h5]))
      · exact next (by rw [hstep', h5])
    · simp only [hi0, decide_false, cond_false]
      exact next (by
        have : i = 0 := by omega
        rw [hstep, h1, h2, h3, h4, this]; rfl)
theorem s51 : SoundAt Go.Proofs.Try.prog Hx 51 c51 := soundAt_of T66_sound mixed Go.Proofs.Try.func51 (by kernel_rfl) (by
  intro rows r h
  unfold c51 at h
  split at h
  · rename_i es
    injection h with h
    injection h with hp h
    subst h
    exact ⟨_, m51 es hp⟩
  · cases h)
def T51 : Table := (51, c51) :: T66
theorem T51_sound : Table.Sound Go.Proofs.Try.prog Hx T51 := Table.sound_cons s51 T66_sound
/- implTableOk -/
def c54 : Contract
  | [[.sl false 4 es]] => some (isHs es, [[.bool (tableOk es)]], [])
  | _ => none

noncomputable def k54_0 (n : Nat) : Ex → St → Option (List Row × List Row) := kThen (fun st ↦ runCode (Ctx.mk Go.Proofs.Try.prog Hx (54)) (Table.call T51) n (codeAt [1, 1] (bodyOf Go.Proofs.Try.f54)) (Lv.mk 4 [] 4) st (kLeave (Ctx.P (Ctx.mk Go.Proofs.Try.prog Hx (54))) (List.zip (Array.toList (Go.Func.resultTypes Go.Proofs.Try.f54)) (Array.toList (Go.Func.results Go.Proofs.Try.f54))) [])) (kLeave (Ctx.P (Ctx.mk Go.Proofs.Try.prog Hx (54))) (List.zip (Array.toList (Go.Func.resultTypes Go.Proofs.Try.f54)) (Array.toList (Go.Func.results Go.Proofs.Try.f54))) [])
noncomputable def k54_1 (n : Nat) : Ex → St → Option (List Row × List Row) := kBlock (0) (k54_0 n)
noncomputable def S54_0 (es : List (List D)) (i0 : Int) : St := St.mk [TV.v false [C.d (D.sl false 4 es)], TV.v false [C.undef], TV.v false [C.undef], TV.v false [C.undef], TV.v false [C.undef], TV.v false [C.d (D.sl false 4 es)], TV.v false [C.d (D.int IntKind.i64 (Int.ofNat (List.length es)))], TV.v false [C.d (D.int IntKind.i64 i0)], TV.v false [C.undef], TV.v false [C.undef], TV.v false [C.undef], TV.v false [C.undef], TV.v false [C.undef], TV.v false [C.undef], TV.v false [C.undef], TV.v false [C.undef], TV.v false [C.undef], TV.v false [C.undef], TV.v false [C.undef], TV.v false [C.undef], TV.v false [C.undef], TV.v false [C.undef], TV.v false [C.undef], TV.v false [C.undef], TV.v false [C.undef], TV.v false [C.undef], TV.v false [C.undef], TV.v false [C.undef], TV.v false [C.undef], TV.v false [C.undef], TV.v false [C.undef], TV.v false [C.undef], TV.v false [C.undef], TV.v false [C.undef], TV.v false [C.undef], TV.v false [C.undef], TV.v false [C.undef], TV.v false [C.undef], TV.v false [C.undef], TV.v false [C.undef], TV.v false [C.undef], TV.v false [C.undef], TV.v false [C.undef], TV.v false [C.undef], TV.v false [C.undef], TV.v false [C.undef], TV.v false [C.undef], TV.v false [C.undef], TV.v false [C.undef], TV.v false [C.undef]] []
noncomputable def B54_0 (n : Nat) : St → (Ex → St → Option (List Row × List Row)) → Option (List Row × List Row) := runCode (Ctx.mk Go.Proofs.Try.prog Hx (54)) (Table.call T51) n (codeAt [1, 0, 1, 0, 0] (bodyOf Go.Proofs.Try.f54)) (Lv.mk 0 [(0, 1)] 4)
noncomputable def X54_2 (es : List (List D)) (i0 : Int) : St := St.mk [TV.v false [C.d (D.sl false 4 es)], TV.v false [C.undef], TV.v false [C.d (D.bool false)], TV.v false [C.d (D.int IntKind.i64 i0)], TV.v false [C.ptr 0 0 0 [] 4 0 0], TV.v false [C.d (D.sl false 4 es)], TV.v false [C.d (D.int IntKind.i64 (Int.ofNat (List.length es)))], TV.v false [C.d (D.int IntKind.i64 i0)], TV.v false [C.d (D.bool true)], TV.v false [C.d (D.int IntKind.i64 i0)], TV.v false [C.rptr (List.getD es (Int.toNat i0) [])], TV.v true [C.d (D.int IntKind.i64 (D.num (List.getD (List.getD es (Int.toNat i0) []) 0 D.dead))), C.d (D.int IntKind.i64 (D.num (List.getD (List.getD es (Int.toNat i0) []) 1 D.dead))), C.d (D.int IntKind.i64 (D.num (List.getD (List.getD es (Int.toNat i0) []) 2 D.dead))), C.d (D.int IntKind.i64 (D.num (List.getD (List.getD es (Int.toNat i0) []) 3 D.dead)))], TV.v false [C.ptr 0 0 0 [] 4 0 0], TV.v false [C.d (D.int IntKind.i64 (D.num (List.getD (List.getD es (Int.toNat i0) []) 0 D.dead)))], TV.v false [C.d (D.bool (inR (D.num (List.getD (List.getD es (Int.toNat i0) []) 0 D.dead)) (1) (9)))], TV.v false [C.d (D.bool !inR (D.num (List.getD (List.getD es (Int.toNat i0) []) 0 D.dead)) (1) (9))], TV.v false [C.d (D.bool true)], TV.v false [C.gone], TV.v false [C.gone], TV.v false [C.gone], TV.v false [C.gone], TV.v false [C.d (D.bool true)], TV.v false [C.d (D.bool true)], TV.v false [C.gone], TV.v false [C.gone], TV.v false [C.gone], TV.v false [C.gone], TV.v false [C.d (D.bool true)], TV.v false [C.d (D.bool true)], TV.v false [C.gone], TV.v false [C.gone], TV.v false [C.gone], TV.v false [C.gone], TV.v false [C.d (D.bool true)], TV.v false [C.undef], TV.v false [C.undef], TV.v false [C.undef], TV.v false [C.undef], TV.v false [C.undef], TV.v false [C.undef], TV.v false [C.undef], TV.v false [C.undef], TV.v false [C.undef], TV.v false [C.undef], TV.v false [C.undef], TV.v false [C.undef], TV.v false [C.undef], TV.v false [C.undef], TV.v false [C.undef], TV.v false [C.undef]] [Root.mk true 4 [[D.int IntKind.i64 (D.num (List.getD (List.getD es (Int.toNat i0) []) 0 D.dead)), D.int IntKind.i64 (D.num (List.getD (List.getD es (Int.toNat i0) []) 1 D.dead)), D.int IntKind.i64 (D.num (List.getD (List.getD es (Int.toNat i0) []) 2 D.dead)), D.int IntKind.i64 (D.num (List.getD (List.getD es (Int.toNat i0) []) 3 D.dead))]] 0 0 true true]
noncomputable def X54_3 (es : List (List D)) (i0 : Int) : St := St.mk [TV.v false [C.d (D.sl false 4 es)], TV.v false [C.undef], TV.v false [C.d (D.bool false)], TV.v false [C.d (D.int IntKind.i64 i0)], TV.v false [C.ptr 0 0 0 [] 4 0 0], TV.v false [C.d (D.sl false 4 es)], TV.v false [C.d (D.int IntKind.i64 (Int.ofNat (List.length es)))], TV.v false [C.d (D.int IntKind.i64 i0)], TV.v false [C.d (D.bool true)], TV.v false [C.d (D.int IntKind.i64 i0)], TV.v false [C.rptr (List.getD es (Int.toNat i0) [])], TV.v true [C.d (D.int IntKind.i64 (D.num (List.getD (List.getD es (Int.toNat i0) []) 0 D.dead))), C.d (D.int IntKind.i64 (D.num (List.getD (List.getD es (Int.toNat i0) []) 1 D.dead))), C.d (D.int IntKind.i64 (D.num (List.getD (List.getD es (Int.toNat i0) []) 2 D.dead))), C.d (D.int IntKind.i64 (D.num (List.getD (List.getD es (Int.toNat i0) []) 3 D.dead)))], TV.v false [C.ptr 0 0 0 [] 4 0 0], TV.v false [C.d (D.int IntKind.i64 (D.num (List.getD (List.getD es (Int.toNat i0) []) 0 D.dead)))], TV.v false [C.d (D.bool (inR (D.num (List.getD (List.getD es (Int.toNat i0) []) 0 D.dead)) (1) (9)))], TV.v false [C.d (D.bool !inR (D.num (List.getD (List.getD es (Int.toNat i0) []) 0 D.dead)) (1) (9))], TV.v false [C.d (D.bool false)], TV.v false [C.ptr 0 0 0 [] 4 0 1], TV.v false [C.d (D.int IntKind.i64 (D.num (List.getD (List.getD es (Int.toNat i0) []) 1 D.dead)))], TV.v false [C.d (D.bool (inR (D.num (List.getD (List.getD es (Int.toNat i0) []) 1 D.dead)) (1) (4)))], TV.v false [C.d (D.bool !inR (D.num (List.getD (List.getD es (Int.toNat i0) []) 1 D.dead)) (1) (4))], TV.v false [C.d (D.bool !inR (D.num (List.getD (List.getD es (Int.toNat i0) []) 1 D.dead)) (1) (4))], TV.v false [C.d (D.bool true)], TV.v false [C.gone], TV.v false [C.gone], TV.v false [C.gone], TV.v false [C.gone], TV.v false [C.d (D.bool true)], TV.v false [C.d (D.bool true)], TV.v false [C.gone], TV.v false [C.gone], TV.v false [C.gone], TV.v false [C.gone], TV.v false [C.d (D.bool true)], TV.v false [C.undef], TV.v false [C.undef], TV.v false [C.undef], TV.v false [C.undef], TV.v false [C.undef], TV.v false [C.undef], TV.v false [C.undef], TV.v false [C.undef], TV.v false [C.undef], TV.v false [C.undef], TV.v false [C.undef], TV.v false [C.undef], TV.v false [C.undef], TV.v false [C.undef], TV.v false [C.undef], TV.v false [C.undef]] [Root.mk true 4 [[D.int IntKind.i64 (D.num (List.getD (List.getD es (Int.toNat i0) []) 0 D.dead)), D.int IntKind.i64 (D.num (List.getD (List.getD es (Int.toNat i0) []) 1 D.dead)), D.int IntKind.i64 (D.num (List.getD (List.getD es (Int.toNat i0) []) 2 D.dead)), D.int IntKind.i64 (D.num (List.getD (List.getD es (Int.toNat i0) []) 3 D.dead))]] 0 0 true true]
noncomputable def X54_4 (es : List (List D)) (i0 : Int) : St := St.mk [TV.v false [C.d (D.sl false 4 es)], TV.v false [C.undef], TV.v false [C.d (D.bool false)], TV.v false [C.d (D.int IntKind.i64 i0)], TV.v false [C.ptr 0 0 0 [] 4 0 0], TV.v false [C.d (D.sl false 4 es)], TV.v false [C.d (D.int IntKind.i64 (Int.ofNat (List.length es)))], TV.v false [C.d (D.int IntKind.i64 i0)], TV.v false [C.d (D.bool true)], TV.v false [C.d (D.int IntKind.i64 i0)], TV.v false [C.rptr (List.getD es (Int.toNat i0) [])], TV.v true [C.d (D.int IntKind.i64 (D.num (List.getD (List.getD es (Int.toNat i0) []) 0 D.dead))), C.d (D.int IntKind.i64 (D.num (List.getD (List.getD es (Int.toNat i0) []) 1 D.dead))), C.d (D.int IntKind.i64 (D.num (List.getD (List.getD es (Int.toNat i0) []) 2 D.dead))), C.d (D.int IntKind.i64 (D.num (List.getD (List.getD es (Int.toNat i0) []) 3 D.dead)))], TV.v false [C.ptr 0 0 0 [] 4 0 0], TV.v false [C.d (D.int IntKind.i64 (D.num (List.getD (List.getD es (Int.toNat i0) []) 0 D.dead)))], TV.v false [C.d (D.bool (inR (D.num (List.getD (List.getD es (Int.toNat i0) []) 0 D.dead)) (1) (9)))], TV.v false [C.d (D.bool !inR (D.num (List.getD (List.getD es (Int.toNat i0) []) 0 D.dead)) (1) (9))], TV.v false [C.d (D.bool false)], TV.v false [C.ptr 0 0 0 [] 4 0 1], TV.v false [C.d (D.int IntKind.i64 (D.num (List.getD (List.getD es (Int.toNat i0) []) 1 D.dead)))], TV.v false [C.d (D.bool (inR (D.num (List.getD (List.getD es (Int.toNat i0) []) 1 D.dead)) (1) (4)))], TV.v false [C.d (D.bool !inR (D.num (List.getD (List.getD es (Int.toNat i0) []) 1 D.dead)) (1) (4))], TV.v false [C.d (D.bool !inR (D.num (List.getD (List.getD es (Int.toNat i0) []) 1 D.dead)) (1) (4))], TV.v false [C.d (D.bool false)], TV.v false [C.ptr 0 0 0 [] 4 0 2], TV.v false [C.d (D.int IntKind.i64 (D.num (List.getD (List.getD es (Int.toNat i0) []) 2 D.dead)))], TV.v false [C.d (D.bool (inR (D.num (List.getD (List.getD es (Int.toNat i0) []) 2 D.dead)) (0) (3)))], TV.v false [C.d (D.bool !inR (D.num (List.getD (List.getD es (Int.toNat i0) []) 2 D.dead)) (0) (3))], TV.v false [C.d (D.bool !inR (D.num (List.getD (List.getD es (Int.toNat i0) []) 2 D.dead)) (0) (3))], TV.v false [C.d (D.bool true)], TV.v false [C.gone], TV.v false [C.gone], TV.v false [C.gone], TV.v false [C.gone], TV.v false [C.d (D.bool true)], TV.v false [C.undef], TV.v false [C.undef], TV.v false [C.undef], TV.v false [C.undef], TV.v false [C.undef], TV.v false [C.undef], TV.v false [C.undef], TV.v false [C.undef], TV.v false [C.undef], TV.v false [C.undef], TV.v false [C.undef], TV.v false [C.undef], TV.v false [C.undef], TV.v false [C.undef], TV.v false [C.undef], TV.v false [C.undef]] [Root.mk true 4 [[D.int IntKind.i64 (D.num (List.getD (List.getD es (Int.toNat i0) []) 0 D.dead)), D.int IntKind.i64 (D.num (List.getD (List.getD es (Int.toNat i0) []) 1 D.dead)), D.int IntKind.i64 (D.num (List.getD (List.getD es (Int.toNat i0) []) 2 D.dead)), D.int IntKind.i64 (D.num (List.getD (List.getD es (Int.toNat i0) []) 3 D.dead))]] 0 0 true true]
noncomputable def X54_5 (es : List (List D)) (i0 : Int) : St := St.mk [TV.v false [C.d (D.sl false 4 es)], TV.v false [C.undef], TV.v false [C.d (D.bool false)], TV.v false [C.d (D.int IntKind.i64 i0)], TV.v false [C.ptr 0 0 0 [] 4 0 0], TV.v false [C.d (D.sl false 4 es)], TV.v false [C.d (D.int IntKind.i64 (Int.ofNat (List.length es)))], TV.v false [C.d (D.int IntKind.i64 i0)], TV.v false [C.d (D.bool true)], TV.v false [C.d (D.int IntKind.i64 i0)], TV.v false [C.rptr (List.getD es (Int.toNat i0) [])], TV.v true [C.d (D.int IntKind.i64 (D.num (List.getD (List.getD es (Int.toNat i0) []) 0 D.dead))), C.d (D.int IntKind.i64 (D.num (List.getD (List.getD es (Int.toNat i0) []) 1 D.dead))), C.d (D.int IntKind.i64 (D.num (List.getD (List.getD es (Int.toNat i0) []) 2 D.dead))), C.d (D.int IntKind.i64 (D.num (List.getD (List.getD es (Int.toNat i0) []) 3 D.dead)))], TV.v false [C.ptr 0 0 0 [] 4 0 0], TV.v false [C.d (D.int IntKind.i64 (D.num (List.getD (List.getD es (Int.toNat i0) []) 0 D.dead)))], TV.v false [C.d (D.bool (inR (D.num (List.getD (List.getD es (Int.toNat i0) []) 0 D.dead)) (1) (9)))], TV.v false [C.d (D.bool !inR (D.num (List.getD (List.getD es (Int.toNat i0) []) 0 D.dead)) (1) (9))], TV.v false [C.d (D.bool false)], TV.v false [C.ptr 0 0 0 [] 4 0 1], TV.v false [C.d (D.int IntKind.i64 (D.num (List.getD (List.getD es (Int.toNat i0) []) 1 D.dead)))], TV.v false [C.d (D.bool (inR (D.num (List.getD (List.getD es (Int.toNat i0) []) 1 D.dead)) (1) (4)))], TV.v false [C.d (D.bool !inR (D.num (List.getD (List.getD es (Int.toNat i0) []) 1 D.dead)) (1) (4))], TV.v false [C.d (D.bool !inR (D.num (List.getD (List.getD es (Int.toNat i0) []) 1 D.dead)) (1) (4))], TV.v false [C.d (D.bool false)], TV.v false [C.ptr 0 0 0 [] 4 0 2], TV.v false [C.d (D.int IntKind.i64 (D.num (List.getD (List.getD es (Int.toNat i0) []) 2 D.dead)))], TV.v false [C.d (D.bool (inR (D.num (List.getD (List.getD es (Int.toNat i0) []) 2 D.dead)) (0) (3)))], TV.v false [C.d (D.bool !inR (D.num (List.getD (List.getD es (Int.toNat i0) []) 2 D.dead)) (0) (3))], TV.v false [C.d (D.bool !inR (D.num (List.getD (List.getD es (Int.toNat i0) []) 2 D.dead)) (0) (3))], TV.v false [C.d (D.bool false)], TV.v false [C.ptr 0 0 0 [] 4 0 3], TV.v false [C.d (D.int IntKind.i64 (D.num (List.getD (List.getD es (Int.toNat i0) []) 3 D.dead)))], TV.v false [C.d (D.bool (inR (D.num (List.getD (List.getD es (Int.toNat i0) []) 3 D.dead)) (1) (20)))], TV.v false [C.d (D.bool !inR (D.num (List.getD (List.getD es (Int.toNat i0) []) 3 D.dead)) (1) (20))], TV.v false [C.d (D.bool true)], TV.v false [C.undef], TV.v false [C.undef], TV.v false [C.undef], TV.v false [C.undef], TV.v false [C.undef], TV.v false [C.undef], TV.v false [C.undef], TV.v false [C.undef], TV.v false [C.undef], TV.v false [C.undef], TV.v false [C.undef], TV.v false [C.undef], TV.v false [C.undef], TV.v false [C.undef], TV.v false [C.undef], TV.v false [C.undef]] [Root.mk true 4 [[D.int IntKind.i64 (D.num (List.getD (List.getD es (Int.toNat i0) []) 0 D.dead)), D.int IntKind.i64 (D.num (List.getD (List.getD es (Int.toNat i0) []) 1 D.dead)), D.int IntKind.i64 (D.num (List.getD (List.getD es (Int.toNat i0) []) 2 D.dead)), D.int IntKind.i64 (D.num (List.getD (List.getD es (Int.toNat i0) []) 3 D.dead))]] 0 0 true true]
noncomputable def X54_6 (es : List (List D)) (i0 : Int) : St := St.mk [TV.v false [C.d (D.sl false 4 es)], TV.v false [C.undef], TV.v false [C.d (D.bool false)], TV.v false [C.d (D.int IntKind.i64 i0)], TV.v false [C.ptr 0 0 0 [] 4 0 0], TV.v false [C.d (D.sl false 4 es)], TV.v false [C.d (D.int IntKind.i64 (Int.ofNat (List.length es)))], TV.v false [C.d (D.int IntKind.i64 i0)], TV.v false [C.d (D.bool true)], TV.v false [C.d (D.int IntKind.i64 i0)], TV.v false [C.rptr (List.getD es (Int.toNat i0) [])], TV.v true [C.d (D.int IntKind.i64 (D.num (List.getD (List.getD es (Int.toNat i0) []) 0 D.dead))), C.d (D.int IntKind.i64 (D.num (List.getD (List.getD es (Int.toNat i0) []) 1 D.dead))), C.d (D.int IntKind.i64 (D.num (List.getD (List.getD es (Int.toNat i0) []) 2 D.dead))), C.d (D.int IntKind.i64 (D.num (List.getD (List.getD es (Int.toNat i0) []) 3 D.dead)))], TV.v false [C.ptr 0 0 0 [] 4 0 0], TV.v false [C.d (D.int IntKind.i64 (D.num (List.getD (List.getD es (Int.toNat i0) []) 0 D.dead)))], TV.v false [C.d (D.bool (inR (D.num (List.getD (List.getD es (Int.toNat i0) []) 0 D.dead)) (1) (9)))], TV.v false [C.d (D.bool !inR (D.num (List.getD (List.getD es (Int.toNat i0) []) 0 D.dead)) (1) (9))], TV.v false [C.d (D.bool false)], TV.v false [C.ptr 0 0 0 [] 4 0 1], TV.v false [C.d (D.int IntKind.i64 (D.num (List.getD (List.getD es (Int.toNat i0) []) 1 D.dead)))], TV.v false [C.d (D.bool (inR (D.num (List.getD (List.getD es (Int.toNat i0) []) 1 D.dead)) (1) (4)))], TV.v false [C.d (D.bool !inR (D.num (List.getD (List.getD es (Int.toNat i0) []) 1 D.dead)) (1) (4))], TV.v false [C.d (D.bool !inR (D.num (List.getD (List.getD es (Int.toNat i0) []) 1 D.dead)) (1) (4))], TV.v false [C.d (D.bool false)], TV.v false [C.ptr 0 0 0 [] 4 0 2], TV.v false [C.d (D.int IntKind.i64 (D.num (List.getD (List.getD es (Int.toNat i0) []) 2 D.dead)))], TV.v false [C.d (D.bool (inR (D.num (List.getD (List.getD es (Int.toNat i0) []) 2 D.dead)) (0) (3)))], TV.v false [C.d (D.bool !inR (D.num (List.getD (List.getD es (Int.toNat i0) []) 2 D.dead)) (0) (3))], TV.v false [C.d (D.bool !inR (D.num (List.getD (List.getD es (Int.toNat i0) []) 2 D.dead)) (0) (3))], TV.v false [C.d (D.bool false)], TV.v false [C.ptr 0 0 0 [] 4 0 3], TV.v false [C.d (D.int IntKind.i64 (D.num (List.getD (List.getD es (Int.toNat i0) []) 3 D.dead)))], TV.v false [C.d (D.bool (inR (D.num (List.getD (List.getD es (Int.toNat i0) []) 3 D.dead)) (1) (20)))], TV.v false [C.d (D.bool !inR (D.num (List.getD (List.getD es (Int.toNat i0) []) 3 D.dead)) (1) (20))], TV.v false [C.d (D.bool false)], TV.v false [C.d (D.int IntKind.i64 i0)], TV.v false [C.d (D.bool (decide (i0 > 0)))], TV.v false [C.d (D.bool true)], TV.v false [C.d (D.sl false 4 es)], TV.v false [C.d (D.int IntKind.i64 i0)], TV.v false [C.d (D.int IntKind.i64 (IntKind.wrap IntKind.i64 (i0 - 1)))], TV.v false [C.rptr (List.getD es (Int.toNat (IntKind.wrap IntKind.i64 (i0 - 1))) [])], TV.v true [C.d (D.int IntKind.i64 (D.num (List.getD (List.getD es (Int.toNat (IntKind.wrap IntKind.i64 (i0 - 1))) []) 0 D.dead))), C.d (D.int IntKind.i64 (D.num (List.getD (List.getD es (Int.toNat (IntKind.wrap IntKind.i64 (i0 - 1))) []) 1 D.dead))), C.d (D.int IntKind.i64 (D.num (List.getD (List.getD es (Int.toNat (IntKind.wrap IntKind.i64 (i0 - 1))) []) 2 D.dead))), C.d (D.int IntKind.i64 (D.num (List.getD (List.getD es (Int.toNat (IntKind.wrap IntKind.i64 (i0 - 1))) []) 3 D.dead)))], TV.v true [C.d (D.int IntKind.i64 (D.num (List.getD (List.getD es (Int.toNat i0) []) 0 D.dead))), C.d (D.int IntKind.i64 (D.num (List.getD (List.getD es (Int.toNat i0) []) 1 D.dead))), C.d (D.int IntKind.i64 (D.num (List.getD (List.getD es (Int.toNat i0) []) 2 D.dead))), C.d (D.int IntKind.i64 (D.num (List.getD (List.getD es (Int.toNat i0) []) 3 D.dead)))], TV.v false [C.d (D.bool (aheadB (D.num (List.getD (List.getD es (Int.toNat (IntKind.wrap IntKind.i64 (i0 - 1))) []) 0 D.dead)) (D.num (List.getD (List.getD es (Int.toNat (IntKind.wrap IntKind.i64 (i0 - 1))) []) 1 D.dead)) (D.num (List.getD (List.getD es (Int.toNat i0) []) 0 D.dead)) (D.num (List.getD (List.getD es (Int.toNat i0) []) 1 D.dead))))], TV.v false [C.d (D.bool !aheadB (D.num (List.getD (List.getD es (Int.toNat (IntKind.wrap IntKind.i64 (i0 - 1))) []) 0 D.dead)) (D.num (List.getD (List.getD es (Int.toNat (IntKind.wrap IntKind.i64 (i0 - 1))) []) 1 D.dead)) (D.num (List.getD (List.getD es (Int.toNat i0) []) 0 D.dead)) (D.num (List.getD (List.getD es (Int.toNat i0) []) 1 D.dead)))], TV.v false [C.d (D.bool true)], TV.v false [C.undef], TV.v false [C.undef], TV.v false [C.undef], TV.v false [C.undef]] [Root.mk true 4 [[D.int IntKind.i64 (D.num (List.getD (List.getD es (Int.toNat i0) []) 0 D.dead)), D.int IntKind.i64 (D.num (List.getD (List.getD es (Int.toNat i0) []) 1 D.dead)), D.int IntKind.i64 (D.num (List.getD (List.getD es (Int.toNat i0) []) 2 D.dead)), D.int IntKind.i64 (D.num (List.getD (List.getD es (Int.toNat i0) []) 3 D.dead))]] 0 0 true true]
noncomputable def X54_7 (es : List (List D)) (i0 : Int) : St := St.mk [TV.v false [C.d (D.sl false 4 es)], TV.v false [C.undef], TV.v false [C.undef], TV.v false [C.undef], TV.v false [C.undef], TV.v false [C.d (D.sl false 4 es)], TV.v false [C.d (D.int IntKind.i64 (Int.ofNat (List.length es)))], TV.v false [C.d (D.int IntKind.i64 i0)], TV.v false [C.d (D.bool false)], TV.v false [C.undef], TV.v false [C.undef], TV.v false [C.undef], TV.v false [C.undef], TV.v false [C.undef], TV.v false [C.undef], TV.v false [C.undef], TV.v false [C.undef], TV.v false [C.undef], TV.v false [C.undef], TV.v false [C.undef], TV.v false [C.undef], TV.v false [C.undef], TV.v false [C.undef], TV.v false [C.undef], TV.v false [C.undef], TV.v false [C.undef], TV.v false [C.undef], TV.v false [C.undef], TV.v false [C.undef], TV.v false [C.undef], TV.v false [C.undef], TV.v false [C.undef], TV.v false [C.undef], TV.v false [C.undef], TV.v false [C.undef], TV.v false [C.undef], TV.v false [C.undef], TV.v false [C.undef], TV.v false [C.undef], TV.v false [C.undef], TV.v false [C.undef], TV.v false [C.undef], TV.v false [C.undef], TV.v false [C.undef], TV.v false [C.undef], TV.v false [C.undef], TV.v false [C.undef], TV.v false [C.undef], TV.v false [C.undef], TV.v false [C.undef]] []
theorem q54_0 (es : List (List D)) (n : Nat) (i0 : Int) (f : St → Option (List Row × List Row)) (K : Ex → St → Option (List Row × List Row)) : B54_0 n (S54_0 es i0) (@kThen (List Row × List Row) (fun st ↦ f (St.head 0 225 140737488355228 st)) K) = bif decide (i0 < Int.ofNat (List.length es)) then bif decide (0 ≤ i0) && decide (i0 < Int.ofNat (List.length es)) then bif Leaf.fit false (Leaf.int IntKind.i64) (List.getD (List.getD es (Int.toNat i0) []) 0 D.dead) && (Leaf.fit false (Leaf.int IntKind.i64) (List.getD (List.getD es (Int.toNat i0) []) 1 D.dead) && (Leaf.fit false (Leaf.int IntKind.i64) (List.getD (List.getD es (Int.toNat i0) []) 2 D.dead) && (Leaf.fit false (Leaf.int IntKind.i64) (List.getD (List.getD es (Int.toNat i0) []) 3 D.dead) && true))) then bif !inR (D.num (List.getD (List.getD es (Int.toNat i0) []) 0 D.dead)) (1) (9) then K Ex.ret (X54_2 es i0) else bif !inR (D.num (List.getD (List.getD es (Int.toNat i0) []) 1 D.dead)) (1) (4) then K Ex.ret (X54_3 es i0) else bif !inR (D.num (List.getD (List.getD es (Int.toNat i0) []) 2 D.dead)) (0) (3) then K Ex.ret (X54_4 es i0) else bif !inR (D.num (List.getD (List.getD es (Int.toNat i0) []) 3 D.dead)) (1) (20) then K Ex.ret (X54_5 es i0) else bif decide (i0 > 0) then bif decide (0 ≤ IntKind.wrap IntKind.i64 (i0 - 1)) && decide (IntKind.wrap IntKind.i64 (i0 - 1) < Int.ofNat (List.length es)) then bif Leaf.fit false (Leaf.int IntKind.i64) (List.getD (List.getD es (Int.toNat (IntKind.wrap IntKind.i64 (i0 - 1))) []) 0 D.dead) && (Leaf.fit false (Leaf.int IntKind.i64) (List.getD (List.getD es (Int.toNat (IntKind.wrap IntKind.i64 (i0 - 1))) []) 1 D.dead) && (Leaf.fit false (Leaf.int IntKind.i64) (List.getD (List.getD es (Int.toNat (IntKind.wrap IntKind.i64 (i0 - 1))) []) 2 D.dead) && (Leaf.fit false (Leaf.int IntKind.i64) (List.getD (List.getD es (Int.toNat (IntKind.wrap IntKind.i64 (i0 - 1))) []) 3 D.dead) && true))) then bif !aheadB (D.num (List.getD (List.getD es (Int.toNat (IntKind.wrap IntKind.i64 (i0 - 1))) []) 0 D.dead)) (D.num (List.getD (List.getD es (Int.toNat (IntKind.wrap IntKind.i64 (i0 - 1))) []) 1 D.dead)) (D.num (List.getD (List.getD es (Int.toNat i0) []) 0 D.dead)) (D.num (List.getD (List.getD es (Int.toNat i0) []) 1 D.dead)) then K Ex.ret (X54_6 es i0) else f (S54_0 es (IntKind.wrap IntKind.i64 (i0 + 1))) else none else none else f (S54_0 es (IntKind.wrap IntKind.i64 (i0 + 1))) else none else none else K (Ex.exit 0) (X54_7 es i0) := by kernel_rfl
theorem aX54_2 (es : List (List D)) (n : Nat) (i0 : Int) : k54_1 n Ex.ret (X54_2 es i0) = some ([[D.bool false]], []) := by kernel_rfl
theorem aX54_3 (es : List (List D)) (n : Nat) (i0 : Int) : k54_1 n Ex.ret (X54_3 es i0) = some ([[D.bool false]], []) := by kernel_rfl
theorem aX54_4 (es : List (List D)) (n : Nat) (i0 : Int) : k54_1 n Ex.ret (X54_4 es i0) = some ([[D.bool false]], []) := by kernel_rfl
theorem aX54_5 (es : List (List D)) (n : Nat) (i0 : Int) : k54_1 n Ex.ret (X54_5 es i0) = some ([[D.bool false]], []) := by kernel_rfl
theorem aX54_6 (es : List (List D)) (n : Nat) (i0 : Int) : k54_1 n Ex.ret (X54_6 es i0) = some ([[D.bool false]], []) := by kernel_rfl
theorem aX54_7 (es : List (List D)) (n : Nat) (i0 : Int) : k54_1 n (Ex.exit 0) (X54_7 es i0) = some ([[D.bool (decide (Int.ofNat (List.length es) ≤ 12))]], []) := by kernel_rfl
theorem r54 (es : List (List D)) (n : Nat) : evFn ⟨Go.Proofs.Try.prog, Hx, 54⟩ T51.call n Go.Proofs.Try.f54 [[.sl false 4 es]] = loopRun (B54_0 n) 0 225 140737488355228 n (S54_0 es (0)) (k54_1 n) := by kernel_rfl
theorem m54 (es : List (List D)) (hpre : (isHs es) = true) : evFn ⟨Go.Proofs.Try.prog, Hx, 54⟩ T51.call (es.length + 1) Go.Proofs.Try.f54 [[.sl false 4 es]] = some ([[.bool (tableOk es)]], []) := by
  refine (r54 es _).trans ?_
  obtain ⟨hrow, hlen⟩ := isHs_row hpre
  refine loop_scan (es := es) (fun i (_ : Unit) => S54_0 es (Int.ofNat i)) (fun i _ => ∀ j, j < i → stepOk es j = true) (fun _ _ => some ([[D.bool (tableOk es)]], [])) ?_ ?_ (es.length + 1) () (by omega) (fun j hj => absurd hj (Nat.not_lt_zero j))
  · intro _ hp f
    refine (q54_0 es _ _ f _).trans ?_
    simp only [dec_lt, Nat.lt_irrefl, decide_false, cond_false]
    refine (aX54_7 es _ _).trans ?_
    rw [table_end hp]
  · intro i _ hi hp f hf
    obtain ⟨a, v, p, l, hx⟩ := isHs_at hpre hi
    refine (q54_0 es _ _ f _).trans ?_
    have hpos : decide (Int.ofNat i > 0) = decide (0 < i) := by by_cases h : 0 < i <;> simp [h]
    have next : stepOk es i = true → f (S54_0 es (Int.ofNat (i + 1))) = some ([[D.bool (tableOk es)]], []) := fun h => hf () (fun j hj => by
      by_cases hji : j = i
      · subst hji; exact h
      · exact hp j (by omega))
    have fail : stepOk es i = false → some ([[D.bool false]], []) = (some ([[D.bool (tableOk es)]], []) : Option (List Row × List Row)) := fun h => by rw [table_fail hi h]
    rw [toNat_of, hx, dec_lt, dec_ge, hpos, wrap_succ (by omega)]
    simp only [hi, decide_true, cond_true, Bool.and_self, Leaf.fit, List.getD_cons_zero, List.getD_cons_succ, D.num]
    have hstep : stepOk es i = (heardOk a v p l && (decide (i = 0) || aheadB (hN (es.getD (i - 1) []) 0) (hN (es.getD (i - 1) []) 1) a v)) := by unfold stepOk; rw [hx]; rfl
    unfold heardOk at hstep
    cases h1 : inR a 1 9
    · exact (aX54_2 es (es.length + 1) (Int.ofNat i)).trans (fail (by rw [hstep, h1]; rfl))
    cases h2 : inR v 1 4
    · exact (aX54_3 es (es.length + 1) (Int.ofNat i)).trans (fail (by rw [hstep, h1, h2]; rfl))
    cases h3 : inR p 0 3
    · exact (aX54_4 es (es.length + 1) (Int.ofNat i)).trans (fail (by rw [hstep, h1, h2, h3]; rfl))
    cases h4 : inR l 1 20
    · exact (aX54_5 es (es.length + 1) (Int.ofNat i)).trans (fail (by rw [hstep, h1, h2, h3, h4]; rfl))
    simp only [Bool.not_true, cond_false]
    by_cases hi0 : 0 < i
    · have hw : IntKind.wrap IntKind.i64 (Int.ofNat i - 1) = Int.ofNat (i - 1) := by
        rw [wrap_of (by have : (0 : Int) ≤ Int.ofNat i := Int.natCast_nonneg i; omega) (by show ((i : Nat) : Int) - 1 ≤ _; omega)]
        show ((i : Nat) : Int) - 1 = ((i - 1 : Nat) : Int)
        omega
      obtain ⟨a', v', p', l', hy⟩ := isHs_at hpre (i := i - 1) (by omega)
      rw [hw, toNat_of, dec_lt, dec_ge, hy]
      simp only [hi0, show i - 1 < es.length by omega, decide_true, cond_true, Bool.and_self, Leaf.fit, List.getD_cons_zero, List.getD_cons_succ, D.num]
      rw [hy] at hstep
      have hstep' : stepOk es i = aheadB a' v' a v := by
        rw [hstep, h1, h2, h3, h4]
        have : decide (i = 0) = false := by simp; omega
        rw [this]; rfl
      cases h5 : aheadB a' v' a v
      · exact (aX54_6 es (es.length + 1) (Int.ofNat i)).trans (fail (by rw [hstep', h5]))
      · exact next (by rw [hstep', h5])
    · simp only [hi0, decide_false, cond_false]
      exact next (by
        have : i = 0 := by omega
        rw [hstep, h1, h2, h3, h4, this]; rfl)
theorem s54 : SoundAt Go.Proofs.Try.prog Hx 54 c54 := soundAt_of T51_sound mixed Go.Proofs.Try.func54 (by kernel_rfl) (by
  intro rows r h
  unfold c54 at h
  split at h
  · rename_i es
    injection h with h
    injection h with hp h
    subst h
    exact ⟨_, m54 es hp⟩
  · cases h)
def T54 : Table := (54, c54) :: T51
theorem T54_sound : Table.Sound Go.Proofs.Try.prog Hx T54 := Table.sound_cons s54 T51_sound
/- toHeard -/
def c67 : Contract
  | [[.int .i64 a, .int .i64 v, .int .i64 p, .int .i64 l]] => some (true, [[.int .i64 a, .int .i64 v, .int .i64 p, .int .i64 l]], [])
  | _ => none

theorem r67 (a v p l : Int) (n : Nat) : evFn ⟨Go.Proofs.Try.prog, Hx, 67⟩ T54.call n Go.Proofs.Try.f67 [[.int .i64 a, .int .i64 v, .int .i64 p, .int .i64 l]] = some ([[D.int IntKind.i64 a, D.int IntKind.i64 v, D.int IntKind.i64 p, D.int IntKind.i64 l]], []) := by kernel_rfl
theorem m67 (a v p l : Int)  : evFn ⟨Go.Proofs.Try.prog, Hx, 67⟩ T54.call 0 Go.Proofs.Try.f67 [[.int .i64 a, .int .i64 v, .int .i64 p, .int .i64 l]] = some ([[.int .i64 a, .int .i64 v, .int .i64 p, .int .i64 l]], []) := by
  refine (r67 a v p l _).trans ?_
  rfl
theorem s67 : SoundAt Go.Proofs.Try.prog Hx 67 c67 := soundAt_of T54_sound mixed Go.Proofs.Try.func67 (by kernel_rfl) (by
  intro rows r h
  unfold c67 at h
  split at h
  · rename_i a v p l
    injection h with h
    injection h with hp h
    subst h
    exact ⟨_, m67 a v p l⟩
  · cases h)
def T67 : Table := (67, c67) :: T54
theorem T67_sound : Table.Sound Go.Proofs.Try.prog Hx T67 := Table.sound_cons s67 T54_sound
/- toHeardS -/
def c52 : Contract
  | [[.sl false 4 es]] => some (isHs es, [[.sl true 4 es]], [])
  | _ => none

noncomputable def k52_0 (n : Nat) : Ex → St → Option (List Row × List Row) := kThen (fun st ↦ runCode (Ctx.mk Go.Proofs.Try.prog Hx (52)) (Table.call T67) n (codeAt [1, 1, 1] (bodyOf Go.Proofs.Try.f52)) (Lv.mk 4 [] 4) st (kLeave (Ctx.P (Ctx.mk Go.Proofs.Try.prog Hx (52))) (List.zip (Array.toList (Go.Func.resultTypes Go.Proofs.Try.f52)) (Array.toList (Go.Func.results Go.Proofs.Try.f52))) [])) (kLeave (Ctx.P (Ctx.mk Go.Proofs.Try.prog Hx (52))) (List.zip (Array.toList (Go.Func.resultTypes Go.Proofs.Try.f52)) (Array.toList (Go.Func.results Go.Proofs.Try.f52))) [])
noncomputable def k52_1 (n : Nat) : Ex → St → Option (List Row × List Row) := kBlock (0) (k52_0 n)
noncomputable def S52_0 (es : List (List D)) (i0 : Int) (es1 : List (List D)) : St := St.mk [TV.v false [C.d (D.sl false 4 es)], TV.v false [C.undef], TV.v false [C.undef], TV.v false [C.view 0 0 0 [] 4 none], TV.v false [C.d (D.int IntKind.i64 i0)], TV.v false [C.undef], TV.v false [C.undef], TV.v false [C.undef], TV.v false [C.undef], TV.v false [C.undef], TV.v false [C.undef], TV.v false [C.undef], TV.v false [C.undef], TV.v false [C.undef], TV.v false [C.undef], TV.v false [C.undef], TV.v false [C.undef], TV.v false [C.undef], TV.v false [C.undef], TV.v false [C.undef], TV.v false [C.undef], TV.v false [C.undef], TV.v false [C.undef]] [Root.mk false 4 es1 0 0 true true]
noncomputable def B52_0 (n : Nat) : St → (Ex → St → Option (List Row × List Row)) → Option (List Row × List Row) := runCode (Ctx.mk Go.Proofs.Try.prog Hx (52)) (Table.call T67) n (codeAt [1, 1, 0, 1, 0, 0] (bodyOf Go.Proofs.Try.f52)) (Lv.mk 0 [(0, 8)] 4)
noncomputable def X52_2 (es : List (List D)) (i0 : Int) (es1 : List (List D)) : St := St.mk [TV.v false [C.d (D.sl false 4 es)], TV.v false [C.undef], TV.v false [C.undef], TV.v false [C.view 0 0 0 [] 4 none], TV.v false [C.d (D.int IntKind.i64 i0)], TV.v false [C.undef], TV.v false [C.undef], TV.v false [C.undef], TV.v false [C.d (D.int IntKind.i64 i0)], TV.v false [C.d (D.sl false 4 es)], TV.v false [C.d (D.int IntKind.i64 (Int.ofNat (List.length es)))], TV.v false [C.d (D.bool false)], TV.v false [C.undef], TV.v false [C.undef], TV.v false [C.undef], TV.v false [C.undef], TV.v false [C.undef], TV.v false [C.undef], TV.v false [C.undef], TV.v false [C.undef], TV.v false [C.undef], TV.v false [C.undef], TV.v false [C.undef]] [Root.mk false 4 es1 0 0 true true]
theorem q52_0 (es : List (List D)) (n : Nat) (i0 : Int) (es1 : List (List D)) (f : St → Option (List Row × List Row)) (K : Ex → St → Option (List Row × List Row)) : B52_0 n (S52_0 es i0 es1) (@kThen (List Row × List Row) (fun st ↦ f (St.head 1 25 4194064 st)) K) = bif decide (i0 < Int.ofNat (List.length es)) then bif decide (0 ≤ i0) && decide (i0 < Int.ofNat (List.length es)) then bif Leaf.fit false (Leaf.int IntKind.i64) (List.getD (List.getD es (Int.toNat i0) []) 0 D.dead) && (Leaf.fit false (Leaf.int IntKind.i64) (List.getD (List.getD es (Int.toNat i0) []) 1 D.dead) && (Leaf.fit false (Leaf.int IntKind.i64) (List.getD (List.getD es (Int.toNat i0) []) 2 D.dead) && (Leaf.fit false (Leaf.int IntKind.i64) (List.getD (List.getD es (Int.toNat i0) []) 3 D.dead) && true))) then bif decide (0 ≤ i0) && decide (i0 < Int.ofNat (List.length es1)) then f (S52_0 es (IntKind.wrap IntKind.i64 (i0 + 1)) (List.set es1 (0 + Int.toNat i0) [D.int IntKind.i64 (D.num (List.getD (List.getD es (Int.toNat i0) []) 0 D.dead)), D.int IntKind.i64 (D.num (List.getD (List.getD es (Int.toNat i0) []) 1 D.dead)), D.int IntKind.i64 (D.num (List.getD (List.getD es (Int.toNat i0) []) 2 D.dead)), D.int IntKind.i64 (D.num (List.getD (List.getD es (Int.toNat i0) []) 3 D.dead))])) else none else none else none else K (Ex.exit 0) (X52_2 es i0 es1) := by kernel_rfl
theorem aX52_2 (es : List (List D)) (n : Nat) (i0 : Int) (es1 : List (List D)) : k52_1 n (Ex.exit 0) (X52_2 es i0 es1) = some ([[D.sl true 4 es1]], []) := by kernel_rfl
theorem r52 (es : List (List D)) (n : Nat) : evFn ⟨Go.Proofs.Try.prog, Hx, 52⟩ T67.call n Go.Proofs.Try.f52 [[.sl false 4 es]] = bif decide (0 ≤ Int.ofNat (List.length es)) && (decide (Int.ofNat (List.length es) ≤ Int.ofNat (List.length es)) && decide (Int.toNat (Int.ofNat (List.length es)) * 32 ≤ 140737488355328)) then loopRun (B52_0 n) 1 25 4194064 n (S52_0 es (0) (List.replicate (Int.toNat (Int.ofNat (List.length es))) [D.int IntKind.i64 (0), D.int IntKind.i64 (0), D.int IntKind.i64 (0), D.int IntKind.i64 (0)])) (k52_1 n) else none := by kernel_rfl
theorem m52 (es : List (List D)) (hpre : (isHs es) = true) : evFn ⟨Go.Proofs.Try.prog, Hx, 52⟩ T67.call (es.length + 1) Go.Proofs.Try.f52 [[.sl false 4 es]] = some ([[.sl true 4 es]], []) := by
  refine (r52 es _).trans ?_
  obtain ⟨hrow, hlen⟩ := isHs_row hpre
  rw [make_ok (by omega), cond_true]
  refine loop_scan (es := es) (fun i xs => S52_0 es (Int.ofNat i) xs) (fun i xs => xs.length = es.length ∧ xs.take i = es.take i) (fun _ _ => some ([[D.sl true 4 es]], [])) ?_ ?_ (es.length + 1) (List.replicate es.length _) (by omega) ⟨List.length_replicate .., rfl⟩
  · rintro xs ⟨h2, h3⟩ f
    refine (q52_0 es _ _ xs f _).trans ?_
    simp only [dec_lt, Nat.lt_irrefl, decide_false, cond_false]
    rw [List.take_length, ← h2, List.take_length] at h3
    subst h3
    exact aX52_2 xs _ _ xs
  · rintro i xs hi ⟨h2, h3⟩ f hf
    obtain ⟨a, v, p, l, hx⟩ := isHs_at hpre hi
    refine (q52_0 es _ _ xs f _).trans ?_
    rw [toNat_of, hx, dec_lt, dec_lt, dec_ge, h2, Nat.zero_add, wrap_succ (by omega)]
    simp only [hi, decide_true, cond_true, Bool.and_self, Leaf.fit, List.getD_cons_zero, List.getD_cons_succ, D.num]
    refine hf (xs.set i [.int .i64 a, .int .i64 v, .int .i64 p, .int .i64 l]) ⟨by simp [h2], ?_⟩
    rw [← hx]
    exact getD_take_succ hi h2 h3
theorem s52 : SoundAt Go.Proofs.Try.prog Hx 52 c52 := soundAt_of T67_sound mixed Go.Proofs.Try.func52 (by kernel_rfl) (by
  intro rows r h
  unfold c52 at h
  split at h
  · rename_i es
    injection h with h
    injection h with hp h
    subst h
    exact ⟨_, m52 es hp⟩
  · cases h)
def T52 : Table := (52, c52) :: T67
theorem T52_sound : Table.Sound Go.Proofs.Try.prog Hx T52 := Table.sound_cons s52 T67_sound
/- szHeardS -/
def c49 : Contract
  | [[.sl false 4 es], [.int .i64 x]] => some (true, [[.int .i64 (szH es x)]], [])
  | _ => none

theorem r49 (es : List (List D)) (x : Int) (n : Nat) : evFn ⟨Go.Proofs.Try.prog, Hx, 49⟩ T52.call n Go.Proofs.Try.f49 [[.sl false 4 es], [.int .i64 x]] = bif decide (IntKind.wrap IntKind.i64 (x - Int.ofNat (List.length es)) < 0) then some ([[D.int IntKind.i64 (Int.negSucc 0)]], []) else some ([[D.int IntKind.i64 (IntKind.wrap IntKind.i64 (x - Int.ofNat (List.length es)))]], []) := by kernel_rfl
theorem m49 (es : List (List D)) (x : Int)  : evFn ⟨Go.Proofs.Try.prog, Hx, 49⟩ T52.call 0 Go.Proofs.Try.f49 [[.sl false 4 es], [.int .i64 x]] = some ([[.int .i64 (szH es x)]], []) := by
  refine (r49 es x _).trans ?_
  unfold szH
  cases decide (IntKind.wrap IntKind.i64 (x - Int.ofNat es.length) < 0) <;> rfl
theorem s49 : SoundAt Go.Proofs.Try.prog Hx 49 c49 := soundAt_of T52_sound mixed Go.Proofs.Try.func49 (by kernel_rfl) (by
  intro rows r h
  unfold c49 at h
  split at h
  · rename_i es x
    injection h with h
    injection h with hp h
    subst h
    exact ⟨_, m49 es x⟩
  · cases h)
def T49 : Table := (49, c49) :: T52
theorem T49_sound : Table.Sound Go.Proofs.Try.prog Hx T49 := Table.sound_cons s49 T52_sound
/- eqHeard -/
def c71 : Contract
  | [[.int .i64 a, .int .i64 v, .int .i64 p, .int .i64 l], [.int .i64 a', .int .i64 v', .int .i64 p', .int .i64 l']] => some (true, [[.bool (a == a' && (v == v' && (p == p' && l == l')))]], [])
  | _ => none

theorem r71 (a v p l a' v' p' l' : Int) (n : Nat) : evFn ⟨Go.Proofs.Try.prog, Hx, 71⟩ T49.call n Go.Proofs.Try.f71 [[.int .i64 a, .int .i64 v, .int .i64 p, .int .i64 l], [.int .i64 a', .int .i64 v', .int .i64 p', .int .i64 l']] = bif a != a' then some ([[D.bool false]], []) else bif v != v' then some ([[D.bool false]], []) else bif p != p' then some ([[D.bool false]], []) else bif l != l' then some ([[D.bool false]], []) else some ([[D.bool true]], []) := by kernel_rfl
theorem m71 (a v p l a' v' p' l' : Int)  : evFn ⟨Go.Proofs.Try.prog, Hx, 71⟩ T49.call 0 Go.Proofs.Try.f71 [[.int .i64 a, .int .i64 v, .int .i64 p, .int .i64 l], [.int .i64 a', .int .i64 v', .int .i64 p', .int .i64 l']] = some ([[.bool (a == a' && (v == v' && (p == p' && l == l')))]], []) := by
  refine (r71 a v p l a' v' p' l' _).trans ?_
  simp only [bne]
  cases a == a' <;> cases v == v' <;> cases p == p' <;> cases l == l' <;> rfl
theorem s71 : SoundAt Go.Proofs.Try.prog Hx 71 c71 := soundAt_of T49_sound mixed Go.Proofs.Try.func71 (by kernel_rfl) (by
  intro rows r h
  unfold c71 at h
  split at h
  · rename_i a v p l a' v' p' l'
    injection h with h
    injection h with hp h
    subst h
    exact ⟨_, m71 a v p l a' v' p' l'⟩
  · cases h)
def T71 : Table := (71, c71) :: T49
theorem T71_sound : Table.Sound Go.Proofs.Try.prog Hx T71 := Table.sound_cons s71 T49_sound
end Go.Ev
namespace Go.Md
open Go Go.Ev
def eqRows (es es' : List (List D)) : Bool := es.map (List.map D.num) == es'.map (List.map D.num)
theorem eqRows_self (es : List (List D)) : eqRows es es = true := by unfold eqRows; simp
theorem eqRows_ne {es es' : List (List D)} {i : Nat} (hi : i < es.length) (hi' : i < es'.length) (h : (es.getD i []).map D.num ≠ (es'.getD i []).map D.num) : eqRows es es' = false := by
  unfold eqRows
  refine beq_eq_false_iff_ne.2 (fun he => h ?_)
  have := congrArg (fun l : List (List Int) => l[i]?) he
  simp only [List.getElem?_map, List.getElem?_eq_getElem hi, List.getElem?_eq_getElem hi', Option.map_some, Option.some.injEq] at this
  rw [List.getD_eq_getElem?_getD, List.getD_eq_getElem?_getD, List.getElem?_eq_getElem hi, List.getElem?_eq_getElem hi']
  exact this
theorem eqRows_len {es es' : List (List D)} (h : es.length ≠ es'.length) : eqRows es es' = false := by
  unfold eqRows
  refine beq_eq_false_iff_ne.2 (fun he => h ?_)
  have := congrArg List.length he
  simpa using this
end Go.Md
namespace Go.Ev
open Go.Md
/- eqHeardS -/
def c55 : Contract
  | [[.sl false 4 es], [.sl false 4 es']] => some (isHs es && isHs es', [[.bool (eqRows es es')]], [])
  | _ => none

noncomputable def k55_0 (n : Nat) : Ex → St → Option (List Row × List Row) := kThen (fun st ↦ runCode (Ctx.mk Go.Proofs.Try.prog Hx (55)) (Table.call T71) n (codeAt [1, 1, 1] (bodyOf Go.Proofs.Try.f55)) (Lv.mk 16 [] 16) st (kLeave (Ctx.P (Ctx.mk Go.Proofs.Try.prog Hx (55))) (List.zip (Array.toList (Go.Func.resultTypes Go.Proofs.Try.f55)) (Array.toList (Go.Func.results Go.Proofs.Try.f55))) [])) (kLeave (Ctx.P (Ctx.mk Go.Proofs.Try.prog Hx (55))) (List.zip (Array.toList (Go.Func.resultTypes Go.Proofs.Try.f55)) (Array.toList (Go.Func.results Go.Proofs.Try.f55))) [])
noncomputable def k55_1 (n : Nat) : Ex → St → Option (List Row × List Row) := kBlock (0) (k55_0 n)
noncomputable def S55_0 (es : List (List D)) (es' : List (List D)) (i0 : Int) : St := St.mk [TV.v false [C.d (D.sl false 4 es)], TV.v false [C.d (D.sl false 4 es')], TV.v false [C.undef], TV.v false [C.undef], TV.v false [C.undef], TV.v false [C.d (D.int IntKind.i64 i0)], TV.v false [C.undef], TV.v false [C.undef], TV.v false [C.undef], TV.v false [C.undef], TV.v false [C.undef], TV.v false [C.undef], TV.v false [C.undef], TV.v false [C.undef], TV.v false [C.undef], TV.v false [C.undef], TV.v false [C.undef], TV.v false [C.undef], TV.v false [C.undef], TV.v false [C.undef], TV.v false [C.undef], TV.v false [C.undef], TV.v false [C.undef], TV.v false [C.undef], TV.v false [C.undef], TV.v false [C.undef], TV.v false [C.undef]] []
noncomputable def B55_0 (n : Nat) : St → (Ex → St → Option (List Row × List Row)) → Option (List Row × List Row) := runCode (Ctx.mk Go.Proofs.Try.prog Hx (55)) (Table.call T71) n (codeAt [1, 1, 0, 1, 0, 0] (bodyOf Go.Proofs.Try.f55)) (Lv.mk 0 [(0, 0)] 16)
noncomputable def X55_2 (es : List (List D)) (es' : List (List D)) (i0 : Int) : St := St.mk [TV.v false [C.d (D.sl false 4 es)], TV.v false [C.d (D.sl false 4 es')], TV.v false [C.undef], TV.v false [C.undef], TV.v false [C.d (D.bool false)], TV.v false [C.d (D.int IntKind.i64 i0)], TV.v false [C.undef], TV.v false [C.undef], TV.v false [C.undef], TV.v false [C.undef], TV.v false [C.undef], TV.v false [C.d (D.int IntKind.i64 i0)], TV.v false [C.d (D.sl false 4 es)], TV.v false [C.d (D.int IntKind.i64 (Int.ofNat (List.length es)))], TV.v false [C.d (D.bool true)], TV.v false [C.undef], TV.v false [C.undef], TV.v false [C.d (D.sl false 4 es)], TV.v false [C.d (D.int IntKind.i64 i0)], TV.v false [C.rptr (List.getD es (Int.toNat i0) [])], TV.v true [C.d (D.int IntKind.i64 (D.num (List.getD (List.getD es (Int.toNat i0) []) 0 D.dead))), C.d (D.int IntKind.i64 (D.num (List.getD (List.getD es (Int.toNat i0) []) 1 D.dead))), C.d (D.int IntKind.i64 (D.num (List.getD (List.getD es (Int.toNat i0) []) 2 D.dead))), C.d (D.int IntKind.i64 (D.num (List.getD (List.getD es (Int.toNat i0) []) 3 D.dead)))], TV.v false [C.d (D.sl false 4 es')], TV.v false [C.d (D.int IntKind.i64 i0)], TV.v false [C.rptr (List.getD es' (Int.toNat i0) [])], TV.v true [C.d (D.int IntKind.i64 (D.num (List.getD (List.getD es' (Int.toNat i0) []) 0 D.dead))), C.d (D.int IntKind.i64 (D.num (List.getD (List.getD es' (Int.toNat i0) []) 1 D.dead))), C.d (D.int IntKind.i64 (D.num (List.getD (List.getD es' (Int.toNat i0) []) 2 D.dead))), C.d (D.int IntKind.i64 (D.num (List.getD (List.getD es' (Int.toNat i0) []) 3 D.dead)))], TV.v false [C.d (D.bool (D.num (List.getD (List.getD es (Int.toNat i0) []) 0 D.dead) == D.num (List.getD (List.getD es' (Int.toNat i0) []) 0 D.dead) && (D.num (List.getD (List.getD es (Int.toNat i0) []) 1 D.dead) == D.num (List.getD (List.getD es' (Int.toNat i0) []) 1 D.dead) && (D.num (List.getD (List.getD es (Int.toNat i0) []) 2 D.dead) == D.num (List.getD (List.getD es' (Int.toNat i0) []) 2 D.dead) && D.num (List.getD (List.getD es (Int.toNat i0) []) 3 D.dead) == D.num (List.getD (List.getD es' (Int.toNat i0) []) 3 D.dead)))))], TV.v false [C.d (D.bool true)]] []
noncomputable def X55_3 (es : List (List D)) (es' : List (List D)) (i0 : Int) : St := St.mk [TV.v false [C.d (D.sl false 4 es)], TV.v false [C.d (D.sl false 4 es')], TV.v false [C.undef], TV.v false [C.undef], TV.v false [C.undef], TV.v false [C.d (D.int IntKind.i64 i0)], TV.v false [C.undef], TV.v false [C.undef], TV.v false [C.undef], TV.v false [C.undef], TV.v false [C.undef], TV.v false [C.d (D.int IntKind.i64 i0)], TV.v false [C.d (D.sl false 4 es)], TV.v false [C.d (D.int IntKind.i64 (Int.ofNat (List.length es)))], TV.v false [C.d (D.bool false)], TV.v false [C.undef], TV.v false [C.undef], TV.v false [C.undef], TV.v false [C.undef], TV.v false [C.undef], TV.v false [C.undef], TV.v false [C.undef], TV.v false [C.undef], TV.v false [C.undef], TV.v false [C.undef], TV.v false [C.undef], TV.v false [C.undef]] []
theorem q55_0 (es : List (List D)) (es' : List (List D)) (n : Nat) (i0 : Int) (f : St → Option (List Row × List Row)) (K : Ex → St → Option (List Row × List Row)) : B55_0 n (S55_0 es es' i0) (@kThen (List Row × List Row) (fun st ↦ f (St.head 0 35 134215728 st)) K) = bif decide (i0 < Int.ofNat (List.length es)) then bif decide (0 ≤ i0) && decide (i0 < Int.ofNat (List.length es)) then bif Leaf.fit false (Leaf.int IntKind.i64) (List.getD (List.getD es (Int.toNat i0) []) 0 D.dead) && (Leaf.fit false (Leaf.int IntKind.i64) (List.getD (List.getD es (Int.toNat i0) []) 1 D.dead) && (Leaf.fit false (Leaf.int IntKind.i64) (List.getD (List.getD es (Int.toNat i0) []) 2 D.dead) && (Leaf.fit false (Leaf.int IntKind.i64) (List.getD (List.getD es (Int.toNat i0) []) 3 D.dead) && true))) then bif decide (0 ≤ i0) && decide (i0 < Int.ofNat (List.length es')) then bif Leaf.fit false (Leaf.int IntKind.i64) (List.getD (List.getD es' (Int.toNat i0) []) 0 D.dead) && (Leaf.fit false (Leaf.int IntKind.i64) (List.getD (List.getD es' (Int.toNat i0) []) 1 D.dead) && (Leaf.fit false (Leaf.int IntKind.i64) (List.getD (List.getD es' (Int.toNat i0) []) 2 D.dead) && (Leaf.fit false (Leaf.int IntKind.i64) (List.getD (List.getD es' (Int.toNat i0) []) 3 D.dead) && true))) then bif !(D.num (List.getD (List.getD es (Int.toNat i0) []) 0 D.dead) == D.num (List.getD (List.getD es' (Int.toNat i0) []) 0 D.dead) && (D.num (List.getD (List.getD es (Int.toNat i0) []) 1 D.dead) == D.num (List.getD (List.getD es' (Int.toNat i0) []) 1 D.dead) && (D.num (List.getD (List.getD es (Int.toNat i0) []) 2 D.dead) == D.num (List.getD (List.getD es' (Int.toNat i0) []) 2 D.dead) && D.num (List.getD (List.getD es (Int.toNat i0) []) 3 D.dead) == D.num (List.getD (List.getD es' (Int.toNat i0) []) 3 D.dead)))) then K Ex.ret (X55_2 es es' i0) else f (S55_0 es es' (IntKind.wrap IntKind.i64 (i0 + 1))) else none else none else none else none else K (Ex.exit 0) (X55_3 es es' i0) := by kernel_rfl
theorem aX55_2 (es : List (List D)) (es' : List (List D)) (n : Nat) (i0 : Int) : k55_1 n Ex.ret (X55_2 es es' i0) = some ([[D.bool false]], []) := by kernel_rfl
theorem aX55_3 (es : List (List D)) (es' : List (List D)) (n : Nat) (i0 : Int) : k55_1 n (Ex.exit 0) (X55_3 es es' i0) = some ([[D.bool true]], []) := by kernel_rfl
theorem r55 (es es' : List (List D)) (n : Nat) : evFn ⟨Go.Proofs.Try.prog, Hx, 55⟩ T71.call n Go.Proofs.Try.f55 [[.sl false 4 es], [.sl false 4 es']] = bif Int.ofNat (List.length es) != Int.ofNat (List.length es') then some ([[D.bool false]], []) else loopRun (B55_0 n) 0 35 134215728 n (S55_0 es es' (0)) (k55_1 n) := by kernel_rfl
theorem m55 (es es' : List (List D)) (hpre : (isHs es && isHs es') = true) : evFn ⟨Go.Proofs.Try.prog, Hx, 55⟩ T71.call (es.length + 1) Go.Proofs.Try.f55 [[.sl false 4 es], [.sl false 4 es']] = some ([[.bool (eqRows es es')]], []) := by
  refine (r55 es es' _).trans ?_
  rw [Bool.and_eq_true] at hpre
  obtain ⟨h1, h2⟩ := hpre
  have hlen := (isHs_row h1).2
  rw [len_ne]
  by_cases hl : es.length = es'.length
  · simp only [hl, decide_true, Bool.not_true, cond_false]
    rw [← hl]
    refine loop_scan (es := es) (fun i (_ : Unit) => S55_0 es es' (Int.ofNat i)) (fun i _ => ∀ j, j < i → es.getD j [] = es'.getD j []) (fun _ _ => some ([[D.bool (eqRows es es')]], [])) ?_ ?_ (es.length + 1) () (by omega) (fun j hj => absurd hj (Nat.not_lt_zero j))
    · intro _ hp f
      refine (q55_0 es es' _ _ f _).trans ?_
      simp only [dec_lt, Nat.lt_irrefl, decide_false, cond_false]
      refine (aX55_3 es es' _ _).trans ?_
      have : es = es' := List.ext_getElem hl (fun j hj hj' => by
        have := hp j hj
        rw [List.getD_eq_getElem?_getD, List.getD_eq_getElem?_getD, List.getElem?_eq_getElem hj, List.getElem?_eq_getElem hj'] at this
        exact this)
      rw [← this, eqRows_self]
    · intro i _ hi hp f hf
      obtain ⟨a, v, p, l, hx⟩ := isHs_at h1 hi
      obtain ⟨a', v', p', l', hy⟩ := isHs_at h2 (i := i) (by omega)
      refine (q55_0 es es' _ _ f _).trans ?_
      rw [toNat_of, hx, hy, dec_lt, dec_lt, dec_ge, ← hl, wrap_succ (by omega)]
      simp only [hi, decide_true, cond_true, Bool.and_self, Leaf.fit, List.getD_cons_zero, List.getD_cons_succ, D.num]
      cases hq : (a == a' && (v == v' && (p == p' && l == l')))
      · refine (aX55_2 es es' _ _).trans ?_
        have : eqRows es es' = false := eqRows_ne hi (by omega) (fun he => by
          rw [hx, hy] at he
          simp only [List.map_cons, List.map_nil, D.num, List.cons.injEq, and_true] at he
          obtain ⟨r1, r2, r3, r4⟩ := he
          rw [r1, r2, r3, r4] at hq
          simp at hq)
        rw [this]
      · simp only [Bool.and_eq_true, beq_iff_eq] at hq
        obtain ⟨rfl, rfl, rfl, rfl⟩ := hq
        refine hf () (fun j hj => ?_)
        by_cases hji : j = i
        · subst hji; rw [hx, hy]
        · exact hp j (by omega)
  · simp only [hl, decide_false, Bool.not_false, cond_true]
    have : eqRows es es' = false := eqRows_len hl
    rw [this]
theorem s55 : SoundAt Go.Proofs.Try.prog Hx 55 c55 := soundAt_of T71_sound mixed Go.Proofs.Try.func55 (by kernel_rfl) (by
  intro rows r h
  unfold c55 at h
  split at h
  · rename_i es es'
    injection h with h
    injection h with hp h
    subst h
    exact ⟨_, m55 es es' hp⟩
  · cases h)
def T55 : Table := (55, c55) :: T71
theorem T55_sound : Table.Sound Go.Proofs.Try.prog Hx T55 := Table.sound_cons s55 T71_sound
end Go.Ev
