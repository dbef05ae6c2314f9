/- Contracts of functions, each by its evaluation. -/
import Derived.Test.YtgmmhnloobedjaaEvTy
import Derived.Test.YtgmmhnloobedjaaProg
import Derived.KernelRfl
import Derived.Test.YtgmmhnloobedjaaEvLib
namespace Go.Ev
open Go.RowKit
set_option linter.unusedVariables false
set_option linter.unusedSimpArgs false
set_option maxRecDepth 100000
def Hx : Hints := {}
def T0 : Table := []
theorem T0_sound : Table.Sound Go.Proofs.Try.prog Hx T0 := Table.sound_nil
theorem mixed : Go.Proofs.Try.prog.follows .mixedOrders = true := by kernel_rfl
end Go.Ev
namespace Go.Md
open Go Go.Ev
def inR (a b c : Int) : Bool := decide (a ≥ b) && decide (a ≤ c)
def buckOk (h m p : Int) : Bool := inR m 1 1000 && (inR p 0 m && inR h 0 m)
def canAdmit (h m p n : Int) : Bool := buckOk h m p && inR n 1 h
end Go.Md
namespace Go.Ev
open Go.Md
/- inRange -/
def c53 : Contract
  | [[.int .i64 a], [.int .i64 b], [.int .i64 c]] => some (true, [[.bool (inR a b c)]], [])
  | _ => none

theorem r53 (a b c : Int) (n : Nat) : evFn ⟨Go.Proofs.Try.prog, Hx, 53⟩ T0.call n Go.Proofs.Try.f53 [[.int .i64 a], [.int .i64 b], [.int .i64 c]] = bif decide (a ≥ b) then some ([[D.bool (decide (a ≤ c))]], []) else some ([[D.bool false]], []) := by kernel_rfl
theorem m53 (a b c : Int)  : evFn ⟨Go.Proofs.Try.prog, Hx, 53⟩ T0.call 0 Go.Proofs.Try.f53 [[.int .i64 a], [.int .i64 b], [.int .i64 c]] = some ([[.bool (inR a b c)]], []) := by
  refine (r53 a b c _).trans ?_
  unfold inR
  cases decide (a ≥ b) <;> rfl
theorem s53 : SoundAt Go.Proofs.Try.prog Hx 53 c53 := soundAt_of T0_sound mixed Go.Proofs.Try.func53 (by kernel_rfl) (by
  intro rows r h
  unfold c53 at h
  split at h
  · rename_i a b c
    injection h with h
    injection h with hp h
    subst h
    exact ⟨_, m53 a b c⟩
  · cases h)
def T53 : Table := (53, c53) :: T0
theorem T53_sound : Table.Sound Go.Proofs.Try.prog Hx T53 := Table.sound_cons s53 T0_sound
/- l1In -/
def c50 : Contract
  | [[.int .i64 a], [.int .i64 b], [.int .i64 c]] => some (true, [[.bool (inR a b c)]], [])
  | _ => none

theorem r50 (a b c : Int) (n : Nat) : evFn ⟨Go.Proofs.Try.prog, Hx, 50⟩ T53.call n Go.Proofs.Try.f50 [[.int .i64 a], [.int .i64 b], [.int .i64 c]] = bif decide (a ≥ b) then some ([[D.bool (decide (a ≤ c))]], []) else some ([[D.bool false]], []) := by kernel_rfl
theorem m50 (a b c : Int)  : evFn ⟨Go.Proofs.Try.prog, Hx, 50⟩ T53.call 0 Go.Proofs.Try.f50 [[.int .i64 a], [.int .i64 b], [.int .i64 c]] = some ([[.bool (inR a b c)]], []) := by
  refine (r50 a b c _).trans ?_
  unfold inR
  cases decide (a ≥ b) <;> rfl
theorem s50 : SoundAt Go.Proofs.Try.prog Hx 50 c50 := soundAt_of T53_sound mixed Go.Proofs.Try.func50 (by kernel_rfl) (by
  intro rows r h
  unfold c50 at h
  split at h
  · rename_i a b c
    injection h with h
    injection h with hp h
    subst h
    exact ⟨_, m50 a b c⟩
  · cases h)
def T50 : Table := (50, c50) :: T53
theorem T50_sound : Table.Sound Go.Proofs.Try.prog Hx T50 := Table.sound_cons s50 T53_sound
/- specBucketOk -/
def c59 : Contract
  | [[.int .i64 h, .int .i64 m, .int .i64 p]] => some (true, [[.bool (buckOk h m p)]], [])
  | _ => none

theorem r59 (h m p : Int) (n : Nat) : evFn ⟨Go.Proofs.Try.prog, Hx, 59⟩ T50.call n Go.Proofs.Try.f59 [[.int .i64 h, .int .i64 m, .int .i64 p]] = bif inR m (1) (1000) then bif inR p (0) m then some ([[D.bool (inR h (0) m)]], []) else some ([[D.bool false]], []) else some ([[D.bool false]], []) := by kernel_rfl
theorem m59 (h m p : Int)  : evFn ⟨Go.Proofs.Try.prog, Hx, 59⟩ T50.call 0 Go.Proofs.Try.f59 [[.int .i64 h, .int .i64 m, .int .i64 p]] = some ([[.bool (buckOk h m p)]], []) := by
  refine (r59 h m p _).trans ?_
  unfold buckOk
  cases inR m 1 1000 <;> cases inR p 0 m <;> cases inR h 0 m <;> rfl
theorem s59 : SoundAt Go.Proofs.Try.prog Hx 59 c59 := soundAt_of T50_sound mixed Go.Proofs.Try.func59 (by kernel_rfl) (by
  intro rows r h
  unfold c59 at h
  split at h
  · rename_i h m p
    injection h with h
    injection h with hp h
    subst h
    exact ⟨_, m59 h m p⟩
  · cases h)
def T59 : Table := (59, c59) :: T50
theorem T59_sound : Table.Sound Go.Proofs.Try.prog Hx T59 := Table.sound_cons s59 T50_sound
/- implBucketOk -/
def c61 : Contract
  | [[.int .i64 h, .int .i64 m, .int .i64 p]] => some (true, [[.bool (buckOk h m p)]], [])
  | _ => none

theorem r61 (h m p : Int) (n : Nat) : evFn ⟨Go.Proofs.Try.prog, Hx, 61⟩ T59.call n Go.Proofs.Try.f61 [[.int .i64 h, .int .i64 m, .int .i64 p]] = bif inR m (1) (1000) then bif inR p (0) m then some ([[D.bool (inR h (0) m)]], []) else some ([[D.bool false]], []) else some ([[D.bool false]], []) := by kernel_rfl
theorem m61 (h m p : Int)  : evFn ⟨Go.Proofs.Try.prog, Hx, 61⟩ T59.call 0 Go.Proofs.Try.f61 [[.int .i64 h, .int .i64 m, .int .i64 p]] = some ([[.bool (buckOk h m p)]], []) := by
  refine (r61 h m p _).trans ?_
  unfold buckOk
  cases inR m 1 1000 <;> cases inR p 0 m <;> cases inR h 0 m <;> rfl
theorem s61 : SoundAt Go.Proofs.Try.prog Hx 61 c61 := soundAt_of T59_sound mixed Go.Proofs.Try.func61 (by kernel_rfl) (by
  intro rows r h
  unfold c61 at h
  split at h
  · rename_i h m p
    injection h with h
    injection h with hp h
    subst h
    exact ⟨_, m61 h m p⟩
  · cases h)
def T61 : Table := (61, c61) :: T59
theorem T61_sound : Table.Sound Go.Proofs.Try.prog Hx T61 := Table.sound_cons s61 T59_sound
/- specAdmit -/
def c41 : Contract
  | [[.int .i64 h, .int .i64 m, .int .i64 p], [.int .i64 x]] => some (true, [[.int .i64 (bif canAdmit h m p x then IntKind.i64.wrap (h - x) else h), .int .i64 m, .int .i64 p], [.bool (canAdmit h m p x)]], [])
  | _ => none

theorem r41 (h m p x : Int) (n : Nat) : evFn ⟨Go.Proofs.Try.prog, Hx, 41⟩ T61.call n Go.Proofs.Try.f41 [[.int .i64 h, .int .i64 m, .int .i64 p], [.int .i64 x]] = bif !buckOk h m p then some ([[D.int IntKind.i64 h, D.int IntKind.i64 m, D.int IntKind.i64 p], [D.bool false]], []) else bif !inR x (1) h then some ([[D.int IntKind.i64 h, D.int IntKind.i64 m, D.int IntKind.i64 p], [D.bool false]], []) else some ([[D.int IntKind.i64 (IntKind.wrap IntKind.i64 (h - x)), D.int IntKind.i64 m, D.int IntKind.i64 p], [D.bool true]], []) := by kernel_rfl
theorem m41 (h m p x : Int)  : evFn ⟨Go.Proofs.Try.prog, Hx, 41⟩ T61.call 0 Go.Proofs.Try.f41 [[.int .i64 h, .int .i64 m, .int .i64 p], [.int .i64 x]] = some ([[.int .i64 (bif canAdmit h m p x then IntKind.i64.wrap (h - x) else h), .int .i64 m, .int .i64 p], [.bool (canAdmit h m p x)]], []) := by
  refine (r41 h m p x _).trans ?_
  unfold canAdmit
  cases buckOk h m p <;> cases inR x 1 h <;> rfl
theorem s41 : SoundAt Go.Proofs.Try.prog Hx 41 c41 := soundAt_of T61_sound mixed Go.Proofs.Try.func41 (by kernel_rfl) (by
  intro rows r h
  unfold c41 at h
  split at h
  · rename_i h m p x
    injection h with h
    injection h with hp h
    subst h
    exact ⟨_, m41 h m p x⟩
  · cases h)
def T41 : Table := (41, c41) :: T61
theorem T41_sound : Table.Sound Go.Proofs.Try.prog Hx T41 := Table.sound_cons s41 T61_sound
/- implAdmit -/
def c43 : Contract
  | [[.int .i64 h, .int .i64 m, .int .i64 p], [.int .i64 x]] => some (true, [[.int .i64 (bif canAdmit h m p x then IntKind.i64.wrap (h - x) else h), .int .i64 m, .int .i64 p], [.bool (canAdmit h m p x)]], [])
  | _ => none

theorem r43 (h m p x : Int) (n : Nat) : evFn ⟨Go.Proofs.Try.prog, Hx, 43⟩ T41.call n Go.Proofs.Try.f43 [[.int .i64 h, .int .i64 m, .int .i64 p], [.int .i64 x]] = bif decide (x < 1) then some ([[D.int IntKind.i64 h, D.int IntKind.i64 m, D.int IntKind.i64 p], [D.bool false]], []) else bif decide (x > h) then some ([[D.int IntKind.i64 h, D.int IntKind.i64 m, D.int IntKind.i64 p], [D.bool false]], []) else bif !buckOk h m p then some ([[D.int IntKind.i64 h, D.int IntKind.i64 m, D.int IntKind.i64 p], [D.bool false]], []) else some ([[D.int IntKind.i64 (IntKind.wrap IntKind.i64 (h - x)), D.int IntKind.i64 m, D.int IntKind.i64 p], [D.bool true]], []) := by kernel_rfl
theorem m43 (h m p x : Int)  : evFn ⟨Go.Proofs.Try.prog, Hx, 43⟩ T41.call 0 Go.Proofs.Try.f43 [[.int .i64 h, .int .i64 m, .int .i64 p], [.int .i64 x]] = some ([[.int .i64 (bif canAdmit h m p x then IntKind.i64.wrap (h - x) else h), .int .i64 m, .int .i64 p], [.bool (canAdmit h m p x)]], []) := by
  refine (r43 h m p x _).trans ?_
  unfold canAdmit inR
  by_cases h1 : x < 1
  · simp [h1, show ¬ (1 ≤ x) by omega]
  · by_cases h2 : h < x
    · simp [h1, h2, show ¬ (x ≤ h) by omega]
    · cases buckOk h m p <;> simp [h1, h2, show 1 ≤ x by omega, show x ≤ h by omega]
theorem s43 : SoundAt Go.Proofs.Try.prog Hx 43 c43 := soundAt_of T41_sound mixed Go.Proofs.Try.func43 (by kernel_rfl) (by
  intro rows r h
  unfold c43 at h
  split at h
  · rename_i h m p x
    injection h with h
    injection h with hp h
    subst h
    exact ⟨_, m43 h m p x⟩
  · cases h)
def T43 : Table := (43, c43) :: T41
theorem T43_sound : Table.Sound Go.Proofs.Try.prog Hx T43 := Table.sound_cons s43 T41_sound
/- toBucket -/
def c13 : Contract
  | [[.int .i64 h, .int .i64 m, .int .i64 p]] => some (true, [[.int .i64 h, .int .i64 m, .int .i64 p]], [])
  | _ => none

theorem r13 (h m p : Int) (n : Nat) : evFn ⟨Go.Proofs.Try.prog, Hx, 13⟩ T43.call n Go.Proofs.Try.f13 [[.int .i64 h, .int .i64 m, .int .i64 p]] = some ([[D.int IntKind.i64 h, D.int IntKind.i64 m, D.int IntKind.i64 p]], []) := by kernel_rfl
theorem m13 (h m p : Int)  : evFn ⟨Go.Proofs.Try.prog, Hx, 13⟩ T43.call 0 Go.Proofs.Try.f13 [[.int .i64 h, .int .i64 m, .int .i64 p]] = some ([[.int .i64 h, .int .i64 m, .int .i64 p]], []) := by
  refine (r13 h m p _).trans ?_
  rfl
theorem s13 : SoundAt Go.Proofs.Try.prog Hx 13 c13 := soundAt_of T43_sound mixed Go.Proofs.Try.func13 (by kernel_rfl) (by
  intro rows r h
  unfold c13 at h
  split at h
  · rename_i h m p
    injection h with h
    injection h with hp h
    subst h
    exact ⟨_, m13 h m p⟩
  · cases h)
def T13 : Table := (13, c13) :: T43
theorem T13_sound : Table.Sound Go.Proofs.Try.prog Hx T13 := Table.sound_cons s13 T43_sound
/- eqBucket -/
def c16 : Contract
  | [[.int .i64 h, .int .i64 m, .int .i64 p], [.int .i64 h', .int .i64 m', .int .i64 p']] => some (true, [[.bool (h == h' && (m == m' && p == p'))]], [])
  | _ => none

theorem r16 (h m p h' m' p' : Int) (n : Nat) : evFn ⟨Go.Proofs.Try.prog, Hx, 16⟩ T13.call n Go.Proofs.Try.f16 [[.int .i64 h, .int .i64 m, .int .i64 p], [.int .i64 h', .int .i64 m', .int .i64 p']] = bif h != h' then some ([[D.bool false]], []) else bif m != m' then some ([[D.bool false]], []) else bif p != p' then some ([[D.bool false]], []) else some ([[D.bool true]], []) := by kernel_rfl
theorem m16 (h m p h' m' p' : Int)  : evFn ⟨Go.Proofs.Try.prog, Hx, 16⟩ T13.call 0 Go.Proofs.Try.f16 [[.int .i64 h, .int .i64 m, .int .i64 p], [.int .i64 h', .int .i64 m', .int .i64 p']] = some ([[.bool (h == h' && (m == m' && p == p'))]], []) := by
  refine (r16 h m p h' m' p' _).trans ?_
  simp only [bne]
  cases h == h' <;> cases m == m' <;> cases p == p' <;> rfl
theorem s16 : SoundAt Go.Proofs.Try.prog Hx 16 c16 := soundAt_of T13_sound mixed Go.Proofs.Try.func16 (by kernel_rfl) (by
  intro rows r h
  unfold c16 at h
  split at h
  · rename_i h m p h' m' p'
    injection h with h
    injection h with hp h
    subst h
    exact ⟨_, m16 h m p h' m' p'⟩
  · cases h)
def T16 : Table := (16, c16) :: T13
theorem T16_sound : Table.Sound Go.Proofs.Try.prog Hx T16 := Table.sound_cons s16 T13_sound
end Go.Ev
namespace Go.Md
open Go Go.Ev
def minI (a b : Int) : Int := bif decide (a < b) then a else b
def tick (h m p : Int) : Int := bif buckOk h m p then minI (IntKind.i64.wrap (h + p)) m else h
end Go.Md
namespace Go.Ev
open Go.Md
/- l1Min -/
def c60 : Contract
  | [[.int .i64 a], [.int .i64 b]] => some (true, [[.int .i64 (minI a b)]], [])
  | _ => none

theorem r60 (a b : Int) (n : Nat) : evFn ⟨Go.Proofs.Try.prog, Hx, 60⟩ T16.call n Go.Proofs.Try.f60 [[.int .i64 a], [.int .i64 b]] = bif decide (a < b) then some ([[D.int IntKind.i64 a]], []) else some ([[D.int IntKind.i64 b]], []) := by kernel_rfl
theorem m60 (a b : Int)  : evFn ⟨Go.Proofs.Try.prog, Hx, 60⟩ T16.call 0 Go.Proofs.Try.f60 [[.int .i64 a], [.int .i64 b]] = some ([[.int .i64 (minI a b)]], []) := by
  refine (r60 a b _).trans ?_
  unfold minI
  cases decide (a < b) <;> rfl
theorem s60 : SoundAt Go.Proofs.Try.prog Hx 60 c60 := soundAt_of T16_sound mixed Go.Proofs.Try.func60 (by kernel_rfl) (by
  intro rows r h
  unfold c60 at h
  split at h
  · rename_i a b
    injection h with h
    injection h with hp h
    subst h
    exact ⟨_, m60 a b⟩
  · cases h)
def T60 : Table := (60, c60) :: T16
theorem T60_sound : Table.Sound Go.Proofs.Try.prog Hx T60 := Table.sound_cons s60 T16_sound
/- specBucketTick -/
def c40 : Contract
  | [[.int .i64 h, .int .i64 m, .int .i64 p]] => some (true, [[.int .i64 (tick h m p), .int .i64 m, .int .i64 p]], [])
  | _ => none

theorem r40 (h m p : Int) (n : Nat) : evFn ⟨Go.Proofs.Try.prog, Hx, 40⟩ T60.call n Go.Proofs.Try.f40 [[.int .i64 h, .int .i64 m, .int .i64 p]] = bif buckOk h m p then some ([[D.int IntKind.i64 (minI (IntKind.wrap IntKind.i64 (h + p)) m), D.int IntKind.i64 m, D.int IntKind.i64 p]], []) else some ([[D.int IntKind.i64 h, D.int IntKind.i64 m, D.int IntKind.i64 p]], []) := by kernel_rfl
theorem m40 (h m p : Int)  : evFn ⟨Go.Proofs.Try.prog, Hx, 40⟩ T60.call 0 Go.Proofs.Try.f40 [[.int .i64 h, .int .i64 m, .int .i64 p]] = some ([[.int .i64 (tick h m p), .int .i64 m, .int .i64 p]], []) := by
  refine (r40 h m p _).trans ?_
  unfold tick
  cases buckOk h m p <;> rfl
theorem s40 : SoundAt Go.Proofs.Try.prog Hx 40 c40 := soundAt_of T60_sound mixed Go.Proofs.Try.func40 (by kernel_rfl) (by
  intro rows r h
  unfold c40 at h
  split at h
  · rename_i h m p
    injection h with h
    injection h with hp h
    subst h
    exact ⟨_, m40 h m p⟩
  · cases h)
def T40 : Table := (40, c40) :: T60
theorem T40_sound : Table.Sound Go.Proofs.Try.prog Hx T40 := Table.sound_cons s40 T60_sound
/- implBucketTick -/
def c42 : Contract
  | [[.int .i64 h, .int .i64 m, .int .i64 p]] => some (true, [[.int .i64 (tick h m p), .int .i64 m, .int .i64 p]], [])
  | _ => none

theorem r42 (h m p : Int) (n : Nat) : evFn ⟨Go.Proofs.Try.prog, Hx, 42⟩ T40.call n Go.Proofs.Try.f42 [[.int .i64 h, .int .i64 m, .int .i64 p]] = bif buckOk h m p then some ([[D.int IntKind.i64 (if m < IntKind.wrap IntKind.i64 (h + p) then m else IntKind.wrap IntKind.i64 (h + p)), D.int IntKind.i64 m, D.int IntKind.i64 p]], []) else some ([[D.int IntKind.i64 h, D.int IntKind.i64 m, D.int IntKind.i64 p]], []) := by kernel_rfl
theorem m42 (h m p : Int)  : evFn ⟨Go.Proofs.Try.prog, Hx, 42⟩ T40.call 0 Go.Proofs.Try.f42 [[.int .i64 h, .int .i64 m, .int .i64 p]] = some ([[.int .i64 (tick h m p), .int .i64 m, .int .i64 p]], []) := by
  refine (r42 h m p _).trans ?_
  unfold tick minI
  cases buckOk h m p
  · rfl
  · by_cases h1 : m < IntKind.i64.wrap (h + p)
    · simp [h1, show ¬ IntKind.i64.wrap (h + p) < m by omega]
    · by_cases h2 : IntKind.i64.wrap (h + p) < m
      · simp [h1, h2]
      · simp [h1, h2]; omega
theorem s42 : SoundAt Go.Proofs.Try.prog Hx 42 c42 := soundAt_of T40_sound mixed Go.Proofs.Try.func42 (by kernel_rfl) (by
  intro rows r h
  unfold c42 at h
  split at h
  · rename_i h m p
    injection h with h
    injection h with hp h
    subst h
    exact ⟨_, m42 h m p⟩
  · cases h)
def T42 : Table := (42, c42) :: T40
theorem T42_sound : Table.Sound Go.Proofs.Try.prog Hx T42 := Table.sound_cons s42 T40_sound
end Go.Ev
namespace Go.Md
open Go Go.Ev
def isInts (es : List (List D)) : Bool := isRow false [.int .i64] es && decide (es.length ≤ 1048576)
def ints (es : List (List D)) : List Int := es.map fun r => (r.getD 0 .dead).num
def eqInts (es es' : List (List D)) : Bool := ints es == ints es'
theorem isInts_row {es : List (List D)} (h : isInts es = true) : isRow false [.int .i64] es = true ∧ es.length ≤ 1048576 := by simpa [isInts] using h
theorem isInts_at {es : List (List D)} (h : isInts es = true) {i : Nat} (hi : i < es.length) : ∃ x, es.getD i [] = [.int .i64 x] := fits_int (isRow_get (isInts_row h).1 hi)
theorem ints_get {es : List (List D)} (i : Nat) (hi : i < es.length) : (ints es)[i]? = some ((es.getD i []).getD 0 .dead).num := by
  unfold ints
  rw [List.getElem?_map, List.getD_eq_getElem?_getD (l := es), List.getElem?_eq_getElem hi]
  rfl
end Go.Md
namespace Go.Ev
open Go.Md
/- toIntS -/
def c14 : Contract
  | [[.sl false 1 es]] => some (isInts es, [[.sl true 1 es]], [])
  | _ => none

noncomputable def k14_0 (n : Nat) : Ex → St → Option (List Row × List Row) := kThen (fun st ↦ runCode (Ctx.mk Go.Proofs.Try.prog Hx (14)) (Table.call T42) n (codeAt [1, 1, 1] (bodyOf Go.Proofs.Try.f14)) (Lv.mk 4 [] 4) st (kLeave (Ctx.P (Ctx.mk Go.Proofs.Try.prog Hx (14))) (List.zip (Array.toList (Go.Func.resultTypes Go.Proofs.Try.f14)) (Array.toList (Go.Func.results Go.Proofs.Try.f14))) [])) (kLeave (Ctx.P (Ctx.mk Go.Proofs.Try.prog Hx (14))) (List.zip (Array.toList (Go.Func.resultTypes Go.Proofs.Try.f14)) (Array.toList (Go.Func.results Go.Proofs.Try.f14))) [])
noncomputable def k14_1 (n : Nat) : Ex → St → Option (List Row × List Row) := kBlock (0) (k14_0 n)
noncomputable def S14_0 (es : List (List D)) (i0 : Int) (es1 : List (List D)) : St := St.mk [TV.v false [C.d (D.sl false 1 es)], TV.v false [C.undef], TV.v false [C.undef], TV.v false [C.view 0 0 0 [] 1 none], TV.v false [C.d (D.int IntKind.i64 i0)], TV.v false [C.undef], TV.v false [C.undef], TV.v false [C.undef], TV.v false [C.undef], TV.v false [C.undef], TV.v false [C.undef], TV.v false [C.undef], TV.v false [C.undef], TV.v false [C.undef], TV.v false [C.undef], TV.v false [C.undef], TV.v false [C.undef], TV.v false [C.undef], TV.v false [C.undef], TV.v false [C.undef], TV.v false [C.undef], TV.v false [C.undef]] [Root.mk false 1 es1 0 0 true true]
noncomputable def B14_0 (n : Nat) : St → (Ex → St → Option (List Row × List Row)) → Option (List Row × List Row) := runCode (Ctx.mk Go.Proofs.Try.prog Hx (14)) (Table.call T42) n (codeAt [1, 1, 0, 1, 0, 0] (bodyOf Go.Proofs.Try.f14)) (Lv.mk 0 [(0, 8)] 4)
noncomputable def X14_2 (es : List (List D)) (i0 : Int) (es1 : List (List D)) : St := St.mk [TV.v false [C.d (D.sl false 1 es)], TV.v false [C.undef], TV.v false [C.undef], TV.v false [C.view 0 0 0 [] 1 none], TV.v false [C.d (D.int IntKind.i64 i0)], TV.v false [C.undef], TV.v false [C.undef], TV.v false [C.undef], TV.v false [C.d (D.int IntKind.i64 i0)], TV.v false [C.d (D.sl false 1 es)], TV.v false [C.d (D.int IntKind.i64 (Int.ofNat (List.length es)))], TV.v false [C.d (D.bool false)], TV.v false [C.undef], TV.v false [C.undef], TV.v false [C.undef], TV.v false [C.undef], TV.v false [C.undef], TV.v false [C.undef], TV.v false [C.undef], TV.v false [C.undef], TV.v false [C.undef], TV.v false [C.undef]] [Root.mk false 1 es1 0 0 true true]
theorem q14_0 (es : List (List D)) (n : Nat) (i0 : Int) (es1 : List (List D)) (f : St → Option (List Row × List Row)) (K : Ex → St → Option (List Row × List Row)) : B14_0 n (S14_0 es i0 es1) (@kThen (List Row × List Row) (fun st ↦ f (St.head 1 25 2096912 st)) K) = bif decide (i0 < Int.ofNat (List.length es)) then bif decide (0 ≤ i0) && decide (i0 < Int.ofNat (List.length es)) then bif Leaf.fit false (Leaf.int IntKind.i64) (List.getD (List.getD es (Int.toNat i0) []) 0 D.dead) && true then bif decide (0 ≤ i0) && decide (i0 < Int.ofNat (List.length es1)) then f (S14_0 es (IntKind.wrap IntKind.i64 (i0 + 1)) (List.set es1 (0 + Int.toNat i0) [D.int IntKind.i64 (D.num (List.getD (List.getD es (Int.toNat i0) []) 0 D.dead))])) else none else none else none else K (Ex.exit 0) (X14_2 es i0 es1) := by kernel_rfl
theorem aX14_2 (es : List (List D)) (n : Nat) (i0 : Int) (es1 : List (List D)) : k14_1 n (Ex.exit 0) (X14_2 es i0 es1) = some ([[D.sl true 1 es1]], []) := by kernel_rfl
theorem r14 (es : List (List D)) (n : Nat) : evFn ⟨Go.Proofs.Try.prog, Hx, 14⟩ T42.call n Go.Proofs.Try.f14 [[.sl false 1 es]] = bif decide (0 ≤ Int.ofNat (List.length es)) && (decide (Int.ofNat (List.length es) ≤ Int.ofNat (List.length es)) && decide (Int.toNat (Int.ofNat (List.length es)) * 8 ≤ 140737488355328)) then loopRun (B14_0 n) 1 25 2096912 n (S14_0 es (0) (List.replicate (Int.toNat (Int.ofNat (List.length es))) [D.int IntKind.i64 (0)])) (k14_1 n) else none := by kernel_rfl
theorem m14 (es : List (List D)) (hpre : (isInts es) = true) : evFn ⟨Go.Proofs.Try.prog, Hx, 14⟩ T42.call (es.length + 1) Go.Proofs.Try.f14 [[.sl false 1 es]] = some ([[.sl true 1 es]], []) := by
  refine (r14 es _).trans ?_
  obtain ⟨hrow, hlen⟩ := isInts_row hpre
  rw [make_ok (by omega), cond_true]
  refine loop_scan (es := es) (fun i xs => S14_0 es (Int.ofNat i) xs) (fun i xs => xs.length = es.length ∧ xs.take i = es.take i) (fun _ _ => some ([[D.sl true 1 es]], [])) ?_ ?_ (es.length + 1) (List.replicate es.length [D.int IntKind.i64 0]) (by omega) ⟨List.length_replicate .., rfl⟩
  · rintro xs ⟨h2, h3⟩ f
    refine (q14_0 es _ _ xs f _).trans ?_
    simp only [dec_lt, Nat.lt_irrefl, decide_false, cond_false]
    rw [List.take_length, ← h2, List.take_length] at h3
    subst h3
    exact aX14_2 xs _ _ xs
  · rintro i xs hi ⟨h2, h3⟩ f hf
    obtain ⟨x, hx⟩ := isInts_at hpre hi
    refine (q14_0 es _ _ xs f _).trans ?_
    rw [toNat_of, hx, dec_lt, dec_lt, dec_ge, h2, Nat.zero_add, wrap_succ (by omega)]
    simp only [hi, decide_true, cond_true, Bool.and_self, Leaf.fit, List.getD_cons_zero, D.num]
    refine hf (xs.set i [.int .i64 x]) ⟨by simp [h2], ?_⟩
    rw [← hx]
    exact getD_take_succ hi h2 h3
theorem s14 : SoundAt Go.Proofs.Try.prog Hx 14 c14 := soundAt_of T42_sound mixed Go.Proofs.Try.func14 (by kernel_rfl) (by
  intro rows r h
  unfold c14 at h
  split at h
  · rename_i es
    injection h with h
    injection h with hp h
    subst h
    exact ⟨_, m14 es hp⟩
  · cases h)
def T14 : Table := (14, c14) :: T42
theorem T14_sound : Table.Sound Go.Proofs.Try.prog Hx T14 := Table.sound_cons s14 T42_sound
/- eqIntS -/
def c17 : Contract
  | [[.sl false 1 es], [.sl false 1 es']] => some (isInts es && isInts es', [[.bool (eqInts es es')]], [])
  | _ => none

noncomputable def k17_0 (n : Nat) : Ex → St → Option (List Row × List Row) := kThen (fun st ↦ runCode (Ctx.mk Go.Proofs.Try.prog Hx (17)) (Table.call T14) n (codeAt [1, 1, 1] (bodyOf Go.Proofs.Try.f17)) (Lv.mk 16 [] 16) st (kLeave (Ctx.P (Ctx.mk Go.Proofs.Try.prog Hx (17))) (List.zip (Array.toList (Go.Func.resultTypes Go.Proofs.Try.f17)) (Array.toList (Go.Func.results Go.Proofs.Try.f17))) [])) (kLeave (Ctx.P (Ctx.mk Go.Proofs.Try.prog Hx (17))) (List.zip (Array.toList (Go.Func.resultTypes Go.Proofs.Try.f17)) (Array.toList (Go.Func.results Go.Proofs.Try.f17))) [])
noncomputable def k17_1 (n : Nat) : Ex → St → Option (List Row × List Row) := kBlock (0) (k17_0 n)
noncomputable def S17_0 (es : List (List D)) (es' : List (List D)) (i0 : Int) : St := St.mk [TV.v false [C.d (D.sl false 1 es)], TV.v false [C.d (D.sl false 1 es')], TV.v false [C.undef], TV.v false [C.undef], TV.v false [C.undef], TV.v false [C.d (D.int IntKind.i64 i0)], TV.v false [C.undef], TV.v false [C.undef], TV.v false [C.undef], TV.v false [C.undef], TV.v false [C.undef], TV.v false [C.undef], TV.v false [C.undef], TV.v false [C.undef], TV.v false [C.undef], TV.v false [C.undef], TV.v false [C.undef], TV.v false [C.undef], TV.v false [C.undef], TV.v false [C.undef], TV.v false [C.undef], TV.v false [C.undef], TV.v false [C.undef], TV.v false [C.undef], TV.v false [C.undef], TV.v false [C.undef]] []
noncomputable def B17_0 (n : Nat) : St → (Ex → St → Option (List Row × List Row)) → Option (List Row × List Row) := runCode (Ctx.mk Go.Proofs.Try.prog Hx (17)) (Table.call T14) n (codeAt [1, 1, 0, 1, 0, 0] (bodyOf Go.Proofs.Try.f17)) (Lv.mk 0 [(0, 0)] 16)
noncomputable def X17_2 (es : List (List D)) (es' : List (List D)) (i0 : Int) : St := St.mk [TV.v false [C.d (D.sl false 1 es)], TV.v false [C.d (D.sl false 1 es')], TV.v false [C.undef], TV.v false [C.undef], TV.v false [C.d (D.bool false)], TV.v false [C.d (D.int IntKind.i64 i0)], TV.v false [C.undef], TV.v false [C.undef], TV.v false [C.undef], TV.v false [C.undef], TV.v false [C.undef], TV.v false [C.d (D.int IntKind.i64 i0)], TV.v false [C.d (D.sl false 1 es)], TV.v false [C.d (D.int IntKind.i64 (Int.ofNat (List.length es)))], TV.v false [C.d (D.bool true)], TV.v false [C.undef], TV.v false [C.undef], TV.v false [C.d (D.sl false 1 es)], TV.v false [C.d (D.int IntKind.i64 i0)], TV.v false [C.rptr (List.getD es (Int.toNat i0) [])], TV.v false [C.d (D.int IntKind.i64 (D.num (List.getD (List.getD es (Int.toNat i0) []) 0 D.dead)))], TV.v false [C.d (D.sl false 1 es')], TV.v false [C.d (D.int IntKind.i64 i0)], TV.v false [C.rptr (List.getD es' (Int.toNat i0) [])], TV.v false [C.d (D.int IntKind.i64 (D.num (List.getD (List.getD es' (Int.toNat i0) []) 0 D.dead)))], TV.v false [C.d (D.bool true)]] []
noncomputable def X17_3 (es : List (List D)) (es' : List (List D)) (i0 : Int) : St := St.mk [TV.v false [C.d (D.sl false 1 es)], TV.v false [C.d (D.sl false 1 es')], TV.v false [C.undef], TV.v false [C.undef], TV.v false [C.undef], TV.v false [C.d (D.int IntKind.i64 i0)], TV.v false [C.undef], TV.v false [C.undef], TV.v false [C.undef], TV.v false [C.undef], TV.v false [C.undef], TV.v false [C.d (D.int IntKind.i64 i0)], TV.v false [C.d (D.sl false 1 es)], TV.v false [C.d (D.int IntKind.i64 (Int.ofNat (List.length es)))], TV.v false [C.d (D.bool false)], TV.v false [C.undef], TV.v false [C.undef], TV.v false [C.undef], TV.v false [C.undef], TV.v false [C.undef], TV.v false [C.undef], TV.v false [C.undef], TV.v false [C.undef], TV.v false [C.undef], TV.v false [C.undef], TV.v false [C.undef]] []
theorem q17_0 (es : List (List D)) (es' : List (List D)) (n : Nat) (i0 : Int) (f : St → Option (List Row × List Row)) (K : Ex → St → Option (List Row × List Row)) : B17_0 n (S17_0 es es' i0) (@kThen (List Row × List Row) (fun st ↦ f (St.head 0 35 67106864 st)) K) = bif decide (i0 < Int.ofNat (List.length es)) then bif decide (0 ≤ i0) && decide (i0 < Int.ofNat (List.length es)) then bif Leaf.fit false (Leaf.int IntKind.i64) (List.getD (List.getD es (Int.toNat i0) []) 0 D.dead) && true then bif decide (0 ≤ i0) && decide (i0 < Int.ofNat (List.length es')) then bif Leaf.fit false (Leaf.int IntKind.i64) (List.getD (List.getD es' (Int.toNat i0) []) 0 D.dead) && true then bif D.num (List.getD (List.getD es (Int.toNat i0) []) 0 D.dead) != D.num (List.getD (List.getD es' (Int.toNat i0) []) 0 D.dead) then K Ex.ret (X17_2 es es' i0) else f (S17_0 es es' (IntKind.wrap IntKind.i64 (i0 + 1))) else none else none else none else none else K (Ex.exit 0) (X17_3 es es' i0) := by kernel_rfl
theorem aX17_2 (es : List (List D)) (es' : List (List D)) (n : Nat) (i0 : Int) : k17_1 n Ex.ret (X17_2 es es' i0) = some ([[D.bool false]], []) := by kernel_rfl
theorem aX17_3 (es : List (List D)) (es' : List (List D)) (n : Nat) (i0 : Int) : k17_1 n (Ex.exit 0) (X17_3 es es' i0) = some ([[D.bool true]], []) := by kernel_rfl
theorem r17 (es es' : List (List D)) (n : Nat) : evFn ⟨Go.Proofs.Try.prog, Hx, 17⟩ T14.call n Go.Proofs.Try.f17 [[.sl false 1 es], [.sl false 1 es']] = bif Int.ofNat (List.length es) != Int.ofNat (List.length es') then some ([[D.bool false]], []) else loopRun (B17_0 n) 0 35 67106864 n (S17_0 es es' (0)) (k17_1 n) := by kernel_rfl
theorem m17 (es es' : List (List D)) (hpre : (isInts es && isInts es') = true) : evFn ⟨Go.Proofs.Try.prog, Hx, 17⟩ T14.call (es.length + 1) Go.Proofs.Try.f17 [[.sl false 1 es], [.sl false 1 es']] = some ([[.bool (eqInts es es')]], []) := by
  refine (r17 es es' _).trans ?_
  rw [Bool.and_eq_true] at hpre
  obtain ⟨h1, h2⟩ := hpre
  have hlen := (isInts_row h1).2
  rw [len_ne]
  by_cases hl : es.length = es'.length
  · simp only [hl, decide_true, Bool.not_true, cond_false]
    rw [← hl]
    refine loop_scan (es := es) (fun i (_ : Unit) => S17_0 es es' (Int.ofNat i)) (fun i _ => ∀ j, j < i → (ints es)[j]? = (ints es')[j]?) (fun _ _ => some ([[D.bool (eqInts es es')]], [])) ?_ ?_ (es.length + 1) () (by omega) (fun j hj => absurd hj (Nat.not_lt_zero j))
    · intro _ hp f
      refine (q17_0 es es' _ _ f _).trans ?_
      simp only [dec_lt, Nat.lt_irrefl, decide_false, cond_false]
      refine (aX17_3 es es' _ _).trans ?_
      have : ints es = ints es' := List.ext_getElem? (fun j => by
        by_cases hj : j < es.length
        · exact hp j hj
        · rw [List.getElem?_eq_none (by unfold ints; rw [List.length_map]; omega), List.getElem?_eq_none (by unfold ints; rw [List.length_map]; omega)])
      unfold eqInts
      rw [this]
      simp
    · intro i _ hi hp f hf
      obtain ⟨x, hx⟩ := isInts_at h1 hi
      obtain ⟨y, hy⟩ := isInts_at h2 (i := i) (by omega)
      refine (q17_0 es es' _ _ f _).trans ?_
      rw [toNat_of, hx, hy, dec_lt, dec_lt, dec_ge, ← hl, wrap_succ (by omega)]
      simp only [hi, decide_true, cond_true, Bool.and_self, Leaf.fit, List.getD_cons_zero, D.num]
      by_cases hxy : x = y
      · subst hxy
        simp only [bne_self_eq_false, cond_false]
        refine hf () (fun j hj => ?_)
        by_cases hji : j = i
        · subst hji
          rw [ints_get j hi, ints_get j (by omega), hx, hy]
        · exact hp j (by omega)
      · simp only [bne, beq_eq_false_iff_ne.2 hxy, Bool.not_false, cond_true]
        refine (aX17_2 es es' _ _).trans ?_
        have : eqInts es es' = false := by
          unfold eqInts
          refine beq_eq_false_iff_ne.2 (fun he => hxy ?_)
          have h3 := ints_get i hi
          have h4 := ints_get (es := es') i (by omega)
          rw [he, h4, hx, hy] at h3
          simpa [D.num] using h3.symm
        rw [this]
  · simp only [hl, decide_false, Bool.not_false, cond_true]
    have : eqInts es es' = false := by
      unfold eqInts
      refine beq_eq_false_iff_ne.2 (fun he => hl ?_)
      have := congrArg List.length he
      simpa [ints] using this
    rw [this]
theorem s17 : SoundAt Go.Proofs.Try.prog Hx 17 c17 := soundAt_of T14_sound mixed Go.Proofs.Try.func17 (by kernel_rfl) (by
  intro rows r h
  unfold c17 at h
  split at h
  · rename_i es es'
    injection h with h
    injection h with hp h
    subst h
    exact ⟨_, m17 es es' hp⟩
  · cases h)
def T17 : Table := (17, c17) :: T14
theorem T17_sound : Table.Sound Go.Proofs.Try.prog Hx T17 := Table.sound_cons s17 T14_sound
end Go.Ev
namespace Go.Md
open Go Go.Ev
def fold (m p : Int) : List Int → Int → Int → Int × Int
  | [], h, s => (h, s)
  | x :: xs, h, s => bif x == 0 then fold m p xs (tick h m p) s else bif canAdmit h m p x then fold m p xs (IntKind.i64.wrap (h - x)) (IntKind.i64.wrap (s + x)) else fold m p xs h s
theorem fold_cons (m p x : Int) (xs : List Int) (h s : Int) : fold m p (x :: xs) h s = bif x == 0 then fold m p xs (tick h m p) s else bif canAdmit h m p x then fold m p xs (IntKind.i64.wrap (h - x)) (IntKind.i64.wrap (s + x)) else fold m p xs h s := rfl
def all (h m p : Int) (es : List (List D)) : Int × Int := bif decide (es.length ≤ 200) then fold m p (ints es) h 0 else (h, 0)
end Go.Md
namespace Go.Ev
open Go.Md
/- specAdmitAll -/
def c12 : Contract
  | [[.int .i64 h, .int .i64 m, .int .i64 p], [.sl false 1 es]] => some (isInts es, [[.int .i64 (all h m p es).1, .int .i64 m, .int .i64 p], [.int .i64 (all h m p es).2]], [])
  | _ => none

noncomputable def k12_0 (n : Nat) : Ex → St → Option (List Row × List Row) := kThen (fun st ↦ runCode (Ctx.mk Go.Proofs.Try.prog Hx (12)) (Table.call T17) n (codeAt [1, 1, 1] (bodyOf Go.Proofs.Try.f12)) (Lv.mk 48 [] 48) st (kLeave (Ctx.P (Ctx.mk Go.Proofs.Try.prog Hx (12))) (List.zip (Array.toList (Go.Func.resultTypes Go.Proofs.Try.f12)) (Array.toList (Go.Func.results Go.Proofs.Try.f12))) [])) (kLeave (Ctx.P (Ctx.mk Go.Proofs.Try.prog Hx (12))) (List.zip (Array.toList (Go.Func.resultTypes Go.Proofs.Try.f12)) (Array.toList (Go.Func.results Go.Proofs.Try.f12))) [])
noncomputable def k12_1 (n : Nat) : Ex → St → Option (List Row × List Row) := kBlock (0) (k12_0 n)
noncomputable def S12_0 (m : Int) (p : Int) (es : List (List D)) (i0 : Int) (i1 : Int) (i2 : Int) : St := St.mk [TV.v false [C.undef], TV.v false [C.d (D.sl false 1 es)], TV.v false [C.ptr 0 0 0 [] 3 0 0], TV.v false [C.undef], TV.v false [C.ptr 1 0 0 [] 3 0 0], TV.v false [C.undef], TV.v false [C.d (D.int IntKind.i64 i2)], TV.v false [C.d (D.int IntKind.i64 i0)], TV.v false [C.undef], TV.v false [C.undef], TV.v false [C.undef], TV.v false [C.undef], TV.v false [C.undef], TV.v false [C.undef], TV.v false [C.undef], TV.v false [C.undef], TV.v false [C.undef], TV.v false [C.undef], TV.v false [C.undef], TV.v false [C.undef], TV.v false [C.undef], TV.v false [C.undef], TV.v false [C.undef], TV.v false [C.undef], TV.v false [C.undef], TV.v false [C.undef], TV.v false [C.undef], TV.v false [C.undef], TV.v false [C.undef], TV.v false [C.undef], TV.v false [C.undef], TV.v false [C.undef], TV.v false [C.undef], TV.v false [C.undef], TV.v false [C.undef], TV.v false [C.undef], TV.v false [C.undef], TV.v false [C.undef], TV.v false [C.undef], TV.v false [C.undef], TV.v false [C.undef], TV.v false [C.undef], TV.v false [C.undef], TV.v false [C.undef], TV.v false [C.undef], TV.v false [C.undef], TV.v false [C.undef]] [Root.mk true 3 [[D.int IntKind.i64 i1, D.int IntKind.i64 m, D.int IntKind.i64 p]] 0 0 true true, Root.mk true 3 [[D.int IntKind.i64 (0), D.int IntKind.i64 (0), D.int IntKind.i64 (0)]] 0 0 true true]
noncomputable def B12_0 (n : Nat) : St → (Ex → St → Option (List Row × List Row)) → Option (List Row × List Row) := runCode (Ctx.mk Go.Proofs.Try.prog Hx (12)) (Table.call T17) n (codeAt [1, 1, 0, 1, 0, 0] (bodyOf Go.Proofs.Try.f12)) (Lv.mk 0 [(0, 84)] 48)
noncomputable def X12_2 (m : Int) (p : Int) (es : List (List D)) (i0 : Int) (i1 : Int) (i2 : Int) : St := St.mk [TV.v false [C.undef], TV.v false [C.d (D.sl false 1 es)], TV.v false [C.ptr 0 0 0 [] 3 0 0], TV.v false [C.undef], TV.v false [C.ptr 1 0 0 [] 3 0 0], TV.v false [C.undef], TV.v false [C.d (D.int IntKind.i64 i2)], TV.v false [C.d (D.int IntKind.i64 i0)], TV.v false [C.undef], TV.v false [C.undef], TV.v false [C.d (D.int IntKind.i64 i0)], TV.v false [C.d (D.sl false 1 es)], TV.v false [C.d (D.int IntKind.i64 (Int.ofNat (List.length es)))], TV.v false [C.d (D.bool (decide (i0 < Int.ofNat (List.length es))))], TV.v false [C.d (D.bool true)], TV.v false [C.d (D.sl false 1 es)], TV.v false [C.d (D.int IntKind.i64 (Int.ofNat (List.length es)))], TV.v false [C.d (D.bool (decide (Int.ofNat (List.length es) ≤ 200)))], TV.v false [C.d (D.bool false)], TV.v false [C.undef], TV.v false [C.undef], TV.v false [C.undef], TV.v false [C.undef], TV.v false [C.undef], TV.v false [C.undef], TV.v false [C.undef], TV.v false [C.undef], TV.v false [C.undef], TV.v false [C.undef], TV.v false [C.undef], TV.v false [C.undef], TV.v false [C.undef], TV.v false [C.undef], TV.v false [C.undef], TV.v false [C.undef], TV.v false [C.undef], TV.v false [C.undef], TV.v false [C.undef], TV.v false [C.undef], TV.v false [C.undef], TV.v false [C.undef], TV.v false [C.undef], TV.v false [C.undef], TV.v false [C.undef], TV.v false [C.undef], TV.v false [C.undef], TV.v false [C.undef]] [Root.mk true 3 [[D.int IntKind.i64 i1, D.int IntKind.i64 m, D.int IntKind.i64 p]] 0 0 true true, Root.mk true 3 [[D.int IntKind.i64 (0), D.int IntKind.i64 (0), D.int IntKind.i64 (0)]] 0 0 true true]
noncomputable def X12_3 (m : Int) (p : Int) (es : List (List D)) (i0 : Int) (i1 : Int) (i2 : Int) : St := St.mk [TV.v false [C.undef], TV.v false [C.d (D.sl false 1 es)], TV.v false [C.ptr 0 0 0 [] 3 0 0], TV.v false [C.undef], TV.v false [C.ptr 1 0 0 [] 3 0 0], TV.v false [C.undef], TV.v false [C.d (D.int IntKind.i64 i2)], TV.v false [C.d (D.int IntKind.i64 i0)], TV.v false [C.undef], TV.v false [C.undef], TV.v false [C.d (D.int IntKind.i64 i0)], TV.v false [C.d (D.sl false 1 es)], TV.v false [C.d (D.int IntKind.i64 (Int.ofNat (List.length es)))], TV.v false [C.d (D.bool (decide (i0 < Int.ofNat (List.length es))))], TV.v false [C.d (D.bool false)], TV.v false [C.undef], TV.v false [C.undef], TV.v false [C.undef], TV.v false [C.d (D.bool false)], TV.v false [C.undef], TV.v false [C.undef], TV.v false [C.undef], TV.v false [C.undef], TV.v false [C.undef], TV.v false [C.undef], TV.v false [C.undef], TV.v false [C.undef], TV.v false [C.undef], TV.v false [C.undef], TV.v false [C.undef], TV.v false [C.undef], TV.v false [C.undef], TV.v false [C.undef], TV.v false [C.undef], TV.v false [C.undef], TV.v false [C.undef], TV.v false [C.undef], TV.v false [C.undef], TV.v false [C.undef], TV.v false [C.undef], TV.v false [C.undef], TV.v false [C.undef], TV.v false [C.undef], TV.v false [C.undef], TV.v false [C.undef], TV.v false [C.undef], TV.v false [C.undef]] [Root.mk true 3 [[D.int IntKind.i64 i1, D.int IntKind.i64 m, D.int IntKind.i64 p]] 0 0 true true, Root.mk true 3 [[D.int IntKind.i64 (0), D.int IntKind.i64 (0), D.int IntKind.i64 (0)]] 0 0 true true]
theorem q12_0 (m : Int) (p : Int) (es : List (List D)) (n : Nat) (i0 : Int) (i1 : Int) (i2 : Int) (f : St → Option (List Row × List Row)) (K : Ex → St → Option (List Row × List Row)) : B12_0 n (S12_0 m p es i0 i1 i2) (@kThen (List Row × List Row) (fun st ↦ f (St.head 2 214 35184372088768 st)) K) = bif decide (i0 < Int.ofNat (List.length es)) then bif decide (Int.ofNat (List.length es) ≤ 200) then bif decide (0 ≤ i0) && decide (i0 < Int.ofNat (List.length es)) then bif Leaf.fit false (Leaf.int IntKind.i64) (List.getD (List.getD es (Int.toNat i0) []) 0 D.dead) && true then bif D.num (List.getD (List.getD es (Int.toNat i0) []) 0 D.dead) == 0 then f (S12_0 m p es (IntKind.wrap IntKind.i64 (i0 + 1)) (tick i1 m p) i2) else bif decide (0 ≤ i0) && decide (i0 < Int.ofNat (List.length es)) then bif Leaf.fit false (Leaf.int IntKind.i64) (List.getD (List.getD es (Int.toNat i0) []) 0 D.dead) && true then bif canAdmit i1 m p (D.num (List.getD (List.getD es (Int.toNat i0) []) 0 D.dead)) then bif decide (0 ≤ i0) && decide (i0 < Int.ofNat (List.length es)) then bif Leaf.fit false (Leaf.int IntKind.i64) (List.getD (List.getD es (Int.toNat i0) []) 0 D.dead) && true then f (S12_0 m p es (IntKind.wrap IntKind.i64 (i0 + 1)) (bif canAdmit i1 m p (D.num (List.getD (List.getD es (Int.toNat i0) []) 0 D.dead)) then IntKind.wrap IntKind.i64 (i1 - D.num (List.getD (List.getD es (Int.toNat i0) []) 0 D.dead)) else i1) (IntKind.wrap IntKind.i64 (i2 + D.num (List.getD (List.getD es (Int.toNat i0) []) 0 D.dead)))) else none else none else f (S12_0 m p es (IntKind.wrap IntKind.i64 (i0 + 1)) (bif canAdmit i1 m p (D.num (List.getD (List.getD es (Int.toNat i0) []) 0 D.dead)) then IntKind.wrap IntKind.i64 (i1 - D.num (List.getD (List.getD es (Int.toNat i0) []) 0 D.dead)) else i1) i2) else none else none else none else none else K (Ex.exit 0) (X12_2 m p es i0 i1 i2) else K (Ex.exit 0) (X12_3 m p es i0 i1 i2) := by kernel_rfl
theorem aX12_2 (m : Int) (p : Int) (es : List (List D)) (n : Nat) (i0 : Int) (i1 : Int) (i2 : Int) : k12_1 n (Ex.exit 0) (X12_2 m p es i0 i1 i2) = some ([[D.int IntKind.i64 i1, D.int IntKind.i64 m, D.int IntKind.i64 p], [D.int IntKind.i64 i2]], []) := by kernel_rfl
theorem aX12_3 (m : Int) (p : Int) (es : List (List D)) (n : Nat) (i0 : Int) (i1 : Int) (i2 : Int) : k12_1 n (Ex.exit 0) (X12_3 m p es i0 i1 i2) = some ([[D.int IntKind.i64 i1, D.int IntKind.i64 m, D.int IntKind.i64 p], [D.int IntKind.i64 i2]], []) := by kernel_rfl
theorem r12 (h m p : Int) (es : List (List D)) (n : Nat) : evFn ⟨Go.Proofs.Try.prog, Hx, 12⟩ T17.call n Go.Proofs.Try.f12 [[.int .i64 h, .int .i64 m, .int .i64 p], [.sl false 1 es]] = loopRun (B12_0 n) 2 214 35184372088768 n (S12_0 m p es (0) h (0)) (k12_1 n) := by kernel_rfl
theorem m12 (h m p : Int) (es : List (List D)) (hpre : (isInts es) = true) : evFn ⟨Go.Proofs.Try.prog, Hx, 12⟩ T17.call (es.length + 1) Go.Proofs.Try.f12 [[.int .i64 h, .int .i64 m, .int .i64 p], [.sl false 1 es]] = some ([[.int .i64 (all h m p es).1, .int .i64 m, .int .i64 p], [.int .i64 (all h m p es).2]], []) := by
  refine (r12 h m p es _).trans ?_
  have hlen := (isInts_row hpre).2
  unfold all
  by_cases h200 : es.length ≤ 200
  · simp only [h200, decide_true, cond_true]
    refine loop_scan (es := es) (fun i (v : Int × Int) => S12_0 m p es (Int.ofNat i) v.1 v.2) (fun _ _ => True) (fun v rest => some ([[D.int .i64 (fold m p (ints rest) v.1 v.2).1, .int .i64 m, .int .i64 p], [D.int .i64 (fold m p (ints rest) v.1 v.2).2]], [])) ?_ ?_ (es.length + 1) (h, 0) (by omega) trivial
    · intro v _ f
      refine (q12_0 m p es _ _ v.1 v.2 f _).trans ?_
      simp only [dec_lt, Nat.lt_irrefl, decide_false, cond_false]
      exact aX12_3 m p es _ _ v.1 v.2
    · intro i v hi _ f hf
      obtain ⟨x, hx⟩ := isInts_at hpre hi
      refine (q12_0 m p es _ _ v.1 v.2 f _).trans ?_
      have hz : decide (Int.ofNat es.length ≤ 200) = true := by simp; omega
      rw [toNat_of, hx, dec_lt, dec_ge, hz, wrap_succ (by omega)]
      simp only [hi, decide_true, cond_true, Bool.and_self, Leaf.fit, List.getD_cons_zero, D.num]
      show _ = some ([[D.int .i64 (fold m p (x :: ints (es.drop (i + 1))) v.1 v.2).1, .int .i64 m, .int .i64 p], [.int .i64 (fold m p (x :: ints (es.drop (i + 1))) v.1 v.2).2]], [])
      rw [fold_cons]
      cases hx0 : x == 0
      · cases hc : canAdmit v.1 m p x <;> simp only [cond_true, cond_false]
        · exact hf v trivial
        · exact hf (IntKind.i64.wrap (v.1 - x), IntKind.i64.wrap (v.2 + x)) trivial
      · simp only [cond_true]
        exact hf (tick v.1 m p, v.2) trivial
  · simp only [h200, decide_false, cond_false]
    have hz : decide (Int.ofNat es.length ≤ 200) = false := by simp; omega
    have h0 : decide ((0 : Int) < Int.ofNat es.length) = true := by simp; omega
    refine loop_rule (V := Unit) (fun _ => S12_0 m p es 0 h 0) (fun _ => True) (fun _ => 0) (fun _ => _) (fun _ _ f _ => ?_) (es.length + 1) () trivial (by omega)
    refine (q12_0 m p es _ _ h 0 f _).trans ?_
    rw [h0, hz]
    simp only [cond_true, cond_false]
    exact aX12_2 m p es (es.length + 1) 0 h 0
theorem s12 : SoundAt Go.Proofs.Try.prog Hx 12 c12 := soundAt_of T17_sound mixed Go.Proofs.Try.func12 (by kernel_rfl) (by
  intro rows r h
  unfold c12 at h
  split at h
  · rename_i h m p es
    injection h with h
    injection h with hp h
    subst h
    exact ⟨_, m12 h m p es hp⟩
  · cases h)
def T12 : Table := (12, c12) :: T17
theorem T12_sound : Table.Sound Go.Proofs.Try.prog Hx T12 := Table.sound_cons s12 T17_sound
/- implAdmitAll -/
def c15 : Contract
  | [[.int .i64 h, .int .i64 m, .int .i64 p], [.sl false 1 es]] => some (isInts es, [[.int .i64 (all h m p es).1, .int .i64 m, .int .i64 p], [.int .i64 (all h m p es).2]], [])
  | _ => none

noncomputable def k15_0 (n : Nat) : Ex → St → Option (List Row × List Row) := kThen (fun st ↦ runCode (Ctx.mk Go.Proofs.Try.prog Hx (15)) (Table.call T12) n (codeAt [1, 1, 1, 1] (bodyOf Go.Proofs.Try.f15)) (Lv.mk 48 [] 48) st (kLeave (Ctx.P (Ctx.mk Go.Proofs.Try.prog Hx (15))) (List.zip (Array.toList (Go.Func.resultTypes Go.Proofs.Try.f15)) (Array.toList (Go.Func.results Go.Proofs.Try.f15))) [])) (kLeave (Ctx.P (Ctx.mk Go.Proofs.Try.prog Hx (15))) (List.zip (Array.toList (Go.Func.resultTypes Go.Proofs.Try.f15)) (Array.toList (Go.Func.results Go.Proofs.Try.f15))) [])
noncomputable def k15_1 (n : Nat) : Ex → St → Option (List Row × List Row) := kBlock (0) (k15_0 n)
noncomputable def S15_0 (m : Int) (p : Int) (es : List (List D)) (i0 : Int) (i1 : Int) (i2 : Int) : St := St.mk [TV.v false [C.undef], TV.v false [C.undef], TV.v false [C.ptr 0 0 0 [] 3 0 0], TV.v false [C.undef], TV.v false [C.ptr 1 0 0 [] 3 0 0], TV.v false [C.undef], TV.v false [C.d (D.int IntKind.i64 i2)], TV.v false [C.undef], TV.v false [C.undef], TV.v false [C.undef], TV.v false [C.undef], TV.v false [C.undef], TV.v false [C.undef], TV.v false [C.undef], TV.v false [C.undef], TV.v false [C.d (D.sl false 1 es)], TV.v false [C.d (D.int IntKind.i64 (Int.ofNat (List.length es)))], TV.v false [C.d (D.int IntKind.i64 i0)], TV.v false [C.undef], TV.v false [C.undef], TV.v false [C.undef], TV.v false [C.undef], TV.v false [C.undef], TV.v false [C.undef], TV.v false [C.undef], TV.v false [C.undef], TV.v false [C.undef], TV.v false [C.undef], TV.v false [C.undef], TV.v false [C.undef], TV.v false [C.undef], TV.v false [C.undef], TV.v false [C.undef], TV.v false [C.undef], TV.v false [C.undef], TV.v false [C.undef], TV.v false [C.undef], TV.v false [C.undef], TV.v false [C.undef]] [Root.mk true 3 [[D.int IntKind.i64 i1, D.int IntKind.i64 m, D.int IntKind.i64 p]] 0 0 true true, Root.mk true 3 [[D.int IntKind.i64 (0), D.int IntKind.i64 (0), D.int IntKind.i64 (0)]] 0 0 true true]
noncomputable def B15_0 (n : Nat) : St → (Ex → St → Option (List Row × List Row)) → Option (List Row × List Row) := runCode (Ctx.mk Go.Proofs.Try.prog Hx (15)) (Table.call T12) n (codeAt [1, 1, 1, 0, 1, 0, 0] (bodyOf Go.Proofs.Try.f15)) (Lv.mk 0 [(0, 84)] 48)
noncomputable def X15_2 (m : Int) (p : Int) (es : List (List D)) (i0 : Int) (i1 : Int) (i2 : Int) : St := St.mk [TV.v false [C.undef], TV.v false [C.undef], TV.v false [C.ptr 0 0 0 [] 3 0 0], TV.v false [C.undef], TV.v false [C.ptr 1 0 0 [] 3 0 0], TV.v false [C.undef], TV.v false [C.d (D.int IntKind.i64 i2)], TV.v false [C.undef], TV.v false [C.undef], TV.v false [C.undef], TV.v false [C.undef], TV.v false [C.undef], TV.v false [C.undef], TV.v false [C.undef], TV.v false [C.undef], TV.v false [C.d (D.sl false 1 es)], TV.v false [C.d (D.int IntKind.i64 (Int.ofNat (List.length es)))], TV.v false [C.d (D.int IntKind.i64 i0)], TV.v false [C.d (D.bool false)], TV.v false [C.undef], TV.v false [C.undef], TV.v false [C.undef], TV.v false [C.undef], TV.v false [C.undef], TV.v false [C.undef], TV.v false [C.undef], TV.v false [C.undef], TV.v false [C.undef], TV.v false [C.undef], TV.v false [C.undef], TV.v false [C.undef], TV.v false [C.undef], TV.v false [C.undef], TV.v false [C.undef], TV.v false [C.undef], TV.v false [C.undef], TV.v false [C.undef], TV.v false [C.undef], TV.v false [C.undef]] [Root.mk true 3 [[D.int IntKind.i64 i1, D.int IntKind.i64 m, D.int IntKind.i64 p]] 0 0 true true, Root.mk true 3 [[D.int IntKind.i64 (0), D.int IntKind.i64 (0), D.int IntKind.i64 (0)]] 0 0 true true]
theorem q15_0 (m : Int) (p : Int) (es : List (List D)) (n : Nat) (i0 : Int) (i1 : Int) (i2 : Int) (f : St → Option (List Row × List Row)) (K : Ex → St → Option (List Row × List Row)) : B15_0 n (S15_0 m p es i0 i1 i2) (@kThen (List Row × List Row) (fun st ↦ f (St.head 2 229460 137438824256 st)) K) = bif decide (i0 < Int.ofNat (List.length es)) then bif decide (0 ≤ i0) && decide (i0 < Int.ofNat (List.length es)) then bif Leaf.fit false (Leaf.int IntKind.i64) (List.getD (List.getD es (Int.toNat i0) []) 0 D.dead) && true then bif D.num (List.getD (List.getD es (Int.toNat i0) []) 0 D.dead) == 0 then f (S15_0 m p es (IntKind.wrap IntKind.i64 (i0 + 1)) (tick i1 m p) i2) else bif canAdmit i1 m p (D.num (List.getD (List.getD es (Int.toNat i0) []) 0 D.dead)) then f (S15_0 m p es (IntKind.wrap IntKind.i64 (i0 + 1)) (bif canAdmit i1 m p (D.num (List.getD (List.getD es (Int.toNat i0) []) 0 D.dead)) then IntKind.wrap IntKind.i64 (i1 - D.num (List.getD (List.getD es (Int.toNat i0) []) 0 D.dead)) else i1) (IntKind.wrap IntKind.i64 (i2 + D.num (List.getD (List.getD es (Int.toNat i0) []) 0 D.dead)))) else f (S15_0 m p es (IntKind.wrap IntKind.i64 (i0 + 1)) i1 i2) else none else none else K (Ex.exit 0) (X15_2 m p es i0 i1 i2) := by kernel_rfl
theorem aX15_2 (m : Int) (p : Int) (es : List (List D)) (n : Nat) (i0 : Int) (i1 : Int) (i2 : Int) : k15_1 n (Ex.exit 0) (X15_2 m p es i0 i1 i2) = some ([[D.int IntKind.i64 i1, D.int IntKind.i64 m, D.int IntKind.i64 p], [D.int IntKind.i64 i2]], []) := by kernel_rfl
theorem r15 (h m p : Int) (es : List (List D)) (n : Nat) : evFn ⟨Go.Proofs.Try.prog, Hx, 15⟩ T12.call n Go.Proofs.Try.f15 [[.int .i64 h, .int .i64 m, .int .i64 p], [.sl false 1 es]] = bif decide (Int.ofNat (List.length es) > 200) then some ([[D.int IntKind.i64 h, D.int IntKind.i64 m, D.int IntKind.i64 p], [D.int IntKind.i64 (0)]], []) else loopRun (B15_0 n) 2 229460 137438824256 n (S15_0 m p es (0) h (0)) (k15_1 n) := by kernel_rfl
theorem m15 (h m p : Int) (es : List (List D)) (hpre : (isInts es) = true) : evFn ⟨Go.Proofs.Try.prog, Hx, 15⟩ T12.call (es.length + 1) Go.Proofs.Try.f15 [[.int .i64 h, .int .i64 m, .int .i64 p], [.sl false 1 es]] = some ([[.int .i64 (all h m p es).1, .int .i64 m, .int .i64 p], [.int .i64 (all h m p es).2]], []) := by
  refine (r15 h m p es _).trans ?_
  have hlen := (isInts_row hpre).2
  unfold all
  by_cases h200 : es.length ≤ 200
  · have hz : decide (Int.ofNat es.length > 200) = false := by simp; omega
    rw [hz]
    simp only [h200, decide_true, cond_true, cond_false]
    refine loop_scan (es := es) (fun i (v : Int × Int) => S15_0 m p es (Int.ofNat i) v.1 v.2) (fun _ _ => True) (fun v rest => some ([[D.int .i64 (fold m p (ints rest) v.1 v.2).1, .int .i64 m, .int .i64 p], [D.int .i64 (fold m p (ints rest) v.1 v.2).2]], [])) ?_ ?_ (es.length + 1) (h, 0) (by omega) trivial
    · intro v _ f
      refine (q15_0 m p es _ _ v.1 v.2 f _).trans ?_
      simp only [dec_lt, Nat.lt_irrefl, decide_false, cond_false]
      exact aX15_2 m p es _ _ v.1 v.2
    · intro i v hi _ f hf
      obtain ⟨x, hx⟩ := isInts_at hpre hi
      refine (q15_0 m p es _ _ v.1 v.2 f _).trans ?_
      rw [toNat_of, hx, dec_lt, dec_ge, wrap_succ (by omega)]
      simp only [hi, decide_true, cond_true, Bool.and_self, Leaf.fit, List.getD_cons_zero, D.num]
      show _ = some ([[D.int .i64 (fold m p (x :: ints (es.drop (i + 1))) v.1 v.2).1, .int .i64 m, .int .i64 p], [.int .i64 (fold m p (x :: ints (es.drop (i + 1))) v.1 v.2).2]], [])
      rw [fold_cons]
      cases hx0 : x == 0
      · cases hc : canAdmit v.1 m p x <;> simp only [cond_true, cond_false]
        · exact hf v trivial
        · exact hf (IntKind.i64.wrap (v.1 - x), IntKind.i64.wrap (v.2 + x)) trivial
      · simp only [cond_true]
        exact hf (tick v.1 m p, v.2) trivial
  · have hz : decide (Int.ofNat es.length > 200) = true := by simp; omega
    rw [hz]
    simp only [h200, decide_false, cond_false, cond_true]
theorem s15 : SoundAt Go.Proofs.Try.prog Hx 15 c15 := soundAt_of T12_sound mixed Go.Proofs.Try.func15 (by kernel_rfl) (by
  intro rows r h
  unfold c15 at h
  split at h
  · rename_i h m p es
    injection h with h
    injection h with hp h
    subst h
    exact ⟨_, m15 h m p es hp⟩
  · cases h)
def T15 : Table := (15, c15) :: T12
theorem T15_sound : Table.Sound Go.Proofs.Try.prog Hx T15 := Table.sound_cons s15 T12_sound
/- law -/
def c4 : Contract
  | [[.int .i64 h, .int .i64 m, .int .i64 p], [.sl false 1 es]] => some (isRow false [.int .i64] es, [[.bool true]], [])
  | _ => none

theorem r4 (h m p : Int) (es : List (List D)) (n : Nat) : evFn ⟨Go.Proofs.Try.prog, Hx, 4⟩ T15.call n Go.Proofs.Try.f4 [[.int .i64 h, .int .i64 m, .int .i64 p], [.sl false 1 es]] = bif decide (Int.ofNat (List.length es) > 1048576) then some ([[D.bool true]], []) else bif isInts es then bif isInts (lendRows es) then bif isInts es then bif isInts (lendRows es) then bif !(Prod.fst (all h m p (lendRows es)) == Prod.fst (all h m p (lendRows es)) && (m == m && p == p)) then some ([[D.bool false]], []) else bif Prod.snd (all h m p (lendRows es)) != Prod.snd (all h m p (lendRows es)) then some ([[D.bool false]], []) else bif isInts es then bif isInts (lendRows es) && isInts (lendRows es) then bif !eqInts (lendRows es) (lendRows es) then some ([[D.bool false]], []) else some ([[D.bool true]], []) else none else none else none else none else none else none := by kernel_rfl
theorem m4 (h m p : Int) (es : List (List D)) (hpre : (isRow false [.int .i64] es) = true) : evFn ⟨Go.Proofs.Try.prog, Hx, 4⟩ T15.call 0 Go.Proofs.Try.f4 [[.int .i64 h, .int .i64 m, .int .i64 p], [.sl false 1 es]] = some ([[.bool true]], []) := by
  refine (r4 h m p es _).trans ?_
  by_cases hl : es.length ≤ 1048576
  · have hz : decide (Int.ofNat es.length > 1048576) = false := by simp; omega
    have hi : isInts es = true := by simp [isInts, hpre, hl]
    rw [hz, isRow_lend rfl hpre]
    simp [hi, eqInts]
  · have hz : decide (Int.ofNat es.length > 1048576) = true := by simp; omega
    rw [hz]
    rfl
theorem s4 : SoundAt Go.Proofs.Try.prog Hx 4 c4 := soundAt_of T15_sound mixed Go.Proofs.Try.func4 (by kernel_rfl) (by
  intro rows r h
  unfold c4 at h
  split at h
  · rename_i h m p es
    injection h with h
    injection h with hp h
    subst h
    exact ⟨_, m4 h m p es hp⟩
  · cases h)
def T4 : Table := (4, c4) :: T15
theorem T4_sound : Table.Sound Go.Proofs.Try.prog Hx T4 := Table.sound_cons s4 T15_sound
end Go.Ev
