/- Contracts of functions, each by its evaluation. -/
import Derived.Test.YtgmmhnloobedjaaEvLib
import Derived.Test.YtgmmhnloobedjaaProg
import Derived.KernelRfl
namespace Go.Ev
open Go.RowKit
set_option linter.unusedVariables false
set_option linter.unusedSimpArgs false
set_option maxRecDepth 100000
def Hx : Hints := {}
def T0 : Table := []
theorem T0_sound : Table.Sound Go.Proofs.Try.prog Hx T0 := Table.sound_nil
theorem mixed : Go.Proofs.Try.prog.follows .mixedOrders = true := by kernel_rfl
end Go.Ev
namespace Go.Md
open Go Go.Ev
def inR (a b c : Int) : Bool := decide (a ≥ b) && decide (a ≤ c)
def buckOk (h m p : Int) : Bool := inR m 1 1000 && (inR p 0 m && inR h 0 m)
def canAdmit (h m p n : Int) : Bool := buckOk h m p && inR n 1 h
end Go.Md
namespace Go.Ev
open Go.Md
/- inRange -/
def c53 : Contract
  | [[.int .i64 a], [.int .i64 b], [.int .i64 c]] => some (true, [[.bool (inR a b c)]], [])
  | _ => none

theorem r53 (a b c : Int) (n : Nat) : evFn ⟨Go.Proofs.Try.prog, Hx, 53⟩ T0.call n Go.Proofs.Try.f53 [[.int .i64 a], [.int .i64 b], [.int .i64 c]] = bif decide (a ≥ b) then some ([[D.bool (decide (a ≤ c))]], []) else some ([[D.bool false]], []) := by kernel_rfl
theorem m53 (a b c : Int)  : evFn ⟨Go.Proofs.Try.prog, Hx, 53⟩ T0.call 0 Go.Proofs.Try.f53 [[.int .i64 a], [.int .i64 b], [.int .i64 c]] = some ([[.bool (inR a b c)]], []) := by
  refine (r53 a b c _).trans ?_
  unfold inR
  cases decide (a ≥ b) <;> rfl
theorem s53 : SoundAt Go.Proofs.Try.prog Hx 53 c53 := soundAt_of T0_sound mixed Go.Proofs.Try.func53 (by kernel_rfl) (by
  intro rows r h
  unfold c53 at h
  split at h
  · rename_i a b c
    injection h with h
    injection h with hp h
    subst h
    exact ⟨_, m53 a b c⟩
  · cases h)
def T53 : Table := (53, c53) :: T0
theorem T53_sound : Table.Sound Go.Proofs.Try.prog Hx T53 := Table.sound_cons s53 T0_sound
/- l1In -/
def c50 : Contract
  | [[.int .i64 a], [.int .i64 b], [.int .i64 c]] => some (true, [[.bool (inR a b c)]], [])
  | _ => none

theorem r50 (a b c : Int) (n : Nat) : evFn ⟨Go.Proofs.Try.prog, Hx, 50⟩ T53.call n Go.Proofs.Try.f50 [[.int .i64 a], [.int .i64 b], [.int .i64 c]] = bif decide (a ≥ b) then some ([[D.bool (decide (a ≤ c))]], []) else some ([[D.bool false]], []) := by kernel_rfl
theorem m50 (a b c : Int)  : evFn ⟨Go.Proofs.Try.prog, Hx, 50⟩ T53.call 0 Go.Proofs.Try.f50 [[.int .i64 a], [.int .i64 b], [.int .i64 c]] = some ([[.bool (inR a b c)]], []) := by
  refine (r50 a b c _).trans ?_
  unfold inR
  cases decide (a ≥ b) <;> rfl
theorem s50 : SoundAt Go.Proofs.Try.prog Hx 50 c50 := soundAt_of T53_sound mixed Go.Proofs.Try.func50 (by kernel_rfl) (by
  intro rows r h
  unfold c50 at h
  split at h
  · rename_i a b c
    injection h with h
    injection h with hp h
    subst h
    exact ⟨_, m50 a b c⟩
  · cases h)
def T50 : Table := (50, c50) :: T53
theorem T50_sound : Table.Sound Go.Proofs.Try.prog Hx T50 := Table.sound_cons s50 T53_sound
/- specBucketOk -/
def c59 : Contract
  | [[.int .i64 h, .int .i64 m, .int .i64 p]] => some (true, [[.bool (buckOk h m p)]], [])
  | _ => none

theorem r59 (h m p : Int) (n : Nat) : evFn ⟨Go.Proofs.Try.prog, Hx, 59⟩ T50.call n Go.Proofs.Try.f59 [[.int .i64 h, .int .i64 m, .int .i64 p]] = bif inR m (1) (1000) then bif inR p (0) m then some ([[D.bool (inR h (0) m)]], []) else some ([[D.bool false]], []) else some ([[D.bool false]], []) := by kernel_rfl
theorem m59 (h m p : Int)  : evFn ⟨Go.Proofs.Try.prog, Hx, 59⟩ T50.call 0 Go.Proofs.Try.f59 [[.int .i64 h, .int .i64 m, .int .i64 p]] = some ([[.bool (buckOk h m p)]], []) := by
  refine (r59 h m p _).trans ?_
  unfold buckOk
  cases inR m 1 1000 <;> cases inR p 0 m <;> cases inR h 0 m <;> rfl
theorem s59 : SoundAt Go.Proofs.Try.prog Hx 59 c59 := soundAt_of T50_sound mixed Go.Proofs.Try.func59 (by kernel_rfl) (by
  intro rows r h
  unfold c59 at h
  split at h
  · rename_i h m p
    injection h with h
    injection h with hp h
    subst h
    exact ⟨_, m59 h m p⟩
  · cases h)
def T59 : Table := (59, c59) :: T50
theorem T59_sound : Table.Sound Go.Proofs.Try.prog Hx T59 := Table.sound_cons s59 T50_sound
/- implBucketOk -/
def c61 : Contract
  | [[.int .i64 h, .int .i64 m, .int .i64 p]] => some (true, [[.bool (buckOk h m p)]], [])
  | _ => none

theorem r61 (h m p : Int) (n : Nat) : evFn ⟨Go.Proofs.Try.prog, Hx, 61⟩ T59.call n Go.Proofs.Try.f61 [[.int .i64 h, .int .i64 m, .int .i64 p]] = bif inR m (1) (1000) then bif inR p (0) m then some ([[D.bool (inR h (0) m)]], []) else some ([[D.bool false]], []) else some ([[D.bool false]], []) := by kernel_rfl
theorem m61 (h m p : Int)  : evFn ⟨Go.Proofs.Try.prog, Hx, 61⟩ T59.call 0 Go.Proofs.Try.f61 [[.int .i64 h, .int .i64 m, .int .i64 p]] = some ([[.bool (buckOk h m p)]], []) := by
  refine (r61 h m p _).trans ?_
  unfold buckOk
  cases inR m 1 1000 <;> cases inR p 0 m <;> cases inR h 0 m <;> rfl
theorem s61 : SoundAt Go.Proofs.Try.prog Hx 61 c61 := soundAt_of T59_sound mixed Go.Proofs.Try.func61 (by kernel_rfl) (by
  intro rows r h
  unfold c61 at h
  split at h
  · rename_i h m p
    injection h with h
    injection h with hp h
    subst h
    exact ⟨_, m61 h m p⟩
  · cases h)
def T61 : Table := (61, c61) :: T59
theorem T61_sound : Table.Sound Go.Proofs.Try.prog Hx T61 := Table.sound_cons s61 T59_sound
/- specAdmit -/
def c41 : Contract
  | [[.int .i64 h, .int .i64 m, .int .i64 p], [.int .i64 x]] => some (true, [[.int .i64 (bif canAdmit h m p x then IntKind.i64.wrap (h - x) else h), .int .i64 m, .int .i64 p], [.bool (canAdmit h m p x)]], [])
  | _ => none

theorem r41 (h m p x : Int) (n : Nat) : evFn ⟨Go.Proofs.Try.prog, Hx, 41⟩ T61.call n Go.Proofs.Try.f41 [[.int .i64 h, .int .i64 m, .int .i64 p], [.int .i64 x]] = bif !buckOk h m p then some ([[D.int IntKind.i64 h, D.int IntKind.i64 m, D.int IntKind.i64 p], [D.bool false]], []) else bif !inR x (1) h then some ([[D.int IntKind.i64 h, D.int IntKind.i64 m, D.int IntKind.i64 p], [D.bool false]], []) else some ([[D.int IntKind.i64 (IntKind.wrap IntKind.i64 (h - x)), D.int IntKind.i64 m, D.int IntKind.i64 p], [D.bool true]], []) := by kernel_rfl
theorem m41 (h m p x : Int)  : evFn ⟨Go.Proofs.Try.prog, Hx, 41⟩ T61.call 0 Go.Proofs.Try.f41 [[.int .i64 h, .int .i64 m, .int .i64 p], [.int .i64 x]] = some ([[.int .i64 (bif canAdmit h m p x then IntKind.i64.wrap (h - x) else h), .int .i64 m, .int .i64 p], [.bool (canAdmit h m p x)]], []) := by
  refine (r41 h m p x _).trans ?_
  unfold canAdmit
  cases buckOk h m p <;> cases inR x 1 h <;> rfl
theorem s41 : SoundAt Go.Proofs.Try.prog Hx 41 c41 := soundAt_of T61_sound mixed Go.Proofs.Try.func41 (by kernel_rfl) (by
  intro rows r h
  unfold c41 at h
  split at h
  · rename_i h m p x
    injection h with h
    injection h with hp h
    subst h
    exact ⟨_, m41 h m p x⟩
  · cases h)
def T41 : Table := (41, c41) :: T61
theorem T41_sound : Table.Sound Go.Proofs.Try.prog Hx T41 := Table.sound_cons s41 T61_sound
/- implAdmit -/
def c43 : Contract
  | [[.int .i64 h, .int .i64 m, .int .i64 p], [.int .i64 x]] => some (true, [[.int .i64 (bif canAdmit h m p x then IntKind.i64.wrap (h - x) else h), .int .i64 m, .int .i64 p], [.bool (canAdmit h m p x)]], [])
  | _ => none

theorem r43 (h m p x : Int) (n : Nat) : evFn ⟨Go.Proofs.Try.prog, Hx, 43⟩ T41.call n Go.Proofs.Try.f43 [[.int .i64 h, .int .i64 m, .int .i64 p], [.int .i64 x]] = bif decide (x < 1) then some ([[D.int IntKind.i64 h, D.int IntKind.i64 m, D.int IntKind.i64 p], [D.bool false]], []) else bif decide (x > h) then some ([[D.int IntKind.i64 h, D.int IntKind.i64 m, D.int IntKind.i64 p], [D.bool false]], []) else bif !buckOk h m p then some ([[D.int IntKind.i64 h, D.int IntKind.i64 m, D.int IntKind.i64 p], [D.bool false]], []) else some ([[D.int IntKind.i64 (IntKind.wrap IntKind.i64 (h - x)), D.int IntKind.i64 m, D.int IntKind.i64 p], [D.bool true]], []) := by kernel_rfl
theorem m43 (h m p x : Int)  : evFn ⟨Go.Proofs.Try.prog, Hx, 43⟩ T41.call 0 Go.Proofs.Try.f43 [[.int .i64 h, .int .i64 m, .int .i64 p], [.int .i64 x]] = some ([[.int .i64 (bif canAdmit h m p x then IntKind.i64.wrap (h - x) else h), .int .i64 m, .int .i64 p], [.bool (canAdmit h m p x)]], []) := by
  refine (r43 h m p x _).trans ?_
  unfold canAdmit inR
  by_cases h1 : x < 1
  · simp [h1, show ¬ (1 ≤ x) by omega]
  · by_cases h2 : h < x
    · simp [h1, h2, show ¬ (x ≤ h) by omega]
    · cases buckOk h m p <;> simp [h1, h2, show 1 ≤ x by omega, show x ≤ h by omega]
theorem s43 : SoundAt Go.Proofs.Try.prog Hx 43 c43 := soundAt_of T41_sound mixed Go.Proofs.Try.func43 (by kernel_rfl) (by
  intro rows r h
  unfold c43 at h
  split at h
  · rename_i h m p x
    injection h with h
    injection h with hp h
    subst h
    exact ⟨_, m43 h m p x⟩
  · cases h)
def T43 : Table := (43, c43) :: T41
theorem T43_sound : Table.Sound Go.Proofs.Try.prog Hx T43 := Table.sound_cons s43 T41_sound
/- toBucket -/
def c13 : Contract
  | [[.int .i64 h, .int .i64 m, .int .i64 p]] => some (true, [[.int .i64 h, .int .i64 m, .int .i64 p]], [])
  | _ => none

theorem r13 (h m p : Int) (n : Nat) : evFn ⟨Go.Proofs.Try.prog, Hx, 13⟩ T43.call n Go.Proofs.Try.f13 [[.int .i64 h, .int .i64 m, .int .i64 p]] = some ([[D.int IntKind.i64 h, D.int IntKind.i64 m, D.int IntKind.i64 p]], []) := by kernel_rfl
theorem m13 (h m p : Int)  : evFn ⟨Go.Proofs.Try.prog, Hx, 13⟩ T43.call 0 Go.Proofs.Try.f13 [[.int .i64 h, .int .i64 m, .int .i64 p]] = some ([[.int .i64 h, .int .i64 m, .int .i64 p]], []) := by
  refine (r13 h m p _).trans ?_
  rfl
theorem s13 : SoundAt Go.Proofs.Try.prog Hx 13 c13 := soundAt_of T43_sound mixed Go.Proofs.Try.func13 (by kernel_rfl) (by
  intro rows r h
  unfold c13 at h
  split at h
  · rename_i h m p
    injection h with h
    injection h with hp h
    subst h
    exact ⟨_, m13 h m p⟩
  · cases h)
def T13 : Table := (13, c13) :: T43
theorem T13_sound : Table.Sound Go.Proofs.Try.prog Hx T13 := Table.sound_cons s13 T43_sound
/- eqBucket -/
def c16 : Contract
  | [[.int .i64 h, .int .i64 m, .int .i64 p], [.int .i64 h', .int .i64 m', .int .i64 p']] => some (true, [[.bool (h == h' && (m == m' && p == p'))]], [])
  | _ => none

theorem r16 (h m p h' m' p' : Int) (n : Nat) : evFn ⟨Go.Proofs.Try.prog, Hx, 16⟩ T13.call n Go.Proofs.Try.f16 [[.int .i64 h, .int .i64 m, .int .i64 p], [.int .i64 h', .int .i64 m', .int .i64 p']] = bif h != h' then some ([[D.bool false]], []) else bif m != m' then some ([[D.bool false]], []) else bif p != p' then some ([[D.bool false]], []) else some ([[D.bool true]], []) := by kernel_rfl
theorem m16 (h m p h' m' p' : Int)  : evFn ⟨Go.Proofs.Try.prog, Hx, 16⟩ T13.call 0 Go.Proofs.Try.f16 [[.int .i64 h, .int .i64 m, .int .i64 p], [.int .i64 h', .int .i64 m', .int .i64 p']] = some ([[.bool (h == h' && (m == m' && p == p'))]], []) := by
  refine (r16 h m p h' m' p' _).trans ?_
  simp only [bne]
  cases h == h' <;> cases m == m' <;> cases p == p' <;> rfl
theorem s16 : SoundAt Go.Proofs.Try.prog Hx 16 c16 := soundAt_of T13_sound mixed Go.Proofs.Try.func16 (by kernel_rfl) (by
  intro rows r h
  unfold c16 at h
  split at h
  · rename_i h m p h' m' p'
    injection h with h
    injection h with hp h
    subst h
    exact ⟨_, m16 h m p h' m' p'⟩
  · cases h)
def T16 : Table := (16, c16) :: T13
theorem T16_sound : Table.Sound Go.Proofs.Try.prog Hx T16 := Table.sound_cons s16 T13_sound
end Go.Ev
namespace Go.Md
open Go Go.Ev
def minI (a b : Int) : Int := bif decide (a < b) then a else b
def tick (h m p : Int) : Int := bif buckOk h m p then minI (IntKind.i64.wrap (h + p)) m else h
end Go.Md
namespace Go.Ev
open Go.Md
/- l1Min -/
def c60 : Contract
  | [[.int .i64 a], [.int .i64 b]] => some (true, [[.int .i64 (minI a b)]], [])
  | _ => none

theorem r60 (a b : Int) (n : Nat) : evFn ⟨Go.Proofs.Try.prog, Hx, 60⟩ T16.call n Go.Proofs.Try.f60 [[.int .i64 a], [.int .i64 b]] = bif decide (a < b) then some ([[D.int IntKind.i64 a]], []) else some ([[D.int IntKind.i64 b]], []) := by kernel_rfl
theorem m60 (a b : Int)  : evFn ⟨Go.Proofs.Try.prog, Hx, 60⟩ T16.call 0 Go.Proofs.Try.f60 [[.int .i64 a], [.int .i64 b]] = some ([[.int .i64 (minI a b)]], []) := by
  refine (r60 a b _).trans ?_
  unfold minI
  cases decide (a < b) <;> rfl
theorem s60 : SoundAt Go.Proofs.Try.prog Hx 60 c60 := soundAt_of T16_sound mixed Go.Proofs.Try.func60 (by kernel_rfl) (by
  intro rows r h
  unfold c60 at h
  split at h
  · rename_i a b
    injection h with h
    injection h with hp h
    subst h
    exact ⟨_, m60 a b⟩
  · cases h)
def T60 : Table := (60, c60) :: T16
theorem T60_sound : Table.Sound Go.Proofs.Try.prog Hx T60 := Table.sound_cons s60 T16_sound
/- specBucketTick -/
def c40 : Contract
  | [[.int .i64 h, .int .i64 m, .int .i64 p]] => some (true, [[.int .i64 (tick h m p), .int .i64 m, .int .i64 p]], [])
  | _ => none

theorem r40 (h m p : Int) (n : Nat) : evFn ⟨Go.Proofs.Try.prog, Hx, 40⟩ T60.call n Go.Proofs.Try.f40 [[.int .i64 h, .int .i64 m, .int .i64 p]] = bif buckOk h m p then some ([[D.int IntKind.i64 (minI (IntKind.wrap IntKind.i64 (h + p)) m), D.int IntKind.i64 m, D.int IntKind.i64 p]], []) else some ([[D.int IntKind.i64 h, D.int IntKind.i64 m, D.int IntKind.i64 p]], []) := by kernel_rfl
theorem m40 (h m p : Int)  : evFn ⟨Go.Proofs.Try.prog, Hx, 40⟩ T60.call 0 Go.Proofs.Try.f40 [[.int .i64 h, .int .i64 m, .int .i64 p]] = some ([[.int .i64 (tick h m p), .int .i64 m, .int .i64 p]], []) := by
  refine (r40 h m p _).trans ?_
  unfold tick
  cases buckOk h m p <;> rfl
theorem s40 : SoundAt Go.Proofs.Try.prog Hx 40 c40 := soundAt_of T60_sound mixed Go.Proofs.Try.func40 (by kernel_rfl) (by
  intro rows r h
  unfold c40 at h
  split at h
  · rename_i h m p
    injection h with h
    injection h with hp h
    subst h
    exact ⟨_, m40 h m p⟩
  · cases h)
def T40 : Table := (40, c40) :: T60
theorem T40_sound : Table.Sound Go.Proofs.Try.prog Hx T40 := Table.sound_cons s40 T60_sound
/- implBucketTick -/
def c42 : Contract
  | [[.int .i64 h, .int .i64 m, .int .i64 p]] => some (true, [[.int .i64 (tick h m p), .int .i64 m, .int .i64 p]], [])
  | _ => none

theorem r42 (h m p : Int) (n : Nat) : evFn ⟨Go.Proofs.Try.prog, Hx, 42⟩ T40.call n Go.Proofs.Try.f42 [[.int .i64 h, .int .i64 m, .int .i64 p]] = bif buckOk h m p then some ([[D.int IntKind.i64 (if m < IntKind.wrap IntKind.i64 (h + p) then m else IntKind.wrap IntKind.i64 (h + p)), D.int IntKind.i64 m, D.int IntKind.i64 p]], []) else some ([[D.int IntKind.i64 h, D.int IntKind.i64 m, D.int IntKind.i64 p]], []) := by kernel_rfl
theorem m42 (h m p : Int)  : evFn ⟨Go.Proofs.Try.prog, Hx, 42⟩ T40.call 0 Go.Proofs.Try.f42 [[.int .i64 h, .int .i64 m, .int .i64 p]] = some ([[.int .i64 (tick h m p), .int .i64 m, .int .i64 p]], []) := by
  refine (r42 h m p _).trans ?_
  unfold tick minI
  cases buckOk h m p
  · rfl
  · by_cases h1 : m < IntKind.i64.wrap (h + p)
    · simp [h1, show ¬ IntKind.i64.wrap (h + p) < m by omega]
    · by_cases h2 : IntKind.i64.wrap (h + p) < m
      · simp [h1, h2]
      · simp [h1, h2]; omega
theorem s42 : SoundAt Go.Proofs.Try.prog Hx 42 c42 := soundAt_of T40_sound mixed Go.Proofs.Try.func42 (by kernel_rfl) (by
  intro rows r h
  unfold c42 at h
  split at h
  · rename_i h m p
    injection h with h
    injection h with hp h
    subst h
    exact ⟨_, m42 h m p⟩
  · cases h)
def T42 : Table := (42, c42) :: T40
theorem T42_sound : Table.Sound Go.Proofs.Try.prog Hx T42 := Table.sound_cons s42 T40_sound
end Go.Ev
