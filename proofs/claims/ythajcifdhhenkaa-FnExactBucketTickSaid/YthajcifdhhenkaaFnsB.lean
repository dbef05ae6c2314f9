/- Contracts of functions, each by its evaluation. -/
import Derived.Test.YthajcifdhhenkaaEvTy
import Derived.Test.YthajcifdhhenkaaProg
import Derived.KernelRfl
namespace Go.Ev
open Go.RowKit
set_option linter.unusedVariables false
set_option linter.unusedSimpArgs false
set_option maxRecDepth 100000
def Hx : Hints := {}
def T0 : Table := []
theorem T0_sound : Table.Sound Go.Proofs.Try.prog Hx T0 := Table.sound_nil
theorem mixed : Go.Proofs.Try.prog.follows .mixedOrders = true := by kernel_rfl
end Go.Ev
namespace Go.Md
open Go Go.Ev
def inR (a b c : Int) : Bool := decide (a ≥ b) && decide (a ≤ c)
def buckOk (h m p : Int) : Bool := inR m 1 1000 && (inR p 0 m && inR h 0 m)
def canAdmit (h m p n : Int) : Bool := buckOk h m p && inR n 1 h
end Go.Md
namespace Go.Ev
open Go.Md
/- inRange -/
def c26 : Contract
  | [[.int .i64 a], [.int .i64 b], [.int .i64 c]] => some ([[.bool (inR a b c)]], [])
  | _ => none

theorem r26 (a b c : Int) (n : Nat) : evFn ⟨Go.Proofs.Try.prog, Hx, 26⟩ T0.call n Go.Proofs.Try.f26 [[.int .i64 a], [.int .i64 b], [.int .i64 c]] = bif decide (a ≥ b) then some ([[D.bool (decide (a ≤ c))]], []) else some ([[D.bool false]], []) := by kernel_rfl
theorem m26 (a b c : Int)  : evFn ⟨Go.Proofs.Try.prog, Hx, 26⟩ T0.call 0 Go.Proofs.Try.f26 [[.int .i64 a], [.int .i64 b], [.int .i64 c]] = some ([[.bool (inR a b c)]], []) := by
  refine (r26 a b c _).trans ?_
  unfold inR
  cases decide (a ≥ b) <;> rfl
theorem s26 : SoundAt Go.Proofs.Try.prog Hx 26 c26 := soundAt_of T0_sound mixed Go.Proofs.Try.func26 (by kernel_rfl) (by
  intro rows r h
  unfold c26 at h
  split at h
  · rename_i a b c
    injection h with h
    subst h
    exact ⟨_, m26 a b c⟩
  · cases h)
def T26 : Table := (26, c26) :: T0
theorem T26_sound : Table.Sound Go.Proofs.Try.prog Hx T26 := Table.sound_cons s26 T0_sound
/- l1In -/
def c25 : Contract
  | [[.int .i64 a], [.int .i64 b], [.int .i64 c]] => some ([[.bool (inR a b c)]], [])
  | _ => none

theorem r25 (a b c : Int) (n : Nat) : evFn ⟨Go.Proofs.Try.prog, Hx, 25⟩ T26.call n Go.Proofs.Try.f25 [[.int .i64 a], [.int .i64 b], [.int .i64 c]] = bif decide (a ≥ b) then some ([[D.bool (decide (a ≤ c))]], []) else some ([[D.bool false]], []) := by kernel_rfl
theorem m25 (a b c : Int)  : evFn ⟨Go.Proofs.Try.prog, Hx, 25⟩ T26.call 0 Go.Proofs.Try.f25 [[.int .i64 a], [.int .i64 b], [.int .i64 c]] = some ([[.bool (inR a b c)]], []) := by
  refine (r25 a b c _).trans ?_
  unfold inR
  cases decide (a ≥ b) <;> rfl
theorem s25 : SoundAt Go.Proofs.Try.prog Hx 25 c25 := soundAt_of T26_sound mixed Go.Proofs.Try.func25 (by kernel_rfl) (by
  intro rows r h
  unfold c25 at h
  split at h
  · rename_i a b c
    injection h with h
    subst h
    exact ⟨_, m25 a b c⟩
  · cases h)
def T25 : Table := (25, c25) :: T26
theorem T25_sound : Table.Sound Go.Proofs.Try.prog Hx T25 := Table.sound_cons s25 T26_sound
/- specBucketOk -/
def c9 : Contract
  | [[.int .i64 h, .int .i64 m, .int .i64 p]] => some ([[.bool (buckOk h m p)]], [])
  | _ => none

theorem r9 (h m p : Int) (n : Nat) : evFn ⟨Go.Proofs.Try.prog, Hx, 9⟩ T25.call n Go.Proofs.Try.f9 [[.int .i64 h, .int .i64 m, .int .i64 p]] = bif inR m (1) (1000) then bif inR p (0) m then some ([[D.bool (inR h (0) m)]], []) else some ([[D.bool false]], []) else some ([[D.bool false]], []) := by kernel_rfl
theorem m9 (h m p : Int)  : evFn ⟨Go.Proofs.Try.prog, Hx, 9⟩ T25.call 0 Go.Proofs.Try.f9 [[.int .i64 h, .int .i64 m, .int .i64 p]] = some ([[.bool (buckOk h m p)]], []) := by
  refine (r9 h m p _).trans ?_
  unfold buckOk
  cases inR m 1 1000 <;> cases inR p 0 m <;> cases inR h 0 m <;> rfl
theorem s9 : SoundAt Go.Proofs.Try.prog Hx 9 c9 := soundAt_of T25_sound mixed Go.Proofs.Try.func9 (by kernel_rfl) (by
  intro rows r h
  unfold c9 at h
  split at h
  · rename_i h m p
    injection h with h
    subst h
    exact ⟨_, m9 h m p⟩
  · cases h)
def T9 : Table := (9, c9) :: T25
theorem T9_sound : Table.Sound Go.Proofs.Try.prog Hx T9 := Table.sound_cons s9 T25_sound
/- implBucketOk -/
def c11 : Contract
  | [[.int .i64 h, .int .i64 m, .int .i64 p]] => some ([[.bool (buckOk h m p)]], [])
  | _ => none

theorem r11 (h m p : Int) (n : Nat) : evFn ⟨Go.Proofs.Try.prog, Hx, 11⟩ T9.call n Go.Proofs.Try.f11 [[.int .i64 h, .int .i64 m, .int .i64 p]] = bif inR m (1) (1000) then bif inR p (0) m then some ([[D.bool (inR h (0) m)]], []) else some ([[D.bool false]], []) else some ([[D.bool false]], []) := by kernel_rfl
theorem m11 (h m p : Int)  : evFn ⟨Go.Proofs.Try.prog, Hx, 11⟩ T9.call 0 Go.Proofs.Try.f11 [[.int .i64 h, .int .i64 m, .int .i64 p]] = some ([[.bool (buckOk h m p)]], []) := by
  refine (r11 h m p _).trans ?_
  unfold buckOk
  cases inR m 1 1000 <;> cases inR p 0 m <;> cases inR h 0 m <;> rfl
theorem s11 : SoundAt Go.Proofs.Try.prog Hx 11 c11 := soundAt_of T9_sound mixed Go.Proofs.Try.func11 (by kernel_rfl) (by
  intro rows r h
  unfold c11 at h
  split at h
  · rename_i h m p
    injection h with h
    subst h
    exact ⟨_, m11 h m p⟩
  · cases h)
def T11 : Table := (11, c11) :: T9
theorem T11_sound : Table.Sound Go.Proofs.Try.prog Hx T11 := Table.sound_cons s11 T9_sound
/- specAdmit -/
def c18 : Contract
  | [[.int .i64 h, .int .i64 m, .int .i64 p], [.int .i64 x]] => some ([[.int .i64 (bif canAdmit h m p x then IntKind.i64.wrap (h - x) else h), .int .i64 m, .int .i64 p], [.bool (canAdmit h m p x)]], [])
  | _ => none

theorem r18 (h m p x : Int) (n : Nat) : evFn ⟨Go.Proofs.Try.prog, Hx, 18⟩ T11.call n Go.Proofs.Try.f18 [[.int .i64 h, .int .i64 m, .int .i64 p], [.int .i64 x]] = bif !buckOk h m p then some ([[D.int Go.IntKind.i64 h, D.int Go.IntKind.i64 m, D.int Go.IntKind.i64 p], [D.bool false]], []) else bif !inR x (1) h then some ([[D.int Go.IntKind.i64 h, D.int Go.IntKind.i64 m, D.int Go.IntKind.i64 p], [D.bool false]], []) else some ([[D.int Go.IntKind.i64 (Go.IntKind.i64.wrap (h - x)), D.int Go.IntKind.i64 m, D.int Go.IntKind.i64 p], [D.bool true]], []) := by kernel_rfl
theorem m18 (h m p x : Int)  : evFn ⟨Go.Proofs.Try.prog, Hx, 18⟩ T11.call 0 Go.Proofs.Try.f18 [[.int .i64 h, .int .i64 m, .int .i64 p], [.int .i64 x]] = some ([[.int .i64 (bif canAdmit h m p x then IntKind.i64.wrap (h - x) else h), .int .i64 m, .int .i64 p], [.bool (canAdmit h m p x)]], []) := by
  refine (r18 h m p x _).trans ?_
  unfold canAdmit
  cases buckOk h m p <;> cases inR x 1 h <;> rfl
theorem s18 : SoundAt Go.Proofs.Try.prog Hx 18 c18 := soundAt_of T11_sound mixed Go.Proofs.Try.func18 (by kernel_rfl) (by
  intro rows r h
  unfold c18 at h
  split at h
  · rename_i h m p x
    injection h with h
    subst h
    exact ⟨_, m18 h m p x⟩
  · cases h)
def T18 : Table := (18, c18) :: T11
theorem T18_sound : Table.Sound Go.Proofs.Try.prog Hx T18 := Table.sound_cons s18 T11_sound
/- implAdmit -/
def c19 : Contract
  | [[.int .i64 h, .int .i64 m, .int .i64 p], [.int .i64 x]] => some ([[.int .i64 (bif canAdmit h m p x then IntKind.i64.wrap (h - x) else h), .int .i64 m, .int .i64 p], [.bool (canAdmit h m p x)]], [])
  | _ => none

theorem r19 (h m p x : Int) (n : Nat) : evFn ⟨Go.Proofs.Try.prog, Hx, 19⟩ T18.call n Go.Proofs.Try.f19 [[.int .i64 h, .int .i64 m, .int .i64 p], [.int .i64 x]] = bif decide (x < 1) then some ([[D.int Go.IntKind.i64 h, D.int Go.IntKind.i64 m, D.int Go.IntKind.i64 p], [D.bool false]], []) else bif decide (x > h) then some ([[D.int Go.IntKind.i64 h, D.int Go.IntKind.i64 m, D.int Go.IntKind.i64 p], [D.bool false]], []) else bif !buckOk h m p then some ([[D.int Go.IntKind.i64 h, D.int Go.IntKind.i64 m, D.int Go.IntKind.i64 p], [D.bool false]], []) else some ([[D.int Go.IntKind.i64 (Go.IntKind.i64.wrap (h - x)), D.int Go.IntKind.i64 m, D.int Go.IntKind.i64 p], [D.bool true]], []) := by kernel_rfl
theorem m19 (h m p x : Int)  : evFn ⟨Go.Proofs.Try.prog, Hx, 19⟩ T18.call 0 Go.Proofs.Try.f19 [[.int .i64 h, .int .i64 m, .int .i64 p], [.int .i64 x]] = some ([[.int .i64 (bif canAdmit h m p x then IntKind.i64.wrap (h - x) else h), .int .i64 m, .int .i64 p], [.bool (canAdmit h m p x)]], []) := by
  refine (r19 h m p x _).trans ?_
  unfold canAdmit inR
  by_cases h1 : x < 1
  · simp [h1, show ¬ (1 ≤ x) by omega]
  · by_cases h2 : h < x
    · simp [h1, h2, show ¬ (x ≤ h) by omega]
    · cases buckOk h m p <;> simp [h1, h2, show 1 ≤ x by omega, show x ≤ h by omega]
theorem s19 : SoundAt Go.Proofs.Try.prog Hx 19 c19 := soundAt_of T18_sound mixed Go.Proofs.Try.func19 (by kernel_rfl) (by
  intro rows r h
  unfold c19 at h
  split at h
  · rename_i h m p x
    injection h with h
    subst h
    exact ⟨_, m19 h m p x⟩
  · cases h)
def T19 : Table := (19, c19) :: T18
theorem T19_sound : Table.Sound Go.Proofs.Try.prog Hx T19 := Table.sound_cons s19 T18_sound
/- toBucket -/
def c10 : Contract
  | [[.int .i64 h, .int .i64 m, .int .i64 p]] => some ([[.int .i64 h, .int .i64 m, .int .i64 p]], [])
  | _ => none

theorem r10 (h m p : Int) (n : Nat) : evFn ⟨Go.Proofs.Try.prog, Hx, 10⟩ T19.call n Go.Proofs.Try.f10 [[.int .i64 h, .int .i64 m, .int .i64 p]] = some ([[D.int Go.IntKind.i64 h, D.int Go.IntKind.i64 m, D.int Go.IntKind.i64 p]], []) := by kernel_rfl
theorem m10 (h m p : Int)  : evFn ⟨Go.Proofs.Try.prog, Hx, 10⟩ T19.call 0 Go.Proofs.Try.f10 [[.int .i64 h, .int .i64 m, .int .i64 p]] = some ([[.int .i64 h, .int .i64 m, .int .i64 p]], []) := by
  refine (r10 h m p _).trans ?_
  rfl
theorem s10 : SoundAt Go.Proofs.Try.prog Hx 10 c10 := soundAt_of T19_sound mixed Go.Proofs.Try.func10 (by kernel_rfl) (by
  intro rows r h
  unfold c10 at h
  split at h
  · rename_i h m p
    injection h with h
    subst h
    exact ⟨_, m10 h m p⟩
  · cases h)
def T10 : Table := (10, c10) :: T19
theorem T10_sound : Table.Sound Go.Proofs.Try.prog Hx T10 := Table.sound_cons s10 T19_sound
/- eqBucket -/
def c17 : Contract
  | [[.int .i64 h, .int .i64 m, .int .i64 p], [.int .i64 h', .int .i64 m', .int .i64 p']] => some ([[.bool (h == h' && (m == m' && p == p'))]], [])
  | _ => none

theorem r17 (h m p h' m' p' : Int) (n : Nat) : evFn ⟨Go.Proofs.Try.prog, Hx, 17⟩ T10.call n Go.Proofs.Try.f17 [[.int .i64 h, .int .i64 m, .int .i64 p], [.int .i64 h', .int .i64 m', .int .i64 p']] = bif h != h' then some ([[D.bool false]], []) else bif m != m' then some ([[D.bool false]], []) else bif p != p' then some ([[D.bool false]], []) else some ([[D.bool true]], []) := by kernel_rfl
theorem m17 (h m p h' m' p' : Int)  : evFn ⟨Go.Proofs.Try.prog, Hx, 17⟩ T10.call 0 Go.Proofs.Try.f17 [[.int .i64 h, .int .i64 m, .int .i64 p], [.int .i64 h', .int .i64 m', .int .i64 p']] = some ([[.bool (h == h' && (m == m' && p == p'))]], []) := by
  refine (r17 h m p h' m' p' _).trans ?_
  simp only [bne]
  cases h == h' <;> cases m == m' <;> cases p == p' <;> rfl
theorem s17 : SoundAt Go.Proofs.Try.prog Hx 17 c17 := soundAt_of T10_sound mixed Go.Proofs.Try.func17 (by kernel_rfl) (by
  intro rows r h
  unfold c17 at h
  split at h
  · rename_i h m p h' m' p'
    injection h with h
    subst h
    exact ⟨_, m17 h m p h' m' p'⟩
  · cases h)
def T17 : Table := (17, c17) :: T10
theorem T17_sound : Table.Sound Go.Proofs.Try.prog Hx T17 := Table.sound_cons s17 T10_sound
end Go.Ev
namespace Go.Md
open Go Go.Ev
def minI (a b : Int) : Int := bif decide (a < b) then a else b
def tick (h m p : Int) : Int := bif buckOk h m p then minI (IntKind.i64.wrap (h + p)) m else h
end Go.Md
namespace Go.Ev
open Go.Md
/- l1Min -/
def c34 : Contract
  | [[.int .i64 a], [.int .i64 b]] => some ([[.int .i64 (minI a b)]], [])
  | _ => none

theorem r34 (a b : Int) (n : Nat) : evFn ⟨Go.Proofs.Try.prog, Hx, 34⟩ T17.call n Go.Proofs.Try.f34 [[.int .i64 a], [.int .i64 b]] = bif decide (a < b) then some ([[D.int Go.IntKind.i64 a]], []) else some ([[D.int Go.IntKind.i64 b]], []) := by kernel_rfl
theorem m34 (a b : Int)  : evFn ⟨Go.Proofs.Try.prog, Hx, 34⟩ T17.call 0 Go.Proofs.Try.f34 [[.int .i64 a], [.int .i64 b]] = some ([[.int .i64 (minI a b)]], []) := by
  refine (r34 a b _).trans ?_
  unfold minI
  cases decide (a < b) <;> rfl
theorem s34 : SoundAt Go.Proofs.Try.prog Hx 34 c34 := soundAt_of T17_sound mixed Go.Proofs.Try.func34 (by kernel_rfl) (by
  intro rows r h
  unfold c34 at h
  split at h
  · rename_i a b
    injection h with h
    subst h
    exact ⟨_, m34 a b⟩
  · cases h)
def T34 : Table := (34, c34) :: T17
theorem T34_sound : Table.Sound Go.Proofs.Try.prog Hx T34 := Table.sound_cons s34 T17_sound
/- specBucketTick -/
def c23 : Contract
  | [[.int .i64 h, .int .i64 m, .int .i64 p]] => some ([[.int .i64 (tick h m p), .int .i64 m, .int .i64 p]], [])
  | _ => none

theorem r23 (h m p : Int) (n : Nat) : evFn ⟨Go.Proofs.Try.prog, Hx, 23⟩ T34.call n Go.Proofs.Try.f23 [[.int .i64 h, .int .i64 m, .int .i64 p]] = bif buckOk h m p then some ([[D.int Go.IntKind.i64 (minI (Go.IntKind.i64.wrap (h + p)) m), D.int Go.IntKind.i64 m, D.int Go.IntKind.i64 p]], []) else some ([[D.int Go.IntKind.i64 h, D.int Go.IntKind.i64 m, D.int Go.IntKind.i64 p]], []) := by kernel_rfl
theorem m23 (h m p : Int)  : evFn ⟨Go.Proofs.Try.prog, Hx, 23⟩ T34.call 0 Go.Proofs.Try.f23 [[.int .i64 h, .int .i64 m, .int .i64 p]] = some ([[.int .i64 (tick h m p), .int .i64 m, .int .i64 p]], []) := by
  refine (r23 h m p _).trans ?_
  unfold tick
  cases buckOk h m p <;> rfl
theorem s23 : SoundAt Go.Proofs.Try.prog Hx 23 c23 := soundAt_of T34_sound mixed Go.Proofs.Try.func23 (by kernel_rfl) (by
  intro rows r h
  unfold c23 at h
  split at h
  · rename_i h m p
    injection h with h
    subst h
    exact ⟨_, m23 h m p⟩
  · cases h)
def T23 : Table := (23, c23) :: T34
theorem T23_sound : Table.Sound Go.Proofs.Try.prog Hx T23 := Table.sound_cons s23 T34_sound
/- implBucketTick -/
def c24 : Contract
  | [[.int .i64 h, .int .i64 m, .int .i64 p]] => some ([[.int .i64 (tick h m p), .int .i64 m, .int .i64 p]], [])
  | _ => none

theorem r24 (h m p : Int) (n : Nat) : evFn ⟨Go.Proofs.Try.prog, Hx, 24⟩ T23.call n Go.Proofs.Try.f24 [[.int .i64 h, .int .i64 m, .int .i64 p]] = bif buckOk h m p then some ([[D.int Go.IntKind.i64 (if m < Go.IntKind.i64.wrap (h + p) then m else Go.IntKind.i64.wrap (h + p)), D.int Go.IntKind.i64 m, D.int Go.IntKind.i64 p]], []) else some ([[D.int Go.IntKind.i64 h, D.int Go.IntKind.i64 m, D.int Go.IntKind.i64 p]], []) := by kernel_rfl
theorem m24 (h m p : Int)  : evFn ⟨Go.Proofs.Try.prog, Hx, 24⟩ T23.call 0 Go.Proofs.Try.f24 [[.int .i64 h, .int .i64 m, .int .i64 p]] = some ([[.int .i64 (tick h m p), .int .i64 m, .int .i64 p]], []) := by
  refine (r24 h m p _).trans ?_
  unfold tick minI
  cases buckOk h m p
  · rfl
  · by_cases h1 : m < IntKind.i64.wrap (h + p)
    · simp [h1, show ¬ IntKind.i64.wrap (h + p) < m by omega]
    · by_cases h2 : IntKind.i64.wrap (h + p) < m
      · simp [h1, h2]
      · simp [h1, h2]; omega
theorem s24 : SoundAt Go.Proofs.Try.prog Hx 24 c24 := soundAt_of T23_sound mixed Go.Proofs.Try.func24 (by kernel_rfl) (by
  intro rows r h
  unfold c24 at h
  split at h
  · rename_i h m p
    injection h with h
    subst h
    exact ⟨_, m24 h m p⟩
  · cases h)
def T24 : Table := (24, c24) :: T23
theorem T24_sound : Table.Sound Go.Proofs.Try.prog Hx T24 := Table.sound_cons s24 T23_sound
/- law -/
def c8 : Contract
  | [[.int .i64 h, .int .i64 m, .int .i64 p]] => some ([[.bool true]], [])
  | _ => none

theorem r8 (h m p : Int) (n : Nat) : evFn ⟨Go.Proofs.Try.prog, Hx, 8⟩ T24.call n Go.Proofs.Try.f8 [[.int .i64 h, .int .i64 m, .int .i64 p]] = bif !(tick h m p == tick h m p && (m == m && p == p)) then some ([[D.bool false]], []) else some ([[D.bool true]], []) := by kernel_rfl
theorem m8 (h m p : Int)  : evFn ⟨Go.Proofs.Try.prog, Hx, 8⟩ T24.call 0 Go.Proofs.Try.f8 [[.int .i64 h, .int .i64 m, .int .i64 p]] = some ([[.bool true]], []) := by
  refine (r8 h m p _).trans ?_
  simp
theorem s8 : SoundAt Go.Proofs.Try.prog Hx 8 c8 := soundAt_of T24_sound mixed Go.Proofs.Try.func8 (by kernel_rfl) (by
  intro rows r h
  unfold c8 at h
  split at h
  · rename_i h m p
    injection h with h
    subst h
    exact ⟨_, m8 h m p⟩
  · cases h)
def T8 : Table := (8, c8) :: T24
theorem T8_sound : Table.Sound Go.Proofs.Try.prog Hx T8 := Table.sound_cons s8 T24_sound
end Go.Ev
