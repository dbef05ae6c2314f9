/- Contracts of functions, each by its evaluation. -/
import Derived.Test.YtgmmhnloobedjaaEvLib
import Derived.Test.YtgmmhnloobedjaaProg
import Derived.KernelRfl
import Derived.Test.YtgmmhnloobedjaaFHeard
namespace Go.Ev
open Go.RowKit Go.Md
set_option linter.unusedVariables false
set_option linter.unusedSimpArgs false
set_option maxRecDepth 100000
end Go.Ev
namespace Go.Md
open Go Go.Ev
def szC (es : List (List D)) (x : Int) : Int := bif decide (szH es x < 0) then -1 else szH es x
def copyOk (u : Int) (es : List (List D)) : Bool := inR u 0 100001 && tableOk es
theorem szC_big {es : List (List D)} (h1 : es.length ≤ 9223372036854775807) (h : ¬ es.length ≤ 1048576) : decide (szC es 1048576 < 0) = true := by
  have hw : IntKind.i64.wrap (1048576 - Int.ofNat es.length) = 1048576 - Int.ofNat es.length := wrap_of (by show _ ≤ (1048576 : Int) - ((es.length : Nat) : Int); omega) (by show (1048576 : Int) - ((es.length : Nat) : Int) ≤ _; omega)
  have hz : decide (IntKind.i64.wrap (1048576 - Int.ofNat es.length) < 0) = true := by
    rw [hw]; exact decide_eq_true (by show (1048576 : Int) - ((es.length : Nat) : Int) < 0; omega)
  unfold szC szH
  rw [hz]
  rfl
theorem szC_small {es : List (List D)} (h : es.length ≤ 1048576) : decide (szC es 1048576 < 0) = false := by
  have hw : IntKind.i64.wrap (1048576 - Int.ofNat es.length) = 1048576 - Int.ofNat es.length := wrap_of (by show _ ≤ (1048576 : Int) - ((es.length : Nat) : Int); omega) (by show (1048576 : Int) - ((es.length : Nat) : Int) ≤ _; omega)
  have hz : decide (IntKind.i64.wrap (1048576 - Int.ofNat es.length) < 0) = false := by
    rw [hw]; exact decide_eq_false (by show ¬ (1048576 : Int) - ((es.length : Nat) : Int) < 0; omega)
  have hs : szH es 1048576 = IntKind.i64.wrap (1048576 - Int.ofNat es.length) := by unfold szH; rw [hz]; rfl
  have hc : szC es 1048576 = IntKind.i64.wrap (1048576 - Int.ofNat es.length) := by unfold szC; rw [hs, hz]; rfl
  rw [hc]
  exact hz
end Go.Md
namespace Go.Ev
open Go.Md
/- szCopy -/
def c21 : Contract
  | [[.int .i64 u, .sl false 4 es], [.int .i64 x]] => some (true, [[.int .i64 (szC es x)]], [])
  | _ => none

theorem r21 (u : Int) (es : List (List D)) (x : Int) (n : Nat) : evFn ⟨Go.Proofs.Try.prog, Hx, 21⟩ T55.call n Go.Proofs.Try.f21 [[.int .i64 u, .sl false 4 es], [.int .i64 x]] = bif decide (szH es x < 0) then some ([[D.int IntKind.i64 (Int.negSucc 0)]], []) else some ([[D.int IntKind.i64 (szH es x)]], []) := by kernel_rfl
theorem m21 (u : Int) (es : List (List D)) (x : Int)  : evFn ⟨Go.Proofs.Try.prog, Hx, 21⟩ T55.call 0 Go.Proofs.Try.f21 [[.int .i64 u, .sl false 4 es], [.int .i64 x]] = some ([[.int .i64 (szC es x)]], []) := by
  refine (r21 u es x _).trans ?_
  unfold szC
  cases decide (szH es x < 0) <;> rfl
theorem s21 : SoundAt Go.Proofs.Try.prog Hx 21 c21 := soundAt_of T55_sound mixed Go.Proofs.Try.func21 (by kernel_rfl) (by
  intro rows r h
  unfold c21 at h
  split at h
  · rename_i u es x
    injection h with h
    injection h with hp h
    subst h
    exact ⟨_, m21 u es x⟩
  · cases h)
def T21 : Table := (21, c21) :: T55
theorem T21_sound : Table.Sound Go.Proofs.Try.prog Hx T21 := Table.sound_cons s21 T55_sound
/- toCopy -/
def c23 : Contract
  | [[.int .i64 u, .sl false 4 es]] => some (isHs es, [[.int .i64 u, .sl true 4 es]], [])
  | _ => none

theorem r23 (u : Int) (es : List (List D)) (n : Nat) : evFn ⟨Go.Proofs.Try.prog, Hx, 23⟩ T21.call n Go.Proofs.Try.f23 [[.int .i64 u, .sl false 4 es]] = bif isHs es then some ([[D.int IntKind.i64 u, D.sl true 4 es]], []) else none := by kernel_rfl
theorem m23 (u : Int) (es : List (List D)) (hpre : (isHs es) = true) : evFn ⟨Go.Proofs.Try.prog, Hx, 23⟩ T21.call 0 Go.Proofs.Try.f23 [[.int .i64 u, .sl false 4 es]] = some ([[.int .i64 u, .sl true 4 es]], []) := by
  refine (r23 u es _).trans ?_
  rw [hpre]
  rfl
theorem s23 : SoundAt Go.Proofs.Try.prog Hx 23 c23 := soundAt_of T21_sound mixed Go.Proofs.Try.func23 (by kernel_rfl) (by
  intro rows r h
  unfold c23 at h
  split at h
  · rename_i u es
    injection h with h
    injection h with hp h
    subst h
    exact ⟨_, m23 u es hp⟩
  · cases h)
def T23 : Table := (23, c23) :: T21
theorem T23_sound : Table.Sound Go.Proofs.Try.prog Hx T23 := Table.sound_cons s23 T21_sound
/- eqCopy -/
def c25 : Contract
  | [[.int .i64 u, .sl false 4 es], [.int .i64 u', .sl false 4 es']] => some (isHs es && isHs es', [[.bool (u == u' && eqRows es es')]], [])
  | _ => none

theorem r25 (u : Int) (es : List (List D)) (u' : Int) (es' : List (List D)) (n : Nat) : evFn ⟨Go.Proofs.Try.prog, Hx, 25⟩ T23.call n Go.Proofs.Try.f25 [[.int .i64 u, .sl false 4 es], [.int .i64 u', .sl false 4 es']] = bif u != u' then some ([[D.bool false]], []) else bif isHs es && isHs es' then bif !eqRows es es' then some ([[D.bool false]], []) else some ([[D.bool true]], []) else none := by kernel_rfl
theorem m25 (u : Int) (es : List (List D)) (u' : Int) (es' : List (List D)) (hpre : (isHs es && isHs es') = true) : evFn ⟨Go.Proofs.Try.prog, Hx, 25⟩ T23.call 0 Go.Proofs.Try.f25 [[.int .i64 u, .sl false 4 es], [.int .i64 u', .sl false 4 es']] = some ([[.bool (u == u' && eqRows es es')]], []) := by
  refine (r25 u es u' es' _).trans ?_
  rw [hpre]
  simp only [bne]
  cases u == u' <;> cases eqRows es es' <;> rfl
theorem s25 : SoundAt Go.Proofs.Try.prog Hx 25 c25 := soundAt_of T23_sound mixed Go.Proofs.Try.func25 (by kernel_rfl) (by
  intro rows r h
  unfold c25 at h
  split at h
  · rename_i u es u' es'
    injection h with h
    injection h with hp h
    subst h
    exact ⟨_, m25 u es u' es' hp⟩
  · cases h)
def T25 : Table := (25, c25) :: T23
theorem T25_sound : Table.Sound Go.Proofs.Try.prog Hx T25 := Table.sound_cons s25 T23_sound
/- specCopyOk -/
def c22 : Contract
  | [[.int .i64 u, .sl false 4 es]] => some (isHs es, [[.bool (copyOk u es)]], [])
  | _ => none

theorem r22 (u : Int) (es : List (List D)) (n : Nat) : evFn ⟨Go.Proofs.Try.prog, Hx, 22⟩ T25.call n Go.Proofs.Try.f22 [[.int .i64 u, .sl false 4 es]] = bif inR u (0) (100001) then bif isHs es then some ([[D.bool (tableOk es)]], []) else none else some ([[D.bool false]], []) := by kernel_rfl
theorem m22 (u : Int) (es : List (List D)) (hpre : (isHs es) = true) : evFn ⟨Go.Proofs.Try.prog, Hx, 22⟩ T25.call 0 Go.Proofs.Try.f22 [[.int .i64 u, .sl false 4 es]] = some ([[.bool (copyOk u es)]], []) := by
  refine (r22 u es _).trans ?_
  rw [hpre]
  unfold copyOk
  cases inR u 0 100001 <;> rfl
theorem s22 : SoundAt Go.Proofs.Try.prog Hx 22 c22 := soundAt_of T25_sound mixed Go.Proofs.Try.func22 (by kernel_rfl) (by
  intro rows r h
  unfold c22 at h
  split at h
  · rename_i u es
    injection h with h
    injection h with hp h
    subst h
    exact ⟨_, m22 u es hp⟩
  · cases h)
def T22 : Table := (22, c22) :: T25
theorem T22_sound : Table.Sound Go.Proofs.Try.prog Hx T22 := Table.sound_cons s22 T25_sound
/- implCopyOk -/
def c24 : Contract
  | [[.int .i64 u, .sl false 4 es]] => some (isHs es, [[.bool (copyOk u es)]], [])
  | _ => none

theorem r24 (u : Int) (es : List (List D)) (n : Nat) : evFn ⟨Go.Proofs.Try.prog, Hx, 24⟩ T22.call n Go.Proofs.Try.f24 [[.int .i64 u, .sl false 4 es]] = bif inR u (0) (100001) then bif isHs es then some ([[D.bool (tableOk es)]], []) else none else some ([[D.bool false]], []) := by kernel_rfl
theorem m24 (u : Int) (es : List (List D)) (hpre : (isHs es) = true) : evFn ⟨Go.Proofs.Try.prog, Hx, 24⟩ T22.call 0 Go.Proofs.Try.f24 [[.int .i64 u, .sl false 4 es]] = some ([[.bool (copyOk u es)]], []) := by
  refine (r24 u es _).trans ?_
  rw [hpre]
  unfold copyOk
  cases inR u 0 100001 <;> rfl
theorem s24 : SoundAt Go.Proofs.Try.prog Hx 24 c24 := soundAt_of T22_sound mixed Go.Proofs.Try.func24 (by kernel_rfl) (by
  intro rows r h
  unfold c24 at h
  split at h
  · rename_i u es
    injection h with h
    injection h with hp h
    subst h
    exact ⟨_, m24 u es hp⟩
  · cases h)
def T24 : Table := (24, c24) :: T22
theorem T24_sound : Table.Sound Go.Proofs.Try.prog Hx T24 := Table.sound_cons s24 T22_sound
end Go.Ev
