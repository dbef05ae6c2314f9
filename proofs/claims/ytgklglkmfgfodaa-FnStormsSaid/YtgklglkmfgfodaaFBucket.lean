/- Contracts of functions, each by its evaluation. -/
import Derived.Test.YtgklglkmfgfodaaEvMd
import Derived.Test.YtgklglkmfgfodaaProg
import Derived.KernelRfl
import Derived.Test.YtgklglkmfgfodaaFDraw
set_option linter.unusedVariables false
set_option linter.unusedSimpArgs false
set_option maxRecDepth 100000
noncomputable section
open List (getD length drop take set append replicate all isEmpty)
open Int (toNat ofNat)
open Go.IntKind (i64 wrap)
open Go.Proofs.Try (prog f10 f12 f13 f17 f18 f19 f20 f21 f22 f9 func10 func12 func13 func17 func18 func19 func20 func21 func22 func9)
namespace Go.Ev
open Go.RowKit Go.Md
end Go.Ev
namespace Go.Md
open Go Go.Ev
def buckOk (b : Bucket) : Bool := inR b.Most 1 1000 && (inR b.Per 0 b.Most && inR b.Have 0 b.Most)
def buckNew (m p : Int) : Bucket := bif buckOk ⟨m, m, p⟩ then ⟨m, m, p⟩ else ⟨0, 0, 0⟩
def buckTick (b : Bucket) : Bucket := bif buckOk b then ⟨if b.Have + b.Per < b.Most then b.Have + b.Per else b.Most, b.Most, b.Per⟩ else b
def canAdmit (b : Bucket) (n : Int) : Bool := buckOk b && inR n 1 b.Have
def admitB (b : Bucket) (n : Int) : Bucket := bif canAdmit b n then ⟨b.Have - n, b.Most, b.Per⟩ else b
def admL : List Int → Bucket → Int → Bucket × Int
  | [], b, s => (b, s)
  | x :: xs, b, s => bif x == 0 then admL xs (buckTick b) s else bif canAdmit b x then admL xs (admitB b x) (s + x) else admL xs b s
def admAll (b : Bucket) (l : List Int) : Bucket × Int := bif decide (l.length ≤ 200) then admL l b 0 else (b, 0)
theorem buck_b {b : Bucket} (h : buckOk b = true) : 1 ≤ b.Most ∧ b.Most ≤ 1000 ∧ 0 ≤ b.Per ∧ b.Per ≤ b.Most ∧ 0 ≤ b.Have ∧ b.Have ≤ b.Most := by
  unfold buckOk inR at h
  simp only [Bool.and_eq_true, decide_eq_true_eq] at h
  omega
theorem buck_mk {b : Bucket} (h : 1 ≤ b.Most ∧ b.Most ≤ 1000 ∧ 0 ≤ b.Per ∧ b.Per ≤ b.Most ∧ 0 ≤ b.Have ∧ b.Have ≤ b.Most) : buckOk b = true := by
  unfold buckOk inR
  simp only [Bool.and_eq_true, decide_eq_true_eq]
  omega
theorem can_b {b : Bucket} {n : Int} (h : canAdmit b n = true) : buckOk b = true ∧ 1 ≤ n ∧ n ≤ b.Have := by
  unfold canAdmit inR at h
  simp only [Bool.and_eq_true, decide_eq_true_eq] at h
  exact ⟨h.1, h.2.1, h.2.2⟩
theorem tick_bok {b : Bucket} (h : buckOk b = true) : buckOk (buckTick b) = true := by
  have := buck_b h
  unfold buckTick
  rw [h, cond_true]
  refine buck_mk ?_
  show 1 ≤ b.Most ∧ b.Most ≤ 1000 ∧ 0 ≤ b.Per ∧ b.Per ≤ b.Most ∧ 0 ≤ (if b.Have + b.Per < b.Most then b.Have + b.Per else b.Most) ∧ (if b.Have + b.Per < b.Most then b.Have + b.Per else b.Most) ≤ b.Most
  split <;> omega
theorem admit_bok {b : Bucket} {n : Int} (h : canAdmit b n = true) : buckOk (admitB b n) = true := by
  obtain ⟨h1, h2, h3⟩ := can_b h
  have := buck_b h1
  unfold admitB
  rw [h, cond_true]
  refine buck_mk ?_
  show 1 ≤ b.Most ∧ b.Most ≤ 1000 ∧ 0 ≤ b.Per ∧ b.Per ≤ b.Most ∧ 0 ≤ b.Have - n ∧ b.Have - n ≤ b.Most
  omega
def tickN : List Int → Int
  | [] => 0
  | x :: xs => bif x == 0 then 1 + tickN xs else tickN xs
theorem admL_no {b : Bucket} (h : buckOk b = false) : ∀ (l : List Int) (s : Int), admL l b s = (b, s)
  | [], _ => rfl
  | x :: xs, s => by
    have h1 : canAdmit b x = false := by unfold canAdmit; rw [h]; rfl
    have h2 : buckTick b = b := by unfold buckTick; rw [h]; rfl
    show (bif x == 0 then admL xs (buckTick b) s else bif canAdmit b x then admL xs (admitB b x) (s + x) else admL xs b s) = _
    rw [h1, h2, cond_false, admL_no h xs s]
    cases x == 0 <;> rfl
theorem tickN_nn : ∀ l : List Int, 0 ≤ tickN l ∧ tickN l ≤ (l.length : Int)
  | [] => by simp [tickN]
  | x :: xs => by
    have := tickN_nn xs
    unfold tickN
    rw [List.length_cons]
    cases x == 0
    · rw [cond_false]; omega
    · rw [cond_true]; omega
theorem admL_ok : ∀ (l : List Int) (b : Bucket) (s : Int), buckOk b = true → (admL l b s).1.Per = b.Per ∧ buckOk (admL l b s).1 = true ∧ s ≤ (admL l b s).2 ∧ (admL l b s).2 + (admL l b s).1.Have ≤ s + b.Have + tickN l * b.Per
  | [], b, s, h => by
    show b.Per = b.Per ∧ buckOk b = true ∧ s ≤ s ∧ s + b.Have ≤ s + b.Have + 0 * b.Per
    refine ⟨rfl, h, Int.le_refl _, ?_⟩
    rw [Int.zero_mul]; omega
  | x :: xs, b, s, h => by
    have hb := buck_b h
    rw [show admL (x :: xs) b s = bif x == 0 then admL xs (buckTick b) s else bif canAdmit b x then admL xs (admitB b x) (s + x) else admL xs b s from rfl, show tickN (x :: xs) = bif x == 0 then 1 + tickN xs else tickN xs from rfl]
    cases hx : x == 0
    · simp only [cond_false]
      cases hc : canAdmit b x
      · simp only [cond_false]
        exact admL_ok xs b s h
      · simp only [cond_true]
        obtain ⟨_, h2, h3⟩ := can_b hc
        have hp : (admitB b x).Per = b.Per := by unfold admitB; rw [hc]; rfl
        have hh : (admitB b x).Have = b.Have - x := by unfold admitB; rw [hc]; rfl
        obtain ⟨a1, a2, a3, a4⟩ := admL_ok xs (admitB b x) (s + x) (admit_bok hc)
        rw [hp] at a1
        rw [hp, hh] at a4
        exact ⟨a1, a2, by omega, by omega⟩
    · simp only [cond_true]
      have hp : (buckTick b).Per = b.Per := by unfold buckTick; rw [h]; rfl
      have hh : (buckTick b).Have ≤ b.Have + b.Per := by
        unfold buckTick; rw [h, cond_true]
        show (if b.Have + b.Per < b.Most then b.Have + b.Per else b.Most) ≤ b.Have + b.Per
        split <;> omega
      obtain ⟨a1, a2, a3, a4⟩ := admL_ok xs (buckTick b) s (tick_bok h)
      rw [hp] at a1
      rw [hp] at a4
      refine ⟨a1, a2, a3, ?_⟩
      rw [Int.add_mul, Int.one_mul]
      omega
theorem sum_b (l : List Int) (b : Bucket) (s : Int) (h : buckOk b = true) (hl : l.length ≤ 200) : (admL l b s).2 ≤ s + 201000 := by
  obtain ⟨a1, a2, a3, a4⟩ := admL_ok l b s h
  have := buck_b h
  have := buck_b a2
  have ht := tickN_nn l
  have hm : tickN l * b.Per ≤ 200 * 1000 := by
    have h1 : tickN l * b.Per ≤ 200 * b.Per := Int.mul_le_mul_of_nonneg_right (by omega) (by omega)
    omega
  omega
def outA (x : Bucket × Int) : Go.Ev.RR := some ([[D.int .i64 x.1.Have, D.int .i64 x.1.Most, D.int .i64 x.1.Per], [D.int .i64 x.2]], [])
theorem admL_cons (x : Int) (xs : List Int) (b : Bucket) (s : Int) : admL (x :: xs) b s = bif x == 0 then admL xs (buckTick b) s else bif canAdmit b x then admL xs (admitB b x) (s + x) else admL xs b s := rfl
theorem can_w {b : Bucket} {x s : Int} {i : Nat} (hc : canAdmit b x = true) (h0 : 0 ≤ s) (h1 : s ≤ 1000 * (i : Int)) : 0 ≤ s + x ∧ s + x ≤ 1000 * ((i + 1 : Nat) : Int) := by
  obtain ⟨hb, h2, h3⟩ := can_b hc
  have := buck_b hb
  omega
end Go.Md
namespace Go.Ev
open Go.Md
def o21 (b : Bucket) : Bool × List Row × List Row := (true, [[.bool (buckOk b)]], [])
def c21 : Contract
  | [[.int .i64 b_Have, .int .i64 b_Most, .int .i64 b_Per]] => some ((o21 ⟨b_Have, b_Most, b_Per⟩).1, (o21 ⟨b_Have, b_Most, b_Per⟩).2.1, (o21 ⟨b_Have, b_Most, b_Per⟩).2.2)
  | _ => none

theorem r21 (b : Bucket) (n : Nat) : evFn ⟨prog, Hx, 21⟩ T7.call n f21 [[.int .i64 b.Have, .int .i64 b.Most, .int .i64 b.Per]] = bif inR (Bucket.Most b) (1) (1000) then bif inR (Bucket.Per b) (0) (Bucket.Most b) then some ([[D.bool (inR (Bucket.Have b) (0) (Bucket.Most b))]], []) else some ([[D.bool false]], []) else some ([[D.bool false]], []) := by kernel_rfl
theorem m21 (b : Bucket) (hpre : (o21 b).1 = true) : evFn ⟨Go.Proofs.Try.prog, Hx, 21⟩ T7.call 0 f21 [[.int .i64 b.Have, .int .i64 b.Most, .int .i64 b.Per]] = some (o21 b).2 := by
  refine (r21 b _).trans ?_
  show _ = (some ([[.bool (buckOk b)]], []) : Option (List Row × List Row))
  replace hpre : (true) = true := hpre
  unfold buckOk
  cases inR b.Most 1 1000 <;> cases inR b.Per 0 b.Most <;> cases inR b.Have 0 b.Most <;> rfl
theorem s21 : SoundAt Go.Proofs.Try.prog Hx 21 c21 := soundAt_of T7_sound mixed func21 (by kernel_rfl) (by
  intro rows r h
  unfold c21 at h
  split at h
  · rename_i b_Have b_Most b_Per
    obtain ⟨hp, hr⟩ := Prod.mk.inj (Option.some.inj h)
    subst hr
    exact ⟨_, m21 ⟨b_Have, b_Most, b_Per⟩ hp⟩
  · cases h)
def T21 : Table := (21, c21) :: T7
theorem T21_sound : Table.Sound Go.Proofs.Try.prog Hx T21 := Table.sound_cons s21 T7_sound
def o22 (b : Bucket) : Bool × List Row × List Row := (true, [[.bool (buckOk b)]], [])
def c22 : Contract
  | [[.int .i64 b_Have, .int .i64 b_Most, .int .i64 b_Per]] => some ((o22 ⟨b_Have, b_Most, b_Per⟩).1, (o22 ⟨b_Have, b_Most, b_Per⟩).2.1, (o22 ⟨b_Have, b_Most, b_Per⟩).2.2)
  | _ => none

theorem r22 (b : Bucket) (n : Nat) : evFn ⟨prog, Hx, 22⟩ T21.call n f22 [[.int .i64 b.Have, .int .i64 b.Most, .int .i64 b.Per]] = bif inR (Bucket.Most b) (1) (1000) then bif inR (Bucket.Per b) (0) (Bucket.Most b) then some ([[D.bool (inR (Bucket.Have b) (0) (Bucket.Most b))]], []) else some ([[D.bool false]], []) else some ([[D.bool false]], []) := by kernel_rfl
theorem m22 (b : Bucket) (hpre : (o22 b).1 = true) : evFn ⟨Go.Proofs.Try.prog, Hx, 22⟩ T21.call 0 f22 [[.int .i64 b.Have, .int .i64 b.Most, .int .i64 b.Per]] = some (o22 b).2 := by
  refine (r22 b _).trans ?_
  show _ = (some ([[.bool (buckOk b)]], []) : Option (List Row × List Row))
  replace hpre : (true) = true := hpre
  unfold buckOk
  cases inR b.Most 1 1000 <;> cases inR b.Per 0 b.Most <;> cases inR b.Have 0 b.Most <;> rfl
theorem s22 : SoundAt Go.Proofs.Try.prog Hx 22 c22 := soundAt_of T21_sound mixed func22 (by kernel_rfl) (by
  intro rows r h
  unfold c22 at h
  split at h
  · rename_i b_Have b_Most b_Per
    obtain ⟨hp, hr⟩ := Prod.mk.inj (Option.some.inj h)
    subst hr
    exact ⟨_, m22 ⟨b_Have, b_Most, b_Per⟩ hp⟩
  · cases h)
def T22 : Table := (22, c22) :: T21
theorem T22_sound : Table.Sound Go.Proofs.Try.prog Hx T22 := Table.sound_cons s22 T21_sound
def o17 (most : Int) (per : Int) : Bool × List Row × List Row := (true, [[.int .i64 (buckNew most per).Have, .int .i64 (buckNew most per).Most, .int .i64 (buckNew most per).Per], [.bool (buckOk ⟨most, most, per⟩)]], [])
def c17 : Contract
  | [[.int .i64 most], [.int .i64 per]] => some ((o17 most per).1, (o17 most per).2.1, (o17 most per).2.2)
  | _ => none

theorem r17 (most : Int) (per : Int) (n : Nat) : evFn ⟨prog, Hx, 17⟩ T22.call n f17 [[.int .i64 most], [.int .i64 per]] = bif !buckOk (Bucket.mk most most per) then some ([[D.int i64 (0), D.int i64 (0), D.int i64 (0)], [D.bool false]], []) else some ([[D.int i64 most, D.int i64 most, D.int i64 per], [D.bool true]], []) := by kernel_rfl
theorem m17 (most : Int) (per : Int) (hpre : (o17 most per).1 = true) : evFn ⟨Go.Proofs.Try.prog, Hx, 17⟩ T22.call 0 f17 [[.int .i64 most], [.int .i64 per]] = some (o17 most per).2 := by
  refine (r17 most per _).trans ?_
  show _ = (some ([[.int .i64 (buckNew most per).Have, .int .i64 (buckNew most per).Most, .int .i64 (buckNew most per).Per], [.bool (buckOk ⟨most, most, per⟩)]], []) : Option (List Row × List Row))
  replace hpre : (true) = true := hpre
  unfold buckNew
  cases buckOk ⟨most, most, per⟩ <;> rfl
theorem s17 : SoundAt Go.Proofs.Try.prog Hx 17 c17 := soundAt_of T22_sound mixed func17 (by kernel_rfl) (by
  intro rows r h
  unfold c17 at h
  split at h
  · rename_i most per
    obtain ⟨hp, hr⟩ := Prod.mk.inj (Option.some.inj h)
    subst hr
    exact ⟨_, m17 most per hp⟩
  · cases h)
def T17 : Table := (17, c17) :: T22
theorem T17_sound : Table.Sound Go.Proofs.Try.prog Hx T17 := Table.sound_cons s17 T22_sound
def o18 (most : Int) (per : Int) : Bool × List Row × List Row := (true, [[.int .i64 (buckNew most per).Have, .int .i64 (buckNew most per).Most, .int .i64 (buckNew most per).Per], [.bool (buckOk ⟨most, most, per⟩)]], [])
def c18 : Contract
  | [[.int .i64 most], [.int .i64 per]] => some ((o18 most per).1, (o18 most per).2.1, (o18 most per).2.2)
  | _ => none

theorem r18 (most : Int) (per : Int) (n : Nat) : evFn ⟨prog, Hx, 18⟩ T17.call n f18 [[.int .i64 most], [.int .i64 per]] = bif !buckOk (Bucket.mk most most per) then some ([[D.int i64 (0), D.int i64 (0), D.int i64 (0)], [D.bool false]], []) else some ([[D.int i64 most, D.int i64 most, D.int i64 per], [D.bool true]], []) := by kernel_rfl
theorem m18 (most : Int) (per : Int) (hpre : (o18 most per).1 = true) : evFn ⟨Go.Proofs.Try.prog, Hx, 18⟩ T17.call 0 f18 [[.int .i64 most], [.int .i64 per]] = some (o18 most per).2 := by
  refine (r18 most per _).trans ?_
  show _ = (some ([[.int .i64 (buckNew most per).Have, .int .i64 (buckNew most per).Most, .int .i64 (buckNew most per).Per], [.bool (buckOk ⟨most, most, per⟩)]], []) : Option (List Row × List Row))
  replace hpre : (true) = true := hpre
  unfold buckNew
  cases buckOk ⟨most, most, per⟩ <;> rfl
theorem s18 : SoundAt Go.Proofs.Try.prog Hx 18 c18 := soundAt_of T17_sound mixed func18 (by kernel_rfl) (by
  intro rows r h
  unfold c18 at h
  split at h
  · rename_i most per
    obtain ⟨hp, hr⟩ := Prod.mk.inj (Option.some.inj h)
    subst hr
    exact ⟨_, m18 most per hp⟩
  · cases h)
def T18 : Table := (18, c18) :: T17
theorem T18_sound : Table.Sound Go.Proofs.Try.prog Hx T18 := Table.sound_cons s18 T17_sound
def o19 (b : Bucket) : Bool × List Row × List Row := (true, [[.int .i64 (buckTick b).Have, .int .i64 (buckTick b).Most, .int .i64 (buckTick b).Per]], [])
def c19 : Contract
  | [[.int .i64 b_Have, .int .i64 b_Most, .int .i64 b_Per]] => some ((o19 ⟨b_Have, b_Most, b_Per⟩).1, (o19 ⟨b_Have, b_Most, b_Per⟩).2.1, (o19 ⟨b_Have, b_Most, b_Per⟩).2.2)
  | _ => none

theorem r19 (b : Bucket) (n : Nat) : evFn ⟨prog, Hx, 19⟩ T18.call n f19 [[.int .i64 b.Have, .int .i64 b.Most, .int .i64 b.Per]] = bif buckOk b then some ([[D.int i64 (if Bucket.Most b < wrap i64 (Bucket.Have b + Bucket.Per b) then Bucket.Most b else wrap i64 (Bucket.Have b + Bucket.Per b)), D.int i64 (Bucket.Most b), D.int i64 (Bucket.Per b)]], []) else some ([[D.int i64 (Bucket.Have b), D.int i64 (Bucket.Most b), D.int i64 (Bucket.Per b)]], []) := by kernel_rfl
theorem m19 (b : Bucket) (hpre : (o19 b).1 = true) : evFn ⟨Go.Proofs.Try.prog, Hx, 19⟩ T18.call 0 f19 [[.int .i64 b.Have, .int .i64 b.Most, .int .i64 b.Per]] = some (o19 b).2 := by
  refine (r19 b _).trans ?_
  show _ = (some ([[.int .i64 (buckTick b).Have, .int .i64 (buckTick b).Most, .int .i64 (buckTick b).Per]], []) : Option (List Row × List Row))
  replace hpre : (true) = true := hpre
  unfold buckTick
  cases h : buckOk b
  · rfl
  have hb := buck_b h
  rw [wrap_sm (show -4611686018427387904 ≤ b.Have + b.Per by omega) (by omega), show (if b.Most < b.Have + b.Per then b.Most else b.Have + b.Per) = (if b.Have + b.Per < b.Most then b.Have + b.Per else b.Most) by split <;> split <;> omega]
  rfl
theorem s19 : SoundAt Go.Proofs.Try.prog Hx 19 c19 := soundAt_of T18_sound mixed func19 (by kernel_rfl) (by
  intro rows r h
  unfold c19 at h
  split at h
  · rename_i b_Have b_Most b_Per
    obtain ⟨hp, hr⟩ := Prod.mk.inj (Option.some.inj h)
    subst hr
    exact ⟨_, m19 ⟨b_Have, b_Most, b_Per⟩ hp⟩
  · cases h)
def T19 : Table := (19, c19) :: T18
theorem T19_sound : Table.Sound Go.Proofs.Try.prog Hx T19 := Table.sound_cons s19 T18_sound
def o20 (b : Bucket) : Bool × List Row × List Row := (true, [[.int .i64 (buckTick b).Have, .int .i64 (buckTick b).Most, .int .i64 (buckTick b).Per]], [])
def c20 : Contract
  | [[.int .i64 b_Have, .int .i64 b_Most, .int .i64 b_Per]] => some ((o20 ⟨b_Have, b_Most, b_Per⟩).1, (o20 ⟨b_Have, b_Most, b_Per⟩).2.1, (o20 ⟨b_Have, b_Most, b_Per⟩).2.2)
  | _ => none

theorem r20 (b : Bucket) (n : Nat) : evFn ⟨prog, Hx, 20⟩ T19.call n f20 [[.int .i64 b.Have, .int .i64 b.Most, .int .i64 b.Per]] = bif buckOk b then some ([[D.int i64 (if wrap i64 (Bucket.Have b + Bucket.Per b) < Bucket.Most b then wrap i64 (Bucket.Have b + Bucket.Per b) else Bucket.Most b), D.int i64 (Bucket.Most b), D.int i64 (Bucket.Per b)]], []) else some ([[D.int i64 (Bucket.Have b), D.int i64 (Bucket.Most b), D.int i64 (Bucket.Per b)]], []) := by kernel_rfl
theorem m20 (b : Bucket) (hpre : (o20 b).1 = true) : evFn ⟨Go.Proofs.Try.prog, Hx, 20⟩ T19.call 0 f20 [[.int .i64 b.Have, .int .i64 b.Most, .int .i64 b.Per]] = some (o20 b).2 := by
  refine (r20 b _).trans ?_
  show _ = (some ([[.int .i64 (buckTick b).Have, .int .i64 (buckTick b).Most, .int .i64 (buckTick b).Per]], []) : Option (List Row × List Row))
  replace hpre : (true) = true := hpre
  unfold buckTick
  cases h : buckOk b
  · rfl
  have hb := buck_b h
  rw [wrap_sm (show -4611686018427387904 ≤ b.Have + b.Per by omega) (by omega)]
  rfl
theorem s20 : SoundAt Go.Proofs.Try.prog Hx 20 c20 := soundAt_of T19_sound mixed func20 (by kernel_rfl) (by
  intro rows r h
  unfold c20 at h
  split at h
  · rename_i b_Have b_Most b_Per
    obtain ⟨hp, hr⟩ := Prod.mk.inj (Option.some.inj h)
    subst hr
    exact ⟨_, m20 ⟨b_Have, b_Most, b_Per⟩ hp⟩
  · cases h)
def T20 : Table := (20, c20) :: T19
theorem T20_sound : Table.Sound Go.Proofs.Try.prog Hx T20 := Table.sound_cons s20 T19_sound
def o12 (b : Bucket) (n_ : Int) : Bool × List Row × List Row := (true, [[.int .i64 (admitB b n_).Have, .int .i64 (admitB b n_).Most, .int .i64 (admitB b n_).Per], [.bool (canAdmit b n_)]], [])
def c12 : Contract
  | [[.int .i64 b_Have, .int .i64 b_Most, .int .i64 b_Per], [.int .i64 n_]] => some ((o12 ⟨b_Have, b_Most, b_Per⟩ n_).1, (o12 ⟨b_Have, b_Most, b_Per⟩ n_).2.1, (o12 ⟨b_Have, b_Most, b_Per⟩ n_).2.2)
  | _ => none

theorem r12 (b : Bucket) (n_ : Int) (n : Nat) : evFn ⟨prog, Hx, 12⟩ T20.call n f12 [[.int .i64 b.Have, .int .i64 b.Most, .int .i64 b.Per], [.int .i64 n_]] = bif decide (n_ < 1) then some ([[D.int i64 (Bucket.Have b), D.int i64 (Bucket.Most b), D.int i64 (Bucket.Per b)], [D.bool false]], []) else bif decide (n_ > Bucket.Have b) then some ([[D.int i64 (Bucket.Have b), D.int i64 (Bucket.Most b), D.int i64 (Bucket.Per b)], [D.bool false]], []) else bif !buckOk b then some ([[D.int i64 (Bucket.Have b), D.int i64 (Bucket.Most b), D.int i64 (Bucket.Per b)], [D.bool false]], []) else some ([[D.int i64 (wrap i64 (Bucket.Have b - n_)), D.int i64 (Bucket.Most b), D.int i64 (Bucket.Per b)], [D.bool true]], []) := by kernel_rfl
theorem m12 (b : Bucket) (n_ : Int) (hpre : (o12 b n_).1 = true) : evFn ⟨Go.Proofs.Try.prog, Hx, 12⟩ T20.call 0 f12 [[.int .i64 b.Have, .int .i64 b.Most, .int .i64 b.Per], [.int .i64 n_]] = some (o12 b n_).2 := by
  refine (r12 b n_ _).trans ?_
  show _ = (some ([[.int .i64 (admitB b n_).Have, .int .i64 (admitB b n_).Most, .int .i64 (admitB b n_).Per], [.bool (canAdmit b n_)]], []) : Option (List Row × List Row))
  replace hpre : (true) = true := hpre
  unfold admitB
  cases hc : canAdmit b n_
  · cases h1 : decide (n_ < 1)
    · cases h2 : decide (n_ > b.Have)
      · cases h3 : buckOk b
        · rfl
        · exfalso
          have h1 := of_decide_eq_false h1
          have h2 := of_decide_eq_false h2
          unfold canAdmit inR at hc
          rw [h3, decide_eq_true (show n_ ≥ 1 by omega), decide_eq_true (show n_ ≤ b.Have by omega)] at hc
          exact Bool.noConfusion hc
      · rfl
    · rfl
  · obtain ⟨h1, h2, h3⟩ := can_b hc
    have hb := buck_b h1
    rw [decide_eq_false (show ¬ n_ < 1 by omega), decide_eq_false (show ¬ n_ > b.Have by omega), h1, wrap_sm (show -4611686018427387904 ≤ b.Have - n_ by omega) (by omega)]
    rfl
theorem s12 : SoundAt Go.Proofs.Try.prog Hx 12 c12 := soundAt_of T20_sound mixed func12 (by kernel_rfl) (by
  intro rows r h
  unfold c12 at h
  split at h
  · rename_i b_Have b_Most b_Per n_
    obtain ⟨hp, hr⟩ := Prod.mk.inj (Option.some.inj h)
    subst hr
    exact ⟨_, m12 ⟨b_Have, b_Most, b_Per⟩ n_ hp⟩
  · cases h)
def T12 : Table := (12, c12) :: T20
theorem T12_sound : Table.Sound Go.Proofs.Try.prog Hx T12 := Table.sound_cons s12 T20_sound
def o13 (b : Bucket) (n_ : Int) : Bool × List Row × List Row := (true, [[.int .i64 (admitB b n_).Have, .int .i64 (admitB b n_).Most, .int .i64 (admitB b n_).Per], [.bool (canAdmit b n_)]], [])
def c13 : Contract
  | [[.int .i64 b_Have, .int .i64 b_Most, .int .i64 b_Per], [.int .i64 n_]] => some ((o13 ⟨b_Have, b_Most, b_Per⟩ n_).1, (o13 ⟨b_Have, b_Most, b_Per⟩ n_).2.1, (o13 ⟨b_Have, b_Most, b_Per⟩ n_).2.2)
  | _ => none

theorem r13 (b : Bucket) (n_ : Int) (n : Nat) : evFn ⟨prog, Hx, 13⟩ T12.call n f13 [[.int .i64 b.Have, .int .i64 b.Most, .int .i64 b.Per], [.int .i64 n_]] = bif !buckOk b then some ([[D.int i64 (Bucket.Have b), D.int i64 (Bucket.Most b), D.int i64 (Bucket.Per b)], [D.bool false]], []) else bif !inR n_ (1) (Bucket.Have b) then some ([[D.int i64 (Bucket.Have b), D.int i64 (Bucket.Most b), D.int i64 (Bucket.Per b)], [D.bool false]], []) else some ([[D.int i64 (wrap i64 (Bucket.Have b - n_)), D.int i64 (Bucket.Most b), D.int i64 (Bucket.Per b)], [D.bool true]], []) := by kernel_rfl
theorem m13 (b : Bucket) (n_ : Int) (hpre : (o13 b n_).1 = true) : evFn ⟨Go.Proofs.Try.prog, Hx, 13⟩ T12.call 0 f13 [[.int .i64 b.Have, .int .i64 b.Most, .int .i64 b.Per], [.int .i64 n_]] = some (o13 b n_).2 := by
  refine (r13 b n_ _).trans ?_
  show _ = (some ([[.int .i64 (admitB b n_).Have, .int .i64 (admitB b n_).Most, .int .i64 (admitB b n_).Per], [.bool (canAdmit b n_)]], []) : Option (List Row × List Row))
  replace hpre : (true) = true := hpre
  unfold admitB
  cases hc : canAdmit b n_
  · cases h1 : buckOk b
    · rfl
    · cases h2 : inR n_ 1 b.Have
      · rfl
      · unfold canAdmit at hc
        rw [h1, h2] at hc
        exact Bool.noConfusion hc
  · obtain ⟨h1, h2, h3⟩ := can_b hc
    have hb := buck_b h1
    have h4 : inR n_ 1 b.Have = true := by unfold canAdmit at hc; rw [h1] at hc; exact hc
    rw [h1, h4, wrap_sm (show -4611686018427387904 ≤ b.Have - n_ by omega) (by omega)]
    rfl
theorem s13 : SoundAt Go.Proofs.Try.prog Hx 13 c13 := soundAt_of T12_sound mixed func13 (by kernel_rfl) (by
  intro rows r h
  unfold c13 at h
  split at h
  · rename_i b_Have b_Most b_Per n_
    obtain ⟨hp, hr⟩ := Prod.mk.inj (Option.some.inj h)
    subst hr
    exact ⟨_, m13 ⟨b_Have, b_Most, b_Per⟩ n_ hp⟩
  · cases h)
def T13 : Table := (13, c13) :: T12
theorem T13_sound : Table.Sound Go.Proofs.Try.prog Hx T13 := Table.sound_cons s13 T12_sound
def o9 (b : Bucket) (list : List Int) : Bool × List Row × List Row := (decide (list.length ≤ 1048576), [[.int .i64 ((admAll b list).1).Have, .int .i64 ((admAll b list).1).Most, .int .i64 ((admAll b list).1).Per], [.int .i64 ((admAll b list).2)]], [])
def c9 : Contract
  | [[.int .i64 b_Have, .int .i64 b_Most, .int .i64 b_Per], [.sl false 1 list]] => some (isS Int false list && (o9 ⟨b_Have, b_Most, b_Per⟩ (deS Int list)).1, (o9 ⟨b_Have, b_Most, b_Per⟩ (deS Int list)).2.1, (o9 ⟨b_Have, b_Most, b_Per⟩ (deS Int list)).2.2)
  | _ => none

def k9_0 (n : Nat) : Ex → St → RR := kThen (fun st ↦ runCode (Ctx.mk prog Hx (9)) (Table.call T13) n (codeAt [1, 1, 1, 1] (bodyOf f9)) (Lv.mk 48 [] 48) st (kLeave (Ctx.P (Ctx.mk prog Hx (9))) (List.zip (Array.toList (Go.Func.resultTypes f9)) (Array.toList (Go.Func.results f9))) [] [])) (kLeave (Ctx.P (Ctx.mk prog Hx (9))) (List.zip (Array.toList (Go.Func.resultTypes f9)) (Array.toList (Go.Func.results f9))) [] [])
def k9_1 (n : Nat) : Ex → St → RR := kBlock (0) (k9_0 n)
def S9_0 (list : List Int) (i0 : Int) (i1 : Int) (i2 : Int) (i3 : Int) (i4 : Int) : St := St.mk [U_, U_, V_ [C.ptr 0 0 0 [] 3 0 0], U_, V_ [C.ptr 1 0 0 [] 3 0 0], U_, I_ i4, U_, U_, U_, U_, U_, U_, U_, U_, V_ [C.d (D.sl false 1 (enS false list))], I_ (ofNat (length (enS false list))), I_ i0, U_, U_, U_, U_, U_, U_, U_, U_, U_, U_, U_, U_, U_, U_, U_, U_, U_, U_, U_, U_, U_] [Root.mk true 3 [[D.int i64 i1, D.int i64 i2, D.int i64 i3]] 0 0 true true false, Root.mk true 3 [[D.int i64 (0), D.int i64 (0), D.int i64 (0)]] 0 0 true true false]
def B9_0 (n : Nat) : St → (Ex → St → RR) → RR := runCode (Ctx.mk prog Hx (9)) (Table.call T13) n (codeAt [1, 1, 1, 0, 1, 0, 0] (bodyOf f9)) (Lv.mk 229460 [(0, 84)] 48)
def X9_2 (list : List Int) (i0 : Int) (i1 : Int) (i2 : Int) (i3 : Int) (i4 : Int) : St := St.mk [U_, U_, V_ [C.ptr 0 0 0 [] 3 0 0], U_, V_ [C.ptr 1 0 0 [] 3 0 0], U_, I_ i4, U_, U_, U_, U_, U_, U_, U_, U_, V_ [C.d (D.sl false 1 (enS false list))], I_ (ofNat (length (enS false list))), I_ i0, B_ false, U_, U_, U_, U_, U_, U_, U_, U_, U_, U_, U_, U_, U_, U_, U_, U_, U_, U_, U_, U_] [Root.mk true 3 [[D.int i64 i1, D.int i64 i2, D.int i64 i3]] 0 0 true true false, Root.mk true 3 [[D.int i64 (0), D.int i64 (0), D.int i64 (0)]] 0 0 true true false]
theorem q9_0 (list : List Int) (n : Nat) (i0 : Int) (i1 : Int) (i2 : Int) (i3 : Int) (i4 : Int) (f : St → RR) (K : Ex → St → RR) : B9_0 n (S9_0 list i0 i1 i2 i3 i4) (kThen (fun st ↦ f (St.head 2 229460 137438824256 st)) K) = bif decide (i0 < ofNat (length (enS false list))) then bif decide (0 ≤ i0) && decide (i0 < ofNat (length (enS false list))) then bif Leaf.fit false (Leaf.int i64) (getD (getD (enS false list) (toNat i0) []) 0 D.dead) && true then bif D.num (getD (getD (enS false list) (toNat i0) []) 0 D.dead) == 0 then f (S9_0 list (wrap i64 (i0 + 1)) (Bucket.Have (buckTick (Bucket.mk i1 i2 i3))) (Bucket.Most (buckTick (Bucket.mk i1 i2 i3))) (Bucket.Per (buckTick (Bucket.mk i1 i2 i3))) i4) else bif canAdmit (Bucket.mk i1 i2 i3) (D.num (getD (getD (enS false list) (toNat i0) []) 0 D.dead)) then f (S9_0 list (wrap i64 (i0 + 1)) (Bucket.Have (admitB (Bucket.mk i1 i2 i3) (D.num (getD (getD (enS false list) (toNat i0) []) 0 D.dead)))) (Bucket.Most (admitB (Bucket.mk i1 i2 i3) (D.num (getD (getD (enS false list) (toNat i0) []) 0 D.dead)))) (Bucket.Per (admitB (Bucket.mk i1 i2 i3) (D.num (getD (getD (enS false list) (toNat i0) []) 0 D.dead)))) (wrap i64 (i4 + D.num (getD (getD (enS false list) (toNat i0) []) 0 D.dead)))) else f (S9_0 list (wrap i64 (i0 + 1)) i1 i2 i3 i4) else none else none else K (Ex.exit 0) (X9_2 list i0 i1 i2 i3 i4) := by kernel_rfl
theorem aX9_2 (list : List Int) (n : Nat) (i0 : Int) (i1 : Int) (i2 : Int) (i3 : Int) (i4 : Int) : k9_1 n (Ex.exit 0) (X9_2 list i0 i1 i2 i3 i4) = some ([[D.int i64 i1, D.int i64 i2, D.int i64 i3], [D.int i64 i4]], []) := by kernel_rfl
theorem r9 (b : Bucket) (list : List Int) (n : Nat) : evFn ⟨prog, Hx, 9⟩ T13.call n f9 [[.int .i64 b.Have, .int .i64 b.Most, .int .i64 b.Per], [.sl false 1 (enS false list)]] = bif decide (ofNat (length (enS false list)) > 200) then some ([[D.int i64 (Bucket.Have b), D.int i64 (Bucket.Most b), D.int i64 (Bucket.Per b)], [D.int i64 (0)]], []) else loopRun (B9_0 n) 2 229460 137438824256 n (S9_0 list (0) (Bucket.Have b) (Bucket.Most b) (Bucket.Per b) (0)) (k9_1 n) := by kernel_rfl
theorem m9 (b : Bucket) (list : List Int) (hpre : (o9 b list).1 = true) : evFn ⟨Go.Proofs.Try.prog, Hx, 9⟩ T13.call (list.length + 1) f9 [[.int .i64 b.Have, .int .i64 b.Most, .int .i64 b.Per], [.sl false 1 (enS false list)]] = some (o9 b list).2 := by
  refine (r9 b list _).trans ?_
  show _ = (some ([[.int .i64 ((admAll b list).1).Have, .int .i64 ((admAll b list).1).Most, .int .i64 ((admAll b list).1).Per], [.int .i64 ((admAll b list).2)]], []) : Option (List Row × List Row))
  replace hpre : (decide (list.length ≤ 1048576)) = true := hpre
  have hlen := of_decide_eq_true hpre
  show _ = outA (admAll b list)
  unfold admAll
  by_cases hl : list.length ≤ 200
  case neg =>
    rw [decide_eq_false hl, enS_length, decide_eq_true (show Int.ofNat list.length > 200 by show (list.length : Int) > 200; omega)]
    rfl
  rw [decide_eq_true hl, enS_length, decide_eq_false (show ¬ Int.ofNat list.length > 200 by show ¬ (list.length : Int) > 200; omega), cond_true, cond_false]
  refine loop_list (xs := list) (fun i (a : Bucket × Int) => S9_0 list (Int.ofNat i) a.1.Have a.1.Most a.1.Per a.2) (fun i a => 0 ≤ a.2 ∧ a.2 ≤ 1000 * (i : Int)) (fun i a rest => outA (admL rest a.1 a.2)) ?_ ?_ (list.length + 1) (b, 0) (by omega) ⟨by omega, by omega⟩
  · rintro ⟨b, s⟩ _ f
    refine (q9_0 list _ _ _ _ _ _ f _).trans ?_
    rw [end_lt, cond_false]
    exact aX9_2 list _ _ _ _ _ _
  · rintro i ⟨b, s⟩ hi ⟨h0, h1⟩ f hf
    refine (q9_0 list _ _ _ _ _ _ f _).trans ?_
    rw [admL_cons]
    simp only at h0 h1
    simp only [enS_length, toNat_of, dec_lt, dec_ge, decide_true, decide_false, cond_true, cond_false, Bool.and_self, Bool.and_true, Bool.true_and, Bool.not_true, Bool.not_false, Nat.lt_irrefl, Nat.zero_add, isS_enS, deS_enS, isS_nil, deS_nil, List.nil_append, lendRows_enS, deepRows_enS, noSl_u8, En.enc, List.getD_cons_zero, List.getD_cons_succ, D.num, D.flag, D.text, D.rows, Leaf.fit, List.append_eq, TReader.eta, Frame.eta, Heard.eta, Member.eta, Card.eta, Out1.eta, Vec.eta, Port.eta, Bridge.eta, In.eta, Out.eta, Link.eta, Net.eta, TEnd.eta, Minder.eta, Reg.eta, Wire.eta, Box.eta, Deed.eta, Bpdu.eta, Visit.eta, Fabric.eta, Got.eta, TRide.eta, Up.eta, Copy.eta, Bucket.eta, Snap.eta, TL9Cur.eta, TL21In.eta, enS_get _ hi, hi, wrap_succ (show i < 4611686018427387904 by omega), Bucket.eta]
    cases hx : list[i] == 0
    · cases hc : canAdmit b list[i]
      · exact hf (b, s) ⟨h0, by omega⟩
      · have hw := can_w hc h0 h1
        rw [cond_false, cond_true, cond_false, cond_true, wrap_sm (show -4611686018427387904 ≤ s + list[i] by omega) (by omega)]
        exact hf (admitB b list[i], s + list[i]) hw
    · exact hf (buckTick b, s) ⟨h0, by omega⟩
theorem s9 : SoundAt Go.Proofs.Try.prog Hx 9 c9 := soundAt_of T13_sound mixed func9 (by kernel_rfl) (by
  intro rows r h
  unfold c9 at h
  split at h
  · rename_i b_Have b_Most b_Per list
    obtain ⟨hp, hr⟩ := Prod.mk.inj (Option.some.inj h)
    subst hr
    simp only [Bool.and_eq_true] at hp
    obtain ⟨hs0, hp⟩ := hp
    obtain ⟨xs0, rfl⟩ := isS_ex hs0
    simp only [deS_enS] at hp ⊢
    exact ⟨_, m9 ⟨b_Have, b_Most, b_Per⟩ xs0 hp⟩
  · cases h)
def T9 : Table := (9, c9) :: T13
theorem T9_sound : Table.Sound Go.Proofs.Try.prog Hx T9 := Table.sound_cons s9 T13_sound
def o10 (b : Bucket) (list : List Int) : Bool × List Row × List Row := (decide (list.length ≤ 1048576), [[.int .i64 ((admAll b list).1).Have, .int .i64 ((admAll b list).1).Most, .int .i64 ((admAll b list).1).Per], [.int .i64 ((admAll b list).2)]], [])
def c10 : Contract
  | [[.int .i64 b_Have, .int .i64 b_Most, .int .i64 b_Per], [.sl false 1 list]] => some (isS Int false list && (o10 ⟨b_Have, b_Most, b_Per⟩ (deS Int list)).1, (o10 ⟨b_Have, b_Most, b_Per⟩ (deS Int list)).2.1, (o10 ⟨b_Have, b_Most, b_Per⟩ (deS Int list)).2.2)
  | _ => none

def k10_0 (n : Nat) : Ex → St → RR := kThen (fun st ↦ runCode (Ctx.mk prog Hx (10)) (Table.call T9) n (codeAt [1, 1, 1] (bodyOf f10)) (Lv.mk 48 [] 48) st (kLeave (Ctx.P (Ctx.mk prog Hx (10))) (List.zip (Array.toList (Go.Func.resultTypes f10)) (Array.toList (Go.Func.results f10))) [] [])) (kLeave (Ctx.P (Ctx.mk prog Hx (10))) (List.zip (Array.toList (Go.Func.resultTypes f10)) (Array.toList (Go.Func.results f10))) [] [])
def k10_1 (n : Nat) : Ex → St → RR := kBlock (0) (k10_0 n)
def S10_0 (list : List Int) (i0 : Int) (i1 : Int) (i2 : Int) (i3 : Int) (i4 : Int) : St := St.mk [U_, V_ [C.d (D.sl false 1 (enS false list))], V_ [C.ptr 0 0 0 [] 3 0 0], U_, V_ [C.ptr 1 0 0 [] 3 0 0], U_, I_ i4, I_ i0, U_, U_, U_, U_, U_, U_, U_, U_, U_, U_, U_, U_, U_, U_, U_, U_, U_, U_, U_, U_, U_, U_, U_, U_, U_, U_, U_, U_, U_, U_, U_, U_, U_, U_, U_, U_, U_, U_, U_] [Root.mk true 3 [[D.int i64 i1, D.int i64 i2, D.int i64 i3]] 0 0 true true false, Root.mk true 3 [[D.int i64 (0), D.int i64 (0), D.int i64 (0)]] 0 0 true true false]
def B10_0 (n : Nat) : St → (Ex → St → RR) → RR := runCode (Ctx.mk prog Hx (10)) (Table.call T9) n (codeAt [1, 1, 0, 1, 0, 0] (bodyOf f10)) (Lv.mk 214 [(0, 84)] 48)
def X10_2 (list : List Int) (i0 : Int) (i1 : Int) (i2 : Int) (i3 : Int) (i4 : Int) : St := St.mk [U_, V_ [C.d (D.sl false 1 (enS false list))], V_ [C.ptr 0 0 0 [] 3 0 0], U_, V_ [C.ptr 1 0 0 [] 3 0 0], U_, I_ i4, I_ i0, U_, U_, I_ i0, V_ [C.d (D.sl false 1 (enS false list))], I_ (ofNat (length (enS false list))), B_ (decide (i0 < ofNat (length (enS false list)))), B_ true, V_ [C.d (D.sl false 1 (enS false list))], I_ (ofNat (length (enS false list))), B_ (decide (ofNat (length (enS false list)) ≤ 200)), B_ false, U_, U_, U_, U_, U_, U_, U_, U_, U_, U_, U_, U_, U_, U_, U_, U_, U_, U_, U_, U_, U_, U_, U_, U_, U_, U_, U_, U_] [Root.mk true 3 [[D.int i64 i1, D.int i64 i2, D.int i64 i3]] 0 0 true true false, Root.mk true 3 [[D.int i64 (0), D.int i64 (0), D.int i64 (0)]] 0 0 true true false]
def X10_3 (list : List Int) (i0 : Int) (i1 : Int) (i2 : Int) (i3 : Int) (i4 : Int) : St := St.mk [U_, V_ [C.d (D.sl false 1 (enS false list))], V_ [C.ptr 0 0 0 [] 3 0 0], U_, V_ [C.ptr 1 0 0 [] 3 0 0], U_, I_ i4, I_ i0, U_, U_, I_ i0, V_ [C.d (D.sl false 1 (enS false list))], I_ (ofNat (length (enS false list))), B_ (decide (i0 < ofNat (length (enS false list)))), B_ false, V_ [C.gone], V_ [C.gone], V_ [C.gone], B_ false, U_, U_, U_, U_, U_, U_, U_, U_, U_, U_, U_, U_, U_, U_, U_, U_, U_, U_, U_, U_, U_, U_, U_, U_, U_, U_, U_, U_] [Root.mk true 3 [[D.int i64 i1, D.int i64 i2, D.int i64 i3]] 0 0 true true false, Root.mk true 3 [[D.int i64 (0), D.int i64 (0), D.int i64 (0)]] 0 0 true true false]
theorem q10_0 (list : List Int) (n : Nat) (i0 : Int) (i1 : Int) (i2 : Int) (i3 : Int) (i4 : Int) (f : St → RR) (K : Ex → St → RR) : B10_0 n (S10_0 list i0 i1 i2 i3 i4) (kThen (fun st ↦ f (St.head 2 214 35184372088768 st)) K) = bif decide (i0 < ofNat (length (enS false list))) then bif decide (ofNat (length (enS false list)) ≤ 200) then bif decide (0 ≤ i0) && decide (i0 < ofNat (length (enS false list))) then bif Leaf.fit false (Leaf.int i64) (getD (getD (enS false list) (toNat i0) []) 0 D.dead) && true then bif D.num (getD (getD (enS false list) (toNat i0) []) 0 D.dead) == 0 then f (S10_0 list (wrap i64 (i0 + 1)) (Bucket.Have (buckTick (Bucket.mk i1 i2 i3))) (Bucket.Most (buckTick (Bucket.mk i1 i2 i3))) (Bucket.Per (buckTick (Bucket.mk i1 i2 i3))) i4) else bif decide (0 ≤ i0) && decide (i0 < ofNat (length (enS false list))) then bif Leaf.fit false (Leaf.int i64) (getD (getD (enS false list) (toNat i0) []) 0 D.dead) && true then bif canAdmit (Bucket.mk i1 i2 i3) (D.num (getD (getD (enS false list) (toNat i0) []) 0 D.dead)) then bif decide (0 ≤ i0) && decide (i0 < ofNat (length (enS false list))) then bif Leaf.fit false (Leaf.int i64) (getD (getD (enS false list) (toNat i0) []) 0 D.dead) && true then f (S10_0 list (wrap i64 (i0 + 1)) (Bucket.Have (admitB (Bucket.mk i1 i2 i3) (D.num (getD (getD (enS false list) (toNat i0) []) 0 D.dead)))) (Bucket.Most (admitB (Bucket.mk i1 i2 i3) (D.num (getD (getD (enS false list) (toNat i0) []) 0 D.dead)))) (Bucket.Per (admitB (Bucket.mk i1 i2 i3) (D.num (getD (getD (enS false list) (toNat i0) []) 0 D.dead)))) (wrap i64 (i4 + D.num (getD (getD (enS false list) (toNat i0) []) 0 D.dead)))) else none else none else f (S10_0 list (wrap i64 (i0 + 1)) (Bucket.Have (admitB (Bucket.mk i1 i2 i3) (D.num (getD (getD (enS false list) (toNat i0) []) 0 D.dead)))) (Bucket.Most (admitB (Bucket.mk i1 i2 i3) (D.num (getD (getD (enS false list) (toNat i0) []) 0 D.dead)))) (Bucket.Per (admitB (Bucket.mk i1 i2 i3) (D.num (getD (getD (enS false list) (toNat i0) []) 0 D.dead)))) i4) else none else none else none else none else K (Ex.exit 0) (X10_2 list i0 i1 i2 i3 i4) else K (Ex.exit 0) (X10_3 list i0 i1 i2 i3 i4) := by kernel_rfl
theorem aX10_2 (list : List Int) (n : Nat) (i0 : Int) (i1 : Int) (i2 : Int) (i3 : Int) (i4 : Int) : k10_1 n (Ex.exit 0) (X10_2 list i0 i1 i2 i3 i4) = some ([[D.int i64 i1, D.int i64 i2, D.int i64 i3], [D.int i64 i4]], []) := by kernel_rfl
theorem aX10_3 (list : List Int) (n : Nat) (i0 : Int) (i1 : Int) (i2 : Int) (i3 : Int) (i4 : Int) : k10_1 n (Ex.exit 0) (X10_3 list i0 i1 i2 i3 i4) = some ([[D.int i64 i1, D.int i64 i2, D.int i64 i3], [D.int i64 i4]], []) := by kernel_rfl
theorem r10 (b : Bucket) (list : List Int) (n : Nat) : evFn ⟨prog, Hx, 10⟩ T9.call n f10 [[.int .i64 b.Have, .int .i64 b.Most, .int .i64 b.Per], [.sl false 1 (enS false list)]] = loopRun (B10_0 n) 2 214 35184372088768 n (S10_0 list (0) (Bucket.Have b) (Bucket.Most b) (Bucket.Per b) (0)) (k10_1 n) := by kernel_rfl
theorem m10 (b : Bucket) (list : List Int) (hpre : (o10 b list).1 = true) : evFn ⟨Go.Proofs.Try.prog, Hx, 10⟩ T9.call (list.length + 1) f10 [[.int .i64 b.Have, .int .i64 b.Most, .int .i64 b.Per], [.sl false 1 (enS false list)]] = some (o10 b list).2 := by
  refine (r10 b list _).trans ?_
  show _ = (some ([[.int .i64 ((admAll b list).1).Have, .int .i64 ((admAll b list).1).Most, .int .i64 ((admAll b list).1).Per], [.int .i64 ((admAll b list).2)]], []) : Option (List Row × List Row))
  replace hpre : (decide (list.length ≤ 1048576)) = true := hpre
  have hlen := of_decide_eq_true hpre
  show _ = outA (admAll b list)
  unfold admAll
  by_cases hl : list.length ≤ 200
  case neg =>
    rw [decide_eq_false hl, cond_false]
    refine loop_rule (V := Unit) (fun _ => S10_0 list 0 b.Have b.Most b.Per 0) (fun _ => True) (fun _ => 0) (fun _ => outA (b, 0)) ?_ (list.length + 1) () trivial (by omega)
    rintro _ _ f _
    refine (q10_0 list _ _ _ _ _ _ f _).trans ?_
    rw [enS_length, decide_eq_true (show (0 : Int) < Int.ofNat list.length by show (0 : Int) < (list.length : Int); omega), decide_eq_false (show ¬ Int.ofNat list.length ≤ 200 by show ¬ (list.length : Int) ≤ 200; omega), cond_true, cond_false]
    exact aX10_2 list _ _ _ _ _ _
  rw [decide_eq_true hl, cond_true]
  have e2 : decide (Int.ofNat list.length ≤ 200) = true := decide_eq_true (by show (list.length : Int) ≤ 200; omega)
  refine loop_list (xs := list) (fun i (a : Bucket × Int) => S10_0 list (Int.ofNat i) a.1.Have a.1.Most a.1.Per a.2) (fun i a => 0 ≤ a.2 ∧ a.2 ≤ 1000 * (i : Int)) (fun i a rest => outA (admL rest a.1 a.2)) ?_ ?_ (list.length + 1) (b, 0) (by omega) ⟨by omega, by omega⟩
  · rintro ⟨b, s⟩ _ f
    refine (q10_0 list _ _ _ _ _ _ f _).trans ?_
    rw [end_lt, cond_false]
    exact aX10_3 list _ _ _ _ _ _
  · rintro i ⟨b, s⟩ hi ⟨h0, h1⟩ f hf
    refine (q10_0 list _ _ _ _ _ _ f _).trans ?_
    rw [admL_cons]
    simp only at h0 h1
    simp only [enS_length, toNat_of, dec_lt, dec_ge, decide_true, decide_false, cond_true, cond_false, Bool.and_self, Bool.and_true, Bool.true_and, Bool.not_true, Bool.not_false, Nat.lt_irrefl, Nat.zero_add, isS_enS, deS_enS, isS_nil, deS_nil, List.nil_append, lendRows_enS, deepRows_enS, noSl_u8, En.enc, List.getD_cons_zero, List.getD_cons_succ, D.num, D.flag, D.text, D.rows, Leaf.fit, List.append_eq, TReader.eta, Frame.eta, Heard.eta, Member.eta, Card.eta, Out1.eta, Vec.eta, Port.eta, Bridge.eta, In.eta, Out.eta, Link.eta, Net.eta, TEnd.eta, Minder.eta, Reg.eta, Wire.eta, Box.eta, Deed.eta, Bpdu.eta, Visit.eta, Fabric.eta, Got.eta, TRide.eta, Up.eta, Copy.eta, Bucket.eta, Snap.eta, TL9Cur.eta, TL21In.eta, enS_get _ hi, hi, wrap_succ (show i < 4611686018427387904 by omega), Bucket.eta, e2]
    cases hx : list[i] == 0
    · cases hc : canAdmit b list[i]
      · have e3 : admitB b list[i] = b := by unfold admitB; rw [hc]; rfl
        simp only [cond_false, e3]
        exact hf (b, s) ⟨h0, by omega⟩
      · have hw := can_w hc h0 h1
        rw [cond_false, cond_true, cond_false, cond_true, wrap_sm (show -4611686018427387904 ≤ s + list[i] by omega) (by omega)]
        exact hf (admitB b list[i], s + list[i]) hw
    · exact hf (buckTick b, s) ⟨h0, by omega⟩
theorem s10 : SoundAt Go.Proofs.Try.prog Hx 10 c10 := soundAt_of T9_sound mixed func10 (by kernel_rfl) (by
  intro rows r h
  unfold c10 at h
  split at h
  · rename_i b_Have b_Most b_Per list
    obtain ⟨hp, hr⟩ := Prod.mk.inj (Option.some.inj h)
    subst hr
    simp only [Bool.and_eq_true] at hp
    obtain ⟨hs0, hp⟩ := hp
    obtain ⟨xs0, rfl⟩ := isS_ex hs0
    simp only [deS_enS] at hp ⊢
    exact ⟨_, m10 ⟨b_Have, b_Most, b_Per⟩ xs0 hp⟩
  · cases h)
def T10 : Table := (10, c10) :: T9
theorem T10_sound : Table.Sound Go.Proofs.Try.prog Hx T10 := Table.sound_cons s10 T9_sound
end Go.Ev
end
