/- Contracts of functions, each by its evaluation. -/
import Derived.Test.YtikmcmocecalaaaEvMd
import Derived.Test.YtikmcmocecalaaaProg
import Derived.KernelRfl
import Derived.Test.YtikmcmocecalaaaFBase
set_option linter.unusedVariables false
set_option linter.unusedSimpArgs false
set_option maxRecDepth 100000
noncomputable section
open List (getD length drop take set append replicate all isEmpty)
open Int (toNat ofNat)
open Go.IntKind (i64 wrap)
open Go.Proofs.Try (prog)
namespace Go.Ev
open Go.RowKit Go.Md
end Go.Ev
namespace Go.Md
open Go Go.Ev
def Copy.wt (x : Copy) : Int := (x.Table.length : Int)
def Copy.small (x : Copy) : Bool := decide (x.Table.length ≤ 1048576)
def Copy.big (x : Copy) : Bool := decide (x.Table.length ≤ 9223372036854775807)
theorem Copy.wt_pos (x : Copy) : 0 ≤ Copy.wt x := by
  unfold Copy.wt
  omega
theorem Copy.small_of (x : Copy) (h : Copy.wt x ≤ 1048576) : Copy.small x = true := by
  unfold Copy.wt at h
  unfold Copy.small
  exact decide_eq_true (by omega)
def Heard.mk_ (x : Heard) (k : Int) : Heard := ⟨k, k + 1, k + 1 + 1, k + 1 + 1 + 1⟩
def Heard.n_ (x : Heard) : Int := 1 + 1 + 1 + 1
theorem Heard.n_pos (x : Heard) : 0 ≤ Heard.n_ x := by show (0 : Int) ≤ 1 + 1 + 1 + 1; decide
def Copy.mkTop (x : Copy) (k : Int) : Copy := ⟨x.Next, markS Heard.mk_ Heard.n_ x.Table (k)⟩
def Copy.nTop (x : Copy) : Int := cntS Heard.n_ x.Table
theorem Copy.nTop_pos (x : Copy) : 0 ≤ Copy.nTop x := by
  have h0 := cntS_nonneg (n := Heard.n_) Heard.n_pos x.Table
  unfold Copy.nTop
  omega
end Go.Md
namespace Go.Ev
open Go.Md
/- szHeardS -/
def o50 (a : List Heard) (left : Int) : Bool × List Row × List Row := (decide (0 ≤ left) && (decide (left ≤ 1048576) && decide (a.length ≤ 9223372036854775807)), [[.int .i64 (szR (a.length : Int) left)]], [])
def c50 : Contract
  | [[.sl false 4 a], [.int .i64 left]] => some (isS Heard false a && (o50 (deS Heard a) left).1, (o50 (deS Heard a) left).2.1, (o50 (deS Heard a) left).2.2)
  | _ => none

theorem r50 (a : List Heard) (left : Int) (n : Nat) : evFn ⟨prog, Hx, 50⟩ T81.call n Go.Proofs.Try.f50 [[.sl false 4 (enS false a)], [.int .i64 left]] = bif decide (wrap i64 (left - ofNat (length (enS false a))) < 0) then some ([[D.int i64 (Int.negSucc 0)]], []) else some ([[D.int i64 (wrap i64 (left - ofNat (length (enS false a))))]], []) := by kernel_rfl
theorem m50 (a : List Heard) (left : Int) (hpre : (o50 a left).1 = true) : evFn ⟨Go.Proofs.Try.prog, Hx, 50⟩ T81.call 0 Go.Proofs.Try.f50 [[.sl false 4 (enS false a)], [.int .i64 left]] = some (o50 a left).2 := by
  refine (r50 a left _).trans ?_
  show _ = (some ([[.int .i64 (szR (a.length : Int) left)]], []) : Option (List Row × List Row))
  replace hpre : (decide (0 ≤ left) && (decide (left ≤ 1048576) && decide (a.length ≤ 9223372036854775807))) = true := hpre
  simp only [Bool.and_eq_true, decide_eq_true_eq] at hpre
  obtain ⟨h0, h1, h2⟩ := hpre
  simp only [enS_length]
  have hw : IntKind.wrap IntKind.i64 (left - Int.ofNat a.length) = left - (a.length : Int) := wrap_of (by show _ ≤ left - (a.length : Int); omega) (by show left - (a.length : Int) ≤ _; omega)
  rw [hw]
  unfold szR
  by_cases h : (a.length : Int) ≤ left
  · rw [decide_eq_false (by omega), decide_eq_true h]; rfl
  · rw [decide_eq_true (by omega), decide_eq_false h]; rfl
theorem s50 : SoundAt Go.Proofs.Try.prog Hx 50 c50 := soundAt_of T81_sound mixed Go.Proofs.Try.func50 (by kernel_rfl) (by
  intro rows r h
  unfold c50 at h
  split at h
  · rename_i a left
    obtain ⟨hp, hr⟩ := Prod.mk.inj (Option.some.inj h)
    subst hr
    simp only [Bool.and_eq_true] at hp
    obtain ⟨hs0, hp⟩ := hp
    obtain ⟨xs0, rfl⟩ := isS_ex hs0
    simp only [deS_enS] at hp ⊢
    exact ⟨_, m50 xs0 left hp⟩
  · cases h)
def T50 : Table := (50, c50) :: T81
theorem T50_sound : Table.Sound Go.Proofs.Try.prog Hx T50 := Table.sound_cons s50 T81_sound
/- szCopy -/
def o18 (a : Copy) (left : Int) : Bool × List Row × List Row := (decide (0 ≤ left) && (decide (left ≤ 1048576) && Copy.big a), [[.int .i64 (szR (Copy.wt a) left)]], [])
def c18 : Contract
  | [[.int .i64 a_Next, .sl false 4 a_Table], [.int .i64 left]] => some (isS Heard false a_Table && (o18 ⟨a_Next, (deS Heard a_Table)⟩ left).1, (o18 ⟨a_Next, (deS Heard a_Table)⟩ left).2.1, (o18 ⟨a_Next, (deS Heard a_Table)⟩ left).2.2)
  | _ => none

theorem r18 (a : Copy) (left : Int) (n : Nat) : evFn ⟨prog, Hx, 18⟩ T50.call n Go.Proofs.Try.f18 [[.int .i64 a.Next, .sl false 4 (enS false a.Table)], [.int .i64 left]] = bif isS Heard false (enS false (Copy.Table a)) && (decide (0 ≤ left) && (decide (left ≤ 1048576) && decide (length (deS Heard (enS false (Copy.Table a))) ≤ 9223372036854775807))) then bif decide (szR (ofNat (length (deS Heard (enS false (Copy.Table a))))) left < 0) then some ([[D.int i64 (Int.negSucc 0)]], []) else some ([[D.int i64 (szR (ofNat (length (deS Heard (enS false (Copy.Table a))))) left)]], []) else none := by kernel_rfl
theorem m18 (a : Copy) (left : Int) (hpre : (o18 a left).1 = true) : evFn ⟨Go.Proofs.Try.prog, Hx, 18⟩ T50.call 0 Go.Proofs.Try.f18 [[.int .i64 a.Next, .sl false 4 (enS false a.Table)], [.int .i64 left]] = some (o18 a left).2 := by
  refine (r18 a left _).trans ?_
  show _ = (some ([[.int .i64 (szR (Copy.wt a) left)]], []) : Option (List Row × List Row))
  replace hpre : (decide (0 ≤ left) && (decide (left ≤ 1048576) && Copy.big a)) = true := hpre
  simp only [Bool.and_eq_true, decide_eq_true_eq] at hpre
  obtain ⟨h0, h1, h2⟩ := hpre
  unfold Copy.big at h2
  try simp only [Bool.and_eq_true] at h2
  unfold Copy.wt
  have p0 : 0 ≤ (a.Table.length : Int) := by omega
  have g0 : decide (0 ≤ left) = true := decide_eq_true (by omega)
  have f0 : decide (left ≤ 1048576) = true := decide_eq_true (by omega)
  rcases szR_cases ((a.Table.length : Int)) (left) (by omega) with ⟨a0, b0, c0⟩ | ⟨a0, b0, c0⟩
  case inr =>
    rw [b0] at c0
    simp only [g0, f0, b0, c0, h2, Int.ofNat_eq_natCast, isS_enS, deS_enS, cond_true, cond_false, Bool.and_self, Bool.and_true, Bool.true_and]
    try rw [szR_gt (by omega)]
    try rfl
  rw [b0] at c0
  simp only [g0, f0, b0, c0, h2, Int.ofNat_eq_natCast, isS_enS, deS_enS, cond_true, cond_false, Bool.and_self, Bool.and_true, Bool.true_and]
  try rw [szR_le (by omega)]
  try rfl
theorem s18 : SoundAt Go.Proofs.Try.prog Hx 18 c18 := soundAt_of T50_sound mixed Go.Proofs.Try.func18 (by kernel_rfl) (by
  intro rows r h
  unfold c18 at h
  split at h
  · rename_i a_Next a_Table left
    obtain ⟨hp, hr⟩ := Prod.mk.inj (Option.some.inj h)
    subst hr
    simp only [Bool.and_eq_true] at hp
    obtain ⟨hs0, hp⟩ := hp
    obtain ⟨xs0, rfl⟩ := isS_ex hs0
    simp only [deS_enS] at hp ⊢
    exact ⟨_, m18 ⟨a_Next, xs0⟩ left hp⟩
  · cases h)
def T18 : Table := (18, c18) :: T50
theorem T18_sound : Table.Sound Go.Proofs.Try.prog Hx T18 := Table.sound_cons s18 T50_sound
/- toHeard -/
def o88 (a : Heard) : Bool × List Row × List Row := (true, [[.int .i64 (a).Addr, .int .i64 (a).Vlan, .int .i64 (a).Port, .int .i64 (a).Left]], [])
def c88 : Contract
  | [[.int .i64 a_Addr, .int .i64 a_Vlan, .int .i64 a_Port, .int .i64 a_Left]] => some ((o88 ⟨a_Addr, a_Vlan, a_Port, a_Left⟩).1, (o88 ⟨a_Addr, a_Vlan, a_Port, a_Left⟩).2.1, (o88 ⟨a_Addr, a_Vlan, a_Port, a_Left⟩).2.2)
  | _ => none

theorem r88 (a : Heard) (n : Nat) : evFn ⟨prog, Hx, 88⟩ T18.call n Go.Proofs.Try.f88 [[.int .i64 a.Addr, .int .i64 a.Vlan, .int .i64 a.Port, .int .i64 a.Left]] = some ([[D.int i64 (Heard.Addr a), D.int i64 (Heard.Vlan a), D.int i64 (Heard.Port a), D.int i64 (Heard.Left a)]], []) := by kernel_rfl
theorem m88 (a : Heard) (hpre : (o88 a).1 = true) : evFn ⟨Go.Proofs.Try.prog, Hx, 88⟩ T18.call 0 Go.Proofs.Try.f88 [[.int .i64 a.Addr, .int .i64 a.Vlan, .int .i64 a.Port, .int .i64 a.Left]] = some (o88 a).2 := by
  refine (r88 a _).trans ?_
  show _ = (some ([[.int .i64 (a).Addr, .int .i64 (a).Vlan, .int .i64 (a).Port, .int .i64 (a).Left]], []) : Option (List Row × List Row))
  replace hpre : (true) = true := hpre
  rfl
theorem s88 : SoundAt Go.Proofs.Try.prog Hx 88 c88 := soundAt_of T18_sound mixed Go.Proofs.Try.func88 (by kernel_rfl) (by
  intro rows r h
  unfold c88 at h
  split at h
  · rename_i a_Addr a_Vlan a_Port a_Left
    obtain ⟨hp, hr⟩ := Prod.mk.inj (Option.some.inj h)
    subst hr
    exact ⟨_, m88 ⟨a_Addr, a_Vlan, a_Port, a_Left⟩ hp⟩
  · cases h)
def T88 : Table := (88, c88) :: T18
theorem T88_sound : Table.Sound Go.Proofs.Try.prog Hx T88 := Table.sound_cons s88 T18_sound
/- toHeardS -/
def o55 (a : List Heard) : Bool × List Row × List Row := (decide (a.length ≤ 1048576), [[.sl true 4 (enS true (a))]], [])
def c55 : Contract
  | [[.sl false 4 a]] => some (isS Heard false a && (o55 (deS Heard a)).1, (o55 (deS Heard a)).2.1, (o55 (deS Heard a)).2.2)
  | _ => none

def k55_0 (n : Nat) : Ex → St → RR := kThen (fun st ↦ runCode (Ctx.mk prog Hx (55)) (Table.call T88) n (codeAt [1, 1, 1] (bodyOf Go.Proofs.Try.f55)) (Lv.mk 4 [] 4) st (kLeave (Ctx.P (Ctx.mk prog Hx (55))) (List.zip (Array.toList (Go.Func.resultTypes Go.Proofs.Try.f55)) (Array.toList (Go.Func.results Go.Proofs.Try.f55))) [] [])) (kLeave (Ctx.P (Ctx.mk prog Hx (55))) (List.zip (Array.toList (Go.Func.resultTypes Go.Proofs.Try.f55)) (Array.toList (Go.Func.results Go.Proofs.Try.f55))) [] [])
def k55_1 (n : Nat) : Ex → St → RR := kBlock (0) (k55_0 n)
def S55_0 (a : List Heard) (i0 : Int) (es1 : List (List D)) : St := St.mk [TV.v false [C.d (D.sl false 4 (enS false a))], U_, U_, TV.v false [C.view 0 0 0 [] 4 none], I_ i0, U_, U_, U_, U_, U_, U_, U_, U_, U_, U_, U_, U_, U_, U_, U_, U_, U_, U_] [Root.mk false 4 es1 0 0 true true false]
def B55_0 (n : Nat) : St → (Ex → St → RR) → RR := runCode (Ctx.mk prog Hx (55)) (Table.call T88) n (codeAt [1, 1, 0, 1, 0, 0] (bodyOf Go.Proofs.Try.f55)) (Lv.mk 25 [(0, 8)] 4)
def X55_2 (a : List Heard) (i0 : Int) (es1 : List (List D)) : St := St.mk [TV.v false [C.d (D.sl false 4 (enS false a))], U_, U_, TV.v false [C.view 0 0 0 [] 4 none], I_ i0, U_, U_, U_, I_ i0, TV.v false [C.d (D.sl false 4 (enS false a))], I_ (ofNat (length (enS false a))), B_ false, U_, U_, U_, U_, U_, U_, U_, U_, U_, U_, U_] [Root.mk false 4 es1 0 0 true true false]
theorem q55_0 (a : List Heard) (n : Nat) (i0 : Int) (es1 : List (List D)) (f : St → RR) (K : Ex → St → RR) : B55_0 n (S55_0 a i0 es1) (kThen (fun st ↦ f (St.head 1 25 4194064 st)) K) = bif decide (i0 < ofNat (length (enS false a))) then bif decide (0 ≤ i0) && decide (i0 < ofNat (length (enS false a))) then bif Leaf.fit false (Leaf.int i64) (getD (getD (enS false a) (toNat i0) []) 0 D.dead) && (Leaf.fit false (Leaf.int i64) (getD (getD (enS false a) (toNat i0) []) 1 D.dead) && (Leaf.fit false (Leaf.int i64) (getD (getD (enS false a) (toNat i0) []) 2 D.dead) && (Leaf.fit false (Leaf.int i64) (getD (getD (enS false a) (toNat i0) []) 3 D.dead) && true))) then bif decide (0 ≤ i0) && decide (i0 < ofNat (length es1)) then f (S55_0 a (wrap i64 (i0 + 1)) (set es1 (0 + toNat i0) [D.int i64 (D.num (getD (getD (enS false a) (toNat i0) []) 0 D.dead)), D.int i64 (D.num (getD (getD (enS false a) (toNat i0) []) 1 D.dead)), D.int i64 (D.num (getD (getD (enS false a) (toNat i0) []) 2 D.dead)), D.int i64 (D.num (getD (getD (enS false a) (toNat i0) []) 3 D.dead))])) else none else none else none else K (Ex.exit 0) (X55_2 a i0 es1) := by kernel_rfl
theorem aX55_2 (a : List Heard) (n : Nat) (i0 : Int) (es1 : List (List D)) : k55_1 n (Ex.exit 0) (X55_2 a i0 es1) = some ([[D.sl true 4 es1]], []) := by kernel_rfl
theorem r55 (a : List Heard) (n : Nat) : evFn ⟨prog, Hx, 55⟩ T88.call n Go.Proofs.Try.f55 [[.sl false 4 (enS false a)]] = bif decide (0 ≤ ofNat (length (enS false a))) && (decide (ofNat (length (enS false a)) ≤ ofNat (length (enS false a))) && decide (toNat (ofNat (length (enS false a))) * 32 ≤ 140737488355328)) then loopRun (B55_0 n) 1 25 4194064 n (S55_0 a (0) (replicate (toNat (ofNat (length (enS false a)))) [D.int i64 (0), D.int i64 (0), D.int i64 (0), D.int i64 (0)])) (k55_1 n) else none := by kernel_rfl
theorem m55 (a : List Heard) (hpre : (o55 a).1 = true) : evFn ⟨Go.Proofs.Try.prog, Hx, 55⟩ T88.call (a.length + 1) Go.Proofs.Try.f55 [[.sl false 4 (enS false a)]] = some (o55 a).2 := by
  refine (r55 a _).trans ?_
  show _ = (some ([[.sl true 4 (enS true (a))]], []) : Option (List Row × List Row))
  replace hpre : (decide (a.length ≤ 1048576)) = true := hpre
  have hlen : a.length ≤ 1048576 := of_decide_eq_true hpre
  rw [enS_length, make_ok (by omega), cond_true, toNat_of]
  refine (congrArg (fun z => loopRun _ _ _ _ _ (S55_0 a 0 z) _) (enS_rep true a.length (En.nil : Heard))).trans ?_
  refine loop_list (xs := a) (fun i (ys : List Heard) => S55_0 a (Int.ofNat i) (enS true ys)) (fun i ys => ys.length = a.length ∧ ys.take i = a.take i) (fun _ _ _ => some ([[D.sl true 4 (enS true a)]], [])) ?_ ?_ (a.length + 1) _ (by omega) ⟨List.length_replicate .., rfl⟩
  · rintro ys ⟨h2, h3⟩ f
    refine (q55_0 a _ _ _ f _).trans ?_
    simp only [enS_length, dec_lt, Nat.lt_irrefl, decide_false, cond_false]
    refine (aX55_2 a _ _ _).trans ?_
    rw [List.take_length, ← h2, List.take_length] at h3
    subst h3
    rfl
  · rintro i ys hi ⟨h2, h3⟩ f hf
    refine (q55_0 a _ _ _ f _).trans ?_
    simp only [enS_length, toNat_of, dec_lt, dec_ge, enS_get _ hi, h2, hi, wrap_succ (show i < 4611686018427387904 by omega), Nat.zero_add, decide_true, cond_true, Bool.and_self]
    exact (congrArg f (congrArg (S55_0 a _) (enS_set true ys i a[i]))).trans (hf (ys.set i a[i]) ⟨by rw [List.length_set]; exact h2, take_set_succ hi h2 h3⟩)
theorem s55 : SoundAt Go.Proofs.Try.prog Hx 55 c55 := soundAt_of T88_sound mixed Go.Proofs.Try.func55 (by kernel_rfl) (by
  intro rows r h
  unfold c55 at h
  split at h
  · rename_i a
    obtain ⟨hp, hr⟩ := Prod.mk.inj (Option.some.inj h)
    subst hr
    simp only [Bool.and_eq_true] at hp
    obtain ⟨hs0, hp⟩ := hp
    obtain ⟨xs0, rfl⟩ := isS_ex hs0
    simp only [deS_enS] at hp ⊢
    exact ⟨_, m55 xs0 hp⟩
  · cases h)
def T55 : Table := (55, c55) :: T88
theorem T55_sound : Table.Sound Go.Proofs.Try.prog Hx T55 := Table.sound_cons s55 T88_sound
/- toCopy -/
def o20 (a : Copy) : Bool × List Row × List Row := (Copy.small a, [[.int .i64 (a).Next, .sl true 4 (enS true (a).Table)]], [])
def c20 : Contract
  | [[.int .i64 a_Next, .sl false 4 a_Table]] => some (isS Heard false a_Table && (o20 ⟨a_Next, (deS Heard a_Table)⟩).1, (o20 ⟨a_Next, (deS Heard a_Table)⟩).2.1, (o20 ⟨a_Next, (deS Heard a_Table)⟩).2.2)
  | _ => none

theorem r20 (a : Copy) (n : Nat) : evFn ⟨prog, Hx, 20⟩ T55.call n Go.Proofs.Try.f20 [[.int .i64 a.Next, .sl false 4 (enS false a.Table)]] = bif isS Heard false (enS false (Copy.Table a)) && decide (length (deS Heard (enS false (Copy.Table a))) ≤ 1048576) then some ([[D.int i64 (Copy.Next a), D.sl true 4 (enS true (deS Heard (enS false (Copy.Table a))))]], []) else none := by kernel_rfl
theorem m20 (a : Copy) (hpre : (o20 a).1 = true) : evFn ⟨Go.Proofs.Try.prog, Hx, 20⟩ T55.call 0 Go.Proofs.Try.f20 [[.int .i64 a.Next, .sl false 4 (enS false a.Table)]] = some (o20 a).2 := by
  refine (r20 a _).trans ?_
  show _ = (some ([[.int .i64 (a).Next, .sl true 4 (enS true (a).Table)]], []) : Option (List Row × List Row))
  replace hpre : (Copy.small a) = true := hpre
  unfold Copy.small at hpre
  try simp only [Bool.and_eq_true] at hpre
  simp only [hpre, isS_enS, deS_enS, cond_true, Bool.and_self, Bool.and_true, Bool.true_and]
  try rfl
theorem s20 : SoundAt Go.Proofs.Try.prog Hx 20 c20 := soundAt_of T55_sound mixed Go.Proofs.Try.func20 (by kernel_rfl) (by
  intro rows r h
  unfold c20 at h
  split at h
  · rename_i a_Next a_Table
    obtain ⟨hp, hr⟩ := Prod.mk.inj (Option.some.inj h)
    subst hr
    simp only [Bool.and_eq_true] at hp
    obtain ⟨hs0, hp⟩ := hp
    obtain ⟨xs0, rfl⟩ := isS_ex hs0
    simp only [deS_enS] at hp ⊢
    exact ⟨_, m20 ⟨a_Next, xs0⟩ hp⟩
  · cases h)
def T20 : Table := (20, c20) :: T55
theorem T20_sound : Table.Sound Go.Proofs.Try.prog Hx T20 := Table.sound_cons s20 T55_sound
/- toUp -/
def o21 (a : Up) : Bool × List Row × List Row := (true, [[.int .i64 (a).Seq, .int .i64 (a).Addr, .int .i64 (a).Vlan, .int .i64 (a).Port]], [])
def c21 : Contract
  | [[.int .i64 a_Seq, .int .i64 a_Addr, .int .i64 a_Vlan, .int .i64 a_Port]] => some ((o21 ⟨a_Seq, a_Addr, a_Vlan, a_Port⟩).1, (o21 ⟨a_Seq, a_Addr, a_Vlan, a_Port⟩).2.1, (o21 ⟨a_Seq, a_Addr, a_Vlan, a_Port⟩).2.2)
  | _ => none

theorem r21 (a : Up) (n : Nat) : evFn ⟨prog, Hx, 21⟩ T20.call n Go.Proofs.Try.f21 [[.int .i64 a.Seq, .int .i64 a.Addr, .int .i64 a.Vlan, .int .i64 a.Port]] = some ([[D.int i64 (Up.Seq a), D.int i64 (Up.Addr a), D.int i64 (Up.Vlan a), D.int i64 (Up.Port a)]], []) := by kernel_rfl
theorem m21 (a : Up) (hpre : (o21 a).1 = true) : evFn ⟨Go.Proofs.Try.prog, Hx, 21⟩ T20.call 0 Go.Proofs.Try.f21 [[.int .i64 a.Seq, .int .i64 a.Addr, .int .i64 a.Vlan, .int .i64 a.Port]] = some (o21 a).2 := by
  refine (r21 a _).trans ?_
  show _ = (some ([[.int .i64 (a).Seq, .int .i64 (a).Addr, .int .i64 (a).Vlan, .int .i64 (a).Port]], []) : Option (List Row × List Row))
  replace hpre : (true) = true := hpre
  rfl
theorem s21 : SoundAt Go.Proofs.Try.prog Hx 21 c21 := soundAt_of T20_sound mixed Go.Proofs.Try.func21 (by kernel_rfl) (by
  intro rows r h
  unfold c21 at h
  split at h
  · rename_i a_Seq a_Addr a_Vlan a_Port
    obtain ⟨hp, hr⟩ := Prod.mk.inj (Option.some.inj h)
    subst hr
    exact ⟨_, m21 ⟨a_Seq, a_Addr, a_Vlan, a_Port⟩ hp⟩
  · cases h)
def T21 : Table := (21, c21) :: T20
theorem T21_sound : Table.Sound Go.Proofs.Try.prog Hx T21 := Table.sound_cons s21 T20_sound
/- eqHeard -/
def o97 (a : Heard) (b : Heard) : Bool × List Row × List Row := (sameB a b, [[.bool (true)]], [])
def c97 : Contract
  | [[.int .i64 a_Addr, .int .i64 a_Vlan, .int .i64 a_Port, .int .i64 a_Left], [.int .i64 b_Addr, .int .i64 b_Vlan, .int .i64 b_Port, .int .i64 b_Left]] => some ((o97 ⟨a_Addr, a_Vlan, a_Port, a_Left⟩ ⟨b_Addr, b_Vlan, b_Port, b_Left⟩).1, (o97 ⟨a_Addr, a_Vlan, a_Port, a_Left⟩ ⟨b_Addr, b_Vlan, b_Port, b_Left⟩).2.1, (o97 ⟨a_Addr, a_Vlan, a_Port, a_Left⟩ ⟨b_Addr, b_Vlan, b_Port, b_Left⟩).2.2)
  | _ => none

theorem r97 (a : Heard) (b : Heard) (n : Nat) : evFn ⟨prog, Hx, 97⟩ T21.call n Go.Proofs.Try.f97 [[.int .i64 a.Addr, .int .i64 a.Vlan, .int .i64 a.Port, .int .i64 a.Left], [.int .i64 b.Addr, .int .i64 b.Vlan, .int .i64 b.Port, .int .i64 b.Left]] = bif Heard.Addr a != Heard.Addr b then some ([[D.bool false]], []) else bif Heard.Vlan a != Heard.Vlan b then some ([[D.bool false]], []) else bif Heard.Port a != Heard.Port b then some ([[D.bool false]], []) else bif Heard.Left a != Heard.Left b then some ([[D.bool false]], []) else some ([[D.bool true]], []) := by kernel_rfl
theorem m97 (a : Heard) (b : Heard) (hpre : (o97 a b).1 = true) : evFn ⟨Go.Proofs.Try.prog, Hx, 97⟩ T21.call 0 Go.Proofs.Try.f97 [[.int .i64 a.Addr, .int .i64 a.Vlan, .int .i64 a.Port, .int .i64 a.Left], [.int .i64 b.Addr, .int .i64 b.Vlan, .int .i64 b.Port, .int .i64 b.Left]] = some (o97 a b).2 := by
  refine (r97 a b _).trans ?_
  show _ = (some ([[.bool (true)]], []) : Option (List Row × List Row))
  replace hpre : (sameB a b) = true := hpre
  have := sameB_eq hpre
  subst this
  simp only [bne_self_eq_false, cond_false, sameB_self, cond_true, Bool.not_true]
theorem s97 : SoundAt Go.Proofs.Try.prog Hx 97 c97 := soundAt_of T21_sound mixed Go.Proofs.Try.func97 (by kernel_rfl) (by
  intro rows r h
  unfold c97 at h
  split at h
  · rename_i a_Addr a_Vlan a_Port a_Left b_Addr b_Vlan b_Port b_Left
    obtain ⟨hp, hr⟩ := Prod.mk.inj (Option.some.inj h)
    subst hr
    exact ⟨_, m97 ⟨a_Addr, a_Vlan, a_Port, a_Left⟩ ⟨b_Addr, b_Vlan, b_Port, b_Left⟩ hp⟩
  · cases h)
def T97 : Table := (97, c97) :: T21
theorem T97_sound : Table.Sound Go.Proofs.Try.prog Hx T97 := Table.sound_cons s97 T21_sound
/- eqHeardS -/
def o60 (a : List Heard) (b : List Heard) : Bool × List Row × List Row := (sameB a b && (decide (a.length ≤ 1048576)), [[.bool (true)]], [])
def c60 : Contract
  | [[.sl false 4 a], [.sl false 4 b]] => some (isS Heard false a && isS Heard false b && (o60 (deS Heard a) (deS Heard b)).1, (o60 (deS Heard a) (deS Heard b)).2.1, (o60 (deS Heard a) (deS Heard b)).2.2)
  | _ => none

def k60_0 (n : Nat) : Ex → St → RR := kThen (fun st ↦ runCode (Ctx.mk prog Hx (60)) (Table.call T97) n (codeAt [1, 1, 1] (bodyOf Go.Proofs.Try.f60)) (Lv.mk 16 [] 16) st (kLeave (Ctx.P (Ctx.mk prog Hx (60))) (List.zip (Array.toList (Go.Func.resultTypes Go.Proofs.Try.f60)) (Array.toList (Go.Func.results Go.Proofs.Try.f60))) [] [])) (kLeave (Ctx.P (Ctx.mk prog Hx (60))) (List.zip (Array.toList (Go.Func.resultTypes Go.Proofs.Try.f60)) (Array.toList (Go.Func.results Go.Proofs.Try.f60))) [] [])
def k60_1 (n : Nat) : Ex → St → RR := kBlock (0) (k60_0 n)
def S60_0 (a : List Heard) (b : List Heard) (i0 : Int) : St := St.mk [TV.v false [C.d (D.sl false 4 (enS false a))], TV.v false [C.d (D.sl false 4 (enS false b))], U_, U_, U_, I_ i0, U_, U_, U_, U_, U_, U_, U_, U_, U_, U_, U_, U_, U_, U_, U_, U_, U_, U_, U_, U_, U_] []
def B60_0 (n : Nat) : St → (Ex → St → RR) → RR := runCode (Ctx.mk prog Hx (60)) (Table.call T97) n (codeAt [1, 1, 0, 1, 0, 0] (bodyOf Go.Proofs.Try.f60)) (Lv.mk 35 [(0, 0)] 16)
def X60_2 (a : List Heard) (b : List Heard) (i0 : Int) : St := St.mk [TV.v false [C.d (D.sl false 4 (enS false a))], TV.v false [C.d (D.sl false 4 (enS false b))], U_, U_, U_, I_ i0, U_, U_, U_, U_, U_, I_ i0, TV.v false [C.d (D.sl false 4 (enS false a))], I_ (ofNat (length (enS false a))), B_ false, U_, U_, U_, U_, U_, U_, U_, U_, U_, U_, U_, U_] []
theorem q60_0 (a : List Heard) (b : List Heard) (n : Nat) (i0 : Int) (f : St → RR) (K : Ex → St → RR) : B60_0 n (S60_0 a b i0) (kThen (fun st ↦ f (St.head 0 35 134215728 st)) K) = bif decide (i0 < ofNat (length (enS false a))) then bif decide (0 ≤ i0) && decide (i0 < ofNat (length (enS false a))) then bif Leaf.fit false (Leaf.int i64) (getD (getD (enS false a) (toNat i0) []) 0 D.dead) && (Leaf.fit false (Leaf.int i64) (getD (getD (enS false a) (toNat i0) []) 1 D.dead) && (Leaf.fit false (Leaf.int i64) (getD (getD (enS false a) (toNat i0) []) 2 D.dead) && (Leaf.fit false (Leaf.int i64) (getD (getD (enS false a) (toNat i0) []) 3 D.dead) && true))) then bif decide (0 ≤ i0) && decide (i0 < ofNat (length (enS false b))) then bif Leaf.fit false (Leaf.int i64) (getD (getD (enS false b) (toNat i0) []) 0 D.dead) && (Leaf.fit false (Leaf.int i64) (getD (getD (enS false b) (toNat i0) []) 1 D.dead) && (Leaf.fit false (Leaf.int i64) (getD (getD (enS false b) (toNat i0) []) 2 D.dead) && (Leaf.fit false (Leaf.int i64) (getD (getD (enS false b) (toNat i0) []) 3 D.dead) && true))) then bif sameB (Heard.mk (D.num (getD (getD (enS false a) (toNat i0) []) 0 D.dead)) (D.num (getD (getD (enS false a) (toNat i0) []) 1 D.dead)) (D.num (getD (getD (enS false a) (toNat i0) []) 2 D.dead)) (D.num (getD (getD (enS false a) (toNat i0) []) 3 D.dead))) (Heard.mk (D.num (getD (getD (enS false b) (toNat i0) []) 0 D.dead)) (D.num (getD (getD (enS false b) (toNat i0) []) 1 D.dead)) (D.num (getD (getD (enS false b) (toNat i0) []) 2 D.dead)) (D.num (getD (getD (enS false b) (toNat i0) []) 3 D.dead))) then f (S60_0 a b (wrap i64 (i0 + 1))) else none else none else none else none else none else K (Ex.exit 0) (X60_2 a b i0) := by kernel_rfl
theorem aX60_2 (a : List Heard) (b : List Heard) (n : Nat) (i0 : Int) : k60_1 n (Ex.exit 0) (X60_2 a b i0) = some ([[D.bool true]], []) := by kernel_rfl
theorem r60 (a : List Heard) (b : List Heard) (n : Nat) : evFn ⟨prog, Hx, 60⟩ T97.call n Go.Proofs.Try.f60 [[.sl false 4 (enS false a)], [.sl false 4 (enS false b)]] = bif ofNat (length (enS false a)) != ofNat (length (enS false b)) then some ([[D.bool false]], []) else loopRun (B60_0 n) 0 35 134215728 n (S60_0 a b (0)) (k60_1 n) := by kernel_rfl
theorem m60 (a : List Heard) (b : List Heard) (hpre : (o60 a b).1 = true) : evFn ⟨Go.Proofs.Try.prog, Hx, 60⟩ T97.call (a.length + 1) Go.Proofs.Try.f60 [[.sl false 4 (enS false a)], [.sl false 4 (enS false b)]] = some (o60 a b).2 := by
  refine (r60 a b _).trans ?_
  show _ = (some ([[.bool (true)]], []) : Option (List Row × List Row))
  replace hpre : (sameB a b && (decide (a.length ≤ 1048576))) = true := hpre
  rw [Bool.and_eq_true] at hpre
  obtain ⟨h0, h1⟩ := hpre
  have hlen : a.length ≤ 1048576 := of_decide_eq_true h1
  have := sameB_eq h0
  subst this
  simp only [bne_self_eq_false, cond_false]
  refine loop_list (xs := a) (fun i (_ : Unit) => S60_0 a a (Int.ofNat i)) (fun _ _ => True) (fun _ _ _ => some ([[D.bool true]], [])) ?_ ?_ (a.length + 1) () (by omega) trivial
  · rintro _ _ f
    refine (q60_0 a a _ _ f _).trans ?_
    simp only [enS_length, dec_lt, Nat.lt_irrefl, decide_false, cond_false]
    exact aX60_2 a a _ _
  · rintro i _ hi _ f hf
    refine (q60_0 a a _ _ f _).trans ?_
    simp only [enS_length, toNat_of, dec_lt, dec_ge, enS_get _ hi, hi, wrap_succ (show i < 4611686018427387904 by omega), decide_true, cond_true, Bool.and_self, sameB_self, bne_self_eq_false, cond_false]
    exact hf () trivial
theorem s60 : SoundAt Go.Proofs.Try.prog Hx 60 c60 := soundAt_of T97_sound mixed Go.Proofs.Try.func60 (by kernel_rfl) (by
  intro rows r h
  unfold c60 at h
  split at h
  · rename_i a b
    obtain ⟨hp, hr⟩ := Prod.mk.inj (Option.some.inj h)
    subst hr
    simp only [Bool.and_eq_true] at hp
    obtain ⟨⟨hs0, hs1⟩, hp⟩ := hp
    obtain ⟨xs0, rfl⟩ := isS_ex hs0
    obtain ⟨xs1, rfl⟩ := isS_ex hs1
    simp only [deS_enS] at hp ⊢
    exact ⟨_, m60 xs0 xs1 hp⟩
  · cases h)
def T60 : Table := (60, c60) :: T97
theorem T60_sound : Table.Sound Go.Proofs.Try.prog Hx T60 := Table.sound_cons s60 T97_sound
/- eqCopy -/
def o23 (a : Copy) (b : Copy) : Bool × List Row × List Row := (sameB a b && (Copy.small a), [[.bool (true)]], [])
def c23 : Contract
  | [[.int .i64 a_Next, .sl false 4 a_Table], [.int .i64 b_Next, .sl false 4 b_Table]] => some (isS Heard false a_Table && isS Heard false b_Table && (o23 ⟨a_Next, (deS Heard a_Table)⟩ ⟨b_Next, (deS Heard b_Table)⟩).1, (o23 ⟨a_Next, (deS Heard a_Table)⟩ ⟨b_Next, (deS Heard b_Table)⟩).2.1, (o23 ⟨a_Next, (deS Heard a_Table)⟩ ⟨b_Next, (deS Heard b_Table)⟩).2.2)
  | _ => none

theorem r23 (a : Copy) (b : Copy) (n : Nat) : evFn ⟨prog, Hx, 23⟩ T60.call n Go.Proofs.Try.f23 [[.int .i64 a.Next, .sl false 4 (enS false a.Table)], [.int .i64 b.Next, .sl false 4 (enS false b.Table)]] = bif Copy.Next a != Copy.Next b then some ([[D.bool false]], []) else bif isS Heard false (enS false (Copy.Table a)) && isS Heard false (enS false (Copy.Table b)) && (sameB (deS Heard (enS false (Copy.Table a))) (deS Heard (enS false (Copy.Table b))) && decide (length (deS Heard (enS false (Copy.Table a))) ≤ 1048576)) then some ([[D.bool true]], []) else none := by kernel_rfl
theorem m23 (a : Copy) (b : Copy) (hpre : (o23 a b).1 = true) : evFn ⟨Go.Proofs.Try.prog, Hx, 23⟩ T60.call 0 Go.Proofs.Try.f23 [[.int .i64 a.Next, .sl false 4 (enS false a.Table)], [.int .i64 b.Next, .sl false 4 (enS false b.Table)]] = some (o23 a b).2 := by
  refine (r23 a b _).trans ?_
  show _ = (some ([[.bool (true)]], []) : Option (List Row × List Row))
  replace hpre : (sameB a b && (Copy.small a)) = true := hpre
  rw [Bool.and_eq_true] at hpre
  obtain ⟨h0, h1⟩ := hpre
  have := sameB_eq h0
  subst this
  unfold Copy.small at h1
  try simp only [Bool.and_eq_true] at h1
  simp only [h1, bne_self_eq_false, cond_false, cond_true, sameB_self, isS_enS, deS_enS, Bool.and_self, Bool.and_true, Bool.true_and, Bool.not_true]
  try rfl
theorem s23 : SoundAt Go.Proofs.Try.prog Hx 23 c23 := soundAt_of T60_sound mixed Go.Proofs.Try.func23 (by kernel_rfl) (by
  intro rows r h
  unfold c23 at h
  split at h
  · rename_i a_Next a_Table b_Next b_Table
    obtain ⟨hp, hr⟩ := Prod.mk.inj (Option.some.inj h)
    subst hr
    simp only [Bool.and_eq_true] at hp
    obtain ⟨⟨hs0, hs1⟩, hp⟩ := hp
    obtain ⟨xs0, rfl⟩ := isS_ex hs0
    obtain ⟨xs1, rfl⟩ := isS_ex hs1
    simp only [deS_enS] at hp ⊢
    exact ⟨_, m23 ⟨a_Next, xs0⟩ ⟨b_Next, xs1⟩ hp⟩
  · cases h)
def T23 : Table := (23, c23) :: T60
theorem T23_sound : Table.Sound Go.Proofs.Try.prog Hx T23 := Table.sound_cons s23 T60_sound
/- markHeardS -/
def o61 (a : List Heard) (k : Int) : Bool × List Row × List Row := (decide (0 ≤ k) && (decide (k + cntS Heard.n_ a ≤ 4611686018427387904) && decide (a.length ≤ 1152921504606846976)), [[.int .i64 (k + cntS Heard.n_ a)]], [[.sl true 4 (enS true (markS Heard.mk_ Heard.n_ a k))]])
def c61 : Contract
  | [[.sl true 4 a], [.int .i64 k]] => some (isS Heard true a && (o61 (deS Heard a) k).1, (o61 (deS Heard a) k).2.1, (o61 (deS Heard a) k).2.2)
  | _ => none

def k61_0 (n : Nat) : Ex → St → RR := kThen (fun st ↦ runCode (Ctx.mk prog Hx (61)) (Table.call T23) n (codeAt [1, 1] (bodyOf Go.Proofs.Try.f61)) (Lv.mk 16 [] 16) st (kLeave (Ctx.P (Ctx.mk prog Hx (61))) (List.zip (Array.toList (Go.Func.resultTypes Go.Proofs.Try.f61)) (Array.toList (Go.Func.results Go.Proofs.Try.f61))) [] [C.view 0 0 0 [] 4 none])) (kLeave (Ctx.P (Ctx.mk prog Hx (61))) (List.zip (Array.toList (Go.Func.resultTypes Go.Proofs.Try.f61)) (Array.toList (Go.Func.results Go.Proofs.Try.f61))) [] [C.view 0 0 0 [] 4 none])
def k61_1 (n : Nat) : Ex → St → RR := kBlock (0) (k61_0 n)
def S61_0 (i0 : Int) (i1 : Int) (es2 : List (List D)) : St := St.mk [TV.v false [C.view 0 0 0 [] 4 none], I_ i0, U_, U_, U_, I_ i1, U_, U_, U_, U_, U_, U_, U_, U_, U_, U_, U_, U_, U_, U_, U_, U_, U_, U_, U_, U_, U_, U_, U_, U_, U_, U_, U_, U_, U_, U_, U_, U_, U_, U_, U_] [Root.mk false 4 es2 0 0 true true false]
def B61_0 (n : Nat) : St → (Ex → St → RR) → RR := runCode (Ctx.mk prog Hx (61)) (Table.call T23) n (codeAt [1, 0, 1, 0, 0] (bodyOf Go.Proofs.Try.f61)) (Lv.mk 35 [(0, 2)] 16)
def X61_2 (i0 : Int) (i1 : Int) (es2 : List (List D)) : St := St.mk [TV.v false [C.view 0 0 0 [] 4 none], I_ i0, U_, U_, U_, I_ i1, I_ i1, TV.v false [C.view 0 0 0 [] 4 none], I_ (ofNat (length es2)), B_ false, U_, U_, U_, U_, U_, U_, U_, U_, U_, U_, U_, U_, U_, U_, U_, U_, U_, U_, U_, U_, U_, U_, U_, U_, U_, U_, U_, U_, U_, U_, U_] [Root.mk false 4 es2 0 0 true true false]
def w61_3 (i0 : Int) (i1 : Int) (es2 : List (List D)) : List (List D) := set es2 (0 + toNat i1) (D.int i64 i0 :: drop 1 (getD es2 (0 + toNat i1) []))
def w61_4 (i0 : Int) (i1 : Int) (es2 : List (List D)) : List (List D) := set (w61_3 i0 i1 es2) (0 + toNat i1) (append (append (take 1 (getD (w61_3 i0 i1 es2) (0 + toNat i1) [])) [D.int i64 (wrap i64 (i0 + 1))]) (drop 2 (getD (w61_3 i0 i1 es2) (0 + toNat i1) [])))
def w61_5 (i0 : Int) (i1 : Int) (es2 : List (List D)) : List (List D) := set (w61_4 i0 i1 es2) (0 + toNat i1) (append (append (take 2 (getD (w61_4 i0 i1 es2) (0 + toNat i1) [])) [D.int i64 (wrap i64 (wrap i64 (i0 + 1) + 1))]) (drop 3 (getD (w61_4 i0 i1 es2) (0 + toNat i1) [])))
theorem q61_0 (n : Nat) (i0 : Int) (i1 : Int) (es2 : List (List D)) (f : St → RR) (K : Ex → St → RR) : B61_0 n (S61_0 i0 i1 es2) (kThen (fun st ↦ f (St.head 1 35 1099511627746 st)) K) = bif decide (i1 < ofNat (length es2)) then bif decide (0 ≤ i1) && decide (i1 < ofNat (length es2)) then bif decide (0 ≤ i1) && decide (i1 < ofNat (length (w61_3 i0 i1 es2))) then bif decide (0 ≤ i1) && decide (i1 < ofNat (length (w61_4 i0 i1 es2))) then bif decide (0 ≤ i1) && decide (i1 < ofNat (length (w61_5 i0 i1 es2))) then f (S61_0 (wrap i64 (wrap i64 (wrap i64 (wrap i64 (i0 + 1) + 1) + 1) + 1)) (wrap i64 (i1 + 1)) (set (w61_5 i0 i1 es2) (0 + toNat i1) (append (append (take 3 (getD (w61_5 i0 i1 es2) (0 + toNat i1) [])) [D.int i64 (wrap i64 (wrap i64 (wrap i64 (i0 + 1) + 1) + 1))]) (drop 4 (getD (w61_5 i0 i1 es2) (0 + toNat i1) []))))) else none else none else none else none else K (Ex.exit 0) (X61_2 i0 i1 es2) := by kernel_rfl
theorem aX61_2 (n : Nat) (i0 : Int) (i1 : Int) (es2 : List (List D)) : k61_1 n (Ex.exit 0) (X61_2 i0 i1 es2) = some ([[D.int i64 i0]], [[D.sl true 4 es2]]) := by kernel_rfl
theorem r61 (a : List Heard) (k : Int) (n : Nat) : evFn ⟨prog, Hx, 61⟩ T23.call n Go.Proofs.Try.f61 [[.sl true 4 (enS true a)], [.int .i64 k]] = loopRun (B61_0 n) 1 35 1099511627746 n (S61_0 k (0) (enS true a)) (k61_1 n) := by kernel_rfl
theorem m61 (a : List Heard) (k : Int) (hpre : (o61 a k).1 = true) : evFn ⟨Go.Proofs.Try.prog, Hx, 61⟩ T23.call (a.length + 1) Go.Proofs.Try.f61 [[.sl true 4 (enS true a)], [.int .i64 k]] = some (o61 a k).2 := by
  refine (r61 a k _).trans ?_
  show _ = (some ([[.int .i64 (k + cntS Heard.n_ a)]], [[.sl true 4 (enS true (markS Heard.mk_ Heard.n_ a k))]]) : Option (List Row × List Row))
  replace hpre : (decide (0 ≤ k) && (decide (k + cntS Heard.n_ a ≤ 4611686018427387904) && decide (a.length ≤ 1152921504606846976))) = true := hpre
  simp only [Bool.and_eq_true, decide_eq_true_eq] at hpre
  obtain ⟨h0, h1, h2⟩ := hpre
  refine loop_list (xs := a) (fun i (v : List Heard × Int) => S61_0 v.2 (Int.ofNat i) (enS true (v.1 ++ a.drop i))) (fun i v => v.1.length = i ∧ 0 ≤ v.2 ∧ v.2 + cntS Heard.n_ (a.drop i) ≤ 4611686018427387904) (fun _ v rest => some ([[D.int .i64 (v.2 + cntS Heard.n_ rest)]], [[D.sl true 4 (enS true (v.1 ++ markS Heard.mk_ Heard.n_ rest v.2))]])) ?_ ?_ (a.length + 1) ([], k) (by omega) ⟨rfl, h0, h1⟩
  · rintro ⟨pre, k⟩ ⟨hl, hk0, hk1⟩ f
    refine (q61_0 _ _ _ _ f _).trans ?_
    simp only [enS_length, List.drop_length, List.append_nil, hl, dec_lt, Nat.lt_irrefl, decide_false, cond_false]
    refine (aX61_2 _ _ _ _).trans ?_
    simp only [List.append_nil, cntS, markS, Int.add_zero]
  · rintro i ⟨pre, k⟩ hi ⟨hl, hk0, hk1⟩ f hf
    simp only at hl hk0 hk1
    rw [List.drop_eq_getElem_cons hi] at hk1
    generalize hx : a[i] = x at hk1 ⊢
    have hc := cntS_nonneg (n := Heard.n_) Heard.n_pos (a.drop (i + 1))
    have hn : Heard.n_ x = 4 := rfl
    simp only [cntS, hn] at hk1
    refine (q61_0 _ _ _ _ f _).trans ?_
    rw [List.drop_eq_getElem_cons hi, hx]
    have hm := mid_get pre x (a.drop (i + 1)) hl
    have hat := mid_at pre x (a.drop (i + 1)) hl hm
    have hs : ∀ R, ((enS true (pre ++ x :: a.drop (i + 1))).set i R).getD i [] = R := fun R => getD_set_same _ _ _ _ (by rw [enS_length]; exact hm)
    simp only [w61_3, w61_4, w61_5, List.length_set, enS_length, toNat_of, Nat.zero_add, dec_lt, dec_ge, hm, hs, List.set_set, enS_get _ hm, hat, decide_true, cond_true, Bool.and_self, wrap_succ (show i < 4611686018427387904 by omega), En.enc, List.append_eq, List.take_succ_cons, List.take_zero, List.drop_succ_cons, List.drop_zero, List.cons_append, List.nil_append]
    have hw1 : IntKind.wrap IntKind.i64 (k + 1) = k + 1 := wrap_le (by omega) (by omega)
    have hw2 : IntKind.wrap IntKind.i64 (k + 1 + 1) = k + 1 + 1 := wrap_le (by omega) (by omega)
    have hw3 : IntKind.wrap IntKind.i64 (k + 1 + 1 + 1) = k + 1 + 1 + 1 := wrap_le (by omega) (by omega)
    have hw4 : IntKind.wrap IntKind.i64 (k + 1 + 1 + 1 + 1) = k + 1 + 1 + 1 + 1 := wrap_le (by omega) (by omega)
    simp only [hw1, hw2, hw3, hw4]
    have he : k + 1 + 1 + 1 + 1 = k + Heard.n_ x := by omega
    skip
    refine (congrArg f (congrArg (S61_0 _ _) ((enS_set true _ i (Heard.mk_ x k)).trans (congrArg (enS true) (mid_set pre x _ _ hl))))).trans ?_
    refine (hf (pre ++ [Heard.mk_ x k], k + 1 + 1 + 1 + 1) ⟨by simp [hl], by simp only; omega, by simp only; omega⟩).trans ?_
    show _ = some ([[D.int .i64 (k + (Heard.n_ x + cntS Heard.n_ (a.drop (i + 1))))]], [[D.sl true 4 (enS true (pre ++ (Heard.mk_ x k :: markS Heard.mk_ Heard.n_ (a.drop (i + 1)) (k + Heard.n_ x))))]])
    rw [he, List.append_assoc, List.singleton_append, Int.add_assoc]
theorem s61 : SoundAt Go.Proofs.Try.prog Hx 61 c61 := soundAt_of T23_sound mixed Go.Proofs.Try.func61 (by kernel_rfl) (by
  intro rows r h
  unfold c61 at h
  split at h
  · rename_i a k
    obtain ⟨hp, hr⟩ := Prod.mk.inj (Option.some.inj h)
    subst hr
    simp only [Bool.and_eq_true] at hp
    obtain ⟨hs0, hp⟩ := hp
    obtain ⟨xs0, rfl⟩ := isS_ex hs0
    simp only [deS_enS] at hp ⊢
    exact ⟨_, m61 xs0 k hp⟩
  · cases h)
def T61 : Table := (61, c61) :: T23
theorem T61_sound : Table.Sound Go.Proofs.Try.prog Hx T61 := Table.sound_cons s61 T23_sound
/- markCopy -/
def o24 (a : Copy) (k : Int) : Bool × List Row × List Row := (decide (0 ≤ k) && (decide (k + Copy.nTop a ≤ 4611686018427387904) && (decide (a.Table.length ≤ 1152921504606846976))), [[.int .i64 (k + Copy.nTop a)]], [[.int .i64 (Copy.mkTop a k).Next, .sl true 4 (enS true (Copy.mkTop a k).Table)]])
def c24 : Contract
  | [[.int .i64 a_Next, .sl true 4 a_Table], [.int .i64 k]] => some (isS Heard true a_Table && (o24 ⟨a_Next, (deS Heard a_Table)⟩ k).1, (o24 ⟨a_Next, (deS Heard a_Table)⟩ k).2.1, (o24 ⟨a_Next, (deS Heard a_Table)⟩ k).2.2)
  | _ => none

theorem r24 (a : Copy) (k : Int) (n : Nat) : evFn ⟨prog, Hx, 24⟩ T61.call n Go.Proofs.Try.f24 [[.int .i64 a.Next, .sl true 4 (enS true a.Table)], [.int .i64 k]] = bif isS Heard true (enS true (Copy.Table a)) && (decide (0 ≤ k) && (decide (k + cntS Heard.n_ (deS Heard (enS true (Copy.Table a))) ≤ 4611686018427387904) && decide (length (deS Heard (enS true (Copy.Table a))) ≤ 1152921504606846976))) then some ([[D.int i64 (k + cntS Heard.n_ (deS Heard (enS true (Copy.Table a))))]], [[D.int i64 (Copy.Next a), D.sl true 4 (enS true (markS Heard.mk_ Heard.n_ (deS Heard (enS true (Copy.Table a))) k))]]) else none := by kernel_rfl
theorem m24 (a : Copy) (k : Int) (hpre : (o24 a k).1 = true) : evFn ⟨Go.Proofs.Try.prog, Hx, 24⟩ T61.call 0 Go.Proofs.Try.f24 [[.int .i64 a.Next, .sl true 4 (enS true a.Table)], [.int .i64 k]] = some (o24 a k).2 := by
  refine (r24 a k _).trans ?_
  show _ = (some ([[.int .i64 (k + Copy.nTop a)]], [[.int .i64 (Copy.mkTop a k).Next, .sl true 4 (enS true (Copy.mkTop a k).Table)]]) : Option (List Row × List Row))
  replace hpre : (decide (0 ≤ k) && (decide (k + Copy.nTop a ≤ 4611686018427387904) && (decide (a.Table.length ≤ 1152921504606846976)))) = true := hpre
  simp only [Bool.and_eq_true] at hpre
  obtain ⟨h0, h1, h2⟩ := hpre
  have h0' := of_decide_eq_true h0
  have h1' := of_decide_eq_true h1
  unfold Copy.nTop at h1'
  have p0 : 0 ≤ cntS Heard.n_ a.Table := cntS_nonneg Heard.n_pos a.Table
  have g0 : decide (0 ≤ k) = true := decide_eq_true (by omega)
  have f0 : decide (k + cntS Heard.n_ a.Table ≤ 4611686018427387904) = true := decide_eq_true (by omega)
  have d0 : decide (k + cntS Heard.n_ a.Table < 0) = false := decide_eq_false (by omega)
  simp only [g0, f0, d0, h2, isS_enS, deS_enS, sameB_self, cond_true, cond_false, Bool.and_self, Bool.and_true, Bool.true_and, Copy.mkTop, Copy.nTop]
  try rfl
theorem s24 : SoundAt Go.Proofs.Try.prog Hx 24 c24 := soundAt_of T61_sound mixed Go.Proofs.Try.func24 (by kernel_rfl) (by
  intro rows r h
  unfold c24 at h
  split at h
  · rename_i a_Next a_Table k
    obtain ⟨hp, hr⟩ := Prod.mk.inj (Option.some.inj h)
    subst hr
    simp only [Bool.and_eq_true] at hp
    obtain ⟨hs0, hp⟩ := hp
    obtain ⟨xs0, rfl⟩ := isS_ex hs0
    simp only [deS_enS] at hp ⊢
    exact ⟨_, m24 ⟨a_Next, xs0⟩ k hp⟩
  · cases h)
def T24 : Table := (24, c24) :: T61
theorem T24_sound : Table.Sound Go.Proofs.Try.prog Hx T24 := Table.sound_cons s24 T61_sound
/- heldHeardS -/
def o62 (a : List Heard) (k : Int) : Bool × List Row × List Row := (sameB (markS Heard.mk_ Heard.n_ a k) a && (decide (0 ≤ k) && (decide (k + cntS Heard.n_ a ≤ 4611686018427387904) && decide (a.length ≤ 1152921504606846976))), [[.int .i64 (k + cntS Heard.n_ a)]], [])
def c62 : Contract
  | [[.sl false 4 a], [.int .i64 k]] => some (isS Heard false a && (o62 (deS Heard a) k).1, (o62 (deS Heard a) k).2.1, (o62 (deS Heard a) k).2.2)
  | _ => none

def k62_0 (n : Nat) : Ex → St → RR := kThen (fun st ↦ runCode (Ctx.mk prog Hx (62)) (Table.call T24) n (codeAt [1, 1] (bodyOf Go.Proofs.Try.f62)) (Lv.mk 16 [] 16) st (kLeave (Ctx.P (Ctx.mk prog Hx (62))) (List.zip (Array.toList (Go.Func.resultTypes Go.Proofs.Try.f62)) (Array.toList (Go.Func.results Go.Proofs.Try.f62))) [] [])) (kLeave (Ctx.P (Ctx.mk prog Hx (62))) (List.zip (Array.toList (Go.Func.resultTypes Go.Proofs.Try.f62)) (Array.toList (Go.Func.results Go.Proofs.Try.f62))) [] [])
def k62_1 (n : Nat) : Ex → St → RR := kBlock (0) (k62_0 n)
def S62_0 (a : List Heard) (i0 : Int) (i1 : Int) : St := St.mk [TV.v false [C.d (D.sl false 4 (enS false a))], I_ i0, U_, U_, U_, I_ i1, U_, U_, U_, U_, U_, U_, U_, U_, U_, U_, U_, U_, U_, U_, U_, U_, U_, U_, U_, U_, U_, U_, U_, U_, U_, U_, U_, U_, U_, U_, U_, U_, U_, U_, U_, U_, U_, U_, U_, U_, U_, U_, U_] []
def B62_0 (n : Nat) : St → (Ex → St → RR) → RR := runCode (Ctx.mk prog Hx (62)) (Table.call T24) n (codeAt [1, 0, 1, 0, 0] (bodyOf Go.Proofs.Try.f62)) (Lv.mk 35 [(0, 2)] 16)
def X62_2 (a : List Heard) (i0 : Int) (i1 : Int) : St := St.mk [TV.v false [C.d (D.sl false 4 (enS false a))], I_ i0, U_, U_, I_ (Int.negSucc 0), I_ i1, I_ i1, TV.v false [C.d (D.sl false 4 (enS false a))], I_ (ofNat (length (enS false a))), B_ true, U_, U_, TV.v false [C.d (D.sl false 4 (enS false a))], I_ i1, TV.v false [C.rptr (getD (enS false a) (toNat i1) [])], TV.v false [C.rptr (getD (enS false a) (toNat i1) [])], I_ (D.num (getD (getD (enS false a) (toNat i1) []) 0 D.dead)), I_ i0, B_ true, U_, U_, U_, U_, U_, U_, U_, U_, U_, U_, U_, U_, U_, U_, U_, U_, U_, U_, U_, U_, U_, U_, U_, U_, U_, U_, U_, U_, U_, U_] []
def X62_3 (a : List Heard) (i0 : Int) (i1 : Int) : St := St.mk [TV.v false [C.d (D.sl false 4 (enS false a))], I_ (wrap i64 (i0 + 1)), U_, U_, I_ (Int.negSucc 0), I_ i1, I_ i1, TV.v false [C.d (D.sl false 4 (enS false a))], I_ (ofNat (length (enS false a))), B_ true, U_, U_, TV.v false [C.d (D.sl false 4 (enS false a))], I_ i1, TV.v false [C.rptr (getD (enS false a) (toNat i1) [])], TV.v false [C.rptr (getD (enS false a) (toNat i1) [])], I_ (D.num (getD (getD (enS false a) (toNat i1) []) 0 D.dead)), I_ i0, B_ false, I_ i0, I_ (wrap i64 (i0 + 1)), TV.v false [C.d (D.sl false 4 (enS false a))], I_ i1, TV.v false [C.rptr (getD (enS false a) (toNat i1) [])], TV.v false [C.rptr (drop 1 (getD (enS false a) (toNat i1) []))], I_ (D.num (getD (drop 1 (getD (enS false a) (toNat i1) [])) 0 D.dead)), I_ (wrap i64 (i0 + 1)), B_ true, U_, U_, U_, U_, U_, U_, U_, U_, U_, U_, U_, U_, U_, U_, U_, U_, U_, U_, U_, U_, U_] []
def X62_4 (a : List Heard) (i0 : Int) (i1 : Int) : St := St.mk [TV.v false [C.d (D.sl false 4 (enS false a))], I_ (wrap i64 (wrap i64 (i0 + 1) + 1)), U_, U_, I_ (Int.negSucc 0), I_ i1, I_ i1, TV.v false [C.d (D.sl false 4 (enS false a))], I_ (ofNat (length (enS false a))), B_ true, U_, U_, TV.v false [C.d (D.sl false 4 (enS false a))], I_ i1, TV.v false [C.rptr (getD (enS false a) (toNat i1) [])], TV.v false [C.rptr (getD (enS false a) (toNat i1) [])], I_ (D.num (getD (getD (enS false a) (toNat i1) []) 0 D.dead)), I_ i0, B_ false, I_ i0, I_ (wrap i64 (i0 + 1)), TV.v false [C.d (D.sl false 4 (enS false a))], I_ i1, TV.v false [C.rptr (getD (enS false a) (toNat i1) [])], TV.v false [C.rptr (drop 1 (getD (enS false a) (toNat i1) []))], I_ (D.num (getD (drop 1 (getD (enS false a) (toNat i1) [])) 0 D.dead)), I_ (wrap i64 (i0 + 1)), B_ false, I_ (wrap i64 (i0 + 1)), I_ (wrap i64 (wrap i64 (i0 + 1) + 1)), TV.v false [C.d (D.sl false 4 (enS false a))], I_ i1, TV.v false [C.rptr (getD (enS false a) (toNat i1) [])], TV.v false [C.rptr (drop 2 (getD (enS false a) (toNat i1) []))], I_ (D.num (getD (drop 2 (getD (enS false a) (toNat i1) [])) 0 D.dead)), I_ (wrap i64 (wrap i64 (i0 + 1) + 1)), B_ true, U_, U_, U_, U_, U_, U_, U_, U_, U_, U_, U_, U_] []
def X62_5 (a : List Heard) (i0 : Int) (i1 : Int) : St := St.mk [TV.v false [C.d (D.sl false 4 (enS false a))], I_ (wrap i64 (wrap i64 (wrap i64 (i0 + 1) + 1) + 1)), U_, U_, I_ (Int.negSucc 0), I_ i1, I_ i1, TV.v false [C.d (D.sl false 4 (enS false a))], I_ (ofNat (length (enS false a))), B_ true, U_, U_, TV.v false [C.d (D.sl false 4 (enS false a))], I_ i1, TV.v false [C.rptr (getD (enS false a) (toNat i1) [])], TV.v false [C.rptr (getD (enS false a) (toNat i1) [])], I_ (D.num (getD (getD (enS false a) (toNat i1) []) 0 D.dead)), I_ i0, B_ false, I_ i0, I_ (wrap i64 (i0 + 1)), TV.v false [C.d (D.sl false 4 (enS false a))], I_ i1, TV.v false [C.rptr (getD (enS false a) (toNat i1) [])], TV.v false [C.rptr (drop 1 (getD (enS false a) (toNat i1) []))], I_ (D.num (getD (drop 1 (getD (enS false a) (toNat i1) [])) 0 D.dead)), I_ (wrap i64 (i0 + 1)), B_ false, I_ (wrap i64 (i0 + 1)), I_ (wrap i64 (wrap i64 (i0 + 1) + 1)), TV.v false [C.d (D.sl false 4 (enS false a))], I_ i1, TV.v false [C.rptr (getD (enS false a) (toNat i1) [])], TV.v false [C.rptr (drop 2 (getD (enS false a) (toNat i1) []))], I_ (D.num (getD (drop 2 (getD (enS false a) (toNat i1) [])) 0 D.dead)), I_ (wrap i64 (wrap i64 (i0 + 1) + 1)), B_ false, I_ (wrap i64 (wrap i64 (i0 + 1) + 1)), I_ (wrap i64 (wrap i64 (wrap i64 (i0 + 1) + 1) + 1)), TV.v false [C.d (D.sl false 4 (enS false a))], I_ i1, TV.v false [C.rptr (getD (enS false a) (toNat i1) [])], TV.v false [C.rptr (drop 3 (getD (enS false a) (toNat i1) []))], I_ (D.num (getD (drop 3 (getD (enS false a) (toNat i1) [])) 0 D.dead)), I_ (wrap i64 (wrap i64 (wrap i64 (i0 + 1) + 1) + 1)), B_ true, U_, U_, U_] []
def X62_6 (a : List Heard) (i0 : Int) (i1 : Int) : St := St.mk [TV.v false [C.d (D.sl false 4 (enS false a))], I_ i0, U_, U_, U_, I_ i1, I_ i1, TV.v false [C.d (D.sl false 4 (enS false a))], I_ (ofNat (length (enS false a))), B_ false, U_, U_, U_, U_, U_, U_, U_, U_, U_, U_, U_, U_, U_, U_, U_, U_, U_, U_, U_, U_, U_, U_, U_, U_, U_, U_, U_, U_, U_, U_, U_, U_, U_, U_, U_, U_, U_, U_, U_] []
theorem q62_0 (a : List Heard) (n : Nat) (i0 : Int) (i1 : Int) (f : St → RR) (K : Ex → St → RR) : B62_0 n (S62_0 a i0 i1) (kThen (fun st ↦ f (St.head 0 35 281474976710642 st)) K) = bif decide (i1 < ofNat (length (enS false a))) then bif decide (0 ≤ i1) && decide (i1 < ofNat (length (enS false a))) then bif Leaf.fit false (Leaf.int i64) (getD (getD (enS false a) (toNat i1) []) 0 D.dead) && true then bif D.num (getD (getD (enS false a) (toNat i1) []) 0 D.dead) != i0 then K Ex.ret (X62_2 a i0 i1) else bif decide (0 ≤ i1) && decide (i1 < ofNat (length (enS false a))) then bif Leaf.fit false (Leaf.int i64) (getD (drop 1 (getD (enS false a) (toNat i1) [])) 0 D.dead) && true then bif D.num (getD (drop 1 (getD (enS false a) (toNat i1) [])) 0 D.dead) != wrap i64 (i0 + 1) then K Ex.ret (X62_3 a i0 i1) else bif decide (0 ≤ i1) && decide (i1 < ofNat (length (enS false a))) then bif Leaf.fit false (Leaf.int i64) (getD (drop 2 (getD (enS false a) (toNat i1) [])) 0 D.dead) && true then bif D.num (getD (drop 2 (getD (enS false a) (toNat i1) [])) 0 D.dead) != wrap i64 (wrap i64 (i0 + 1) + 1) then K Ex.ret (X62_4 a i0 i1) else bif decide (0 ≤ i1) && decide (i1 < ofNat (length (enS false a))) then bif Leaf.fit false (Leaf.int i64) (getD (drop 3 (getD (enS false a) (toNat i1) [])) 0 D.dead) && true then bif D.num (getD (drop 3 (getD (enS false a) (toNat i1) [])) 0 D.dead) != wrap i64 (wrap i64 (wrap i64 (i0 + 1) + 1) + 1) then K Ex.ret (X62_5 a i0 i1) else f (S62_0 a (wrap i64 (wrap i64 (wrap i64 (wrap i64 (i0 + 1) + 1) + 1) + 1)) (wrap i64 (i1 + 1))) else none else none else none else none else none else none else none else none else K (Ex.exit 0) (X62_6 a i0 i1) := by kernel_rfl
theorem aX62_2 (a : List Heard) (n : Nat) (i0 : Int) (i1 : Int) : k62_1 n Ex.ret (X62_2 a i0 i1) = some ([[D.int i64 (Int.negSucc 0)]], []) := by kernel_rfl
theorem aX62_3 (a : List Heard) (n : Nat) (i0 : Int) (i1 : Int) : k62_1 n Ex.ret (X62_3 a i0 i1) = some ([[D.int i64 (Int.negSucc 0)]], []) := by kernel_rfl
theorem aX62_4 (a : List Heard) (n : Nat) (i0 : Int) (i1 : Int) : k62_1 n Ex.ret (X62_4 a i0 i1) = some ([[D.int i64 (Int.negSucc 0)]], []) := by kernel_rfl
theorem aX62_5 (a : List Heard) (n : Nat) (i0 : Int) (i1 : Int) : k62_1 n Ex.ret (X62_5 a i0 i1) = some ([[D.int i64 (Int.negSucc 0)]], []) := by kernel_rfl
theorem aX62_6 (a : List Heard) (n : Nat) (i0 : Int) (i1 : Int) : k62_1 n (Ex.exit 0) (X62_6 a i0 i1) = some ([[D.int i64 i0]], []) := by kernel_rfl
theorem r62 (a : List Heard) (k : Int) (n : Nat) : evFn ⟨prog, Hx, 62⟩ T24.call n Go.Proofs.Try.f62 [[.sl false 4 (enS false a)], [.int .i64 k]] = loopRun (B62_0 n) 0 35 281474976710642 n (S62_0 a k (0)) (k62_1 n) := by kernel_rfl
theorem m62 (a : List Heard) (k : Int) (hpre : (o62 a k).1 = true) : evFn ⟨Go.Proofs.Try.prog, Hx, 62⟩ T24.call (a.length + 1) Go.Proofs.Try.f62 [[.sl false 4 (enS false a)], [.int .i64 k]] = some (o62 a k).2 := by
  refine (r62 a k _).trans ?_
  show _ = (some ([[.int .i64 (k + cntS Heard.n_ a)]], []) : Option (List Row × List Row))
  replace hpre : (sameB (markS Heard.mk_ Heard.n_ a k) a && (decide (0 ≤ k) && (decide (k + cntS Heard.n_ a ≤ 4611686018427387904) && decide (a.length ≤ 1152921504606846976)))) = true := hpre
  rw [Bool.and_eq_true] at hpre
  obtain ⟨hsame, hpre⟩ := hpre
  have hsame := sameB_eq hsame
  simp only [Bool.and_eq_true, decide_eq_true_eq] at hpre
  obtain ⟨h0, h1, h2⟩ := hpre
  refine loop_list (xs := a) (fun i (k : Int) => S62_0 a k (Int.ofNat i)) (fun i k => 0 ≤ k ∧ k + cntS Heard.n_ (a.drop i) ≤ 4611686018427387904 ∧ markS Heard.mk_ Heard.n_ (a.drop i) k = a.drop i) (fun _ k rest => some ([[D.int .i64 (k + cntS Heard.n_ rest)]], [])) ?_ ?_ (a.length + 1) k (by omega) ⟨h0, h1, hsame⟩
  · rintro k ⟨hk0, hk1, _⟩ f
    refine (q62_0 a _ _ _ f _).trans ?_
    simp only [enS_length, dec_lt, Nat.lt_irrefl, decide_false, cond_false]
    refine (aX62_6 a _ _ _).trans ?_
    simp only [cntS, Int.add_zero]
  · rintro i k hi ⟨hk0, hk1, hk2⟩ f hf
    rw [List.drop_eq_getElem_cons hi] at hk1 hk2
    have hc := cntS_nonneg (n := Heard.n_) Heard.n_pos (a.drop (i + 1))
    have hn : Heard.n_ a[i] = 4 := rfl
    simp only [cntS, hn] at hk1
    have he : k + 1 + 1 + 1 + 1 = k + Heard.n_ a[i] := by omega
    simp only [markS, List.cons.injEq] at hk2
    obtain ⟨hk2, hk3⟩ := hk2
    refine (q62_0 a _ _ _ f _).trans ?_
    simp only [enS_length, toNat_of, dec_lt, dec_ge, enS_get _ hi, hi, wrap_succ (show i < 4611686018427387904 by omega), decide_true, cond_true, Bool.and_self]
    have hw1 : IntKind.wrap IntKind.i64 (k + 1) = k + 1 := wrap_le (by omega) (by omega)
    have hw2 : IntKind.wrap IntKind.i64 (k + 1 + 1) = k + 1 + 1 := wrap_le (by omega) (by omega)
    have hw3 : IntKind.wrap IntKind.i64 (k + 1 + 1 + 1) = k + 1 + 1 + 1 := wrap_le (by omega) (by omega)
    have hw4 : IntKind.wrap IntKind.i64 (k + 1 + 1 + 1 + 1) = k + 1 + 1 + 1 + 1 := wrap_le (by omega) (by omega)
    simp only [hw1, hw2, hw3, hw4]
    rw [← hk2]
    refine Eq.trans (b := f (S62_0 a (k + 1 + 1 + 1 + 1) (Int.ofNat (i + 1)))) ?_ ((hf (k + 1 + 1 + 1 + 1) ⟨by omega, by omega, by rw [he]; exact hk3⟩).trans ?_)
    · simp only [En.enc, Heard.mk_, Leaf.fit, List.drop_succ_cons, List.drop_zero, List.getD_cons_zero, List.getD_cons_succ, D.num, D.flag, D.text, bne_self_eq_false, Bool.and_self, cond_true, cond_false, decide_true]
    · show _ = some ([[D.int .i64 (k + (Heard.n_ a[i] + cntS Heard.n_ (a.drop (i + 1))))]], [])
      rw [he, Int.add_assoc]
theorem s62 : SoundAt Go.Proofs.Try.prog Hx 62 c62 := soundAt_of T24_sound mixed Go.Proofs.Try.func62 (by kernel_rfl) (by
  intro rows r h
  unfold c62 at h
  split at h
  · rename_i a k
    obtain ⟨hp, hr⟩ := Prod.mk.inj (Option.some.inj h)
    subst hr
    simp only [Bool.and_eq_true] at hp
    obtain ⟨hs0, hp⟩ := hp
    obtain ⟨xs0, rfl⟩ := isS_ex hs0
    simp only [deS_enS] at hp ⊢
    exact ⟨_, m62 xs0 k hp⟩
  · cases h)
def T62 : Table := (62, c62) :: T24
theorem T62_sound : Table.Sound Go.Proofs.Try.prog Hx T62 := Table.sound_cons s62 T24_sound
/- heldCopy -/
def o25 (a : Copy) (k : Int) : Bool × List Row × List Row := (sameB (Copy.mkTop a k) a && (decide (0 ≤ k) && (decide (k + Copy.nTop a ≤ 4611686018427387904) && (decide (a.Table.length ≤ 1152921504606846976)))), [[.int .i64 (k + Copy.nTop a)]], [])
def c25 : Contract
  | [[.int .i64 a_Next, .sl false 4 a_Table], [.int .i64 k]] => some (isS Heard false a_Table && (o25 ⟨a_Next, (deS Heard a_Table)⟩ k).1, (o25 ⟨a_Next, (deS Heard a_Table)⟩ k).2.1, (o25 ⟨a_Next, (deS Heard a_Table)⟩ k).2.2)
  | _ => none

theorem r25 (a : Copy) (k : Int) (n : Nat) : evFn ⟨prog, Hx, 25⟩ T62.call n Go.Proofs.Try.f25 [[.int .i64 a.Next, .sl false 4 (enS false a.Table)], [.int .i64 k]] = bif isS Heard false (enS false (Copy.Table a)) && (sameB (markS Heard.mk_ Heard.n_ (deS Heard (enS false (Copy.Table a))) k) (deS Heard (enS false (Copy.Table a))) && (decide (0 ≤ k) && (decide (k + cntS Heard.n_ (deS Heard (enS false (Copy.Table a))) ≤ 4611686018427387904) && decide (length (deS Heard (enS false (Copy.Table a))) ≤ 1152921504606846976)))) then bif decide (k + cntS Heard.n_ (deS Heard (enS false (Copy.Table a))) < 0) then some ([[D.int i64 (Int.negSucc 0)]], []) else some ([[D.int i64 (k + cntS Heard.n_ (deS Heard (enS false (Copy.Table a))))]], []) else none := by kernel_rfl
theorem m25 (a : Copy) (k : Int) (hpre : (o25 a k).1 = true) : evFn ⟨Go.Proofs.Try.prog, Hx, 25⟩ T62.call 0 Go.Proofs.Try.f25 [[.int .i64 a.Next, .sl false 4 (enS false a.Table)], [.int .i64 k]] = some (o25 a k).2 := by
  refine (r25 a k _).trans ?_
  show _ = (some ([[.int .i64 (k + Copy.nTop a)]], []) : Option (List Row × List Row))
  replace hpre : (sameB (Copy.mkTop a k) a && (decide (0 ≤ k) && (decide (k + Copy.nTop a ≤ 4611686018427387904) && (decide (a.Table.length ≤ 1152921504606846976))))) = true := hpre
  rw [Bool.and_eq_true] at hpre
  obtain ⟨hsame, hpre⟩ := hpre
  have hsame := sameB_eq hsame
  unfold Copy.mkTop at hsame
  simp only [Bool.and_eq_true] at hpre
  obtain ⟨h0, h1, h2⟩ := hpre
  have h0' := of_decide_eq_true h0
  have h1' := of_decide_eq_true h1
  unfold Copy.nTop at h1'
  have p0 : 0 ≤ cntS Heard.n_ a.Table := cntS_nonneg Heard.n_pos a.Table
  have g0 : decide (0 ≤ k) = true := decide_eq_true (by omega)
  have f0 : decide (k + cntS Heard.n_ a.Table ≤ 4611686018427387904) = true := decide_eq_true (by omega)
  have d0 : decide (k + cntS Heard.n_ a.Table < 0) = false := decide_eq_false (by omega)
  have s0 := congrArg Copy.Table hsame
  simp only at s0
  simp only [g0, f0, d0, s0, h2, isS_enS, deS_enS, sameB_self, cond_true, cond_false, Bool.and_self, Bool.and_true, Bool.true_and, Copy.mkTop, Copy.nTop]
  try rfl
theorem s25 : SoundAt Go.Proofs.Try.prog Hx 25 c25 := soundAt_of T62_sound mixed Go.Proofs.Try.func25 (by kernel_rfl) (by
  intro rows r h
  unfold c25 at h
  split at h
  · rename_i a_Next a_Table k
    obtain ⟨hp, hr⟩ := Prod.mk.inj (Option.some.inj h)
    subst hr
    simp only [Bool.and_eq_true] at hp
    obtain ⟨hs0, hp⟩ := hp
    obtain ⟨xs0, rfl⟩ := isS_ex hs0
    simp only [deS_enS] at hp ⊢
    exact ⟨_, m25 ⟨a_Next, xs0⟩ k hp⟩
  · cases h)
def T25 : Table := (25, c25) :: T62
theorem T25_sound : Table.Sound Go.Proofs.Try.prog Hx T25 := Table.sound_cons s25 T62_sound
end Go.Ev
end
