/- Contracts of functions, each by its evaluation. -/
import Derived.Test.YtfeaiokfklkhjaaEvMd
import Derived.Test.YtfeaiokfklkhjaaProg
import Derived.KernelRfl
import Derived.Test.YtfeaiokfklkhjaaFFsnap
set_option linter.unusedVariables false
set_option linter.unusedSimpArgs false
set_option maxRecDepth 100000
noncomputable section
open List (getD length drop take set append replicate all isEmpty)
open Int (toNat ofNat)
open Go.IntKind (i64 wrap)
open Go.Proofs.Try (prog f105 f113 f114 f19 f20 f22 f23 f25 f26 f27 f28 f29 f30 f31 f55 f59 f60 f64 f65 f66 f67 f68 f69 func105 func113 func114 func19 func20 func22 func23 func25 func26 func27 func28 func29 func30 func31 func55 func59 func60 func64 func65 func66 func67 func68 func69)
namespace Go.Ev
open Go.RowKit Go.Md
end Go.Ev
namespace Go.Md
open Go Go.Ev
def Snap.wt (x : Snap) : Int := (x.Bytes.length : Int)
def Snap.small (x : Snap) : Bool := decide (x.Bytes.length ≤ 1048576)
def Snap.big (x : Snap) : Bool := decide (x.Bytes.length ≤ 9223372036854775807)
theorem Snap.wt_pos (x : Snap) : 0 ≤ Snap.wt x := by
  unfold Snap.wt
  omega
theorem Snap.small_of (x : Snap) (h : Snap.wt x ≤ 1048576) : Snap.small x = true := by
  unfold Snap.wt at h
  unfold Snap.small
  exact decide_eq_true (by omega)
def Bridge.wt (x : Bridge) : Int := (x.Ports.length : Int)
def Bridge.small (x : Bridge) : Bool := decide (x.Ports.length ≤ 1048576)
def Bridge.big (x : Bridge) : Bool := decide (x.Ports.length ≤ 9223372036854775807)
theorem Bridge.wt_pos (x : Bridge) : 0 ≤ Bridge.wt x := by
  unfold Bridge.wt
  omega
theorem Bridge.small_of (x : Bridge) (h : Bridge.wt x ≤ 1048576) : Bridge.small x = true := by
  unfold Bridge.wt at h
  unfold Bridge.small
  exact decide_eq_true (by omega)
def oneN {α : Type} (_ : α) : Int := 1
theorem oneN_pos {α : Type} (x : α) : 0 ≤ oneN x := by show (0 : Int) ≤ 1; omega
def byteMk (_ : UInt8) (k : Int) : UInt8 := (IntKind.wrap IntKind.u8 k).toNat.toUInt8
def Snap.mkTop (x : Snap) (k : Int) : Snap := ⟨x.N, markS byteMk oneN x.Bytes (k)⟩
def Snap.nTop (x : Snap) : Int := cntS oneN x.Bytes
theorem Snap.nTop_pos (x : Snap) : 0 ≤ Snap.nTop x := by
  have h0 := cntS_nonneg (n := oneN) oneN_pos x.Bytes
  unfold Snap.nTop
  omega
def Vec.mk_ (x : Vec) (k : Int) : Vec := ⟨k, k + 1, k + 1 + 1, k + 1 + 1 + 1⟩
def Vec.n_ (x : Vec) : Int := 1 + 1 + 1 + 1
theorem Vec.n_pos (x : Vec) : 0 ≤ Vec.n_ x := by show (0 : Int) ≤ 1 + 1 + 1 + 1; decide
def In.mk_ (x : In) (k : Int) : In := ⟨k, k + 1, ⟨k + 1 + 1, k + 1 + 1 + 1, k + 1 + 1 + 1 + 1, k + 1 + 1 + 1 + 1 + 1⟩, k + 1 + 1 + 1 + 1 + 1 + 1, (k + 1 + 1 + 1 + 1 + 1 + 1 + 1).tmod 3 == 0⟩
def In.n_ (x : In) : Int := 1 + 1 + 1 + 1 + 1 + 1 + 1 + 1
theorem In.n_pos (x : In) : 0 ≤ In.n_ x := by show (0 : Int) ≤ 1 + 1 + 1 + 1 + 1 + 1 + 1 + 1; decide
def Port.mk_ (x : Port) (k : Int) : Port := ⟨(k).tmod 3 == 0, (k + 1).tmod 3 == 0, ⟨k + 1 + 1, k + 1 + 1 + 1, k + 1 + 1 + 1 + 1, k + 1 + 1 + 1 + 1 + 1⟩, k + 1 + 1 + 1 + 1 + 1 + 1, k + 1 + 1 + 1 + 1 + 1 + 1 + 1, k + 1 + 1 + 1 + 1 + 1 + 1 + 1 + 1, k + 1 + 1 + 1 + 1 + 1 + 1 + 1 + 1 + 1, (k + 1 + 1 + 1 + 1 + 1 + 1 + 1 + 1 + 1 + 1).tmod 3 == 0⟩
def Port.n_ (x : Port) : Int := 1 + 1 + 1 + 1 + 1 + 1 + 1 + 1 + 1 + 1 + 1
theorem Port.n_pos (x : Port) : 0 ≤ Port.n_ x := by show (0 : Int) ≤ 1 + 1 + 1 + 1 + 1 + 1 + 1 + 1 + 1 + 1 + 1; decide
def Bridge.mkTop (x : Bridge) (k : Int) : Bridge := ⟨x.Id, markS Port.mk_ Port.n_ x.Ports (k)⟩
def Bridge.nTop (x : Bridge) : Int := cntS Port.n_ x.Ports
theorem Bridge.nTop_pos (x : Bridge) : 0 ≤ Bridge.nTop x := by
  have h0 := cntS_nonneg (n := Port.n_) Port.n_pos x.Ports
  unfold Bridge.nTop
  omega
end Go.Md
namespace Go.Ev
open Go.Md
def o55 (a : List UInt8) (left : Int) : Bool × List Row × List Row := (decide (0 ≤ left) && (decide (left ≤ 1048576) && decide (a.length ≤ 9223372036854775807)), [[.int .i64 (szR (a.length : Int) left)]], [])
def c55 : Contract
  | [[.sl false 1 a], [.int .i64 left]] => some (isS UInt8 false a && (o55 (deS UInt8 a) left).1, (o55 (deS UInt8 a) left).2.1, (o55 (deS UInt8 a) left).2.2)
  | _ => none
theorem r55 (a : List UInt8) (left : Int) (n : Nat) : evFn ⟨prog, Hx, 55⟩ T21.call n f55 [[.sl false 1 (enS false a)], [.int .i64 left]] = bif decide (wrap i64 (left - ofNat (length (enS false a))) < 0) then some ([[D.int i64 (Int.negSucc 0)]], []) else some ([[D.int i64 (wrap i64 (left - ofNat (length (enS false a))))]], []) := by kernel_rfl
theorem m55 (a : List UInt8) (left : Int) (hpre : (o55 a left).1 = true) : evFn ⟨Go.Proofs.Try.prog, Hx, 55⟩ T21.call 0 f55 [[.sl false 1 (enS false a)], [.int .i64 left]] = some (o55 a left).2 := by
  refine (r55 a left _).trans ?_
  show _ = (some ([[.int .i64 (szR (a.length : Int) left)]], []) : Option (List Row × List Row))
  replace hpre : (decide (0 ≤ left) && (decide (left ≤ 1048576) && decide (a.length ≤ 9223372036854775807))) = true := hpre
  simp only [Bool.and_eq_true, decide_eq_true_eq] at hpre
  obtain ⟨h0, h1, h2⟩ := hpre
  simp only [enS_length]
  have hw : IntKind.wrap IntKind.i64 (left - Int.ofNat a.length) = left - (a.length : Int) := wrap_of (by show _ ≤ left - (a.length : Int); omega) (by show left - (a.length : Int) ≤ _; omega)
  rw [hw]
  unfold szR
  by_cases h : (a.length : Int) ≤ left
  · rw [decide_eq_false (by omega), decide_eq_true h]; rfl
  · rw [decide_eq_true (by omega), decide_eq_false h]; rfl
theorem s55 : SoundAt Go.Proofs.Try.prog Hx 55 c55 := soundAt_of T21_sound mixed func55 (by kernel_rfl) (by
  intro rows r h
  unfold c55 at h
  split at h
  · rename_i a left
    obtain ⟨hp, hr⟩ := Prod.mk.inj (Option.some.inj h)
    subst hr
    simp only [Bool.and_eq_true] at hp
    obtain ⟨hs0, hp⟩ := hp
    obtain ⟨xs0, rfl⟩ := isS_ex hs0
    simp only [deS_enS] at hp ⊢
    exact ⟨_, m55 xs0 left hp⟩
  · cases h)
def T55 : Table := (55, c55) :: T21
theorem T55_sound : Table.Sound Go.Proofs.Try.prog Hx T55 := Table.sound_cons s55 T21_sound
def o19 (a : Snap) (left : Int) : Bool × List Row × List Row := (decide (0 ≤ left) && (decide (left ≤ 1048576) && Snap.big a), [[.int .i64 (szR (Snap.wt a) left)]], [])
def c19 : Contract
  | [[.int .i64 a_N, .sl false 1 a_Bytes], [.int .i64 left]] => some (isS UInt8 false a_Bytes && (o19 ⟨a_N, (deS UInt8 a_Bytes)⟩ left).1, (o19 ⟨a_N, (deS UInt8 a_Bytes)⟩ left).2.1, (o19 ⟨a_N, (deS UInt8 a_Bytes)⟩ left).2.2)
  | _ => none
theorem r19 (a : Snap) (left : Int) (n : Nat) : evFn ⟨prog, Hx, 19⟩ T55.call n f19 [[.int .i64 a.N, .sl false 1 (enS false a.Bytes)], [.int .i64 left]] = bif isS UInt8 false (enS false (Snap.Bytes a)) && (decide (0 ≤ left) && (decide (left ≤ 1048576) && decide (length (deS UInt8 (enS false (Snap.Bytes a))) ≤ 9223372036854775807))) then bif decide (szR (ofNat (length (deS UInt8 (enS false (Snap.Bytes a))))) left < 0) then some ([[D.int i64 (Int.negSucc 0)]], []) else some ([[D.int i64 (szR (ofNat (length (deS UInt8 (enS false (Snap.Bytes a))))) left)]], []) else none := by kernel_rfl
theorem m19 (a : Snap) (left : Int) (hpre : (o19 a left).1 = true) : evFn ⟨Go.Proofs.Try.prog, Hx, 19⟩ T55.call 0 f19 [[.int .i64 a.N, .sl false 1 (enS false a.Bytes)], [.int .i64 left]] = some (o19 a left).2 := by
  refine (r19 a left _).trans ?_
  show _ = (some ([[.int .i64 (szR (Snap.wt a) left)]], []) : Option (List Row × List Row))
  replace hpre : (decide (0 ≤ left) && (decide (left ≤ 1048576) && Snap.big a)) = true := hpre
  simp only [Bool.and_eq_true, decide_eq_true_eq] at hpre
  obtain ⟨h0, h1, h2⟩ := hpre
  unfold Snap.big at h2
  try simp only [Bool.and_eq_true] at h2
  unfold Snap.wt
  have p0 : 0 ≤ (a.Bytes.length : Int) := by omega
  have g0 : decide (0 ≤ left) = true := decide_eq_true (by omega)
  have f0 : decide (left ≤ 1048576) = true := decide_eq_true (by omega)
  rcases szR_cases ((a.Bytes.length : Int)) (left) (by omega) with ⟨a0, b0, c0⟩ | ⟨a0, b0, c0⟩
  case inr =>
    rw [b0] at c0
    simp only [g0, f0, b0, c0, h2, Int.ofNat_eq_natCast, isS_enS, deS_enS, cond_true, cond_false, Bool.and_self, Bool.and_true, Bool.true_and]
    try rw [szR_gt (by omega)]
    try rfl
  rw [b0] at c0
  simp only [g0, f0, b0, c0, h2, Int.ofNat_eq_natCast, isS_enS, deS_enS, cond_true, cond_false, Bool.and_self, Bool.and_true, Bool.true_and]
  try rw [szR_le (by omega)]
  try rfl
theorem s19 : SoundAt Go.Proofs.Try.prog Hx 19 c19 := soundAt_of T55_sound mixed func19 (by kernel_rfl) (by
  intro rows r h
  unfold c19 at h
  split at h
  · rename_i a_N a_Bytes left
    obtain ⟨hp, hr⟩ := Prod.mk.inj (Option.some.inj h)
    subst hr
    simp only [Bool.and_eq_true] at hp
    obtain ⟨hs0, hp⟩ := hp
    obtain ⟨xs0, rfl⟩ := isS_ex hs0
    simp only [deS_enS] at hp ⊢
    exact ⟨_, m19 ⟨a_N, xs0⟩ left hp⟩
  · cases h)
def T19 : Table := (19, c19) :: T55
theorem T19_sound : Table.Sound Go.Proofs.Try.prog Hx T19 := Table.sound_cons s19 T55_sound
def o20 (a : List In) (left : Int) : Bool × List Row × List Row := (decide (0 ≤ left) && (decide (left ≤ 1048576) && decide (a.length ≤ 9223372036854775807)), [[.int .i64 (szR (a.length : Int) left)]], [])
def c20 : Contract
  | [[.sl false 8 a], [.int .i64 left]] => some (isS In false a && (o20 (deS In a) left).1, (o20 (deS In a) left).2.1, (o20 (deS In a) left).2.2)
  | _ => none
theorem r20 (a : List In) (left : Int) (n : Nat) : evFn ⟨prog, Hx, 20⟩ T19.call n f20 [[.sl false 8 (enS false a)], [.int .i64 left]] = bif decide (wrap i64 (left - ofNat (length (enS false a))) < 0) then some ([[D.int i64 (Int.negSucc 0)]], []) else some ([[D.int i64 (wrap i64 (left - ofNat (length (enS false a))))]], []) := by kernel_rfl
theorem m20 (a : List In) (left : Int) (hpre : (o20 a left).1 = true) : evFn ⟨Go.Proofs.Try.prog, Hx, 20⟩ T19.call 0 f20 [[.sl false 8 (enS false a)], [.int .i64 left]] = some (o20 a left).2 := by
  refine (r20 a left _).trans ?_
  show _ = (some ([[.int .i64 (szR (a.length : Int) left)]], []) : Option (List Row × List Row))
  replace hpre : (decide (0 ≤ left) && (decide (left ≤ 1048576) && decide (a.length ≤ 9223372036854775807))) = true := hpre
  simp only [Bool.and_eq_true, decide_eq_true_eq] at hpre
  obtain ⟨h0, h1, h2⟩ := hpre
  simp only [enS_length]
  have hw : IntKind.wrap IntKind.i64 (left - Int.ofNat a.length) = left - (a.length : Int) := wrap_of (by show _ ≤ left - (a.length : Int); omega) (by show left - (a.length : Int) ≤ _; omega)
  rw [hw]
  unfold szR
  by_cases h : (a.length : Int) ≤ left
  · rw [decide_eq_false (by omega), decide_eq_true h]; rfl
  · rw [decide_eq_true (by omega), decide_eq_false h]; rfl
theorem s20 : SoundAt Go.Proofs.Try.prog Hx 20 c20 := soundAt_of T19_sound mixed func20 (by kernel_rfl) (by
  intro rows r h
  unfold c20 at h
  split at h
  · rename_i a left
    obtain ⟨hp, hr⟩ := Prod.mk.inj (Option.some.inj h)
    subst hr
    simp only [Bool.and_eq_true] at hp
    obtain ⟨hs0, hp⟩ := hp
    obtain ⟨xs0, rfl⟩ := isS_ex hs0
    simp only [deS_enS] at hp ⊢
    exact ⟨_, m20 xs0 left hp⟩
  · cases h)
def T20 : Table := (20, c20) :: T19
theorem T20_sound : Table.Sound Go.Proofs.Try.prog Hx T20 := Table.sound_cons s20 T19_sound
def o59 (a : List UInt8) : Bool × List Row × List Row := (decide (a.length ≤ 1048576), [[.sl true 1 (enS true (a))]], [])
def c59 : Contract
  | [[.sl false 1 a]] => some (isS UInt8 false a && (o59 (deS UInt8 a)).1, (o59 (deS UInt8 a)).2.1, (o59 (deS UInt8 a)).2.2)
  | _ => none
def k59_0 (n : Nat) : Ex → St → RR := kThen (fun st ↦ runCode (Ctx.mk prog Hx (59)) (Table.call T20) n (codeAt [1, 1, 1] (bodyOf f59)) (Lv.mk 4 [] 4) st (kLeave (Ctx.P (Ctx.mk prog Hx (59))) (List.zip (Array.toList (Go.Func.resultTypes f59)) (Array.toList (Go.Func.results f59))) [] [])) (kLeave (Ctx.P (Ctx.mk prog Hx (59))) (List.zip (Array.toList (Go.Func.resultTypes f59)) (Array.toList (Go.Func.results f59))) [] [])
def k59_1 (n : Nat) : Ex → St → RR := kBlock (0) (k59_0 n)
def S59_0 (a : List UInt8) (i0 : Int) (es1 : List (List D)) : St := St.mk [V_ [C.d (D.sl false 1 (enS false a))], U, U, V_ [C.view 0 0 0 [] 1 none], I_ i0, U, U, U, U, U, U, U, U, U, U, U, U, U, U, U, U, U] [Root.mk false 1 es1 0 0 true true false]
def B59_0 (n : Nat) : St → (Ex → St → RR) → RR := runCode (Ctx.mk prog Hx (59)) (Table.call T20) n (codeAt [1, 1, 0, 1, 0, 0] (bodyOf f59)) (Lv.mk 25 [(0, 8)] 4)
def X59_2 (a : List UInt8) (i0 : Int) (es1 : List (List D)) : St := St.mk [V_ [C.d (D.sl false 1 (enS false a))], U, U, V_ [C.view 0 0 0 [] 1 none], I_ i0, U, U, U, I_ i0, V_ [C.d (D.sl false 1 (enS false a))], I_ (ofNat (length (enS false a))), B_ false, U, U, U, U, U, U, U, U, U, U] [Root.mk false 1 es1 0 0 true true false]
theorem q59_0 (a : List UInt8) (n : Nat) (i0 : Int) (es1 : List (List D)) (f : St → RR) (K : Ex → St → RR) : B59_0 n (S59_0 a i0 es1) (kThen (fun st ↦ f (St.head 1 25 2096912 st)) K) = bif decide (i0 < ofNat (length (enS false a))) then bif decide (0 ≤ i0) && decide (i0 < ofNat (length (enS false a))) then bif Leaf.fit false (Leaf.int IntKind.u8) (getD (getD (enS false a) (toNat i0) []) 0 D.dead) && true then bif decide (0 ≤ i0) && decide (i0 < ofNat (length es1)) then f (S59_0 a (wrap i64 (i0 + 1)) (set es1 (0 + toNat i0) [D.int IntKind.u8 (D.num (getD (getD (enS false a) (toNat i0) []) 0 D.dead))])) else none else none else none else K (Ex.exit 0) (X59_2 a i0 es1) := by kernel_rfl
theorem aX59_2 (a : List UInt8) (n : Nat) (i0 : Int) (es1 : List (List D)) : k59_1 n (Ex.exit 0) (X59_2 a i0 es1) = some ([[D.sl true 1 es1]], []) := by kernel_rfl
theorem r59 (a : List UInt8) (n : Nat) : evFn ⟨prog, Hx, 59⟩ T20.call n f59 [[.sl false 1 (enS false a)]] = bif decide (0 ≤ ofNat (length (enS false a))) && (decide (ofNat (length (enS false a)) ≤ ofNat (length (enS false a))) && decide (toNat (ofNat (length (enS false a))) * 1 ≤ 140737488355328)) then loopRun (B59_0 n) 1 25 2096912 n (S59_0 a (0) (replicate (toNat (ofNat (length (enS false a)))) [D.int IntKind.u8 (0)])) (k59_1 n) else none := by kernel_rfl
theorem m59 (a : List UInt8) (hpre : (o59 a).1 = true) : evFn ⟨Go.Proofs.Try.prog, Hx, 59⟩ T20.call (a.length + 1) f59 [[.sl false 1 (enS false a)]] = some (o59 a).2 := by
  refine (r59 a _).trans ?_
  show _ = (some ([[.sl true 1 (enS true (a))]], []) : Option (List Row × List Row))
  replace hpre : (decide (a.length ≤ 1048576)) = true := hpre
  have hlen : a.length ≤ 1048576 := of_decide_eq_true hpre
  rw [enS_length, make_ok (by omega), cond_true, toNat_of]
  refine (congrArg (fun z => loopRun _ _ _ _ _ (S59_0 a 0 z) _) (enS_rep true a.length (En.nil : UInt8))).trans ?_
  refine loop_list (xs := a) (fun i (ys : List UInt8) => S59_0 a (Int.ofNat i) (enS true ys)) (fun i ys => ys.length = a.length ∧ ys.take i = a.take i) (fun _ _ _ => some ([[D.sl true 1 (enS true a)]], [])) ?_ ?_ (a.length + 1) _ (by omega) ⟨List.length_replicate .., rfl⟩
  · rintro ys ⟨h2, h3⟩ f
    refine (q59_0 a _ _ _ f _).trans ?_
    simp only [enS_length, dec_lt, Nat.lt_irrefl, decide_false, cond_false]
    refine (aX59_2 a _ _ _).trans ?_
    rw [List.take_length, ← h2, List.take_length] at h3
    subst h3
    rfl
  · rintro i ys hi ⟨h2, h3⟩ f hf
    refine (q59_0 a _ _ _ f _).trans ?_
    simp only [enS_length, toNat_of, dec_lt, dec_ge, enS_get _ hi, h2, hi, wrap_succ (show i < 4611686018427387904 by omega), Nat.zero_add, decide_true, cond_true, Bool.and_self]
    exact (congrArg f (congrArg (S59_0 a _) (enS_set true ys i a[i]))).trans (hf (ys.set i a[i]) ⟨by rw [List.length_set]; exact h2, take_set_succ hi h2 h3⟩)
theorem s59 : SoundAt Go.Proofs.Try.prog Hx 59 c59 := soundAt_of T20_sound mixed func59 (by kernel_rfl) (by
  intro rows r h
  unfold c59 at h
  split at h
  · rename_i a
    obtain ⟨hp, hr⟩ := Prod.mk.inj (Option.some.inj h)
    subst hr
    simp only [Bool.and_eq_true] at hp
    obtain ⟨hs0, hp⟩ := hp
    obtain ⟨xs0, rfl⟩ := isS_ex hs0
    simp only [deS_enS] at hp ⊢
    exact ⟨_, m59 xs0 hp⟩
  · cases h)
def T59 : Table := (59, c59) :: T20
theorem T59_sound : Table.Sound Go.Proofs.Try.prog Hx T59 := Table.sound_cons s59 T20_sound
def o22 (a : Snap) : Bool × List Row × List Row := (Snap.small a, [[.int .i64 (a).N, .sl true 1 (enS true (a).Bytes)]], [])
def c22 : Contract
  | [[.int .i64 a_N, .sl false 1 a_Bytes]] => some (isS UInt8 false a_Bytes && (o22 ⟨a_N, (deS UInt8 a_Bytes)⟩).1, (o22 ⟨a_N, (deS UInt8 a_Bytes)⟩).2.1, (o22 ⟨a_N, (deS UInt8 a_Bytes)⟩).2.2)
  | _ => none
theorem r22 (a : Snap) (n : Nat) : evFn ⟨prog, Hx, 22⟩ T59.call n f22 [[.int .i64 a.N, .sl false 1 (enS false a.Bytes)]] = bif isS UInt8 false (enS false (Snap.Bytes a)) && decide (length (deS UInt8 (enS false (Snap.Bytes a))) ≤ 1048576) then some ([[D.int i64 (Snap.N a), D.sl true 1 (enS true (deS UInt8 (enS false (Snap.Bytes a))))]], []) else none := by kernel_rfl
theorem m22 (a : Snap) (hpre : (o22 a).1 = true) : evFn ⟨Go.Proofs.Try.prog, Hx, 22⟩ T59.call 0 f22 [[.int .i64 a.N, .sl false 1 (enS false a.Bytes)]] = some (o22 a).2 := by
  refine (r22 a _).trans ?_
  show _ = (some ([[.int .i64 (a).N, .sl true 1 (enS true (a).Bytes)]], []) : Option (List Row × List Row))
  replace hpre : (Snap.small a) = true := hpre
  unfold Snap.small at hpre
  try simp only [Bool.and_eq_true] at hpre
  simp only [hpre, isS_enS, deS_enS, cond_true, Bool.and_self, Bool.and_true, Bool.true_and]
  try rfl
theorem s22 : SoundAt Go.Proofs.Try.prog Hx 22 c22 := soundAt_of T59_sound mixed func22 (by kernel_rfl) (by
  intro rows r h
  unfold c22 at h
  split at h
  · rename_i a_N a_Bytes
    obtain ⟨hp, hr⟩ := Prod.mk.inj (Option.some.inj h)
    subst hr
    simp only [Bool.and_eq_true] at hp
    obtain ⟨hs0, hp⟩ := hp
    obtain ⟨xs0, rfl⟩ := isS_ex hs0
    simp only [deS_enS] at hp ⊢
    exact ⟨_, m22 ⟨a_N, xs0⟩ hp⟩
  · cases h)
def T22 : Table := (22, c22) :: T59
theorem T22_sound : Table.Sound Go.Proofs.Try.prog Hx T22 := Table.sound_cons s22 T59_sound
def o105 (a : Vec) : Bool × List Row × List Row := (true, [[.int .i64 (a).Root, .int .i64 (a).Cost, .int .i64 (a).Bridge, .int .i64 (a).Port]], [])
def c105 : Contract
  | [[.int .i64 a_Root, .int .i64 a_Cost, .int .i64 a_Bridge, .int .i64 a_Port]] => some ((o105 ⟨a_Root, a_Cost, a_Bridge, a_Port⟩).1, (o105 ⟨a_Root, a_Cost, a_Bridge, a_Port⟩).2.1, (o105 ⟨a_Root, a_Cost, a_Bridge, a_Port⟩).2.2)
  | _ => none
theorem r105 (a : Vec) (n : Nat) : evFn ⟨prog, Hx, 105⟩ T22.call n f105 [[.int .i64 a.Root, .int .i64 a.Cost, .int .i64 a.Bridge, .int .i64 a.Port]] = some ([[D.int i64 (Vec.Root a), D.int i64 (Vec.Cost a), D.int i64 (Vec.Bridge a), D.int i64 (Vec.Port a)]], []) := by kernel_rfl
theorem m105 (a : Vec) (hpre : (o105 a).1 = true) : evFn ⟨Go.Proofs.Try.prog, Hx, 105⟩ T22.call 0 f105 [[.int .i64 a.Root, .int .i64 a.Cost, .int .i64 a.Bridge, .int .i64 a.Port]] = some (o105 a).2 := by
  refine (r105 a _).trans ?_
  show _ = (some ([[.int .i64 (a).Root, .int .i64 (a).Cost, .int .i64 (a).Bridge, .int .i64 (a).Port]], []) : Option (List Row × List Row))
  replace hpre : (true) = true := hpre
  rfl
theorem s105 : SoundAt Go.Proofs.Try.prog Hx 105 c105 := soundAt_of T22_sound mixed func105 (by kernel_rfl) (by
  intro rows r h
  unfold c105 at h
  split at h
  · rename_i a_Root a_Cost a_Bridge a_Port
    obtain ⟨hp, hr⟩ := Prod.mk.inj (Option.some.inj h)
    subst hr
    exact ⟨_, m105 ⟨a_Root, a_Cost, a_Bridge, a_Port⟩ hp⟩
  · cases h)
def T105 : Table := (105, c105) :: T22
theorem T105_sound : Table.Sound Go.Proofs.Try.prog Hx T105 := Table.sound_cons s105 T22_sound
def o60 (a : In) : Bool × List Row × List Row := (true, [[.int .i64 (a).Kind, .int .i64 (a).Port, .int .i64 (a).Vec.Root, .int .i64 (a).Vec.Cost, .int .i64 (a).Vec.Bridge, .int .i64 (a).Vec.Port, .int .i64 (a).Hops, .bool (a).Up]], [])
def c60 : Contract
  | [[.int .i64 a_Kind, .int .i64 a_Port, .int .i64 a_Vec_Root, .int .i64 a_Vec_Cost, .int .i64 a_Vec_Bridge, .int .i64 a_Vec_Port, .int .i64 a_Hops, .bool a_Up]] => some ((o60 ⟨a_Kind, a_Port, ⟨a_Vec_Root, a_Vec_Cost, a_Vec_Bridge, a_Vec_Port⟩, a_Hops, a_Up⟩).1, (o60 ⟨a_Kind, a_Port, ⟨a_Vec_Root, a_Vec_Cost, a_Vec_Bridge, a_Vec_Port⟩, a_Hops, a_Up⟩).2.1, (o60 ⟨a_Kind, a_Port, ⟨a_Vec_Root, a_Vec_Cost, a_Vec_Bridge, a_Vec_Port⟩, a_Hops, a_Up⟩).2.2)
  | _ => none
theorem r60 (a : In) (n : Nat) : evFn ⟨prog, Hx, 60⟩ T105.call n f60 [[.int .i64 a.Kind, .int .i64 a.Port, .int .i64 a.Vec.Root, .int .i64 a.Vec.Cost, .int .i64 a.Vec.Bridge, .int .i64 a.Vec.Port, .int .i64 a.Hops, .bool a.Up]] = some ([[D.int i64 (In.Kind a), D.int i64 (In.Port a), D.int i64 (Vec.Root (In.Vec a)), D.int i64 (Vec.Cost (In.Vec a)), D.int i64 (Vec.Bridge (In.Vec a)), D.int i64 (Vec.Port (In.Vec a)), D.int i64 (In.Hops a), D.bool (In.Up a)]], []) := by kernel_rfl
theorem m60 (a : In) (hpre : (o60 a).1 = true) : evFn ⟨Go.Proofs.Try.prog, Hx, 60⟩ T105.call 0 f60 [[.int .i64 a.Kind, .int .i64 a.Port, .int .i64 a.Vec.Root, .int .i64 a.Vec.Cost, .int .i64 a.Vec.Bridge, .int .i64 a.Vec.Port, .int .i64 a.Hops, .bool a.Up]] = some (o60 a).2 := by
  refine (r60 a _).trans ?_
  show _ = (some ([[.int .i64 (a).Kind, .int .i64 (a).Port, .int .i64 (a).Vec.Root, .int .i64 (a).Vec.Cost, .int .i64 (a).Vec.Bridge, .int .i64 (a).Vec.Port, .int .i64 (a).Hops, .bool (a).Up]], []) : Option (List Row × List Row))
  replace hpre : (true) = true := hpre
  rfl
theorem s60 : SoundAt Go.Proofs.Try.prog Hx 60 c60 := soundAt_of T105_sound mixed func60 (by kernel_rfl) (by
  intro rows r h
  unfold c60 at h
  split at h
  · rename_i a_Kind a_Port a_Vec_Root a_Vec_Cost a_Vec_Bridge a_Vec_Port a_Hops a_Up
    obtain ⟨hp, hr⟩ := Prod.mk.inj (Option.some.inj h)
    subst hr
    exact ⟨_, m60 ⟨a_Kind, a_Port, ⟨a_Vec_Root, a_Vec_Cost, a_Vec_Bridge, a_Vec_Port⟩, a_Hops, a_Up⟩ hp⟩
  · cases h)
def T60 : Table := (60, c60) :: T105
theorem T60_sound : Table.Sound Go.Proofs.Try.prog Hx T60 := Table.sound_cons s60 T105_sound
def o23 (a : List In) : Bool × List Row × List Row := (decide (a.length ≤ 1048576), [[.sl true 8 (enS true (a))]], [])
def c23 : Contract
  | [[.sl false 8 a]] => some (isS In false a && (o23 (deS In a)).1, (o23 (deS In a)).2.1, (o23 (deS In a)).2.2)
  | _ => none
def k23_0 (n : Nat) : Ex → St → RR := kThen (fun st ↦ runCode (Ctx.mk prog Hx (23)) (Table.call T60) n (codeAt [1, 1, 1] (bodyOf f23)) (Lv.mk 4 [] 4) st (kLeave (Ctx.P (Ctx.mk prog Hx (23))) (List.zip (Array.toList (Go.Func.resultTypes f23)) (Array.toList (Go.Func.results f23))) [] [])) (kLeave (Ctx.P (Ctx.mk prog Hx (23))) (List.zip (Array.toList (Go.Func.resultTypes f23)) (Array.toList (Go.Func.results f23))) [] [])
def k23_1 (n : Nat) : Ex → St → RR := kBlock (0) (k23_0 n)
def S23_0 (a : List In) (i0 : Int) (es1 : List (List D)) : St := St.mk [V_ [C.d (D.sl false 8 (enS false a))], U, U, V_ [C.view 0 0 0 [] 8 none], I_ i0, U, U, U, U, U, U, U, U, U, U, U, U, U, U, U, U, U, U] [Root.mk false 8 es1 0 0 true true false]
def B23_0 (n : Nat) : St → (Ex → St → RR) → RR := runCode (Ctx.mk prog Hx (23)) (Table.call T60) n (codeAt [1, 1, 0, 1, 0, 0] (bodyOf f23)) (Lv.mk 25 [(0, 8)] 4)
def X23_2 (a : List In) (i0 : Int) (es1 : List (List D)) : St := St.mk [V_ [C.d (D.sl false 8 (enS false a))], U, U, V_ [C.view 0 0 0 [] 8 none], I_ i0, U, U, U, I_ i0, V_ [C.d (D.sl false 8 (enS false a))], I_ (ofNat (length (enS false a))), B_ false, U, U, U, U, U, U, U, U, U, U, U] [Root.mk false 8 es1 0 0 true true false]
theorem q23_0 (a : List In) (n : Nat) (i0 : Int) (es1 : List (List D)) (f : St → RR) (K : Ex → St → RR) : B23_0 n (S23_0 a i0 es1) (kThen (fun st ↦ f (St.head 1 25 4194064 st)) K) = bif decide (i0 < ofNat (length (enS false a))) then bif decide (0 ≤ i0) && decide (i0 < ofNat (length (enS false a))) then bif Leaf.fit false (Leaf.int i64) (getD (getD (enS false a) (toNat i0) []) 0 D.dead) && (Leaf.fit false (Leaf.int i64) (getD (getD (enS false a) (toNat i0) []) 1 D.dead) && (Leaf.fit false (Leaf.int i64) (getD (getD (enS false a) (toNat i0) []) 2 D.dead) && (Leaf.fit false (Leaf.int i64) (getD (getD (enS false a) (toNat i0) []) 3 D.dead) && (Leaf.fit false (Leaf.int i64) (getD (getD (enS false a) (toNat i0) []) 4 D.dead) && (Leaf.fit false (Leaf.int i64) (getD (getD (enS false a) (toNat i0) []) 5 D.dead) && (Leaf.fit false (Leaf.int i64) (getD (getD (enS false a) (toNat i0) []) 6 D.dead) && (Leaf.fit false Leaf.bool (getD (getD (enS false a) (toNat i0) []) 7 D.dead) && true))))))) then bif decide (0 ≤ i0) && decide (i0 < ofNat (length es1)) then f (S23_0 a (wrap i64 (i0 + 1)) (set es1 (0 + toNat i0) [D.int i64 (D.num (getD (getD (enS false a) (toNat i0) []) 0 D.dead)), D.int i64 (D.num (getD (getD (enS false a) (toNat i0) []) 1 D.dead)), D.int i64 (D.num (getD (getD (enS false a) (toNat i0) []) 2 D.dead)), D.int i64 (D.num (getD (getD (enS false a) (toNat i0) []) 3 D.dead)), D.int i64 (D.num (getD (getD (enS false a) (toNat i0) []) 4 D.dead)), D.int i64 (D.num (getD (getD (enS false a) (toNat i0) []) 5 D.dead)), D.int i64 (D.num (getD (getD (enS false a) (toNat i0) []) 6 D.dead)), D.bool (D.flag (getD (getD (enS false a) (toNat i0) []) 7 D.dead))])) else none else none else none else K (Ex.exit 0) (X23_2 a i0 es1) := by kernel_rfl
theorem aX23_2 (a : List In) (n : Nat) (i0 : Int) (es1 : List (List D)) : k23_1 n (Ex.exit 0) (X23_2 a i0 es1) = some ([[D.sl true 8 es1]], []) := by kernel_rfl
theorem r23 (a : List In) (n : Nat) : evFn ⟨prog, Hx, 23⟩ T60.call n f23 [[.sl false 8 (enS false a)]] = bif decide (0 ≤ ofNat (length (enS false a))) && (decide (ofNat (length (enS false a)) ≤ ofNat (length (enS false a))) && decide (toNat (ofNat (length (enS false a))) * 64 ≤ 140737488355328)) then loopRun (B23_0 n) 1 25 4194064 n (S23_0 a (0) (replicate (toNat (ofNat (length (enS false a)))) [D.int i64 (0), D.int i64 (0), D.int i64 (0), D.int i64 (0), D.int i64 (0), D.int i64 (0), D.int i64 (0), D.bool false])) (k23_1 n) else none := by kernel_rfl
theorem m23 (a : List In) (hpre : (o23 a).1 = true) : evFn ⟨Go.Proofs.Try.prog, Hx, 23⟩ T60.call (a.length + 1) f23 [[.sl false 8 (enS false a)]] = some (o23 a).2 := by
  refine (r23 a _).trans ?_
  show _ = (some ([[.sl true 8 (enS true (a))]], []) : Option (List Row × List Row))
  replace hpre : (decide (a.length ≤ 1048576)) = true := hpre
  have hlen : a.length ≤ 1048576 := of_decide_eq_true hpre
  rw [enS_length, make_ok (by omega), cond_true, toNat_of]
  refine (congrArg (fun z => loopRun _ _ _ _ _ (S23_0 a 0 z) _) (enS_rep true a.length (En.nil : In))).trans ?_
  refine loop_list (xs := a) (fun i (ys : List In) => S23_0 a (Int.ofNat i) (enS true ys)) (fun i ys => ys.length = a.length ∧ ys.take i = a.take i) (fun _ _ _ => some ([[D.sl true 8 (enS true a)]], [])) ?_ ?_ (a.length + 1) _ (by omega) ⟨List.length_replicate .., rfl⟩
  · rintro ys ⟨h2, h3⟩ f
    refine (q23_0 a _ _ _ f _).trans ?_
    simp only [enS_length, dec_lt, Nat.lt_irrefl, decide_false, cond_false]
    refine (aX23_2 a _ _ _).trans ?_
    rw [List.take_length, ← h2, List.take_length] at h3
    subst h3
    rfl
  · rintro i ys hi ⟨h2, h3⟩ f hf
    refine (q23_0 a _ _ _ f _).trans ?_
    simp only [enS_length, toNat_of, dec_lt, dec_ge, enS_get _ hi, h2, hi, wrap_succ (show i < 4611686018427387904 by omega), Nat.zero_add, decide_true, cond_true, Bool.and_self]
    exact (congrArg f (congrArg (S23_0 a _) (enS_set true ys i a[i]))).trans (hf (ys.set i a[i]) ⟨by rw [List.length_set]; exact h2, take_set_succ hi h2 h3⟩)
theorem s23 : SoundAt Go.Proofs.Try.prog Hx 23 c23 := soundAt_of T60_sound mixed func23 (by kernel_rfl) (by
  intro rows r h
  unfold c23 at h
  split at h
  · rename_i a
    obtain ⟨hp, hr⟩ := Prod.mk.inj (Option.some.inj h)
    subst hr
    simp only [Bool.and_eq_true] at hp
    obtain ⟨hs0, hp⟩ := hp
    obtain ⟨xs0, rfl⟩ := isS_ex hs0
    simp only [deS_enS] at hp ⊢
    exact ⟨_, m23 xs0 hp⟩
  · cases h)
def T23 : Table := (23, c23) :: T60
theorem T23_sound : Table.Sound Go.Proofs.Try.prog Hx T23 := Table.sound_cons s23 T60_sound
def o114 (a : Vec) (b : Vec) : Bool × List Row × List Row := (sameB a b, [[.bool (true)]], [])
def c114 : Contract
  | [[.int .i64 a_Root, .int .i64 a_Cost, .int .i64 a_Bridge, .int .i64 a_Port], [.int .i64 b_Root, .int .i64 b_Cost, .int .i64 b_Bridge, .int .i64 b_Port]] => some ((o114 ⟨a_Root, a_Cost, a_Bridge, a_Port⟩ ⟨b_Root, b_Cost, b_Bridge, b_Port⟩).1, (o114 ⟨a_Root, a_Cost, a_Bridge, a_Port⟩ ⟨b_Root, b_Cost, b_Bridge, b_Port⟩).2.1, (o114 ⟨a_Root, a_Cost, a_Bridge, a_Port⟩ ⟨b_Root, b_Cost, b_Bridge, b_Port⟩).2.2)
  | _ => none
theorem r114 (a : Vec) (b : Vec) (n : Nat) : evFn ⟨prog, Hx, 114⟩ T23.call n f114 [[.int .i64 a.Root, .int .i64 a.Cost, .int .i64 a.Bridge, .int .i64 a.Port], [.int .i64 b.Root, .int .i64 b.Cost, .int .i64 b.Bridge, .int .i64 b.Port]] = bif Vec.Root a != Vec.Root b then some ([[D.bool false]], []) else bif Vec.Cost a != Vec.Cost b then some ([[D.bool false]], []) else bif Vec.Bridge a != Vec.Bridge b then some ([[D.bool false]], []) else bif Vec.Port a != Vec.Port b then some ([[D.bool false]], []) else some ([[D.bool true]], []) := by kernel_rfl
theorem m114 (a : Vec) (b : Vec) (hpre : (o114 a b).1 = true) : evFn ⟨Go.Proofs.Try.prog, Hx, 114⟩ T23.call 0 f114 [[.int .i64 a.Root, .int .i64 a.Cost, .int .i64 a.Bridge, .int .i64 a.Port], [.int .i64 b.Root, .int .i64 b.Cost, .int .i64 b.Bridge, .int .i64 b.Port]] = some (o114 a b).2 := by
  refine (r114 a b _).trans ?_
  show _ = (some ([[.bool (true)]], []) : Option (List Row × List Row))
  replace hpre : (sameB a b) = true := hpre
  have := sameB_eq hpre
  subst this
  simp only [bne_self_eq_false, cond_false, sameB_self, cond_true, Bool.not_true]
theorem s114 : SoundAt Go.Proofs.Try.prog Hx 114 c114 := soundAt_of T23_sound mixed func114 (by kernel_rfl) (by
  intro rows r h
  unfold c114 at h
  split at h
  · rename_i a_Root a_Cost a_Bridge a_Port b_Root b_Cost b_Bridge b_Port
    obtain ⟨hp, hr⟩ := Prod.mk.inj (Option.some.inj h)
    subst hr
    exact ⟨_, m114 ⟨a_Root, a_Cost, a_Bridge, a_Port⟩ ⟨b_Root, b_Cost, b_Bridge, b_Port⟩ hp⟩
  · cases h)
def T114 : Table := (114, c114) :: T23
theorem T114_sound : Table.Sound Go.Proofs.Try.prog Hx T114 := Table.sound_cons s114 T23_sound
def o113 (a : Port) (b : Port) : Bool × List Row × List Row := (sameB a b, [[.bool (true)]], [])
def c113 : Contract
  | [[.bool a_Up, .bool a_Has, .int .i64 a_Vec_Root, .int .i64 a_Vec_Cost, .int .i64 a_Vec_Bridge, .int .i64 a_Vec_Port, .int .i64 a_Hops, .int .i64 a_Left, .int .i64 a_Role, .int .i64 a_Wait, .bool a_Open], [.bool b_Up, .bool b_Has, .int .i64 b_Vec_Root, .int .i64 b_Vec_Cost, .int .i64 b_Vec_Bridge, .int .i64 b_Vec_Port, .int .i64 b_Hops, .int .i64 b_Left, .int .i64 b_Role, .int .i64 b_Wait, .bool b_Open]] => some ((o113 ⟨a_Up, a_Has, ⟨a_Vec_Root, a_Vec_Cost, a_Vec_Bridge, a_Vec_Port⟩, a_Hops, a_Left, a_Role, a_Wait, a_Open⟩ ⟨b_Up, b_Has, ⟨b_Vec_Root, b_Vec_Cost, b_Vec_Bridge, b_Vec_Port⟩, b_Hops, b_Left, b_Role, b_Wait, b_Open⟩).1, (o113 ⟨a_Up, a_Has, ⟨a_Vec_Root, a_Vec_Cost, a_Vec_Bridge, a_Vec_Port⟩, a_Hops, a_Left, a_Role, a_Wait, a_Open⟩ ⟨b_Up, b_Has, ⟨b_Vec_Root, b_Vec_Cost, b_Vec_Bridge, b_Vec_Port⟩, b_Hops, b_Left, b_Role, b_Wait, b_Open⟩).2.1, (o113 ⟨a_Up, a_Has, ⟨a_Vec_Root, a_Vec_Cost, a_Vec_Bridge, a_Vec_Port⟩, a_Hops, a_Left, a_Role, a_Wait, a_Open⟩ ⟨b_Up, b_Has, ⟨b_Vec_Root, b_Vec_Cost, b_Vec_Bridge, b_Vec_Port⟩, b_Hops, b_Left, b_Role, b_Wait, b_Open⟩).2.2)
  | _ => none
theorem r113 (a : Port) (b : Port) (n : Nat) : evFn ⟨prog, Hx, 113⟩ T114.call n f113 [[.bool a.Up, .bool a.Has, .int .i64 a.Vec.Root, .int .i64 a.Vec.Cost, .int .i64 a.Vec.Bridge, .int .i64 a.Vec.Port, .int .i64 a.Hops, .int .i64 a.Left, .int .i64 a.Role, .int .i64 a.Wait, .bool a.Open], [.bool b.Up, .bool b.Has, .int .i64 b.Vec.Root, .int .i64 b.Vec.Cost, .int .i64 b.Vec.Bridge, .int .i64 b.Vec.Port, .int .i64 b.Hops, .int .i64 b.Left, .int .i64 b.Role, .int .i64 b.Wait, .bool b.Open]] = bif Port.Up a != Port.Up b then some ([[D.bool false]], []) else bif Port.Has a != Port.Has b then some ([[D.bool false]], []) else bif sameB (Port.Vec a) (Port.Vec b) then bif Port.Hops a != Port.Hops b then some ([[D.bool false]], []) else bif Port.Left a != Port.Left b then some ([[D.bool false]], []) else bif Port.Role a != Port.Role b then some ([[D.bool false]], []) else bif Port.Wait a != Port.Wait b then some ([[D.bool false]], []) else bif Port.Open a != Port.Open b then some ([[D.bool false]], []) else some ([[D.bool true]], []) else none := by kernel_rfl
theorem m113 (a : Port) (b : Port) (hpre : (o113 a b).1 = true) : evFn ⟨Go.Proofs.Try.prog, Hx, 113⟩ T114.call 0 f113 [[.bool a.Up, .bool a.Has, .int .i64 a.Vec.Root, .int .i64 a.Vec.Cost, .int .i64 a.Vec.Bridge, .int .i64 a.Vec.Port, .int .i64 a.Hops, .int .i64 a.Left, .int .i64 a.Role, .int .i64 a.Wait, .bool a.Open], [.bool b.Up, .bool b.Has, .int .i64 b.Vec.Root, .int .i64 b.Vec.Cost, .int .i64 b.Vec.Bridge, .int .i64 b.Vec.Port, .int .i64 b.Hops, .int .i64 b.Left, .int .i64 b.Role, .int .i64 b.Wait, .bool b.Open]] = some (o113 a b).2 := by
  refine (r113 a b _).trans ?_
  show _ = (some ([[.bool (true)]], []) : Option (List Row × List Row))
  replace hpre : (sameB a b) = true := hpre
  have := sameB_eq hpre
  subst this
  simp only [bne_self_eq_false, cond_false, sameB_self, cond_true, Bool.not_true]
theorem s113 : SoundAt Go.Proofs.Try.prog Hx 113 c113 := soundAt_of T114_sound mixed func113 (by kernel_rfl) (by
  intro rows r h
  unfold c113 at h
  split at h
  · rename_i a_Up a_Has a_Vec_Root a_Vec_Cost a_Vec_Bridge a_Vec_Port a_Hops a_Left a_Role a_Wait a_Open b_Up b_Has b_Vec_Root b_Vec_Cost b_Vec_Bridge b_Vec_Port b_Hops b_Left b_Role b_Wait b_Open
    obtain ⟨hp, hr⟩ := Prod.mk.inj (Option.some.inj h)
    subst hr
    exact ⟨_, m113 ⟨a_Up, a_Has, ⟨a_Vec_Root, a_Vec_Cost, a_Vec_Bridge, a_Vec_Port⟩, a_Hops, a_Left, a_Role, a_Wait, a_Open⟩ ⟨b_Up, b_Has, ⟨b_Vec_Root, b_Vec_Cost, b_Vec_Bridge, b_Vec_Port⟩, b_Hops, b_Left, b_Role, b_Wait, b_Open⟩ hp⟩
  · cases h)
def T113 : Table := (113, c113) :: T114
theorem T113_sound : Table.Sound Go.Proofs.Try.prog Hx T113 := Table.sound_cons s113 T114_sound
def o64 (a : List Port) (b : List Port) : Bool × List Row × List Row := (sameB a b && (decide (a.length ≤ 1048576)), [[.bool (true)]], [])
def c64 : Contract
  | [[.sl false 11 a], [.sl false 11 b]] => some (isS Port false a && isS Port false b && (o64 (deS Port a) (deS Port b)).1, (o64 (deS Port a) (deS Port b)).2.1, (o64 (deS Port a) (deS Port b)).2.2)
  | _ => none
def k64_0 (n : Nat) : Ex → St → RR := kThen (fun st ↦ runCode (Ctx.mk prog Hx (64)) (Table.call T113) n (codeAt [1, 1, 1] (bodyOf f64)) (Lv.mk 16 [] 16) st (kLeave (Ctx.P (Ctx.mk prog Hx (64))) (List.zip (Array.toList (Go.Func.resultTypes f64)) (Array.toList (Go.Func.results f64))) [] [])) (kLeave (Ctx.P (Ctx.mk prog Hx (64))) (List.zip (Array.toList (Go.Func.resultTypes f64)) (Array.toList (Go.Func.results f64))) [] [])
def k64_1 (n : Nat) : Ex → St → RR := kBlock (0) (k64_0 n)
def S64_0 (a : List Port) (b : List Port) (i0 : Int) : St := St.mk [V_ [C.d (D.sl false 11 (enS false a))], V_ [C.d (D.sl false 11 (enS false b))], U, U, U, I_ i0, U, U, U, U, U, U, U, U, U, U, U, U, U, U, U, U, U, U, U, U, U] []
def B64_0 (n : Nat) : St → (Ex → St → RR) → RR := runCode (Ctx.mk prog Hx (64)) (Table.call T113) n (codeAt [1, 1, 0, 1, 0, 0] (bodyOf f64)) (Lv.mk 35 [(0, 0)] 16)
def X64_2 (a : List Port) (b : List Port) (i0 : Int) : St := St.mk [V_ [C.d (D.sl false 11 (enS false a))], V_ [C.d (D.sl false 11 (enS false b))], U, U, U, I_ i0, U, U, U, U, U, I_ i0, V_ [C.d (D.sl false 11 (enS false a))], I_ (ofNat (length (enS false a))), B_ false, U, U, U, U, U, U, U, U, U, U, U, U] []
theorem q64_0 (a : List Port) (b : List Port) (n : Nat) (i0 : Int) (f : St → RR) (K : Ex → St → RR) : B64_0 n (S64_0 a b i0) (kThen (fun st ↦ f (St.head 0 35 134215728 st)) K) = bif decide (i0 < ofNat (length (enS false a))) then bif decide (0 ≤ i0) && decide (i0 < ofNat (length (enS false a))) then bif Leaf.fit false Leaf.bool (getD (getD (enS false a) (toNat i0) []) 0 D.dead) && (Leaf.fit false Leaf.bool (getD (getD (enS false a) (toNat i0) []) 1 D.dead) && (Leaf.fit false (Leaf.int i64) (getD (getD (enS false a) (toNat i0) []) 2 D.dead) && (Leaf.fit false (Leaf.int i64) (getD (getD (enS false a) (toNat i0) []) 3 D.dead) && (Leaf.fit false (Leaf.int i64) (getD (getD (enS false a) (toNat i0) []) 4 D.dead) && (Leaf.fit false (Leaf.int i64) (getD (getD (enS false a) (toNat i0) []) 5 D.dead) && (Leaf.fit false (Leaf.int i64) (getD (getD (enS false a) (toNat i0) []) 6 D.dead) && (Leaf.fit false (Leaf.int i64) (getD (getD (enS false a) (toNat i0) []) 7 D.dead) && (Leaf.fit false (Leaf.int i64) (getD (getD (enS false a) (toNat i0) []) 8 D.dead) && (Leaf.fit false (Leaf.int i64) (getD (getD (enS false a) (toNat i0) []) 9 D.dead) && (Leaf.fit false Leaf.bool (getD (getD (enS false a) (toNat i0) []) 10 D.dead) && true)))))))))) then bif decide (0 ≤ i0) && decide (i0 < ofNat (length (enS false b))) then bif Leaf.fit false Leaf.bool (getD (getD (enS false b) (toNat i0) []) 0 D.dead) && (Leaf.fit false Leaf.bool (getD (getD (enS false b) (toNat i0) []) 1 D.dead) && (Leaf.fit false (Leaf.int i64) (getD (getD (enS false b) (toNat i0) []) 2 D.dead) && (Leaf.fit false (Leaf.int i64) (getD (getD (enS false b) (toNat i0) []) 3 D.dead) && (Leaf.fit false (Leaf.int i64) (getD (getD (enS false b) (toNat i0) []) 4 D.dead) && (Leaf.fit false (Leaf.int i64) (getD (getD (enS false b) (toNat i0) []) 5 D.dead) && (Leaf.fit false (Leaf.int i64) (getD (getD (enS false b) (toNat i0) []) 6 D.dead) && (Leaf.fit false (Leaf.int i64) (getD (getD (enS false b) (toNat i0) []) 7 D.dead) && (Leaf.fit false (Leaf.int i64) (getD (getD (enS false b) (toNat i0) []) 8 D.dead) && (Leaf.fit false (Leaf.int i64) (getD (getD (enS false b) (toNat i0) []) 9 D.dead) && (Leaf.fit false Leaf.bool (getD (getD (enS false b) (toNat i0) []) 10 D.dead) && true)))))))))) then bif sameB (Port.mk (D.flag (getD (getD (enS false a) (toNat i0) []) 0 D.dead)) (D.flag (getD (getD (enS false a) (toNat i0) []) 1 D.dead)) (Vec.mk (D.num (getD (getD (enS false a) (toNat i0) []) 2 D.dead)) (D.num (getD (getD (enS false a) (toNat i0) []) 3 D.dead)) (D.num (getD (getD (enS false a) (toNat i0) []) 4 D.dead)) (D.num (getD (getD (enS false a) (toNat i0) []) 5 D.dead))) (D.num (getD (getD (enS false a) (toNat i0) []) 6 D.dead)) (D.num (getD (getD (enS false a) (toNat i0) []) 7 D.dead)) (D.num (getD (getD (enS false a) (toNat i0) []) 8 D.dead)) (D.num (getD (getD (enS false a) (toNat i0) []) 9 D.dead)) (D.flag (getD (getD (enS false a) (toNat i0) []) 10 D.dead))) (Port.mk (D.flag (getD (getD (enS false b) (toNat i0) []) 0 D.dead)) (D.flag (getD (getD (enS false b) (toNat i0) []) 1 D.dead)) (Vec.mk (D.num (getD (getD (enS false b) (toNat i0) []) 2 D.dead)) (D.num (getD (getD (enS false b) (toNat i0) []) 3 D.dead)) (D.num (getD (getD (enS false b) (toNat i0) []) 4 D.dead)) (D.num (getD (getD (enS false b) (toNat i0) []) 5 D.dead))) (D.num (getD (getD (enS false b) (toNat i0) []) 6 D.dead)) (D.num (getD (getD (enS false b) (toNat i0) []) 7 D.dead)) (D.num (getD (getD (enS false b) (toNat i0) []) 8 D.dead)) (D.num (getD (getD (enS false b) (toNat i0) []) 9 D.dead)) (D.flag (getD (getD (enS false b) (toNat i0) []) 10 D.dead))) then f (S64_0 a b (wrap i64 (i0 + 1))) else none else none else none else none else none else K (Ex.exit 0) (X64_2 a b i0) := by kernel_rfl
theorem aX64_2 (a : List Port) (b : List Port) (n : Nat) (i0 : Int) : k64_1 n (Ex.exit 0) (X64_2 a b i0) = some ([[D.bool true]], []) := by kernel_rfl
theorem r64 (a : List Port) (b : List Port) (n : Nat) : evFn ⟨prog, Hx, 64⟩ T113.call n f64 [[.sl false 11 (enS false a)], [.sl false 11 (enS false b)]] = bif ofNat (length (enS false a)) != ofNat (length (enS false b)) then some ([[D.bool false]], []) else loopRun (B64_0 n) 0 35 134215728 n (S64_0 a b (0)) (k64_1 n) := by kernel_rfl
theorem m64 (a : List Port) (b : List Port) (hpre : (o64 a b).1 = true) : evFn ⟨Go.Proofs.Try.prog, Hx, 64⟩ T113.call (a.length + 1) f64 [[.sl false 11 (enS false a)], [.sl false 11 (enS false b)]] = some (o64 a b).2 := by
  refine (r64 a b _).trans ?_
  show _ = (some ([[.bool (true)]], []) : Option (List Row × List Row))
  replace hpre : (sameB a b && (decide (a.length ≤ 1048576))) = true := hpre
  rw [Bool.and_eq_true] at hpre
  obtain ⟨h0, h1⟩ := hpre
  have hlen : a.length ≤ 1048576 := of_decide_eq_true h1
  have := sameB_eq h0
  subst this
  simp only [bne_self_eq_false, cond_false]
  refine loop_list (xs := a) (fun i (_ : Unit) => S64_0 a a (Int.ofNat i)) (fun _ _ => True) (fun _ _ _ => some ([[D.bool true]], [])) ?_ ?_ (a.length + 1) () (by omega) trivial
  · rintro _ _ f
    refine (q64_0 a a _ _ f _).trans ?_
    simp only [enS_length, dec_lt, Nat.lt_irrefl, decide_false, cond_false]
    exact aX64_2 a a _ _
  · rintro i _ hi _ f hf
    refine (q64_0 a a _ _ f _).trans ?_
    simp only [enS_length, toNat_of, dec_lt, dec_ge, enS_get _ hi, hi, wrap_succ (show i < 4611686018427387904 by omega), decide_true, cond_true, Bool.and_self, sameB_self, bne_self_eq_false, cond_false]
    exact hf () trivial
theorem s64 : SoundAt Go.Proofs.Try.prog Hx 64 c64 := soundAt_of T113_sound mixed func64 (by kernel_rfl) (by
  intro rows r h
  unfold c64 at h
  split at h
  · rename_i a b
    obtain ⟨hp, hr⟩ := Prod.mk.inj (Option.some.inj h)
    subst hr
    simp only [Bool.and_eq_true] at hp
    obtain ⟨⟨hs0, hs1⟩, hp⟩ := hp
    obtain ⟨xs0, rfl⟩ := isS_ex hs0
    obtain ⟨xs1, rfl⟩ := isS_ex hs1
    simp only [deS_enS] at hp ⊢
    exact ⟨_, m64 xs0 xs1 hp⟩
  · cases h)
def T64 : Table := (64, c64) :: T113
theorem T64_sound : Table.Sound Go.Proofs.Try.prog Hx T64 := Table.sound_cons s64 T113_sound
def o25 (a : Bridge) (b : Bridge) : Bool × List Row × List Row := (sameB a b && (Bridge.small a), [[.bool (true)]], [])
def c25 : Contract
  | [[.int .i64 a_Id, .sl false 11 a_Ports], [.int .i64 b_Id, .sl false 11 b_Ports]] => some (isS Port false a_Ports && isS Port false b_Ports && (o25 ⟨a_Id, (deS Port a_Ports)⟩ ⟨b_Id, (deS Port b_Ports)⟩).1, (o25 ⟨a_Id, (deS Port a_Ports)⟩ ⟨b_Id, (deS Port b_Ports)⟩).2.1, (o25 ⟨a_Id, (deS Port a_Ports)⟩ ⟨b_Id, (deS Port b_Ports)⟩).2.2)
  | _ => none
theorem r25 (a : Bridge) (b : Bridge) (n : Nat) : evFn ⟨prog, Hx, 25⟩ T64.call n f25 [[.int .i64 a.Id, .sl false 11 (enS false a.Ports)], [.int .i64 b.Id, .sl false 11 (enS false b.Ports)]] = bif Bridge.Id a != Bridge.Id b then some ([[D.bool false]], []) else bif isS Port false (enS false (Bridge.Ports a)) && isS Port false (enS false (Bridge.Ports b)) && (sameB (deS Port (enS false (Bridge.Ports a))) (deS Port (enS false (Bridge.Ports b))) && decide (length (deS Port (enS false (Bridge.Ports a))) ≤ 1048576)) then some ([[D.bool true]], []) else none := by kernel_rfl
theorem m25 (a : Bridge) (b : Bridge) (hpre : (o25 a b).1 = true) : evFn ⟨Go.Proofs.Try.prog, Hx, 25⟩ T64.call 0 f25 [[.int .i64 a.Id, .sl false 11 (enS false a.Ports)], [.int .i64 b.Id, .sl false 11 (enS false b.Ports)]] = some (o25 a b).2 := by
  refine (r25 a b _).trans ?_
  show _ = (some ([[.bool (true)]], []) : Option (List Row × List Row))
  replace hpre : (sameB a b && (Bridge.small a)) = true := hpre
  rw [Bool.and_eq_true] at hpre
  obtain ⟨h0, h1⟩ := hpre
  have := sameB_eq h0
  subst this
  unfold Bridge.small at h1
  try simp only [Bool.and_eq_true] at h1
  simp only [h1, bne_self_eq_false, cond_false, cond_true, sameB_self, isS_enS, deS_enS, Bool.and_self, Bool.and_true, Bool.true_and, Bool.not_true]
  try rfl
theorem s25 : SoundAt Go.Proofs.Try.prog Hx 25 c25 := soundAt_of T64_sound mixed func25 (by kernel_rfl) (by
  intro rows r h
  unfold c25 at h
  split at h
  · rename_i a_Id a_Ports b_Id b_Ports
    obtain ⟨hp, hr⟩ := Prod.mk.inj (Option.some.inj h)
    subst hr
    simp only [Bool.and_eq_true] at hp
    obtain ⟨⟨hs0, hs1⟩, hp⟩ := hp
    obtain ⟨xs0, rfl⟩ := isS_ex hs0
    obtain ⟨xs1, rfl⟩ := isS_ex hs1
    simp only [deS_enS] at hp ⊢
    exact ⟨_, m25 ⟨a_Id, xs0⟩ ⟨b_Id, xs1⟩ hp⟩
  · cases h)
def T25 : Table := (25, c25) :: T64
theorem T25_sound : Table.Sound Go.Proofs.Try.prog Hx T25 := Table.sound_cons s25 T64_sound
def o65 (a : List UInt8) (b : List UInt8) : Bool × List Row × List Row := (sameB a b && (decide (a.length ≤ 1048576)), [[.bool (true)]], [])
def c65 : Contract
  | [[.sl false 1 a], [.sl false 1 b]] => some (isS UInt8 false a && isS UInt8 false b && (o65 (deS UInt8 a) (deS UInt8 b)).1, (o65 (deS UInt8 a) (deS UInt8 b)).2.1, (o65 (deS UInt8 a) (deS UInt8 b)).2.2)
  | _ => none
def k65_0 (n : Nat) : Ex → St → RR := kThen (fun st ↦ runCode (Ctx.mk prog Hx (65)) (Table.call T25) n (codeAt [1, 1, 1] (bodyOf f65)) (Lv.mk 16 [] 16) st (kLeave (Ctx.P (Ctx.mk prog Hx (65))) (List.zip (Array.toList (Go.Func.resultTypes f65)) (Array.toList (Go.Func.results f65))) [] [])) (kLeave (Ctx.P (Ctx.mk prog Hx (65))) (List.zip (Array.toList (Go.Func.resultTypes f65)) (Array.toList (Go.Func.results f65))) [] [])
def k65_1 (n : Nat) : Ex → St → RR := kBlock (0) (k65_0 n)
def S65_0 (a : List UInt8) (b : List UInt8) (i0 : Int) : St := St.mk [V_ [C.d (D.sl false 1 (enS false a))], V_ [C.d (D.sl false 1 (enS false b))], U, U, U, I_ i0, U, U, U, U, U, U, U, U, U, U, U, U, U, U, U, U, U, U, U, U] []
def B65_0 (n : Nat) : St → (Ex → St → RR) → RR := runCode (Ctx.mk prog Hx (65)) (Table.call T25) n (codeAt [1, 1, 0, 1, 0, 0] (bodyOf f65)) (Lv.mk 35 [(0, 0)] 16)
def X65_2 (a : List UInt8) (b : List UInt8) (i0 : Int) : St := St.mk [V_ [C.d (D.sl false 1 (enS false a))], V_ [C.d (D.sl false 1 (enS false b))], U, U, B_ false, I_ i0, U, U, U, U, U, I_ i0, V_ [C.d (D.sl false 1 (enS false a))], I_ (ofNat (length (enS false a))), B_ true, U, U, V_ [C.d (D.sl false 1 (enS false a))], I_ i0, V_ [C.rptr (getD (enS false a) (toNat i0) [])], V_ [C.d (D.int IntKind.u8 (D.num (getD (getD (enS false a) (toNat i0) []) 0 D.dead)))], V_ [C.d (D.sl false 1 (enS false b))], I_ i0, V_ [C.rptr (getD (enS false b) (toNat i0) [])], V_ [C.d (D.int IntKind.u8 (D.num (getD (getD (enS false b) (toNat i0) []) 0 D.dead)))], B_ true] []
def X65_3 (a : List UInt8) (b : List UInt8) (i0 : Int) : St := St.mk [V_ [C.d (D.sl false 1 (enS false a))], V_ [C.d (D.sl false 1 (enS false b))], U, U, U, I_ i0, U, U, U, U, U, I_ i0, V_ [C.d (D.sl false 1 (enS false a))], I_ (ofNat (length (enS false a))), B_ false, U, U, U, U, U, U, U, U, U, U, U] []
theorem q65_0 (a : List UInt8) (b : List UInt8) (n : Nat) (i0 : Int) (f : St → RR) (K : Ex → St → RR) : B65_0 n (S65_0 a b i0) (kThen (fun st ↦ f (St.head 0 35 67106864 st)) K) = bif decide (i0 < ofNat (length (enS false a))) then bif decide (0 ≤ i0) && decide (i0 < ofNat (length (enS false a))) then bif Leaf.fit false (Leaf.int IntKind.u8) (getD (getD (enS false a) (toNat i0) []) 0 D.dead) && true then bif decide (0 ≤ i0) && decide (i0 < ofNat (length (enS false b))) then bif Leaf.fit false (Leaf.int IntKind.u8) (getD (getD (enS false b) (toNat i0) []) 0 D.dead) && true then bif D.num (getD (getD (enS false a) (toNat i0) []) 0 D.dead) != D.num (getD (getD (enS false b) (toNat i0) []) 0 D.dead) then K Ex.ret (X65_2 a b i0) else f (S65_0 a b (wrap i64 (i0 + 1))) else none else none else none else none else K (Ex.exit 0) (X65_3 a b i0) := by kernel_rfl
theorem aX65_2 (a : List UInt8) (b : List UInt8) (n : Nat) (i0 : Int) : k65_1 n Ex.ret (X65_2 a b i0) = some ([[D.bool false]], []) := by kernel_rfl
theorem aX65_3 (a : List UInt8) (b : List UInt8) (n : Nat) (i0 : Int) : k65_1 n (Ex.exit 0) (X65_3 a b i0) = some ([[D.bool true]], []) := by kernel_rfl
theorem r65 (a : List UInt8) (b : List UInt8) (n : Nat) : evFn ⟨prog, Hx, 65⟩ T25.call n f65 [[.sl false 1 (enS false a)], [.sl false 1 (enS false b)]] = bif ofNat (length (enS false a)) != ofNat (length (enS false b)) then some ([[D.bool false]], []) else loopRun (B65_0 n) 0 35 67106864 n (S65_0 a b (0)) (k65_1 n) := by kernel_rfl
theorem m65 (a : List UInt8) (b : List UInt8) (hpre : (o65 a b).1 = true) : evFn ⟨Go.Proofs.Try.prog, Hx, 65⟩ T25.call (a.length + 1) f65 [[.sl false 1 (enS false a)], [.sl false 1 (enS false b)]] = some (o65 a b).2 := by
  refine (r65 a b _).trans ?_
  show _ = (some ([[.bool (true)]], []) : Option (List Row × List Row))
  replace hpre : (sameB a b && (decide (a.length ≤ 1048576))) = true := hpre
  rw [Bool.and_eq_true] at hpre
  obtain ⟨h0, h1⟩ := hpre
  have hlen : a.length ≤ 1048576 := of_decide_eq_true h1
  have := sameB_eq h0
  subst this
  simp only [bne_self_eq_false, cond_false]
  refine loop_list (xs := a) (fun i (_ : Unit) => S65_0 a a (Int.ofNat i)) (fun _ _ => True) (fun _ _ _ => some ([[D.bool true]], [])) ?_ ?_ (a.length + 1) () (by omega) trivial
  · rintro _ _ f
    refine (q65_0 a a _ _ f _).trans ?_
    simp only [enS_length, dec_lt, Nat.lt_irrefl, decide_false, cond_false]
    exact aX65_3 a a _ _
  · rintro i _ hi _ f hf
    refine (q65_0 a a _ _ f _).trans ?_
    simp only [enS_length, toNat_of, dec_lt, dec_ge, enS_get _ hi, hi, wrap_succ (show i < 4611686018427387904 by omega), decide_true, cond_true, Bool.and_self, sameB_self, bne_self_eq_false, cond_false]
    exact hf () trivial
theorem s65 : SoundAt Go.Proofs.Try.prog Hx 65 c65 := soundAt_of T25_sound mixed func65 (by kernel_rfl) (by
  intro rows r h
  unfold c65 at h
  split at h
  · rename_i a b
    obtain ⟨hp, hr⟩ := Prod.mk.inj (Option.some.inj h)
    subst hr
    simp only [Bool.and_eq_true] at hp
    obtain ⟨⟨hs0, hs1⟩, hp⟩ := hp
    obtain ⟨xs0, rfl⟩ := isS_ex hs0
    obtain ⟨xs1, rfl⟩ := isS_ex hs1
    simp only [deS_enS] at hp ⊢
    exact ⟨_, m65 xs0 xs1 hp⟩
  · cases h)
def T65 : Table := (65, c65) :: T25
theorem T65_sound : Table.Sound Go.Proofs.Try.prog Hx T65 := Table.sound_cons s65 T25_sound
def o26 (a : Snap) (b : Snap) : Bool × List Row × List Row := (sameB a b && (Snap.small a), [[.bool (true)]], [])
def c26 : Contract
  | [[.int .i64 a_N, .sl false 1 a_Bytes], [.int .i64 b_N, .sl false 1 b_Bytes]] => some (isS UInt8 false a_Bytes && isS UInt8 false b_Bytes && (o26 ⟨a_N, (deS UInt8 a_Bytes)⟩ ⟨b_N, (deS UInt8 b_Bytes)⟩).1, (o26 ⟨a_N, (deS UInt8 a_Bytes)⟩ ⟨b_N, (deS UInt8 b_Bytes)⟩).2.1, (o26 ⟨a_N, (deS UInt8 a_Bytes)⟩ ⟨b_N, (deS UInt8 b_Bytes)⟩).2.2)
  | _ => none
theorem r26 (a : Snap) (b : Snap) (n : Nat) : evFn ⟨prog, Hx, 26⟩ T65.call n f26 [[.int .i64 a.N, .sl false 1 (enS false a.Bytes)], [.int .i64 b.N, .sl false 1 (enS false b.Bytes)]] = bif Snap.N a != Snap.N b then some ([[D.bool false]], []) else bif isS UInt8 false (enS false (Snap.Bytes a)) && isS UInt8 false (enS false (Snap.Bytes b)) && (sameB (deS UInt8 (enS false (Snap.Bytes a))) (deS UInt8 (enS false (Snap.Bytes b))) && decide (length (deS UInt8 (enS false (Snap.Bytes a))) ≤ 1048576)) then some ([[D.bool true]], []) else none := by kernel_rfl
theorem m26 (a : Snap) (b : Snap) (hpre : (o26 a b).1 = true) : evFn ⟨Go.Proofs.Try.prog, Hx, 26⟩ T65.call 0 f26 [[.int .i64 a.N, .sl false 1 (enS false a.Bytes)], [.int .i64 b.N, .sl false 1 (enS false b.Bytes)]] = some (o26 a b).2 := by
  refine (r26 a b _).trans ?_
  show _ = (some ([[.bool (true)]], []) : Option (List Row × List Row))
  replace hpre : (sameB a b && (Snap.small a)) = true := hpre
  rw [Bool.and_eq_true] at hpre
  obtain ⟨h0, h1⟩ := hpre
  have := sameB_eq h0
  subst this
  unfold Snap.small at h1
  try simp only [Bool.and_eq_true] at h1
  simp only [h1, bne_self_eq_false, cond_false, cond_true, sameB_self, isS_enS, deS_enS, Bool.and_self, Bool.and_true, Bool.true_and, Bool.not_true]
  try rfl
theorem s26 : SoundAt Go.Proofs.Try.prog Hx 26 c26 := soundAt_of T65_sound mixed func26 (by kernel_rfl) (by
  intro rows r h
  unfold c26 at h
  split at h
  · rename_i a_N a_Bytes b_N b_Bytes
    obtain ⟨hp, hr⟩ := Prod.mk.inj (Option.some.inj h)
    subst hr
    simp only [Bool.and_eq_true] at hp
    obtain ⟨⟨hs0, hs1⟩, hp⟩ := hp
    obtain ⟨xs0, rfl⟩ := isS_ex hs0
    obtain ⟨xs1, rfl⟩ := isS_ex hs1
    simp only [deS_enS] at hp ⊢
    exact ⟨_, m26 ⟨a_N, xs0⟩ ⟨b_N, xs1⟩ hp⟩
  · cases h)
def T26 : Table := (26, c26) :: T65
theorem T26_sound : Table.Sound Go.Proofs.Try.prog Hx T26 := Table.sound_cons s26 T65_sound
def o66 (a : In) (b : In) : Bool × List Row × List Row := (sameB a b, [[.bool (true)]], [])
def c66 : Contract
  | [[.int .i64 a_Kind, .int .i64 a_Port, .int .i64 a_Vec_Root, .int .i64 a_Vec_Cost, .int .i64 a_Vec_Bridge, .int .i64 a_Vec_Port, .int .i64 a_Hops, .bool a_Up], [.int .i64 b_Kind, .int .i64 b_Port, .int .i64 b_Vec_Root, .int .i64 b_Vec_Cost, .int .i64 b_Vec_Bridge, .int .i64 b_Vec_Port, .int .i64 b_Hops, .bool b_Up]] => some ((o66 ⟨a_Kind, a_Port, ⟨a_Vec_Root, a_Vec_Cost, a_Vec_Bridge, a_Vec_Port⟩, a_Hops, a_Up⟩ ⟨b_Kind, b_Port, ⟨b_Vec_Root, b_Vec_Cost, b_Vec_Bridge, b_Vec_Port⟩, b_Hops, b_Up⟩).1, (o66 ⟨a_Kind, a_Port, ⟨a_Vec_Root, a_Vec_Cost, a_Vec_Bridge, a_Vec_Port⟩, a_Hops, a_Up⟩ ⟨b_Kind, b_Port, ⟨b_Vec_Root, b_Vec_Cost, b_Vec_Bridge, b_Vec_Port⟩, b_Hops, b_Up⟩).2.1, (o66 ⟨a_Kind, a_Port, ⟨a_Vec_Root, a_Vec_Cost, a_Vec_Bridge, a_Vec_Port⟩, a_Hops, a_Up⟩ ⟨b_Kind, b_Port, ⟨b_Vec_Root, b_Vec_Cost, b_Vec_Bridge, b_Vec_Port⟩, b_Hops, b_Up⟩).2.2)
  | _ => none
theorem r66 (a : In) (b : In) (n : Nat) : evFn ⟨prog, Hx, 66⟩ T26.call n f66 [[.int .i64 a.Kind, .int .i64 a.Port, .int .i64 a.Vec.Root, .int .i64 a.Vec.Cost, .int .i64 a.Vec.Bridge, .int .i64 a.Vec.Port, .int .i64 a.Hops, .bool a.Up], [.int .i64 b.Kind, .int .i64 b.Port, .int .i64 b.Vec.Root, .int .i64 b.Vec.Cost, .int .i64 b.Vec.Bridge, .int .i64 b.Vec.Port, .int .i64 b.Hops, .bool b.Up]] = bif In.Kind a != In.Kind b then some ([[D.bool false]], []) else bif In.Port a != In.Port b then some ([[D.bool false]], []) else bif sameB (In.Vec a) (In.Vec b) then bif In.Hops a != In.Hops b then some ([[D.bool false]], []) else bif In.Up a != In.Up b then some ([[D.bool false]], []) else some ([[D.bool true]], []) else none := by kernel_rfl
theorem m66 (a : In) (b : In) (hpre : (o66 a b).1 = true) : evFn ⟨Go.Proofs.Try.prog, Hx, 66⟩ T26.call 0 f66 [[.int .i64 a.Kind, .int .i64 a.Port, .int .i64 a.Vec.Root, .int .i64 a.Vec.Cost, .int .i64 a.Vec.Bridge, .int .i64 a.Vec.Port, .int .i64 a.Hops, .bool a.Up], [.int .i64 b.Kind, .int .i64 b.Port, .int .i64 b.Vec.Root, .int .i64 b.Vec.Cost, .int .i64 b.Vec.Bridge, .int .i64 b.Vec.Port, .int .i64 b.Hops, .bool b.Up]] = some (o66 a b).2 := by
  refine (r66 a b _).trans ?_
  show _ = (some ([[.bool (true)]], []) : Option (List Row × List Row))
  replace hpre : (sameB a b) = true := hpre
  have := sameB_eq hpre
  subst this
  simp only [bne_self_eq_false, cond_false, sameB_self, cond_true, Bool.not_true]
theorem s66 : SoundAt Go.Proofs.Try.prog Hx 66 c66 := soundAt_of T26_sound mixed func66 (by kernel_rfl) (by
  intro rows r h
  unfold c66 at h
  split at h
  · rename_i a_Kind a_Port a_Vec_Root a_Vec_Cost a_Vec_Bridge a_Vec_Port a_Hops a_Up b_Kind b_Port b_Vec_Root b_Vec_Cost b_Vec_Bridge b_Vec_Port b_Hops b_Up
    obtain ⟨hp, hr⟩ := Prod.mk.inj (Option.some.inj h)
    subst hr
    exact ⟨_, m66 ⟨a_Kind, a_Port, ⟨a_Vec_Root, a_Vec_Cost, a_Vec_Bridge, a_Vec_Port⟩, a_Hops, a_Up⟩ ⟨b_Kind, b_Port, ⟨b_Vec_Root, b_Vec_Cost, b_Vec_Bridge, b_Vec_Port⟩, b_Hops, b_Up⟩ hp⟩
  · cases h)
def T66 : Table := (66, c66) :: T26
theorem T66_sound : Table.Sound Go.Proofs.Try.prog Hx T66 := Table.sound_cons s66 T26_sound
def o27 (a : List In) (b : List In) : Bool × List Row × List Row := (sameB a b && (decide (a.length ≤ 1048576)), [[.bool (true)]], [])
def c27 : Contract
  | [[.sl false 8 a], [.sl false 8 b]] => some (isS In false a && isS In false b && (o27 (deS In a) (deS In b)).1, (o27 (deS In a) (deS In b)).2.1, (o27 (deS In a) (deS In b)).2.2)
  | _ => none
def k27_0 (n : Nat) : Ex → St → RR := kThen (fun st ↦ runCode (Ctx.mk prog Hx (27)) (Table.call T66) n (codeAt [1, 1, 1] (bodyOf f27)) (Lv.mk 16 [] 16) st (kLeave (Ctx.P (Ctx.mk prog Hx (27))) (List.zip (Array.toList (Go.Func.resultTypes f27)) (Array.toList (Go.Func.results f27))) [] [])) (kLeave (Ctx.P (Ctx.mk prog Hx (27))) (List.zip (Array.toList (Go.Func.resultTypes f27)) (Array.toList (Go.Func.results f27))) [] [])
def k27_1 (n : Nat) : Ex → St → RR := kBlock (0) (k27_0 n)
def S27_0 (a : List In) (b : List In) (i0 : Int) : St := St.mk [V_ [C.d (D.sl false 8 (enS false a))], V_ [C.d (D.sl false 8 (enS false b))], U, U, U, I_ i0, U, U, U, U, U, U, U, U, U, U, U, U, U, U, U, U, U, U, U, U, U] []
def B27_0 (n : Nat) : St → (Ex → St → RR) → RR := runCode (Ctx.mk prog Hx (27)) (Table.call T66) n (codeAt [1, 1, 0, 1, 0, 0] (bodyOf f27)) (Lv.mk 35 [(0, 0)] 16)
def X27_2 (a : List In) (b : List In) (i0 : Int) : St := St.mk [V_ [C.d (D.sl false 8 (enS false a))], V_ [C.d (D.sl false 8 (enS false b))], U, U, U, I_ i0, U, U, U, U, U, I_ i0, V_ [C.d (D.sl false 8 (enS false a))], I_ (ofNat (length (enS false a))), B_ false, U, U, U, U, U, U, U, U, U, U, U, U] []
theorem q27_0 (a : List In) (b : List In) (n : Nat) (i0 : Int) (f : St → RR) (K : Ex → St → RR) : B27_0 n (S27_0 a b i0) (kThen (fun st ↦ f (St.head 0 35 134215728 st)) K) = bif decide (i0 < ofNat (length (enS false a))) then bif decide (0 ≤ i0) && decide (i0 < ofNat (length (enS false a))) then bif Leaf.fit false (Leaf.int i64) (getD (getD (enS false a) (toNat i0) []) 0 D.dead) && (Leaf.fit false (Leaf.int i64) (getD (getD (enS false a) (toNat i0) []) 1 D.dead) && (Leaf.fit false (Leaf.int i64) (getD (getD (enS false a) (toNat i0) []) 2 D.dead) && (Leaf.fit false (Leaf.int i64) (getD (getD (enS false a) (toNat i0) []) 3 D.dead) && (Leaf.fit false (Leaf.int i64) (getD (getD (enS false a) (toNat i0) []) 4 D.dead) && (Leaf.fit false (Leaf.int i64) (getD (getD (enS false a) (toNat i0) []) 5 D.dead) && (Leaf.fit false (Leaf.int i64) (getD (getD (enS false a) (toNat i0) []) 6 D.dead) && (Leaf.fit false Leaf.bool (getD (getD (enS false a) (toNat i0) []) 7 D.dead) && true))))))) then bif decide (0 ≤ i0) && decide (i0 < ofNat (length (enS false b))) then bif Leaf.fit false (Leaf.int i64) (getD (getD (enS false b) (toNat i0) []) 0 D.dead) && (Leaf.fit false (Leaf.int i64) (getD (getD (enS false b) (toNat i0) []) 1 D.dead) && (Leaf.fit false (Leaf.int i64) (getD (getD (enS false b) (toNat i0) []) 2 D.dead) && (Leaf.fit false (Leaf.int i64) (getD (getD (enS false b) (toNat i0) []) 3 D.dead) && (Leaf.fit false (Leaf.int i64) (getD (getD (enS false b) (toNat i0) []) 4 D.dead) && (Leaf.fit false (Leaf.int i64) (getD (getD (enS false b) (toNat i0) []) 5 D.dead) && (Leaf.fit false (Leaf.int i64) (getD (getD (enS false b) (toNat i0) []) 6 D.dead) && (Leaf.fit false Leaf.bool (getD (getD (enS false b) (toNat i0) []) 7 D.dead) && true))))))) then bif sameB (In.mk (D.num (getD (getD (enS false a) (toNat i0) []) 0 D.dead)) (D.num (getD (getD (enS false a) (toNat i0) []) 1 D.dead)) (Vec.mk (D.num (getD (getD (enS false a) (toNat i0) []) 2 D.dead)) (D.num (getD (getD (enS false a) (toNat i0) []) 3 D.dead)) (D.num (getD (getD (enS false a) (toNat i0) []) 4 D.dead)) (D.num (getD (getD (enS false a) (toNat i0) []) 5 D.dead))) (D.num (getD (getD (enS false a) (toNat i0) []) 6 D.dead)) (D.flag (getD (getD (enS false a) (toNat i0) []) 7 D.dead))) (In.mk (D.num (getD (getD (enS false b) (toNat i0) []) 0 D.dead)) (D.num (getD (getD (enS false b) (toNat i0) []) 1 D.dead)) (Vec.mk (D.num (getD (getD (enS false b) (toNat i0) []) 2 D.dead)) (D.num (getD (getD (enS false b) (toNat i0) []) 3 D.dead)) (D.num (getD (getD (enS false b) (toNat i0) []) 4 D.dead)) (D.num (getD (getD (enS false b) (toNat i0) []) 5 D.dead))) (D.num (getD (getD (enS false b) (toNat i0) []) 6 D.dead)) (D.flag (getD (getD (enS false b) (toNat i0) []) 7 D.dead))) then f (S27_0 a b (wrap i64 (i0 + 1))) else none else none else none else none else none else K (Ex.exit 0) (X27_2 a b i0) := by kernel_rfl
theorem aX27_2 (a : List In) (b : List In) (n : Nat) (i0 : Int) : k27_1 n (Ex.exit 0) (X27_2 a b i0) = some ([[D.bool true]], []) := by kernel_rfl
theorem r27 (a : List In) (b : List In) (n : Nat) : evFn ⟨prog, Hx, 27⟩ T66.call n f27 [[.sl false 8 (enS false a)], [.sl false 8 (enS false b)]] = bif ofNat (length (enS false a)) != ofNat (length (enS false b)) then some ([[D.bool false]], []) else loopRun (B27_0 n) 0 35 134215728 n (S27_0 a b (0)) (k27_1 n) := by kernel_rfl
theorem m27 (a : List In) (b : List In) (hpre : (o27 a b).1 = true) : evFn ⟨Go.Proofs.Try.prog, Hx, 27⟩ T66.call (a.length + 1) f27 [[.sl false 8 (enS false a)], [.sl false 8 (enS false b)]] = some (o27 a b).2 := by
  refine (r27 a b _).trans ?_
  show _ = (some ([[.bool (true)]], []) : Option (List Row × List Row))
  replace hpre : (sameB a b && (decide (a.length ≤ 1048576))) = true := hpre
  rw [Bool.and_eq_true] at hpre
  obtain ⟨h0, h1⟩ := hpre
  have hlen : a.length ≤ 1048576 := of_decide_eq_true h1
  have := sameB_eq h0
  subst this
  simp only [bne_self_eq_false, cond_false]
  refine loop_list (xs := a) (fun i (_ : Unit) => S27_0 a a (Int.ofNat i)) (fun _ _ => True) (fun _ _ _ => some ([[D.bool true]], [])) ?_ ?_ (a.length + 1) () (by omega) trivial
  · rintro _ _ f
    refine (q27_0 a a _ _ f _).trans ?_
    simp only [enS_length, dec_lt, Nat.lt_irrefl, decide_false, cond_false]
    exact aX27_2 a a _ _
  · rintro i _ hi _ f hf
    refine (q27_0 a a _ _ f _).trans ?_
    simp only [enS_length, toNat_of, dec_lt, dec_ge, enS_get _ hi, hi, wrap_succ (show i < 4611686018427387904 by omega), decide_true, cond_true, Bool.and_self, sameB_self, bne_self_eq_false, cond_false]
    exact hf () trivial
theorem s27 : SoundAt Go.Proofs.Try.prog Hx 27 c27 := soundAt_of T66_sound mixed func27 (by kernel_rfl) (by
  intro rows r h
  unfold c27 at h
  split at h
  · rename_i a b
    obtain ⟨hp, hr⟩ := Prod.mk.inj (Option.some.inj h)
    subst hr
    simp only [Bool.and_eq_true] at hp
    obtain ⟨⟨hs0, hs1⟩, hp⟩ := hp
    obtain ⟨xs0, rfl⟩ := isS_ex hs0
    obtain ⟨xs1, rfl⟩ := isS_ex hs1
    simp only [deS_enS] at hp ⊢
    exact ⟨_, m27 xs0 xs1 hp⟩
  · cases h)
def T27 : Table := (27, c27) :: T66
theorem T27_sound : Table.Sound Go.Proofs.Try.prog Hx T27 := Table.sound_cons s27 T66_sound
def o67 (a : List UInt8) (k : Int) : Bool × List Row × List Row := (decide (0 ≤ k) && (decide (k + cntS oneN a ≤ 4611686018427387904) && decide (a.length ≤ 1152921504606846976)), [[.int .i64 (k + cntS oneN a)]], [[.sl true 1 (enS true (markS byteMk oneN a k))]])
def c67 : Contract
  | [[.sl true 1 a], [.int .i64 k]] => some (isS UInt8 true a && (o67 (deS UInt8 a) k).1, (o67 (deS UInt8 a) k).2.1, (o67 (deS UInt8 a) k).2.2)
  | _ => none
def k67_0 (n : Nat) : Ex → St → RR := kThen (fun st ↦ runCode (Ctx.mk prog Hx (67)) (Table.call T27) n (codeAt [1, 1] (bodyOf f67)) (Lv.mk 16 [] 16) st (kLeave (Ctx.P (Ctx.mk prog Hx (67))) (List.zip (Array.toList (Go.Func.resultTypes f67)) (Array.toList (Go.Func.results f67))) [] [C.view 0 0 0 [] 1 none])) (kLeave (Ctx.P (Ctx.mk prog Hx (67))) (List.zip (Array.toList (Go.Func.resultTypes f67)) (Array.toList (Go.Func.results f67))) [] [C.view 0 0 0 [] 1 none])
def k67_1 (n : Nat) : Ex → St → RR := kBlock (0) (k67_0 n)
def S67_0 (i0 : Int) (i1 : Int) (es2 : List (List D)) : St := St.mk [V_ [C.view 0 0 0 [] 1 none], I_ i0, U, U, U, I_ i1, U, U, U, U, U, U, U, U, U, U, U, U, U, U] [Root.mk false 1 es2 0 0 true true false]
def B67_0 (n : Nat) : St → (Ex → St → RR) → RR := runCode (Ctx.mk prog Hx (67)) (Table.call T27) n (codeAt [1, 0, 1, 0, 0] (bodyOf f67)) (Lv.mk 35 [(0, 2)] 16)
def X67_2 (i0 : Int) (i1 : Int) (es2 : List (List D)) : St := St.mk [V_ [C.view 0 0 0 [] 1 none], I_ i0, U, U, U, I_ i1, I_ i1, V_ [C.view 0 0 0 [] 1 none], I_ (ofNat (length es2)), B_ false, U, U, U, U, U, U, U, U, U, U] [Root.mk false 1 es2 0 0 true true false]
theorem q67_0 (n : Nat) (i0 : Int) (i1 : Int) (es2 : List (List D)) (f : St → RR) (K : Ex → St → RR) : B67_0 n (S67_0 i0 i1 es2) (kThen (fun st ↦ f (St.head 1 35 524258 st)) K) = bif decide (i1 < ofNat (length es2)) then bif decide (0 ≤ i1) && decide (i1 < ofNat (length es2)) then f (S67_0 (wrap i64 (i0 + 1)) (wrap i64 (i1 + 1)) (set es2 (0 + toNat i1) [D.int IntKind.u8 (wrap IntKind.u8 i0)])) else none else K (Ex.exit 0) (X67_2 i0 i1 es2) := by kernel_rfl
theorem aX67_2 (n : Nat) (i0 : Int) (i1 : Int) (es2 : List (List D)) : k67_1 n (Ex.exit 0) (X67_2 i0 i1 es2) = some ([[D.int i64 i0]], [[D.sl true 1 es2]]) := by kernel_rfl
theorem r67 (a : List UInt8) (k : Int) (n : Nat) : evFn ⟨prog, Hx, 67⟩ T27.call n f67 [[.sl true 1 (enS true a)], [.int .i64 k]] = loopRun (B67_0 n) 1 35 524258 n (S67_0 k (0) (enS true a)) (k67_1 n) := by kernel_rfl
theorem m67 (a : List UInt8) (k : Int) (hpre : (o67 a k).1 = true) : evFn ⟨Go.Proofs.Try.prog, Hx, 67⟩ T27.call (a.length + 1) f67 [[.sl true 1 (enS true a)], [.int .i64 k]] = some (o67 a k).2 := by
  refine (r67 a k _).trans ?_
  show _ = (some ([[.int .i64 (k + cntS oneN a)]], [[.sl true 1 (enS true (markS byteMk oneN a k))]]) : Option (List Row × List Row))
  replace hpre : (decide (0 ≤ k) && (decide (k + cntS oneN a ≤ 4611686018427387904) && decide (a.length ≤ 1152921504606846976))) = true := hpre
  simp only [Bool.and_eq_true, decide_eq_true_eq] at hpre
  obtain ⟨h0, h1, h2⟩ := hpre
  refine loop_list (xs := a) (fun i (v : List UInt8 × Int) => S67_0 v.2 (Int.ofNat i) (enS true (v.1 ++ a.drop i))) (fun i v => v.1.length = i ∧ 0 ≤ v.2 ∧ v.2 + cntS oneN (a.drop i) ≤ 4611686018427387904) (fun _ v rest => some ([[D.int .i64 (v.2 + cntS oneN rest)]], [[D.sl true 1 (enS true (v.1 ++ markS byteMk oneN rest v.2))]])) ?_ ?_ (a.length + 1) ([], k) (by omega) ⟨rfl, h0, h1⟩
  · rintro ⟨pre, k⟩ ⟨hl, hk0, hk1⟩ f
    refine (q67_0 _ _ _ _ f _).trans ?_
    simp only [enS_length, List.drop_length, List.append_nil, hl, dec_lt, Nat.lt_irrefl, decide_false, cond_false]
    refine (aX67_2 _ _ _ _).trans ?_
    simp only [List.append_nil, cntS, markS, Int.add_zero]
  · rintro i ⟨pre, k⟩ hi ⟨hl, hk0, hk1⟩ f hf
    simp only at hl hk0 hk1
    rw [List.drop_eq_getElem_cons hi] at hk1
    generalize hx : a[i] = x at hk1 ⊢
    have hc := cntS_nonneg (n := oneN) oneN_pos (a.drop (i + 1))
    have hn : oneN x = 1 := rfl
    simp only [cntS, hn] at hk1
    refine (q67_0 _ _ _ _ f _).trans ?_
    rw [List.drop_eq_getElem_cons hi, hx]
    have hm := mid_get pre x (a.drop (i + 1)) hl
    have hat := mid_at pre x (a.drop (i + 1)) hl hm
    have hs : ∀ R, ((enS true (pre ++ x :: a.drop (i + 1))).set i R).getD i [] = R := fun R => getD_set_same _ _ _ _ (by rw [enS_length]; exact hm)
    simp only [List.length_set, enS_length, toNat_of, Nat.zero_add, dec_lt, dec_ge, hm, hs, List.set_set, enS_get _ hm, hat, decide_true, cond_true, Bool.and_self, wrap_succ (show i < 4611686018427387904 by omega), En.enc, List.append_eq, List.take_succ_cons, List.take_zero, List.drop_succ_cons, List.drop_zero, List.cons_append, List.nil_append]
    have hw1 : IntKind.wrap IntKind.i64 (k + 1) = k + 1 := wrap_le (by omega) (by omega)
    simp only [hw1]
    have he : k + 1 = k + oneN x := by omega
    rw [← u8_wrap k]
    refine (congrArg f (congrArg (S67_0 _ _) ((enS_set true _ i (byteMk x k)).trans (congrArg (enS true) (mid_set pre x _ _ hl))))).trans ?_
    refine (hf (pre ++ [byteMk x k], k + 1) ⟨by simp [hl], by simp only; omega, by simp only; omega⟩).trans ?_
    show _ = some ([[D.int .i64 (k + (oneN x + cntS oneN (a.drop (i + 1))))]], [[D.sl true 1 (enS true (pre ++ (byteMk x k :: markS byteMk oneN (a.drop (i + 1)) (k + oneN x))))]])
    rw [he, List.append_assoc, List.singleton_append, Int.add_assoc]
theorem s67 : SoundAt Go.Proofs.Try.prog Hx 67 c67 := soundAt_of T27_sound mixed func67 (by kernel_rfl) (by
  intro rows r h
  unfold c67 at h
  split at h
  · rename_i a k
    obtain ⟨hp, hr⟩ := Prod.mk.inj (Option.some.inj h)
    subst hr
    simp only [Bool.and_eq_true] at hp
    obtain ⟨hs0, hp⟩ := hp
    obtain ⟨xs0, rfl⟩ := isS_ex hs0
    simp only [deS_enS] at hp ⊢
    exact ⟨_, m67 xs0 k hp⟩
  · cases h)
def T67 : Table := (67, c67) :: T27
theorem T67_sound : Table.Sound Go.Proofs.Try.prog Hx T67 := Table.sound_cons s67 T27_sound
def o28 (a : Snap) (k : Int) : Bool × List Row × List Row := (decide (0 ≤ k) && (decide (k + Snap.nTop a ≤ 4611686018427387904) && (decide (a.Bytes.length ≤ 1152921504606846976))), [[.int .i64 (k + Snap.nTop a)]], [[.int .i64 (Snap.mkTop a k).N, .sl true 1 (enS true (Snap.mkTop a k).Bytes)]])
def c28 : Contract
  | [[.int .i64 a_N, .sl true 1 a_Bytes], [.int .i64 k]] => some (isS UInt8 true a_Bytes && (o28 ⟨a_N, (deS UInt8 a_Bytes)⟩ k).1, (o28 ⟨a_N, (deS UInt8 a_Bytes)⟩ k).2.1, (o28 ⟨a_N, (deS UInt8 a_Bytes)⟩ k).2.2)
  | _ => none
theorem r28 (a : Snap) (k : Int) (n : Nat) : evFn ⟨prog, Hx, 28⟩ T67.call n f28 [[.int .i64 a.N, .sl true 1 (enS true a.Bytes)], [.int .i64 k]] = bif isS UInt8 true (enS true (Snap.Bytes a)) && (decide (0 ≤ k) && (decide (k + cntS oneN (deS UInt8 (enS true (Snap.Bytes a))) ≤ 4611686018427387904) && decide (length (deS UInt8 (enS true (Snap.Bytes a))) ≤ 1152921504606846976))) then some ([[D.int i64 (k + cntS oneN (deS UInt8 (enS true (Snap.Bytes a))))]], [[D.int i64 (Snap.N a), D.sl true 1 (enS true (markS byteMk oneN (deS UInt8 (enS true (Snap.Bytes a))) k))]]) else none := by kernel_rfl
theorem m28 (a : Snap) (k : Int) (hpre : (o28 a k).1 = true) : evFn ⟨Go.Proofs.Try.prog, Hx, 28⟩ T67.call 0 f28 [[.int .i64 a.N, .sl true 1 (enS true a.Bytes)], [.int .i64 k]] = some (o28 a k).2 := by
  refine (r28 a k _).trans ?_
  show _ = (some ([[.int .i64 (k + Snap.nTop a)]], [[.int .i64 (Snap.mkTop a k).N, .sl true 1 (enS true (Snap.mkTop a k).Bytes)]]) : Option (List Row × List Row))
  replace hpre : (decide (0 ≤ k) && (decide (k + Snap.nTop a ≤ 4611686018427387904) && (decide (a.Bytes.length ≤ 1152921504606846976)))) = true := hpre
  simp only [Bool.and_eq_true] at hpre
  obtain ⟨h0, h1, h2⟩ := hpre
  have h0' := of_decide_eq_true h0
  have h1' := of_decide_eq_true h1
  unfold Snap.nTop at h1'
  have p0 : 0 ≤ cntS oneN a.Bytes := cntS_nonneg oneN_pos a.Bytes
  have g0 : decide (0 ≤ k) = true := decide_eq_true (by omega)
  have f0 : decide (k + cntS oneN a.Bytes ≤ 4611686018427387904) = true := decide_eq_true (by omega)
  have d0 : decide (k + cntS oneN a.Bytes < 0) = false := decide_eq_false (by omega)
  simp only [g0, f0, d0, h2, isS_enS, deS_enS, sameB_self, cond_true, cond_false, Bool.and_self, Bool.and_true, Bool.true_and, Snap.mkTop, Snap.nTop]
  try rfl
theorem s28 : SoundAt Go.Proofs.Try.prog Hx 28 c28 := soundAt_of T67_sound mixed func28 (by kernel_rfl) (by
  intro rows r h
  unfold c28 at h
  split at h
  · rename_i a_N a_Bytes k
    obtain ⟨hp, hr⟩ := Prod.mk.inj (Option.some.inj h)
    subst hr
    simp only [Bool.and_eq_true] at hp
    obtain ⟨hs0, hp⟩ := hp
    obtain ⟨xs0, rfl⟩ := isS_ex hs0
    simp only [deS_enS] at hp ⊢
    exact ⟨_, m28 ⟨a_N, xs0⟩ k hp⟩
  · cases h)
def T28 : Table := (28, c28) :: T67
theorem T28_sound : Table.Sound Go.Proofs.Try.prog Hx T28 := Table.sound_cons s28 T67_sound
def o29 (a : List In) (k : Int) : Bool × List Row × List Row := (decide (0 ≤ k) && (decide (k + cntS In.n_ a ≤ 4611686018427387904) && decide (a.length ≤ 1152921504606846976)), [[.int .i64 (k + cntS In.n_ a)]], [[.sl true 8 (enS true (markS In.mk_ In.n_ a k))]])
def c29 : Contract
  | [[.sl true 8 a], [.int .i64 k]] => some (isS In true a && (o29 (deS In a) k).1, (o29 (deS In a) k).2.1, (o29 (deS In a) k).2.2)
  | _ => none
def k29_0 (n : Nat) : Ex → St → RR := kThen (fun st ↦ runCode (Ctx.mk prog Hx (29)) (Table.call T28) n (codeAt [1, 1] (bodyOf f29)) (Lv.mk 16 [] 16) st (kLeave (Ctx.P (Ctx.mk prog Hx (29))) (List.zip (Array.toList (Go.Func.resultTypes f29)) (Array.toList (Go.Func.results f29))) [] [C.view 0 0 0 [] 8 none])) (kLeave (Ctx.P (Ctx.mk prog Hx (29))) (List.zip (Array.toList (Go.Func.resultTypes f29)) (Array.toList (Go.Func.results f29))) [] [C.view 0 0 0 [] 8 none])
def k29_1 (n : Nat) : Ex → St → RR := kBlock (0) (k29_0 n)
def S29_0 (i0 : Int) (i1 : Int) (es2 : List (List D)) : St := St.mk [V_ [C.view 0 0 0 [] 8 none], I_ i0, U, U, U, I_ i1, U, U, U, U, U, U, U, U, U, U, U, U, U, U, U, U, U, U, U, U, U, U, U, U, U, U, U, U, U, U, U, U, U, U, U, U, U, U, U, U, U, U, U, U, U, U, U, U, U, U, U, U, U, U, U, U, U, U, U, U, U, U, U, U, U, U, U, U, U] [Root.mk false 8 es2 0 0 true true false]
def B29_0 (n : Nat) : St → (Ex → St → RR) → RR := runCode (Ctx.mk prog Hx (29)) (Table.call T28) n (codeAt [1, 0, 1, 0, 0] (bodyOf f29)) (Lv.mk 35 [(0, 2)] 16)
def X29_2 (i0 : Int) (i1 : Int) (es2 : List (List D)) : St := St.mk [V_ [C.view 0 0 0 [] 8 none], I_ i0, U, U, U, I_ i1, I_ i1, V_ [C.view 0 0 0 [] 8 none], I_ (ofNat (length es2)), B_ false, U, U, U, U, U, U, U, U, U, U, U, U, U, U, U, U, U, U, U, U, U, U, U, U, U, U, U, U, U, U, U, U, U, U, U, U, U, U, U, U, U, U, U, U, U, U, U, U, U, U, U, U, U, U, U, U, U, U, U, U, U, U, U, U, U] [Root.mk false 8 es2 0 0 true true false]
def w29_3 (i0 : Int) (i1 : Int) (es2 : List (List D)) : List (List D) := set es2 (0 + toNat i1) (D.int i64 i0 :: drop 1 (getD es2 (0 + toNat i1) []))
def w29_4 (i0 : Int) (i1 : Int) (es2 : List (List D)) : List (List D) := set (w29_3 i0 i1 es2) (0 + toNat i1) (append (append (take 1 (getD (w29_3 i0 i1 es2) (0 + toNat i1) [])) [D.int i64 (wrap i64 (i0 + 1))]) (drop 2 (getD (w29_3 i0 i1 es2) (0 + toNat i1) [])))
def w29_5 (i0 : Int) (i1 : Int) (es2 : List (List D)) : List (List D) := set (w29_4 i0 i1 es2) (0 + toNat i1) (append (append (take 2 (getD (w29_4 i0 i1 es2) (0 + toNat i1) [])) [D.int i64 (wrap i64 (wrap i64 (i0 + 1) + 1))]) (drop 3 (getD (w29_4 i0 i1 es2) (0 + toNat i1) [])))
def w29_6 (i0 : Int) (i1 : Int) (es2 : List (List D)) : List (List D) := set (w29_5 i0 i1 es2) (0 + toNat i1) (append (append (take 3 (getD (w29_5 i0 i1 es2) (0 + toNat i1) [])) [D.int i64 (wrap i64 (wrap i64 (wrap i64 (i0 + 1) + 1) + 1))]) (drop 4 (getD (w29_5 i0 i1 es2) (0 + toNat i1) [])))
def w29_7 (i0 : Int) (i1 : Int) (es2 : List (List D)) : List (List D) := set (w29_6 i0 i1 es2) (0 + toNat i1) (append (append (take 4 (getD (w29_6 i0 i1 es2) (0 + toNat i1) [])) [D.int i64 (wrap i64 (wrap i64 (wrap i64 (wrap i64 (i0 + 1) + 1) + 1) + 1))]) (drop 5 (getD (w29_6 i0 i1 es2) (0 + toNat i1) [])))
def w29_8 (i0 : Int) (i1 : Int) (es2 : List (List D)) : List (List D) := set (w29_7 i0 i1 es2) (0 + toNat i1) (append (append (take 5 (getD (w29_7 i0 i1 es2) (0 + toNat i1) [])) [D.int i64 (wrap i64 (wrap i64 (wrap i64 (wrap i64 (wrap i64 (i0 + 1) + 1) + 1) + 1) + 1))]) (drop 6 (getD (w29_7 i0 i1 es2) (0 + toNat i1) [])))
def w29_9 (i0 : Int) (i1 : Int) (es2 : List (List D)) : List (List D) := set (w29_8 i0 i1 es2) (0 + toNat i1) (append (append (take 6 (getD (w29_8 i0 i1 es2) (0 + toNat i1) [])) [D.int i64 (wrap i64 (wrap i64 (wrap i64 (wrap i64 (wrap i64 (wrap i64 (i0 + 1) + 1) + 1) + 1) + 1) + 1))]) (drop 7 (getD (w29_8 i0 i1 es2) (0 + toNat i1) [])))
theorem q29_0 (n : Nat) (i0 : Int) (i1 : Int) (es2 : List (List D)) (f : St → RR) (K : Ex → St → RR) : B29_0 n (S29_0 i0 i1 es2) (kThen (fun st ↦ f (St.head 1 35 18889465931478580854754 st)) K) = bif decide (i1 < ofNat (length es2)) then bif decide (0 ≤ i1) && decide (i1 < ofNat (length es2)) then bif decide (0 ≤ i1) && decide (i1 < ofNat (length (w29_3 i0 i1 es2))) then bif decide (0 ≤ i1) && decide (i1 < ofNat (length (w29_4 i0 i1 es2))) then bif decide (0 ≤ i1) && decide (i1 < ofNat (length (w29_5 i0 i1 es2))) then bif decide (0 ≤ i1) && decide (i1 < ofNat (length (w29_6 i0 i1 es2))) then bif decide (0 ≤ i1) && decide (i1 < ofNat (length (w29_7 i0 i1 es2))) then bif decide (0 ≤ i1) && decide (i1 < ofNat (length (w29_8 i0 i1 es2))) then bif decide (0 ≤ i1) && decide (i1 < ofNat (length (w29_9 i0 i1 es2))) then f (S29_0 (wrap i64 (wrap i64 (wrap i64 (wrap i64 (wrap i64 (wrap i64 (wrap i64 (wrap i64 (i0 + 1) + 1) + 1) + 1) + 1) + 1) + 1) + 1)) (wrap i64 (i1 + 1)) (set (w29_9 i0 i1 es2) (0 + toNat i1) (append (append (take 7 (getD (w29_9 i0 i1 es2) (0 + toNat i1) [])) [D.bool (Int.tmod (wrap i64 (wrap i64 (wrap i64 (wrap i64 (wrap i64 (wrap i64 (wrap i64 (i0 + 1) + 1) + 1) + 1) + 1) + 1) + 1)) (3) == 0)]) (drop 8 (getD (w29_9 i0 i1 es2) (0 + toNat i1) []))))) else none else none else none else none else none else none else none else none else K (Ex.exit 0) (X29_2 i0 i1 es2) := by kernel_rfl
theorem aX29_2 (n : Nat) (i0 : Int) (i1 : Int) (es2 : List (List D)) : k29_1 n (Ex.exit 0) (X29_2 i0 i1 es2) = some ([[D.int i64 i0]], [[D.sl true 8 es2]]) := by kernel_rfl
theorem r29 (a : List In) (k : Int) (n : Nat) : evFn ⟨prog, Hx, 29⟩ T28.call n f29 [[.sl true 8 (enS true a)], [.int .i64 k]] = loopRun (B29_0 n) 1 35 18889465931478580854754 n (S29_0 k (0) (enS true a)) (k29_1 n) := by kernel_rfl
theorem m29 (a : List In) (k : Int) (hpre : (o29 a k).1 = true) : evFn ⟨Go.Proofs.Try.prog, Hx, 29⟩ T28.call (a.length + 1) f29 [[.sl true 8 (enS true a)], [.int .i64 k]] = some (o29 a k).2 := by
  refine (r29 a k _).trans ?_
  show _ = (some ([[.int .i64 (k + cntS In.n_ a)]], [[.sl true 8 (enS true (markS In.mk_ In.n_ a k))]]) : Option (List Row × List Row))
  replace hpre : (decide (0 ≤ k) && (decide (k + cntS In.n_ a ≤ 4611686018427387904) && decide (a.length ≤ 1152921504606846976))) = true := hpre
  simp only [Bool.and_eq_true, decide_eq_true_eq] at hpre
  obtain ⟨h0, h1, h2⟩ := hpre
  refine loop_list (xs := a) (fun i (v : List In × Int) => S29_0 v.2 (Int.ofNat i) (enS true (v.1 ++ a.drop i))) (fun i v => v.1.length = i ∧ 0 ≤ v.2 ∧ v.2 + cntS In.n_ (a.drop i) ≤ 4611686018427387904) (fun _ v rest => some ([[D.int .i64 (v.2 + cntS In.n_ rest)]], [[D.sl true 8 (enS true (v.1 ++ markS In.mk_ In.n_ rest v.2))]])) ?_ ?_ (a.length + 1) ([], k) (by omega) ⟨rfl, h0, h1⟩
  · rintro ⟨pre, k⟩ ⟨hl, hk0, hk1⟩ f
    refine (q29_0 _ _ _ _ f _).trans ?_
    simp only [enS_length, List.drop_length, List.append_nil, hl, dec_lt, Nat.lt_irrefl, decide_false, cond_false]
    refine (aX29_2 _ _ _ _).trans ?_
    simp only [List.append_nil, cntS, markS, Int.add_zero]
  · rintro i ⟨pre, k⟩ hi ⟨hl, hk0, hk1⟩ f hf
    simp only at hl hk0 hk1
    rw [List.drop_eq_getElem_cons hi] at hk1
    generalize hx : a[i] = x at hk1 ⊢
    have hc := cntS_nonneg (n := In.n_) In.n_pos (a.drop (i + 1))
    have hn : In.n_ x = 8 := rfl
    simp only [cntS, hn] at hk1
    refine (q29_0 _ _ _ _ f _).trans ?_
    rw [List.drop_eq_getElem_cons hi, hx]
    have hm := mid_get pre x (a.drop (i + 1)) hl
    have hat := mid_at pre x (a.drop (i + 1)) hl hm
    have hs : ∀ R, ((enS true (pre ++ x :: a.drop (i + 1))).set i R).getD i [] = R := fun R => getD_set_same _ _ _ _ (by rw [enS_length]; exact hm)
    simp only [w29_3, w29_4, w29_5, w29_6, w29_7, w29_8, w29_9, List.length_set, enS_length, toNat_of, Nat.zero_add, dec_lt, dec_ge, hm, hs, List.set_set, enS_get _ hm, hat, decide_true, cond_true, Bool.and_self, wrap_succ (show i < 4611686018427387904 by omega), En.enc, List.append_eq, List.take_succ_cons, List.take_zero, List.drop_succ_cons, List.drop_zero, List.cons_append, List.nil_append]
    have hw1 : IntKind.wrap IntKind.i64 (k + 1) = k + 1 := wrap_le (by omega) (by omega)
    have hw2 : IntKind.wrap IntKind.i64 (k + 1 + 1) = k + 1 + 1 := wrap_le (by omega) (by omega)
    have hw3 : IntKind.wrap IntKind.i64 (k + 1 + 1 + 1) = k + 1 + 1 + 1 := wrap_le (by omega) (by omega)
    have hw4 : IntKind.wrap IntKind.i64 (k + 1 + 1 + 1 + 1) = k + 1 + 1 + 1 + 1 := wrap_le (by omega) (by omega)
    have hw5 : IntKind.wrap IntKind.i64 (k + 1 + 1 + 1 + 1 + 1) = k + 1 + 1 + 1 + 1 + 1 := wrap_le (by omega) (by omega)
    have hw6 : IntKind.wrap IntKind.i64 (k + 1 + 1 + 1 + 1 + 1 + 1) = k + 1 + 1 + 1 + 1 + 1 + 1 := wrap_le (by omega) (by omega)
    have hw7 : IntKind.wrap IntKind.i64 (k + 1 + 1 + 1 + 1 + 1 + 1 + 1) = k + 1 + 1 + 1 + 1 + 1 + 1 + 1 := wrap_le (by omega) (by omega)
    have hw8 : IntKind.wrap IntKind.i64 (k + 1 + 1 + 1 + 1 + 1 + 1 + 1 + 1) = k + 1 + 1 + 1 + 1 + 1 + 1 + 1 + 1 := wrap_le (by omega) (by omega)
    simp only [hw1, hw2, hw3, hw4, hw5, hw6, hw7, hw8]
    have he : k + 1 + 1 + 1 + 1 + 1 + 1 + 1 + 1 = k + In.n_ x := by omega
    skip
    refine (congrArg f (congrArg (S29_0 _ _) ((enS_set true _ i (In.mk_ x k)).trans (congrArg (enS true) (mid_set pre x _ _ hl))))).trans ?_
    refine (hf (pre ++ [In.mk_ x k], k + 1 + 1 + 1 + 1 + 1 + 1 + 1 + 1) ⟨by simp [hl], by simp only; omega, by simp only; omega⟩).trans ?_
    show _ = some ([[D.int .i64 (k + (In.n_ x + cntS In.n_ (a.drop (i + 1))))]], [[D.sl true 8 (enS true (pre ++ (In.mk_ x k :: markS In.mk_ In.n_ (a.drop (i + 1)) (k + In.n_ x))))]])
    rw [he, List.append_assoc, List.singleton_append, Int.add_assoc]
theorem s29 : SoundAt Go.Proofs.Try.prog Hx 29 c29 := soundAt_of T28_sound mixed func29 (by kernel_rfl) (by
  intro rows r h
  unfold c29 at h
  split at h
  · rename_i a k
    obtain ⟨hp, hr⟩ := Prod.mk.inj (Option.some.inj h)
    subst hr
    simp only [Bool.and_eq_true] at hp
    obtain ⟨hs0, hp⟩ := hp
    obtain ⟨xs0, rfl⟩ := isS_ex hs0
    simp only [deS_enS] at hp ⊢
    exact ⟨_, m29 xs0 k hp⟩
  · cases h)
def T29 : Table := (29, c29) :: T28
theorem T29_sound : Table.Sound Go.Proofs.Try.prog Hx T29 := Table.sound_cons s29 T28_sound
def o68 (a : List Port) (k : Int) : Bool × List Row × List Row := (decide (0 ≤ k) && (decide (k + cntS Port.n_ a ≤ 4611686018427387904) && decide (a.length ≤ 1152921504606846976)), [[.int .i64 (k + cntS Port.n_ a)]], [[.sl true 11 (enS true (markS Port.mk_ Port.n_ a k))]])
def c68 : Contract
  | [[.sl true 11 a], [.int .i64 k]] => some (isS Port true a && (o68 (deS Port a) k).1, (o68 (deS Port a) k).2.1, (o68 (deS Port a) k).2.2)
  | _ => none
def k68_0 (n : Nat) : Ex → St → RR := kThen (fun st ↦ runCode (Ctx.mk prog Hx (68)) (Table.call T29) n (codeAt [1, 1] (bodyOf f68)) (Lv.mk 16 [] 16) st (kLeave (Ctx.P (Ctx.mk prog Hx (68))) (List.zip (Array.toList (Go.Func.resultTypes f68)) (Array.toList (Go.Func.results f68))) [] [C.view 0 0 0 [] 11 none])) (kLeave (Ctx.P (Ctx.mk prog Hx (68))) (List.zip (Array.toList (Go.Func.resultTypes f68)) (Array.toList (Go.Func.results f68))) [] [C.view 0 0 0 [] 11 none])
def k68_1 (n : Nat) : Ex → St → RR := kBlock (0) (k68_0 n)
def S68_0 (i0 : Int) (i1 : Int) (es2 : List (List D)) : St := St.mk [V_ [C.view 0 0 0 [] 11 none], I_ i0, U, U, U, I_ i1, U, U, U, U, U, U, U, U, U, U, U, U, U, U, U, U, U, U, U, U, U, U, U, U, U, U, U, U, U, U, U, U, U, U, U, U, U, U, U, U, U, U, U, U, U, U, U, U, U, U, U, U, U, U, U, U, U, U, U, U, U, U, U, U, U, U, U, U, U, U, U, U, U, U, U, U, U, U, U, U, U, U, U, U, U, U, U, U, U, U, U, U, U, U] [Root.mk false 11 es2 0 0 true true false]
def B68_0 (n : Nat) : St → (Ex → St → RR) → RR := runCode (Ctx.mk prog Hx (68)) (Table.call T29) n (codeAt [1, 0, 1, 0, 0] (bodyOf f68)) (Lv.mk 35 [(0, 2)] 16)
def X68_2 (i0 : Int) (i1 : Int) (es2 : List (List D)) : St := St.mk [V_ [C.view 0 0 0 [] 11 none], I_ i0, U, U, U, I_ i1, I_ i1, V_ [C.view 0 0 0 [] 11 none], I_ (ofNat (length es2)), B_ false, U, U, U, U, U, U, U, U, U, U, U, U, U, U, U, U, U, U, U, U, U, U, U, U, U, U, U, U, U, U, U, U, U, U, U, U, U, U, U, U, U, U, U, U, U, U, U, U, U, U, U, U, U, U, U, U, U, U, U, U, U, U, U, U, U, U, U, U, U, U, U, U, U, U, U, U, U, U, U, U, U, U, U, U, U, U, U, U, U, U] [Root.mk false 11 es2 0 0 true true false]
def w68_3 (i0 : Int) (i1 : Int) (es2 : List (List D)) : List (List D) := set es2 (0 + toNat i1) (D.bool (Int.tmod i0 (3) == 0) :: drop 1 (getD es2 (0 + toNat i1) []))
def w68_4 (i0 : Int) (i1 : Int) (es2 : List (List D)) : List (List D) := set (w68_3 i0 i1 es2) (0 + toNat i1) (append (append (take 1 (getD (w68_3 i0 i1 es2) (0 + toNat i1) [])) [D.bool (Int.tmod (wrap i64 (i0 + 1)) (3) == 0)]) (drop 2 (getD (w68_3 i0 i1 es2) (0 + toNat i1) [])))
def w68_5 (i0 : Int) (i1 : Int) (es2 : List (List D)) : List (List D) := set (w68_4 i0 i1 es2) (0 + toNat i1) (append (append (take 2 (getD (w68_4 i0 i1 es2) (0 + toNat i1) [])) [D.int i64 (wrap i64 (wrap i64 (i0 + 1) + 1))]) (drop 3 (getD (w68_4 i0 i1 es2) (0 + toNat i1) [])))
def w68_6 (i0 : Int) (i1 : Int) (es2 : List (List D)) : List (List D) := set (w68_5 i0 i1 es2) (0 + toNat i1) (append (append (take 3 (getD (w68_5 i0 i1 es2) (0 + toNat i1) [])) [D.int i64 (wrap i64 (wrap i64 (wrap i64 (i0 + 1) + 1) + 1))]) (drop 4 (getD (w68_5 i0 i1 es2) (0 + toNat i1) [])))
def w68_7 (i0 : Int) (i1 : Int) (es2 : List (List D)) : List (List D) := set (w68_6 i0 i1 es2) (0 + toNat i1) (append (append (take 4 (getD (w68_6 i0 i1 es2) (0 + toNat i1) [])) [D.int i64 (wrap i64 (wrap i64 (wrap i64 (wrap i64 (i0 + 1) + 1) + 1) + 1))]) (drop 5 (getD (w68_6 i0 i1 es2) (0 + toNat i1) [])))
def w68_8 (i0 : Int) (i1 : Int) (es2 : List (List D)) : List (List D) := set (w68_7 i0 i1 es2) (0 + toNat i1) (append (append (take 5 (getD (w68_7 i0 i1 es2) (0 + toNat i1) [])) [D.int i64 (wrap i64 (wrap i64 (wrap i64 (wrap i64 (wrap i64 (i0 + 1) + 1) + 1) + 1) + 1))]) (drop 6 (getD (w68_7 i0 i1 es2) (0 + toNat i1) [])))
def w68_9 (i0 : Int) (i1 : Int) (es2 : List (List D)) : List (List D) := set (w68_8 i0 i1 es2) (0 + toNat i1) (append (append (take 6 (getD (w68_8 i0 i1 es2) (0 + toNat i1) [])) [D.int i64 (wrap i64 (wrap i64 (wrap i64 (wrap i64 (wrap i64 (wrap i64 (i0 + 1) + 1) + 1) + 1) + 1) + 1))]) (drop 7 (getD (w68_8 i0 i1 es2) (0 + toNat i1) [])))
def w68_10 (i0 : Int) (i1 : Int) (es2 : List (List D)) : List (List D) := set (w68_9 i0 i1 es2) (0 + toNat i1) (append (append (take 7 (getD (w68_9 i0 i1 es2) (0 + toNat i1) [])) [D.int i64 (wrap i64 (wrap i64 (wrap i64 (wrap i64 (wrap i64 (wrap i64 (wrap i64 (i0 + 1) + 1) + 1) + 1) + 1) + 1) + 1))]) (drop 8 (getD (w68_9 i0 i1 es2) (0 + toNat i1) [])))
def w68_11 (i0 : Int) (i1 : Int) (es2 : List (List D)) : List (List D) := set (w68_10 i0 i1 es2) (0 + toNat i1) (append (append (take 8 (getD (w68_10 i0 i1 es2) (0 + toNat i1) [])) [D.int i64 (wrap i64 (wrap i64 (wrap i64 (wrap i64 (wrap i64 (wrap i64 (wrap i64 (wrap i64 (i0 + 1) + 1) + 1) + 1) + 1) + 1) + 1) + 1))]) (drop 9 (getD (w68_10 i0 i1 es2) (0 + toNat i1) [])))
def w68_12 (i0 : Int) (i1 : Int) (es2 : List (List D)) : List (List D) := set (w68_11 i0 i1 es2) (0 + toNat i1) (append (append (take 9 (getD (w68_11 i0 i1 es2) (0 + toNat i1) [])) [D.int i64 (wrap i64 (wrap i64 (wrap i64 (wrap i64 (wrap i64 (wrap i64 (wrap i64 (wrap i64 (wrap i64 (i0 + 1) + 1) + 1) + 1) + 1) + 1) + 1) + 1) + 1))]) (drop 10 (getD (w68_11 i0 i1 es2) (0 + toNat i1) [])))
theorem q68_0 (n : Nat) (i0 : Int) (i1 : Int) (es2 : List (List D)) (f : St → RR) (K : Ex → St → RR) : B68_0 n (S68_0 i0 i1 es2) (kThen (fun st ↦ f (St.head 1 35 633825300114114700748351602658 st)) K) = bif decide (i1 < ofNat (length es2)) then bif decide (0 ≤ i1) && decide (i1 < ofNat (length es2)) then bif decide (0 ≤ i1) && decide (i1 < ofNat (length (w68_3 i0 i1 es2))) then bif decide (0 ≤ i1) && decide (i1 < ofNat (length (w68_4 i0 i1 es2))) then bif decide (0 ≤ i1) && decide (i1 < ofNat (length (w68_5 i0 i1 es2))) then bif decide (0 ≤ i1) && decide (i1 < ofNat (length (w68_6 i0 i1 es2))) then bif decide (0 ≤ i1) && decide (i1 < ofNat (length (w68_7 i0 i1 es2))) then bif decide (0 ≤ i1) && decide (i1 < ofNat (length (w68_8 i0 i1 es2))) then bif decide (0 ≤ i1) && decide (i1 < ofNat (length (w68_9 i0 i1 es2))) then bif decide (0 ≤ i1) && decide (i1 < ofNat (length (w68_10 i0 i1 es2))) then bif decide (0 ≤ i1) && decide (i1 < ofNat (length (w68_11 i0 i1 es2))) then bif decide (0 ≤ i1) && decide (i1 < ofNat (length (w68_12 i0 i1 es2))) then f (S68_0 (wrap i64 (wrap i64 (wrap i64 (wrap i64 (wrap i64 (wrap i64 (wrap i64 (wrap i64 (wrap i64 (wrap i64 (wrap i64 (i0 + 1) + 1) + 1) + 1) + 1) + 1) + 1) + 1) + 1) + 1) + 1)) (wrap i64 (i1 + 1)) (set (w68_12 i0 i1 es2) (0 + toNat i1) (append (append (take 10 (getD (w68_12 i0 i1 es2) (0 + toNat i1) [])) [D.bool (Int.tmod (wrap i64 (wrap i64 (wrap i64 (wrap i64 (wrap i64 (wrap i64 (wrap i64 (wrap i64 (wrap i64 (wrap i64 (i0 + 1) + 1) + 1) + 1) + 1) + 1) + 1) + 1) + 1) + 1)) (3) == 0)]) (drop 11 (getD (w68_12 i0 i1 es2) (0 + toNat i1) []))))) else none else none else none else none else none else none else none else none else none else none else none else K (Ex.exit 0) (X68_2 i0 i1 es2) := by kernel_rfl
theorem aX68_2 (n : Nat) (i0 : Int) (i1 : Int) (es2 : List (List D)) : k68_1 n (Ex.exit 0) (X68_2 i0 i1 es2) = some ([[D.int i64 i0]], [[D.sl true 11 es2]]) := by kernel_rfl
theorem r68 (a : List Port) (k : Int) (n : Nat) : evFn ⟨prog, Hx, 68⟩ T29.call n f68 [[.sl true 11 (enS true a)], [.int .i64 k]] = loopRun (B68_0 n) 1 35 633825300114114700748351602658 n (S68_0 k (0) (enS true a)) (k68_1 n) := by kernel_rfl
theorem m68 (a : List Port) (k : Int) (hpre : (o68 a k).1 = true) : evFn ⟨Go.Proofs.Try.prog, Hx, 68⟩ T29.call (a.length + 1) f68 [[.sl true 11 (enS true a)], [.int .i64 k]] = some (o68 a k).2 := by
  refine (r68 a k _).trans ?_
  show _ = (some ([[.int .i64 (k + cntS Port.n_ a)]], [[.sl true 11 (enS true (markS Port.mk_ Port.n_ a k))]]) : Option (List Row × List Row))
  replace hpre : (decide (0 ≤ k) && (decide (k + cntS Port.n_ a ≤ 4611686018427387904) && decide (a.length ≤ 1152921504606846976))) = true := hpre
  simp only [Bool.and_eq_true, decide_eq_true_eq] at hpre
  obtain ⟨h0, h1, h2⟩ := hpre
  refine loop_list (xs := a) (fun i (v : List Port × Int) => S68_0 v.2 (Int.ofNat i) (enS true (v.1 ++ a.drop i))) (fun i v => v.1.length = i ∧ 0 ≤ v.2 ∧ v.2 + cntS Port.n_ (a.drop i) ≤ 4611686018427387904) (fun _ v rest => some ([[D.int .i64 (v.2 + cntS Port.n_ rest)]], [[D.sl true 11 (enS true (v.1 ++ markS Port.mk_ Port.n_ rest v.2))]])) ?_ ?_ (a.length + 1) ([], k) (by omega) ⟨rfl, h0, h1⟩
  · rintro ⟨pre, k⟩ ⟨hl, hk0, hk1⟩ f
    refine (q68_0 _ _ _ _ f _).trans ?_
    simp only [enS_length, List.drop_length, List.append_nil, hl, dec_lt, Nat.lt_irrefl, decide_false, cond_false]
    refine (aX68_2 _ _ _ _).trans ?_
    simp only [List.append_nil, cntS, markS, Int.add_zero]
  · rintro i ⟨pre, k⟩ hi ⟨hl, hk0, hk1⟩ f hf
    simp only at hl hk0 hk1
    rw [List.drop_eq_getElem_cons hi] at hk1
    generalize hx : a[i] = x at hk1 ⊢
    have hc := cntS_nonneg (n := Port.n_) Port.n_pos (a.drop (i + 1))
    have hn : Port.n_ x = 11 := rfl
    simp only [cntS, hn] at hk1
    refine (q68_0 _ _ _ _ f _).trans ?_
    rw [List.drop_eq_getElem_cons hi, hx]
    have hm := mid_get pre x (a.drop (i + 1)) hl
    have hat := mid_at pre x (a.drop (i + 1)) hl hm
    have hs : ∀ R, ((enS true (pre ++ x :: a.drop (i + 1))).set i R).getD i [] = R := fun R => getD_set_same _ _ _ _ (by rw [enS_length]; exact hm)
    simp only [w68_3, w68_4, w68_5, w68_6, w68_7, w68_8, w68_9, w68_10, w68_11, w68_12, List.length_set, enS_length, toNat_of, Nat.zero_add, dec_lt, dec_ge, hm, hs, List.set_set, enS_get _ hm, hat, decide_true, cond_true, Bool.and_self, wrap_succ (show i < 4611686018427387904 by omega), En.enc, List.append_eq, List.take_succ_cons, List.take_zero, List.drop_succ_cons, List.drop_zero, List.cons_append, List.nil_append]
    have hw1 : IntKind.wrap IntKind.i64 (k + 1) = k + 1 := wrap_le (by omega) (by omega)
    have hw2 : IntKind.wrap IntKind.i64 (k + 1 + 1) = k + 1 + 1 := wrap_le (by omega) (by omega)
    have hw3 : IntKind.wrap IntKind.i64 (k + 1 + 1 + 1) = k + 1 + 1 + 1 := wrap_le (by omega) (by omega)
    have hw4 : IntKind.wrap IntKind.i64 (k + 1 + 1 + 1 + 1) = k + 1 + 1 + 1 + 1 := wrap_le (by omega) (by omega)
    have hw5 : IntKind.wrap IntKind.i64 (k + 1 + 1 + 1 + 1 + 1) = k + 1 + 1 + 1 + 1 + 1 := wrap_le (by omega) (by omega)
    have hw6 : IntKind.wrap IntKind.i64 (k + 1 + 1 + 1 + 1 + 1 + 1) = k + 1 + 1 + 1 + 1 + 1 + 1 := wrap_le (by omega) (by omega)
    have hw7 : IntKind.wrap IntKind.i64 (k + 1 + 1 + 1 + 1 + 1 + 1 + 1) = k + 1 + 1 + 1 + 1 + 1 + 1 + 1 := wrap_le (by omega) (by omega)
    have hw8 : IntKind.wrap IntKind.i64 (k + 1 + 1 + 1 + 1 + 1 + 1 + 1 + 1) = k + 1 + 1 + 1 + 1 + 1 + 1 + 1 + 1 := wrap_le (by omega) (by omega)
    have hw9 : IntKind.wrap IntKind.i64 (k + 1 + 1 + 1 + 1 + 1 + 1 + 1 + 1 + 1) = k + 1 + 1 + 1 + 1 + 1 + 1 + 1 + 1 + 1 := wrap_le (by omega) (by omega)
    have hw10 : IntKind.wrap IntKind.i64 (k + 1 + 1 + 1 + 1 + 1 + 1 + 1 + 1 + 1 + 1) = k + 1 + 1 + 1 + 1 + 1 + 1 + 1 + 1 + 1 + 1 := wrap_le (by omega) (by omega)
    have hw11 : IntKind.wrap IntKind.i64 (k + 1 + 1 + 1 + 1 + 1 + 1 + 1 + 1 + 1 + 1 + 1) = k + 1 + 1 + 1 + 1 + 1 + 1 + 1 + 1 + 1 + 1 + 1 := wrap_le (by omega) (by omega)
    simp only [hw1, hw2, hw3, hw4, hw5, hw6, hw7, hw8, hw9, hw10, hw11]
    have he : k + 1 + 1 + 1 + 1 + 1 + 1 + 1 + 1 + 1 + 1 + 1 = k + Port.n_ x := by omega
    skip
    refine (congrArg f (congrArg (S68_0 _ _) ((enS_set true _ i (Port.mk_ x k)).trans (congrArg (enS true) (mid_set pre x _ _ hl))))).trans ?_
    refine (hf (pre ++ [Port.mk_ x k], k + 1 + 1 + 1 + 1 + 1 + 1 + 1 + 1 + 1 + 1 + 1) ⟨by simp [hl], by simp only; omega, by simp only; omega⟩).trans ?_
    show _ = some ([[D.int .i64 (k + (Port.n_ x + cntS Port.n_ (a.drop (i + 1))))]], [[D.sl true 11 (enS true (pre ++ (Port.mk_ x k :: markS Port.mk_ Port.n_ (a.drop (i + 1)) (k + Port.n_ x))))]])
    rw [he, List.append_assoc, List.singleton_append, Int.add_assoc]
theorem s68 : SoundAt Go.Proofs.Try.prog Hx 68 c68 := soundAt_of T29_sound mixed func68 (by kernel_rfl) (by
  intro rows r h
  unfold c68 at h
  split at h
  · rename_i a k
    obtain ⟨hp, hr⟩ := Prod.mk.inj (Option.some.inj h)
    subst hr
    simp only [Bool.and_eq_true] at hp
    obtain ⟨hs0, hp⟩ := hp
    obtain ⟨xs0, rfl⟩ := isS_ex hs0
    simp only [deS_enS] at hp ⊢
    exact ⟨_, m68 xs0 k hp⟩
  · cases h)
def T68 : Table := (68, c68) :: T29
theorem T68_sound : Table.Sound Go.Proofs.Try.prog Hx T68 := Table.sound_cons s68 T29_sound
def o30 (a : Bridge) (k : Int) : Bool × List Row × List Row := (decide (0 ≤ k) && (decide (k + Bridge.nTop a ≤ 4611686018427387904) && (decide (a.Ports.length ≤ 1152921504606846976))), [[.int .i64 (k + Bridge.nTop a)]], [[.int .i64 (Bridge.mkTop a k).Id, .sl true 11 (enS true (Bridge.mkTop a k).Ports)]])
def c30 : Contract
  | [[.int .i64 a_Id, .sl true 11 a_Ports], [.int .i64 k]] => some (isS Port true a_Ports && (o30 ⟨a_Id, (deS Port a_Ports)⟩ k).1, (o30 ⟨a_Id, (deS Port a_Ports)⟩ k).2.1, (o30 ⟨a_Id, (deS Port a_Ports)⟩ k).2.2)
  | _ => none
theorem r30 (a : Bridge) (k : Int) (n : Nat) : evFn ⟨prog, Hx, 30⟩ T68.call n f30 [[.int .i64 a.Id, .sl true 11 (enS true a.Ports)], [.int .i64 k]] = bif isS Port true (enS true (Bridge.Ports a)) && (decide (0 ≤ k) && (decide (k + cntS Port.n_ (deS Port (enS true (Bridge.Ports a))) ≤ 4611686018427387904) && decide (length (deS Port (enS true (Bridge.Ports a))) ≤ 1152921504606846976))) then some ([[D.int i64 (k + cntS Port.n_ (deS Port (enS true (Bridge.Ports a))))]], [[D.int i64 (Bridge.Id a), D.sl true 11 (enS true (markS Port.mk_ Port.n_ (deS Port (enS true (Bridge.Ports a))) k))]]) else none := by kernel_rfl
theorem m30 (a : Bridge) (k : Int) (hpre : (o30 a k).1 = true) : evFn ⟨Go.Proofs.Try.prog, Hx, 30⟩ T68.call 0 f30 [[.int .i64 a.Id, .sl true 11 (enS true a.Ports)], [.int .i64 k]] = some (o30 a k).2 := by
  refine (r30 a k _).trans ?_
  show _ = (some ([[.int .i64 (k + Bridge.nTop a)]], [[.int .i64 (Bridge.mkTop a k).Id, .sl true 11 (enS true (Bridge.mkTop a k).Ports)]]) : Option (List Row × List Row))
  replace hpre : (decide (0 ≤ k) && (decide (k + Bridge.nTop a ≤ 4611686018427387904) && (decide (a.Ports.length ≤ 1152921504606846976)))) = true := hpre
  simp only [Bool.and_eq_true] at hpre
  obtain ⟨h0, h1, h2⟩ := hpre
  have h0' := of_decide_eq_true h0
  have h1' := of_decide_eq_true h1
  unfold Bridge.nTop at h1'
  have p0 : 0 ≤ cntS Port.n_ a.Ports := cntS_nonneg Port.n_pos a.Ports
  have g0 : decide (0 ≤ k) = true := decide_eq_true (by omega)
  have f0 : decide (k + cntS Port.n_ a.Ports ≤ 4611686018427387904) = true := decide_eq_true (by omega)
  have d0 : decide (k + cntS Port.n_ a.Ports < 0) = false := decide_eq_false (by omega)
  simp only [g0, f0, d0, h2, isS_enS, deS_enS, sameB_self, cond_true, cond_false, Bool.and_self, Bool.and_true, Bool.true_and, Bridge.mkTop, Bridge.nTop]
  try rfl
theorem s30 : SoundAt Go.Proofs.Try.prog Hx 30 c30 := soundAt_of T68_sound mixed func30 (by kernel_rfl) (by
  intro rows r h
  unfold c30 at h
  split at h
  · rename_i a_Id a_Ports k
    obtain ⟨hp, hr⟩ := Prod.mk.inj (Option.some.inj h)
    subst hr
    simp only [Bool.and_eq_true] at hp
    obtain ⟨hs0, hp⟩ := hp
    obtain ⟨xs0, rfl⟩ := isS_ex hs0
    simp only [deS_enS] at hp ⊢
    exact ⟨_, m30 ⟨a_Id, xs0⟩ k hp⟩
  · cases h)
def T30 : Table := (30, c30) :: T68
theorem T30_sound : Table.Sound Go.Proofs.Try.prog Hx T30 := Table.sound_cons s30 T68_sound
def o69 (a : List Port) (k : Int) : Bool × List Row × List Row := (sameB (markS Port.mk_ Port.n_ a k) a && (decide (0 ≤ k) && (decide (k + cntS Port.n_ a ≤ 4611686018427387904) && decide (a.length ≤ 1152921504606846976))), [[.int .i64 (k + cntS Port.n_ a)]], [])
def c69 : Contract
  | [[.sl false 11 a], [.int .i64 k]] => some (isS Port false a && (o69 (deS Port a) k).1, (o69 (deS Port a) k).2.1, (o69 (deS Port a) k).2.2)
  | _ => none
def k69_0 (n : Nat) : Ex → St → RR := kThen (fun st ↦ runCode (Ctx.mk prog Hx (69)) (Table.call T30) n (codeAt [1, 1] (bodyOf f69)) (Lv.mk 16 [] 16) st (kLeave (Ctx.P (Ctx.mk prog Hx (69))) (List.zip (Array.toList (Go.Func.resultTypes f69)) (Array.toList (Go.Func.results f69))) [] [])) (kLeave (Ctx.P (Ctx.mk prog Hx (69))) (List.zip (Array.toList (Go.Func.resultTypes f69)) (Array.toList (Go.Func.results f69))) [] [])
def k69_1 (n : Nat) : Ex → St → RR := kBlock (0) (k69_0 n)
def S69_0 (a : List Port) (i0 : Int) (i1 : Int) : St := St.mk [V_ [C.d (D.sl false 11 (enS false a))], I_ i0, U, U, U, I_ i1, U, U, U, U, U, U, U, U, U, U, U, U, U, U, U, U, U, U, U, U, U, U, U, U, U, U, U, U, U, U, U, U, U, U, U, U, U, U, U, U, U, U, U, U, U, U, U, U, U, U, U, U, U, U, U, U, U, U, U, U, U, U, U, U, U, U, U, U, U, U, U, U, U, U, U, U, U, U, U, U, U, U, U, U, U, U, U, U, U, U, U, U, U, U, U, U, U, U, U, U, U, U, U, U, U, U, U, U, U, U, U, U, U, U, U, U] []
def B69_0 (n : Nat) : St → (Ex → St → RR) → RR := runCode (Ctx.mk prog Hx (69)) (Table.call T30) n (codeAt [1, 0, 1, 0, 0] (bodyOf f69)) (Lv.mk 35 [(0, 2)] 16)
def X69_2 (a : List Port) (i0 : Int) (i1 : Int) : St := St.mk [V_ [C.d (D.sl false 11 (enS false a))], I_ i0, U, U, I_ (Int.negSucc 0), I_ i1, I_ i1, V_ [C.d (D.sl false 11 (enS false a))], I_ (ofNat (length (enS false a))), B_ true, U, U, V_ [C.d (D.sl false 11 (enS false a))], I_ i1, V_ [C.rptr (getD (enS false a) (toNat i1) [])], V_ [C.rptr (getD (enS false a) (toNat i1) [])], B_ (D.flag (getD (getD (enS false a) (toNat i1) []) 0 D.dead)), I_ i0, I_ (Int.tmod i0 (3)), B_ (Int.tmod i0 (3) == 0), B_ true, U, U, U, U, U, U, U, U, U, U, U, U, U, U, U, U, U, U, U, U, U, U, U, U, U, U, U, U, U, U, U, U, U, U, U, U, U, U, U, U, U, U, U, U, U, U, U, U, U, U, U, U, U, U, U, U, U, U, U, U, U, U, U, U, U, U, U, U, U, U, U, U, U, U, U, U, U, U, U, U, U, U, U, U, U, U, U, U, U, U, U, U, U, U, U, U, U, U, U, U, U] []
def X69_3 (a : List Port) (i0 : Int) (i1 : Int) : St := St.mk [V_ [C.d (D.sl false 11 (enS false a))], I_ (wrap i64 (i0 + 1)), U, U, I_ (Int.negSucc 0), I_ i1, I_ i1, V_ [C.d (D.sl false 11 (enS false a))], I_ (ofNat (length (enS false a))), B_ true, U, U, V_ [C.d (D.sl false 11 (enS false a))], I_ i1, V_ [C.rptr (getD (enS false a) (toNat i1) [])], V_ [C.rptr (getD (enS false a) (toNat i1) [])], B_ (D.flag (getD (getD (enS false a) (toNat i1) []) 0 D.dead)), I_ i0, I_ (Int.tmod i0 (3)), B_ (Int.tmod i0 (3) == 0), B_ false, I_ i0, I_ (wrap i64 (i0 + 1)), V_ [C.d (D.sl false 11 (enS false a))], I_ i1, V_ [C.rptr (getD (enS false a) (toNat i1) [])], V_ [C.rptr (drop 1 (getD (enS false a) (toNat i1) []))], B_ (D.flag (getD (drop 1 (getD (enS false a) (toNat i1) [])) 0 D.dead)), I_ (wrap i64 (i0 + 1)), I_ (Int.tmod (wrap i64 (i0 + 1)) (3)), B_ (Int.tmod (wrap i64 (i0 + 1)) (3) == 0), B_ true, U, U, U, U, U, U, U, U, U, U, U, U, U, U, U, U, U, U, U, U, U, U, U, U, U, U, U, U, U, U, U, U, U, U, U, U, U, U, U, U, U, U, U, U, U, U, U, U, U, U, U, U, U, U, U, U, U, U, U, U, U, U, U, U, U, U, U, U, U, U, U, U, U, U, U, U, U, U, U, U, U, U, U, U, U, U, U, U, U, U] []
def X69_4 (a : List Port) (i0 : Int) (i1 : Int) : St := St.mk [V_ [C.d (D.sl false 11 (enS false a))], I_ (wrap i64 (wrap i64 (i0 + 1) + 1)), U, U, I_ (Int.negSucc 0), I_ i1, I_ i1, V_ [C.d (D.sl false 11 (enS false a))], I_ (ofNat (length (enS false a))), B_ true, U, U, V_ [C.d (D.sl false 11 (enS false a))], I_ i1, V_ [C.rptr (getD (enS false a) (toNat i1) [])], V_ [C.rptr (getD (enS false a) (toNat i1) [])], B_ (D.flag (getD (getD (enS false a) (toNat i1) []) 0 D.dead)), I_ i0, I_ (Int.tmod i0 (3)), B_ (Int.tmod i0 (3) == 0), B_ false, I_ i0, I_ (wrap i64 (i0 + 1)), V_ [C.d (D.sl false 11 (enS false a))], I_ i1, V_ [C.rptr (getD (enS false a) (toNat i1) [])], V_ [C.rptr (drop 1 (getD (enS false a) (toNat i1) []))], B_ (D.flag (getD (drop 1 (getD (enS false a) (toNat i1) [])) 0 D.dead)), I_ (wrap i64 (i0 + 1)), I_ (Int.tmod (wrap i64 (i0 + 1)) (3)), B_ (Int.tmod (wrap i64 (i0 + 1)) (3) == 0), B_ false, I_ (wrap i64 (i0 + 1)), I_ (wrap i64 (wrap i64 (i0 + 1) + 1)), V_ [C.d (D.sl false 11 (enS false a))], I_ i1, V_ [C.rptr (getD (enS false a) (toNat i1) [])], V_ [C.rptr (drop 2 (getD (enS false a) (toNat i1) []))], V_ [C.rptr (drop 2 (getD (enS false a) (toNat i1) []))], I_ (D.num (getD (drop 2 (getD (enS false a) (toNat i1) [])) 0 D.dead)), I_ (wrap i64 (wrap i64 (i0 + 1) + 1)), B_ true, U, U, U, U, U, U, U, U, U, U, U, U, U, U, U, U, U, U, U, U, U, U, U, U, U, U, U, U, U, U, U, U, U, U, U, U, U, U, U, U, U, U, U, U, U, U, U, U, U, U, U, U, U, U, U, U, U, U, U, U, U, U, U, U, U, U, U, U, U, U, U, U, U, U, U, U, U, U, U, U] []
def X69_5 (a : List Port) (i0 : Int) (i1 : Int) : St := St.mk [V_ [C.d (D.sl false 11 (enS false a))], I_ (wrap i64 (wrap i64 (wrap i64 (i0 + 1) + 1) + 1)), U, U, I_ (Int.negSucc 0), I_ i1, I_ i1, V_ [C.d (D.sl false 11 (enS false a))], I_ (ofNat (length (enS false a))), B_ true, U, U, V_ [C.d (D.sl false 11 (enS false a))], I_ i1, V_ [C.rptr (getD (enS false a) (toNat i1) [])], V_ [C.rptr (getD (enS false a) (toNat i1) [])], B_ (D.flag (getD (getD (enS false a) (toNat i1) []) 0 D.dead)), I_ i0, I_ (Int.tmod i0 (3)), B_ (Int.tmod i0 (3) == 0), B_ false, I_ i0, I_ (wrap i64 (i0 + 1)), V_ [C.d (D.sl false 11 (enS false a))], I_ i1, V_ [C.rptr (getD (enS false a) (toNat i1) [])], V_ [C.rptr (drop 1 (getD (enS false a) (toNat i1) []))], B_ (D.flag (getD (drop 1 (getD (enS false a) (toNat i1) [])) 0 D.dead)), I_ (wrap i64 (i0 + 1)), I_ (Int.tmod (wrap i64 (i0 + 1)) (3)), B_ (Int.tmod (wrap i64 (i0 + 1)) (3) == 0), B_ false, I_ (wrap i64 (i0 + 1)), I_ (wrap i64 (wrap i64 (i0 + 1) + 1)), V_ [C.d (D.sl false 11 (enS false a))], I_ i1, V_ [C.rptr (getD (enS false a) (toNat i1) [])], V_ [C.rptr (drop 2 (getD (enS false a) (toNat i1) []))], V_ [C.rptr (drop 2 (getD (enS false a) (toNat i1) []))], I_ (D.num (getD (drop 2 (getD (enS false a) (toNat i1) [])) 0 D.dead)), I_ (wrap i64 (wrap i64 (i0 + 1) + 1)), B_ false, I_ (wrap i64 (wrap i64 (i0 + 1) + 1)), I_ (wrap i64 (wrap i64 (wrap i64 (i0 + 1) + 1) + 1)), V_ [C.d (D.sl false 11 (enS false a))], I_ i1, V_ [C.rptr (getD (enS false a) (toNat i1) [])], V_ [C.rptr (drop 2 (getD (enS false a) (toNat i1) []))], V_ [C.rptr (drop 1 (drop 2 (getD (enS false a) (toNat i1) [])))], I_ (D.num (getD (drop 1 (drop 2 (getD (enS false a) (toNat i1) []))) 0 D.dead)), I_ (wrap i64 (wrap i64 (wrap i64 (i0 + 1) + 1) + 1)), B_ true, U, U, U, U, U, U, U, U, U, U, U, U, U, U, U, U, U, U, U, U, U, U, U, U, U, U, U, U, U, U, U, U, U, U, U, U, U, U, U, U, U, U, U, U, U, U, U, U, U, U, U, U, U, U, U, U, U, U, U, U, U, U, U, U, U, U, U, U, U, U] []
def X69_6 (a : List Port) (i0 : Int) (i1 : Int) : St := St.mk [V_ [C.d (D.sl false 11 (enS false a))], I_ (wrap i64 (wrap i64 (wrap i64 (wrap i64 (i0 + 1) + 1) + 1) + 1)), U, U, I_ (Int.negSucc 0), I_ i1, I_ i1, V_ [C.d (D.sl false 11 (enS false a))], I_ (ofNat (length (enS false a))), B_ true, U, U, V_ [C.d (D.sl false 11 (enS false a))], I_ i1, V_ [C.rptr (getD (enS false a) (toNat i1) [])], V_ [C.rptr (getD (enS false a) (toNat i1) [])], B_ (D.flag (getD (getD (enS false a) (toNat i1) []) 0 D.dead)), I_ i0, I_ (Int.tmod i0 (3)), B_ (Int.tmod i0 (3) == 0), B_ false, I_ i0, I_ (wrap i64 (i0 + 1)), V_ [C.d (D.sl false 11 (enS false a))], I_ i1, V_ [C.rptr (getD (enS false a) (toNat i1) [])], V_ [C.rptr (drop 1 (getD (enS false a) (toNat i1) []))], B_ (D.flag (getD (drop 1 (getD (enS false a) (toNat i1) [])) 0 D.dead)), I_ (wrap i64 (i0 + 1)), I_ (Int.tmod (wrap i64 (i0 + 1)) (3)), B_ (Int.tmod (wrap i64 (i0 + 1)) (3) == 0), B_ false, I_ (wrap i64 (i0 + 1)), I_ (wrap i64 (wrap i64 (i0 + 1) + 1)), V_ [C.d (D.sl false 11 (enS false a))], I_ i1, V_ [C.rptr (getD (enS false a) (toNat i1) [])], V_ [C.rptr (drop 2 (getD (enS false a) (toNat i1) []))], V_ [C.rptr (drop 2 (getD (enS false a) (toNat i1) []))], I_ (D.num (getD (drop 2 (getD (enS false a) (toNat i1) [])) 0 D.dead)), I_ (wrap i64 (wrap i64 (i0 + 1) + 1)), B_ false, I_ (wrap i64 (wrap i64 (i0 + 1) + 1)), I_ (wrap i64 (wrap i64 (wrap i64 (i0 + 1) + 1) + 1)), V_ [C.d (D.sl false 11 (enS false a))], I_ i1, V_ [C.rptr (getD (enS false a) (toNat i1) [])], V_ [C.rptr (drop 2 (getD (enS false a) (toNat i1) []))], V_ [C.rptr (drop 1 (drop 2 (getD (enS false a) (toNat i1) [])))], I_ (D.num (getD (drop 1 (drop 2 (getD (enS false a) (toNat i1) []))) 0 D.dead)), I_ (wrap i64 (wrap i64 (wrap i64 (i0 + 1) + 1) + 1)), B_ false, I_ (wrap i64 (wrap i64 (wrap i64 (i0 + 1) + 1) + 1)), I_ (wrap i64 (wrap i64 (wrap i64 (wrap i64 (i0 + 1) + 1) + 1) + 1)), V_ [C.d (D.sl false 11 (enS false a))], I_ i1, V_ [C.rptr (getD (enS false a) (toNat i1) [])], V_ [C.rptr (drop 2 (getD (enS false a) (toNat i1) []))], V_ [C.rptr (drop 2 (drop 2 (getD (enS false a) (toNat i1) [])))], I_ (D.num (getD (drop 2 (drop 2 (getD (enS false a) (toNat i1) []))) 0 D.dead)), I_ (wrap i64 (wrap i64 (wrap i64 (wrap i64 (i0 + 1) + 1) + 1) + 1)), B_ true, U, U, U, U, U, U, U, U, U, U, U, U, U, U, U, U, U, U, U, U, U, U, U, U, U, U, U, U, U, U, U, U, U, U, U, U, U, U, U, U, U, U, U, U, U, U, U, U, U, U, U, U, U, U, U, U, U, U, U, U] []
def X69_7 (a : List Port) (i0 : Int) (i1 : Int) : St := St.mk [V_ [C.d (D.sl false 11 (enS false a))], I_ (wrap i64 (wrap i64 (wrap i64 (wrap i64 (wrap i64 (i0 + 1) + 1) + 1) + 1) + 1)), U, U, I_ (Int.negSucc 0), I_ i1, I_ i1, V_ [C.d (D.sl false 11 (enS false a))], I_ (ofNat (length (enS false a))), B_ true, U, U, V_ [C.d (D.sl false 11 (enS false a))], I_ i1, V_ [C.rptr (getD (enS false a) (toNat i1) [])], V_ [C.rptr (getD (enS false a) (toNat i1) [])], B_ (D.flag (getD (getD (enS false a) (toNat i1) []) 0 D.dead)), I_ i0, I_ (Int.tmod i0 (3)), B_ (Int.tmod i0 (3) == 0), B_ false, I_ i0, I_ (wrap i64 (i0 + 1)), V_ [C.d (D.sl false 11 (enS false a))], I_ i1, V_ [C.rptr (getD (enS false a) (toNat i1) [])], V_ [C.rptr (drop 1 (getD (enS false a) (toNat i1) []))], B_ (D.flag (getD (drop 1 (getD (enS false a) (toNat i1) [])) 0 D.dead)), I_ (wrap i64 (i0 + 1)), I_ (Int.tmod (wrap i64 (i0 + 1)) (3)), B_ (Int.tmod (wrap i64 (i0 + 1)) (3) == 0), B_ false, I_ (wrap i64 (i0 + 1)), I_ (wrap i64 (wrap i64 (i0 + 1) + 1)), V_ [C.d (D.sl false 11 (enS false a))], I_ i1, V_ [C.rptr (getD (enS false a) (toNat i1) [])], V_ [C.rptr (drop 2 (getD (enS false a) (toNat i1) []))], V_ [C.rptr (drop 2 (getD (enS false a) (toNat i1) []))], I_ (D.num (getD (drop 2 (getD (enS false a) (toNat i1) [])) 0 D.dead)), I_ (wrap i64 (wrap i64 (i0 + 1) + 1)), B_ false, I_ (wrap i64 (wrap i64 (i0 + 1) + 1)), I_ (wrap i64 (wrap i64 (wrap i64 (i0 + 1) + 1) + 1)), V_ [C.d (D.sl false 11 (enS false a))], I_ i1, V_ [C.rptr (getD (enS false a) (toNat i1) [])], V_ [C.rptr (drop 2 (getD (enS false a) (toNat i1) []))], V_ [C.rptr (drop 1 (drop 2 (getD (enS false a) (toNat i1) [])))], I_ (D.num (getD (drop 1 (drop 2 (getD (enS false a) (toNat i1) []))) 0 D.dead)), I_ (wrap i64 (wrap i64 (wrap i64 (i0 + 1) + 1) + 1)), B_ false, I_ (wrap i64 (wrap i64 (wrap i64 (i0 + 1) + 1) + 1)), I_ (wrap i64 (wrap i64 (wrap i64 (wrap i64 (i0 + 1) + 1) + 1) + 1)), V_ [C.d (D.sl false 11 (enS false a))], I_ i1, V_ [C.rptr (getD (enS false a) (toNat i1) [])], V_ [C.rptr (drop 2 (getD (enS false a) (toNat i1) []))], V_ [C.rptr (drop 2 (drop 2 (getD (enS false a) (toNat i1) [])))], I_ (D.num (getD (drop 2 (drop 2 (getD (enS false a) (toNat i1) []))) 0 D.dead)), I_ (wrap i64 (wrap i64 (wrap i64 (wrap i64 (i0 + 1) + 1) + 1) + 1)), B_ false, I_ (wrap i64 (wrap i64 (wrap i64 (wrap i64 (i0 + 1) + 1) + 1) + 1)), I_ (wrap i64 (wrap i64 (wrap i64 (wrap i64 (wrap i64 (i0 + 1) + 1) + 1) + 1) + 1)), V_ [C.d (D.sl false 11 (enS false a))], I_ i1, V_ [C.rptr (getD (enS false a) (toNat i1) [])], V_ [C.rptr (drop 2 (getD (enS false a) (toNat i1) []))], V_ [C.rptr (drop 3 (drop 2 (getD (enS false a) (toNat i1) [])))], I_ (D.num (getD (drop 3 (drop 2 (getD (enS false a) (toNat i1) []))) 0 D.dead)), I_ (wrap i64 (wrap i64 (wrap i64 (wrap i64 (wrap i64 (i0 + 1) + 1) + 1) + 1) + 1)), B_ true, U, U, U, U, U, U, U, U, U, U, U, U, U, U, U, U, U, U, U, U, U, U, U, U, U, U, U, U, U, U, U, U, U, U, U, U, U, U, U, U, U, U, U, U, U, U, U, U, U, U] []
def X69_8 (a : List Port) (i0 : Int) (i1 : Int) : St := St.mk [V_ [C.d (D.sl false 11 (enS false a))], I_ (wrap i64 (wrap i64 (wrap i64 (wrap i64 (wrap i64 (wrap i64 (i0 + 1) + 1) + 1) + 1) + 1) + 1)), U, U, I_ (Int.negSucc 0), I_ i1, I_ i1, V_ [C.d (D.sl false 11 (enS false a))], I_ (ofNat (length (enS false a))), B_ true, U, U, V_ [C.d (D.sl false 11 (enS false a))], I_ i1, V_ [C.rptr (getD (enS false a) (toNat i1) [])], V_ [C.rptr (getD (enS false a) (toNat i1) [])], B_ (D.flag (getD (getD (enS false a) (toNat i1) []) 0 D.dead)), I_ i0, I_ (Int.tmod i0 (3)), B_ (Int.tmod i0 (3) == 0), B_ false, I_ i0, I_ (wrap i64 (i0 + 1)), V_ [C.d (D.sl false 11 (enS false a))], I_ i1, V_ [C.rptr (getD (enS false a) (toNat i1) [])], V_ [C.rptr (drop 1 (getD (enS false a) (toNat i1) []))], B_ (D.flag (getD (drop 1 (getD (enS false a) (toNat i1) [])) 0 D.dead)), I_ (wrap i64 (i0 + 1)), I_ (Int.tmod (wrap i64 (i0 + 1)) (3)), B_ (Int.tmod (wrap i64 (i0 + 1)) (3) == 0), B_ false, I_ (wrap i64 (i0 + 1)), I_ (wrap i64 (wrap i64 (i0 + 1) + 1)), V_ [C.d (D.sl false 11 (enS false a))], I_ i1, V_ [C.rptr (getD (enS false a) (toNat i1) [])], V_ [C.rptr (drop 2 (getD (enS false a) (toNat i1) []))], V_ [C.rptr (drop 2 (getD (enS false a) (toNat i1) []))], I_ (D.num (getD (drop 2 (getD (enS false a) (toNat i1) [])) 0 D.dead)), I_ (wrap i64 (wrap i64 (i0 + 1) + 1)), B_ false, I_ (wrap i64 (wrap i64 (i0 + 1) + 1)), I_ (wrap i64 (wrap i64 (wrap i64 (i0 + 1) + 1) + 1)), V_ [C.d (D.sl false 11 (enS false a))], I_ i1, V_ [C.rptr (getD (enS false a) (toNat i1) [])], V_ [C.rptr (drop 2 (getD (enS false a) (toNat i1) []))], V_ [C.rptr (drop 1 (drop 2 (getD (enS false a) (toNat i1) [])))], I_ (D.num (getD (drop 1 (drop 2 (getD (enS false a) (toNat i1) []))) 0 D.dead)), I_ (wrap i64 (wrap i64 (wrap i64 (i0 + 1) + 1) + 1)), B_ false, I_ (wrap i64 (wrap i64 (wrap i64 (i0 + 1) + 1) + 1)), I_ (wrap i64 (wrap i64 (wrap i64 (wrap i64 (i0 + 1) + 1) + 1) + 1)), V_ [C.d (D.sl false 11 (enS false a))], I_ i1, V_ [C.rptr (getD (enS false a) (toNat i1) [])], V_ [C.rptr (drop 2 (getD (enS false a) (toNat i1) []))], V_ [C.rptr (drop 2 (drop 2 (getD (enS false a) (toNat i1) [])))], I_ (D.num (getD (drop 2 (drop 2 (getD (enS false a) (toNat i1) []))) 0 D.dead)), I_ (wrap i64 (wrap i64 (wrap i64 (wrap i64 (i0 + 1) + 1) + 1) + 1)), B_ false, I_ (wrap i64 (wrap i64 (wrap i64 (wrap i64 (i0 + 1) + 1) + 1) + 1)), I_ (wrap i64 (wrap i64 (wrap i64 (wrap i64 (wrap i64 (i0 + 1) + 1) + 1) + 1) + 1)), V_ [C.d (D.sl false 11 (enS false a))], I_ i1, V_ [C.rptr (getD (enS false a) (toNat i1) [])], V_ [C.rptr (drop 2 (getD (enS false a) (toNat i1) []))], V_ [C.rptr (drop 3 (drop 2 (getD (enS false a) (toNat i1) [])))], I_ (D.num (getD (drop 3 (drop 2 (getD (enS false a) (toNat i1) []))) 0 D.dead)), I_ (wrap i64 (wrap i64 (wrap i64 (wrap i64 (wrap i64 (i0 + 1) + 1) + 1) + 1) + 1)), B_ false, I_ (wrap i64 (wrap i64 (wrap i64 (wrap i64 (wrap i64 (i0 + 1) + 1) + 1) + 1) + 1)), I_ (wrap i64 (wrap i64 (wrap i64 (wrap i64 (wrap i64 (wrap i64 (i0 + 1) + 1) + 1) + 1) + 1) + 1)), V_ [C.d (D.sl false 11 (enS false a))], I_ i1, V_ [C.rptr (getD (enS false a) (toNat i1) [])], V_ [C.rptr (drop 6 (getD (enS false a) (toNat i1) []))], I_ (D.num (getD (drop 6 (getD (enS false a) (toNat i1) [])) 0 D.dead)), I_ (wrap i64 (wrap i64 (wrap i64 (wrap i64 (wrap i64 (wrap i64 (i0 + 1) + 1) + 1) + 1) + 1) + 1)), B_ true, U, U, U, U, U, U, U, U, U, U, U, U, U, U, U, U, U, U, U, U, U, U, U, U, U, U, U, U, U, U, U, U, U, U, U, U, U, U, U, U, U] []
def X69_9 (a : List Port) (i0 : Int) (i1 : Int) : St := St.mk [V_ [C.d (D.sl false 11 (enS false a))], I_ (wrap i64 (wrap i64 (wrap i64 (wrap i64 (wrap i64 (wrap i64 (wrap i64 (i0 + 1) + 1) + 1) + 1) + 1) + 1) + 1)), U, U, I_ (Int.negSucc 0), I_ i1, I_ i1, V_ [C.d (D.sl false 11 (enS false a))], I_ (ofNat (length (enS false a))), B_ true, U, U, V_ [C.d (D.sl false 11 (enS false a))], I_ i1, V_ [C.rptr (getD (enS false a) (toNat i1) [])], V_ [C.rptr (getD (enS false a) (toNat i1) [])], B_ (D.flag (getD (getD (enS false a) (toNat i1) []) 0 D.dead)), I_ i0, I_ (Int.tmod i0 (3)), B_ (Int.tmod i0 (3) == 0), B_ false, I_ i0, I_ (wrap i64 (i0 + 1)), V_ [C.d (D.sl false 11 (enS false a))], I_ i1, V_ [C.rptr (getD (enS false a) (toNat i1) [])], V_ [C.rptr (drop 1 (getD (enS false a) (toNat i1) []))], B_ (D.flag (getD (drop 1 (getD (enS false a) (toNat i1) [])) 0 D.dead)), I_ (wrap i64 (i0 + 1)), I_ (Int.tmod (wrap i64 (i0 + 1)) (3)), B_ (Int.tmod (wrap i64 (i0 + 1)) (3) == 0), B_ false, I_ (wrap i64 (i0 + 1)), I_ (wrap i64 (wrap i64 (i0 + 1) + 1)), V_ [C.d (D.sl false 11 (enS false a))], I_ i1, V_ [C.rptr (getD (enS false a) (toNat i1) [])], V_ [C.rptr (drop 2 (getD (enS false a) (toNat i1) []))], V_ [C.rptr (drop 2 (getD (enS false a) (toNat i1) []))], I_ (D.num (getD (drop 2 (getD (enS false a) (toNat i1) [])) 0 D.dead)), I_ (wrap i64 (wrap i64 (i0 + 1) + 1)), B_ false, I_ (wrap i64 (wrap i64 (i0 + 1) + 1)), I_ (wrap i64 (wrap i64 (wrap i64 (i0 + 1) + 1) + 1)), V_ [C.d (D.sl false 11 (enS false a))], I_ i1, V_ [C.rptr (getD (enS false a) (toNat i1) [])], V_ [C.rptr (drop 2 (getD (enS false a) (toNat i1) []))], V_ [C.rptr (drop 1 (drop 2 (getD (enS false a) (toNat i1) [])))], I_ (D.num (getD (drop 1 (drop 2 (getD (enS false a) (toNat i1) []))) 0 D.dead)), I_ (wrap i64 (wrap i64 (wrap i64 (i0 + 1) + 1) + 1)), B_ false, I_ (wrap i64 (wrap i64 (wrap i64 (i0 + 1) + 1) + 1)), I_ (wrap i64 (wrap i64 (wrap i64 (wrap i64 (i0 + 1) + 1) + 1) + 1)), V_ [C.d (D.sl false 11 (enS false a))], I_ i1, V_ [C.rptr (getD (enS false a) (toNat i1) [])], V_ [C.rptr (drop 2 (getD (enS false a) (toNat i1) []))], V_ [C.rptr (drop 2 (drop 2 (getD (enS false a) (toNat i1) [])))], I_ (D.num (getD (drop 2 (drop 2 (getD (enS false a) (toNat i1) []))) 0 D.dead)), I_ (wrap i64 (wrap i64 (wrap i64 (wrap i64 (i0 + 1) + 1) + 1) + 1)), B_ false, I_ (wrap i64 (wrap i64 (wrap i64 (wrap i64 (i0 + 1) + 1) + 1) + 1)), I_ (wrap i64 (wrap i64 (wrap i64 (wrap i64 (wrap i64 (i0 + 1) + 1) + 1) + 1) + 1)), V_ [C.d (D.sl false 11 (enS false a))], I_ i1, V_ [C.rptr (getD (enS false a) (toNat i1) [])], V_ [C.rptr (drop 2 (getD (enS false a) (toNat i1) []))], V_ [C.rptr (drop 3 (drop 2 (getD (enS false a) (toNat i1) [])))], I_ (D.num (getD (drop 3 (drop 2 (getD (enS false a) (toNat i1) []))) 0 D.dead)), I_ (wrap i64 (wrap i64 (wrap i64 (wrap i64 (wrap i64 (i0 + 1) + 1) + 1) + 1) + 1)), B_ false, I_ (wrap i64 (wrap i64 (wrap i64 (wrap i64 (wrap i64 (i0 + 1) + 1) + 1) + 1) + 1)), I_ (wrap i64 (wrap i64 (wrap i64 (wrap i64 (wrap i64 (wrap i64 (i0 + 1) + 1) + 1) + 1) + 1) + 1)), V_ [C.d (D.sl false 11 (enS false a))], I_ i1, V_ [C.rptr (getD (enS false a) (toNat i1) [])], V_ [C.rptr (drop 6 (getD (enS false a) (toNat i1) []))], I_ (D.num (getD (drop 6 (getD (enS false a) (toNat i1) [])) 0 D.dead)), I_ (wrap i64 (wrap i64 (wrap i64 (wrap i64 (wrap i64 (wrap i64 (i0 + 1) + 1) + 1) + 1) + 1) + 1)), B_ false, I_ (wrap i64 (wrap i64 (wrap i64 (wrap i64 (wrap i64 (wrap i64 (i0 + 1) + 1) + 1) + 1) + 1) + 1)), I_ (wrap i64 (wrap i64 (wrap i64 (wrap i64 (wrap i64 (wrap i64 (wrap i64 (i0 + 1) + 1) + 1) + 1) + 1) + 1) + 1)), V_ [C.d (D.sl false 11 (enS false a))], I_ i1, V_ [C.rptr (getD (enS false a) (toNat i1) [])], V_ [C.rptr (drop 7 (getD (enS false a) (toNat i1) []))], I_ (D.num (getD (drop 7 (getD (enS false a) (toNat i1) [])) 0 D.dead)), I_ (wrap i64 (wrap i64 (wrap i64 (wrap i64 (wrap i64 (wrap i64 (wrap i64 (i0 + 1) + 1) + 1) + 1) + 1) + 1) + 1)), B_ true, U, U, U, U, U, U, U, U, U, U, U, U, U, U, U, U, U, U, U, U, U, U, U, U, U, U, U, U, U, U, U, U] []
def X69_10 (a : List Port) (i0 : Int) (i1 : Int) : St := St.mk [V_ [C.d (D.sl false 11 (enS false a))], I_ (wrap i64 (wrap i64 (wrap i64 (wrap i64 (wrap i64 (wrap i64 (wrap i64 (wrap i64 (i0 + 1) + 1) + 1) + 1) + 1) + 1) + 1) + 1)), U, U, I_ (Int.negSucc 0), I_ i1, I_ i1, V_ [C.d (D.sl false 11 (enS false a))], I_ (ofNat (length (enS false a))), B_ true, U, U, V_ [C.d (D.sl false 11 (enS false a))], I_ i1, V_ [C.rptr (getD (enS false a) (toNat i1) [])], V_ [C.rptr (getD (enS false a) (toNat i1) [])], B_ (D.flag (getD (getD (enS false a) (toNat i1) []) 0 D.dead)), I_ i0, I_ (Int.tmod i0 (3)), B_ (Int.tmod i0 (3) == 0), B_ false, I_ i0, I_ (wrap i64 (i0 + 1)), V_ [C.d (D.sl false 11 (enS false a))], I_ i1, V_ [C.rptr (getD (enS false a) (toNat i1) [])], V_ [C.rptr (drop 1 (getD (enS false a) (toNat i1) []))], B_ (D.flag (getD (drop 1 (getD (enS false a) (toNat i1) [])) 0 D.dead)), I_ (wrap i64 (i0 + 1)), I_ (Int.tmod (wrap i64 (i0 + 1)) (3)), B_ (Int.tmod (wrap i64 (i0 + 1)) (3) == 0), B_ false, I_ (wrap i64 (i0 + 1)), I_ (wrap i64 (wrap i64 (i0 + 1) + 1)), V_ [C.d (D.sl false 11 (enS false a))], I_ i1, V_ [C.rptr (getD (enS false a) (toNat i1) [])], V_ [C.rptr (drop 2 (getD (enS false a) (toNat i1) []))], V_ [C.rptr (drop 2 (getD (enS false a) (toNat i1) []))], I_ (D.num (getD (drop 2 (getD (enS false a) (toNat i1) [])) 0 D.dead)), I_ (wrap i64 (wrap i64 (i0 + 1) + 1)), B_ false, I_ (wrap i64 (wrap i64 (i0 + 1) + 1)), I_ (wrap i64 (wrap i64 (wrap i64 (i0 + 1) + 1) + 1)), V_ [C.d (D.sl false 11 (enS false a))], I_ i1, V_ [C.rptr (getD (enS false a) (toNat i1) [])], V_ [C.rptr (drop 2 (getD (enS false a) (toNat i1) []))], V_ [C.rptr (drop 1 (drop 2 (getD (enS false a) (toNat i1) [])))], I_ (D.num (getD (drop 1 (drop 2 (getD (enS false a) (toNat i1) []))) 0 D.dead)), I_ (wrap i64 (wrap i64 (wrap i64 (i0 + 1) + 1) + 1)), B_ false, I_ (wrap i64 (wrap i64 (wrap i64 (i0 + 1) + 1) + 1)), I_ (wrap i64 (wrap i64 (wrap i64 (wrap i64 (i0 + 1) + 1) + 1) + 1)), V_ [C.d (D.sl false 11 (enS false a))], I_ i1, V_ [C.rptr (getD (enS false a) (toNat i1) [])], V_ [C.rptr (drop 2 (getD (enS false a) (toNat i1) []))], V_ [C.rptr (drop 2 (drop 2 (getD (enS false a) (toNat i1) [])))], I_ (D.num (getD (drop 2 (drop 2 (getD (enS false a) (toNat i1) []))) 0 D.dead)), I_ (wrap i64 (wrap i64 (wrap i64 (wrap i64 (i0 + 1) + 1) + 1) + 1)), B_ false, I_ (wrap i64 (wrap i64 (wrap i64 (wrap i64 (i0 + 1) + 1) + 1) + 1)), I_ (wrap i64 (wrap i64 (wrap i64 (wrap i64 (wrap i64 (i0 + 1) + 1) + 1) + 1) + 1)), V_ [C.d (D.sl false 11 (enS false a))], I_ i1, V_ [C.rptr (getD (enS false a) (toNat i1) [])], V_ [C.rptr (drop 2 (getD (enS false a) (toNat i1) []))], V_ [C.rptr (drop 3 (drop 2 (getD (enS false a) (toNat i1) [])))], I_ (D.num (getD (drop 3 (drop 2 (getD (enS false a) (toNat i1) []))) 0 D.dead)), I_ (wrap i64 (wrap i64 (wrap i64 (wrap i64 (wrap i64 (i0 + 1) + 1) + 1) + 1) + 1)), B_ false, I_ (wrap i64 (wrap i64 (wrap i64 (wrap i64 (wrap i64 (i0 + 1) + 1) + 1) + 1) + 1)), I_ (wrap i64 (wrap i64 (wrap i64 (wrap i64 (wrap i64 (wrap i64 (i0 + 1) + 1) + 1) + 1) + 1) + 1)), V_ [C.d (D.sl false 11 (enS false a))], I_ i1, V_ [C.rptr (getD (enS false a) (toNat i1) [])], V_ [C.rptr (drop 6 (getD (enS false a) (toNat i1) []))], I_ (D.num (getD (drop 6 (getD (enS false a) (toNat i1) [])) 0 D.dead)), I_ (wrap i64 (wrap i64 (wrap i64 (wrap i64 (wrap i64 (wrap i64 (i0 + 1) + 1) + 1) + 1) + 1) + 1)), B_ false, I_ (wrap i64 (wrap i64 (wrap i64 (wrap i64 (wrap i64 (wrap i64 (i0 + 1) + 1) + 1) + 1) + 1) + 1)), I_ (wrap i64 (wrap i64 (wrap i64 (wrap i64 (wrap i64 (wrap i64 (wrap i64 (i0 + 1) + 1) + 1) + 1) + 1) + 1) + 1)), V_ [C.d (D.sl false 11 (enS false a))], I_ i1, V_ [C.rptr (getD (enS false a) (toNat i1) [])], V_ [C.rptr (drop 7 (getD (enS false a) (toNat i1) []))], I_ (D.num (getD (drop 7 (getD (enS false a) (toNat i1) [])) 0 D.dead)), I_ (wrap i64 (wrap i64 (wrap i64 (wrap i64 (wrap i64 (wrap i64 (wrap i64 (i0 + 1) + 1) + 1) + 1) + 1) + 1) + 1)), B_ false, I_ (wrap i64 (wrap i64 (wrap i64 (wrap i64 (wrap i64 (wrap i64 (wrap i64 (i0 + 1) + 1) + 1) + 1) + 1) + 1) + 1)), I_ (wrap i64 (wrap i64 (wrap i64 (wrap i64 (wrap i64 (wrap i64 (wrap i64 (wrap i64 (i0 + 1) + 1) + 1) + 1) + 1) + 1) + 1) + 1)), V_ [C.d (D.sl false 11 (enS false a))], I_ i1, V_ [C.rptr (getD (enS false a) (toNat i1) [])], V_ [C.rptr (drop 8 (getD (enS false a) (toNat i1) []))], I_ (D.num (getD (drop 8 (getD (enS false a) (toNat i1) [])) 0 D.dead)), I_ (wrap i64 (wrap i64 (wrap i64 (wrap i64 (wrap i64 (wrap i64 (wrap i64 (wrap i64 (i0 + 1) + 1) + 1) + 1) + 1) + 1) + 1) + 1)), B_ true, U, U, U, U, U, U, U, U, U, U, U, U, U, U, U, U, U, U, U, U, U, U, U] []
def X69_11 (a : List Port) (i0 : Int) (i1 : Int) : St := St.mk [V_ [C.d (D.sl false 11 (enS false a))], I_ (wrap i64 (wrap i64 (wrap i64 (wrap i64 (wrap i64 (wrap i64 (wrap i64 (wrap i64 (wrap i64 (i0 + 1) + 1) + 1) + 1) + 1) + 1) + 1) + 1) + 1)), U, U, I_ (Int.negSucc 0), I_ i1, I_ i1, V_ [C.d (D.sl false 11 (enS false a))], I_ (ofNat (length (enS false a))), B_ true, U, U, V_ [C.d (D.sl false 11 (enS false a))], I_ i1, V_ [C.rptr (getD (enS false a) (toNat i1) [])], V_ [C.rptr (getD (enS false a) (toNat i1) [])], B_ (D.flag (getD (getD (enS false a) (toNat i1) []) 0 D.dead)), I_ i0, I_ (Int.tmod i0 (3)), B_ (Int.tmod i0 (3) == 0), B_ false, I_ i0, I_ (wrap i64 (i0 + 1)), V_ [C.d (D.sl false 11 (enS false a))], I_ i1, V_ [C.rptr (getD (enS false a) (toNat i1) [])], V_ [C.rptr (drop 1 (getD (enS false a) (toNat i1) []))], B_ (D.flag (getD (drop 1 (getD (enS false a) (toNat i1) [])) 0 D.dead)), I_ (wrap i64 (i0 + 1)), I_ (Int.tmod (wrap i64 (i0 + 1)) (3)), B_ (Int.tmod (wrap i64 (i0 + 1)) (3) == 0), B_ false, I_ (wrap i64 (i0 + 1)), I_ (wrap i64 (wrap i64 (i0 + 1) + 1)), V_ [C.d (D.sl false 11 (enS false a))], I_ i1, V_ [C.rptr (getD (enS false a) (toNat i1) [])], V_ [C.rptr (drop 2 (getD (enS false a) (toNat i1) []))], V_ [C.rptr (drop 2 (getD (enS false a) (toNat i1) []))], I_ (D.num (getD (drop 2 (getD (enS false a) (toNat i1) [])) 0 D.dead)), I_ (wrap i64 (wrap i64 (i0 + 1) + 1)), B_ false, I_ (wrap i64 (wrap i64 (i0 + 1) + 1)), I_ (wrap i64 (wrap i64 (wrap i64 (i0 + 1) + 1) + 1)), V_ [C.d (D.sl false 11 (enS false a))], I_ i1, V_ [C.rptr (getD (enS false a) (toNat i1) [])], V_ [C.rptr (drop 2 (getD (enS false a) (toNat i1) []))], V_ [C.rptr (drop 1 (drop 2 (getD (enS false a) (toNat i1) [])))], I_ (D.num (getD (drop 1 (drop 2 (getD (enS false a) (toNat i1) []))) 0 D.dead)), I_ (wrap i64 (wrap i64 (wrap i64 (i0 + 1) + 1) + 1)), B_ false, I_ (wrap i64 (wrap i64 (wrap i64 (i0 + 1) + 1) + 1)), I_ (wrap i64 (wrap i64 (wrap i64 (wrap i64 (i0 + 1) + 1) + 1) + 1)), V_ [C.d (D.sl false 11 (enS false a))], I_ i1, V_ [C.rptr (getD (enS false a) (toNat i1) [])], V_ [C.rptr (drop 2 (getD (enS false a) (toNat i1) []))], V_ [C.rptr (drop 2 (drop 2 (getD (enS false a) (toNat i1) [])))], I_ (D.num (getD (drop 2 (drop 2 (getD (enS false a) (toNat i1) []))) 0 D.dead)), I_ (wrap i64 (wrap i64 (wrap i64 (wrap i64 (i0 + 1) + 1) + 1) + 1)), B_ false, I_ (wrap i64 (wrap i64 (wrap i64 (wrap i64 (i0 + 1) + 1) + 1) + 1)), I_ (wrap i64 (wrap i64 (wrap i64 (wrap i64 (wrap i64 (i0 + 1) + 1) + 1) + 1) + 1)), V_ [C.d (D.sl false 11 (enS false a))], I_ i1, V_ [C.rptr (getD (enS false a) (toNat i1) [])], V_ [C.rptr (drop 2 (getD (enS false a) (toNat i1) []))], V_ [C.rptr (drop 3 (drop 2 (getD (enS false a) (toNat i1) [])))], I_ (D.num (getD (drop 3 (drop 2 (getD (enS false a) (toNat i1) []))) 0 D.dead)), I_ (wrap i64 (wrap i64 (wrap i64 (wrap i64 (wrap i64 (i0 + 1) + 1) + 1) + 1) + 1)), B_ false, I_ (wrap i64 (wrap i64 (wrap i64 (wrap i64 (wrap i64 (i0 + 1) + 1) + 1) + 1) + 1)), I_ (wrap i64 (wrap i64 (wrap i64 (wrap i64 (wrap i64 (wrap i64 (i0 + 1) + 1) + 1) + 1) + 1) + 1)), V_ [C.d (D.sl false 11 (enS false a))], I_ i1, V_ [C.rptr (getD (enS false a) (toNat i1) [])], V_ [C.rptr (drop 6 (getD (enS false a) (toNat i1) []))], I_ (D.num (getD (drop 6 (getD (enS false a) (toNat i1) [])) 0 D.dead)), I_ (wrap i64 (wrap i64 (wrap i64 (wrap i64 (wrap i64 (wrap i64 (i0 + 1) + 1) + 1) + 1) + 1) + 1)), B_ false, I_ (wrap i64 (wrap i64 (wrap i64 (wrap i64 (wrap i64 (wrap i64 (i0 + 1) + 1) + 1) + 1) + 1) + 1)), I_ (wrap i64 (wrap i64 (wrap i64 (wrap i64 (wrap i64 (wrap i64 (wrap i64 (i0 + 1) + 1) + 1) + 1) + 1) + 1) + 1)), V_ [C.d (D.sl false 11 (enS false a))], I_ i1, V_ [C.rptr (getD (enS false a) (toNat i1) [])], V_ [C.rptr (drop 7 (getD (enS false a) (toNat i1) []))], I_ (D.num (getD (drop 7 (getD (enS false a) (toNat i1) [])) 0 D.dead)), I_ (wrap i64 (wrap i64 (wrap i64 (wrap i64 (wrap i64 (wrap i64 (wrap i64 (i0 + 1) + 1) + 1) + 1) + 1) + 1) + 1)), B_ false, I_ (wrap i64 (wrap i64 (wrap i64 (wrap i64 (wrap i64 (wrap i64 (wrap i64 (i0 + 1) + 1) + 1) + 1) + 1) + 1) + 1)), I_ (wrap i64 (wrap i64 (wrap i64 (wrap i64 (wrap i64 (wrap i64 (wrap i64 (wrap i64 (i0 + 1) + 1) + 1) + 1) + 1) + 1) + 1) + 1)), V_ [C.d (D.sl false 11 (enS false a))], I_ i1, V_ [C.rptr (getD (enS false a) (toNat i1) [])], V_ [C.rptr (drop 8 (getD (enS false a) (toNat i1) []))], I_ (D.num (getD (drop 8 (getD (enS false a) (toNat i1) [])) 0 D.dead)), I_ (wrap i64 (wrap i64 (wrap i64 (wrap i64 (wrap i64 (wrap i64 (wrap i64 (wrap i64 (i0 + 1) + 1) + 1) + 1) + 1) + 1) + 1) + 1)), B_ false, I_ (wrap i64 (wrap i64 (wrap i64 (wrap i64 (wrap i64 (wrap i64 (wrap i64 (wrap i64 (i0 + 1) + 1) + 1) + 1) + 1) + 1) + 1) + 1)), I_ (wrap i64 (wrap i64 (wrap i64 (wrap i64 (wrap i64 (wrap i64 (wrap i64 (wrap i64 (wrap i64 (i0 + 1) + 1) + 1) + 1) + 1) + 1) + 1) + 1) + 1)), V_ [C.d (D.sl false 11 (enS false a))], I_ i1, V_ [C.rptr (getD (enS false a) (toNat i1) [])], V_ [C.rptr (drop 9 (getD (enS false a) (toNat i1) []))], I_ (D.num (getD (drop 9 (getD (enS false a) (toNat i1) [])) 0 D.dead)), I_ (wrap i64 (wrap i64 (wrap i64 (wrap i64 (wrap i64 (wrap i64 (wrap i64 (wrap i64 (wrap i64 (i0 + 1) + 1) + 1) + 1) + 1) + 1) + 1) + 1) + 1)), B_ true, U, U, U, U, U, U, U, U, U, U, U, U, U, U] []
def X69_12 (a : List Port) (i0 : Int) (i1 : Int) : St := St.mk [V_ [C.d (D.sl false 11 (enS false a))], I_ (wrap i64 (wrap i64 (wrap i64 (wrap i64 (wrap i64 (wrap i64 (wrap i64 (wrap i64 (wrap i64 (wrap i64 (i0 + 1) + 1) + 1) + 1) + 1) + 1) + 1) + 1) + 1) + 1)), U, U, I_ (Int.negSucc 0), I_ i1, I_ i1, V_ [C.d (D.sl false 11 (enS false a))], I_ (ofNat (length (enS false a))), B_ true, U, U, V_ [C.d (D.sl false 11 (enS false a))], I_ i1, V_ [C.rptr (getD (enS false a) (toNat i1) [])], V_ [C.rptr (getD (enS false a) (toNat i1) [])], B_ (D.flag (getD (getD (enS false a) (toNat i1) []) 0 D.dead)), I_ i0, I_ (Int.tmod i0 (3)), B_ (Int.tmod i0 (3) == 0), B_ false, I_ i0, I_ (wrap i64 (i0 + 1)), V_ [C.d (D.sl false 11 (enS false a))], I_ i1, V_ [C.rptr (getD (enS false a) (toNat i1) [])], V_ [C.rptr (drop 1 (getD (enS false a) (toNat i1) []))], B_ (D.flag (getD (drop 1 (getD (enS false a) (toNat i1) [])) 0 D.dead)), I_ (wrap i64 (i0 + 1)), I_ (Int.tmod (wrap i64 (i0 + 1)) (3)), B_ (Int.tmod (wrap i64 (i0 + 1)) (3) == 0), B_ false, I_ (wrap i64 (i0 + 1)), I_ (wrap i64 (wrap i64 (i0 + 1) + 1)), V_ [C.d (D.sl false 11 (enS false a))], I_ i1, V_ [C.rptr (getD (enS false a) (toNat i1) [])], V_ [C.rptr (drop 2 (getD (enS false a) (toNat i1) []))], V_ [C.rptr (drop 2 (getD (enS false a) (toNat i1) []))], I_ (D.num (getD (drop 2 (getD (enS false a) (toNat i1) [])) 0 D.dead)), I_ (wrap i64 (wrap i64 (i0 + 1) + 1)), B_ false, I_ (wrap i64 (wrap i64 (i0 + 1) + 1)), I_ (wrap i64 (wrap i64 (wrap i64 (i0 + 1) + 1) + 1)), V_ [C.d (D.sl false 11 (enS false a))], I_ i1, V_ [C.rptr (getD (enS false a) (toNat i1) [])], V_ [C.rptr (drop 2 (getD (enS false a) (toNat i1) []))], V_ [C.rptr (drop 1 (drop 2 (getD (enS false a) (toNat i1) [])))], I_ (D.num (getD (drop 1 (drop 2 (getD (enS false a) (toNat i1) []))) 0 D.dead)), I_ (wrap i64 (wrap i64 (wrap i64 (i0 + 1) + 1) + 1)), B_ false, I_ (wrap i64 (wrap i64 (wrap i64 (i0 + 1) + 1) + 1)), I_ (wrap i64 (wrap i64 (wrap i64 (wrap i64 (i0 + 1) + 1) + 1) + 1)), V_ [C.d (D.sl false 11 (enS false a))], I_ i1, V_ [C.rptr (getD (enS false a) (toNat i1) [])], V_ [C.rptr (drop 2 (getD (enS false a) (toNat i1) []))], V_ [C.rptr (drop 2 (drop 2 (getD (enS false a) (toNat i1) [])))], I_ (D.num (getD (drop 2 (drop 2 (getD (enS false a) (toNat i1) []))) 0 D.dead)), I_ (wrap i64 (wrap i64 (wrap i64 (wrap i64 (i0 + 1) + 1) + 1) + 1)), B_ false, I_ (wrap i64 (wrap i64 (wrap i64 (wrap i64 (i0 + 1) + 1) + 1) + 1)), I_ (wrap i64 (wrap i64 (wrap i64 (wrap i64 (wrap i64 (i0 + 1) + 1) + 1) + 1) + 1)), V_ [C.d (D.sl false 11 (enS false a))], I_ i1, V_ [C.rptr (getD (enS false a) (toNat i1) [])], V_ [C.rptr (drop 2 (getD (enS false a) (toNat i1) []))], V_ [C.rptr (drop 3 (drop 2 (getD (enS false a) (toNat i1) [])))], I_ (D.num (getD (drop 3 (drop 2 (getD (enS false a) (toNat i1) []))) 0 D.dead)), I_ (wrap i64 (wrap i64 (wrap i64 (wrap i64 (wrap i64 (i0 + 1) + 1) + 1) + 1) + 1)), B_ false, I_ (wrap i64 (wrap i64 (wrap i64 (wrap i64 (wrap i64 (i0 + 1) + 1) + 1) + 1) + 1)), I_ (wrap i64 (wrap i64 (wrap i64 (wrap i64 (wrap i64 (wrap i64 (i0 + 1) + 1) + 1) + 1) + 1) + 1)), V_ [C.d (D.sl false 11 (enS false a))], I_ i1, V_ [C.rptr (getD (enS false a) (toNat i1) [])], V_ [C.rptr (drop 6 (getD (enS false a) (toNat i1) []))], I_ (D.num (getD (drop 6 (getD (enS false a) (toNat i1) [])) 0 D.dead)), I_ (wrap i64 (wrap i64 (wrap i64 (wrap i64 (wrap i64 (wrap i64 (i0 + 1) + 1) + 1) + 1) + 1) + 1)), B_ false, I_ (wrap i64 (wrap i64 (wrap i64 (wrap i64 (wrap i64 (wrap i64 (i0 + 1) + 1) + 1) + 1) + 1) + 1)), I_ (wrap i64 (wrap i64 (wrap i64 (wrap i64 (wrap i64 (wrap i64 (wrap i64 (i0 + 1) + 1) + 1) + 1) + 1) + 1) + 1)), V_ [C.d (D.sl false 11 (enS false a))], I_ i1, V_ [C.rptr (getD (enS false a) (toNat i1) [])], V_ [C.rptr (drop 7 (getD (enS false a) (toNat i1) []))], I_ (D.num (getD (drop 7 (getD (enS false a) (toNat i1) [])) 0 D.dead)), I_ (wrap i64 (wrap i64 (wrap i64 (wrap i64 (wrap i64 (wrap i64 (wrap i64 (i0 + 1) + 1) + 1) + 1) + 1) + 1) + 1)), B_ false, I_ (wrap i64 (wrap i64 (wrap i64 (wrap i64 (wrap i64 (wrap i64 (wrap i64 (i0 + 1) + 1) + 1) + 1) + 1) + 1) + 1)), I_ (wrap i64 (wrap i64 (wrap i64 (wrap i64 (wrap i64 (wrap i64 (wrap i64 (wrap i64 (i0 + 1) + 1) + 1) + 1) + 1) + 1) + 1) + 1)), V_ [C.d (D.sl false 11 (enS false a))], I_ i1, V_ [C.rptr (getD (enS false a) (toNat i1) [])], V_ [C.rptr (drop 8 (getD (enS false a) (toNat i1) []))], I_ (D.num (getD (drop 8 (getD (enS false a) (toNat i1) [])) 0 D.dead)), I_ (wrap i64 (wrap i64 (wrap i64 (wrap i64 (wrap i64 (wrap i64 (wrap i64 (wrap i64 (i0 + 1) + 1) + 1) + 1) + 1) + 1) + 1) + 1)), B_ false, I_ (wrap i64 (wrap i64 (wrap i64 (wrap i64 (wrap i64 (wrap i64 (wrap i64 (wrap i64 (i0 + 1) + 1) + 1) + 1) + 1) + 1) + 1) + 1)), I_ (wrap i64 (wrap i64 (wrap i64 (wrap i64 (wrap i64 (wrap i64 (wrap i64 (wrap i64 (wrap i64 (i0 + 1) + 1) + 1) + 1) + 1) + 1) + 1) + 1) + 1)), V_ [C.d (D.sl false 11 (enS false a))], I_ i1, V_ [C.rptr (getD (enS false a) (toNat i1) [])], V_ [C.rptr (drop 9 (getD (enS false a) (toNat i1) []))], I_ (D.num (getD (drop 9 (getD (enS false a) (toNat i1) [])) 0 D.dead)), I_ (wrap i64 (wrap i64 (wrap i64 (wrap i64 (wrap i64 (wrap i64 (wrap i64 (wrap i64 (wrap i64 (i0 + 1) + 1) + 1) + 1) + 1) + 1) + 1) + 1) + 1)), B_ false, I_ (wrap i64 (wrap i64 (wrap i64 (wrap i64 (wrap i64 (wrap i64 (wrap i64 (wrap i64 (wrap i64 (i0 + 1) + 1) + 1) + 1) + 1) + 1) + 1) + 1) + 1)), I_ (wrap i64 (wrap i64 (wrap i64 (wrap i64 (wrap i64 (wrap i64 (wrap i64 (wrap i64 (wrap i64 (wrap i64 (i0 + 1) + 1) + 1) + 1) + 1) + 1) + 1) + 1) + 1) + 1)), V_ [C.d (D.sl false 11 (enS false a))], I_ i1, V_ [C.rptr (getD (enS false a) (toNat i1) [])], V_ [C.rptr (drop 10 (getD (enS false a) (toNat i1) []))], B_ (D.flag (getD (drop 10 (getD (enS false a) (toNat i1) [])) 0 D.dead)), I_ (wrap i64 (wrap i64 (wrap i64 (wrap i64 (wrap i64 (wrap i64 (wrap i64 (wrap i64 (wrap i64 (wrap i64 (i0 + 1) + 1) + 1) + 1) + 1) + 1) + 1) + 1) + 1) + 1)), I_ (Int.tmod (wrap i64 (wrap i64 (wrap i64 (wrap i64 (wrap i64 (wrap i64 (wrap i64 (wrap i64 (wrap i64 (wrap i64 (i0 + 1) + 1) + 1) + 1) + 1) + 1) + 1) + 1) + 1) + 1)) (3)), B_ (Int.tmod (wrap i64 (wrap i64 (wrap i64 (wrap i64 (wrap i64 (wrap i64 (wrap i64 (wrap i64 (wrap i64 (wrap i64 (i0 + 1) + 1) + 1) + 1) + 1) + 1) + 1) + 1) + 1) + 1)) (3) == 0), B_ true, U, U, U] []
def X69_13 (a : List Port) (i0 : Int) (i1 : Int) : St := St.mk [V_ [C.d (D.sl false 11 (enS false a))], I_ i0, U, U, U, I_ i1, I_ i1, V_ [C.d (D.sl false 11 (enS false a))], I_ (ofNat (length (enS false a))), B_ false, U, U, U, U, U, U, U, U, U, U, U, U, U, U, U, U, U, U, U, U, U, U, U, U, U, U, U, U, U, U, U, U, U, U, U, U, U, U, U, U, U, U, U, U, U, U, U, U, U, U, U, U, U, U, U, U, U, U, U, U, U, U, U, U, U, U, U, U, U, U, U, U, U, U, U, U, U, U, U, U, U, U, U, U, U, U, U, U, U, U, U, U, U, U, U, U, U, U, U, U, U, U, U, U, U, U, U, U, U, U, U, U] []
theorem q69_0 (a : List Port) (n : Nat) (i0 : Int) (i1 : Int) (f : St → RR) (K : Ex → St → RR) : B69_0 n (S69_0 a i0 i1) (kThen (fun st ↦ f (St.head 0 35 2658455991569831745807614120560689138 st)) K) = bif decide (i1 < ofNat (length (enS false a))) then bif decide (0 ≤ i1) && decide (i1 < ofNat (length (enS false a))) then bif Leaf.fit false Leaf.bool (getD (getD (enS false a) (toNat i1) []) 0 D.dead) && true then bif D.flag (getD (getD (enS false a) (toNat i1) []) 0 D.dead) != (Int.tmod i0 (3) == 0) then K Ex.ret (X69_2 a i0 i1) else bif decide (0 ≤ i1) && decide (i1 < ofNat (length (enS false a))) then bif Leaf.fit false Leaf.bool (getD (drop 1 (getD (enS false a) (toNat i1) [])) 0 D.dead) && true then bif D.flag (getD (drop 1 (getD (enS false a) (toNat i1) [])) 0 D.dead) != (Int.tmod (wrap i64 (i0 + 1)) (3) == 0) then K Ex.ret (X69_3 a i0 i1) else bif decide (0 ≤ i1) && decide (i1 < ofNat (length (enS false a))) then bif Leaf.fit false (Leaf.int i64) (getD (drop 2 (getD (enS false a) (toNat i1) [])) 0 D.dead) && true then bif D.num (getD (drop 2 (getD (enS false a) (toNat i1) [])) 0 D.dead) != wrap i64 (wrap i64 (i0 + 1) + 1) then K Ex.ret (X69_4 a i0 i1) else bif decide (0 ≤ i1) && decide (i1 < ofNat (length (enS false a))) then bif Leaf.fit false (Leaf.int i64) (getD (drop 1 (drop 2 (getD (enS false a) (toNat i1) []))) 0 D.dead) && true then bif D.num (getD (drop 1 (drop 2 (getD (enS false a) (toNat i1) []))) 0 D.dead) != wrap i64 (wrap i64 (wrap i64 (i0 + 1) + 1) + 1) then K Ex.ret (X69_5 a i0 i1) else bif decide (0 ≤ i1) && decide (i1 < ofNat (length (enS false a))) then bif Leaf.fit false (Leaf.int i64) (getD (drop 2 (drop 2 (getD (enS false a) (toNat i1) []))) 0 D.dead) && true then bif D.num (getD (drop 2 (drop 2 (getD (enS false a) (toNat i1) []))) 0 D.dead) != wrap i64 (wrap i64 (wrap i64 (wrap i64 (i0 + 1) + 1) + 1) + 1) then K Ex.ret (X69_6 a i0 i1) else bif decide (0 ≤ i1) && decide (i1 < ofNat (length (enS false a))) then bif Leaf.fit false (Leaf.int i64) (getD (drop 3 (drop 2 (getD (enS false a) (toNat i1) []))) 0 D.dead) && true then bif D.num (getD (drop 3 (drop 2 (getD (enS false a) (toNat i1) []))) 0 D.dead) != wrap i64 (wrap i64 (wrap i64 (wrap i64 (wrap i64 (i0 + 1) + 1) + 1) + 1) + 1) then K Ex.ret (X69_7 a i0 i1) else bif decide (0 ≤ i1) && decide (i1 < ofNat (length (enS false a))) then bif Leaf.fit false (Leaf.int i64) (getD (drop 6 (getD (enS false a) (toNat i1) [])) 0 D.dead) && true then bif D.num (getD (drop 6 (getD (enS false a) (toNat i1) [])) 0 D.dead) != wrap i64 (wrap i64 (wrap i64 (wrap i64 (wrap i64 (wrap i64 (i0 + 1) + 1) + 1) + 1) + 1) + 1) then K Ex.ret (X69_8 a i0 i1) else bif decide (0 ≤ i1) && decide (i1 < ofNat (length (enS false a))) then bif Leaf.fit false (Leaf.int i64) (getD (drop 7 (getD (enS false a) (toNat i1) [])) 0 D.dead) && true then bif D.num (getD (drop 7 (getD (enS false a) (toNat i1) [])) 0 D.dead) != wrap i64 (wrap i64 (wrap i64 (wrap i64 (wrap i64 (wrap i64 (wrap i64 (i0 + 1) + 1) + 1) + 1) + 1) + 1) + 1) then K Ex.ret (X69_9 a i0 i1) else bif decide (0 ≤ i1) && decide (i1 < ofNat (length (enS false a))) then bif Leaf.fit false (Leaf.int i64) (getD (drop 8 (getD (enS false a) (toNat i1) [])) 0 D.dead) && true then bif D.num (getD (drop 8 (getD (enS false a) (toNat i1) [])) 0 D.dead) != wrap i64 (wrap i64 (wrap i64 (wrap i64 (wrap i64 (wrap i64 (wrap i64 (wrap i64 (i0 + 1) + 1) + 1) + 1) + 1) + 1) + 1) + 1) then K Ex.ret (X69_10 a i0 i1) else bif decide (0 ≤ i1) && decide (i1 < ofNat (length (enS false a))) then bif Leaf.fit false (Leaf.int i64) (getD (drop 9 (getD (enS false a) (toNat i1) [])) 0 D.dead) && true then bif D.num (getD (drop 9 (getD (enS false a) (toNat i1) [])) 0 D.dead) != wrap i64 (wrap i64 (wrap i64 (wrap i64 (wrap i64 (wrap i64 (wrap i64 (wrap i64 (wrap i64 (i0 + 1) + 1) + 1) + 1) + 1) + 1) + 1) + 1) + 1) then K Ex.ret (X69_11 a i0 i1) else bif decide (0 ≤ i1) && decide (i1 < ofNat (length (enS false a))) then bif Leaf.fit false Leaf.bool (getD (drop 10 (getD (enS false a) (toNat i1) [])) 0 D.dead) && true then bif D.flag (getD (drop 10 (getD (enS false a) (toNat i1) [])) 0 D.dead) != (Int.tmod (wrap i64 (wrap i64 (wrap i64 (wrap i64 (wrap i64 (wrap i64 (wrap i64 (wrap i64 (wrap i64 (wrap i64 (i0 + 1) + 1) + 1) + 1) + 1) + 1) + 1) + 1) + 1) + 1)) (3) == 0) then K Ex.ret (X69_12 a i0 i1) else f (S69_0 a (wrap i64 (wrap i64 (wrap i64 (wrap i64 (wrap i64 (wrap i64 (wrap i64 (wrap i64 (wrap i64 (wrap i64 (wrap i64 (i0 + 1) + 1) + 1) + 1) + 1) + 1) + 1) + 1) + 1) + 1) + 1)) (wrap i64 (i1 + 1))) else none else none else none else none else none else none else none else none else none else none else none else none else none else none else none else none else none else none else none else none else none else none else K (Ex.exit 0) (X69_13 a i0 i1) := by kernel_rfl
theorem aX69_2 (a : List Port) (n : Nat) (i0 : Int) (i1 : Int) : k69_1 n Ex.ret (X69_2 a i0 i1) = some ([[D.int i64 (Int.negSucc 0)]], []) := by kernel_rfl
theorem aX69_3 (a : List Port) (n : Nat) (i0 : Int) (i1 : Int) : k69_1 n Ex.ret (X69_3 a i0 i1) = some ([[D.int i64 (Int.negSucc 0)]], []) := by kernel_rfl
theorem aX69_4 (a : List Port) (n : Nat) (i0 : Int) (i1 : Int) : k69_1 n Ex.ret (X69_4 a i0 i1) = some ([[D.int i64 (Int.negSucc 0)]], []) := by kernel_rfl
theorem aX69_5 (a : List Port) (n : Nat) (i0 : Int) (i1 : Int) : k69_1 n Ex.ret (X69_5 a i0 i1) = some ([[D.int i64 (Int.negSucc 0)]], []) := by kernel_rfl
theorem aX69_6 (a : List Port) (n : Nat) (i0 : Int) (i1 : Int) : k69_1 n Ex.ret (X69_6 a i0 i1) = some ([[D.int i64 (Int.negSucc 0)]], []) := by kernel_rfl
theorem aX69_7 (a : List Port) (n : Nat) (i0 : Int) (i1 : Int) : k69_1 n Ex.ret (X69_7 a i0 i1) = some ([[D.int i64 (Int.negSucc 0)]], []) := by kernel_rfl
theorem aX69_8 (a : List Port) (n : Nat) (i0 : Int) (i1 : Int) : k69_1 n Ex.ret (X69_8 a i0 i1) = some ([[D.int i64 (Int.negSucc 0)]], []) := by kernel_rfl
theorem aX69_9 (a : List Port) (n : Nat) (i0 : Int) (i1 : Int) : k69_1 n Ex.ret (X69_9 a i0 i1) = some ([[D.int i64 (Int.negSucc 0)]], []) := by kernel_rfl
theorem aX69_10 (a : List Port) (n : Nat) (i0 : Int) (i1 : Int) : k69_1 n Ex.ret (X69_10 a i0 i1) = some ([[D.int i64 (Int.negSucc 0)]], []) := by kernel_rfl
theorem aX69_11 (a : List Port) (n : Nat) (i0 : Int) (i1 : Int) : k69_1 n Ex.ret (X69_11 a i0 i1) = some ([[D.int i64 (Int.negSucc 0)]], []) := by kernel_rfl
theorem aX69_12 (a : List Port) (n : Nat) (i0 : Int) (i1 : Int) : k69_1 n Ex.ret (X69_12 a i0 i1) = some ([[D.int i64 (Int.negSucc 0)]], []) := by kernel_rfl
theorem aX69_13 (a : List Port) (n : Nat) (i0 : Int) (i1 : Int) : k69_1 n (Ex.exit 0) (X69_13 a i0 i1) = some ([[D.int i64 i0]], []) := by kernel_rfl
theorem r69 (a : List Port) (k : Int) (n : Nat) : evFn ⟨prog, Hx, 69⟩ T30.call n f69 [[.sl false 11 (enS false a)], [.int .i64 k]] = loopRun (B69_0 n) 0 35 2658455991569831745807614120560689138 n (S69_0 a k (0)) (k69_1 n) := by kernel_rfl
theorem m69 (a : List Port) (k : Int) (hpre : (o69 a k).1 = true) : evFn ⟨Go.Proofs.Try.prog, Hx, 69⟩ T30.call (a.length + 1) f69 [[.sl false 11 (enS false a)], [.int .i64 k]] = some (o69 a k).2 := by
  refine (r69 a k _).trans ?_
  show _ = (some ([[.int .i64 (k + cntS Port.n_ a)]], []) : Option (List Row × List Row))
  replace hpre : (sameB (markS Port.mk_ Port.n_ a k) a && (decide (0 ≤ k) && (decide (k + cntS Port.n_ a ≤ 4611686018427387904) && decide (a.length ≤ 1152921504606846976)))) = true := hpre
  rw [Bool.and_eq_true] at hpre
  obtain ⟨hsame, hpre⟩ := hpre
  have hsame := sameB_eq hsame
  simp only [Bool.and_eq_true, decide_eq_true_eq] at hpre
  obtain ⟨h0, h1, h2⟩ := hpre
  refine loop_list (xs := a) (fun i (k : Int) => S69_0 a k (Int.ofNat i)) (fun i k => 0 ≤ k ∧ k + cntS Port.n_ (a.drop i) ≤ 4611686018427387904 ∧ markS Port.mk_ Port.n_ (a.drop i) k = a.drop i) (fun _ k rest => some ([[D.int .i64 (k + cntS Port.n_ rest)]], [])) ?_ ?_ (a.length + 1) k (by omega) ⟨h0, h1, hsame⟩
  · rintro k ⟨hk0, hk1, _⟩ f
    refine (q69_0 a _ _ _ f _).trans ?_
    simp only [enS_length, dec_lt, Nat.lt_irrefl, decide_false, cond_false]
    refine (aX69_13 a _ _ _).trans ?_
    simp only [cntS, Int.add_zero]
  · rintro i k hi ⟨hk0, hk1, hk2⟩ f hf
    rw [List.drop_eq_getElem_cons hi] at hk1 hk2
    have hc := cntS_nonneg (n := Port.n_) Port.n_pos (a.drop (i + 1))
    have hn : Port.n_ a[i] = 11 := rfl
    simp only [cntS, hn] at hk1
    have he : k + 1 + 1 + 1 + 1 + 1 + 1 + 1 + 1 + 1 + 1 + 1 = k + Port.n_ a[i] := by omega
    simp only [markS, List.cons.injEq] at hk2
    obtain ⟨hk2, hk3⟩ := hk2
    refine (q69_0 a _ _ _ f _).trans ?_
    simp only [enS_length, toNat_of, dec_lt, dec_ge, enS_get _ hi, hi, wrap_succ (show i < 4611686018427387904 by omega), decide_true, cond_true, Bool.and_self]
    have hw1 : IntKind.wrap IntKind.i64 (k + 1) = k + 1 := wrap_le (by omega) (by omega)
    have hw2 : IntKind.wrap IntKind.i64 (k + 1 + 1) = k + 1 + 1 := wrap_le (by omega) (by omega)
    have hw3 : IntKind.wrap IntKind.i64 (k + 1 + 1 + 1) = k + 1 + 1 + 1 := wrap_le (by omega) (by omega)
    have hw4 : IntKind.wrap IntKind.i64 (k + 1 + 1 + 1 + 1) = k + 1 + 1 + 1 + 1 := wrap_le (by omega) (by omega)
    have hw5 : IntKind.wrap IntKind.i64 (k + 1 + 1 + 1 + 1 + 1) = k + 1 + 1 + 1 + 1 + 1 := wrap_le (by omega) (by omega)
    have hw6 : IntKind.wrap IntKind.i64 (k + 1 + 1 + 1 + 1 + 1 + 1) = k + 1 + 1 + 1 + 1 + 1 + 1 := wrap_le (by omega) (by omega)
    have hw7 : IntKind.wrap IntKind.i64 (k + 1 + 1 + 1 + 1 + 1 + 1 + 1) = k + 1 + 1 + 1 + 1 + 1 + 1 + 1 := wrap_le (by omega) (by omega)
    have hw8 : IntKind.wrap IntKind.i64 (k + 1 + 1 + 1 + 1 + 1 + 1 + 1 + 1) = k + 1 + 1 + 1 + 1 + 1 + 1 + 1 + 1 := wrap_le (by omega) (by omega)
    have hw9 : IntKind.wrap IntKind.i64 (k + 1 + 1 + 1 + 1 + 1 + 1 + 1 + 1 + 1) = k + 1 + 1 + 1 + 1 + 1 + 1 + 1 + 1 + 1 := wrap_le (by omega) (by omega)
    have hw10 : IntKind.wrap IntKind.i64 (k + 1 + 1 + 1 + 1 + 1 + 1 + 1 + 1 + 1 + 1) = k + 1 + 1 + 1 + 1 + 1 + 1 + 1 + 1 + 1 + 1 := wrap_le (by omega) (by omega)
    have hw11 : IntKind.wrap IntKind.i64 (k + 1 + 1 + 1 + 1 + 1 + 1 + 1 + 1 + 1 + 1 + 1) = k + 1 + 1 + 1 + 1 + 1 + 1 + 1 + 1 + 1 + 1 + 1 := wrap_le (by omega) (by omega)
    simp only [hw1, hw2, hw3, hw4, hw5, hw6, hw7, hw8, hw9, hw10, hw11]
    rw [← hk2]
    refine Eq.trans (b := f (S69_0 a (k + 1 + 1 + 1 + 1 + 1 + 1 + 1 + 1 + 1 + 1 + 1) (Int.ofNat (i + 1)))) ?_ ((hf (k + 1 + 1 + 1 + 1 + 1 + 1 + 1 + 1 + 1 + 1 + 1) ⟨by omega, by omega, by rw [he]; exact hk3⟩).trans ?_)
    · simp only [En.enc, Port.mk_, Leaf.fit, List.drop_succ_cons, List.drop_zero, List.getD_cons_zero, List.getD_cons_succ, D.num, D.flag, D.text, bne_self_eq_false, Bool.and_self, cond_true, cond_false, decide_true]
    · show _ = some ([[D.int .i64 (k + (Port.n_ a[i] + cntS Port.n_ (a.drop (i + 1))))]], [])
      rw [he, Int.add_assoc]
theorem s69 : SoundAt Go.Proofs.Try.prog Hx 69 c69 := soundAt_of T30_sound mixed func69 (by kernel_rfl) (by
  intro rows r h
  unfold c69 at h
  split at h
  · rename_i a k
    obtain ⟨hp, hr⟩ := Prod.mk.inj (Option.some.inj h)
    subst hr
    simp only [Bool.and_eq_true] at hp
    obtain ⟨hs0, hp⟩ := hp
    obtain ⟨xs0, rfl⟩ := isS_ex hs0
    simp only [deS_enS] at hp ⊢
    exact ⟨_, m69 xs0 k hp⟩
  · cases h)
def T69 : Table := (69, c69) :: T30
theorem T69_sound : Table.Sound Go.Proofs.Try.prog Hx T69 := Table.sound_cons s69 T30_sound
def o31 (a : Bridge) (k : Int) : Bool × List Row × List Row := (sameB (Bridge.mkTop a k) a && (decide (0 ≤ k) && (decide (k + Bridge.nTop a ≤ 4611686018427387904) && (decide (a.Ports.length ≤ 1152921504606846976)))), [[.int .i64 (k + Bridge.nTop a)]], [])
def c31 : Contract
  | [[.int .i64 a_Id, .sl false 11 a_Ports], [.int .i64 k]] => some (isS Port false a_Ports && (o31 ⟨a_Id, (deS Port a_Ports)⟩ k).1, (o31 ⟨a_Id, (deS Port a_Ports)⟩ k).2.1, (o31 ⟨a_Id, (deS Port a_Ports)⟩ k).2.2)
  | _ => none
theorem r31 (a : Bridge) (k : Int) (n : Nat) : evFn ⟨prog, Hx, 31⟩ T69.call n f31 [[.int .i64 a.Id, .sl false 11 (enS false a.Ports)], [.int .i64 k]] = bif isS Port false (enS false (Bridge.Ports a)) && (sameB (markS Port.mk_ Port.n_ (deS Port (enS false (Bridge.Ports a))) k) (deS Port (enS false (Bridge.Ports a))) && (decide (0 ≤ k) && (decide (k + cntS Port.n_ (deS Port (enS false (Bridge.Ports a))) ≤ 4611686018427387904) && decide (length (deS Port (enS false (Bridge.Ports a))) ≤ 1152921504606846976)))) then bif decide (k + cntS Port.n_ (deS Port (enS false (Bridge.Ports a))) < 0) then some ([[D.int i64 (Int.negSucc 0)]], []) else some ([[D.int i64 (k + cntS Port.n_ (deS Port (enS false (Bridge.Ports a))))]], []) else none := by kernel_rfl
theorem m31 (a : Bridge) (k : Int) (hpre : (o31 a k).1 = true) : evFn ⟨Go.Proofs.Try.prog, Hx, 31⟩ T69.call 0 f31 [[.int .i64 a.Id, .sl false 11 (enS false a.Ports)], [.int .i64 k]] = some (o31 a k).2 := by
  refine (r31 a k _).trans ?_
  show _ = (some ([[.int .i64 (k + Bridge.nTop a)]], []) : Option (List Row × List Row))
  replace hpre : (sameB (Bridge.mkTop a k) a && (decide (0 ≤ k) && (decide (k + Bridge.nTop a ≤ 4611686018427387904) && (decide (a.Ports.length ≤ 1152921504606846976))))) = true := hpre
  rw [Bool.and_eq_true] at hpre
  obtain ⟨hsame, hpre⟩ := hpre
  have hsame := sameB_eq hsame
  unfold Bridge.mkTop at hsame
  simp only [Bool.and_eq_true] at hpre
  obtain ⟨h0, h1, h2⟩ := hpre
  have h0' := of_decide_eq_true h0
  have h1' := of_decide_eq_true h1
  unfold Bridge.nTop at h1'
  have p0 : 0 ≤ cntS Port.n_ a.Ports := cntS_nonneg Port.n_pos a.Ports
  have g0 : decide (0 ≤ k) = true := decide_eq_true (by omega)
  have f0 : decide (k + cntS Port.n_ a.Ports ≤ 4611686018427387904) = true := decide_eq_true (by omega)
  have d0 : decide (k + cntS Port.n_ a.Ports < 0) = false := decide_eq_false (by omega)
  have s0 := congrArg Bridge.Ports hsame
  simp only at s0
  simp only [g0, f0, d0, s0, h2, isS_enS, deS_enS, sameB_self, cond_true, cond_false, Bool.and_self, Bool.and_true, Bool.true_and, Bridge.mkTop, Bridge.nTop]
  try rfl
theorem s31 : SoundAt Go.Proofs.Try.prog Hx 31 c31 := soundAt_of T69_sound mixed func31 (by kernel_rfl) (by
  intro rows r h
  unfold c31 at h
  split at h
  · rename_i a_Id a_Ports k
    obtain ⟨hp, hr⟩ := Prod.mk.inj (Option.some.inj h)
    subst hr
    simp only [Bool.and_eq_true] at hp
    obtain ⟨hs0, hp⟩ := hp
    obtain ⟨xs0, rfl⟩ := isS_ex hs0
    simp only [deS_enS] at hp ⊢
    exact ⟨_, m31 ⟨a_Id, xs0⟩ k hp⟩
  · cases h)
def T31 : Table := (31, c31) :: T69
theorem T31_sound : Table.Sound Go.Proofs.Try.prog Hx T31 := Table.sound_cons s31 T69_sound
end Go.Ev
end
