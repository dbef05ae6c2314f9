/- Contracts of functions, each by its evaluation. -/
import Derived.Test.YthfolmphegdabaaEvMd
import Derived.Test.YthfolmphegdabaaProg
import Derived.KernelRfl
import Derived.Test.YthfolmphegdabaaFBox
set_option linter.unusedVariables false
set_option linter.unusedSimpArgs false
set_option maxRecDepth 100000
noncomputable section
namespace Go.Ev
open Go.RowKit Go.Md
end Go.Ev
namespace Go.Md
open Go Go.Ev
def Minder.wt (x : Minder) : Int := (x.Log.length : Int)
def Minder.small (x : Minder) : Bool := decide (x.Log.length ≤ 1048576)
def Minder.big (x : Minder) : Bool := decide (x.Log.length ≤ 9223372036854775807)
theorem Minder.wt_pos (x : Minder) : 0 ≤ Minder.wt x := by
  unfold Minder.wt
  omega
theorem Minder.small_of (x : Minder) (h : Minder.wt x ≤ 1048576) : Minder.small x = true := by
  unfold Minder.wt at h
  unfold Minder.small
  exact decide_eq_true (by omega)
def Box.wt (x : Box) : Int := ((x.Two.length : Int) + cntS Minder.wt x.Two) + (x.Net.length : Int) + (x.Gates.length : Int) + (x.Line.length : Int) + (x.Said.length : Int)
def Box.small (x : Box) : Bool := (decide (x.Two.length ≤ 1048576) && x.Two.all Minder.small) && decide (x.Net.length ≤ 1048576) && decide (x.Gates.length ≤ 1048576) && decide (x.Line.length ≤ 1048576) && decide (x.Said.length ≤ 1048576)
def Box.big (x : Box) : Bool := (decide (x.Two.length ≤ 9223372036854775807) && x.Two.all Minder.big) && decide (x.Net.length ≤ 9223372036854775807) && decide (x.Gates.length ≤ 9223372036854775807) && decide (x.Line.length ≤ 9223372036854775807) && decide (x.Said.length ≤ 9223372036854775807)
theorem Box.wt_pos (x : Box) : 0 ≤ Box.wt x := by
  have h0 := cntS_nonneg (n := Minder.wt) Minder.wt_pos x.Two
  unfold Box.wt
  omega
theorem Box.small_of (x : Box) (h : Box.wt x ≤ 1048576) : Box.small x = true := by
  have h0 := cntS_nonneg (n := Minder.wt) Minder.wt_pos x.Two
  unfold Box.wt at h
  unfold Box.small
  exact Bool.and_eq_true_iff.2 ⟨Bool.and_eq_true_iff.2 ⟨Bool.and_eq_true_iff.2 ⟨Bool.and_eq_true_iff.2 ⟨Bool.and_eq_true_iff.2 ⟨decide_eq_true (by omega), all_small Minder.wt_pos Minder.small_of _ (by omega)⟩, decide_eq_true (by omega)⟩, decide_eq_true (by omega)⟩, decide_eq_true (by omega)⟩, decide_eq_true (by omega)⟩
end Go.Md
namespace Go.Ev
open Go.Md
/- szInS -/
def o26 (a : List In) (left : Int) : Bool × List Row × List Row := (decide (0 ≤ left) && (decide (left ≤ 1048576) && decide (a.length ≤ 9223372036854775807)), [[.int .i64 (szR (a.length : Int) left)]], [])
def c26 : Contract
  | [[.sl false 8 a], [.int .i64 left]] => some (isS In false a && (o26 (deS In a) left).1, (o26 (deS In a) left).2.1, (o26 (deS In a) left).2.2)
  | _ => none

theorem r26 (a : List In) (left : Int) (n : Nat) : evFn ⟨Go.Proofs.Try.prog, Hx, 26⟩ T97.call n Go.Proofs.Try.f26 [[.sl false 8 (enS false a)], [.int .i64 left]] = bif decide (IntKind.wrap IntKind.i64 (left - Int.ofNat (List.length (enS false a))) < 0) then some ([[D.int IntKind.i64 (Int.negSucc 0)]], []) else some ([[D.int IntKind.i64 (IntKind.wrap IntKind.i64 (left - Int.ofNat (List.length (enS false a))))]], []) := by kernel_rfl
theorem m26 (a : List In) (left : Int) (hpre : (o26 a left).1 = true) : evFn ⟨Go.Proofs.Try.prog, Hx, 26⟩ T97.call 0 Go.Proofs.Try.f26 [[.sl false 8 (enS false a)], [.int .i64 left]] = some (o26 a left).2 := by
  refine (r26 a left _).trans ?_
  show _ = (some ([[.int .i64 (szR (a.length : Int) left)]], []) : Option (List Row × List Row))
  replace hpre : (decide (0 ≤ left) && (decide (left ≤ 1048576) && decide (a.length ≤ 9223372036854775807))) = true := hpre
  simp only [Bool.and_eq_true, decide_eq_true_eq] at hpre
  obtain ⟨h0, h1, h2⟩ := hpre
  simp only [enS_length]
  have hw : IntKind.wrap IntKind.i64 (left - Int.ofNat a.length) = left - (a.length : Int) := wrap_of (by show _ ≤ left - (a.length : Int); omega) (by show left - (a.length : Int) ≤ _; omega)
  rw [hw]
  unfold szR
  by_cases h : (a.length : Int) ≤ left
  · rw [decide_eq_false (by omega), decide_eq_true h]; rfl
  · rw [decide_eq_true (by omega), decide_eq_false h]; rfl
theorem s26 : SoundAt Go.Proofs.Try.prog Hx 26 c26 := soundAt_of T97_sound mixed Go.Proofs.Try.func26 (by kernel_rfl) (by
  intro rows r h
  unfold c26 at h
  split at h
  · rename_i a left
    obtain ⟨hp, hr⟩ := Prod.mk.inj (Option.some.inj h)
    subst hr
    simp only [Bool.and_eq_true] at hp
    obtain ⟨hs0, hp⟩ := hp
    obtain ⟨xs0, rfl⟩ := isS_ex hs0
    simp only [deS_enS] at hp ⊢
    exact ⟨_, m26 xs0 left hp⟩
  · cases h)
def T26 : Table := (26, c26) :: T97
theorem T26_sound : Table.Sound Go.Proofs.Try.prog Hx T26 := Table.sound_cons s26 T97_sound
/- szMinder -/
def o86 (a : Minder) (left : Int) : Bool × List Row × List Row := (decide (0 ≤ left) && (decide (left ≤ 1048576) && Minder.big a), [[.int .i64 (szR (Minder.wt a) left)]], [])
def c86 : Contract
  | [[.bool a_Up, .int .i64 a_Life, .int .i64 a_Epoch, .sl false 8 a_Log, .int .i64 a_Said, .int .i64 a_Acked, .int .i64 a_AckLife], [.int .i64 left]] => some (isS In false a_Log && (o86 ⟨a_Up, a_Life, a_Epoch, (deS In a_Log), a_Said, a_Acked, a_AckLife⟩ left).1, (o86 ⟨a_Up, a_Life, a_Epoch, (deS In a_Log), a_Said, a_Acked, a_AckLife⟩ left).2.1, (o86 ⟨a_Up, a_Life, a_Epoch, (deS In a_Log), a_Said, a_Acked, a_AckLife⟩ left).2.2)
  | _ => none

theorem r86 (a : Minder) (left : Int) (n : Nat) : evFn ⟨Go.Proofs.Try.prog, Hx, 86⟩ T26.call n Go.Proofs.Try.f86 [[.bool a.Up, .int .i64 a.Life, .int .i64 a.Epoch, .sl false 8 (enS false a.Log), .int .i64 a.Said, .int .i64 a.Acked, .int .i64 a.AckLife], [.int .i64 left]] = bif isS In false (enS false (Minder.Log a)) && (decide (0 ≤ left) && (decide (left ≤ 1048576) && decide (List.length (deS In (enS false (Minder.Log a))) ≤ 9223372036854775807))) then bif decide (szR (Int.ofNat (List.length (deS In (enS false (Minder.Log a))))) left < 0) then some ([[D.int IntKind.i64 (Int.negSucc 0)]], []) else some ([[D.int IntKind.i64 (szR (Int.ofNat (List.length (deS In (enS false (Minder.Log a))))) left)]], []) else none := by kernel_rfl
theorem m86 (a : Minder) (left : Int) (hpre : (o86 a left).1 = true) : evFn ⟨Go.Proofs.Try.prog, Hx, 86⟩ T26.call 0 Go.Proofs.Try.f86 [[.bool a.Up, .int .i64 a.Life, .int .i64 a.Epoch, .sl false 8 (enS false a.Log), .int .i64 a.Said, .int .i64 a.Acked, .int .i64 a.AckLife], [.int .i64 left]] = some (o86 a left).2 := by
  refine (r86 a left _).trans ?_
  show _ = (some ([[.int .i64 (szR (Minder.wt a) left)]], []) : Option (List Row × List Row))
  replace hpre : (decide (0 ≤ left) && (decide (left ≤ 1048576) && Minder.big a)) = true := hpre
  simp only [Bool.and_eq_true, decide_eq_true_eq] at hpre
  obtain ⟨h0, h1, h2⟩ := hpre
  unfold Minder.big at h2
  try simp only [Bool.and_eq_true] at h2
  unfold Minder.wt
  have p0 : 0 ≤ (a.Log.length : Int) := by omega
  have g0 : decide (0 ≤ left) = true := decide_eq_true (by omega)
  have f0 : decide (left ≤ 1048576) = true := decide_eq_true (by omega)
  rcases szR_cases ((a.Log.length : Int)) (left) (by omega) with ⟨a0, b0, c0⟩ | ⟨a0, b0, c0⟩
  case inr =>
    rw [b0] at c0
    simp only [g0, f0, b0, c0, h2, Int.ofNat_eq_natCast, isS_enS, deS_enS, cond_true, cond_false, Bool.and_self, Bool.and_true, Bool.true_and]
    try rw [szR_gt (by omega)]
    try rfl
  rw [b0] at c0
  simp only [g0, f0, b0, c0, h2, Int.ofNat_eq_natCast, isS_enS, deS_enS, cond_true, cond_false, Bool.and_self, Bool.and_true, Bool.true_and]
  try rw [szR_le (by omega)]
  try rfl
theorem s86 : SoundAt Go.Proofs.Try.prog Hx 86 c86 := soundAt_of T26_sound mixed Go.Proofs.Try.func86 (by kernel_rfl) (by
  intro rows r h
  unfold c86 at h
  split at h
  · rename_i a_Up a_Life a_Epoch a_Log a_Said a_Acked a_AckLife left
    obtain ⟨hp, hr⟩ := Prod.mk.inj (Option.some.inj h)
    subst hr
    simp only [Bool.and_eq_true] at hp
    obtain ⟨hs0, hp⟩ := hp
    obtain ⟨xs0, rfl⟩ := isS_ex hs0
    simp only [deS_enS] at hp ⊢
    exact ⟨_, m86 ⟨a_Up, a_Life, a_Epoch, xs0, a_Said, a_Acked, a_AckLife⟩ left hp⟩
  · cases h)
def T86 : Table := (86, c86) :: T26
theorem T86_sound : Table.Sound Go.Proofs.Try.prog Hx T86 := Table.sound_cons s86 T26_sound
/- szMinderS -/
def o35 (a : List Minder) (left : Int) : Bool × List Row × List Row := (decide (0 ≤ left) && (decide (left ≤ 1048576) && (decide (a.length ≤ 9223372036854775807) && a.all Minder.big)), [[.int .i64 (szR ((a.length : Int) + cntS Minder.wt a) left)]], [])
def c35 : Contract
  | [[.sl false 7 a], [.int .i64 left]] => some (isS Minder false a && (o35 (deS Minder a) left).1, (o35 (deS Minder a) left).2.1, (o35 (deS Minder a) left).2.2)
  | _ => none

noncomputable def k35_0 (n : Nat) : Ex → St → Option (List Row × List Row) := kThen (fun st ↦ runCode (Ctx.mk Go.Proofs.Try.prog Hx (35)) (Table.call T86) n (codeAt [1, 1, 1, 1] (bodyOf Go.Proofs.Try.f35)) (Lv.mk 16 [] 16) st (kLeave (Ctx.P (Ctx.mk Go.Proofs.Try.prog Hx (35))) (List.zip (Array.toList (Go.Func.resultTypes Go.Proofs.Try.f35)) (Array.toList (Go.Func.results Go.Proofs.Try.f35))) [] [])) (kLeave (Ctx.P (Ctx.mk Go.Proofs.Try.prog Hx (35))) (List.zip (Array.toList (Go.Func.resultTypes Go.Proofs.Try.f35)) (Array.toList (Go.Func.results Go.Proofs.Try.f35))) [] [])
noncomputable def k35_1 (n : Nat) : Ex → St → Option (List Row × List Row) := kBlock (0) (k35_0 n)
noncomputable def S35_0 (a : List Minder) (i0 : Int) (i1 : Int) : St := St.mk [TV.v false [C.d (D.sl false 7 (enS false a))], TV.v false [C.d (D.int IntKind.i64 i0)], TV.v false [C.undef], TV.v false [C.undef], TV.v false [C.undef], TV.v false [C.d (D.int IntKind.i64 i1)], TV.v false [C.undef], TV.v false [C.undef], TV.v false [C.undef], TV.v false [C.undef], TV.v false [C.undef], TV.v false [C.undef], TV.v false [C.undef], TV.v false [C.undef], TV.v false [C.undef], TV.v false [C.undef], TV.v false [C.undef], TV.v false [C.undef], TV.v false [C.undef], TV.v false [C.undef], TV.v false [C.undef], TV.v false [C.undef], TV.v false [C.undef], TV.v false [C.undef], TV.v false [C.undef], TV.v false [C.undef], TV.v false [C.undef]] []
noncomputable def B35_0 (n : Nat) : St → (Ex → St → Option (List Row × List Row)) → Option (List Row × List Row) := runCode (Ctx.mk Go.Proofs.Try.prog Hx (35)) (Table.call T86) n (codeAt [1, 1, 1, 0, 1, 0, 0] (bodyOf Go.Proofs.Try.f35)) (Lv.mk 0 [(0, 2)] 16)
noncomputable def X35_2 (a : List Minder) (i0 : Int) (i1 : Int) : St := St.mk [TV.v false [C.d (D.sl false 7 (enS false a))], TV.v false [C.d (D.int IntKind.i64 (szR (Minder.wt (Minder.mk (D.flag (List.getD (List.getD (enS false a) (Int.toNat i1) []) 0 D.dead)) (D.num (List.getD (List.getD (enS false a) (Int.toNat i1) []) 1 D.dead)) (D.num (List.getD (List.getD (enS false a) (Int.toNat i1) []) 2 D.dead)) (deS In (D.rows (List.getD (List.getD (enS false a) (Int.toNat i1) []) 3 D.dead))) (D.num (List.getD (List.getD (enS false a) (Int.toNat i1) []) 4 D.dead)) (D.num (List.getD (List.getD (enS false a) (Int.toNat i1) []) 5 D.dead)) (D.num (List.getD (List.getD (enS false a) (Int.toNat i1) []) 6 D.dead)))) i0))], TV.v false [C.undef], TV.v false [C.undef], TV.v false [C.d (D.int IntKind.i64 (Int.negSucc 0))], TV.v false [C.d (D.int IntKind.i64 i1)], TV.v false [C.undef], TV.v false [C.undef], TV.v false [C.undef], TV.v false [C.undef], TV.v false [C.undef], TV.v false [C.undef], TV.v false [C.d (D.int IntKind.i64 i1)], TV.v false [C.d (D.sl false 7 (enS false a))], TV.v false [C.d (D.int IntKind.i64 (Int.ofNat (List.length (enS false a))))], TV.v false [C.d (D.bool true)], TV.v false [C.undef], TV.v false [C.undef], TV.v false [C.d (D.sl false 7 (enS false a))], TV.v false [C.d (D.int IntKind.i64 i1)], TV.v false [C.rptr (List.getD (enS false a) (Int.toNat i1) [])], TV.v true [C.d (D.bool (D.flag (List.getD (List.getD (enS false a) (Int.toNat i1) []) 0 D.dead))), C.d (D.int IntKind.i64 (D.num (List.getD (List.getD (enS false a) (Int.toNat i1) []) 1 D.dead))), C.d (D.int IntKind.i64 (D.num (List.getD (List.getD (enS false a) (Int.toNat i1) []) 2 D.dead))), C.d (D.sl false 8 (D.rows (List.getD (List.getD (enS false a) (Int.toNat i1) []) 3 D.dead))), C.d (D.int IntKind.i64 (D.num (List.getD (List.getD (enS false a) (Int.toNat i1) []) 4 D.dead))), C.d (D.int IntKind.i64 (D.num (List.getD (List.getD (enS false a) (Int.toNat i1) []) 5 D.dead))), C.d (D.int IntKind.i64 (D.num (List.getD (List.getD (enS false a) (Int.toNat i1) []) 6 D.dead)))], TV.v false [C.d (D.int IntKind.i64 i0)], TV.v false [C.d (D.int IntKind.i64 (szR (Minder.wt (Minder.mk (D.flag (List.getD (List.getD (enS false a) (Int.toNat i1) []) 0 D.dead)) (D.num (List.getD (List.getD (enS false a) (Int.toNat i1) []) 1 D.dead)) (D.num (List.getD (List.getD (enS false a) (Int.toNat i1) []) 2 D.dead)) (deS In (D.rows (List.getD (List.getD (enS false a) (Int.toNat i1) []) 3 D.dead))) (D.num (List.getD (List.getD (enS false a) (Int.toNat i1) []) 4 D.dead)) (D.num (List.getD (List.getD (enS false a) (Int.toNat i1) []) 5 D.dead)) (D.num (List.getD (List.getD (enS false a) (Int.toNat i1) []) 6 D.dead)))) i0))], TV.v false [C.d (D.int IntKind.i64 (szR (Minder.wt (Minder.mk (D.flag (List.getD (List.getD (enS false a) (Int.toNat i1) []) 0 D.dead)) (D.num (List.getD (List.getD (enS false a) (Int.toNat i1) []) 1 D.dead)) (D.num (List.getD (List.getD (enS false a) (Int.toNat i1) []) 2 D.dead)) (deS In (D.rows (List.getD (List.getD (enS false a) (Int.toNat i1) []) 3 D.dead))) (D.num (List.getD (List.getD (enS false a) (Int.toNat i1) []) 4 D.dead)) (D.num (List.getD (List.getD (enS false a) (Int.toNat i1) []) 5 D.dead)) (D.num (List.getD (List.getD (enS false a) (Int.toNat i1) []) 6 D.dead)))) i0))], TV.v false [C.d (D.bool true)], TV.v false [C.undef]] []
noncomputable def X35_3 (a : List Minder) (i0 : Int) (i1 : Int) : St := St.mk [TV.v false [C.d (D.sl false 7 (enS false a))], TV.v false [C.d (D.int IntKind.i64 i0)], TV.v false [C.undef], TV.v false [C.undef], TV.v false [C.undef], TV.v false [C.d (D.int IntKind.i64 i1)], TV.v false [C.undef], TV.v false [C.undef], TV.v false [C.undef], TV.v false [C.undef], TV.v false [C.undef], TV.v false [C.undef], TV.v false [C.d (D.int IntKind.i64 i1)], TV.v false [C.d (D.sl false 7 (enS false a))], TV.v false [C.d (D.int IntKind.i64 (Int.ofNat (List.length (enS false a))))], TV.v false [C.d (D.bool false)], TV.v false [C.undef], TV.v false [C.undef], TV.v false [C.undef], TV.v false [C.undef], TV.v false [C.undef], TV.v false [C.undef], TV.v false [C.undef], TV.v false [C.undef], TV.v false [C.undef], TV.v false [C.undef], TV.v false [C.undef]] []
theorem q35_0 (a : List Minder) (n : Nat) (i0 : Int) (i1 : Int) (f : St → Option (List Row × List Row)) (K : Ex → St → Option (List Row × List Row)) : B35_0 n (S35_0 a i0 i1) (@kThen (List Row × List Row) (fun st ↦ f (St.head 0 35 67104818 st)) K) = bif decide (i1 < Int.ofNat (List.length (enS false a))) then bif decide (0 ≤ i1) && decide (i1 < Int.ofNat (List.length (enS false a))) then bif Leaf.fit false Leaf.bool (List.getD (List.getD (enS false a) (Int.toNat i1) []) 0 D.dead) && (Leaf.fit false (Leaf.int IntKind.i64) (List.getD (List.getD (enS false a) (Int.toNat i1) []) 1 D.dead) && (Leaf.fit false (Leaf.int IntKind.i64) (List.getD (List.getD (enS false a) (Int.toNat i1) []) 2 D.dead) && (Leaf.fit false (Leaf.sl 8 true) (List.getD (List.getD (enS false a) (Int.toNat i1) []) 3 D.dead) && (Leaf.fit false (Leaf.int IntKind.i64) (List.getD (List.getD (enS false a) (Int.toNat i1) []) 4 D.dead) && (Leaf.fit false (Leaf.int IntKind.i64) (List.getD (List.getD (enS false a) (Int.toNat i1) []) 5 D.dead) && (Leaf.fit false (Leaf.int IntKind.i64) (List.getD (List.getD (enS false a) (Int.toNat i1) []) 6 D.dead) && true)))))) then bif isS In false (D.rows (List.getD (List.getD (enS false a) (Int.toNat i1) []) 3 D.dead)) && (decide (0 ≤ i0) && (decide (i0 ≤ 1048576) && Minder.big (Minder.mk (D.flag (List.getD (List.getD (enS false a) (Int.toNat i1) []) 0 D.dead)) (D.num (List.getD (List.getD (enS false a) (Int.toNat i1) []) 1 D.dead)) (D.num (List.getD (List.getD (enS false a) (Int.toNat i1) []) 2 D.dead)) (deS In (D.rows (List.getD (List.getD (enS false a) (Int.toNat i1) []) 3 D.dead))) (D.num (List.getD (List.getD (enS false a) (Int.toNat i1) []) 4 D.dead)) (D.num (List.getD (List.getD (enS false a) (Int.toNat i1) []) 5 D.dead)) (D.num (List.getD (List.getD (enS false a) (Int.toNat i1) []) 6 D.dead))))) then bif decide (szR (Minder.wt (Minder.mk (D.flag (List.getD (List.getD (enS false a) (Int.toNat i1) []) 0 D.dead)) (D.num (List.getD (List.getD (enS false a) (Int.toNat i1) []) 1 D.dead)) (D.num (List.getD (List.getD (enS false a) (Int.toNat i1) []) 2 D.dead)) (deS In (D.rows (List.getD (List.getD (enS false a) (Int.toNat i1) []) 3 D.dead))) (D.num (List.getD (List.getD (enS false a) (Int.toNat i1) []) 4 D.dead)) (D.num (List.getD (List.getD (enS false a) (Int.toNat i1) []) 5 D.dead)) (D.num (List.getD (List.getD (enS false a) (Int.toNat i1) []) 6 D.dead)))) i0 < 0) then K Ex.ret (X35_2 a i0 i1) else f (S35_0 a (szR (Minder.wt (Minder.mk (D.flag (List.getD (List.getD (enS false a) (Int.toNat i1) []) 0 D.dead)) (D.num (List.getD (List.getD (enS false a) (Int.toNat i1) []) 1 D.dead)) (D.num (List.getD (List.getD (enS false a) (Int.toNat i1) []) 2 D.dead)) (deS In (D.rows (List.getD (List.getD (enS false a) (Int.toNat i1) []) 3 D.dead))) (D.num (List.getD (List.getD (enS false a) (Int.toNat i1) []) 4 D.dead)) (D.num (List.getD (List.getD (enS false a) (Int.toNat i1) []) 5 D.dead)) (D.num (List.getD (List.getD (enS false a) (Int.toNat i1) []) 6 D.dead)))) i0) (IntKind.wrap IntKind.i64 (i1 + 1))) else none else none else none else K (Ex.exit 0) (X35_3 a i0 i1) := by kernel_rfl
theorem aX35_2 (a : List Minder) (n : Nat) (i0 : Int) (i1 : Int) : k35_1 n Ex.ret (X35_2 a i0 i1) = some ([[D.int IntKind.i64 (Int.negSucc 0)]], []) := by kernel_rfl
theorem aX35_3 (a : List Minder) (n : Nat) (i0 : Int) (i1 : Int) : k35_1 n (Ex.exit 0) (X35_3 a i0 i1) = some ([[D.int IntKind.i64 i0]], []) := by kernel_rfl
theorem r35 (a : List Minder) (left : Int) (n : Nat) : evFn ⟨Go.Proofs.Try.prog, Hx, 35⟩ T86.call n Go.Proofs.Try.f35 [[.sl false 7 (enS false a)], [.int .i64 left]] = bif decide (IntKind.wrap IntKind.i64 (left - Int.ofNat (List.length (enS false a))) < 0) then some ([[D.int IntKind.i64 (Int.negSucc 0)]], []) else loopRun (B35_0 n) 0 35 67104818 n (S35_0 a (IntKind.wrap IntKind.i64 (left - Int.ofNat (List.length (enS false a)))) (0)) (k35_1 n) := by kernel_rfl
theorem m35 (a : List Minder) (left : Int) (hpre : (o35 a left).1 = true) : evFn ⟨Go.Proofs.Try.prog, Hx, 35⟩ T86.call (a.length + 1) Go.Proofs.Try.f35 [[.sl false 7 (enS false a)], [.int .i64 left]] = some (o35 a left).2 := by
  refine (r35 a left _).trans ?_
  show _ = (some ([[.int .i64 (szR ((a.length : Int) + cntS Minder.wt a) left)]], []) : Option (List Row × List Row))
  replace hpre : (decide (0 ≤ left) && (decide (left ≤ 1048576) && (decide (a.length ≤ 9223372036854775807) && a.all Minder.big))) = true := hpre
  simp only [Bool.and_eq_true, decide_eq_true_eq] at hpre
  obtain ⟨h0, h1, h2, h3⟩ := hpre
  simp only [enS_length]
  have hw : IntKind.wrap IntKind.i64 (left - Int.ofNat a.length) = left - (a.length : Int) := wrap_of (by show _ ≤ left - (a.length : Int); omega) (by show left - (a.length : Int) ≤ _; omega)
  rw [hw]
  have hc := cntS_nonneg (n := Minder.wt) Minder.wt_pos a
  by_cases hl : (a.length : Int) ≤ left
  case neg =>
    rw [decide_eq_true (by omega), szR_gt (by omega)]
    rfl
  rw [decide_eq_false (by omega), cond_false]
  have hlen : a.length ≤ 1048576 := by omega
  have hg : szR ((a.length : Int) + cntS Minder.wt a) left = szR (cntS Minder.wt a) (left - (a.length : Int)) := by
    by_cases h : cntS Minder.wt a ≤ left - (a.length : Int)
    · rw [szR_le h, szR_le (by omega)]; omega
    · rw [szR_gt (by omega), szR_gt (by omega)]
  rw [hg]
  refine loop_list (xs := a) (fun i (l : Int) => S35_0 a l (Int.ofNat i)) (fun _ l => 0 ≤ l ∧ l ≤ 1048576) (fun _ l rest => some ([[D.int .i64 (szR (cntS Minder.wt rest) l)]], [])) ?_ ?_ (a.length + 1) (left - (a.length : Int)) (by omega) ⟨by omega, by omega⟩
  · rintro l ⟨g0, g1⟩ f
    refine (q35_0 a _ _ _ f _).trans ?_
    rw [end_lt, cond_false]
    refine (aX35_3 a _ _ _).trans ?_
    rw [cntS, szR_le g0, Int.sub_zero]
  · rintro i l hi ⟨g0, g1⟩ f hf
    refine (q35_0 a _ _ _ f _).trans ?_
    have hel := List.all_eq_true.1 h3 _ (List.getElem_mem hi)
    have hp := Minder.wt_pos a[i]
    have hc2 := cntS_nonneg (n := Minder.wt) Minder.wt_pos (a.drop (i + 1))
    have d0 : decide (0 ≤ l) = true := decide_eq_true g0
    have d1 : decide (l ≤ 1048576) = true := decide_eq_true g1
    simp only [enS_length, toNat_of, dec_lt, dec_ge, decide_true, decide_false, cond_true, cond_false, Bool.and_self, Bool.and_true, Bool.true_and, Bool.not_true, Bool.not_false, Nat.lt_irrefl, Nat.zero_add, isS_enS, deS_enS, isS_nil, deS_nil, List.nil_append, lendRows_enS, deepRows_enS, noSl_u8, En.enc, List.getD_cons_zero, List.getD_cons_succ, D.num, D.flag, D.text, D.rows, Leaf.fit, List.append_eq, TReader.eta, Frame.eta, Heard.eta, Member.eta, Card.eta, Out1.eta, Vec.eta, Port.eta, Bridge.eta, In.eta, Out.eta, Link.eta, Net.eta, TEnd.eta, Minder.eta, Reg.eta, Wire.eta, Box.eta, Deed.eta, Bpdu.eta, Visit.eta, Fabric.eta, Got.eta, TRide.eta, Up.eta, Copy.eta, Bucket.eta, Snap.eta, TL9Cur.eta, TL21In.eta, enS_get _ hi, hi, wrap_succ (show i < 4611686018427387904 by omega), hel, d0, d1]
    rcases szR_cases (Minder.wt a[i]) l g0 with ⟨a1, b1, c1⟩ | ⟨a1, b1, c1⟩
    · rw [c1, cond_false, b1]
      refine (hf (l - Minder.wt a[i]) ⟨by omega, by omega⟩).trans ?_
      have : szR (cntS Minder.wt (a[i] :: a.drop (i + 1))) l = szR (cntS Minder.wt (a.drop (i + 1))) (l - Minder.wt a[i]) := by
        show szR (Minder.wt a[i] + cntS Minder.wt (a.drop (i + 1))) l = _
        by_cases h : cntS Minder.wt (a.drop (i + 1)) ≤ l - Minder.wt a[i]
        · rw [szR_le h, szR_le (by omega)]; omega
        · rw [szR_gt (by omega), szR_gt (by omega)]
      rw [this]
    · rw [c1, cond_true]
      refine (aX35_2 a _ _ _).trans ?_
      have : szR (cntS Minder.wt (a[i] :: a.drop (i + 1))) l = -1 := by
        show szR (Minder.wt a[i] + cntS Minder.wt (a.drop (i + 1))) l = _
        exact szR_gt (by omega)
      rw [this]
      rfl
theorem s35 : SoundAt Go.Proofs.Try.prog Hx 35 c35 := soundAt_of T86_sound mixed Go.Proofs.Try.func35 (by kernel_rfl) (by
  intro rows r h
  unfold c35 at h
  split at h
  · rename_i a left
    obtain ⟨hp, hr⟩ := Prod.mk.inj (Option.some.inj h)
    subst hr
    simp only [Bool.and_eq_true] at hp
    obtain ⟨hs0, hp⟩ := hp
    obtain ⟨xs0, rfl⟩ := isS_ex hs0
    simp only [deS_enS] at hp ⊢
    exact ⟨_, m35 xs0 left hp⟩
  · cases h)
def T35 : Table := (35, c35) :: T86
theorem T35_sound : Table.Sound Go.Proofs.Try.prog Hx T35 := Table.sound_cons s35 T86_sound
/- szWireS -/
def o36 (a : List Wire) (left : Int) : Bool × List Row × List Row := (decide (0 ≤ left) && (decide (left ≤ 1048576) && decide (a.length ≤ 9223372036854775807)), [[.int .i64 (szR (a.length : Int) left)]], [])
def c36 : Contract
  | [[.sl false 12 a], [.int .i64 left]] => some (isS Wire false a && (o36 (deS Wire a) left).1, (o36 (deS Wire a) left).2.1, (o36 (deS Wire a) left).2.2)
  | _ => none

theorem r36 (a : List Wire) (left : Int) (n : Nat) : evFn ⟨Go.Proofs.Try.prog, Hx, 36⟩ T35.call n Go.Proofs.Try.f36 [[.sl false 12 (enS false a)], [.int .i64 left]] = bif decide (IntKind.wrap IntKind.i64 (left - Int.ofNat (List.length (enS false a))) < 0) then some ([[D.int IntKind.i64 (Int.negSucc 0)]], []) else some ([[D.int IntKind.i64 (IntKind.wrap IntKind.i64 (left - Int.ofNat (List.length (enS false a))))]], []) := by kernel_rfl
theorem m36 (a : List Wire) (left : Int) (hpre : (o36 a left).1 = true) : evFn ⟨Go.Proofs.Try.prog, Hx, 36⟩ T35.call 0 Go.Proofs.Try.f36 [[.sl false 12 (enS false a)], [.int .i64 left]] = some (o36 a left).2 := by
  refine (r36 a left _).trans ?_
  show _ = (some ([[.int .i64 (szR (a.length : Int) left)]], []) : Option (List Row × List Row))
  replace hpre : (decide (0 ≤ left) && (decide (left ≤ 1048576) && decide (a.length ≤ 9223372036854775807))) = true := hpre
  simp only [Bool.and_eq_true, decide_eq_true_eq] at hpre
  obtain ⟨h0, h1, h2⟩ := hpre
  simp only [enS_length]
  have hw : IntKind.wrap IntKind.i64 (left - Int.ofNat a.length) = left - (a.length : Int) := wrap_of (by show _ ≤ left - (a.length : Int); omega) (by show left - (a.length : Int) ≤ _; omega)
  rw [hw]
  unfold szR
  by_cases h : (a.length : Int) ≤ left
  · rw [decide_eq_false (by omega), decide_eq_true h]; rfl
  · rw [decide_eq_true (by omega), decide_eq_false h]; rfl
theorem s36 : SoundAt Go.Proofs.Try.prog Hx 36 c36 := soundAt_of T35_sound mixed Go.Proofs.Try.func36 (by kernel_rfl) (by
  intro rows r h
  unfold c36 at h
  split at h
  · rename_i a left
    obtain ⟨hp, hr⟩ := Prod.mk.inj (Option.some.inj h)
    subst hr
    simp only [Bool.and_eq_true] at hp
    obtain ⟨hs0, hp⟩ := hp
    obtain ⟨xs0, rfl⟩ := isS_ex hs0
    simp only [deS_enS] at hp ⊢
    exact ⟨_, m36 xs0 left hp⟩
  · cases h)
def T36 : Table := (36, c36) :: T35
theorem T36_sound : Table.Sound Go.Proofs.Try.prog Hx T36 := Table.sound_cons s36 T35_sound
/- szBoolS -/
def o37 (a : List Bool) (left : Int) : Bool × List Row × List Row := (decide (0 ≤ left) && (decide (left ≤ 1048576) && decide (a.length ≤ 9223372036854775807)), [[.int .i64 (szR (a.length : Int) left)]], [])
def c37 : Contract
  | [[.sl false 1 a], [.int .i64 left]] => some (isS Bool false a && (o37 (deS Bool a) left).1, (o37 (deS Bool a) left).2.1, (o37 (deS Bool a) left).2.2)
  | _ => none

theorem r37 (a : List Bool) (left : Int) (n : Nat) : evFn ⟨Go.Proofs.Try.prog, Hx, 37⟩ T36.call n Go.Proofs.Try.f37 [[.sl false 1 (enS false a)], [.int .i64 left]] = bif decide (IntKind.wrap IntKind.i64 (left - Int.ofNat (List.length (enS false a))) < 0) then some ([[D.int IntKind.i64 (Int.negSucc 0)]], []) else some ([[D.int IntKind.i64 (IntKind.wrap IntKind.i64 (left - Int.ofNat (List.length (enS false a))))]], []) := by kernel_rfl
theorem m37 (a : List Bool) (left : Int) (hpre : (o37 a left).1 = true) : evFn ⟨Go.Proofs.Try.prog, Hx, 37⟩ T36.call 0 Go.Proofs.Try.f37 [[.sl false 1 (enS false a)], [.int .i64 left]] = some (o37 a left).2 := by
  refine (r37 a left _).trans ?_
  show _ = (some ([[.int .i64 (szR (a.length : Int) left)]], []) : Option (List Row × List Row))
  replace hpre : (decide (0 ≤ left) && (decide (left ≤ 1048576) && decide (a.length ≤ 9223372036854775807))) = true := hpre
  simp only [Bool.and_eq_true, decide_eq_true_eq] at hpre
  obtain ⟨h0, h1, h2⟩ := hpre
  simp only [enS_length]
  have hw : IntKind.wrap IntKind.i64 (left - Int.ofNat a.length) = left - (a.length : Int) := wrap_of (by show _ ≤ left - (a.length : Int); omega) (by show left - (a.length : Int) ≤ _; omega)
  rw [hw]
  unfold szR
  by_cases h : (a.length : Int) ≤ left
  · rw [decide_eq_false (by omega), decide_eq_true h]; rfl
  · rw [decide_eq_true (by omega), decide_eq_false h]; rfl
theorem s37 : SoundAt Go.Proofs.Try.prog Hx 37 c37 := soundAt_of T36_sound mixed Go.Proofs.Try.func37 (by kernel_rfl) (by
  intro rows r h
  unfold c37 at h
  split at h
  · rename_i a left
    obtain ⟨hp, hr⟩ := Prod.mk.inj (Option.some.inj h)
    subst hr
    simp only [Bool.and_eq_true] at hp
    obtain ⟨hs0, hp⟩ := hp
    obtain ⟨xs0, rfl⟩ := isS_ex hs0
    simp only [deS_enS] at hp ⊢
    exact ⟨_, m37 xs0 left hp⟩
  · cases h)
def T37 : Table := (37, c37) :: T36
theorem T37_sound : Table.Sound Go.Proofs.Try.prog Hx T37 := Table.sound_cons s37 T36_sound
/- szOutS -/
def o38 (a : List Out) (left : Int) : Bool × List Row × List Row := (decide (0 ≤ left) && (decide (left ≤ 1048576) && decide (a.length ≤ 9223372036854775807)), [[.int .i64 (szR (a.length : Int) left)]], [])
def c38 : Contract
  | [[.sl false 8 a], [.int .i64 left]] => some (isS Out false a && (o38 (deS Out a) left).1, (o38 (deS Out a) left).2.1, (o38 (deS Out a) left).2.2)
  | _ => none

theorem r38 (a : List Out) (left : Int) (n : Nat) : evFn ⟨Go.Proofs.Try.prog, Hx, 38⟩ T37.call n Go.Proofs.Try.f38 [[.sl false 8 (enS false a)], [.int .i64 left]] = bif decide (IntKind.wrap IntKind.i64 (left - Int.ofNat (List.length (enS false a))) < 0) then some ([[D.int IntKind.i64 (Int.negSucc 0)]], []) else some ([[D.int IntKind.i64 (IntKind.wrap IntKind.i64 (left - Int.ofNat (List.length (enS false a))))]], []) := by kernel_rfl
theorem m38 (a : List Out) (left : Int) (hpre : (o38 a left).1 = true) : evFn ⟨Go.Proofs.Try.prog, Hx, 38⟩ T37.call 0 Go.Proofs.Try.f38 [[.sl false 8 (enS false a)], [.int .i64 left]] = some (o38 a left).2 := by
  refine (r38 a left _).trans ?_
  show _ = (some ([[.int .i64 (szR (a.length : Int) left)]], []) : Option (List Row × List Row))
  replace hpre : (decide (0 ≤ left) && (decide (left ≤ 1048576) && decide (a.length ≤ 9223372036854775807))) = true := hpre
  simp only [Bool.and_eq_true, decide_eq_true_eq] at hpre
  obtain ⟨h0, h1, h2⟩ := hpre
  simp only [enS_length]
  have hw : IntKind.wrap IntKind.i64 (left - Int.ofNat a.length) = left - (a.length : Int) := wrap_of (by show _ ≤ left - (a.length : Int); omega) (by show left - (a.length : Int) ≤ _; omega)
  rw [hw]
  unfold szR
  by_cases h : (a.length : Int) ≤ left
  · rw [decide_eq_false (by omega), decide_eq_true h]; rfl
  · rw [decide_eq_true (by omega), decide_eq_false h]; rfl
theorem s38 : SoundAt Go.Proofs.Try.prog Hx 38 c38 := soundAt_of T37_sound mixed Go.Proofs.Try.func38 (by kernel_rfl) (by
  intro rows r h
  unfold c38 at h
  split at h
  · rename_i a left
    obtain ⟨hp, hr⟩ := Prod.mk.inj (Option.some.inj h)
    subst hr
    simp only [Bool.and_eq_true] at hp
    obtain ⟨hs0, hp⟩ := hp
    obtain ⟨xs0, rfl⟩ := isS_ex hs0
    simp only [deS_enS] at hp ⊢
    exact ⟨_, m38 xs0 left hp⟩
  · cases h)
def T38 : Table := (38, c38) :: T37
theorem T38_sound : Table.Sound Go.Proofs.Try.prog Hx T38 := Table.sound_cons s38 T37_sound
/- szBox -/
def o8 (a : Box) (left : Int) : Bool × List Row × List Row := (decide (0 ≤ left) && (decide (left ≤ 1048576) && Box.big a), [[.int .i64 (szR (Box.wt a) left)]], [])
def c8 : Contract
  | [[.int .i64 a_Id, .int .i64 a_Ports, .int .i64 a_Reg_Epoch, .int .i64 a_Reg_Owner, .int .i64 a_Reg_Pair, .sl false 7 a_Two, .sl false 12 a_Net, .sl false 1 a_Gates, .sl false 8 a_Line, .sl false 8 a_Said], [.int .i64 left]] => some (isS Minder false a_Two && isS Wire false a_Net && isS Bool false a_Gates && isS In false a_Line && isS Out false a_Said && (o8 ⟨a_Id, a_Ports, ⟨a_Reg_Epoch, a_Reg_Owner, a_Reg_Pair⟩, (deS Minder a_Two), (deS Wire a_Net), (deS Bool a_Gates), (deS In a_Line), (deS Out a_Said)⟩ left).1, (o8 ⟨a_Id, a_Ports, ⟨a_Reg_Epoch, a_Reg_Owner, a_Reg_Pair⟩, (deS Minder a_Two), (deS Wire a_Net), (deS Bool a_Gates), (deS In a_Line), (deS Out a_Said)⟩ left).2.1, (o8 ⟨a_Id, a_Ports, ⟨a_Reg_Epoch, a_Reg_Owner, a_Reg_Pair⟩, (deS Minder a_Two), (deS Wire a_Net), (deS Bool a_Gates), (deS In a_Line), (deS Out a_Said)⟩ left).2.2)
  | _ => none

theorem r8 (a : Box) (left : Int) (n : Nat) : evFn ⟨Go.Proofs.Try.prog, Hx, 8⟩ T38.call n Go.Proofs.Try.f8 [[.int .i64 a.Id, .int .i64 a.Ports, .int .i64 a.Reg.Epoch, .int .i64 a.Reg.Owner, .int .i64 a.Reg.Pair, .sl false 7 (enS false a.Two), .sl false 12 (enS false a.Net), .sl false 1 (enS false a.Gates), .sl false 8 (enS false a.Line), .sl false 8 (enS false a.Said)], [.int .i64 left]] = bif isS Minder false (enS false (Box.Two a)) && (decide (0 ≤ left) && (decide (left ≤ 1048576) && (decide (List.length (deS Minder (enS false (Box.Two a))) ≤ 9223372036854775807) && List.all (deS Minder (enS false (Box.Two a))) Minder.big))) then bif decide (szR (Int.ofNat (List.length (deS Minder (enS false (Box.Two a)))) + cntS Minder.wt (deS Minder (enS false (Box.Two a)))) left < 0) then some ([[D.int IntKind.i64 (Int.negSucc 0)]], []) else bif isS Wire false (enS false (Box.Net a)) && (decide (0 ≤ szR (Int.ofNat (List.length (deS Minder (enS false (Box.Two a)))) + cntS Minder.wt (deS Minder (enS false (Box.Two a)))) left) && (decide (szR (Int.ofNat (List.length (deS Minder (enS false (Box.Two a)))) + cntS Minder.wt (deS Minder (enS false (Box.Two a)))) left ≤ 1048576) && decide (List.length (deS Wire (enS false (Box.Net a))) ≤ 9223372036854775807))) then bif decide (szR (Int.ofNat (List.length (deS Wire (enS false (Box.Net a))))) (szR (Int.ofNat (List.length (deS Minder (enS false (Box.Two a)))) + cntS Minder.wt (deS Minder (enS false (Box.Two a)))) left) < 0) then some ([[D.int IntKind.i64 (Int.negSucc 0)]], []) else bif isS Bool false (enS false (Box.Gates a)) && (decide (0 ≤ szR (Int.ofNat (List.length (deS Wire (enS false (Box.Net a))))) (szR (Int.ofNat (List.length (deS Minder (enS false (Box.Two a)))) + cntS Minder.wt (deS Minder (enS false (Box.Two a)))) left)) && (decide (szR (Int.ofNat (List.length (deS Wire (enS false (Box.Net a))))) (szR (Int.ofNat (List.length (deS Minder (enS false (Box.Two a)))) + cntS Minder.wt (deS Minder (enS false (Box.Two a)))) left) ≤ 1048576) && decide (List.length (deS Bool (enS false (Box.Gates a))) ≤ 9223372036854775807))) then bif decide (szR (Int.ofNat (List.length (deS Bool (enS false (Box.Gates a))))) (szR (Int.ofNat (List.length (deS Wire (enS false (Box.Net a))))) (szR (Int.ofNat (List.length (deS Minder (enS false (Box.Two a)))) + cntS Minder.wt (deS Minder (enS false (Box.Two a)))) left)) < 0) then some ([[D.int IntKind.i64 (Int.negSucc 0)]], []) else bif isS In false (enS false (Box.Line a)) && (decide (0 ≤ szR (Int.ofNat (List.length (deS Bool (enS false (Box.Gates a))))) (szR (Int.ofNat (List.length (deS Wire (enS false (Box.Net a))))) (szR (Int.ofNat (List.length (deS Minder (enS false (Box.Two a)))) + cntS Minder.wt (deS Minder (enS false (Box.Two a)))) left))) && (decide (szR (Int.ofNat (List.length (deS Bool (enS false (Box.Gates a))))) (szR (Int.ofNat (List.length (deS Wire (enS false (Box.Net a))))) (szR (Int.ofNat (List.length (deS Minder (enS false (Box.Two a)))) + cntS Minder.wt (deS Minder (enS false (Box.Two a)))) left)) ≤ 1048576) && decide (List.length (deS In (enS false (Box.Line a))) ≤ 9223372036854775807))) then bif decide (szR (Int.ofNat (List.length (deS In (enS false (Box.Line a))))) (szR (Int.ofNat (List.length (deS Bool (enS false (Box.Gates a))))) (szR (Int.ofNat (List.length (deS Wire (enS false (Box.Net a))))) (szR (Int.ofNat (List.length (deS Minder (enS false (Box.Two a)))) + cntS Minder.wt (deS Minder (enS false (Box.Two a)))) left))) < 0) then some ([[D.int IntKind.i64 (Int.negSucc 0)]], []) else bif isS Out false (enS false (Box.Said a)) && (decide (0 ≤ szR (Int.ofNat (List.length (deS In (enS false (Box.Line a))))) (szR (Int.ofNat (List.length (deS Bool (enS false (Box.Gates a))))) (szR (Int.ofNat (List.length (deS Wire (enS false (Box.Net a))))) (szR (Int.ofNat (List.length (deS Minder (enS false (Box.Two a)))) + cntS Minder.wt (deS Minder (enS false (Box.Two a)))) left)))) && (decide (szR (Int.ofNat (List.length (deS In (enS false (Box.Line a))))) (szR (Int.ofNat (List.length (deS Bool (enS false (Box.Gates a))))) (szR (Int.ofNat (List.length (deS Wire (enS false (Box.Net a))))) (szR (Int.ofNat (List.length (deS Minder (enS false (Box.Two a)))) + cntS Minder.wt (deS Minder (enS false (Box.Two a)))) left))) ≤ 1048576) && decide (List.length (deS Out (enS false (Box.Said a))) ≤ 9223372036854775807))) then bif decide (szR (Int.ofNat (List.length (deS Out (enS false (Box.Said a))))) (szR (Int.ofNat (List.length (deS In (enS false (Box.Line a))))) (szR (Int.ofNat (List.length (deS Bool (enS false (Box.Gates a))))) (szR (Int.ofNat (List.length (deS Wire (enS false (Box.Net a))))) (szR (Int.ofNat (List.length (deS Minder (enS false (Box.Two a)))) + cntS Minder.wt (deS Minder (enS false (Box.Two a)))) left)))) < 0) then some ([[D.int IntKind.i64 (Int.negSucc 0)]], []) else some ([[D.int IntKind.i64 (szR (Int.ofNat (List.length (deS Out (enS false (Box.Said a))))) (szR (Int.ofNat (List.length (deS In (enS false (Box.Line a))))) (szR (Int.ofNat (List.length (deS Bool (enS false (Box.Gates a))))) (szR (Int.ofNat (List.length (deS Wire (enS false (Box.Net a))))) (szR (Int.ofNat (List.length (deS Minder (enS false (Box.Two a)))) + cntS Minder.wt (deS Minder (enS false (Box.Two a)))) left)))))]], []) else none else none else none else none else none := by kernel_rfl
theorem m8 (a : Box) (left : Int) (hpre : (o8 a left).1 = true) : evFn ⟨Go.Proofs.Try.prog, Hx, 8⟩ T38.call 0 Go.Proofs.Try.f8 [[.int .i64 a.Id, .int .i64 a.Ports, .int .i64 a.Reg.Epoch, .int .i64 a.Reg.Owner, .int .i64 a.Reg.Pair, .sl false 7 (enS false a.Two), .sl false 12 (enS false a.Net), .sl false 1 (enS false a.Gates), .sl false 8 (enS false a.Line), .sl false 8 (enS false a.Said)], [.int .i64 left]] = some (o8 a left).2 := by
  refine (r8 a left _).trans ?_
  show _ = (some ([[.int .i64 (szR (Box.wt a) left)]], []) : Option (List Row × List Row))
  replace hpre : (decide (0 ≤ left) && (decide (left ≤ 1048576) && Box.big a)) = true := hpre
  simp only [Bool.and_eq_true, decide_eq_true_eq] at hpre
  obtain ⟨h0, h1, h2⟩ := hpre
  unfold Box.big at h2
  try simp only [Bool.and_eq_true] at h2
  unfold Box.wt
  have p0 : 0 ≤ ((a.Two.length : Int) + cntS Minder.wt a.Two) := by have := cntS_nonneg (n := Minder.wt) Minder.wt_pos a.Two; omega
  have p1 : 0 ≤ (a.Net.length : Int) := by omega
  have p2 : 0 ≤ (a.Gates.length : Int) := by omega
  have p3 : 0 ≤ (a.Line.length : Int) := by omega
  have p4 : 0 ≤ (a.Said.length : Int) := by omega
  have g0 : decide (0 ≤ left) = true := decide_eq_true (by omega)
  have f0 : decide (left ≤ 1048576) = true := decide_eq_true (by omega)
  rcases szR_cases (((a.Two.length : Int) + cntS Minder.wt a.Two)) (left) (by omega) with ⟨a0, b0, c0⟩ | ⟨a0, b0, c0⟩
  case inr =>
    rw [b0] at c0
    simp only [g0, f0, b0, c0, h2, Int.ofNat_eq_natCast, isS_enS, deS_enS, cond_true, cond_false, Bool.and_self, Bool.and_true, Bool.true_and]
    try rw [szR_gt (by omega)]
    try rfl
  rw [b0] at c0
  have g1 : decide (0 ≤ left - ((a.Two.length : Int) + cntS Minder.wt a.Two)) = true := decide_eq_true (by omega)
  have f1 : decide (left - ((a.Two.length : Int) + cntS Minder.wt a.Two) ≤ 1048576) = true := decide_eq_true (by omega)
  rcases szR_cases ((a.Net.length : Int)) (left - ((a.Two.length : Int) + cntS Minder.wt a.Two)) (by omega) with ⟨a1, b1, c1⟩ | ⟨a1, b1, c1⟩
  case inr =>
    rw [b1] at c1
    simp only [g0, f0, b0, c0, g1, f1, b1, c1, h2, Int.ofNat_eq_natCast, isS_enS, deS_enS, cond_true, cond_false, Bool.and_self, Bool.and_true, Bool.true_and]
    try rw [szR_gt (by omega)]
    try rfl
  rw [b1] at c1
  have g2 : decide (0 ≤ left - ((a.Two.length : Int) + cntS Minder.wt a.Two) - (a.Net.length : Int)) = true := decide_eq_true (by omega)
  have f2 : decide (left - ((a.Two.length : Int) + cntS Minder.wt a.Two) - (a.Net.length : Int) ≤ 1048576) = true := decide_eq_true (by omega)
  rcases szR_cases ((a.Gates.length : Int)) (left - ((a.Two.length : Int) + cntS Minder.wt a.Two) - (a.Net.length : Int)) (by omega) with ⟨a2, b2, c2⟩ | ⟨a2, b2, c2⟩
  case inr =>
    rw [b2] at c2
    simp only [g0, f0, b0, c0, g1, f1, b1, c1, g2, f2, b2, c2, h2, Int.ofNat_eq_natCast, isS_enS, deS_enS, cond_true, cond_false, Bool.and_self, Bool.and_true, Bool.true_and]
    try rw [szR_gt (by omega)]
    try rfl
  rw [b2] at c2
  have g3 : decide (0 ≤ left - ((a.Two.length : Int) + cntS Minder.wt a.Two) - (a.Net.length : Int) - (a.Gates.length : Int)) = true := decide_eq_true (by omega)
  have f3 : decide (left - ((a.Two.length : Int) + cntS Minder.wt a.Two) - (a.Net.length : Int) - (a.Gates.length : Int) ≤ 1048576) = true := decide_eq_true (by omega)
  rcases szR_cases ((a.Line.length : Int)) (left - ((a.Two.length : Int) + cntS Minder.wt a.Two) - (a.Net.length : Int) - (a.Gates.length : Int)) (by omega) with ⟨a3, b3, c3⟩ | ⟨a3, b3, c3⟩
  case inr =>
    rw [b3] at c3
    simp only [g0, f0, b0, c0, g1, f1, b1, c1, g2, f2, b2, c2, g3, f3, b3, c3, h2, Int.ofNat_eq_natCast, isS_enS, deS_enS, cond_true, cond_false, Bool.and_self, Bool.and_true, Bool.true_and]
    try rw [szR_gt (by omega)]
    try rfl
  rw [b3] at c3
  have g4 : decide (0 ≤ left - ((a.Two.length : Int) + cntS Minder.wt a.Two) - (a.Net.length : Int) - (a.Gates.length : Int) - (a.Line.length : Int)) = true := decide_eq_true (by omega)
  have f4 : decide (left - ((a.Two.length : Int) + cntS Minder.wt a.Two) - (a.Net.length : Int) - (a.Gates.length : Int) - (a.Line.length : Int) ≤ 1048576) = true := decide_eq_true (by omega)
  rcases szR_cases ((a.Said.length : Int)) (left - ((a.Two.length : Int) + cntS Minder.wt a.Two) - (a.Net.length : Int) - (a.Gates.length : Int) - (a.Line.length : Int)) (by omega) with ⟨a4, b4, c4⟩ | ⟨a4, b4, c4⟩
  case inr =>
    rw [b4] at c4
    simp only [g0, f0, b0, c0, g1, f1, b1, c1, g2, f2, b2, c2, g3, f3, b3, c3, g4, f4, b4, c4, h2, Int.ofNat_eq_natCast, isS_enS, deS_enS, cond_true, cond_false, Bool.and_self, Bool.and_true, Bool.true_and]
    try rw [szR_gt (by omega)]
    try rfl
  rw [b4] at c4
  simp only [g0, f0, b0, c0, g1, f1, b1, c1, g2, f2, b2, c2, g3, f3, b3, c3, g4, f4, b4, c4, h2, Int.ofNat_eq_natCast, isS_enS, deS_enS, cond_true, cond_false, Bool.and_self, Bool.and_true, Bool.true_and]
  try rw [szR_le (by omega)]
  try rfl
  try (refine congrArg (fun z => (some ([[D.int IntKind.i64 z]], []) : Option (List Row × List Row))) ?_; omega)
theorem s8 : SoundAt Go.Proofs.Try.prog Hx 8 c8 := soundAt_of T38_sound mixed Go.Proofs.Try.func8 (by kernel_rfl) (by
  intro rows r h
  unfold c8 at h
  split at h
  · rename_i a_Id a_Ports a_Reg_Epoch a_Reg_Owner a_Reg_Pair a_Two a_Net a_Gates a_Line a_Said left
    obtain ⟨hp, hr⟩ := Prod.mk.inj (Option.some.inj h)
    subst hr
    simp only [Bool.and_eq_true] at hp
    obtain ⟨⟨⟨⟨⟨hs0, hs1⟩, hs2⟩, hs3⟩, hs4⟩, hp⟩ := hp
    obtain ⟨xs0, rfl⟩ := isS_ex hs0
    obtain ⟨xs1, rfl⟩ := isS_ex hs1
    obtain ⟨xs2, rfl⟩ := isS_ex hs2
    obtain ⟨xs3, rfl⟩ := isS_ex hs3
    obtain ⟨xs4, rfl⟩ := isS_ex hs4
    simp only [deS_enS] at hp ⊢
    exact ⟨_, m8 ⟨a_Id, a_Ports, ⟨a_Reg_Epoch, a_Reg_Owner, a_Reg_Pair⟩, xs0, xs1, xs2, xs3, xs4⟩ left hp⟩
  · cases h)
def T8 : Table := (8, c8) :: T38
theorem T8_sound : Table.Sound Go.Proofs.Try.prog Hx T8 := Table.sound_cons s8 T38_sound
/- toReg -/
def o42 (a : Reg) : Bool × List Row × List Row := (true, [[.int .i64 (a).Epoch, .int .i64 (a).Owner, .int .i64 (a).Pair]], [])
def c42 : Contract
  | [[.int .i64 a_Epoch, .int .i64 a_Owner, .int .i64 a_Pair]] => some ((o42 ⟨a_Epoch, a_Owner, a_Pair⟩).1, (o42 ⟨a_Epoch, a_Owner, a_Pair⟩).2.1, (o42 ⟨a_Epoch, a_Owner, a_Pair⟩).2.2)
  | _ => none

theorem r42 (a : Reg) (n : Nat) : evFn ⟨Go.Proofs.Try.prog, Hx, 42⟩ T8.call n Go.Proofs.Try.f42 [[.int .i64 a.Epoch, .int .i64 a.Owner, .int .i64 a.Pair]] = some ([[D.int IntKind.i64 (Reg.Epoch a), D.int IntKind.i64 (Reg.Owner a), D.int IntKind.i64 (Reg.Pair a)]], []) := by kernel_rfl
theorem m42 (a : Reg) (hpre : (o42 a).1 = true) : evFn ⟨Go.Proofs.Try.prog, Hx, 42⟩ T8.call 0 Go.Proofs.Try.f42 [[.int .i64 a.Epoch, .int .i64 a.Owner, .int .i64 a.Pair]] = some (o42 a).2 := by
  refine (r42 a _).trans ?_
  show _ = (some ([[.int .i64 (a).Epoch, .int .i64 (a).Owner, .int .i64 (a).Pair]], []) : Option (List Row × List Row))
  replace hpre : (true) = true := hpre
  rfl
theorem s42 : SoundAt Go.Proofs.Try.prog Hx 42 c42 := soundAt_of T8_sound mixed Go.Proofs.Try.func42 (by kernel_rfl) (by
  intro rows r h
  unfold c42 at h
  split at h
  · rename_i a_Epoch a_Owner a_Pair
    obtain ⟨hp, hr⟩ := Prod.mk.inj (Option.some.inj h)
    subst hr
    exact ⟨_, m42 ⟨a_Epoch, a_Owner, a_Pair⟩ hp⟩
  · cases h)
def T42 : Table := (42, c42) :: T8
theorem T42_sound : Table.Sound Go.Proofs.Try.prog Hx T42 := Table.sound_cons s42 T8_sound
/- toVec -/
def o125 (a : Vec) : Bool × List Row × List Row := (true, [[.int .i64 (a).Root, .int .i64 (a).Cost, .int .i64 (a).Bridge, .int .i64 (a).Port]], [])
def c125 : Contract
  | [[.int .i64 a_Root, .int .i64 a_Cost, .int .i64 a_Bridge, .int .i64 a_Port]] => some ((o125 ⟨a_Root, a_Cost, a_Bridge, a_Port⟩).1, (o125 ⟨a_Root, a_Cost, a_Bridge, a_Port⟩).2.1, (o125 ⟨a_Root, a_Cost, a_Bridge, a_Port⟩).2.2)
  | _ => none

theorem r125 (a : Vec) (n : Nat) : evFn ⟨Go.Proofs.Try.prog, Hx, 125⟩ T42.call n Go.Proofs.Try.f125 [[.int .i64 a.Root, .int .i64 a.Cost, .int .i64 a.Bridge, .int .i64 a.Port]] = some ([[D.int IntKind.i64 (Vec.Root a), D.int IntKind.i64 (Vec.Cost a), D.int IntKind.i64 (Vec.Bridge a), D.int IntKind.i64 (Vec.Port a)]], []) := by kernel_rfl
theorem m125 (a : Vec) (hpre : (o125 a).1 = true) : evFn ⟨Go.Proofs.Try.prog, Hx, 125⟩ T42.call 0 Go.Proofs.Try.f125 [[.int .i64 a.Root, .int .i64 a.Cost, .int .i64 a.Bridge, .int .i64 a.Port]] = some (o125 a).2 := by
  refine (r125 a _).trans ?_
  show _ = (some ([[.int .i64 (a).Root, .int .i64 (a).Cost, .int .i64 (a).Bridge, .int .i64 (a).Port]], []) : Option (List Row × List Row))
  replace hpre : (true) = true := hpre
  rfl
theorem s125 : SoundAt Go.Proofs.Try.prog Hx 125 c125 := soundAt_of T42_sound mixed Go.Proofs.Try.func125 (by kernel_rfl) (by
  intro rows r h
  unfold c125 at h
  split at h
  · rename_i a_Root a_Cost a_Bridge a_Port
    obtain ⟨hp, hr⟩ := Prod.mk.inj (Option.some.inj h)
    subst hr
    exact ⟨_, m125 ⟨a_Root, a_Cost, a_Bridge, a_Port⟩ hp⟩
  · cases h)
def T125 : Table := (125, c125) :: T42
theorem T125_sound : Table.Sound Go.Proofs.Try.prog Hx T125 := Table.sound_cons s125 T42_sound
/- toIn -/
def o78 (a : In) : Bool × List Row × List Row := (true, [[.int .i64 (a).Kind, .int .i64 (a).Port, .int .i64 (a).Vec.Root, .int .i64 (a).Vec.Cost, .int .i64 (a).Vec.Bridge, .int .i64 (a).Vec.Port, .int .i64 (a).Hops, .bool (a).Up]], [])
def c78 : Contract
  | [[.int .i64 a_Kind, .int .i64 a_Port, .int .i64 a_Vec_Root, .int .i64 a_Vec_Cost, .int .i64 a_Vec_Bridge, .int .i64 a_Vec_Port, .int .i64 a_Hops, .bool a_Up]] => some ((o78 ⟨a_Kind, a_Port, ⟨a_Vec_Root, a_Vec_Cost, a_Vec_Bridge, a_Vec_Port⟩, a_Hops, a_Up⟩).1, (o78 ⟨a_Kind, a_Port, ⟨a_Vec_Root, a_Vec_Cost, a_Vec_Bridge, a_Vec_Port⟩, a_Hops, a_Up⟩).2.1, (o78 ⟨a_Kind, a_Port, ⟨a_Vec_Root, a_Vec_Cost, a_Vec_Bridge, a_Vec_Port⟩, a_Hops, a_Up⟩).2.2)
  | _ => none

theorem r78 (a : In) (n : Nat) : evFn ⟨Go.Proofs.Try.prog, Hx, 78⟩ T125.call n Go.Proofs.Try.f78 [[.int .i64 a.Kind, .int .i64 a.Port, .int .i64 a.Vec.Root, .int .i64 a.Vec.Cost, .int .i64 a.Vec.Bridge, .int .i64 a.Vec.Port, .int .i64 a.Hops, .bool a.Up]] = some ([[D.int IntKind.i64 (In.Kind a), D.int IntKind.i64 (In.Port a), D.int IntKind.i64 (Vec.Root (In.Vec a)), D.int IntKind.i64 (Vec.Cost (In.Vec a)), D.int IntKind.i64 (Vec.Bridge (In.Vec a)), D.int IntKind.i64 (Vec.Port (In.Vec a)), D.int IntKind.i64 (In.Hops a), D.bool (In.Up a)]], []) := by kernel_rfl
theorem m78 (a : In) (hpre : (o78 a).1 = true) : evFn ⟨Go.Proofs.Try.prog, Hx, 78⟩ T125.call 0 Go.Proofs.Try.f78 [[.int .i64 a.Kind, .int .i64 a.Port, .int .i64 a.Vec.Root, .int .i64 a.Vec.Cost, .int .i64 a.Vec.Bridge, .int .i64 a.Vec.Port, .int .i64 a.Hops, .bool a.Up]] = some (o78 a).2 := by
  refine (r78 a _).trans ?_
  show _ = (some ([[.int .i64 (a).Kind, .int .i64 (a).Port, .int .i64 (a).Vec.Root, .int .i64 (a).Vec.Cost, .int .i64 (a).Vec.Bridge, .int .i64 (a).Vec.Port, .int .i64 (a).Hops, .bool (a).Up]], []) : Option (List Row × List Row))
  replace hpre : (true) = true := hpre
  rfl
theorem s78 : SoundAt Go.Proofs.Try.prog Hx 78 c78 := soundAt_of T125_sound mixed Go.Proofs.Try.func78 (by kernel_rfl) (by
  intro rows r h
  unfold c78 at h
  split at h
  · rename_i a_Kind a_Port a_Vec_Root a_Vec_Cost a_Vec_Bridge a_Vec_Port a_Hops a_Up
    obtain ⟨hp, hr⟩ := Prod.mk.inj (Option.some.inj h)
    subst hr
    exact ⟨_, m78 ⟨a_Kind, a_Port, ⟨a_Vec_Root, a_Vec_Cost, a_Vec_Bridge, a_Vec_Port⟩, a_Hops, a_Up⟩ hp⟩
  · cases h)
def T78 : Table := (78, c78) :: T125
theorem T78_sound : Table.Sound Go.Proofs.Try.prog Hx T78 := Table.sound_cons s78 T125_sound
/- toInS -/
def o28 (a : List In) : Bool × List Row × List Row := (decide (a.length ≤ 1048576), [[.sl true 8 (enS true (a))]], [])
def c28 : Contract
  | [[.sl false 8 a]] => some (isS In false a && (o28 (deS In a)).1, (o28 (deS In a)).2.1, (o28 (deS In a)).2.2)
  | _ => none

noncomputable def k28_0 (n : Nat) : Ex → St → Option (List Row × List Row) := kThen (fun st ↦ runCode (Ctx.mk Go.Proofs.Try.prog Hx (28)) (Table.call T78) n (codeAt [1, 1, 1] (bodyOf Go.Proofs.Try.f28)) (Lv.mk 4 [] 4) st (kLeave (Ctx.P (Ctx.mk Go.Proofs.Try.prog Hx (28))) (List.zip (Array.toList (Go.Func.resultTypes Go.Proofs.Try.f28)) (Array.toList (Go.Func.results Go.Proofs.Try.f28))) [] [])) (kLeave (Ctx.P (Ctx.mk Go.Proofs.Try.prog Hx (28))) (List.zip (Array.toList (Go.Func.resultTypes Go.Proofs.Try.f28)) (Array.toList (Go.Func.results Go.Proofs.Try.f28))) [] [])
noncomputable def k28_1 (n : Nat) : Ex → St → Option (List Row × List Row) := kBlock (0) (k28_0 n)
noncomputable def S28_0 (a : List In) (i0 : Int) (es1 : List (List D)) : St := St.mk [TV.v false [C.d (D.sl false 8 (enS false a))], TV.v false [C.undef], TV.v false [C.undef], TV.v false [C.view 0 0 0 [] 8 none], TV.v false [C.d (D.int IntKind.i64 i0)], TV.v false [C.undef], TV.v false [C.undef], TV.v false [C.undef], TV.v false [C.undef], TV.v false [C.undef], TV.v false [C.undef], TV.v false [C.undef], TV.v false [C.undef], TV.v false [C.undef], TV.v false [C.undef], TV.v false [C.undef], TV.v false [C.undef], TV.v false [C.undef], TV.v false [C.undef], TV.v false [C.undef], TV.v false [C.undef], TV.v false [C.undef], TV.v false [C.undef]] [Root.mk false 8 es1 0 0 true true]
noncomputable def B28_0 (n : Nat) : St → (Ex → St → Option (List Row × List Row)) → Option (List Row × List Row) := runCode (Ctx.mk Go.Proofs.Try.prog Hx (28)) (Table.call T78) n (codeAt [1, 1, 0, 1, 0, 0] (bodyOf Go.Proofs.Try.f28)) (Lv.mk 0 [(0, 8)] 4)
noncomputable def X28_2 (a : List In) (i0 : Int) (es1 : List (List D)) : St := St.mk [TV.v false [C.d (D.sl false 8 (enS false a))], TV.v false [C.undef], TV.v false [C.undef], TV.v false [C.view 0 0 0 [] 8 none], TV.v false [C.d (D.int IntKind.i64 i0)], TV.v false [C.undef], TV.v false [C.undef], TV.v false [C.undef], TV.v false [C.d (D.int IntKind.i64 i0)], TV.v false [C.d (D.sl false 8 (enS false a))], TV.v false [C.d (D.int IntKind.i64 (Int.ofNat (List.length (enS false a))))], TV.v false [C.d (D.bool false)], TV.v false [C.undef], TV.v false [C.undef], TV.v false [C.undef], TV.v false [C.undef], TV.v false [C.undef], TV.v false [C.undef], TV.v false [C.undef], TV.v false [C.undef], TV.v false [C.undef], TV.v false [C.undef], TV.v false [C.undef]] [Root.mk false 8 es1 0 0 true true]
theorem q28_0 (a : List In) (n : Nat) (i0 : Int) (es1 : List (List D)) (f : St → Option (List Row × List Row)) (K : Ex → St → Option (List Row × List Row)) : B28_0 n (S28_0 a i0 es1) (@kThen (List Row × List Row) (fun st ↦ f (St.head 1 25 4194064 st)) K) = bif decide (i0 < Int.ofNat (List.length (enS false a))) then bif decide (0 ≤ i0) && decide (i0 < Int.ofNat (List.length (enS false a))) then bif Leaf.fit false (Leaf.int IntKind.i64) (List.getD (List.getD (enS false a) (Int.toNat i0) []) 0 D.dead) && (Leaf.fit false (Leaf.int IntKind.i64) (List.getD (List.getD (enS false a) (Int.toNat i0) []) 1 D.dead) && (Leaf.fit false (Leaf.int IntKind.i64) (List.getD (List.getD (enS false a) (Int.toNat i0) []) 2 D.dead) && (Leaf.fit false (Leaf.int IntKind.i64) (List.getD (List.getD (enS false a) (Int.toNat i0) []) 3 D.dead) && (Leaf.fit false (Leaf.int IntKind.i64) (List.getD (List.getD (enS false a) (Int.toNat i0) []) 4 D.dead) && (Leaf.fit false (Leaf.int IntKind.i64) (List.getD (List.getD (enS false a) (Int.toNat i0) []) 5 D.dead) && (Leaf.fit false (Leaf.int IntKind.i64) (List.getD (List.getD (enS false a) (Int.toNat i0) []) 6 D.dead) && (Leaf.fit false Leaf.bool (List.getD (List.getD (enS false a) (Int.toNat i0) []) 7 D.dead) && true))))))) then bif decide (0 ≤ i0) && decide (i0 < Int.ofNat (List.length es1)) then f (S28_0 a (IntKind.wrap IntKind.i64 (i0 + 1)) (List.set es1 (0 + Int.toNat i0) [D.int IntKind.i64 (D.num (List.getD (List.getD (enS false a) (Int.toNat i0) []) 0 D.dead)), D.int IntKind.i64 (D.num (List.getD (List.getD (enS false a) (Int.toNat i0) []) 1 D.dead)), D.int IntKind.i64 (D.num (List.getD (List.getD (enS false a) (Int.toNat i0) []) 2 D.dead)), D.int IntKind.i64 (D.num (List.getD (List.getD (enS false a) (Int.toNat i0) []) 3 D.dead)), D.int IntKind.i64 (D.num (List.getD (List.getD (enS false a) (Int.toNat i0) []) 4 D.dead)), D.int IntKind.i64 (D.num (List.getD (List.getD (enS false a) (Int.toNat i0) []) 5 D.dead)), D.int IntKind.i64 (D.num (List.getD (List.getD (enS false a) (Int.toNat i0) []) 6 D.dead)), D.bool (D.flag (List.getD (List.getD (enS false a) (Int.toNat i0) []) 7 D.dead))])) else none else none else none else K (Ex.exit 0) (X28_2 a i0 es1) := by kernel_rfl
theorem aX28_2 (a : List In) (n : Nat) (i0 : Int) (es1 : List (List D)) : k28_1 n (Ex.exit 0) (X28_2 a i0 es1) = some ([[D.sl true 8 es1]], []) := by kernel_rfl
theorem r28 (a : List In) (n : Nat) : evFn ⟨Go.Proofs.Try.prog, Hx, 28⟩ T78.call n Go.Proofs.Try.f28 [[.sl false 8 (enS false a)]] = bif decide (0 ≤ Int.ofNat (List.length (enS false a))) && (decide (Int.ofNat (List.length (enS false a)) ≤ Int.ofNat (List.length (enS false a))) && decide (Int.toNat (Int.ofNat (List.length (enS false a))) * 64 ≤ 140737488355328)) then loopRun (B28_0 n) 1 25 4194064 n (S28_0 a (0) (List.replicate (Int.toNat (Int.ofNat (List.length (enS false a)))) [D.int IntKind.i64 (0), D.int IntKind.i64 (0), D.int IntKind.i64 (0), D.int IntKind.i64 (0), D.int IntKind.i64 (0), D.int IntKind.i64 (0), D.int IntKind.i64 (0), D.bool false])) (k28_1 n) else none := by kernel_rfl
theorem m28 (a : List In) (hpre : (o28 a).1 = true) : evFn ⟨Go.Proofs.Try.prog, Hx, 28⟩ T78.call (a.length + 1) Go.Proofs.Try.f28 [[.sl false 8 (enS false a)]] = some (o28 a).2 := by
  refine (r28 a _).trans ?_
  show _ = (some ([[.sl true 8 (enS true (a))]], []) : Option (List Row × List Row))
  replace hpre : (decide (a.length ≤ 1048576)) = true := hpre
  have hlen : a.length ≤ 1048576 := of_decide_eq_true hpre
  rw [enS_length, make_ok (by omega), cond_true, toNat_of]
  refine (congrArg (fun z => loopRun _ _ _ _ _ (S28_0 a 0 z) _) (enS_rep true a.length (En.nil : In))).trans ?_
  refine loop_list (xs := a) (fun i (ys : List In) => S28_0 a (Int.ofNat i) (enS true ys)) (fun i ys => ys.length = a.length ∧ ys.take i = a.take i) (fun _ _ _ => some ([[D.sl true 8 (enS true a)]], [])) ?_ ?_ (a.length + 1) _ (by omega) ⟨List.length_replicate .., rfl⟩
  · rintro ys ⟨h2, h3⟩ f
    refine (q28_0 a _ _ _ f _).trans ?_
    simp only [enS_length, dec_lt, Nat.lt_irrefl, decide_false, cond_false]
    refine (aX28_2 a _ _ _).trans ?_
    rw [List.take_length, ← h2, List.take_length] at h3
    subst h3
    rfl
  · rintro i ys hi ⟨h2, h3⟩ f hf
    refine (q28_0 a _ _ _ f _).trans ?_
    simp only [enS_length, toNat_of, dec_lt, dec_ge, enS_get _ hi, h2, hi, wrap_succ (show i < 4611686018427387904 by omega), Nat.zero_add, decide_true, cond_true, Bool.and_self]
    exact (congrArg f (congrArg (S28_0 a _) (enS_set true ys i a[i]))).trans (hf (ys.set i a[i]) ⟨by rw [List.length_set]; exact h2, take_set_succ hi h2 h3⟩)
theorem s28 : SoundAt Go.Proofs.Try.prog Hx 28 c28 := soundAt_of T78_sound mixed Go.Proofs.Try.func28 (by kernel_rfl) (by
  intro rows r h
  unfold c28 at h
  split at h
  · rename_i a
    obtain ⟨hp, hr⟩ := Prod.mk.inj (Option.some.inj h)
    subst hr
    simp only [Bool.and_eq_true] at hp
    obtain ⟨hs0, hp⟩ := hp
    obtain ⟨xs0, rfl⟩ := isS_ex hs0
    simp only [deS_enS] at hp ⊢
    exact ⟨_, m28 xs0 hp⟩
  · cases h)
def T28 : Table := (28, c28) :: T78
theorem T28_sound : Table.Sound Go.Proofs.Try.prog Hx T28 := Table.sound_cons s28 T78_sound
/- toMinder -/
def o92 (a : Minder) : Bool × List Row × List Row := (Minder.small a, [[.bool (a).Up, .int .i64 (a).Life, .int .i64 (a).Epoch, .sl true 8 (enS true (a).Log), .int .i64 (a).Said, .int .i64 (a).Acked, .int .i64 (a).AckLife]], [])
def c92 : Contract
  | [[.bool a_Up, .int .i64 a_Life, .int .i64 a_Epoch, .sl false 8 a_Log, .int .i64 a_Said, .int .i64 a_Acked, .int .i64 a_AckLife]] => some (isS In false a_Log && (o92 ⟨a_Up, a_Life, a_Epoch, (deS In a_Log), a_Said, a_Acked, a_AckLife⟩).1, (o92 ⟨a_Up, a_Life, a_Epoch, (deS In a_Log), a_Said, a_Acked, a_AckLife⟩).2.1, (o92 ⟨a_Up, a_Life, a_Epoch, (deS In a_Log), a_Said, a_Acked, a_AckLife⟩).2.2)
  | _ => none

theorem r92 (a : Minder) (n : Nat) : evFn ⟨Go.Proofs.Try.prog, Hx, 92⟩ T28.call n Go.Proofs.Try.f92 [[.bool a.Up, .int .i64 a.Life, .int .i64 a.Epoch, .sl false 8 (enS false a.Log), .int .i64 a.Said, .int .i64 a.Acked, .int .i64 a.AckLife]] = bif isS In false (enS false (Minder.Log a)) && decide (List.length (deS In (enS false (Minder.Log a))) ≤ 1048576) then some ([[D.bool (Minder.Up a), D.int IntKind.i64 (Minder.Life a), D.int IntKind.i64 (Minder.Epoch a), D.sl true 8 (enS true (deS In (enS false (Minder.Log a)))), D.int IntKind.i64 (Minder.Said a), D.int IntKind.i64 (Minder.Acked a), D.int IntKind.i64 (Minder.AckLife a)]], []) else none := by kernel_rfl
theorem m92 (a : Minder) (hpre : (o92 a).1 = true) : evFn ⟨Go.Proofs.Try.prog, Hx, 92⟩ T28.call 0 Go.Proofs.Try.f92 [[.bool a.Up, .int .i64 a.Life, .int .i64 a.Epoch, .sl false 8 (enS false a.Log), .int .i64 a.Said, .int .i64 a.Acked, .int .i64 a.AckLife]] = some (o92 a).2 := by
  refine (r92 a _).trans ?_
  show _ = (some ([[.bool (a).Up, .int .i64 (a).Life, .int .i64 (a).Epoch, .sl true 8 (enS true (a).Log), .int .i64 (a).Said, .int .i64 (a).Acked, .int .i64 (a).AckLife]], []) : Option (List Row × List Row))
  replace hpre : (Minder.small a) = true := hpre
  unfold Minder.small at hpre
  try simp only [Bool.and_eq_true] at hpre
  simp only [hpre, isS_enS, deS_enS, cond_true, Bool.and_self, Bool.and_true, Bool.true_and]
  try rfl
theorem s92 : SoundAt Go.Proofs.Try.prog Hx 92 c92 := soundAt_of T28_sound mixed Go.Proofs.Try.func92 (by kernel_rfl) (by
  intro rows r h
  unfold c92 at h
  split at h
  · rename_i a_Up a_Life a_Epoch a_Log a_Said a_Acked a_AckLife
    obtain ⟨hp, hr⟩ := Prod.mk.inj (Option.some.inj h)
    subst hr
    simp only [Bool.and_eq_true] at hp
    obtain ⟨hs0, hp⟩ := hp
    obtain ⟨xs0, rfl⟩ := isS_ex hs0
    simp only [deS_enS] at hp ⊢
    exact ⟨_, m92 ⟨a_Up, a_Life, a_Epoch, xs0, a_Said, a_Acked, a_AckLife⟩ hp⟩
  · cases h)
def T92 : Table := (92, c92) :: T28
theorem T92_sound : Table.Sound Go.Proofs.Try.prog Hx T92 := Table.sound_cons s92 T28_sound
/- toMinderS -/
def o43 (a : List Minder) : Bool × List Row × List Row := ((decide (a.length ≤ 1048576) && a.all Minder.small), [[.sl true 7 (enS true (a))]], [])
def c43 : Contract
  | [[.sl false 7 a]] => some (isS Minder false a && (o43 (deS Minder a)).1, (o43 (deS Minder a)).2.1, (o43 (deS Minder a)).2.2)
  | _ => none

noncomputable def k43_0 (n : Nat) : Ex → St → Option (List Row × List Row) := kThen (fun st ↦ runCode (Ctx.mk Go.Proofs.Try.prog Hx (43)) (Table.call T92) n (codeAt [1, 1, 1] (bodyOf Go.Proofs.Try.f43)) (Lv.mk 4 [] 4) st (kLeave (Ctx.P (Ctx.mk Go.Proofs.Try.prog Hx (43))) (List.zip (Array.toList (Go.Func.resultTypes Go.Proofs.Try.f43)) (Array.toList (Go.Func.results Go.Proofs.Try.f43))) [] [])) (kLeave (Ctx.P (Ctx.mk Go.Proofs.Try.prog Hx (43))) (List.zip (Array.toList (Go.Func.resultTypes Go.Proofs.Try.f43)) (Array.toList (Go.Func.results Go.Proofs.Try.f43))) [] [])
noncomputable def k43_1 (n : Nat) : Ex → St → Option (List Row × List Row) := kBlock (0) (k43_0 n)
noncomputable def S43_0 (a : List Minder) (i0 : Int) (es1 : List (List D)) : St := St.mk [TV.v false [C.d (D.sl false 7 (enS false a))], TV.v false [C.undef], TV.v false [C.undef], TV.v false [C.view 0 0 0 [] 7 none], TV.v false [C.d (D.int IntKind.i64 i0)], TV.v false [C.undef], TV.v false [C.undef], TV.v false [C.undef], TV.v false [C.undef], TV.v false [C.undef], TV.v false [C.undef], TV.v false [C.undef], TV.v false [C.undef], TV.v false [C.undef], TV.v false [C.undef], TV.v false [C.undef], TV.v false [C.undef], TV.v false [C.undef], TV.v false [C.undef], TV.v false [C.undef], TV.v false [C.undef], TV.v false [C.undef], TV.v false [C.undef]] [Root.mk false 7 es1 0 0 true true]
noncomputable def B43_0 (n : Nat) : St → (Ex → St → Option (List Row × List Row)) → Option (List Row × List Row) := runCode (Ctx.mk Go.Proofs.Try.prog Hx (43)) (Table.call T92) n (codeAt [1, 1, 0, 1, 0, 0] (bodyOf Go.Proofs.Try.f43)) (Lv.mk 0 [(0, 8)] 4)
noncomputable def X43_2 (a : List Minder) (i0 : Int) (es1 : List (List D)) : St := St.mk [TV.v false [C.d (D.sl false 7 (enS false a))], TV.v false [C.undef], TV.v false [C.undef], TV.v false [C.view 0 0 0 [] 7 none], TV.v false [C.d (D.int IntKind.i64 i0)], TV.v false [C.undef], TV.v false [C.undef], TV.v false [C.undef], TV.v false [C.d (D.int IntKind.i64 i0)], TV.v false [C.d (D.sl false 7 (enS false a))], TV.v false [C.d (D.int IntKind.i64 (Int.ofNat (List.length (enS false a))))], TV.v false [C.d (D.bool false)], TV.v false [C.undef], TV.v false [C.undef], TV.v false [C.undef], TV.v false [C.undef], TV.v false [C.undef], TV.v false [C.undef], TV.v false [C.undef], TV.v false [C.undef], TV.v false [C.undef], TV.v false [C.undef], TV.v false [C.undef]] [Root.mk false 7 es1 0 0 true true]
theorem q43_0 (a : List Minder) (n : Nat) (i0 : Int) (es1 : List (List D)) (f : St → Option (List Row × List Row)) (K : Ex → St → Option (List Row × List Row)) : B43_0 n (S43_0 a i0 es1) (@kThen (List Row × List Row) (fun st ↦ f (St.head 1 25 4194064 st)) K) = bif decide (i0 < Int.ofNat (List.length (enS false a))) then bif decide (0 ≤ i0) && decide (i0 < Int.ofNat (List.length (enS false a))) then bif Leaf.fit false Leaf.bool (List.getD (List.getD (enS false a) (Int.toNat i0) []) 0 D.dead) && (Leaf.fit false (Leaf.int IntKind.i64) (List.getD (List.getD (enS false a) (Int.toNat i0) []) 1 D.dead) && (Leaf.fit false (Leaf.int IntKind.i64) (List.getD (List.getD (enS false a) (Int.toNat i0) []) 2 D.dead) && (Leaf.fit false (Leaf.sl 8 true) (List.getD (List.getD (enS false a) (Int.toNat i0) []) 3 D.dead) && (Leaf.fit false (Leaf.int IntKind.i64) (List.getD (List.getD (enS false a) (Int.toNat i0) []) 4 D.dead) && (Leaf.fit false (Leaf.int IntKind.i64) (List.getD (List.getD (enS false a) (Int.toNat i0) []) 5 D.dead) && (Leaf.fit false (Leaf.int IntKind.i64) (List.getD (List.getD (enS false a) (Int.toNat i0) []) 6 D.dead) && true)))))) then bif isS In false (D.rows (List.getD (List.getD (enS false a) (Int.toNat i0) []) 3 D.dead)) && Minder.small (Minder.mk (D.flag (List.getD (List.getD (enS false a) (Int.toNat i0) []) 0 D.dead)) (D.num (List.getD (List.getD (enS false a) (Int.toNat i0) []) 1 D.dead)) (D.num (List.getD (List.getD (enS false a) (Int.toNat i0) []) 2 D.dead)) (deS In (D.rows (List.getD (List.getD (enS false a) (Int.toNat i0) []) 3 D.dead))) (D.num (List.getD (List.getD (enS false a) (Int.toNat i0) []) 4 D.dead)) (D.num (List.getD (List.getD (enS false a) (Int.toNat i0) []) 5 D.dead)) (D.num (List.getD (List.getD (enS false a) (Int.toNat i0) []) 6 D.dead))) then bif decide (0 ≤ i0) && decide (i0 < Int.ofNat (List.length es1)) then f (S43_0 a (IntKind.wrap IntKind.i64 (i0 + 1)) (List.set es1 (0 + Int.toNat i0) [D.bool (D.flag (List.getD (List.getD (enS false a) (Int.toNat i0) []) 0 D.dead)), D.int IntKind.i64 (D.num (List.getD (List.getD (enS false a) (Int.toNat i0) []) 1 D.dead)), D.int IntKind.i64 (D.num (List.getD (List.getD (enS false a) (Int.toNat i0) []) 2 D.dead)), D.sl true 8 (enS true (deS In (D.rows (List.getD (List.getD (enS false a) (Int.toNat i0) []) 3 D.dead)))), D.int IntKind.i64 (D.num (List.getD (List.getD (enS false a) (Int.toNat i0) []) 4 D.dead)), D.int IntKind.i64 (D.num (List.getD (List.getD (enS false a) (Int.toNat i0) []) 5 D.dead)), D.int IntKind.i64 (D.num (List.getD (List.getD (enS false a) (Int.toNat i0) []) 6 D.dead))])) else none else none else none else none else K (Ex.exit 0) (X43_2 a i0 es1) := by kernel_rfl
theorem aX43_2 (a : List Minder) (n : Nat) (i0 : Int) (es1 : List (List D)) : k43_1 n (Ex.exit 0) (X43_2 a i0 es1) = some ([[D.sl true 7 es1]], []) := by kernel_rfl
theorem r43 (a : List Minder) (n : Nat) : evFn ⟨Go.Proofs.Try.prog, Hx, 43⟩ T92.call n Go.Proofs.Try.f43 [[.sl false 7 (enS false a)]] = bif decide (0 ≤ Int.ofNat (List.length (enS false a))) && (decide (Int.ofNat (List.length (enS false a)) ≤ Int.ofNat (List.length (enS false a))) && decide (Int.toNat (Int.ofNat (List.length (enS false a))) * 72 ≤ 140737488355328)) then loopRun (B43_0 n) 1 25 4194064 n (S43_0 a (0) (List.replicate (Int.toNat (Int.ofNat (List.length (enS false a)))) [D.bool false, D.int IntKind.i64 (0), D.int IntKind.i64 (0), D.sl true 8 [], D.int IntKind.i64 (0), D.int IntKind.i64 (0), D.int IntKind.i64 (0)])) (k43_1 n) else none := by kernel_rfl
theorem m43 (a : List Minder) (hpre : (o43 a).1 = true) : evFn ⟨Go.Proofs.Try.prog, Hx, 43⟩ T92.call (a.length + 1) Go.Proofs.Try.f43 [[.sl false 7 (enS false a)]] = some (o43 a).2 := by
  refine (r43 a _).trans ?_
  show _ = (some ([[.sl true 7 (enS true (a))]], []) : Option (List Row × List Row))
  replace hpre : ((decide (a.length ≤ 1048576) && a.all Minder.small)) = true := hpre
  rw [Bool.and_eq_true] at hpre
  have hlen := of_decide_eq_true hpre.1
  rw [enS_length, make_ok (by omega), cond_true, toNat_of]
  refine (congrArg (fun z => loopRun _ _ _ _ _ (S43_0 a 0 z) _) (enS_rep true a.length (En.nil : Minder))).trans ?_
  refine loop_list (xs := a) (fun i (ys : List Minder) => S43_0 a (Int.ofNat i) (enS true ys)) (fun i ys => ys.length = a.length ∧ ys.take i = a.take i) (fun _ _ _ => some ([[D.sl true 7 (enS true a)]], [])) ?_ ?_ (a.length + 1) _ (by omega) ⟨List.length_replicate .., rfl⟩
  · rintro ys ⟨h2, h3⟩ f
    refine (q43_0 a _ _ _ f _).trans ?_
    rw [end_lt, cond_false]
    refine (aX43_2 a _ _ _).trans ?_
    rw [List.take_length, ← h2, List.take_length] at h3
    subst h3
    rfl
  · rintro i ys hi ⟨h2, h3⟩ f hf
    refine (q43_0 a _ _ _ f _).trans ?_
    have hel := List.all_eq_true.1 hpre.2 _ (List.getElem_mem hi)
    simp only [enS_length, toNat_of, dec_lt, dec_ge, decide_true, decide_false, cond_true, cond_false, Bool.and_self, Bool.and_true, Bool.true_and, Bool.not_true, Bool.not_false, Nat.lt_irrefl, Nat.zero_add, isS_enS, deS_enS, isS_nil, deS_nil, List.nil_append, lendRows_enS, deepRows_enS, noSl_u8, En.enc, List.getD_cons_zero, List.getD_cons_succ, D.num, D.flag, D.text, D.rows, Leaf.fit, List.append_eq, TReader.eta, Frame.eta, Heard.eta, Member.eta, Card.eta, Out1.eta, Vec.eta, Port.eta, Bridge.eta, In.eta, Out.eta, Link.eta, Net.eta, TEnd.eta, Minder.eta, Reg.eta, Wire.eta, Box.eta, Deed.eta, Bpdu.eta, Visit.eta, Fabric.eta, Got.eta, TRide.eta, Up.eta, Copy.eta, Bucket.eta, Snap.eta, TL9Cur.eta, TL21In.eta, enS_get _ hi, hi, wrap_succ (show i < 4611686018427387904 by omega), h2, hel]
    exact (congrArg f (congrArg (S43_0 a _) (enS_set true ys i a[i]))).trans (hf (ys.set i a[i]) ⟨by rw [List.length_set]; exact h2, take_set_succ hi h2 h3⟩)
theorem s43 : SoundAt Go.Proofs.Try.prog Hx 43 c43 := soundAt_of T92_sound mixed Go.Proofs.Try.func43 (by kernel_rfl) (by
  intro rows r h
  unfold c43 at h
  split at h
  · rename_i a
    obtain ⟨hp, hr⟩ := Prod.mk.inj (Option.some.inj h)
    subst hr
    simp only [Bool.and_eq_true] at hp
    obtain ⟨hs0, hp⟩ := hp
    obtain ⟨xs0, rfl⟩ := isS_ex hs0
    simp only [deS_enS] at hp ⊢
    exact ⟨_, m43 xs0 hp⟩
  · cases h)
def T43 : Table := (43, c43) :: T92
theorem T43_sound : Table.Sound Go.Proofs.Try.prog Hx T43 := Table.sound_cons s43 T92_sound
/- toWire -/
def o93 (a : Wire) : Bool × List Row × List Row := (true, [[.int .i64 (a).From, .bool (a).Ack, .int .i64 (a).Life, .int .i64 (a).N, .int .i64 (a).In.Kind, .int .i64 (a).In.Port, .int .i64 (a).In.Vec.Root, .int .i64 (a).In.Vec.Cost, .int .i64 (a).In.Vec.Bridge, .int .i64 (a).In.Vec.Port, .int .i64 (a).In.Hops, .bool (a).In.Up]], [])
def c93 : Contract
  | [[.int .i64 a_From, .bool a_Ack, .int .i64 a_Life, .int .i64 a_N, .int .i64 a_In_Kind, .int .i64 a_In_Port, .int .i64 a_In_Vec_Root, .int .i64 a_In_Vec_Cost, .int .i64 a_In_Vec_Bridge, .int .i64 a_In_Vec_Port, .int .i64 a_In_Hops, .bool a_In_Up]] => some ((o93 ⟨a_From, a_Ack, a_Life, a_N, ⟨a_In_Kind, a_In_Port, ⟨a_In_Vec_Root, a_In_Vec_Cost, a_In_Vec_Bridge, a_In_Vec_Port⟩, a_In_Hops, a_In_Up⟩⟩).1, (o93 ⟨a_From, a_Ack, a_Life, a_N, ⟨a_In_Kind, a_In_Port, ⟨a_In_Vec_Root, a_In_Vec_Cost, a_In_Vec_Bridge, a_In_Vec_Port⟩, a_In_Hops, a_In_Up⟩⟩).2.1, (o93 ⟨a_From, a_Ack, a_Life, a_N, ⟨a_In_Kind, a_In_Port, ⟨a_In_Vec_Root, a_In_Vec_Cost, a_In_Vec_Bridge, a_In_Vec_Port⟩, a_In_Hops, a_In_Up⟩⟩).2.2)
  | _ => none

theorem r93 (a : Wire) (n : Nat) : evFn ⟨Go.Proofs.Try.prog, Hx, 93⟩ T43.call n Go.Proofs.Try.f93 [[.int .i64 a.From, .bool a.Ack, .int .i64 a.Life, .int .i64 a.N, .int .i64 a.In.Kind, .int .i64 a.In.Port, .int .i64 a.In.Vec.Root, .int .i64 a.In.Vec.Cost, .int .i64 a.In.Vec.Bridge, .int .i64 a.In.Vec.Port, .int .i64 a.In.Hops, .bool a.In.Up]] = some ([[D.int IntKind.i64 (Wire.From a), D.bool (Wire.Ack a), D.int IntKind.i64 (Wire.Life a), D.int IntKind.i64 (Wire.N a), D.int IntKind.i64 (In.Kind (Wire.In a)), D.int IntKind.i64 (In.Port (Wire.In a)), D.int IntKind.i64 (Vec.Root (In.Vec (Wire.In a))), D.int IntKind.i64 (Vec.Cost (In.Vec (Wire.In a))), D.int IntKind.i64 (Vec.Bridge (In.Vec (Wire.In a))), D.int IntKind.i64 (Vec.Port (In.Vec (Wire.In a))), D.int IntKind.i64 (In.Hops (Wire.In a)), D.bool (In.Up (Wire.In a))]], []) := by kernel_rfl
theorem m93 (a : Wire) (hpre : (o93 a).1 = true) : evFn ⟨Go.Proofs.Try.prog, Hx, 93⟩ T43.call 0 Go.Proofs.Try.f93 [[.int .i64 a.From, .bool a.Ack, .int .i64 a.Life, .int .i64 a.N, .int .i64 a.In.Kind, .int .i64 a.In.Port, .int .i64 a.In.Vec.Root, .int .i64 a.In.Vec.Cost, .int .i64 a.In.Vec.Bridge, .int .i64 a.In.Vec.Port, .int .i64 a.In.Hops, .bool a.In.Up]] = some (o93 a).2 := by
  refine (r93 a _).trans ?_
  show _ = (some ([[.int .i64 (a).From, .bool (a).Ack, .int .i64 (a).Life, .int .i64 (a).N, .int .i64 (a).In.Kind, .int .i64 (a).In.Port, .int .i64 (a).In.Vec.Root, .int .i64 (a).In.Vec.Cost, .int .i64 (a).In.Vec.Bridge, .int .i64 (a).In.Vec.Port, .int .i64 (a).In.Hops, .bool (a).In.Up]], []) : Option (List Row × List Row))
  replace hpre : (true) = true := hpre
  rfl
theorem s93 : SoundAt Go.Proofs.Try.prog Hx 93 c93 := soundAt_of T43_sound mixed Go.Proofs.Try.func93 (by kernel_rfl) (by
  intro rows r h
  unfold c93 at h
  split at h
  · rename_i a_From a_Ack a_Life a_N a_In_Kind a_In_Port a_In_Vec_Root a_In_Vec_Cost a_In_Vec_Bridge a_In_Vec_Port a_In_Hops a_In_Up
    obtain ⟨hp, hr⟩ := Prod.mk.inj (Option.some.inj h)
    subst hr
    exact ⟨_, m93 ⟨a_From, a_Ack, a_Life, a_N, ⟨a_In_Kind, a_In_Port, ⟨a_In_Vec_Root, a_In_Vec_Cost, a_In_Vec_Bridge, a_In_Vec_Port⟩, a_In_Hops, a_In_Up⟩⟩ hp⟩
  · cases h)
def T93 : Table := (93, c93) :: T43
theorem T93_sound : Table.Sound Go.Proofs.Try.prog Hx T93 := Table.sound_cons s93 T43_sound
/- toWireS -/
def o44 (a : List Wire) : Bool × List Row × List Row := (decide (a.length ≤ 1048576), [[.sl true 12 (enS true (a))]], [])
def c44 : Contract
  | [[.sl false 12 a]] => some (isS Wire false a && (o44 (deS Wire a)).1, (o44 (deS Wire a)).2.1, (o44 (deS Wire a)).2.2)
  | _ => none

noncomputable def k44_0 (n : Nat) : Ex → St → Option (List Row × List Row) := kThen (fun st ↦ runCode (Ctx.mk Go.Proofs.Try.prog Hx (44)) (Table.call T93) n (codeAt [1, 1, 1] (bodyOf Go.Proofs.Try.f44)) (Lv.mk 4 [] 4) st (kLeave (Ctx.P (Ctx.mk Go.Proofs.Try.prog Hx (44))) (List.zip (Array.toList (Go.Func.resultTypes Go.Proofs.Try.f44)) (Array.toList (Go.Func.results Go.Proofs.Try.f44))) [] [])) (kLeave (Ctx.P (Ctx.mk Go.Proofs.Try.prog Hx (44))) (List.zip (Array.toList (Go.Func.resultTypes Go.Proofs.Try.f44)) (Array.toList (Go.Func.results Go.Proofs.Try.f44))) [] [])
noncomputable def k44_1 (n : Nat) : Ex → St → Option (List Row × List Row) := kBlock (0) (k44_0 n)
noncomputable def S44_0 (a : List Wire) (i0 : Int) (es1 : List (List D)) : St := St.mk [TV.v false [C.d (D.sl false 12 (enS false a))], TV.v false [C.undef], TV.v false [C.undef], TV.v false [C.view 0 0 0 [] 12 none], TV.v false [C.d (D.int IntKind.i64 i0)], TV.v false [C.undef], TV.v false [C.undef], TV.v false [C.undef], TV.v false [C.undef], TV.v false [C.undef], TV.v false [C.undef], TV.v false [C.undef], TV.v false [C.undef], TV.v false [C.undef], TV.v false [C.undef], TV.v false [C.undef], TV.v false [C.undef], TV.v false [C.undef], TV.v false [C.undef], TV.v false [C.undef], TV.v false [C.undef], TV.v false [C.undef], TV.v false [C.undef]] [Root.mk false 12 es1 0 0 true true]
noncomputable def B44_0 (n : Nat) : St → (Ex → St → Option (List Row × List Row)) → Option (List Row × List Row) := runCode (Ctx.mk Go.Proofs.Try.prog Hx (44)) (Table.call T93) n (codeAt [1, 1, 0, 1, 0, 0] (bodyOf Go.Proofs.Try.f44)) (Lv.mk 0 [(0, 8)] 4)
noncomputable def X44_2 (a : List Wire) (i0 : Int) (es1 : List (List D)) : St := St.mk [TV.v false [C.d (D.sl false 12 (enS false a))], TV.v false [C.undef], TV.v false [C.undef], TV.v false [C.view 0 0 0 [] 12 none], TV.v false [C.d (D.int IntKind.i64 i0)], TV.v false [C.undef], TV.v false [C.undef], TV.v false [C.undef], TV.v false [C.d (D.int IntKind.i64 i0)], TV.v false [C.d (D.sl false 12 (enS false a))], TV.v false [C.d (D.int IntKind.i64 (Int.ofNat (List.length (enS false a))))], TV.v false [C.d (D.bool false)], TV.v false [C.undef], TV.v false [C.undef], TV.v false [C.undef], TV.v false [C.undef], TV.v false [C.undef], TV.v false [C.undef], TV.v false [C.undef], TV.v false [C.undef], TV.v false [C.undef], TV.v false [C.undef], TV.v false [C.undef]] [Root.mk false 12 es1 0 0 true true]
theorem q44_0 (a : List Wire) (n : Nat) (i0 : Int) (es1 : List (List D)) (f : St → Option (List Row × List Row)) (K : Ex → St → Option (List Row × List Row)) : B44_0 n (S44_0 a i0 es1) (@kThen (List Row × List Row) (fun st ↦ f (St.head 1 25 4194064 st)) K) = bif decide (i0 < Int.ofNat (List.length (enS false a))) then bif decide (0 ≤ i0) && decide (i0 < Int.ofNat (List.length (enS false a))) then bif Leaf.fit false (Leaf.int IntKind.i64) (List.getD (List.getD (enS false a) (Int.toNat i0) []) 0 D.dead) && (Leaf.fit false Leaf.bool (List.getD (List.getD (enS false a) (Int.toNat i0) []) 1 D.dead) && (Leaf.fit false (Leaf.int IntKind.i64) (List.getD (List.getD (enS false a) (Int.toNat i0) []) 2 D.dead) && (Leaf.fit false (Leaf.int IntKind.i64) (List.getD (List.getD (enS false a) (Int.toNat i0) []) 3 D.dead) && (Leaf.fit false (Leaf.int IntKind.i64) (List.getD (List.getD (enS false a) (Int.toNat i0) []) 4 D.dead) && (Leaf.fit false (Leaf.int IntKind.i64) (List.getD (List.getD (enS false a) (Int.toNat i0) []) 5 D.dead) && (Leaf.fit false (Leaf.int IntKind.i64) (List.getD (List.getD (enS false a) (Int.toNat i0) []) 6 D.dead) && (Leaf.fit false (Leaf.int IntKind.i64) (List.getD (List.getD (enS false a) (Int.toNat i0) []) 7 D.dead) && (Leaf.fit false (Leaf.int IntKind.i64) (List.getD (List.getD (enS false a) (Int.toNat i0) []) 8 D.dead) && (Leaf.fit false (Leaf.int IntKind.i64) (List.getD (List.getD (enS false a) (Int.toNat i0) []) 9 D.dead) && (Leaf.fit false (Leaf.int IntKind.i64) (List.getD (List.getD (enS false a) (Int.toNat i0) []) 10 D.dead) && (Leaf.fit false Leaf.bool (List.getD (List.getD (enS false a) (Int.toNat i0) []) 11 D.dead) && true))))))))))) then bif decide (0 ≤ i0) && decide (i0 < Int.ofNat (List.length es1)) then f (S44_0 a (IntKind.wrap IntKind.i64 (i0 + 1)) (List.set es1 (0 + Int.toNat i0) [D.int IntKind.i64 (D.num (List.getD (List.getD (enS false a) (Int.toNat i0) []) 0 D.dead)), D.bool (D.flag (List.getD (List.getD (enS false a) (Int.toNat i0) []) 1 D.dead)), D.int IntKind.i64 (D.num (List.getD (List.getD (enS false a) (Int.toNat i0) []) 2 D.dead)), D.int IntKind.i64 (D.num (List.getD (List.getD (enS false a) (Int.toNat i0) []) 3 D.dead)), D.int IntKind.i64 (D.num (List.getD (List.getD (enS false a) (Int.toNat i0) []) 4 D.dead)), D.int IntKind.i64 (D.num (List.getD (List.getD (enS false a) (Int.toNat i0) []) 5 D.dead)), D.int IntKind.i64 (D.num (List.getD (List.getD (enS false a) (Int.toNat i0) []) 6 D.dead)), D.int IntKind.i64 (D.num (List.getD (List.getD (enS false a) (Int.toNat i0) []) 7 D.dead)), D.int IntKind.i64 (D.num (List.getD (List.getD (enS false a) (Int.toNat i0) []) 8 D.dead)), D.int IntKind.i64 (D.num (List.getD (List.getD (enS false a) (Int.toNat i0) []) 9 D.dead)), D.int IntKind.i64 (D.num (List.getD (List.getD (enS false a) (Int.toNat i0) []) 10 D.dead)), D.bool (D.flag (List.getD (List.getD (enS false a) (Int.toNat i0) []) 11 D.dead))])) else none else none else none else K (Ex.exit 0) (X44_2 a i0 es1) := by kernel_rfl
theorem aX44_2 (a : List Wire) (n : Nat) (i0 : Int) (es1 : List (List D)) : k44_1 n (Ex.exit 0) (X44_2 a i0 es1) = some ([[D.sl true 12 es1]], []) := by kernel_rfl
theorem r44 (a : List Wire) (n : Nat) : evFn ⟨Go.Proofs.Try.prog, Hx, 44⟩ T93.call n Go.Proofs.Try.f44 [[.sl false 12 (enS false a)]] = bif decide (0 ≤ Int.ofNat (List.length (enS false a))) && (decide (Int.ofNat (List.length (enS false a)) ≤ Int.ofNat (List.length (enS false a))) && decide (Int.toNat (Int.ofNat (List.length (enS false a))) * 96 ≤ 140737488355328)) then loopRun (B44_0 n) 1 25 4194064 n (S44_0 a (0) (List.replicate (Int.toNat (Int.ofNat (List.length (enS false a)))) [D.int IntKind.i64 (0), D.bool false, D.int IntKind.i64 (0), D.int IntKind.i64 (0), D.int IntKind.i64 (0), D.int IntKind.i64 (0), D.int IntKind.i64 (0), D.int IntKind.i64 (0), D.int IntKind.i64 (0), D.int IntKind.i64 (0), D.int IntKind.i64 (0), D.bool false])) (k44_1 n) else none := by kernel_rfl
theorem m44 (a : List Wire) (hpre : (o44 a).1 = true) : evFn ⟨Go.Proofs.Try.prog, Hx, 44⟩ T93.call (a.length + 1) Go.Proofs.Try.f44 [[.sl false 12 (enS false a)]] = some (o44 a).2 := by
  refine (r44 a _).trans ?_
  show _ = (some ([[.sl true 12 (enS true (a))]], []) : Option (List Row × List Row))
  replace hpre : (decide (a.length ≤ 1048576)) = true := hpre
  have hlen : a.length ≤ 1048576 := of_decide_eq_true hpre
  rw [enS_length, make_ok (by omega), cond_true, toNat_of]
  refine (congrArg (fun z => loopRun _ _ _ _ _ (S44_0 a 0 z) _) (enS_rep true a.length (En.nil : Wire))).trans ?_
  refine loop_list (xs := a) (fun i (ys : List Wire) => S44_0 a (Int.ofNat i) (enS true ys)) (fun i ys => ys.length = a.length ∧ ys.take i = a.take i) (fun _ _ _ => some ([[D.sl true 12 (enS true a)]], [])) ?_ ?_ (a.length + 1) _ (by omega) ⟨List.length_replicate .., rfl⟩
  · rintro ys ⟨h2, h3⟩ f
    refine (q44_0 a _ _ _ f _).trans ?_
    simp only [enS_length, dec_lt, Nat.lt_irrefl, decide_false, cond_false]
    refine (aX44_2 a _ _ _).trans ?_
    rw [List.take_length, ← h2, List.take_length] at h3
    subst h3
    rfl
  · rintro i ys hi ⟨h2, h3⟩ f hf
    refine (q44_0 a _ _ _ f _).trans ?_
    simp only [enS_length, toNat_of, dec_lt, dec_ge, enS_get _ hi, h2, hi, wrap_succ (show i < 4611686018427387904 by omega), Nat.zero_add, decide_true, cond_true, Bool.and_self]
    exact (congrArg f (congrArg (S44_0 a _) (enS_set true ys i a[i]))).trans (hf (ys.set i a[i]) ⟨by rw [List.length_set]; exact h2, take_set_succ hi h2 h3⟩)
theorem s44 : SoundAt Go.Proofs.Try.prog Hx 44 c44 := soundAt_of T93_sound mixed Go.Proofs.Try.func44 (by kernel_rfl) (by
  intro rows r h
  unfold c44 at h
  split at h
  · rename_i a
    obtain ⟨hp, hr⟩ := Prod.mk.inj (Option.some.inj h)
    subst hr
    simp only [Bool.and_eq_true] at hp
    obtain ⟨hs0, hp⟩ := hp
    obtain ⟨xs0, rfl⟩ := isS_ex hs0
    simp only [deS_enS] at hp ⊢
    exact ⟨_, m44 xs0 hp⟩
  · cases h)
def T44 : Table := (44, c44) :: T93
theorem T44_sound : Table.Sound Go.Proofs.Try.prog Hx T44 := Table.sound_cons s44 T93_sound
/- toBoolS -/
def o45 (a : List Bool) : Bool × List Row × List Row := (decide (a.length ≤ 1048576), [[.sl true 1 (enS true (a))]], [])
def c45 : Contract
  | [[.sl false 1 a]] => some (isS Bool false a && (o45 (deS Bool a)).1, (o45 (deS Bool a)).2.1, (o45 (deS Bool a)).2.2)
  | _ => none

noncomputable def k45_0 (n : Nat) : Ex → St → Option (List Row × List Row) := kThen (fun st ↦ runCode (Ctx.mk Go.Proofs.Try.prog Hx (45)) (Table.call T44) n (codeAt [1, 1, 1] (bodyOf Go.Proofs.Try.f45)) (Lv.mk 4 [] 4) st (kLeave (Ctx.P (Ctx.mk Go.Proofs.Try.prog Hx (45))) (List.zip (Array.toList (Go.Func.resultTypes Go.Proofs.Try.f45)) (Array.toList (Go.Func.results Go.Proofs.Try.f45))) [] [])) (kLeave (Ctx.P (Ctx.mk Go.Proofs.Try.prog Hx (45))) (List.zip (Array.toList (Go.Func.resultTypes Go.Proofs.Try.f45)) (Array.toList (Go.Func.results Go.Proofs.Try.f45))) [] [])
noncomputable def k45_1 (n : Nat) : Ex → St → Option (List Row × List Row) := kBlock (0) (k45_0 n)
noncomputable def S45_0 (a : List Bool) (i0 : Int) (es1 : List (List D)) : St := St.mk [TV.v false [C.d (D.sl false 1 (enS false a))], TV.v false [C.undef], TV.v false [C.undef], TV.v false [C.view 0 0 0 [] 1 none], TV.v false [C.d (D.int IntKind.i64 i0)], TV.v false [C.undef], TV.v false [C.undef], TV.v false [C.undef], TV.v false [C.undef], TV.v false [C.undef], TV.v false [C.undef], TV.v false [C.undef], TV.v false [C.undef], TV.v false [C.undef], TV.v false [C.undef], TV.v false [C.undef], TV.v false [C.undef], TV.v false [C.undef], TV.v false [C.undef], TV.v false [C.undef], TV.v false [C.undef], TV.v false [C.undef]] [Root.mk false 1 es1 0 0 true true]
noncomputable def B45_0 (n : Nat) : St → (Ex → St → Option (List Row × List Row)) → Option (List Row × List Row) := runCode (Ctx.mk Go.Proofs.Try.prog Hx (45)) (Table.call T44) n (codeAt [1, 1, 0, 1, 0, 0] (bodyOf Go.Proofs.Try.f45)) (Lv.mk 0 [(0, 8)] 4)
noncomputable def X45_2 (a : List Bool) (i0 : Int) (es1 : List (List D)) : St := St.mk [TV.v false [C.d (D.sl false 1 (enS false a))], TV.v false [C.undef], TV.v false [C.undef], TV.v false [C.view 0 0 0 [] 1 none], TV.v false [C.d (D.int IntKind.i64 i0)], TV.v false [C.undef], TV.v false [C.undef], TV.v false [C.undef], TV.v false [C.d (D.int IntKind.i64 i0)], TV.v false [C.d (D.sl false 1 (enS false a))], TV.v false [C.d (D.int IntKind.i64 (Int.ofNat (List.length (enS false a))))], TV.v false [C.d (D.bool false)], TV.v false [C.undef], TV.v false [C.undef], TV.v false [C.undef], TV.v false [C.undef], TV.v false [C.undef], TV.v false [C.undef], TV.v false [C.undef], TV.v false [C.undef], TV.v false [C.undef], TV.v false [C.undef]] [Root.mk false 1 es1 0 0 true true]
theorem q45_0 (a : List Bool) (n : Nat) (i0 : Int) (es1 : List (List D)) (f : St → Option (List Row × List Row)) (K : Ex → St → Option (List Row × List Row)) : B45_0 n (S45_0 a i0 es1) (@kThen (List Row × List Row) (fun st ↦ f (St.head 1 25 2096912 st)) K) = bif decide (i0 < Int.ofNat (List.length (enS false a))) then bif decide (0 ≤ i0) && decide (i0 < Int.ofNat (List.length (enS false a))) then bif Leaf.fit false Leaf.bool (List.getD (List.getD (enS false a) (Int.toNat i0) []) 0 D.dead) && true then bif decide (0 ≤ i0) && decide (i0 < Int.ofNat (List.length es1)) then f (S45_0 a (IntKind.wrap IntKind.i64 (i0 + 1)) (List.set es1 (0 + Int.toNat i0) [D.bool (D.flag (List.getD (List.getD (enS false a) (Int.toNat i0) []) 0 D.dead))])) else none else none else none else K (Ex.exit 0) (X45_2 a i0 es1) := by kernel_rfl
theorem aX45_2 (a : List Bool) (n : Nat) (i0 : Int) (es1 : List (List D)) : k45_1 n (Ex.exit 0) (X45_2 a i0 es1) = some ([[D.sl true 1 es1]], []) := by kernel_rfl
theorem r45 (a : List Bool) (n : Nat) : evFn ⟨Go.Proofs.Try.prog, Hx, 45⟩ T44.call n Go.Proofs.Try.f45 [[.sl false 1 (enS false a)]] = bif decide (0 ≤ Int.ofNat (List.length (enS false a))) && (decide (Int.ofNat (List.length (enS false a)) ≤ Int.ofNat (List.length (enS false a))) && decide (Int.toNat (Int.ofNat (List.length (enS false a))) * 1 ≤ 140737488355328)) then loopRun (B45_0 n) 1 25 2096912 n (S45_0 a (0) (List.replicate (Int.toNat (Int.ofNat (List.length (enS false a)))) [D.bool false])) (k45_1 n) else none := by kernel_rfl
theorem m45 (a : List Bool) (hpre : (o45 a).1 = true) : evFn ⟨Go.Proofs.Try.prog, Hx, 45⟩ T44.call (a.length + 1) Go.Proofs.Try.f45 [[.sl false 1 (enS false a)]] = some (o45 a).2 := by
  refine (r45 a _).trans ?_
  show _ = (some ([[.sl true 1 (enS true (a))]], []) : Option (List Row × List Row))
  replace hpre : (decide (a.length ≤ 1048576)) = true := hpre
  have hlen : a.length ≤ 1048576 := of_decide_eq_true hpre
  rw [enS_length, make_ok (by omega), cond_true, toNat_of]
  refine (congrArg (fun z => loopRun _ _ _ _ _ (S45_0 a 0 z) _) (enS_rep true a.length (En.nil : Bool))).trans ?_
  refine loop_list (xs := a) (fun i (ys : List Bool) => S45_0 a (Int.ofNat i) (enS true ys)) (fun i ys => ys.length = a.length ∧ ys.take i = a.take i) (fun _ _ _ => some ([[D.sl true 1 (enS true a)]], [])) ?_ ?_ (a.length + 1) _ (by omega) ⟨List.length_replicate .., rfl⟩
  · rintro ys ⟨h2, h3⟩ f
    refine (q45_0 a _ _ _ f _).trans ?_
    simp only [enS_length, dec_lt, Nat.lt_irrefl, decide_false, cond_false]
    refine (aX45_2 a _ _ _).trans ?_
    rw [List.take_length, ← h2, List.take_length] at h3
    subst h3
    rfl
  · rintro i ys hi ⟨h2, h3⟩ f hf
    refine (q45_0 a _ _ _ f _).trans ?_
    simp only [enS_length, toNat_of, dec_lt, dec_ge, enS_get _ hi, h2, hi, wrap_succ (show i < 4611686018427387904 by omega), Nat.zero_add, decide_true, cond_true, Bool.and_self]
    exact (congrArg f (congrArg (S45_0 a _) (enS_set true ys i a[i]))).trans (hf (ys.set i a[i]) ⟨by rw [List.length_set]; exact h2, take_set_succ hi h2 h3⟩)
theorem s45 : SoundAt Go.Proofs.Try.prog Hx 45 c45 := soundAt_of T44_sound mixed Go.Proofs.Try.func45 (by kernel_rfl) (by
  intro rows r h
  unfold c45 at h
  split at h
  · rename_i a
    obtain ⟨hp, hr⟩ := Prod.mk.inj (Option.some.inj h)
    subst hr
    simp only [Bool.and_eq_true] at hp
    obtain ⟨hs0, hp⟩ := hp
    obtain ⟨xs0, rfl⟩ := isS_ex hs0
    simp only [deS_enS] at hp ⊢
    exact ⟨_, m45 xs0 hp⟩
  · cases h)
def T45 : Table := (45, c45) :: T44
theorem T45_sound : Table.Sound Go.Proofs.Try.prog Hx T45 := Table.sound_cons s45 T44_sound
/- toOut -/
def o94 (a : Out) : Bool × List Row × List Row := (true, [[.int .i64 (a).Kind, .int .i64 (a).Port, .int .i64 (a).Vec.Root, .int .i64 (a).Vec.Cost, .int .i64 (a).Vec.Bridge, .int .i64 (a).Vec.Port, .int .i64 (a).Hops, .bool (a).On]], [])
def c94 : Contract
  | [[.int .i64 a_Kind, .int .i64 a_Port, .int .i64 a_Vec_Root, .int .i64 a_Vec_Cost, .int .i64 a_Vec_Bridge, .int .i64 a_Vec_Port, .int .i64 a_Hops, .bool a_On]] => some ((o94 ⟨a_Kind, a_Port, ⟨a_Vec_Root, a_Vec_Cost, a_Vec_Bridge, a_Vec_Port⟩, a_Hops, a_On⟩).1, (o94 ⟨a_Kind, a_Port, ⟨a_Vec_Root, a_Vec_Cost, a_Vec_Bridge, a_Vec_Port⟩, a_Hops, a_On⟩).2.1, (o94 ⟨a_Kind, a_Port, ⟨a_Vec_Root, a_Vec_Cost, a_Vec_Bridge, a_Vec_Port⟩, a_Hops, a_On⟩).2.2)
  | _ => none

theorem r94 (a : Out) (n : Nat) : evFn ⟨Go.Proofs.Try.prog, Hx, 94⟩ T45.call n Go.Proofs.Try.f94 [[.int .i64 a.Kind, .int .i64 a.Port, .int .i64 a.Vec.Root, .int .i64 a.Vec.Cost, .int .i64 a.Vec.Bridge, .int .i64 a.Vec.Port, .int .i64 a.Hops, .bool a.On]] = some ([[D.int IntKind.i64 (Out.Kind a), D.int IntKind.i64 (Out.Port a), D.int IntKind.i64 (Vec.Root (Out.Vec a)), D.int IntKind.i64 (Vec.Cost (Out.Vec a)), D.int IntKind.i64 (Vec.Bridge (Out.Vec a)), D.int IntKind.i64 (Vec.Port (Out.Vec a)), D.int IntKind.i64 (Out.Hops a), D.bool (Out.On a)]], []) := by kernel_rfl
theorem m94 (a : Out) (hpre : (o94 a).1 = true) : evFn ⟨Go.Proofs.Try.prog, Hx, 94⟩ T45.call 0 Go.Proofs.Try.f94 [[.int .i64 a.Kind, .int .i64 a.Port, .int .i64 a.Vec.Root, .int .i64 a.Vec.Cost, .int .i64 a.Vec.Bridge, .int .i64 a.Vec.Port, .int .i64 a.Hops, .bool a.On]] = some (o94 a).2 := by
  refine (r94 a _).trans ?_
  show _ = (some ([[.int .i64 (a).Kind, .int .i64 (a).Port, .int .i64 (a).Vec.Root, .int .i64 (a).Vec.Cost, .int .i64 (a).Vec.Bridge, .int .i64 (a).Vec.Port, .int .i64 (a).Hops, .bool (a).On]], []) : Option (List Row × List Row))
  replace hpre : (true) = true := hpre
  rfl
theorem s94 : SoundAt Go.Proofs.Try.prog Hx 94 c94 := soundAt_of T45_sound mixed Go.Proofs.Try.func94 (by kernel_rfl) (by
  intro rows r h
  unfold c94 at h
  split at h
  · rename_i a_Kind a_Port a_Vec_Root a_Vec_Cost a_Vec_Bridge a_Vec_Port a_Hops a_On
    obtain ⟨hp, hr⟩ := Prod.mk.inj (Option.some.inj h)
    subst hr
    exact ⟨_, m94 ⟨a_Kind, a_Port, ⟨a_Vec_Root, a_Vec_Cost, a_Vec_Bridge, a_Vec_Port⟩, a_Hops, a_On⟩ hp⟩
  · cases h)
def T94 : Table := (94, c94) :: T45
theorem T94_sound : Table.Sound Go.Proofs.Try.prog Hx T94 := Table.sound_cons s94 T45_sound
/- toOutS -/
def o46 (a : List Out) : Bool × List Row × List Row := (decide (a.length ≤ 1048576), [[.sl true 8 (enS true (a))]], [])
def c46 : Contract
  | [[.sl false 8 a]] => some (isS Out false a && (o46 (deS Out a)).1, (o46 (deS Out a)).2.1, (o46 (deS Out a)).2.2)
  | _ => none

noncomputable def k46_0 (n : Nat) : Ex → St → Option (List Row × List Row) := kThen (fun st ↦ runCode (Ctx.mk Go.Proofs.Try.prog Hx (46)) (Table.call T94) n (codeAt [1, 1, 1] (bodyOf Go.Proofs.Try.f46)) (Lv.mk 4 [] 4) st (kLeave (Ctx.P (Ctx.mk Go.Proofs.Try.prog Hx (46))) (List.zip (Array.toList (Go.Func.resultTypes Go.Proofs.Try.f46)) (Array.toList (Go.Func.results Go.Proofs.Try.f46))) [] [])) (kLeave (Ctx.P (Ctx.mk Go.Proofs.Try.prog Hx (46))) (List.zip (Array.toList (Go.Func.resultTypes Go.Proofs.Try.f46)) (Array.toList (Go.Func.results Go.Proofs.Try.f46))) [] [])
noncomputable def k46_1 (n : Nat) : Ex → St → Option (List Row × List Row) := kBlock (0) (k46_0 n)
noncomputable def S46_0 (a : List Out) (i0 : Int) (es1 : List (List D)) : St := St.mk [TV.v false [C.d (D.sl false 8 (enS false a))], TV.v false [C.undef], TV.v false [C.undef], TV.v false [C.view 0 0 0 [] 8 none], TV.v false [C.d (D.int IntKind.i64 i0)], TV.v false [C.undef], TV.v false [C.undef], TV.v false [C.undef], TV.v false [C.undef], TV.v false [C.undef], TV.v false [C.undef], TV.v false [C.undef], TV.v false [C.undef], TV.v false [C.undef], TV.v false [C.undef], TV.v false [C.undef], TV.v false [C.undef], TV.v false [C.undef], TV.v false [C.undef], TV.v false [C.undef], TV.v false [C.undef], TV.v false [C.undef], TV.v false [C.undef]] [Root.mk false 8 es1 0 0 true true]
noncomputable def B46_0 (n : Nat) : St → (Ex → St → Option (List Row × List Row)) → Option (List Row × List Row) := runCode (Ctx.mk Go.Proofs.Try.prog Hx (46)) (Table.call T94) n (codeAt [1, 1, 0, 1, 0, 0] (bodyOf Go.Proofs.Try.f46)) (Lv.mk 0 [(0, 8)] 4)
noncomputable def X46_2 (a : List Out) (i0 : Int) (es1 : List (List D)) : St := St.mk [TV.v false [C.d (D.sl false 8 (enS false a))], TV.v false [C.undef], TV.v false [C.undef], TV.v false [C.view 0 0 0 [] 8 none], TV.v false [C.d (D.int IntKind.i64 i0)], TV.v false [C.undef], TV.v false [C.undef], TV.v false [C.undef], TV.v false [C.d (D.int IntKind.i64 i0)], TV.v false [C.d (D.sl false 8 (enS false a))], TV.v false [C.d (D.int IntKind.i64 (Int.ofNat (List.length (enS false a))))], TV.v false [C.d (D.bool false)], TV.v false [C.undef], TV.v false [C.undef], TV.v false [C.undef], TV.v false [C.undef], TV.v false [C.undef], TV.v false [C.undef], TV.v false [C.undef], TV.v false [C.undef], TV.v false [C.undef], TV.v false [C.undef], TV.v false [C.undef]] [Root.mk false 8 es1 0 0 true true]
theorem q46_0 (a : List Out) (n : Nat) (i0 : Int) (es1 : List (List D)) (f : St → Option (List Row × List Row)) (K : Ex → St → Option (List Row × List Row)) : B46_0 n (S46_0 a i0 es1) (@kThen (List Row × List Row) (fun st ↦ f (St.head 1 25 4194064 st)) K) = bif decide (i0 < Int.ofNat (List.length (enS false a))) then bif decide (0 ≤ i0) && decide (i0 < Int.ofNat (List.length (enS false a))) then bif Leaf.fit false (Leaf.int IntKind.i64) (List.getD (List.getD (enS false a) (Int.toNat i0) []) 0 D.dead) && (Leaf.fit false (Leaf.int IntKind.i64) (List.getD (List.getD (enS false a) (Int.toNat i0) []) 1 D.dead) && (Leaf.fit false (Leaf.int IntKind.i64) (List.getD (List.getD (enS false a) (Int.toNat i0) []) 2 D.dead) && (Leaf.fit false (Leaf.int IntKind.i64) (List.getD (List.getD (enS false a) (Int.toNat i0) []) 3 D.dead) && (Leaf.fit false (Leaf.int IntKind.i64) (List.getD (List.getD (enS false a) (Int.toNat i0) []) 4 D.dead) && (Leaf.fit false (Leaf.int IntKind.i64) (List.getD (List.getD (enS false a) (Int.toNat i0) []) 5 D.dead) && (Leaf.fit false (Leaf.int IntKind.i64) (List.getD (List.getD (enS false a) (Int.toNat i0) []) 6 D.dead) && (Leaf.fit false Leaf.bool (List.getD (List.getD (enS false a) (Int.toNat i0) []) 7 D.dead) && true))))))) then bif decide (0 ≤ i0) && decide (i0 < Int.ofNat (List.length es1)) then f (S46_0 a (IntKind.wrap IntKind.i64 (i0 + 1)) (List.set es1 (0 + Int.toNat i0) [D.int IntKind.i64 (D.num (List.getD (List.getD (enS false a) (Int.toNat i0) []) 0 D.dead)), D.int IntKind.i64 (D.num (List.getD (List.getD (enS false a) (Int.toNat i0) []) 1 D.dead)), D.int IntKind.i64 (D.num (List.getD (List.getD (enS false a) (Int.toNat i0) []) 2 D.dead)), D.int IntKind.i64 (D.num (List.getD (List.getD (enS false a) (Int.toNat i0) []) 3 D.dead)), D.int IntKind.i64 (D.num (List.getD (List.getD (enS false a) (Int.toNat i0) []) 4 D.dead)), D.int IntKind.i64 (D.num (List.getD (List.getD (enS false a) (Int.toNat i0) []) 5 D.dead)), D.int IntKind.i64 (D.num (List.getD (List.getD (enS false a) (Int.toNat i0) []) 6 D.dead)), D.bool (D.flag (List.getD (List.getD (enS false a) (Int.toNat i0) []) 7 D.dead))])) else none else none else none else K (Ex.exit 0) (X46_2 a i0 es1) := by kernel_rfl
theorem aX46_2 (a : List Out) (n : Nat) (i0 : Int) (es1 : List (List D)) : k46_1 n (Ex.exit 0) (X46_2 a i0 es1) = some ([[D.sl true 8 es1]], []) := by kernel_rfl
theorem r46 (a : List Out) (n : Nat) : evFn ⟨Go.Proofs.Try.prog, Hx, 46⟩ T94.call n Go.Proofs.Try.f46 [[.sl false 8 (enS false a)]] = bif decide (0 ≤ Int.ofNat (List.length (enS false a))) && (decide (Int.ofNat (List.length (enS false a)) ≤ Int.ofNat (List.length (enS false a))) && decide (Int.toNat (Int.ofNat (List.length (enS false a))) * 64 ≤ 140737488355328)) then loopRun (B46_0 n) 1 25 4194064 n (S46_0 a (0) (List.replicate (Int.toNat (Int.ofNat (List.length (enS false a)))) [D.int IntKind.i64 (0), D.int IntKind.i64 (0), D.int IntKind.i64 (0), D.int IntKind.i64 (0), D.int IntKind.i64 (0), D.int IntKind.i64 (0), D.int IntKind.i64 (0), D.bool false])) (k46_1 n) else none := by kernel_rfl
theorem m46 (a : List Out) (hpre : (o46 a).1 = true) : evFn ⟨Go.Proofs.Try.prog, Hx, 46⟩ T94.call (a.length + 1) Go.Proofs.Try.f46 [[.sl false 8 (enS false a)]] = some (o46 a).2 := by
  refine (r46 a _).trans ?_
  show _ = (some ([[.sl true 8 (enS true (a))]], []) : Option (List Row × List Row))
  replace hpre : (decide (a.length ≤ 1048576)) = true := hpre
  have hlen : a.length ≤ 1048576 := of_decide_eq_true hpre
  rw [enS_length, make_ok (by omega), cond_true, toNat_of]
  refine (congrArg (fun z => loopRun _ _ _ _ _ (S46_0 a 0 z) _) (enS_rep true a.length (En.nil : Out))).trans ?_
  refine loop_list (xs := a) (fun i (ys : List Out) => S46_0 a (Int.ofNat i) (enS true ys)) (fun i ys => ys.length = a.length ∧ ys.take i = a.take i) (fun _ _ _ => some ([[D.sl true 8 (enS true a)]], [])) ?_ ?_ (a.length + 1) _ (by omega) ⟨List.length_replicate .., rfl⟩
  · rintro ys ⟨h2, h3⟩ f
    refine (q46_0 a _ _ _ f _).trans ?_
    simp only [enS_length, dec_lt, Nat.lt_irrefl, decide_false, cond_false]
    refine (aX46_2 a _ _ _).trans ?_
    rw [List.take_length, ← h2, List.take_length] at h3
    subst h3
    rfl
  · rintro i ys hi ⟨h2, h3⟩ f hf
    refine (q46_0 a _ _ _ f _).trans ?_
    simp only [enS_length, toNat_of, dec_lt, dec_ge, enS_get _ hi, h2, hi, wrap_succ (show i < 4611686018427387904 by omega), Nat.zero_add, decide_true, cond_true, Bool.and_self]
    exact (congrArg f (congrArg (S46_0 a _) (enS_set true ys i a[i]))).trans (hf (ys.set i a[i]) ⟨by rw [List.length_set]; exact h2, take_set_succ hi h2 h3⟩)
theorem s46 : SoundAt Go.Proofs.Try.prog Hx 46 c46 := soundAt_of T94_sound mixed Go.Proofs.Try.func46 (by kernel_rfl) (by
  intro rows r h
  unfold c46 at h
  split at h
  · rename_i a
    obtain ⟨hp, hr⟩ := Prod.mk.inj (Option.some.inj h)
    subst hr
    simp only [Bool.and_eq_true] at hp
    obtain ⟨hs0, hp⟩ := hp
    obtain ⟨xs0, rfl⟩ := isS_ex hs0
    simp only [deS_enS] at hp ⊢
    exact ⟨_, m46 xs0 hp⟩
  · cases h)
def T46 : Table := (46, c46) :: T94
theorem T46_sound : Table.Sound Go.Proofs.Try.prog Hx T46 := Table.sound_cons s46 T94_sound
/- toBox -/
def o10 (a : Box) : Bool × List Row × List Row := (Box.small a, [[.int .i64 (a).Id, .int .i64 (a).Ports, .int .i64 (a).Reg.Epoch, .int .i64 (a).Reg.Owner, .int .i64 (a).Reg.Pair, .sl true 7 (enS true (a).Two), .sl true 12 (enS true (a).Net), .sl true 1 (enS true (a).Gates), .sl true 8 (enS true (a).Line), .sl true 8 (enS true (a).Said)]], [])
def c10 : Contract
  | [[.int .i64 a_Id, .int .i64 a_Ports, .int .i64 a_Reg_Epoch, .int .i64 a_Reg_Owner, .int .i64 a_Reg_Pair, .sl false 7 a_Two, .sl false 12 a_Net, .sl false 1 a_Gates, .sl false 8 a_Line, .sl false 8 a_Said]] => some (isS Minder false a_Two && isS Wire false a_Net && isS Bool false a_Gates && isS In false a_Line && isS Out false a_Said && (o10 ⟨a_Id, a_Ports, ⟨a_Reg_Epoch, a_Reg_Owner, a_Reg_Pair⟩, (deS Minder a_Two), (deS Wire a_Net), (deS Bool a_Gates), (deS In a_Line), (deS Out a_Said)⟩).1, (o10 ⟨a_Id, a_Ports, ⟨a_Reg_Epoch, a_Reg_Owner, a_Reg_Pair⟩, (deS Minder a_Two), (deS Wire a_Net), (deS Bool a_Gates), (deS In a_Line), (deS Out a_Said)⟩).2.1, (o10 ⟨a_Id, a_Ports, ⟨a_Reg_Epoch, a_Reg_Owner, a_Reg_Pair⟩, (deS Minder a_Two), (deS Wire a_Net), (deS Bool a_Gates), (deS In a_Line), (deS Out a_Said)⟩).2.2)
  | _ => none

theorem r10 (a : Box) (n : Nat) : evFn ⟨Go.Proofs.Try.prog, Hx, 10⟩ T46.call n Go.Proofs.Try.f10 [[.int .i64 a.Id, .int .i64 a.Ports, .int .i64 a.Reg.Epoch, .int .i64 a.Reg.Owner, .int .i64 a.Reg.Pair, .sl false 7 (enS false a.Two), .sl false 12 (enS false a.Net), .sl false 1 (enS false a.Gates), .sl false 8 (enS false a.Line), .sl false 8 (enS false a.Said)]] = bif isS Minder false (enS false (Box.Two a)) && (decide (List.length (deS Minder (enS false (Box.Two a))) ≤ 1048576) && List.all (deS Minder (enS false (Box.Two a))) Minder.small) then bif isS Wire false (enS false (Box.Net a)) && decide (List.length (deS Wire (enS false (Box.Net a))) ≤ 1048576) then bif isS Bool false (enS false (Box.Gates a)) && decide (List.length (deS Bool (enS false (Box.Gates a))) ≤ 1048576) then bif isS In false (enS false (Box.Line a)) && decide (List.length (deS In (enS false (Box.Line a))) ≤ 1048576) then bif isS Out false (enS false (Box.Said a)) && decide (List.length (deS Out (enS false (Box.Said a))) ≤ 1048576) then some ([[D.int IntKind.i64 (Box.Id a), D.int IntKind.i64 (Box.Ports a), D.int IntKind.i64 (Reg.Epoch (Box.Reg a)), D.int IntKind.i64 (Reg.Owner (Box.Reg a)), D.int IntKind.i64 (Reg.Pair (Box.Reg a)), D.sl true 7 (enS true (deS Minder (enS false (Box.Two a)))), D.sl true 12 (enS true (deS Wire (enS false (Box.Net a)))), D.sl true 1 (enS true (deS Bool (enS false (Box.Gates a)))), D.sl true 8 (enS true (deS In (enS false (Box.Line a)))), D.sl true 8 (enS true (deS Out (enS false (Box.Said a))))]], []) else none else none else none else none else none := by kernel_rfl
theorem m10 (a : Box) (hpre : (o10 a).1 = true) : evFn ⟨Go.Proofs.Try.prog, Hx, 10⟩ T46.call 0 Go.Proofs.Try.f10 [[.int .i64 a.Id, .int .i64 a.Ports, .int .i64 a.Reg.Epoch, .int .i64 a.Reg.Owner, .int .i64 a.Reg.Pair, .sl false 7 (enS false a.Two), .sl false 12 (enS false a.Net), .sl false 1 (enS false a.Gates), .sl false 8 (enS false a.Line), .sl false 8 (enS false a.Said)]] = some (o10 a).2 := by
  refine (r10 a _).trans ?_
  show _ = (some ([[.int .i64 (a).Id, .int .i64 (a).Ports, .int .i64 (a).Reg.Epoch, .int .i64 (a).Reg.Owner, .int .i64 (a).Reg.Pair, .sl true 7 (enS true (a).Two), .sl true 12 (enS true (a).Net), .sl true 1 (enS true (a).Gates), .sl true 8 (enS true (a).Line), .sl true 8 (enS true (a).Said)]], []) : Option (List Row × List Row))
  replace hpre : (Box.small a) = true := hpre
  unfold Box.small at hpre
  try simp only [Bool.and_eq_true] at hpre
  simp only [hpre, isS_enS, deS_enS, cond_true, Bool.and_self, Bool.and_true, Bool.true_and]
  try rfl
theorem s10 : SoundAt Go.Proofs.Try.prog Hx 10 c10 := soundAt_of T46_sound mixed Go.Proofs.Try.func10 (by kernel_rfl) (by
  intro rows r h
  unfold c10 at h
  split at h
  · rename_i a_Id a_Ports a_Reg_Epoch a_Reg_Owner a_Reg_Pair a_Two a_Net a_Gates a_Line a_Said
    obtain ⟨hp, hr⟩ := Prod.mk.inj (Option.some.inj h)
    subst hr
    simp only [Bool.and_eq_true] at hp
    obtain ⟨⟨⟨⟨⟨hs0, hs1⟩, hs2⟩, hs3⟩, hs4⟩, hp⟩ := hp
    obtain ⟨xs0, rfl⟩ := isS_ex hs0
    obtain ⟨xs1, rfl⟩ := isS_ex hs1
    obtain ⟨xs2, rfl⟩ := isS_ex hs2
    obtain ⟨xs3, rfl⟩ := isS_ex hs3
    obtain ⟨xs4, rfl⟩ := isS_ex hs4
    simp only [deS_enS] at hp ⊢
    exact ⟨_, m10 ⟨a_Id, a_Ports, ⟨a_Reg_Epoch, a_Reg_Owner, a_Reg_Pair⟩, xs0, xs1, xs2, xs3, xs4⟩ hp⟩
  · cases h)
def T10 : Table := (10, c10) :: T46
theorem T10_sound : Table.Sound Go.Proofs.Try.prog Hx T10 := Table.sound_cons s10 T46_sound
/- eqReg -/
def o50 (a : Reg) (b : Reg) : Bool × List Row × List Row := (sameB a b, [[.bool (true)]], [])
def c50 : Contract
  | [[.int .i64 a_Epoch, .int .i64 a_Owner, .int .i64 a_Pair], [.int .i64 b_Epoch, .int .i64 b_Owner, .int .i64 b_Pair]] => some ((o50 ⟨a_Epoch, a_Owner, a_Pair⟩ ⟨b_Epoch, b_Owner, b_Pair⟩).1, (o50 ⟨a_Epoch, a_Owner, a_Pair⟩ ⟨b_Epoch, b_Owner, b_Pair⟩).2.1, (o50 ⟨a_Epoch, a_Owner, a_Pair⟩ ⟨b_Epoch, b_Owner, b_Pair⟩).2.2)
  | _ => none

theorem r50 (a : Reg) (b : Reg) (n : Nat) : evFn ⟨Go.Proofs.Try.prog, Hx, 50⟩ T10.call n Go.Proofs.Try.f50 [[.int .i64 a.Epoch, .int .i64 a.Owner, .int .i64 a.Pair], [.int .i64 b.Epoch, .int .i64 b.Owner, .int .i64 b.Pair]] = bif Reg.Epoch a != Reg.Epoch b then some ([[D.bool false]], []) else bif Reg.Owner a != Reg.Owner b then some ([[D.bool false]], []) else bif Reg.Pair a != Reg.Pair b then some ([[D.bool false]], []) else some ([[D.bool true]], []) := by kernel_rfl
theorem m50 (a : Reg) (b : Reg) (hpre : (o50 a b).1 = true) : evFn ⟨Go.Proofs.Try.prog, Hx, 50⟩ T10.call 0 Go.Proofs.Try.f50 [[.int .i64 a.Epoch, .int .i64 a.Owner, .int .i64 a.Pair], [.int .i64 b.Epoch, .int .i64 b.Owner, .int .i64 b.Pair]] = some (o50 a b).2 := by
  refine (r50 a b _).trans ?_
  show _ = (some ([[.bool (true)]], []) : Option (List Row × List Row))
  replace hpre : (sameB a b) = true := hpre
  have := sameB_eq hpre
  subst this
  simp only [bne_self_eq_false, cond_false, sameB_self, cond_true, Bool.not_true]
theorem s50 : SoundAt Go.Proofs.Try.prog Hx 50 c50 := soundAt_of T10_sound mixed Go.Proofs.Try.func50 (by kernel_rfl) (by
  intro rows r h
  unfold c50 at h
  split at h
  · rename_i a_Epoch a_Owner a_Pair b_Epoch b_Owner b_Pair
    obtain ⟨hp, hr⟩ := Prod.mk.inj (Option.some.inj h)
    subst hr
    exact ⟨_, m50 ⟨a_Epoch, a_Owner, a_Pair⟩ ⟨b_Epoch, b_Owner, b_Pair⟩ hp⟩
  · cases h)
def T50 : Table := (50, c50) :: T10
theorem T50_sound : Table.Sound Go.Proofs.Try.prog Hx T50 := Table.sound_cons s50 T10_sound
/- eqVec -/
def o130 (a : Vec) (b : Vec) : Bool × List Row × List Row := (sameB a b, [[.bool (true)]], [])
def c130 : Contract
  | [[.int .i64 a_Root, .int .i64 a_Cost, .int .i64 a_Bridge, .int .i64 a_Port], [.int .i64 b_Root, .int .i64 b_Cost, .int .i64 b_Bridge, .int .i64 b_Port]] => some ((o130 ⟨a_Root, a_Cost, a_Bridge, a_Port⟩ ⟨b_Root, b_Cost, b_Bridge, b_Port⟩).1, (o130 ⟨a_Root, a_Cost, a_Bridge, a_Port⟩ ⟨b_Root, b_Cost, b_Bridge, b_Port⟩).2.1, (o130 ⟨a_Root, a_Cost, a_Bridge, a_Port⟩ ⟨b_Root, b_Cost, b_Bridge, b_Port⟩).2.2)
  | _ => none

theorem r130 (a : Vec) (b : Vec) (n : Nat) : evFn ⟨Go.Proofs.Try.prog, Hx, 130⟩ T50.call n Go.Proofs.Try.f130 [[.int .i64 a.Root, .int .i64 a.Cost, .int .i64 a.Bridge, .int .i64 a.Port], [.int .i64 b.Root, .int .i64 b.Cost, .int .i64 b.Bridge, .int .i64 b.Port]] = bif Vec.Root a != Vec.Root b then some ([[D.bool false]], []) else bif Vec.Cost a != Vec.Cost b then some ([[D.bool false]], []) else bif Vec.Bridge a != Vec.Bridge b then some ([[D.bool false]], []) else bif Vec.Port a != Vec.Port b then some ([[D.bool false]], []) else some ([[D.bool true]], []) := by kernel_rfl
theorem m130 (a : Vec) (b : Vec) (hpre : (o130 a b).1 = true) : evFn ⟨Go.Proofs.Try.prog, Hx, 130⟩ T50.call 0 Go.Proofs.Try.f130 [[.int .i64 a.Root, .int .i64 a.Cost, .int .i64 a.Bridge, .int .i64 a.Port], [.int .i64 b.Root, .int .i64 b.Cost, .int .i64 b.Bridge, .int .i64 b.Port]] = some (o130 a b).2 := by
  refine (r130 a b _).trans ?_
  show _ = (some ([[.bool (true)]], []) : Option (List Row × List Row))
  replace hpre : (sameB a b) = true := hpre
  have := sameB_eq hpre
  subst this
  simp only [bne_self_eq_false, cond_false, sameB_self, cond_true, Bool.not_true]
theorem s130 : SoundAt Go.Proofs.Try.prog Hx 130 c130 := soundAt_of T50_sound mixed Go.Proofs.Try.func130 (by kernel_rfl) (by
  intro rows r h
  unfold c130 at h
  split at h
  · rename_i a_Root a_Cost a_Bridge a_Port b_Root b_Cost b_Bridge b_Port
    obtain ⟨hp, hr⟩ := Prod.mk.inj (Option.some.inj h)
    subst hr
    exact ⟨_, m130 ⟨a_Root, a_Cost, a_Bridge, a_Port⟩ ⟨b_Root, b_Cost, b_Bridge, b_Port⟩ hp⟩
  · cases h)
def T130 : Table := (130, c130) :: T50
theorem T130_sound : Table.Sound Go.Proofs.Try.prog Hx T130 := Table.sound_cons s130 T50_sound
/- eqIn -/
def o83 (a : In) (b : In) : Bool × List Row × List Row := (sameB a b, [[.bool (true)]], [])
def c83 : Contract
  | [[.int .i64 a_Kind, .int .i64 a_Port, .int .i64 a_Vec_Root, .int .i64 a_Vec_Cost, .int .i64 a_Vec_Bridge, .int .i64 a_Vec_Port, .int .i64 a_Hops, .bool a_Up], [.int .i64 b_Kind, .int .i64 b_Port, .int .i64 b_Vec_Root, .int .i64 b_Vec_Cost, .int .i64 b_Vec_Bridge, .int .i64 b_Vec_Port, .int .i64 b_Hops, .bool b_Up]] => some ((o83 ⟨a_Kind, a_Port, ⟨a_Vec_Root, a_Vec_Cost, a_Vec_Bridge, a_Vec_Port⟩, a_Hops, a_Up⟩ ⟨b_Kind, b_Port, ⟨b_Vec_Root, b_Vec_Cost, b_Vec_Bridge, b_Vec_Port⟩, b_Hops, b_Up⟩).1, (o83 ⟨a_Kind, a_Port, ⟨a_Vec_Root, a_Vec_Cost, a_Vec_Bridge, a_Vec_Port⟩, a_Hops, a_Up⟩ ⟨b_Kind, b_Port, ⟨b_Vec_Root, b_Vec_Cost, b_Vec_Bridge, b_Vec_Port⟩, b_Hops, b_Up⟩).2.1, (o83 ⟨a_Kind, a_Port, ⟨a_Vec_Root, a_Vec_Cost, a_Vec_Bridge, a_Vec_Port⟩, a_Hops, a_Up⟩ ⟨b_Kind, b_Port, ⟨b_Vec_Root, b_Vec_Cost, b_Vec_Bridge, b_Vec_Port⟩, b_Hops, b_Up⟩).2.2)
  | _ => none

theorem r83 (a : In) (b : In) (n : Nat) : evFn ⟨Go.Proofs.Try.prog, Hx, 83⟩ T130.call n Go.Proofs.Try.f83 [[.int .i64 a.Kind, .int .i64 a.Port, .int .i64 a.Vec.Root, .int .i64 a.Vec.Cost, .int .i64 a.Vec.Bridge, .int .i64 a.Vec.Port, .int .i64 a.Hops, .bool a.Up], [.int .i64 b.Kind, .int .i64 b.Port, .int .i64 b.Vec.Root, .int .i64 b.Vec.Cost, .int .i64 b.Vec.Bridge, .int .i64 b.Vec.Port, .int .i64 b.Hops, .bool b.Up]] = bif In.Kind a != In.Kind b then some ([[D.bool false]], []) else bif In.Port a != In.Port b then some ([[D.bool false]], []) else bif sameB (In.Vec a) (In.Vec b) then bif In.Hops a != In.Hops b then some ([[D.bool false]], []) else bif In.Up a != In.Up b then some ([[D.bool false]], []) else some ([[D.bool true]], []) else none := by kernel_rfl
theorem m83 (a : In) (b : In) (hpre : (o83 a b).1 = true) : evFn ⟨Go.Proofs.Try.prog, Hx, 83⟩ T130.call 0 Go.Proofs.Try.f83 [[.int .i64 a.Kind, .int .i64 a.Port, .int .i64 a.Vec.Root, .int .i64 a.Vec.Cost, .int .i64 a.Vec.Bridge, .int .i64 a.Vec.Port, .int .i64 a.Hops, .bool a.Up], [.int .i64 b.Kind, .int .i64 b.Port, .int .i64 b.Vec.Root, .int .i64 b.Vec.Cost, .int .i64 b.Vec.Bridge, .int .i64 b.Vec.Port, .int .i64 b.Hops, .bool b.Up]] = some (o83 a b).2 := by
  refine (r83 a b _).trans ?_
  show _ = (some ([[.bool (true)]], []) : Option (List Row × List Row))
  replace hpre : (sameB a b) = true := hpre
  have := sameB_eq hpre
  subst this
  simp only [bne_self_eq_false, cond_false, sameB_self, cond_true, Bool.not_true]
theorem s83 : SoundAt Go.Proofs.Try.prog Hx 83 c83 := soundAt_of T130_sound mixed Go.Proofs.Try.func83 (by kernel_rfl) (by
  intro rows r h
  unfold c83 at h
  split at h
  · rename_i a_Kind a_Port a_Vec_Root a_Vec_Cost a_Vec_Bridge a_Vec_Port a_Hops a_Up b_Kind b_Port b_Vec_Root b_Vec_Cost b_Vec_Bridge b_Vec_Port b_Hops b_Up
    obtain ⟨hp, hr⟩ := Prod.mk.inj (Option.some.inj h)
    subst hr
    exact ⟨_, m83 ⟨a_Kind, a_Port, ⟨a_Vec_Root, a_Vec_Cost, a_Vec_Bridge, a_Vec_Port⟩, a_Hops, a_Up⟩ ⟨b_Kind, b_Port, ⟨b_Vec_Root, b_Vec_Cost, b_Vec_Bridge, b_Vec_Port⟩, b_Hops, b_Up⟩ hp⟩
  · cases h)
def T83 : Table := (83, c83) :: T130
theorem T83_sound : Table.Sound Go.Proofs.Try.prog Hx T83 := Table.sound_cons s83 T130_sound
/- eqInS -/
def o31 (a : List In) (b : List In) : Bool × List Row × List Row := (sameB a b && (decide (a.length ≤ 1048576)), [[.bool (true)]], [])
def c31 : Contract
  | [[.sl false 8 a], [.sl false 8 b]] => some (isS In false a && isS In false b && (o31 (deS In a) (deS In b)).1, (o31 (deS In a) (deS In b)).2.1, (o31 (deS In a) (deS In b)).2.2)
  | _ => none

noncomputable def k31_0 (n : Nat) : Ex → St → Option (List Row × List Row) := kThen (fun st ↦ runCode (Ctx.mk Go.Proofs.Try.prog Hx (31)) (Table.call T83) n (codeAt [1, 1, 1] (bodyOf Go.Proofs.Try.f31)) (Lv.mk 16 [] 16) st (kLeave (Ctx.P (Ctx.mk Go.Proofs.Try.prog Hx (31))) (List.zip (Array.toList (Go.Func.resultTypes Go.Proofs.Try.f31)) (Array.toList (Go.Func.results Go.Proofs.Try.f31))) [] [])) (kLeave (Ctx.P (Ctx.mk Go.Proofs.Try.prog Hx (31))) (List.zip (Array.toList (Go.Func.resultTypes Go.Proofs.Try.f31)) (Array.toList (Go.Func.results Go.Proofs.Try.f31))) [] [])
noncomputable def k31_1 (n : Nat) : Ex → St → Option (List Row × List Row) := kBlock (0) (k31_0 n)
noncomputable def S31_0 (a : List In) (b : List In) (i0 : Int) : St := St.mk [TV.v false [C.d (D.sl false 8 (enS false a))], TV.v false [C.d (D.sl false 8 (enS false b))], TV.v false [C.undef], TV.v false [C.undef], TV.v false [C.undef], TV.v false [C.d (D.int IntKind.i64 i0)], TV.v false [C.undef], TV.v false [C.undef], TV.v false [C.undef], TV.v false [C.undef], TV.v false [C.undef], TV.v false [C.undef], TV.v false [C.undef], TV.v false [C.undef], TV.v false [C.undef], TV.v false [C.undef], TV.v false [C.undef], TV.v false [C.undef], TV.v false [C.undef], TV.v false [C.undef], TV.v false [C.undef], TV.v false [C.undef], TV.v false [C.undef], TV.v false [C.undef], TV.v false [C.undef], TV.v false [C.undef], TV.v false [C.undef]] []
noncomputable def B31_0 (n : Nat) : St → (Ex → St → Option (List Row × List Row)) → Option (List Row × List Row) := runCode (Ctx.mk Go.Proofs.Try.prog Hx (31)) (Table.call T83) n (codeAt [1, 1, 0, 1, 0, 0] (bodyOf Go.Proofs.Try.f31)) (Lv.mk 0 [(0, 0)] 16)
noncomputable def X31_2 (a : List In) (b : List In) (i0 : Int) : St := St.mk [TV.v false [C.d (D.sl false 8 (enS false a))], TV.v false [C.d (D.sl false 8 (enS false b))], TV.v false [C.undef], TV.v false [C.undef], TV.v false [C.undef], TV.v false [C.d (D.int IntKind.i64 i0)], TV.v false [C.undef], TV.v false [C.undef], TV.v false [C.undef], TV.v false [C.undef], TV.v false [C.undef], TV.v false [C.d (D.int IntKind.i64 i0)], TV.v false [C.d (D.sl false 8 (enS false a))], TV.v false [C.d (D.int IntKind.i64 (Int.ofNat (List.length (enS false a))))], TV.v false [C.d (D.bool false)], TV.v false [C.undef], TV.v false [C.undef], TV.v false [C.undef], TV.v false [C.undef], TV.v false [C.undef], TV.v false [C.undef], TV.v false [C.undef], TV.v false [C.undef], TV.v false [C.undef], TV.v false [C.undef], TV.v false [C.undef], TV.v false [C.undef]] []
theorem q31_0 (a : List In) (b : List In) (n : Nat) (i0 : Int) (f : St → Option (List Row × List Row)) (K : Ex → St → Option (List Row × List Row)) : B31_0 n (S31_0 a b i0) (@kThen (List Row × List Row) (fun st ↦ f (St.head 0 35 134215728 st)) K) = bif decide (i0 < Int.ofNat (List.length (enS false a))) then bif decide (0 ≤ i0) && decide (i0 < Int.ofNat (List.length (enS false a))) then bif Leaf.fit false (Leaf.int IntKind.i64) (List.getD (List.getD (enS false a) (Int.toNat i0) []) 0 D.dead) && (Leaf.fit false (Leaf.int IntKind.i64) (List.getD (List.getD (enS false a) (Int.toNat i0) []) 1 D.dead) && (Leaf.fit false (Leaf.int IntKind.i64) (List.getD (List.getD (enS false a) (Int.toNat i0) []) 2 D.dead) && (Leaf.fit false (Leaf.int IntKind.i64) (List.getD (List.getD (enS false a) (Int.toNat i0) []) 3 D.dead) && (Leaf.fit false (Leaf.int IntKind.i64) (List.getD (List.getD (enS false a) (Int.toNat i0) []) 4 D.dead) && (Leaf.fit false (Leaf.int IntKind.i64) (List.getD (List.getD (enS false a) (Int.toNat i0) []) 5 D.dead) && (Leaf.fit false (Leaf.int IntKind.i64) (List.getD (List.getD (enS false a) (Int.toNat i0) []) 6 D.dead) && (Leaf.fit false Leaf.bool (List.getD (List.getD (enS false a) (Int.toNat i0) []) 7 D.dead) && true))))))) then bif decide (0 ≤ i0) && decide (i0 < Int.ofNat (List.length (enS false b))) then bif Leaf.fit false (Leaf.int IntKind.i64) (List.getD (List.getD (enS false b) (Int.toNat i0) []) 0 D.dead) && (Leaf.fit false (Leaf.int IntKind.i64) (List.getD (List.getD (enS false b) (Int.toNat i0) []) 1 D.dead) && (Leaf.fit false (Leaf.int IntKind.i64) (List.getD (List.getD (enS false b) (Int.toNat i0) []) 2 D.dead) && (Leaf.fit false (Leaf.int IntKind.i64) (List.getD (List.getD (enS false b) (Int.toNat i0) []) 3 D.dead) && (Leaf.fit false (Leaf.int IntKind.i64) (List.getD (List.getD (enS false b) (Int.toNat i0) []) 4 D.dead) && (Leaf.fit false (Leaf.int IntKind.i64) (List.getD (List.getD (enS false b) (Int.toNat i0) []) 5 D.dead) && (Leaf.fit false (Leaf.int IntKind.i64) (List.getD (List.getD (enS false b) (Int.toNat i0) []) 6 D.dead) && (Leaf.fit false Leaf.bool (List.getD (List.getD (enS false b) (Int.toNat i0) []) 7 D.dead) && true))))))) then bif sameB (In.mk (D.num (List.getD (List.getD (enS false a) (Int.toNat i0) []) 0 D.dead)) (D.num (List.getD (List.getD (enS false a) (Int.toNat i0) []) 1 D.dead)) (Vec.mk (D.num (List.getD (List.getD (enS false a) (Int.toNat i0) []) 2 D.dead)) (D.num (List.getD (List.getD (enS false a) (Int.toNat i0) []) 3 D.dead)) (D.num (List.getD (List.getD (enS false a) (Int.toNat i0) []) 4 D.dead)) (D.num (List.getD (List.getD (enS false a) (Int.toNat i0) []) 5 D.dead))) (D.num (List.getD (List.getD (enS false a) (Int.toNat i0) []) 6 D.dead)) (D.flag (List.getD (List.getD (enS false a) (Int.toNat i0) []) 7 D.dead))) (In.mk (D.num (List.getD (List.getD (enS false b) (Int.toNat i0) []) 0 D.dead)) (D.num (List.getD (List.getD (enS false b) (Int.toNat i0) []) 1 D.dead)) (Vec.mk (D.num (List.getD (List.getD (enS false b) (Int.toNat i0) []) 2 D.dead)) (D.num (List.getD (List.getD (enS false b) (Int.toNat i0) []) 3 D.dead)) (D.num (List.getD (List.getD (enS false b) (Int.toNat i0) []) 4 D.dead)) (D.num (List.getD (List.getD (enS false b) (Int.toNat i0) []) 5 D.dead))) (D.num (List.getD (List.getD (enS false b) (Int.toNat i0) []) 6 D.dead)) (D.flag (List.getD (List.getD (enS false b) (Int.toNat i0) []) 7 D.dead))) then f (S31_0 a b (IntKind.wrap IntKind.i64 (i0 + 1))) else none else none else none else none else none else K (Ex.exit 0) (X31_2 a b i0) := by kernel_rfl
theorem aX31_2 (a : List In) (b : List In) (n : Nat) (i0 : Int) : k31_1 n (Ex.exit 0) (X31_2 a b i0) = some ([[D.bool true]], []) := by kernel_rfl
theorem r31 (a : List In) (b : List In) (n : Nat) : evFn ⟨Go.Proofs.Try.prog, Hx, 31⟩ T83.call n Go.Proofs.Try.f31 [[.sl false 8 (enS false a)], [.sl false 8 (enS false b)]] = bif Int.ofNat (List.length (enS false a)) != Int.ofNat (List.length (enS false b)) then some ([[D.bool false]], []) else loopRun (B31_0 n) 0 35 134215728 n (S31_0 a b (0)) (k31_1 n) := by kernel_rfl
theorem m31 (a : List In) (b : List In) (hpre : (o31 a b).1 = true) : evFn ⟨Go.Proofs.Try.prog, Hx, 31⟩ T83.call (a.length + 1) Go.Proofs.Try.f31 [[.sl false 8 (enS false a)], [.sl false 8 (enS false b)]] = some (o31 a b).2 := by
  refine (r31 a b _).trans ?_
  show _ = (some ([[.bool (true)]], []) : Option (List Row × List Row))
  replace hpre : (sameB a b && (decide (a.length ≤ 1048576))) = true := hpre
  rw [Bool.and_eq_true] at hpre
  obtain ⟨h0, h1⟩ := hpre
  have hlen : a.length ≤ 1048576 := of_decide_eq_true h1
  have := sameB_eq h0
  subst this
  simp only [bne_self_eq_false, cond_false]
  refine loop_list (xs := a) (fun i (_ : Unit) => S31_0 a a (Int.ofNat i)) (fun _ _ => True) (fun _ _ _ => some ([[D.bool true]], [])) ?_ ?_ (a.length + 1) () (by omega) trivial
  · rintro _ _ f
    refine (q31_0 a a _ _ f _).trans ?_
    simp only [enS_length, dec_lt, Nat.lt_irrefl, decide_false, cond_false]
    exact aX31_2 a a _ _
  · rintro i _ hi _ f hf
    refine (q31_0 a a _ _ f _).trans ?_
    simp only [enS_length, toNat_of, dec_lt, dec_ge, enS_get _ hi, hi, wrap_succ (show i < 4611686018427387904 by omega), decide_true, cond_true, Bool.and_self, sameB_self, bne_self_eq_false, cond_false]
    exact hf () trivial
theorem s31 : SoundAt Go.Proofs.Try.prog Hx 31 c31 := soundAt_of T83_sound mixed Go.Proofs.Try.func31 (by kernel_rfl) (by
  intro rows r h
  unfold c31 at h
  split at h
  · rename_i a b
    obtain ⟨hp, hr⟩ := Prod.mk.inj (Option.some.inj h)
    subst hr
    simp only [Bool.and_eq_true] at hp
    obtain ⟨⟨hs0, hs1⟩, hp⟩ := hp
    obtain ⟨xs0, rfl⟩ := isS_ex hs0
    obtain ⟨xs1, rfl⟩ := isS_ex hs1
    simp only [deS_enS] at hp ⊢
    exact ⟨_, m31 xs0 xs1 hp⟩
  · cases h)
def T31 : Table := (31, c31) :: T83
theorem T31_sound : Table.Sound Go.Proofs.Try.prog Hx T31 := Table.sound_cons s31 T83_sound
/- eqMinder -/
def o100 (a : Minder) (b : Minder) : Bool × List Row × List Row := (sameB a b && (Minder.small a), [[.bool (true)]], [])
def c100 : Contract
  | [[.bool a_Up, .int .i64 a_Life, .int .i64 a_Epoch, .sl false 8 a_Log, .int .i64 a_Said, .int .i64 a_Acked, .int .i64 a_AckLife], [.bool b_Up, .int .i64 b_Life, .int .i64 b_Epoch, .sl false 8 b_Log, .int .i64 b_Said, .int .i64 b_Acked, .int .i64 b_AckLife]] => some (isS In false a_Log && isS In false b_Log && (o100 ⟨a_Up, a_Life, a_Epoch, (deS In a_Log), a_Said, a_Acked, a_AckLife⟩ ⟨b_Up, b_Life, b_Epoch, (deS In b_Log), b_Said, b_Acked, b_AckLife⟩).1, (o100 ⟨a_Up, a_Life, a_Epoch, (deS In a_Log), a_Said, a_Acked, a_AckLife⟩ ⟨b_Up, b_Life, b_Epoch, (deS In b_Log), b_Said, b_Acked, b_AckLife⟩).2.1, (o100 ⟨a_Up, a_Life, a_Epoch, (deS In a_Log), a_Said, a_Acked, a_AckLife⟩ ⟨b_Up, b_Life, b_Epoch, (deS In b_Log), b_Said, b_Acked, b_AckLife⟩).2.2)
  | _ => none

theorem r100 (a : Minder) (b : Minder) (n : Nat) : evFn ⟨Go.Proofs.Try.prog, Hx, 100⟩ T31.call n Go.Proofs.Try.f100 [[.bool a.Up, .int .i64 a.Life, .int .i64 a.Epoch, .sl false 8 (enS false a.Log), .int .i64 a.Said, .int .i64 a.Acked, .int .i64 a.AckLife], [.bool b.Up, .int .i64 b.Life, .int .i64 b.Epoch, .sl false 8 (enS false b.Log), .int .i64 b.Said, .int .i64 b.Acked, .int .i64 b.AckLife]] = bif Minder.Up a != Minder.Up b then some ([[D.bool false]], []) else bif Minder.Life a != Minder.Life b then some ([[D.bool false]], []) else bif Minder.Epoch a != Minder.Epoch b then some ([[D.bool false]], []) else bif isS In false (enS false (Minder.Log a)) && isS In false (enS false (Minder.Log b)) && (sameB (deS In (enS false (Minder.Log a))) (deS In (enS false (Minder.Log b))) && decide (List.length (deS In (enS false (Minder.Log a))) ≤ 1048576)) then bif Minder.Said a != Minder.Said b then some ([[D.bool false]], []) else bif Minder.Acked a != Minder.Acked b then some ([[D.bool false]], []) else bif Minder.AckLife a != Minder.AckLife b then some ([[D.bool false]], []) else some ([[D.bool true]], []) else none := by kernel_rfl
theorem m100 (a : Minder) (b : Minder) (hpre : (o100 a b).1 = true) : evFn ⟨Go.Proofs.Try.prog, Hx, 100⟩ T31.call 0 Go.Proofs.Try.f100 [[.bool a.Up, .int .i64 a.Life, .int .i64 a.Epoch, .sl false 8 (enS false a.Log), .int .i64 a.Said, .int .i64 a.Acked, .int .i64 a.AckLife], [.bool b.Up, .int .i64 b.Life, .int .i64 b.Epoch, .sl false 8 (enS false b.Log), .int .i64 b.Said, .int .i64 b.Acked, .int .i64 b.AckLife]] = some (o100 a b).2 := by
  refine (r100 a b _).trans ?_
  show _ = (some ([[.bool (true)]], []) : Option (List Row × List Row))
  replace hpre : (sameB a b && (Minder.small a)) = true := hpre
  rw [Bool.and_eq_true] at hpre
  obtain ⟨h0, h1⟩ := hpre
  have := sameB_eq h0
  subst this
  unfold Minder.small at h1
  try simp only [Bool.and_eq_true] at h1
  simp only [h1, bne_self_eq_false, cond_false, cond_true, sameB_self, isS_enS, deS_enS, Bool.and_self, Bool.and_true, Bool.true_and, Bool.not_true]
  try rfl
theorem s100 : SoundAt Go.Proofs.Try.prog Hx 100 c100 := soundAt_of T31_sound mixed Go.Proofs.Try.func100 (by kernel_rfl) (by
  intro rows r h
  unfold c100 at h
  split at h
  · rename_i a_Up a_Life a_Epoch a_Log a_Said a_Acked a_AckLife b_Up b_Life b_Epoch b_Log b_Said b_Acked b_AckLife
    obtain ⟨hp, hr⟩ := Prod.mk.inj (Option.some.inj h)
    subst hr
    simp only [Bool.and_eq_true] at hp
    obtain ⟨⟨hs0, hs1⟩, hp⟩ := hp
    obtain ⟨xs0, rfl⟩ := isS_ex hs0
    obtain ⟨xs1, rfl⟩ := isS_ex hs1
    simp only [deS_enS] at hp ⊢
    exact ⟨_, m100 ⟨a_Up, a_Life, a_Epoch, xs0, a_Said, a_Acked, a_AckLife⟩ ⟨b_Up, b_Life, b_Epoch, xs1, b_Said, b_Acked, b_AckLife⟩ hp⟩
  · cases h)
def T100 : Table := (100, c100) :: T31
theorem T100_sound : Table.Sound Go.Proofs.Try.prog Hx T100 := Table.sound_cons s100 T31_sound
/- eqMinderS -/
def o51 (a : List Minder) (b : List Minder) : Bool × List Row × List Row := (sameB a b && ((decide (a.length ≤ 1048576) && a.all Minder.small)), [[.bool (true)]], [])
def c51 : Contract
  | [[.sl false 7 a], [.sl false 7 b]] => some (isS Minder false a && isS Minder false b && (o51 (deS Minder a) (deS Minder b)).1, (o51 (deS Minder a) (deS Minder b)).2.1, (o51 (deS Minder a) (deS Minder b)).2.2)
  | _ => none

noncomputable def k51_0 (n : Nat) : Ex → St → Option (List Row × List Row) := kThen (fun st ↦ runCode (Ctx.mk Go.Proofs.Try.prog Hx (51)) (Table.call T100) n (codeAt [1, 1, 1] (bodyOf Go.Proofs.Try.f51)) (Lv.mk 16 [] 16) st (kLeave (Ctx.P (Ctx.mk Go.Proofs.Try.prog Hx (51))) (List.zip (Array.toList (Go.Func.resultTypes Go.Proofs.Try.f51)) (Array.toList (Go.Func.results Go.Proofs.Try.f51))) [] [])) (kLeave (Ctx.P (Ctx.mk Go.Proofs.Try.prog Hx (51))) (List.zip (Array.toList (Go.Func.resultTypes Go.Proofs.Try.f51)) (Array.toList (Go.Func.results Go.Proofs.Try.f51))) [] [])
noncomputable def k51_1 (n : Nat) : Ex → St → Option (List Row × List Row) := kBlock (0) (k51_0 n)
noncomputable def S51_0 (a : List Minder) (b : List Minder) (i0 : Int) : St := St.mk [TV.v false [C.d (D.sl false 7 (enS false a))], TV.v false [C.d (D.sl false 7 (enS false b))], TV.v false [C.undef], TV.v false [C.undef], TV.v false [C.undef], TV.v false [C.d (D.int IntKind.i64 i0)], TV.v false [C.undef], TV.v false [C.undef], TV.v false [C.undef], TV.v false [C.undef], TV.v false [C.undef], TV.v false [C.undef], TV.v false [C.undef], TV.v false [C.undef], TV.v false [C.undef], TV.v false [C.undef], TV.v false [C.undef], TV.v false [C.undef], TV.v false [C.undef], TV.v false [C.undef], TV.v false [C.undef], TV.v false [C.undef], TV.v false [C.undef], TV.v false [C.undef], TV.v false [C.undef], TV.v false [C.undef], TV.v false [C.undef]] []
noncomputable def B51_0 (n : Nat) : St → (Ex → St → Option (List Row × List Row)) → Option (List Row × List Row) := runCode (Ctx.mk Go.Proofs.Try.prog Hx (51)) (Table.call T100) n (codeAt [1, 1, 0, 1, 0, 0] (bodyOf Go.Proofs.Try.f51)) (Lv.mk 0 [(0, 0)] 16)
noncomputable def X51_2 (a : List Minder) (b : List Minder) (i0 : Int) : St := St.mk [TV.v false [C.d (D.sl false 7 (enS false a))], TV.v false [C.d (D.sl false 7 (enS false b))], TV.v false [C.undef], TV.v false [C.undef], TV.v false [C.undef], TV.v false [C.d (D.int IntKind.i64 i0)], TV.v false [C.undef], TV.v false [C.undef], TV.v false [C.undef], TV.v false [C.undef], TV.v false [C.undef], TV.v false [C.d (D.int IntKind.i64 i0)], TV.v false [C.d (D.sl false 7 (enS false a))], TV.v false [C.d (D.int IntKind.i64 (Int.ofNat (List.length (enS false a))))], TV.v false [C.d (D.bool false)], TV.v false [C.undef], TV.v false [C.undef], TV.v false [C.undef], TV.v false [C.undef], TV.v false [C.undef], TV.v false [C.undef], TV.v false [C.undef], TV.v false [C.undef], TV.v false [C.undef], TV.v false [C.undef], TV.v false [C.undef], TV.v false [C.undef]] []
theorem q51_0 (a : List Minder) (b : List Minder) (n : Nat) (i0 : Int) (f : St → Option (List Row × List Row)) (K : Ex → St → Option (List Row × List Row)) : B51_0 n (S51_0 a b i0) (@kThen (List Row × List Row) (fun st ↦ f (St.head 0 35 134215728 st)) K) = bif decide (i0 < Int.ofNat (List.length (enS false a))) then bif decide (0 ≤ i0) && decide (i0 < Int.ofNat (List.length (enS false a))) then bif Leaf.fit false Leaf.bool (List.getD (List.getD (enS false a) (Int.toNat i0) []) 0 D.dead) && (Leaf.fit false (Leaf.int IntKind.i64) (List.getD (List.getD (enS false a) (Int.toNat i0) []) 1 D.dead) && (Leaf.fit false (Leaf.int IntKind.i64) (List.getD (List.getD (enS false a) (Int.toNat i0) []) 2 D.dead) && (Leaf.fit false (Leaf.sl 8 true) (List.getD (List.getD (enS false a) (Int.toNat i0) []) 3 D.dead) && (Leaf.fit false (Leaf.int IntKind.i64) (List.getD (List.getD (enS false a) (Int.toNat i0) []) 4 D.dead) && (Leaf.fit false (Leaf.int IntKind.i64) (List.getD (List.getD (enS false a) (Int.toNat i0) []) 5 D.dead) && (Leaf.fit false (Leaf.int IntKind.i64) (List.getD (List.getD (enS false a) (Int.toNat i0) []) 6 D.dead) && true)))))) then bif decide (0 ≤ i0) && decide (i0 < Int.ofNat (List.length (enS false b))) then bif Leaf.fit false Leaf.bool (List.getD (List.getD (enS false b) (Int.toNat i0) []) 0 D.dead) && (Leaf.fit false (Leaf.int IntKind.i64) (List.getD (List.getD (enS false b) (Int.toNat i0) []) 1 D.dead) && (Leaf.fit false (Leaf.int IntKind.i64) (List.getD (List.getD (enS false b) (Int.toNat i0) []) 2 D.dead) && (Leaf.fit false (Leaf.sl 8 true) (List.getD (List.getD (enS false b) (Int.toNat i0) []) 3 D.dead) && (Leaf.fit false (Leaf.int IntKind.i64) (List.getD (List.getD (enS false b) (Int.toNat i0) []) 4 D.dead) && (Leaf.fit false (Leaf.int IntKind.i64) (List.getD (List.getD (enS false b) (Int.toNat i0) []) 5 D.dead) && (Leaf.fit false (Leaf.int IntKind.i64) (List.getD (List.getD (enS false b) (Int.toNat i0) []) 6 D.dead) && true)))))) then bif isS In false (D.rows (List.getD (List.getD (enS false a) (Int.toNat i0) []) 3 D.dead)) && isS In false (D.rows (List.getD (List.getD (enS false b) (Int.toNat i0) []) 3 D.dead)) && (sameB (Minder.mk (D.flag (List.getD (List.getD (enS false a) (Int.toNat i0) []) 0 D.dead)) (D.num (List.getD (List.getD (enS false a) (Int.toNat i0) []) 1 D.dead)) (D.num (List.getD (List.getD (enS false a) (Int.toNat i0) []) 2 D.dead)) (deS In (D.rows (List.getD (List.getD (enS false a) (Int.toNat i0) []) 3 D.dead))) (D.num (List.getD (List.getD (enS false a) (Int.toNat i0) []) 4 D.dead)) (D.num (List.getD (List.getD (enS false a) (Int.toNat i0) []) 5 D.dead)) (D.num (List.getD (List.getD (enS false a) (Int.toNat i0) []) 6 D.dead))) (Minder.mk (D.flag (List.getD (List.getD (enS false b) (Int.toNat i0) []) 0 D.dead)) (D.num (List.getD (List.getD (enS false b) (Int.toNat i0) []) 1 D.dead)) (D.num (List.getD (List.getD (enS false b) (Int.toNat i0) []) 2 D.dead)) (deS In (D.rows (List.getD (List.getD (enS false b) (Int.toNat i0) []) 3 D.dead))) (D.num (List.getD (List.getD (enS false b) (Int.toNat i0) []) 4 D.dead)) (D.num (List.getD (List.getD (enS false b) (Int.toNat i0) []) 5 D.dead)) (D.num (List.getD (List.getD (enS false b) (Int.toNat i0) []) 6 D.dead))) && Minder.small (Minder.mk (D.flag (List.getD (List.getD (enS false a) (Int.toNat i0) []) 0 D.dead)) (D.num (List.getD (List.getD (enS false a) (Int.toNat i0) []) 1 D.dead)) (D.num (List.getD (List.getD (enS false a) (Int.toNat i0) []) 2 D.dead)) (deS In (D.rows (List.getD (List.getD (enS false a) (Int.toNat i0) []) 3 D.dead))) (D.num (List.getD (List.getD (enS false a) (Int.toNat i0) []) 4 D.dead)) (D.num (List.getD (List.getD (enS false a) (Int.toNat i0) []) 5 D.dead)) (D.num (List.getD (List.getD (enS false a) (Int.toNat i0) []) 6 D.dead)))) then f (S51_0 a b (IntKind.wrap IntKind.i64 (i0 + 1))) else none else none else none else none else none else K (Ex.exit 0) (X51_2 a b i0) := by kernel_rfl
theorem aX51_2 (a : List Minder) (b : List Minder) (n : Nat) (i0 : Int) : k51_1 n (Ex.exit 0) (X51_2 a b i0) = some ([[D.bool true]], []) := by kernel_rfl
theorem r51 (a : List Minder) (b : List Minder) (n : Nat) : evFn ⟨Go.Proofs.Try.prog, Hx, 51⟩ T100.call n Go.Proofs.Try.f51 [[.sl false 7 (enS false a)], [.sl false 7 (enS false b)]] = bif Int.ofNat (List.length (enS false a)) != Int.ofNat (List.length (enS false b)) then some ([[D.bool false]], []) else loopRun (B51_0 n) 0 35 134215728 n (S51_0 a b (0)) (k51_1 n) := by kernel_rfl
theorem m51 (a : List Minder) (b : List Minder) (hpre : (o51 a b).1 = true) : evFn ⟨Go.Proofs.Try.prog, Hx, 51⟩ T100.call (a.length + 1) Go.Proofs.Try.f51 [[.sl false 7 (enS false a)], [.sl false 7 (enS false b)]] = some (o51 a b).2 := by
  refine (r51 a b _).trans ?_
  show _ = (some ([[.bool (true)]], []) : Option (List Row × List Row))
  replace hpre : (sameB a b && ((decide (a.length ≤ 1048576) && a.all Minder.small))) = true := hpre
  rw [Bool.and_eq_true, Bool.and_eq_true] at hpre
  obtain ⟨h0, h1, h2⟩ := hpre
  have hlen := of_decide_eq_true h1
  have := sameB_eq h0
  subst this
  simp only [bne_self_eq_false, cond_false]
  refine loop_list (xs := a) (fun i (_ : Unit) => S51_0 a a (Int.ofNat i)) (fun _ _ => True) (fun _ _ _ => some ([[D.bool true]], [])) ?_ ?_ (a.length + 1) () (by omega) trivial
  · rintro _ _ f
    refine (q51_0 a a _ _ f _).trans ?_
    rw [end_lt, cond_false]
    exact aX51_2 a a _ _
  · rintro i _ hi _ f hf
    refine (q51_0 a a _ _ f _).trans ?_
    have hel := List.all_eq_true.1 h2 _ (List.getElem_mem hi)
    simp only [enS_length, toNat_of, dec_lt, dec_ge, decide_true, decide_false, cond_true, cond_false, Bool.and_self, Bool.and_true, Bool.true_and, Bool.not_true, Bool.not_false, Nat.lt_irrefl, Nat.zero_add, isS_enS, deS_enS, isS_nil, deS_nil, List.nil_append, lendRows_enS, deepRows_enS, noSl_u8, En.enc, List.getD_cons_zero, List.getD_cons_succ, D.num, D.flag, D.text, D.rows, Leaf.fit, List.append_eq, TReader.eta, Frame.eta, Heard.eta, Member.eta, Card.eta, Out1.eta, Vec.eta, Port.eta, Bridge.eta, In.eta, Out.eta, Link.eta, Net.eta, TEnd.eta, Minder.eta, Reg.eta, Wire.eta, Box.eta, Deed.eta, Bpdu.eta, Visit.eta, Fabric.eta, Got.eta, TRide.eta, Up.eta, Copy.eta, Bucket.eta, Snap.eta, TL9Cur.eta, TL21In.eta, enS_get _ hi, hi, wrap_succ (show i < 4611686018427387904 by omega), hel, sameB_self]
    exact hf () trivial
theorem s51 : SoundAt Go.Proofs.Try.prog Hx 51 c51 := soundAt_of T100_sound mixed Go.Proofs.Try.func51 (by kernel_rfl) (by
  intro rows r h
  unfold c51 at h
  split at h
  · rename_i a b
    obtain ⟨hp, hr⟩ := Prod.mk.inj (Option.some.inj h)
    subst hr
    simp only [Bool.and_eq_true] at hp
    obtain ⟨⟨hs0, hs1⟩, hp⟩ := hp
    obtain ⟨xs0, rfl⟩ := isS_ex hs0
    obtain ⟨xs1, rfl⟩ := isS_ex hs1
    simp only [deS_enS] at hp ⊢
    exact ⟨_, m51 xs0 xs1 hp⟩
  · cases h)
def T51 : Table := (51, c51) :: T100
theorem T51_sound : Table.Sound Go.Proofs.Try.prog Hx T51 := Table.sound_cons s51 T100_sound
/- eqWire -/
def o101 (a : Wire) (b : Wire) : Bool × List Row × List Row := (sameB a b, [[.bool (true)]], [])
def c101 : Contract
  | [[.int .i64 a_From, .bool a_Ack, .int .i64 a_Life, .int .i64 a_N, .int .i64 a_In_Kind, .int .i64 a_In_Port, .int .i64 a_In_Vec_Root, .int .i64 a_In_Vec_Cost, .int .i64 a_In_Vec_Bridge, .int .i64 a_In_Vec_Port, .int .i64 a_In_Hops, .bool a_In_Up], [.int .i64 b_From, .bool b_Ack, .int .i64 b_Life, .int .i64 b_N, .int .i64 b_In_Kind, .int .i64 b_In_Port, .int .i64 b_In_Vec_Root, .int .i64 b_In_Vec_Cost, .int .i64 b_In_Vec_Bridge, .int .i64 b_In_Vec_Port, .int .i64 b_In_Hops, .bool b_In_Up]] => some ((o101 ⟨a_From, a_Ack, a_Life, a_N, ⟨a_In_Kind, a_In_Port, ⟨a_In_Vec_Root, a_In_Vec_Cost, a_In_Vec_Bridge, a_In_Vec_Port⟩, a_In_Hops, a_In_Up⟩⟩ ⟨b_From, b_Ack, b_Life, b_N, ⟨b_In_Kind, b_In_Port, ⟨b_In_Vec_Root, b_In_Vec_Cost, b_In_Vec_Bridge, b_In_Vec_Port⟩, b_In_Hops, b_In_Up⟩⟩).1, (o101 ⟨a_From, a_Ack, a_Life, a_N, ⟨a_In_Kind, a_In_Port, ⟨a_In_Vec_Root, a_In_Vec_Cost, a_In_Vec_Bridge, a_In_Vec_Port⟩, a_In_Hops, a_In_Up⟩⟩ ⟨b_From, b_Ack, b_Life, b_N, ⟨b_In_Kind, b_In_Port, ⟨b_In_Vec_Root, b_In_Vec_Cost, b_In_Vec_Bridge, b_In_Vec_Port⟩, b_In_Hops, b_In_Up⟩⟩).2.1, (o101 ⟨a_From, a_Ack, a_Life, a_N, ⟨a_In_Kind, a_In_Port, ⟨a_In_Vec_Root, a_In_Vec_Cost, a_In_Vec_Bridge, a_In_Vec_Port⟩, a_In_Hops, a_In_Up⟩⟩ ⟨b_From, b_Ack, b_Life, b_N, ⟨b_In_Kind, b_In_Port, ⟨b_In_Vec_Root, b_In_Vec_Cost, b_In_Vec_Bridge, b_In_Vec_Port⟩, b_In_Hops, b_In_Up⟩⟩).2.2)
  | _ => none

theorem r101 (a : Wire) (b : Wire) (n : Nat) : evFn ⟨Go.Proofs.Try.prog, Hx, 101⟩ T51.call n Go.Proofs.Try.f101 [[.int .i64 a.From, .bool a.Ack, .int .i64 a.Life, .int .i64 a.N, .int .i64 a.In.Kind, .int .i64 a.In.Port, .int .i64 a.In.Vec.Root, .int .i64 a.In.Vec.Cost, .int .i64 a.In.Vec.Bridge, .int .i64 a.In.Vec.Port, .int .i64 a.In.Hops, .bool a.In.Up], [.int .i64 b.From, .bool b.Ack, .int .i64 b.Life, .int .i64 b.N, .int .i64 b.In.Kind, .int .i64 b.In.Port, .int .i64 b.In.Vec.Root, .int .i64 b.In.Vec.Cost, .int .i64 b.In.Vec.Bridge, .int .i64 b.In.Vec.Port, .int .i64 b.In.Hops, .bool b.In.Up]] = bif Wire.From a != Wire.From b then some ([[D.bool false]], []) else bif Wire.Ack a != Wire.Ack b then some ([[D.bool false]], []) else bif Wire.Life a != Wire.Life b then some ([[D.bool false]], []) else bif Wire.N a != Wire.N b then some ([[D.bool false]], []) else bif sameB (Wire.In a) (Wire.In b) then some ([[D.bool true]], []) else none := by kernel_rfl
theorem m101 (a : Wire) (b : Wire) (hpre : (o101 a b).1 = true) : evFn ⟨Go.Proofs.Try.prog, Hx, 101⟩ T51.call 0 Go.Proofs.Try.f101 [[.int .i64 a.From, .bool a.Ack, .int .i64 a.Life, .int .i64 a.N, .int .i64 a.In.Kind, .int .i64 a.In.Port, .int .i64 a.In.Vec.Root, .int .i64 a.In.Vec.Cost, .int .i64 a.In.Vec.Bridge, .int .i64 a.In.Vec.Port, .int .i64 a.In.Hops, .bool a.In.Up], [.int .i64 b.From, .bool b.Ack, .int .i64 b.Life, .int .i64 b.N, .int .i64 b.In.Kind, .int .i64 b.In.Port, .int .i64 b.In.Vec.Root, .int .i64 b.In.Vec.Cost, .int .i64 b.In.Vec.Bridge, .int .i64 b.In.Vec.Port, .int .i64 b.In.Hops, .bool b.In.Up]] = some (o101 a b).2 := by
  refine (r101 a b _).trans ?_
  show _ = (some ([[.bool (true)]], []) : Option (List Row × List Row))
  replace hpre : (sameB a b) = true := hpre
  have := sameB_eq hpre
  subst this
  simp only [bne_self_eq_false, cond_false, sameB_self, cond_true, Bool.not_true]
theorem s101 : SoundAt Go.Proofs.Try.prog Hx 101 c101 := soundAt_of T51_sound mixed Go.Proofs.Try.func101 (by kernel_rfl) (by
  intro rows r h
  unfold c101 at h
  split at h
  · rename_i a_From a_Ack a_Life a_N a_In_Kind a_In_Port a_In_Vec_Root a_In_Vec_Cost a_In_Vec_Bridge a_In_Vec_Port a_In_Hops a_In_Up b_From b_Ack b_Life b_N b_In_Kind b_In_Port b_In_Vec_Root b_In_Vec_Cost b_In_Vec_Bridge b_In_Vec_Port b_In_Hops b_In_Up
    obtain ⟨hp, hr⟩ := Prod.mk.inj (Option.some.inj h)
    subst hr
    exact ⟨_, m101 ⟨a_From, a_Ack, a_Life, a_N, ⟨a_In_Kind, a_In_Port, ⟨a_In_Vec_Root, a_In_Vec_Cost, a_In_Vec_Bridge, a_In_Vec_Port⟩, a_In_Hops, a_In_Up⟩⟩ ⟨b_From, b_Ack, b_Life, b_N, ⟨b_In_Kind, b_In_Port, ⟨b_In_Vec_Root, b_In_Vec_Cost, b_In_Vec_Bridge, b_In_Vec_Port⟩, b_In_Hops, b_In_Up⟩⟩ hp⟩
  · cases h)
def T101 : Table := (101, c101) :: T51
theorem T101_sound : Table.Sound Go.Proofs.Try.prog Hx T101 := Table.sound_cons s101 T51_sound
/- eqWireS -/
def o52 (a : List Wire) (b : List Wire) : Bool × List Row × List Row := (sameB a b && (decide (a.length ≤ 1048576)), [[.bool (true)]], [])
def c52 : Contract
  | [[.sl false 12 a], [.sl false 12 b]] => some (isS Wire false a && isS Wire false b && (o52 (deS Wire a) (deS Wire b)).1, (o52 (deS Wire a) (deS Wire b)).2.1, (o52 (deS Wire a) (deS Wire b)).2.2)
  | _ => none

noncomputable def k52_0 (n : Nat) : Ex → St → Option (List Row × List Row) := kThen (fun st ↦ runCode (Ctx.mk Go.Proofs.Try.prog Hx (52)) (Table.call T101) n (codeAt [1, 1, 1] (bodyOf Go.Proofs.Try.f52)) (Lv.mk 16 [] 16) st (kLeave (Ctx.P (Ctx.mk Go.Proofs.Try.prog Hx (52))) (List.zip (Array.toList (Go.Func.resultTypes Go.Proofs.Try.f52)) (Array.toList (Go.Func.results Go.Proofs.Try.f52))) [] [])) (kLeave (Ctx.P (Ctx.mk Go.Proofs.Try.prog Hx (52))) (List.zip (Array.toList (Go.Func.resultTypes Go.Proofs.Try.f52)) (Array.toList (Go.Func.results Go.Proofs.Try.f52))) [] [])
noncomputable def k52_1 (n : Nat) : Ex → St → Option (List Row × List Row) := kBlock (0) (k52_0 n)
noncomputable def S52_0 (a : List Wire) (b : List Wire) (i0 : Int) : St := St.mk [TV.v false [C.d (D.sl false 12 (enS false a))], TV.v false [C.d (D.sl false 12 (enS false b))], TV.v false [C.undef], TV.v false [C.undef], TV.v false [C.undef], TV.v false [C.d (D.int IntKind.i64 i0)], TV.v false [C.undef], TV.v false [C.undef], TV.v false [C.undef], TV.v false [C.undef], TV.v false [C.undef], TV.v false [C.undef], TV.v false [C.undef], TV.v false [C.undef], TV.v false [C.undef], TV.v false [C.undef], TV.v false [C.undef], TV.v false [C.undef], TV.v false [C.undef], TV.v false [C.undef], TV.v false [C.undef], TV.v false [C.undef], TV.v false [C.undef], TV.v false [C.undef], TV.v false [C.undef], TV.v false [C.undef], TV.v false [C.undef]] []
noncomputable def B52_0 (n : Nat) : St → (Ex → St → Option (List Row × List Row)) → Option (List Row × List Row) := runCode (Ctx.mk Go.Proofs.Try.prog Hx (52)) (Table.call T101) n (codeAt [1, 1, 0, 1, 0, 0] (bodyOf Go.Proofs.Try.f52)) (Lv.mk 0 [(0, 0)] 16)
noncomputable def X52_2 (a : List Wire) (b : List Wire) (i0 : Int) : St := St.mk [TV.v false [C.d (D.sl false 12 (enS false a))], TV.v false [C.d (D.sl false 12 (enS false b))], TV.v false [C.undef], TV.v false [C.undef], TV.v false [C.undef], TV.v false [C.d (D.int IntKind.i64 i0)], TV.v false [C.undef], TV.v false [C.undef], TV.v false [C.undef], TV.v false [C.undef], TV.v false [C.undef], TV.v false [C.d (D.int IntKind.i64 i0)], TV.v false [C.d (D.sl false 12 (enS false a))], TV.v false [C.d (D.int IntKind.i64 (Int.ofNat (List.length (enS false a))))], TV.v false [C.d (D.bool false)], TV.v false [C.undef], TV.v false [C.undef], TV.v false [C.undef], TV.v false [C.undef], TV.v false [C.undef], TV.v false [C.undef], TV.v false [C.undef], TV.v false [C.undef], TV.v false [C.undef], TV.v false [C.undef], TV.v false [C.undef], TV.v false [C.undef]] []
theorem q52_0 (a : List Wire) (b : List Wire) (n : Nat) (i0 : Int) (f : St → Option (List Row × List Row)) (K : Ex → St → Option (List Row × List Row)) : B52_0 n (S52_0 a b i0) (@kThen (List Row × List Row) (fun st ↦ f (St.head 0 35 134215728 st)) K) = bif decide (i0 < Int.ofNat (List.length (enS false a))) then bif decide (0 ≤ i0) && decide (i0 < Int.ofNat (List.length (enS false a))) then bif Leaf.fit false (Leaf.int IntKind.i64) (List.getD (List.getD (enS false a) (Int.toNat i0) []) 0 D.dead) && (Leaf.fit false Leaf.bool (List.getD (List.getD (enS false a) (Int.toNat i0) []) 1 D.dead) && (Leaf.fit false (Leaf.int IntKind.i64) (List.getD (List.getD (enS false a) (Int.toNat i0) []) 2 D.dead) && (Leaf.fit false (Leaf.int IntKind.i64) (List.getD (List.getD (enS false a) (Int.toNat i0) []) 3 D.dead) && (Leaf.fit false (Leaf.int IntKind.i64) (List.getD (List.getD (enS false a) (Int.toNat i0) []) 4 D.dead) && (Leaf.fit false (Leaf.int IntKind.i64) (List.getD (List.getD (enS false a) (Int.toNat i0) []) 5 D.dead) && (Leaf.fit false (Leaf.int IntKind.i64) (List.getD (List.getD (enS false a) (Int.toNat i0) []) 6 D.dead) && (Leaf.fit false (Leaf.int IntKind.i64) (List.getD (List.getD (enS false a) (Int.toNat i0) []) 7 D.dead) && (Leaf.fit false (Leaf.int IntKind.i64) (List.getD (List.getD (enS false a) (Int.toNat i0) []) 8 D.dead) && (Leaf.fit false (Leaf.int IntKind.i64) (List.getD (List.getD (enS false a) (Int.toNat i0) []) 9 D.dead) && (Leaf.fit false (Leaf.int IntKind.i64) (List.getD (List.getD (enS false a) (Int.toNat i0) []) 10 D.dead) && (Leaf.fit false Leaf.bool (List.getD (List.getD (enS false a) (Int.toNat i0) []) 11 D.dead) && true))))))))))) then bif decide (0 ≤ i0) && decide (i0 < Int.ofNat (List.length (enS false b))) then bif Leaf.fit false (Leaf.int IntKind.i64) (List.getD (List.getD (enS false b) (Int.toNat i0) []) 0 D.dead) && (Leaf.fit false Leaf.bool (List.getD (List.getD (enS false b) (Int.toNat i0) []) 1 D.dead) && (Leaf.fit false (Leaf.int IntKind.i64) (List.getD (List.getD (enS false b) (Int.toNat i0) []) 2 D.dead) && (Leaf.fit false (Leaf.int IntKind.i64) (List.getD (List.getD (enS false b) (Int.toNat i0) []) 3 D.dead) && (Leaf.fit false (Leaf.int IntKind.i64) (List.getD (List.getD (enS false b) (Int.toNat i0) []) 4 D.dead) && (Leaf.fit false (Leaf.int IntKind.i64) (List.getD (List.getD (enS false b) (Int.toNat i0) []) 5 D.dead) && (Leaf.fit false (Leaf.int IntKind.i64) (List.getD (List.getD (enS false b) (Int.toNat i0) []) 6 D.dead) && (Leaf.fit false (Leaf.int IntKind.i64) (List.getD (List.getD (enS false b) (Int.toNat i0) []) 7 D.dead) && (Leaf.fit false (Leaf.int IntKind.i64) (List.getD (List.getD (enS false b) (Int.toNat i0) []) 8 D.dead) && (Leaf.fit false (Leaf.int IntKind.i64) (List.getD (List.getD (enS false b) (Int.toNat i0) []) 9 D.dead) && (Leaf.fit false (Leaf.int IntKind.i64) (List.getD (List.getD (enS false b) (Int.toNat i0) []) 10 D.dead) && (Leaf.fit false Leaf.bool (List.getD (List.getD (enS false b) (Int.toNat i0) []) 11 D.dead) && true))))))))))) then bif sameB (Wire.mk (D.num (List.getD (List.getD (enS false a) (Int.toNat i0) []) 0 D.dead)) (D.flag (List.getD (List.getD (enS false a) (Int.toNat i0) []) 1 D.dead)) (D.num (List.getD (List.getD (enS false a) (Int.toNat i0) []) 2 D.dead)) (D.num (List.getD (List.getD (enS false a) (Int.toNat i0) []) 3 D.dead)) (In.mk (D.num (List.getD (List.getD (enS false a) (Int.toNat i0) []) 4 D.dead)) (D.num (List.getD (List.getD (enS false a) (Int.toNat i0) []) 5 D.dead)) (Vec.mk (D.num (List.getD (List.getD (enS false a) (Int.toNat i0) []) 6 D.dead)) (D.num (List.getD (List.getD (enS false a) (Int.toNat i0) []) 7 D.dead)) (D.num (List.getD (List.getD (enS false a) (Int.toNat i0) []) 8 D.dead)) (D.num (List.getD (List.getD (enS false a) (Int.toNat i0) []) 9 D.dead))) (D.num (List.getD (List.getD (enS false a) (Int.toNat i0) []) 10 D.dead)) (D.flag (List.getD (List.getD (enS false a) (Int.toNat i0) []) 11 D.dead)))) (Wire.mk (D.num (List.getD (List.getD (enS false b) (Int.toNat i0) []) 0 D.dead)) (D.flag (List.getD (List.getD (enS false b) (Int.toNat i0) []) 1 D.dead)) (D.num (List.getD (List.getD (enS false b) (Int.toNat i0) []) 2 D.dead)) (D.num (List.getD (List.getD (enS false b) (Int.toNat i0) []) 3 D.dead)) (In.mk (D.num (List.getD (List.getD (enS false b) (Int.toNat i0) []) 4 D.dead)) (D.num (List.getD (List.getD (enS false b) (Int.toNat i0) []) 5 D.dead)) (Vec.mk (D.num (List.getD (List.getD (enS false b) (Int.toNat i0) []) 6 D.dead)) (D.num (List.getD (List.getD (enS false b) (Int.toNat i0) []) 7 D.dead)) (D.num (List.getD (List.getD (enS false b) (Int.toNat i0) []) 8 D.dead)) (D.num (List.getD (List.getD (enS false b) (Int.toNat i0) []) 9 D.dead))) (D.num (List.getD (List.getD (enS false b) (Int.toNat i0) []) 10 D.dead)) (D.flag (List.getD (List.getD (enS false b) (Int.toNat i0) []) 11 D.dead)))) then f (S52_0 a b (IntKind.wrap IntKind.i64 (i0 + 1))) else none else none else none else none else none else K (Ex.exit 0) (X52_2 a b i0) := by kernel_rfl
theorem aX52_2 (a : List Wire) (b : List Wire) (n : Nat) (i0 : Int) : k52_1 n (Ex.exit 0) (X52_2 a b i0) = some ([[D.bool true]], []) := by kernel_rfl
theorem r52 (a : List Wire) (b : List Wire) (n : Nat) : evFn ⟨Go.Proofs.Try.prog, Hx, 52⟩ T101.call n Go.Proofs.Try.f52 [[.sl false 12 (enS false a)], [.sl false 12 (enS false b)]] = bif Int.ofNat (List.length (enS false a)) != Int.ofNat (List.length (enS false b)) then some ([[D.bool false]], []) else loopRun (B52_0 n) 0 35 134215728 n (S52_0 a b (0)) (k52_1 n) := by kernel_rfl
theorem m52 (a : List Wire) (b : List Wire) (hpre : (o52 a b).1 = true) : evFn ⟨Go.Proofs.Try.prog, Hx, 52⟩ T101.call (a.length + 1) Go.Proofs.Try.f52 [[.sl false 12 (enS false a)], [.sl false 12 (enS false b)]] = some (o52 a b).2 := by
  refine (r52 a b _).trans ?_
  show _ = (some ([[.bool (true)]], []) : Option (List Row × List Row))
  replace hpre : (sameB a b && (decide (a.length ≤ 1048576))) = true := hpre
  rw [Bool.and_eq_true] at hpre
  obtain ⟨h0, h1⟩ := hpre
  have hlen : a.length ≤ 1048576 := of_decide_eq_true h1
  have := sameB_eq h0
  subst this
  simp only [bne_self_eq_false, cond_false]
  refine loop_list (xs := a) (fun i (_ : Unit) => S52_0 a a (Int.ofNat i)) (fun _ _ => True) (fun _ _ _ => some ([[D.bool true]], [])) ?_ ?_ (a.length + 1) () (by omega) trivial
  · rintro _ _ f
    refine (q52_0 a a _ _ f _).trans ?_
    simp only [enS_length, dec_lt, Nat.lt_irrefl, decide_false, cond_false]
    exact aX52_2 a a _ _
  · rintro i _ hi _ f hf
    refine (q52_0 a a _ _ f _).trans ?_
    simp only [enS_length, toNat_of, dec_lt, dec_ge, enS_get _ hi, hi, wrap_succ (show i < 4611686018427387904 by omega), decide_true, cond_true, Bool.and_self, sameB_self, bne_self_eq_false, cond_false]
    exact hf () trivial
theorem s52 : SoundAt Go.Proofs.Try.prog Hx 52 c52 := soundAt_of T101_sound mixed Go.Proofs.Try.func52 (by kernel_rfl) (by
  intro rows r h
  unfold c52 at h
  split at h
  · rename_i a b
    obtain ⟨hp, hr⟩ := Prod.mk.inj (Option.some.inj h)
    subst hr
    simp only [Bool.and_eq_true] at hp
    obtain ⟨⟨hs0, hs1⟩, hp⟩ := hp
    obtain ⟨xs0, rfl⟩ := isS_ex hs0
    obtain ⟨xs1, rfl⟩ := isS_ex hs1
    simp only [deS_enS] at hp ⊢
    exact ⟨_, m52 xs0 xs1 hp⟩
  · cases h)
def T52 : Table := (52, c52) :: T101
theorem T52_sound : Table.Sound Go.Proofs.Try.prog Hx T52 := Table.sound_cons s52 T101_sound
/- eqBoolS -/
def o53 (a : List Bool) (b : List Bool) : Bool × List Row × List Row := (sameB a b && (decide (a.length ≤ 1048576)), [[.bool (true)]], [])
def c53 : Contract
  | [[.sl false 1 a], [.sl false 1 b]] => some (isS Bool false a && isS Bool false b && (o53 (deS Bool a) (deS Bool b)).1, (o53 (deS Bool a) (deS Bool b)).2.1, (o53 (deS Bool a) (deS Bool b)).2.2)
  | _ => none

noncomputable def k53_0 (n : Nat) : Ex → St → Option (List Row × List Row) := kThen (fun st ↦ runCode (Ctx.mk Go.Proofs.Try.prog Hx (53)) (Table.call T52) n (codeAt [1, 1, 1] (bodyOf Go.Proofs.Try.f53)) (Lv.mk 16 [] 16) st (kLeave (Ctx.P (Ctx.mk Go.Proofs.Try.prog Hx (53))) (List.zip (Array.toList (Go.Func.resultTypes Go.Proofs.Try.f53)) (Array.toList (Go.Func.results Go.Proofs.Try.f53))) [] [])) (kLeave (Ctx.P (Ctx.mk Go.Proofs.Try.prog Hx (53))) (List.zip (Array.toList (Go.Func.resultTypes Go.Proofs.Try.f53)) (Array.toList (Go.Func.results Go.Proofs.Try.f53))) [] [])
noncomputable def k53_1 (n : Nat) : Ex → St → Option (List Row × List Row) := kBlock (0) (k53_0 n)
noncomputable def S53_0 (a : List Bool) (b : List Bool) (i0 : Int) : St := St.mk [TV.v false [C.d (D.sl false 1 (enS false a))], TV.v false [C.d (D.sl false 1 (enS false b))], TV.v false [C.undef], TV.v false [C.undef], TV.v false [C.undef], TV.v false [C.d (D.int IntKind.i64 i0)], TV.v false [C.undef], TV.v false [C.undef], TV.v false [C.undef], TV.v false [C.undef], TV.v false [C.undef], TV.v false [C.undef], TV.v false [C.undef], TV.v false [C.undef], TV.v false [C.undef], TV.v false [C.undef], TV.v false [C.undef], TV.v false [C.undef], TV.v false [C.undef], TV.v false [C.undef], TV.v false [C.undef], TV.v false [C.undef], TV.v false [C.undef], TV.v false [C.undef], TV.v false [C.undef], TV.v false [C.undef]] []
noncomputable def B53_0 (n : Nat) : St → (Ex → St → Option (List Row × List Row)) → Option (List Row × List Row) := runCode (Ctx.mk Go.Proofs.Try.prog Hx (53)) (Table.call T52) n (codeAt [1, 1, 0, 1, 0, 0] (bodyOf Go.Proofs.Try.f53)) (Lv.mk 0 [(0, 0)] 16)
noncomputable def X53_2 (a : List Bool) (b : List Bool) (i0 : Int) : St := St.mk [TV.v false [C.d (D.sl false 1 (enS false a))], TV.v false [C.d (D.sl false 1 (enS false b))], TV.v false [C.undef], TV.v false [C.undef], TV.v false [C.d (D.bool false)], TV.v false [C.d (D.int IntKind.i64 i0)], TV.v false [C.undef], TV.v false [C.undef], TV.v false [C.undef], TV.v false [C.undef], TV.v false [C.undef], TV.v false [C.d (D.int IntKind.i64 i0)], TV.v false [C.d (D.sl false 1 (enS false a))], TV.v false [C.d (D.int IntKind.i64 (Int.ofNat (List.length (enS false a))))], TV.v false [C.d (D.bool true)], TV.v false [C.undef], TV.v false [C.undef], TV.v false [C.d (D.sl false 1 (enS false a))], TV.v false [C.d (D.int IntKind.i64 i0)], TV.v false [C.rptr (List.getD (enS false a) (Int.toNat i0) [])], TV.v false [C.d (D.bool (D.flag (List.getD (List.getD (enS false a) (Int.toNat i0) []) 0 D.dead)))], TV.v false [C.d (D.sl false 1 (enS false b))], TV.v false [C.d (D.int IntKind.i64 i0)], TV.v false [C.rptr (List.getD (enS false b) (Int.toNat i0) [])], TV.v false [C.d (D.bool (D.flag (List.getD (List.getD (enS false b) (Int.toNat i0) []) 0 D.dead)))], TV.v false [C.d (D.bool true)]] []
noncomputable def X53_3 (a : List Bool) (b : List Bool) (i0 : Int) : St := St.mk [TV.v false [C.d (D.sl false 1 (enS false a))], TV.v false [C.d (D.sl false 1 (enS false b))], TV.v false [C.undef], TV.v false [C.undef], TV.v false [C.undef], TV.v false [C.d (D.int IntKind.i64 i0)], TV.v false [C.undef], TV.v false [C.undef], TV.v false [C.undef], TV.v false [C.undef], TV.v false [C.undef], TV.v false [C.d (D.int IntKind.i64 i0)], TV.v false [C.d (D.sl false 1 (enS false a))], TV.v false [C.d (D.int IntKind.i64 (Int.ofNat (List.length (enS false a))))], TV.v false [C.d (D.bool false)], TV.v false [C.undef], TV.v false [C.undef], TV.v false [C.undef], TV.v false [C.undef], TV.v false [C.undef], TV.v false [C.undef], TV.v false [C.undef], TV.v false [C.undef], TV.v false [C.undef], TV.v false [C.undef], TV.v false [C.undef]] []
theorem q53_0 (a : List Bool) (b : List Bool) (n : Nat) (i0 : Int) (f : St → Option (List Row × List Row)) (K : Ex → St → Option (List Row × List Row)) : B53_0 n (S53_0 a b i0) (@kThen (List Row × List Row) (fun st ↦ f (St.head 0 35 67106864 st)) K) = bif decide (i0 < Int.ofNat (List.length (enS false a))) then bif decide (0 ≤ i0) && decide (i0 < Int.ofNat (List.length (enS false a))) then bif Leaf.fit false Leaf.bool (List.getD (List.getD (enS false a) (Int.toNat i0) []) 0 D.dead) && true then bif decide (0 ≤ i0) && decide (i0 < Int.ofNat (List.length (enS false b))) then bif Leaf.fit false Leaf.bool (List.getD (List.getD (enS false b) (Int.toNat i0) []) 0 D.dead) && true then bif D.flag (List.getD (List.getD (enS false a) (Int.toNat i0) []) 0 D.dead) != D.flag (List.getD (List.getD (enS false b) (Int.toNat i0) []) 0 D.dead) then K Ex.ret (X53_2 a b i0) else f (S53_0 a b (IntKind.wrap IntKind.i64 (i0 + 1))) else none else none else none else none else K (Ex.exit 0) (X53_3 a b i0) := by kernel_rfl
theorem aX53_2 (a : List Bool) (b : List Bool) (n : Nat) (i0 : Int) : k53_1 n Ex.ret (X53_2 a b i0) = some ([[D.bool false]], []) := by kernel_rfl
theorem aX53_3 (a : List Bool) (b : List Bool) (n : Nat) (i0 : Int) : k53_1 n (Ex.exit 0) (X53_3 a b i0) = some ([[D.bool true]], []) := by kernel_rfl
theorem r53 (a : List Bool) (b : List Bool) (n : Nat) : evFn ⟨Go.Proofs.Try.prog, Hx, 53⟩ T52.call n Go.Proofs.Try.f53 [[.sl false 1 (enS false a)], [.sl false 1 (enS false b)]] = bif Int.ofNat (List.length (enS false a)) != Int.ofNat (List.length (enS false b)) then some ([[D.bool false]], []) else loopRun (B53_0 n) 0 35 67106864 n (S53_0 a b (0)) (k53_1 n) := by kernel_rfl
theorem m53 (a : List Bool) (b : List Bool) (hpre : (o53 a b).1 = true) : evFn ⟨Go.Proofs.Try.prog, Hx, 53⟩ T52.call (a.length + 1) Go.Proofs.Try.f53 [[.sl false 1 (enS false a)], [.sl false 1 (enS false b)]] = some (o53 a b).2 := by
  refine (r53 a b _).trans ?_
  show _ = (some ([[.bool (true)]], []) : Option (List Row × List Row))
  replace hpre : (sameB a b && (decide (a.length ≤ 1048576))) = true := hpre
  rw [Bool.and_eq_true] at hpre
  obtain ⟨h0, h1⟩ := hpre
  have hlen : a.length ≤ 1048576 := of_decide_eq_true h1
  have := sameB_eq h0
  subst this
  simp only [bne_self_eq_false, cond_false]
  refine loop_list (xs := a) (fun i (_ : Unit) => S53_0 a a (Int.ofNat i)) (fun _ _ => True) (fun _ _ _ => some ([[D.bool true]], [])) ?_ ?_ (a.length + 1) () (by omega) trivial
  · rintro _ _ f
    refine (q53_0 a a _ _ f _).trans ?_
    simp only [enS_length, dec_lt, Nat.lt_irrefl, decide_false, cond_false]
    exact aX53_3 a a _ _
  · rintro i _ hi _ f hf
    refine (q53_0 a a _ _ f _).trans ?_
    simp only [enS_length, toNat_of, dec_lt, dec_ge, enS_get _ hi, hi, wrap_succ (show i < 4611686018427387904 by omega), decide_true, cond_true, Bool.and_self, sameB_self, bne_self_eq_false, cond_false]
    exact hf () trivial
theorem s53 : SoundAt Go.Proofs.Try.prog Hx 53 c53 := soundAt_of T52_sound mixed Go.Proofs.Try.func53 (by kernel_rfl) (by
  intro rows r h
  unfold c53 at h
  split at h
  · rename_i a b
    obtain ⟨hp, hr⟩ := Prod.mk.inj (Option.some.inj h)
    subst hr
    simp only [Bool.and_eq_true] at hp
    obtain ⟨⟨hs0, hs1⟩, hp⟩ := hp
    obtain ⟨xs0, rfl⟩ := isS_ex hs0
    obtain ⟨xs1, rfl⟩ := isS_ex hs1
    simp only [deS_enS] at hp ⊢
    exact ⟨_, m53 xs0 xs1 hp⟩
  · cases h)
def T53 : Table := (53, c53) :: T52
theorem T53_sound : Table.Sound Go.Proofs.Try.prog Hx T53 := Table.sound_cons s53 T52_sound
/- eqOut -/
def o102 (a : Out) (b : Out) : Bool × List Row × List Row := (sameB a b, [[.bool (true)]], [])
def c102 : Contract
  | [[.int .i64 a_Kind, .int .i64 a_Port, .int .i64 a_Vec_Root, .int .i64 a_Vec_Cost, .int .i64 a_Vec_Bridge, .int .i64 a_Vec_Port, .int .i64 a_Hops, .bool a_On], [.int .i64 b_Kind, .int .i64 b_Port, .int .i64 b_Vec_Root, .int .i64 b_Vec_Cost, .int .i64 b_Vec_Bridge, .int .i64 b_Vec_Port, .int .i64 b_Hops, .bool b_On]] => some ((o102 ⟨a_Kind, a_Port, ⟨a_Vec_Root, a_Vec_Cost, a_Vec_Bridge, a_Vec_Port⟩, a_Hops, a_On⟩ ⟨b_Kind, b_Port, ⟨b_Vec_Root, b_Vec_Cost, b_Vec_Bridge, b_Vec_Port⟩, b_Hops, b_On⟩).1, (o102 ⟨a_Kind, a_Port, ⟨a_Vec_Root, a_Vec_Cost, a_Vec_Bridge, a_Vec_Port⟩, a_Hops, a_On⟩ ⟨b_Kind, b_Port, ⟨b_Vec_Root, b_Vec_Cost, b_Vec_Bridge, b_Vec_Port⟩, b_Hops, b_On⟩).2.1, (o102 ⟨a_Kind, a_Port, ⟨a_Vec_Root, a_Vec_Cost, a_Vec_Bridge, a_Vec_Port⟩, a_Hops, a_On⟩ ⟨b_Kind, b_Port, ⟨b_Vec_Root, b_Vec_Cost, b_Vec_Bridge, b_Vec_Port⟩, b_Hops, b_On⟩).2.2)
  | _ => none

theorem r102 (a : Out) (b : Out) (n : Nat) : evFn ⟨Go.Proofs.Try.prog, Hx, 102⟩ T53.call n Go.Proofs.Try.f102 [[.int .i64 a.Kind, .int .i64 a.Port, .int .i64 a.Vec.Root, .int .i64 a.Vec.Cost, .int .i64 a.Vec.Bridge, .int .i64 a.Vec.Port, .int .i64 a.Hops, .bool a.On], [.int .i64 b.Kind, .int .i64 b.Port, .int .i64 b.Vec.Root, .int .i64 b.Vec.Cost, .int .i64 b.Vec.Bridge, .int .i64 b.Vec.Port, .int .i64 b.Hops, .bool b.On]] = bif Out.Kind a != Out.Kind b then some ([[D.bool false]], []) else bif Out.Port a != Out.Port b then some ([[D.bool false]], []) else bif sameB (Out.Vec a) (Out.Vec b) then bif Out.Hops a != Out.Hops b then some ([[D.bool false]], []) else bif Out.On a != Out.On b then some ([[D.bool false]], []) else some ([[D.bool true]], []) else none := by kernel_rfl
theorem m102 (a : Out) (b : Out) (hpre : (o102 a b).1 = true) : evFn ⟨Go.Proofs.Try.prog, Hx, 102⟩ T53.call 0 Go.Proofs.Try.f102 [[.int .i64 a.Kind, .int .i64 a.Port, .int .i64 a.Vec.Root, .int .i64 a.Vec.Cost, .int .i64 a.Vec.Bridge, .int .i64 a.Vec.Port, .int .i64 a.Hops, .bool a.On], [.int .i64 b.Kind, .int .i64 b.Port, .int .i64 b.Vec.Root, .int .i64 b.Vec.Cost, .int .i64 b.Vec.Bridge, .int .i64 b.Vec.Port, .int .i64 b.Hops, .bool b.On]] = some (o102 a b).2 := by
  refine (r102 a b _).trans ?_
  show _ = (some ([[.bool (true)]], []) : Option (List Row × List Row))
  replace hpre : (sameB a b) = true := hpre
  have := sameB_eq hpre
  subst this
  simp only [bne_self_eq_false, cond_false, sameB_self, cond_true, Bool.not_true]
theorem s102 : SoundAt Go.Proofs.Try.prog Hx 102 c102 := soundAt_of T53_sound mixed Go.Proofs.Try.func102 (by kernel_rfl) (by
  intro rows r h
  unfold c102 at h
  split at h
  · rename_i a_Kind a_Port a_Vec_Root a_Vec_Cost a_Vec_Bridge a_Vec_Port a_Hops a_On b_Kind b_Port b_Vec_Root b_Vec_Cost b_Vec_Bridge b_Vec_Port b_Hops b_On
    obtain ⟨hp, hr⟩ := Prod.mk.inj (Option.some.inj h)
    subst hr
    exact ⟨_, m102 ⟨a_Kind, a_Port, ⟨a_Vec_Root, a_Vec_Cost, a_Vec_Bridge, a_Vec_Port⟩, a_Hops, a_On⟩ ⟨b_Kind, b_Port, ⟨b_Vec_Root, b_Vec_Cost, b_Vec_Bridge, b_Vec_Port⟩, b_Hops, b_On⟩ hp⟩
  · cases h)
def T102 : Table := (102, c102) :: T53
theorem T102_sound : Table.Sound Go.Proofs.Try.prog Hx T102 := Table.sound_cons s102 T53_sound
/- eqOutS -/
def o54 (a : List Out) (b : List Out) : Bool × List Row × List Row := (sameB a b && (decide (a.length ≤ 1048576)), [[.bool (true)]], [])
def c54 : Contract
  | [[.sl false 8 a], [.sl false 8 b]] => some (isS Out false a && isS Out false b && (o54 (deS Out a) (deS Out b)).1, (o54 (deS Out a) (deS Out b)).2.1, (o54 (deS Out a) (deS Out b)).2.2)
  | _ => none

noncomputable def k54_0 (n : Nat) : Ex → St → Option (List Row × List Row) := kThen (fun st ↦ runCode (Ctx.mk Go.Proofs.Try.prog Hx (54)) (Table.call T102) n (codeAt [1, 1, 1] (bodyOf Go.Proofs.Try.f54)) (Lv.mk 16 [] 16) st (kLeave (Ctx.P (Ctx.mk Go.Proofs.Try.prog Hx (54))) (List.zip (Array.toList (Go.Func.resultTypes Go.Proofs.Try.f54)) (Array.toList (Go.Func.results Go.Proofs.Try.f54))) [] [])) (kLeave (Ctx.P (Ctx.mk Go.Proofs.Try.prog Hx (54))) (List.zip (Array.toList (Go.Func.resultTypes Go.Proofs.Try.f54)) (Array.toList (Go.Func.results Go.Proofs.Try.f54))) [] [])
noncomputable def k54_1 (n : Nat) : Ex → St → Option (List Row × List Row) := kBlock (0) (k54_0 n)
noncomputable def S54_0 (a : List Out) (b : List Out) (i0 : Int) : St := St.mk [TV.v false [C.d (D.sl false 8 (enS false a))], TV.v false [C.d (D.sl false 8 (enS false b))], TV.v false [C.undef], TV.v false [C.undef], TV.v false [C.undef], TV.v false [C.d (D.int IntKind.i64 i0)], TV.v false [C.undef], TV.v false [C.undef], TV.v false [C.undef], TV.v false [C.undef], TV.v false [C.undef], TV.v false [C.undef], TV.v false [C.undef], TV.v false [C.undef], TV.v false [C.undef], TV.v false [C.undef], TV.v false [C.undef], TV.v false [C.undef], TV.v false [C.undef], TV.v false [C.undef], TV.v false [C.undef], TV.v false [C.undef], TV.v false [C.undef], TV.v false [C.undef], TV.v false [C.undef], TV.v false [C.undef], TV.v false [C.undef]] []
noncomputable def B54_0 (n : Nat) : St → (Ex → St → Option (List Row × List Row)) → Option (List Row × List Row) := runCode (Ctx.mk Go.Proofs.Try.prog Hx (54)) (Table.call T102) n (codeAt [1, 1, 0, 1, 0, 0] (bodyOf Go.Proofs.Try.f54)) (Lv.mk 0 [(0, 0)] 16)
noncomputable def X54_2 (a : List Out) (b : List Out) (i0 : Int) : St := St.mk [TV.v false [C.d (D.sl false 8 (enS false a))], TV.v false [C.d (D.sl false 8 (enS false b))], TV.v false [C.undef], TV.v false [C.undef], TV.v false [C.undef], TV.v false [C.d (D.int IntKind.i64 i0)], TV.v false [C.undef], TV.v false [C.undef], TV.v false [C.undef], TV.v false [C.undef], TV.v false [C.undef], TV.v false [C.d (D.int IntKind.i64 i0)], TV.v false [C.d (D.sl false 8 (enS false a))], TV.v false [C.d (D.int IntKind.i64 (Int.ofNat (List.length (enS false a))))], TV.v false [C.d (D.bool false)], TV.v false [C.undef], TV.v false [C.undef], TV.v false [C.undef], TV.v false [C.undef], TV.v false [C.undef], TV.v false [C.undef], TV.v false [C.undef], TV.v false [C.undef], TV.v false [C.undef], TV.v false [C.undef], TV.v false [C.undef], TV.v false [C.undef]] []
theorem q54_0 (a : List Out) (b : List Out) (n : Nat) (i0 : Int) (f : St → Option (List Row × List Row)) (K : Ex → St → Option (List Row × List Row)) : B54_0 n (S54_0 a b i0) (@kThen (List Row × List Row) (fun st ↦ f (St.head 0 35 134215728 st)) K) = bif decide (i0 < Int.ofNat (List.length (enS false a))) then bif decide (0 ≤ i0) && decide (i0 < Int.ofNat (List.length (enS false a))) then bif Leaf.fit false (Leaf.int IntKind.i64) (List.getD (List.getD (enS false a) (Int.toNat i0) []) 0 D.dead) && (Leaf.fit false (Leaf.int IntKind.i64) (List.getD (List.getD (enS false a) (Int.toNat i0) []) 1 D.dead) && (Leaf.fit false (Leaf.int IntKind.i64) (List.getD (List.getD (enS false a) (Int.toNat i0) []) 2 D.dead) && (Leaf.fit false (Leaf.int IntKind.i64) (List.getD (List.getD (enS false a) (Int.toNat i0) []) 3 D.dead) && (Leaf.fit false (Leaf.int IntKind.i64) (List.getD (List.getD (enS false a) (Int.toNat i0) []) 4 D.dead) && (Leaf.fit false (Leaf.int IntKind.i64) (List.getD (List.getD (enS false a) (Int.toNat i0) []) 5 D.dead) && (Leaf.fit false (Leaf.int IntKind.i64) (List.getD (List.getD (enS false a) (Int.toNat i0) []) 6 D.dead) && (Leaf.fit false Leaf.bool (List.getD (List.getD (enS false a) (Int.toNat i0) []) 7 D.dead) && true))))))) then bif decide (0 ≤ i0) && decide (i0 < Int.ofNat (List.length (enS false b))) then bif Leaf.fit false (Leaf.int IntKind.i64) (List.getD (List.getD (enS false b) (Int.toNat i0) []) 0 D.dead) && (Leaf.fit false (Leaf.int IntKind.i64) (List.getD (List.getD (enS false b) (Int.toNat i0) []) 1 D.dead) && (Leaf.fit false (Leaf.int IntKind.i64) (List.getD (List.getD (enS false b) (Int.toNat i0) []) 2 D.dead) && (Leaf.fit false (Leaf.int IntKind.i64) (List.getD (List.getD (enS false b) (Int.toNat i0) []) 3 D.dead) && (Leaf.fit false (Leaf.int IntKind.i64) (List.getD (List.getD (enS false b) (Int.toNat i0) []) 4 D.dead) && (Leaf.fit false (Leaf.int IntKind.i64) (List.getD (List.getD (enS false b) (Int.toNat i0) []) 5 D.dead) && (Leaf.fit false (Leaf.int IntKind.i64) (List.getD (List.getD (enS false b) (Int.toNat i0) []) 6 D.dead) && (Leaf.fit false Leaf.bool (List.getD (List.getD (enS false b) (Int.toNat i0) []) 7 D.dead) && true))))))) then bif sameB (Out.mk (D.num (List.getD (List.getD (enS false a) (Int.toNat i0) []) 0 D.dead)) (D.num (List.getD (List.getD (enS false a) (Int.toNat i0) []) 1 D.dead)) (Vec.mk (D.num (List.getD (List.getD (enS false a) (Int.toNat i0) []) 2 D.dead)) (D.num (List.getD (List.getD (enS false a) (Int.toNat i0) []) 3 D.dead)) (D.num (List.getD (List.getD (enS false a) (Int.toNat i0) []) 4 D.dead)) (D.num (List.getD (List.getD (enS false a) (Int.toNat i0) []) 5 D.dead))) (D.num (List.getD (List.getD (enS false a) (Int.toNat i0) []) 6 D.dead)) (D.flag (List.getD (List.getD (enS false a) (Int.toNat i0) []) 7 D.dead))) (Out.mk (D.num (List.getD (List.getD (enS false b) (Int.toNat i0) []) 0 D.dead)) (D.num (List.getD (List.getD (enS false b) (Int.toNat i0) []) 1 D.dead)) (Vec.mk (D.num (List.getD (List.getD (enS false b) (Int.toNat i0) []) 2 D.dead)) (D.num (List.getD (List.getD (enS false b) (Int.toNat i0) []) 3 D.dead)) (D.num (List.getD (List.getD (enS false b) (Int.toNat i0) []) 4 D.dead)) (D.num (List.getD (List.getD (enS false b) (Int.toNat i0) []) 5 D.dead))) (D.num (List.getD (List.getD (enS false b) (Int.toNat i0) []) 6 D.dead)) (D.flag (List.getD (List.getD (enS false b) (Int.toNat i0) []) 7 D.dead))) then f (S54_0 a b (IntKind.wrap IntKind.i64 (i0 + 1))) else none else none else none else none else none else K (Ex.exit 0) (X54_2 a b i0) := by kernel_rfl
theorem aX54_2 (a : List Out) (b : List Out) (n : Nat) (i0 : Int) : k54_1 n (Ex.exit 0) (X54_2 a b i0) = some ([[D.bool true]], []) := by kernel_rfl
theorem r54 (a : List Out) (b : List Out) (n : Nat) : evFn ⟨Go.Proofs.Try.prog, Hx, 54⟩ T102.call n Go.Proofs.Try.f54 [[.sl false 8 (enS false a)], [.sl false 8 (enS false b)]] = bif Int.ofNat (List.length (enS false a)) != Int.ofNat (List.length (enS false b)) then some ([[D.bool false]], []) else loopRun (B54_0 n) 0 35 134215728 n (S54_0 a b (0)) (k54_1 n) := by kernel_rfl
theorem m54 (a : List Out) (b : List Out) (hpre : (o54 a b).1 = true) : evFn ⟨Go.Proofs.Try.prog, Hx, 54⟩ T102.call (a.length + 1) Go.Proofs.Try.f54 [[.sl false 8 (enS false a)], [.sl false 8 (enS false b)]] = some (o54 a b).2 := by
  refine (r54 a b _).trans ?_
  show _ = (some ([[.bool (true)]], []) : Option (List Row × List Row))
  replace hpre : (sameB a b && (decide (a.length ≤ 1048576))) = true := hpre
  rw [Bool.and_eq_true] at hpre
  obtain ⟨h0, h1⟩ := hpre
  have hlen : a.length ≤ 1048576 := of_decide_eq_true h1
  have := sameB_eq h0
  subst this
  simp only [bne_self_eq_false, cond_false]
  refine loop_list (xs := a) (fun i (_ : Unit) => S54_0 a a (Int.ofNat i)) (fun _ _ => True) (fun _ _ _ => some ([[D.bool true]], [])) ?_ ?_ (a.length + 1) () (by omega) trivial
  · rintro _ _ f
    refine (q54_0 a a _ _ f _).trans ?_
    simp only [enS_length, dec_lt, Nat.lt_irrefl, decide_false, cond_false]
    exact aX54_2 a a _ _
  · rintro i _ hi _ f hf
    refine (q54_0 a a _ _ f _).trans ?_
    simp only [enS_length, toNat_of, dec_lt, dec_ge, enS_get _ hi, hi, wrap_succ (show i < 4611686018427387904 by omega), decide_true, cond_true, Bool.and_self, sameB_self, bne_self_eq_false, cond_false]
    exact hf () trivial
theorem s54 : SoundAt Go.Proofs.Try.prog Hx 54 c54 := soundAt_of T102_sound mixed Go.Proofs.Try.func54 (by kernel_rfl) (by
  intro rows r h
  unfold c54 at h
  split at h
  · rename_i a b
    obtain ⟨hp, hr⟩ := Prod.mk.inj (Option.some.inj h)
    subst hr
    simp only [Bool.and_eq_true] at hp
    obtain ⟨⟨hs0, hs1⟩, hp⟩ := hp
    obtain ⟨xs0, rfl⟩ := isS_ex hs0
    obtain ⟨xs1, rfl⟩ := isS_ex hs1
    simp only [deS_enS] at hp ⊢
    exact ⟨_, m54 xs0 xs1 hp⟩
  · cases h)
def T54 : Table := (54, c54) :: T102
theorem T54_sound : Table.Sound Go.Proofs.Try.prog Hx T54 := Table.sound_cons s54 T102_sound
/- eqBox -/
def o12 (a : Box) (b : Box) : Bool × List Row × List Row := (sameB a b && (Box.small a), [[.bool (true)]], [])
def c12 : Contract
  | [[.int .i64 a_Id, .int .i64 a_Ports, .int .i64 a_Reg_Epoch, .int .i64 a_Reg_Owner, .int .i64 a_Reg_Pair, .sl false 7 a_Two, .sl false 12 a_Net, .sl false 1 a_Gates, .sl false 8 a_Line, .sl false 8 a_Said], [.int .i64 b_Id, .int .i64 b_Ports, .int .i64 b_Reg_Epoch, .int .i64 b_Reg_Owner, .int .i64 b_Reg_Pair, .sl false 7 b_Two, .sl false 12 b_Net, .sl false 1 b_Gates, .sl false 8 b_Line, .sl false 8 b_Said]] => some (isS Minder false a_Two && isS Wire false a_Net && isS Bool false a_Gates && isS In false a_Line && isS Out false a_Said && isS Minder false b_Two && isS Wire false b_Net && isS Bool false b_Gates && isS In false b_Line && isS Out false b_Said && (o12 ⟨a_Id, a_Ports, ⟨a_Reg_Epoch, a_Reg_Owner, a_Reg_Pair⟩, (deS Minder a_Two), (deS Wire a_Net), (deS Bool a_Gates), (deS In a_Line), (deS Out a_Said)⟩ ⟨b_Id, b_Ports, ⟨b_Reg_Epoch, b_Reg_Owner, b_Reg_Pair⟩, (deS Minder b_Two), (deS Wire b_Net), (deS Bool b_Gates), (deS In b_Line), (deS Out b_Said)⟩).1, (o12 ⟨a_Id, a_Ports, ⟨a_Reg_Epoch, a_Reg_Owner, a_Reg_Pair⟩, (deS Minder a_Two), (deS Wire a_Net), (deS Bool a_Gates), (deS In a_Line), (deS Out a_Said)⟩ ⟨b_Id, b_Ports, ⟨b_Reg_Epoch, b_Reg_Owner, b_Reg_Pair⟩, (deS Minder b_Two), (deS Wire b_Net), (deS Bool b_Gates), (deS In b_Line), (deS Out b_Said)⟩).2.1, (o12 ⟨a_Id, a_Ports, ⟨a_Reg_Epoch, a_Reg_Owner, a_Reg_Pair⟩, (deS Minder a_Two), (deS Wire a_Net), (deS Bool a_Gates), (deS In a_Line), (deS Out a_Said)⟩ ⟨b_Id, b_Ports, ⟨b_Reg_Epoch, b_Reg_Owner, b_Reg_Pair⟩, (deS Minder b_Two), (deS Wire b_Net), (deS Bool b_Gates), (deS In b_Line), (deS Out b_Said)⟩).2.2)
  | _ => none

theorem r12 (a : Box) (b : Box) (n : Nat) : evFn ⟨Go.Proofs.Try.prog, Hx, 12⟩ T54.call n Go.Proofs.Try.f12 [[.int .i64 a.Id, .int .i64 a.Ports, .int .i64 a.Reg.Epoch, .int .i64 a.Reg.Owner, .int .i64 a.Reg.Pair, .sl false 7 (enS false a.Two), .sl false 12 (enS false a.Net), .sl false 1 (enS false a.Gates), .sl false 8 (enS false a.Line), .sl false 8 (enS false a.Said)], [.int .i64 b.Id, .int .i64 b.Ports, .int .i64 b.Reg.Epoch, .int .i64 b.Reg.Owner, .int .i64 b.Reg.Pair, .sl false 7 (enS false b.Two), .sl false 12 (enS false b.Net), .sl false 1 (enS false b.Gates), .sl false 8 (enS false b.Line), .sl false 8 (enS false b.Said)]] = bif Box.Id a != Box.Id b then some ([[D.bool false]], []) else bif Box.Ports a != Box.Ports b then some ([[D.bool false]], []) else bif sameB (Box.Reg a) (Box.Reg b) then bif isS Minder false (enS false (Box.Two a)) && isS Minder false (enS false (Box.Two b)) && (sameB (deS Minder (enS false (Box.Two a))) (deS Minder (enS false (Box.Two b))) && (decide (List.length (deS Minder (enS false (Box.Two a))) ≤ 1048576) && List.all (deS Minder (enS false (Box.Two a))) Minder.small)) then bif isS Wire false (enS false (Box.Net a)) && isS Wire false (enS false (Box.Net b)) && (sameB (deS Wire (enS false (Box.Net a))) (deS Wire (enS false (Box.Net b))) && decide (List.length (deS Wire (enS false (Box.Net a))) ≤ 1048576)) then bif isS Bool false (enS false (Box.Gates a)) && isS Bool false (enS false (Box.Gates b)) && (sameB (deS Bool (enS false (Box.Gates a))) (deS Bool (enS false (Box.Gates b))) && decide (List.length (deS Bool (enS false (Box.Gates a))) ≤ 1048576)) then bif isS In false (enS false (Box.Line a)) && isS In false (enS false (Box.Line b)) && (sameB (deS In (enS false (Box.Line a))) (deS In (enS false (Box.Line b))) && decide (List.length (deS In (enS false (Box.Line a))) ≤ 1048576)) then bif isS Out false (enS false (Box.Said a)) && isS Out false (enS false (Box.Said b)) && (sameB (deS Out (enS false (Box.Said a))) (deS Out (enS false (Box.Said b))) && decide (List.length (deS Out (enS false (Box.Said a))) ≤ 1048576)) then some ([[D.bool true]], []) else none else none else none else none else none else none := by kernel_rfl
theorem m12 (a : Box) (b : Box) (hpre : (o12 a b).1 = true) : evFn ⟨Go.Proofs.Try.prog, Hx, 12⟩ T54.call 0 Go.Proofs.Try.f12 [[.int .i64 a.Id, .int .i64 a.Ports, .int .i64 a.Reg.Epoch, .int .i64 a.Reg.Owner, .int .i64 a.Reg.Pair, .sl false 7 (enS false a.Two), .sl false 12 (enS false a.Net), .sl false 1 (enS false a.Gates), .sl false 8 (enS false a.Line), .sl false 8 (enS false a.Said)], [.int .i64 b.Id, .int .i64 b.Ports, .int .i64 b.Reg.Epoch, .int .i64 b.Reg.Owner, .int .i64 b.Reg.Pair, .sl false 7 (enS false b.Two), .sl false 12 (enS false b.Net), .sl false 1 (enS false b.Gates), .sl false 8 (enS false b.Line), .sl false 8 (enS false b.Said)]] = some (o12 a b).2 := by
  refine (r12 a b _).trans ?_
  show _ = (some ([[.bool (true)]], []) : Option (List Row × List Row))
  replace hpre : (sameB a b && (Box.small a)) = true := hpre
  rw [Bool.and_eq_true] at hpre
  obtain ⟨h0, h1⟩ := hpre
  have := sameB_eq h0
  subst this
  unfold Box.small at h1
  try simp only [Bool.and_eq_true] at h1
  simp only [h1, bne_self_eq_false, cond_false, cond_true, sameB_self, isS_enS, deS_enS, Bool.and_self, Bool.and_true, Bool.true_and, Bool.not_true]
  try rfl
theorem s12 : SoundAt Go.Proofs.Try.prog Hx 12 c12 := soundAt_of T54_sound mixed Go.Proofs.Try.func12 (by kernel_rfl) (by
  intro rows r h
  unfold c12 at h
  split at h
  · rename_i a_Id a_Ports a_Reg_Epoch a_Reg_Owner a_Reg_Pair a_Two a_Net a_Gates a_Line a_Said b_Id b_Ports b_Reg_Epoch b_Reg_Owner b_Reg_Pair b_Two b_Net b_Gates b_Line b_Said
    obtain ⟨hp, hr⟩ := Prod.mk.inj (Option.some.inj h)
    subst hr
    simp only [Bool.and_eq_true] at hp
    obtain ⟨⟨⟨⟨⟨⟨⟨⟨⟨⟨hs0, hs1⟩, hs2⟩, hs3⟩, hs4⟩, hs5⟩, hs6⟩, hs7⟩, hs8⟩, hs9⟩, hp⟩ := hp
    obtain ⟨xs0, rfl⟩ := isS_ex hs0
    obtain ⟨xs1, rfl⟩ := isS_ex hs1
    obtain ⟨xs2, rfl⟩ := isS_ex hs2
    obtain ⟨xs3, rfl⟩ := isS_ex hs3
    obtain ⟨xs4, rfl⟩ := isS_ex hs4
    obtain ⟨xs5, rfl⟩ := isS_ex hs5
    obtain ⟨xs6, rfl⟩ := isS_ex hs6
    obtain ⟨xs7, rfl⟩ := isS_ex hs7
    obtain ⟨xs8, rfl⟩ := isS_ex hs8
    obtain ⟨xs9, rfl⟩ := isS_ex hs9
    simp only [deS_enS] at hp ⊢
    exact ⟨_, m12 ⟨a_Id, a_Ports, ⟨a_Reg_Epoch, a_Reg_Owner, a_Reg_Pair⟩, xs0, xs1, xs2, xs3, xs4⟩ ⟨b_Id, b_Ports, ⟨b_Reg_Epoch, b_Reg_Owner, b_Reg_Pair⟩, xs5, xs6, xs7, xs8, xs9⟩ hp⟩
  · cases h)
def T12 : Table := (12, c12) :: T54
theorem T12_sound : Table.Sound Go.Proofs.Try.prog Hx T12 := Table.sound_cons s12 T54_sound
end Go.Ev
end
