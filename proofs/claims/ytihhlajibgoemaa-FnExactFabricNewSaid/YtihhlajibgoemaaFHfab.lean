/- Contracts of functions, each by its evaluation. -/
import Derived.Test.YtihhlajibgoemaaEvMd
import Derived.Test.YtihhlajibgoemaaProg
import Derived.KernelRfl
import Derived.Test.YtihhlajibgoemaaFBridgeok
set_option linter.unusedVariables false
set_option linter.unusedSimpArgs false
set_option maxRecDepth 100000
noncomputable section
open List (getD length drop take set append replicate all isEmpty)
open Int (toNat ofNat)
open Go.IntKind (i64 wrap)
open Go.Proofs.Try (prog f13 f14 f18 f19 f23 f24 f25 f31 f38 f39 f4 f43 f44 f45 f55 f57 f6 f62 f63 f64 f65 f70 f75 f76 f77 f78 f8 f83 f84 f9 func13 func14 func18 func19 func23 func24 func25 func31 func38 func39 func4 func43 func44 func45 func55 func57 func6 func62 func63 func64 func65 func70 func75 func76 func77 func78 func8 func83 func84 func9)
namespace Go.Ev
open Go.RowKit Go.Md
end Go.Ev
namespace Go.Md
open Go Go.Ev
def Bridge.wt (x : Bridge) : Int := (x.Ports.length : Int)
def Bridge.small (x : Bridge) : Bool := decide (x.Ports.length ≤ 1048576)
def Bridge.big (x : Bridge) : Bool := decide (x.Ports.length ≤ 9223372036854775807)
theorem Bridge.wt_pos (x : Bridge) : 0 ≤ Bridge.wt x := by
  unfold Bridge.wt
  omega
theorem Bridge.small_of (x : Bridge) (h : Bridge.wt x ≤ 1048576) : Bridge.small x = true := by
  unfold Bridge.wt at h
  unfold Bridge.small
  exact decide_eq_true (by omega)
def Net.wt (x : Net) : Int := ((x.Bridges.length : Int) + cntS Bridge.wt x.Bridges) + (x.Links.length : Int)
def Net.small (x : Net) : Bool := (decide (x.Bridges.length ≤ 1048576) && x.Bridges.all Bridge.small) && decide (x.Links.length ≤ 1048576)
def Net.big (x : Net) : Bool := (decide (x.Bridges.length ≤ 9223372036854775807) && x.Bridges.all Bridge.big) && decide (x.Links.length ≤ 9223372036854775807)
theorem Net.wt_pos (x : Net) : 0 ≤ Net.wt x := by
  have h0 := cntS_nonneg (n := Bridge.wt) Bridge.wt_pos x.Bridges
  unfold Net.wt
  omega
theorem Net.small_of (x : Net) (h : Net.wt x ≤ 1048576) : Net.small x = true := by
  have h0 := cntS_nonneg (n := Bridge.wt) Bridge.wt_pos x.Bridges
  unfold Net.wt at h
  unfold Net.small
  exact Bool.and_eq_true_iff.2 ⟨Bool.and_eq_true_iff.2 ⟨decide_eq_true (by omega), all_small Bridge.wt_pos Bridge.small_of _ (by omega)⟩, decide_eq_true (by omega)⟩
def Member.wt (x : Member) : Int := (x.In.length : Int)
def Member.small (x : Member) : Bool := decide (x.In.length ≤ 1048576)
def Member.big (x : Member) : Bool := decide (x.In.length ≤ 9223372036854775807)
theorem Member.wt_pos (x : Member) : 0 ≤ Member.wt x := by
  unfold Member.wt
  omega
theorem Member.small_of (x : Member) (h : Member.wt x ≤ 1048576) : Member.small x = true := by
  unfold Member.wt at h
  unfold Member.small
  exact decide_eq_true (by omega)
def Card.wt (x : Card) : Int := (x.Open.length : Int) + ((x.Members.length : Int) + cntS Member.wt x.Members) + (x.Table.length : Int)
def Card.small (x : Card) : Bool := decide (x.Open.length ≤ 1048576) && (decide (x.Members.length ≤ 1048576) && x.Members.all Member.small) && decide (x.Table.length ≤ 1048576)
def Card.big (x : Card) : Bool := decide (x.Open.length ≤ 9223372036854775807) && (decide (x.Members.length ≤ 9223372036854775807) && x.Members.all Member.big) && decide (x.Table.length ≤ 9223372036854775807)
theorem Card.wt_pos (x : Card) : 0 ≤ Card.wt x := by
  have h1 := cntS_nonneg (n := Member.wt) Member.wt_pos x.Members
  unfold Card.wt
  omega
theorem Card.small_of (x : Card) (h : Card.wt x ≤ 1048576) : Card.small x = true := by
  have h1 := cntS_nonneg (n := Member.wt) Member.wt_pos x.Members
  unfold Card.wt at h
  unfold Card.small
  exact Bool.and_eq_true_iff.2 ⟨Bool.and_eq_true_iff.2 ⟨decide_eq_true (by omega), Bool.and_eq_true_iff.2 ⟨decide_eq_true (by omega), all_small Member.wt_pos Member.small_of _ (by omega)⟩⟩, decide_eq_true (by omega)⟩
def Fabric.wt (x : Fabric) : Int := Net.wt x.Net + ((x.Cards.length : Int) + cntS Card.wt x.Cards)
def Fabric.small (x : Fabric) : Bool := Net.small x.Net && (decide (x.Cards.length ≤ 1048576) && x.Cards.all Card.small)
def Fabric.big (x : Fabric) : Bool := Net.big x.Net && (decide (x.Cards.length ≤ 9223372036854775807) && x.Cards.all Card.big)
theorem Fabric.wt_pos (x : Fabric) : 0 ≤ Fabric.wt x := by
  have h0 := Net.wt_pos x.Net
  have h1 := cntS_nonneg (n := Card.wt) Card.wt_pos x.Cards
  unfold Fabric.wt
  omega
theorem Fabric.small_of (x : Fabric) (h : Fabric.wt x ≤ 1048576) : Fabric.small x = true := by
  have h0 := Net.wt_pos x.Net
  have h1 := cntS_nonneg (n := Card.wt) Card.wt_pos x.Cards
  unfold Fabric.wt at h
  unfold Fabric.small
  exact Bool.and_eq_true_iff.2 ⟨Net.small_of _ (by omega), Bool.and_eq_true_iff.2 ⟨decide_eq_true (by omega), all_small Card.wt_pos Card.small_of _ (by omega)⟩⟩
end Go.Md
namespace Go.Ev
open Go.Md
def o55 (a : List Port) (left : Int) : Bool × List Row × List Row := (decide (0 ≤ left) && (decide (left ≤ 1048576) && decide (a.length ≤ 9223372036854775807)), [[.int .i64 (szR (a.length : Int) left)]], [])
def c55 : Contract
  | [[.sl false 11 a], [.int .i64 left]] => some (isS Port false a && (o55 (deS Port a) left).1, (o55 (deS Port a) left).2.1, (o55 (deS Port a) left).2.2)
  | _ => none

theorem r55 (a : List Port) (left : Int) (n : Nat) : evFn ⟨prog, Hx, 55⟩ T33.call n f55 [[.sl false 11 (enS false a)], [.int .i64 left]] = bif decide (wrap i64 (left - ofNat (length (enS false a))) < 0) then some ([[D.int i64 (Int.negSucc 0)]], []) else some ([[D.int i64 (wrap i64 (left - ofNat (length (enS false a))))]], []) := by kernel_rfl
theorem m55 (a : List Port) (left : Int) (hpre : (o55 a left).1 = true) : evFn ⟨Go.Proofs.Try.prog, Hx, 55⟩ T33.call 0 f55 [[.sl false 11 (enS false a)], [.int .i64 left]] = some (o55 a left).2 := by
  refine (r55 a left _).trans ?_
  show _ = (some ([[.int .i64 (szR (a.length : Int) left)]], []) : Option (List Row × List Row))
  replace hpre : (decide (0 ≤ left) && (decide (left ≤ 1048576) && decide (a.length ≤ 9223372036854775807))) = true := hpre
  simp only [Bool.and_eq_true, decide_eq_true_eq] at hpre
  obtain ⟨h0, h1, h2⟩ := hpre
  simp only [enS_length]
  have hw : IntKind.wrap IntKind.i64 (left - Int.ofNat a.length) = left - (a.length : Int) := wrap_of (by show _ ≤ left - (a.length : Int); omega) (by show left - (a.length : Int) ≤ _; omega)
  rw [hw]
  unfold szR
  by_cases h : (a.length : Int) ≤ left
  · rw [decide_eq_false (by omega), decide_eq_true h]; rfl
  · rw [decide_eq_true (by omega), decide_eq_false h]; rfl
theorem s55 : SoundAt Go.Proofs.Try.prog Hx 55 c55 := soundAt_of T33_sound mixed func55 (by kernel_rfl) (by
  intro rows r h
  unfold c55 at h
  split at h
  · rename_i a left
    obtain ⟨hp, hr⟩ := Prod.mk.inj (Option.some.inj h)
    subst hr
    simp only [Bool.and_eq_true] at hp
    obtain ⟨hs0, hp⟩ := hp
    obtain ⟨xs0, rfl⟩ := isS_ex hs0
    simp only [deS_enS] at hp ⊢
    exact ⟨_, m55 xs0 left hp⟩
  · cases h)
def T55 : Table := (55, c55) :: T33
theorem T55_sound : Table.Sound Go.Proofs.Try.prog Hx T55 := Table.sound_cons s55 T33_sound
def o31 (a : Bridge) (left : Int) : Bool × List Row × List Row := (decide (0 ≤ left) && (decide (left ≤ 1048576) && Bridge.big a), [[.int .i64 (szR (Bridge.wt a) left)]], [])
def c31 : Contract
  | [[.int .i64 a_Id, .sl false 11 a_Ports], [.int .i64 left]] => some (isS Port false a_Ports && (o31 ⟨a_Id, (deS Port a_Ports)⟩ left).1, (o31 ⟨a_Id, (deS Port a_Ports)⟩ left).2.1, (o31 ⟨a_Id, (deS Port a_Ports)⟩ left).2.2)
  | _ => none

theorem r31 (a : Bridge) (left : Int) (n : Nat) : evFn ⟨prog, Hx, 31⟩ T55.call n f31 [[.int .i64 a.Id, .sl false 11 (enS false a.Ports)], [.int .i64 left]] = bif isS Port false (enS false (Bridge.Ports a)) && (decide (0 ≤ left) && (decide (left ≤ 1048576) && decide (length (deS Port (enS false (Bridge.Ports a))) ≤ 9223372036854775807))) then bif decide (szR (ofNat (length (deS Port (enS false (Bridge.Ports a))))) left < 0) then some ([[D.int i64 (Int.negSucc 0)]], []) else some ([[D.int i64 (szR (ofNat (length (deS Port (enS false (Bridge.Ports a))))) left)]], []) else none := by kernel_rfl
theorem m31 (a : Bridge) (left : Int) (hpre : (o31 a left).1 = true) : evFn ⟨Go.Proofs.Try.prog, Hx, 31⟩ T55.call 0 f31 [[.int .i64 a.Id, .sl false 11 (enS false a.Ports)], [.int .i64 left]] = some (o31 a left).2 := by
  refine (r31 a left _).trans ?_
  show _ = (some ([[.int .i64 (szR (Bridge.wt a) left)]], []) : Option (List Row × List Row))
  replace hpre : (decide (0 ≤ left) && (decide (left ≤ 1048576) && Bridge.big a)) = true := hpre
  simp only [Bool.and_eq_true, decide_eq_true_eq] at hpre
  obtain ⟨h0, h1, h2⟩ := hpre
  unfold Bridge.big at h2
  try simp only [Bool.and_eq_true] at h2
  unfold Bridge.wt
  have p0 : 0 ≤ (a.Ports.length : Int) := by omega
  have g0 : decide (0 ≤ left) = true := decide_eq_true (by omega)
  have f0 : decide (left ≤ 1048576) = true := decide_eq_true (by omega)
  rcases szR_cases ((a.Ports.length : Int)) (left) (by omega) with ⟨a0, b0, c0⟩ | ⟨a0, b0, c0⟩
  case inr =>
    rw [b0] at c0
    simp only [g0, f0, b0, c0, h2, Int.ofNat_eq_natCast, isS_enS, deS_enS, cond_true, cond_false, Bool.and_self, Bool.and_true, Bool.true_and]
    try rw [szR_gt (by omega)]
    try rfl
  rw [b0] at c0
  simp only [g0, f0, b0, c0, h2, Int.ofNat_eq_natCast, isS_enS, deS_enS, cond_true, cond_false, Bool.and_self, Bool.and_true, Bool.true_and]
  try rw [szR_le (by omega)]
  try rfl
theorem s31 : SoundAt Go.Proofs.Try.prog Hx 31 c31 := soundAt_of T55_sound mixed func31 (by kernel_rfl) (by
  intro rows r h
  unfold c31 at h
  split at h
  · rename_i a_Id a_Ports left
    obtain ⟨hp, hr⟩ := Prod.mk.inj (Option.some.inj h)
    subst hr
    simp only [Bool.and_eq_true] at hp
    obtain ⟨hs0, hp⟩ := hp
    obtain ⟨xs0, rfl⟩ := isS_ex hs0
    simp only [deS_enS] at hp ⊢
    exact ⟨_, m31 ⟨a_Id, xs0⟩ left hp⟩
  · cases h)
def T31 : Table := (31, c31) :: T55
theorem T31_sound : Table.Sound Go.Proofs.Try.prog Hx T31 := Table.sound_cons s31 T55_sound
def o13 (a : List Bridge) (left : Int) : Bool × List Row × List Row := (decide (0 ≤ left) && (decide (left ≤ 1048576) && (decide (a.length ≤ 9223372036854775807) && a.all Bridge.big)), [[.int .i64 (szR ((a.length : Int) + cntS Bridge.wt a) left)]], [])
def c13 : Contract
  | [[.sl false 2 a], [.int .i64 left]] => some (isS Bridge false a && (o13 (deS Bridge a) left).1, (o13 (deS Bridge a) left).2.1, (o13 (deS Bridge a) left).2.2)
  | _ => none

def k13_0 (n : Nat) : Ex → St → RR := kThen (fun st ↦ runCode (Ctx.mk prog Hx (13)) (Table.call T31) n (codeAt [1, 1, 1, 1] (bodyOf f13)) (Lv.mk 16 [] 16) st (kLeave (Ctx.P (Ctx.mk prog Hx (13))) (List.zip (Array.toList (Go.Func.resultTypes f13)) (Array.toList (Go.Func.results f13))) [] [])) (kLeave (Ctx.P (Ctx.mk prog Hx (13))) (List.zip (Array.toList (Go.Func.resultTypes f13)) (Array.toList (Go.Func.results f13))) [] [])
def k13_1 (n : Nat) : Ex → St → RR := kBlock (0) (k13_0 n)
def S13_0 (a : List Bridge) (i0 : Int) (i1 : Int) : St := St.mk [V_ [C.d (D.sl false 2 (enS false a))], I_ i0, U_, U_, U_, I_ i1, U_, U_, U_, U_, U_, U_, U_, U_, U_, U_, U_, U_, U_, U_, U_, U_, U_, U_, U_, U_, U_] []
def B13_0 (n : Nat) : St → (Ex → St → RR) → RR := runCode (Ctx.mk prog Hx (13)) (Table.call T31) n (codeAt [1, 1, 1, 0, 1, 0, 0] (bodyOf f13)) (Lv.mk 35 [(0, 2)] 16)
def X13_2 (a : List Bridge) (i0 : Int) (i1 : Int) : St := St.mk [V_ [C.d (D.sl false 2 (enS false a))], I_ (szR (Bridge.wt (Bridge.mk (D.num (getD (getD (enS false a) (toNat i1) []) 0 D.dead)) (deS Port (D.rows (getD (getD (enS false a) (toNat i1) []) 1 D.dead))))) i0), U_, U_, I_ (Int.negSucc 0), I_ i1, U_, U_, U_, U_, U_, U_, I_ i1, V_ [C.d (D.sl false 2 (enS false a))], I_ (ofNat (length (enS false a))), B_ true, U_, U_, V_ [C.d (D.sl false 2 (enS false a))], I_ i1, V_ [C.rptr (getD (enS false a) (toNat i1) [])], TV.v true [C.d (D.int i64 (D.num (getD (getD (enS false a) (toNat i1) []) 0 D.dead))), C.d (D.sl false 11 (D.rows (getD (getD (enS false a) (toNat i1) []) 1 D.dead)))], I_ i0, I_ (szR (Bridge.wt (Bridge.mk (D.num (getD (getD (enS false a) (toNat i1) []) 0 D.dead)) (deS Port (D.rows (getD (getD (enS false a) (toNat i1) []) 1 D.dead))))) i0), I_ (szR (Bridge.wt (Bridge.mk (D.num (getD (getD (enS false a) (toNat i1) []) 0 D.dead)) (deS Port (D.rows (getD (getD (enS false a) (toNat i1) []) 1 D.dead))))) i0), B_ true, U_] []
def X13_3 (a : List Bridge) (i0 : Int) (i1 : Int) : St := St.mk [V_ [C.d (D.sl false 2 (enS false a))], I_ i0, U_, U_, U_, I_ i1, U_, U_, U_, U_, U_, U_, I_ i1, V_ [C.d (D.sl false 2 (enS false a))], I_ (ofNat (length (enS false a))), B_ false, U_, U_, U_, U_, U_, U_, U_, U_, U_, U_, U_] []
theorem q13_0 (a : List Bridge) (n : Nat) (i0 : Int) (i1 : Int) (f : St → RR) (K : Ex → St → RR) : B13_0 n (S13_0 a i0 i1) (kThen (fun st ↦ f (St.head 0 35 67104818 st)) K) = bif decide (i1 < ofNat (length (enS false a))) then bif decide (0 ≤ i1) && decide (i1 < ofNat (length (enS false a))) then bif Leaf.fit false (Leaf.int i64) (getD (getD (enS false a) (toNat i1) []) 0 D.dead) && (Leaf.fit false (Leaf.sl 11 true) (getD (getD (enS false a) (toNat i1) []) 1 D.dead) && true) then bif isS Port false (D.rows (getD (getD (enS false a) (toNat i1) []) 1 D.dead)) && (decide (0 ≤ i0) && (decide (i0 ≤ 1048576) && Bridge.big (Bridge.mk (D.num (getD (getD (enS false a) (toNat i1) []) 0 D.dead)) (deS Port (D.rows (getD (getD (enS false a) (toNat i1) []) 1 D.dead)))))) then bif decide (szR (Bridge.wt (Bridge.mk (D.num (getD (getD (enS false a) (toNat i1) []) 0 D.dead)) (deS Port (D.rows (getD (getD (enS false a) (toNat i1) []) 1 D.dead))))) i0 < 0) then K Ex.ret (X13_2 a i0 i1) else f (S13_0 a (szR (Bridge.wt (Bridge.mk (D.num (getD (getD (enS false a) (toNat i1) []) 0 D.dead)) (deS Port (D.rows (getD (getD (enS false a) (toNat i1) []) 1 D.dead))))) i0) (wrap i64 (i1 + 1))) else none else none else none else K (Ex.exit 0) (X13_3 a i0 i1) := by kernel_rfl
theorem aX13_2 (a : List Bridge) (n : Nat) (i0 : Int) (i1 : Int) : k13_1 n Ex.ret (X13_2 a i0 i1) = some ([[D.int i64 (Int.negSucc 0)]], []) := by kernel_rfl
theorem aX13_3 (a : List Bridge) (n : Nat) (i0 : Int) (i1 : Int) : k13_1 n (Ex.exit 0) (X13_3 a i0 i1) = some ([[D.int i64 i0]], []) := by kernel_rfl
theorem r13 (a : List Bridge) (left : Int) (n : Nat) : evFn ⟨prog, Hx, 13⟩ T31.call n f13 [[.sl false 2 (enS false a)], [.int .i64 left]] = bif decide (wrap i64 (left - ofNat (length (enS false a))) < 0) then some ([[D.int i64 (Int.negSucc 0)]], []) else loopRun (B13_0 n) 0 35 67104818 n (S13_0 a (wrap i64 (left - ofNat (length (enS false a)))) (0)) (k13_1 n) := by kernel_rfl
theorem m13 (a : List Bridge) (left : Int) (hpre : (o13 a left).1 = true) : evFn ⟨Go.Proofs.Try.prog, Hx, 13⟩ T31.call (a.length + 1) f13 [[.sl false 2 (enS false a)], [.int .i64 left]] = some (o13 a left).2 := by
  refine (r13 a left _).trans ?_
  show _ = (some ([[.int .i64 (szR ((a.length : Int) + cntS Bridge.wt a) left)]], []) : Option (List Row × List Row))
  replace hpre : (decide (0 ≤ left) && (decide (left ≤ 1048576) && (decide (a.length ≤ 9223372036854775807) && a.all Bridge.big))) = true := hpre
  simp only [Bool.and_eq_true, decide_eq_true_eq] at hpre
  obtain ⟨h0, h1, h2, h3⟩ := hpre
  simp only [enS_length]
  have hw : IntKind.wrap IntKind.i64 (left - Int.ofNat a.length) = left - (a.length : Int) := wrap_of (by show _ ≤ left - (a.length : Int); omega) (by show left - (a.length : Int) ≤ _; omega)
  rw [hw]
  have hc := cntS_nonneg (n := Bridge.wt) Bridge.wt_pos a
  by_cases hl : (a.length : Int) ≤ left
  case neg =>
    rw [decide_eq_true (by omega), szR_gt (by omega)]
    rfl
  rw [decide_eq_false (by omega), cond_false]
  have hlen : a.length ≤ 1048576 := by omega
  have hg : szR ((a.length : Int) + cntS Bridge.wt a) left = szR (cntS Bridge.wt a) (left - (a.length : Int)) := by
    by_cases h : cntS Bridge.wt a ≤ left - (a.length : Int)
    · rw [szR_le h, szR_le (by omega)]; omega
    · rw [szR_gt (by omega), szR_gt (by omega)]
  rw [hg]
  refine loop_list (xs := a) (fun i (l : Int) => S13_0 a l (Int.ofNat i)) (fun _ l => 0 ≤ l ∧ l ≤ 1048576) (fun _ l rest => some ([[D.int .i64 (szR (cntS Bridge.wt rest) l)]], [])) ?_ ?_ (a.length + 1) (left - (a.length : Int)) (by omega) ⟨by omega, by omega⟩
  · rintro l ⟨g0, g1⟩ f
    refine (q13_0 a _ _ _ f _).trans ?_
    rw [end_lt, cond_false]
    refine (aX13_3 a _ _ _).trans ?_
    rw [cntS, szR_le g0, Int.sub_zero]
  · rintro i l hi ⟨g0, g1⟩ f hf
    refine (q13_0 a _ _ _ f _).trans ?_
    have hel := List.all_eq_true.1 h3 _ (List.getElem_mem hi)
    have hp := Bridge.wt_pos a[i]
    have hc2 := cntS_nonneg (n := Bridge.wt) Bridge.wt_pos (a.drop (i + 1))
    have d0 : decide (0 ≤ l) = true := decide_eq_true g0
    have d1 : decide (l ≤ 1048576) = true := decide_eq_true g1
    simp only [enS_length, toNat_of, dec_lt, dec_ge, decide_true, decide_false, cond_true, cond_false, Bool.and_self, Bool.and_true, Bool.true_and, Bool.not_true, Bool.not_false, Nat.lt_irrefl, Nat.zero_add, isS_enS, deS_enS, isS_nil, deS_nil, List.nil_append, lendRows_enS, deepRows_enS, noSl_u8, En.enc, List.getD_cons_zero, List.getD_cons_succ, D.num, D.flag, D.text, D.rows, Leaf.fit, List.append_eq, TReader.eta, Frame.eta, Heard.eta, Member.eta, Card.eta, Out1.eta, Vec.eta, Port.eta, Bridge.eta, In.eta, Out.eta, Link.eta, Net.eta, TEnd.eta, Minder.eta, Reg.eta, Wire.eta, Box.eta, Deed.eta, Bpdu.eta, Visit.eta, Fabric.eta, Got.eta, TRide.eta, Up.eta, Copy.eta, Bucket.eta, Snap.eta, TL9Cur.eta, TL21In.eta, enS_get _ hi, hi, wrap_succ (show i < 4611686018427387904 by omega), hel, d0, d1]
    rcases szR_cases (Bridge.wt a[i]) l g0 with ⟨a1, b1, c1⟩ | ⟨a1, b1, c1⟩
    · rw [c1, cond_false, b1]
      refine (hf (l - Bridge.wt a[i]) ⟨by omega, by omega⟩).trans ?_
      have : szR (cntS Bridge.wt (a[i] :: a.drop (i + 1))) l = szR (cntS Bridge.wt (a.drop (i + 1))) (l - Bridge.wt a[i]) := by
        show szR (Bridge.wt a[i] + cntS Bridge.wt (a.drop (i + 1))) l = _
        by_cases h : cntS Bridge.wt (a.drop (i + 1)) ≤ l - Bridge.wt a[i]
        · rw [szR_le h, szR_le (by omega)]; omega
        · rw [szR_gt (by omega), szR_gt (by omega)]
      rw [this]
    · rw [c1, cond_true]
      refine (aX13_2 a _ _ _).trans ?_
      have : szR (cntS Bridge.wt (a[i] :: a.drop (i + 1))) l = -1 := by
        show szR (Bridge.wt a[i] + cntS Bridge.wt (a.drop (i + 1))) l = _
        exact szR_gt (by omega)
      rw [this]
      rfl
theorem s13 : SoundAt Go.Proofs.Try.prog Hx 13 c13 := soundAt_of T31_sound mixed func13 (by kernel_rfl) (by
  intro rows r h
  unfold c13 at h
  split at h
  · rename_i a left
    obtain ⟨hp, hr⟩ := Prod.mk.inj (Option.some.inj h)
    subst hr
    simp only [Bool.and_eq_true] at hp
    obtain ⟨hs0, hp⟩ := hp
    obtain ⟨xs0, rfl⟩ := isS_ex hs0
    simp only [deS_enS] at hp ⊢
    exact ⟨_, m13 xs0 left hp⟩
  · cases h)
def T13 : Table := (13, c13) :: T31
theorem T13_sound : Table.Sound Go.Proofs.Try.prog Hx T13 := Table.sound_cons s13 T31_sound
def o14 (a : List Link) (left : Int) : Bool × List Row × List Row := (decide (0 ≤ left) && (decide (left ≤ 1048576) && decide (a.length ≤ 9223372036854775807)), [[.int .i64 (szR (a.length : Int) left)]], [])
def c14 : Contract
  | [[.sl false 4 a], [.int .i64 left]] => some (isS Link false a && (o14 (deS Link a) left).1, (o14 (deS Link a) left).2.1, (o14 (deS Link a) left).2.2)
  | _ => none

theorem r14 (a : List Link) (left : Int) (n : Nat) : evFn ⟨prog, Hx, 14⟩ T13.call n f14 [[.sl false 4 (enS false a)], [.int .i64 left]] = bif decide (wrap i64 (left - ofNat (length (enS false a))) < 0) then some ([[D.int i64 (Int.negSucc 0)]], []) else some ([[D.int i64 (wrap i64 (left - ofNat (length (enS false a))))]], []) := by kernel_rfl
theorem m14 (a : List Link) (left : Int) (hpre : (o14 a left).1 = true) : evFn ⟨Go.Proofs.Try.prog, Hx, 14⟩ T13.call 0 f14 [[.sl false 4 (enS false a)], [.int .i64 left]] = some (o14 a left).2 := by
  refine (r14 a left _).trans ?_
  show _ = (some ([[.int .i64 (szR (a.length : Int) left)]], []) : Option (List Row × List Row))
  replace hpre : (decide (0 ≤ left) && (decide (left ≤ 1048576) && decide (a.length ≤ 9223372036854775807))) = true := hpre
  simp only [Bool.and_eq_true, decide_eq_true_eq] at hpre
  obtain ⟨h0, h1, h2⟩ := hpre
  simp only [enS_length]
  have hw : IntKind.wrap IntKind.i64 (left - Int.ofNat a.length) = left - (a.length : Int) := wrap_of (by show _ ≤ left - (a.length : Int); omega) (by show left - (a.length : Int) ≤ _; omega)
  rw [hw]
  unfold szR
  by_cases h : (a.length : Int) ≤ left
  · rw [decide_eq_false (by omega), decide_eq_true h]; rfl
  · rw [decide_eq_true (by omega), decide_eq_false h]; rfl
theorem s14 : SoundAt Go.Proofs.Try.prog Hx 14 c14 := soundAt_of T13_sound mixed func14 (by kernel_rfl) (by
  intro rows r h
  unfold c14 at h
  split at h
  · rename_i a left
    obtain ⟨hp, hr⟩ := Prod.mk.inj (Option.some.inj h)
    subst hr
    simp only [Bool.and_eq_true] at hp
    obtain ⟨hs0, hp⟩ := hp
    obtain ⟨xs0, rfl⟩ := isS_ex hs0
    simp only [deS_enS] at hp ⊢
    exact ⟨_, m14 xs0 left hp⟩
  · cases h)
def T14 : Table := (14, c14) :: T13
theorem T14_sound : Table.Sound Go.Proofs.Try.prog Hx T14 := Table.sound_cons s14 T13_sound
def o4 (a : Net) (left : Int) : Bool × List Row × List Row := (decide (0 ≤ left) && (decide (left ≤ 1048576) && Net.big a), [[.int .i64 (szR (Net.wt a) left)]], [])
def c4 : Contract
  | [[.sl false 2 a_Bridges, .sl false 4 a_Links], [.int .i64 left]] => some (isS Bridge false a_Bridges && isS Link false a_Links && (o4 ⟨(deS Bridge a_Bridges), (deS Link a_Links)⟩ left).1, (o4 ⟨(deS Bridge a_Bridges), (deS Link a_Links)⟩ left).2.1, (o4 ⟨(deS Bridge a_Bridges), (deS Link a_Links)⟩ left).2.2)
  | _ => none

theorem r4 (a : Net) (left : Int) (n : Nat) : evFn ⟨prog, Hx, 4⟩ T14.call n f4 [[.sl false 2 (enS false a.Bridges), .sl false 4 (enS false a.Links)], [.int .i64 left]] = bif isS Bridge false (enS false (Net.Bridges a)) && (decide (0 ≤ left) && (decide (left ≤ 1048576) && (decide (length (deS Bridge (enS false (Net.Bridges a))) ≤ 9223372036854775807) && all (deS Bridge (enS false (Net.Bridges a))) Bridge.big))) then bif decide (szR (ofNat (length (deS Bridge (enS false (Net.Bridges a)))) + cntS Bridge.wt (deS Bridge (enS false (Net.Bridges a)))) left < 0) then some ([[D.int i64 (Int.negSucc 0)]], []) else bif isS Link false (enS false (Net.Links a)) && (decide (0 ≤ szR (ofNat (length (deS Bridge (enS false (Net.Bridges a)))) + cntS Bridge.wt (deS Bridge (enS false (Net.Bridges a)))) left) && (decide (szR (ofNat (length (deS Bridge (enS false (Net.Bridges a)))) + cntS Bridge.wt (deS Bridge (enS false (Net.Bridges a)))) left ≤ 1048576) && decide (length (deS Link (enS false (Net.Links a))) ≤ 9223372036854775807))) then bif decide (szR (ofNat (length (deS Link (enS false (Net.Links a))))) (szR (ofNat (length (deS Bridge (enS false (Net.Bridges a)))) + cntS Bridge.wt (deS Bridge (enS false (Net.Bridges a)))) left) < 0) then some ([[D.int i64 (Int.negSucc 0)]], []) else some ([[D.int i64 (szR (ofNat (length (deS Link (enS false (Net.Links a))))) (szR (ofNat (length (deS Bridge (enS false (Net.Bridges a)))) + cntS Bridge.wt (deS Bridge (enS false (Net.Bridges a)))) left))]], []) else none else none := by kernel_rfl
theorem m4 (a : Net) (left : Int) (hpre : (o4 a left).1 = true) : evFn ⟨Go.Proofs.Try.prog, Hx, 4⟩ T14.call 0 f4 [[.sl false 2 (enS false a.Bridges), .sl false 4 (enS false a.Links)], [.int .i64 left]] = some (o4 a left).2 := by
  refine (r4 a left _).trans ?_
  show _ = (some ([[.int .i64 (szR (Net.wt a) left)]], []) : Option (List Row × List Row))
  replace hpre : (decide (0 ≤ left) && (decide (left ≤ 1048576) && Net.big a)) = true := hpre
  simp only [Bool.and_eq_true, decide_eq_true_eq] at hpre
  obtain ⟨h0, h1, h2⟩ := hpre
  unfold Net.big at h2
  try simp only [Bool.and_eq_true] at h2
  unfold Net.wt
  have p0 : 0 ≤ ((a.Bridges.length : Int) + cntS Bridge.wt a.Bridges) := by have := cntS_nonneg (n := Bridge.wt) Bridge.wt_pos a.Bridges; omega
  have p1 : 0 ≤ (a.Links.length : Int) := by omega
  have g0 : decide (0 ≤ left) = true := decide_eq_true (by omega)
  have f0 : decide (left ≤ 1048576) = true := decide_eq_true (by omega)
  rcases szR_cases (((a.Bridges.length : Int) + cntS Bridge.wt a.Bridges)) (left) (by omega) with ⟨a0, b0, c0⟩ | ⟨a0, b0, c0⟩
  case inr =>
    rw [b0] at c0
    simp only [g0, f0, b0, c0, h2, Int.ofNat_eq_natCast, isS_enS, deS_enS, cond_true, cond_false, Bool.and_self, Bool.and_true, Bool.true_and]
    try rw [szR_gt (by omega)]
    try rfl
  rw [b0] at c0
  have g1 : decide (0 ≤ left - ((a.Bridges.length : Int) + cntS Bridge.wt a.Bridges)) = true := decide_eq_true (by omega)
  have f1 : decide (left - ((a.Bridges.length : Int) + cntS Bridge.wt a.Bridges) ≤ 1048576) = true := decide_eq_true (by omega)
  rcases szR_cases ((a.Links.length : Int)) (left - ((a.Bridges.length : Int) + cntS Bridge.wt a.Bridges)) (by omega) with ⟨a1, b1, c1⟩ | ⟨a1, b1, c1⟩
  case inr =>
    rw [b1] at c1
    simp only [g0, f0, b0, c0, g1, f1, b1, c1, h2, Int.ofNat_eq_natCast, isS_enS, deS_enS, cond_true, cond_false, Bool.and_self, Bool.and_true, Bool.true_and]
    try rw [szR_gt (by omega)]
    try rfl
  rw [b1] at c1
  simp only [g0, f0, b0, c0, g1, f1, b1, c1, h2, Int.ofNat_eq_natCast, isS_enS, deS_enS, cond_true, cond_false, Bool.and_self, Bool.and_true, Bool.true_and]
  try rw [szR_le (by omega)]
  try rfl
  try (refine congrArg (fun z => (some ([[D.int IntKind.i64 z]], []) : Option (List Row × List Row))) ?_; omega)
theorem s4 : SoundAt Go.Proofs.Try.prog Hx 4 c4 := soundAt_of T14_sound mixed func4 (by kernel_rfl) (by
  intro rows r h
  unfold c4 at h
  split at h
  · rename_i a_Bridges a_Links left
    obtain ⟨hp, hr⟩ := Prod.mk.inj (Option.some.inj h)
    subst hr
    simp only [Bool.and_eq_true] at hp
    obtain ⟨⟨hs0, hs1⟩, hp⟩ := hp
    obtain ⟨xs0, rfl⟩ := isS_ex hs0
    obtain ⟨xs1, rfl⟩ := isS_ex hs1
    simp only [deS_enS] at hp ⊢
    exact ⟨_, m4 ⟨xs0, xs1⟩ left hp⟩
  · cases h)
def T4 : Table := (4, c4) :: T14
theorem T4_sound : Table.Sound Go.Proofs.Try.prog Hx T4 := Table.sound_cons s4 T14_sound
def o78 (a : Vec) : Bool × List Row × List Row := (true, [[.int .i64 (a).Root, .int .i64 (a).Cost, .int .i64 (a).Bridge, .int .i64 (a).Port]], [])
def c78 : Contract
  | [[.int .i64 a_Root, .int .i64 a_Cost, .int .i64 a_Bridge, .int .i64 a_Port]] => some ((o78 ⟨a_Root, a_Cost, a_Bridge, a_Port⟩).1, (o78 ⟨a_Root, a_Cost, a_Bridge, a_Port⟩).2.1, (o78 ⟨a_Root, a_Cost, a_Bridge, a_Port⟩).2.2)
  | _ => none

theorem r78 (a : Vec) (n : Nat) : evFn ⟨prog, Hx, 78⟩ T4.call n f78 [[.int .i64 a.Root, .int .i64 a.Cost, .int .i64 a.Bridge, .int .i64 a.Port]] = some ([[D.int i64 (Vec.Root a), D.int i64 (Vec.Cost a), D.int i64 (Vec.Bridge a), D.int i64 (Vec.Port a)]], []) := by kernel_rfl
theorem m78 (a : Vec) (hpre : (o78 a).1 = true) : evFn ⟨Go.Proofs.Try.prog, Hx, 78⟩ T4.call 0 f78 [[.int .i64 a.Root, .int .i64 a.Cost, .int .i64 a.Bridge, .int .i64 a.Port]] = some (o78 a).2 := by
  refine (r78 a _).trans ?_
  show _ = (some ([[.int .i64 (a).Root, .int .i64 (a).Cost, .int .i64 (a).Bridge, .int .i64 (a).Port]], []) : Option (List Row × List Row))
  replace hpre : (true) = true := hpre
  rfl
theorem s78 : SoundAt Go.Proofs.Try.prog Hx 78 c78 := soundAt_of T4_sound mixed func78 (by kernel_rfl) (by
  intro rows r h
  unfold c78 at h
  split at h
  · rename_i a_Root a_Cost a_Bridge a_Port
    obtain ⟨hp, hr⟩ := Prod.mk.inj (Option.some.inj h)
    subst hr
    exact ⟨_, m78 ⟨a_Root, a_Cost, a_Bridge, a_Port⟩ hp⟩
  · cases h)
def T78 : Table := (78, c78) :: T4
theorem T78_sound : Table.Sound Go.Proofs.Try.prog Hx T78 := Table.sound_cons s78 T4_sound
def o70 (a : Port) : Bool × List Row × List Row := (true, [[.bool (a).Up, .bool (a).Has, .int .i64 (a).Vec.Root, .int .i64 (a).Vec.Cost, .int .i64 (a).Vec.Bridge, .int .i64 (a).Vec.Port, .int .i64 (a).Hops, .int .i64 (a).Left, .int .i64 (a).Role, .int .i64 (a).Wait, .bool (a).Open]], [])
def c70 : Contract
  | [[.bool a_Up, .bool a_Has, .int .i64 a_Vec_Root, .int .i64 a_Vec_Cost, .int .i64 a_Vec_Bridge, .int .i64 a_Vec_Port, .int .i64 a_Hops, .int .i64 a_Left, .int .i64 a_Role, .int .i64 a_Wait, .bool a_Open]] => some ((o70 ⟨a_Up, a_Has, ⟨a_Vec_Root, a_Vec_Cost, a_Vec_Bridge, a_Vec_Port⟩, a_Hops, a_Left, a_Role, a_Wait, a_Open⟩).1, (o70 ⟨a_Up, a_Has, ⟨a_Vec_Root, a_Vec_Cost, a_Vec_Bridge, a_Vec_Port⟩, a_Hops, a_Left, a_Role, a_Wait, a_Open⟩).2.1, (o70 ⟨a_Up, a_Has, ⟨a_Vec_Root, a_Vec_Cost, a_Vec_Bridge, a_Vec_Port⟩, a_Hops, a_Left, a_Role, a_Wait, a_Open⟩).2.2)
  | _ => none

theorem r70 (a : Port) (n : Nat) : evFn ⟨prog, Hx, 70⟩ T78.call n f70 [[.bool a.Up, .bool a.Has, .int .i64 a.Vec.Root, .int .i64 a.Vec.Cost, .int .i64 a.Vec.Bridge, .int .i64 a.Vec.Port, .int .i64 a.Hops, .int .i64 a.Left, .int .i64 a.Role, .int .i64 a.Wait, .bool a.Open]] = some ([[D.bool (Port.Up a), D.bool (Port.Has a), D.int i64 (Vec.Root (Port.Vec a)), D.int i64 (Vec.Cost (Port.Vec a)), D.int i64 (Vec.Bridge (Port.Vec a)), D.int i64 (Vec.Port (Port.Vec a)), D.int i64 (Port.Hops a), D.int i64 (Port.Left a), D.int i64 (Port.Role a), D.int i64 (Port.Wait a), D.bool (Port.Open a)]], []) := by kernel_rfl
theorem m70 (a : Port) (hpre : (o70 a).1 = true) : evFn ⟨Go.Proofs.Try.prog, Hx, 70⟩ T78.call 0 f70 [[.bool a.Up, .bool a.Has, .int .i64 a.Vec.Root, .int .i64 a.Vec.Cost, .int .i64 a.Vec.Bridge, .int .i64 a.Vec.Port, .int .i64 a.Hops, .int .i64 a.Left, .int .i64 a.Role, .int .i64 a.Wait, .bool a.Open]] = some (o70 a).2 := by
  refine (r70 a _).trans ?_
  show _ = (some ([[.bool (a).Up, .bool (a).Has, .int .i64 (a).Vec.Root, .int .i64 (a).Vec.Cost, .int .i64 (a).Vec.Bridge, .int .i64 (a).Vec.Port, .int .i64 (a).Hops, .int .i64 (a).Left, .int .i64 (a).Role, .int .i64 (a).Wait, .bool (a).Open]], []) : Option (List Row × List Row))
  replace hpre : (true) = true := hpre
  rfl
theorem s70 : SoundAt Go.Proofs.Try.prog Hx 70 c70 := soundAt_of T78_sound mixed func70 (by kernel_rfl) (by
  intro rows r h
  unfold c70 at h
  split at h
  · rename_i a_Up a_Has a_Vec_Root a_Vec_Cost a_Vec_Bridge a_Vec_Port a_Hops a_Left a_Role a_Wait a_Open
    obtain ⟨hp, hr⟩ := Prod.mk.inj (Option.some.inj h)
    subst hr
    exact ⟨_, m70 ⟨a_Up, a_Has, ⟨a_Vec_Root, a_Vec_Cost, a_Vec_Bridge, a_Vec_Port⟩, a_Hops, a_Left, a_Role, a_Wait, a_Open⟩ hp⟩
  · cases h)
def T70 : Table := (70, c70) :: T78
theorem T70_sound : Table.Sound Go.Proofs.Try.prog Hx T70 := Table.sound_cons s70 T78_sound
def o57 (a : List Port) : Bool × List Row × List Row := (decide (a.length ≤ 1048576), [[.sl true 11 (enS true (a))]], [])
def c57 : Contract
  | [[.sl false 11 a]] => some (isS Port false a && (o57 (deS Port a)).1, (o57 (deS Port a)).2.1, (o57 (deS Port a)).2.2)
  | _ => none

def k57_0 (n : Nat) : Ex → St → RR := kThen (fun st ↦ runCode (Ctx.mk prog Hx (57)) (Table.call T70) n (codeAt [1, 1, 1] (bodyOf f57)) (Lv.mk 4 [] 4) st (kLeave (Ctx.P (Ctx.mk prog Hx (57))) (List.zip (Array.toList (Go.Func.resultTypes f57)) (Array.toList (Go.Func.results f57))) [] [])) (kLeave (Ctx.P (Ctx.mk prog Hx (57))) (List.zip (Array.toList (Go.Func.resultTypes f57)) (Array.toList (Go.Func.results f57))) [] [])
def k57_1 (n : Nat) : Ex → St → RR := kBlock (0) (k57_0 n)
def S57_0 (a : List Port) (i0 : Int) (es1 : List (List D)) : St := St.mk [V_ [C.d (D.sl false 11 (enS false a))], U_, U_, V_ [C.view 0 0 0 [] 11 none], I_ i0, U_, U_, U_, U_, U_, U_, U_, U_, U_, U_, U_, U_, U_, U_, U_, U_, U_, U_] [Root.mk false 11 es1 0 0 true true false]
def B57_0 (n : Nat) : St → (Ex → St → RR) → RR := runCode (Ctx.mk prog Hx (57)) (Table.call T70) n (codeAt [1, 1, 0, 1, 0, 0] (bodyOf f57)) (Lv.mk 25 [(0, 8)] 4)
def X57_2 (a : List Port) (i0 : Int) (es1 : List (List D)) : St := St.mk [V_ [C.d (D.sl false 11 (enS false a))], U_, U_, V_ [C.view 0 0 0 [] 11 none], I_ i0, U_, U_, U_, I_ i0, V_ [C.d (D.sl false 11 (enS false a))], I_ (ofNat (length (enS false a))), B_ false, U_, U_, U_, U_, U_, U_, U_, U_, U_, U_, U_] [Root.mk false 11 es1 0 0 true true false]
theorem q57_0 (a : List Port) (n : Nat) (i0 : Int) (es1 : List (List D)) (f : St → RR) (K : Ex → St → RR) : B57_0 n (S57_0 a i0 es1) (kThen (fun st ↦ f (St.head 1 25 4194064 st)) K) = bif decide (i0 < ofNat (length (enS false a))) then bif decide (0 ≤ i0) && decide (i0 < ofNat (length (enS false a))) then bif Leaf.fit false Leaf.bool (getD (getD (enS false a) (toNat i0) []) 0 D.dead) && (Leaf.fit false Leaf.bool (getD (getD (enS false a) (toNat i0) []) 1 D.dead) && (Leaf.fit false (Leaf.int i64) (getD (getD (enS false a) (toNat i0) []) 2 D.dead) && (Leaf.fit false (Leaf.int i64) (getD (getD (enS false a) (toNat i0) []) 3 D.dead) && (Leaf.fit false (Leaf.int i64) (getD (getD (enS false a) (toNat i0) []) 4 D.dead) && (Leaf.fit false (Leaf.int i64) (getD (getD (enS false a) (toNat i0) []) 5 D.dead) && (Leaf.fit false (Leaf.int i64) (getD (getD (enS false a) (toNat i0) []) 6 D.dead) && (Leaf.fit false (Leaf.int i64) (getD (getD (enS false a) (toNat i0) []) 7 D.dead) && (Leaf.fit false (Leaf.int i64) (getD (getD (enS false a) (toNat i0) []) 8 D.dead) && (Leaf.fit false (Leaf.int i64) (getD (getD (enS false a) (toNat i0) []) 9 D.dead) && (Leaf.fit false Leaf.bool (getD (getD (enS false a) (toNat i0) []) 10 D.dead) && true)))))))))) then bif decide (0 ≤ i0) && decide (i0 < ofNat (length es1)) then f (S57_0 a (wrap i64 (i0 + 1)) (set es1 (0 + toNat i0) [D.bool (D.flag (getD (getD (enS false a) (toNat i0) []) 0 D.dead)), D.bool (D.flag (getD (getD (enS false a) (toNat i0) []) 1 D.dead)), D.int i64 (D.num (getD (getD (enS false a) (toNat i0) []) 2 D.dead)), D.int i64 (D.num (getD (getD (enS false a) (toNat i0) []) 3 D.dead)), D.int i64 (D.num (getD (getD (enS false a) (toNat i0) []) 4 D.dead)), D.int i64 (D.num (getD (getD (enS false a) (toNat i0) []) 5 D.dead)), D.int i64 (D.num (getD (getD (enS false a) (toNat i0) []) 6 D.dead)), D.int i64 (D.num (getD (getD (enS false a) (toNat i0) []) 7 D.dead)), D.int i64 (D.num (getD (getD (enS false a) (toNat i0) []) 8 D.dead)), D.int i64 (D.num (getD (getD (enS false a) (toNat i0) []) 9 D.dead)), D.bool (D.flag (getD (getD (enS false a) (toNat i0) []) 10 D.dead))])) else none else none else none else K (Ex.exit 0) (X57_2 a i0 es1) := by kernel_rfl
theorem aX57_2 (a : List Port) (n : Nat) (i0 : Int) (es1 : List (List D)) : k57_1 n (Ex.exit 0) (X57_2 a i0 es1) = some ([[D.sl true 11 es1]], []) := by kernel_rfl
theorem r57 (a : List Port) (n : Nat) : evFn ⟨prog, Hx, 57⟩ T70.call n f57 [[.sl false 11 (enS false a)]] = bif decide (0 ≤ ofNat (length (enS false a))) && (decide (ofNat (length (enS false a)) ≤ ofNat (length (enS false a))) && decide (toNat (ofNat (length (enS false a))) * 80 ≤ 140737488355328)) then loopRun (B57_0 n) 1 25 4194064 n (S57_0 a (0) (replicate (toNat (ofNat (length (enS false a)))) [D.bool false, D.bool false, D.int i64 (0), D.int i64 (0), D.int i64 (0), D.int i64 (0), D.int i64 (0), D.int i64 (0), D.int i64 (0), D.int i64 (0), D.bool false])) (k57_1 n) else none := by kernel_rfl
theorem m57 (a : List Port) (hpre : (o57 a).1 = true) : evFn ⟨Go.Proofs.Try.prog, Hx, 57⟩ T70.call (a.length + 1) f57 [[.sl false 11 (enS false a)]] = some (o57 a).2 := by
  refine (r57 a _).trans ?_
  show _ = (some ([[.sl true 11 (enS true (a))]], []) : Option (List Row × List Row))
  replace hpre : (decide (a.length ≤ 1048576)) = true := hpre
  have hlen : a.length ≤ 1048576 := of_decide_eq_true hpre
  rw [enS_length, make_ok (by omega), cond_true, toNat_of]
  refine (congrArg (fun z => loopRun _ _ _ _ _ (S57_0 a 0 z) _) (enS_rep true a.length (En.nil : Port))).trans ?_
  refine loop_list (xs := a) (fun i (ys : List Port) => S57_0 a (Int.ofNat i) (enS true ys)) (fun i ys => ys.length = a.length ∧ ys.take i = a.take i) (fun _ _ _ => some ([[D.sl true 11 (enS true a)]], [])) ?_ ?_ (a.length + 1) _ (by omega) ⟨List.length_replicate .., rfl⟩
  · rintro ys ⟨h2, h3⟩ f
    refine (q57_0 a _ _ _ f _).trans ?_
    simp only [enS_length, dec_lt, Nat.lt_irrefl, decide_false, cond_false]
    refine (aX57_2 a _ _ _).trans ?_
    rw [List.take_length, ← h2, List.take_length] at h3
    subst h3
    rfl
  · rintro i ys hi ⟨h2, h3⟩ f hf
    refine (q57_0 a _ _ _ f _).trans ?_
    simp only [enS_length, toNat_of, dec_lt, dec_ge, enS_get _ hi, h2, hi, wrap_succ (show i < 4611686018427387904 by omega), Nat.zero_add, decide_true, cond_true, Bool.and_self]
    exact (congrArg f (congrArg (S57_0 a _) (enS_set true ys i a[i]))).trans (hf (ys.set i a[i]) ⟨by rw [List.length_set]; exact h2, take_set_succ hi h2 h3⟩)
theorem s57 : SoundAt Go.Proofs.Try.prog Hx 57 c57 := soundAt_of T70_sound mixed func57 (by kernel_rfl) (by
  intro rows r h
  unfold c57 at h
  split at h
  · rename_i a
    obtain ⟨hp, hr⟩ := Prod.mk.inj (Option.some.inj h)
    subst hr
    simp only [Bool.and_eq_true] at hp
    obtain ⟨hs0, hp⟩ := hp
    obtain ⟨xs0, rfl⟩ := isS_ex hs0
    simp only [deS_enS] at hp ⊢
    exact ⟨_, m57 xs0 hp⟩
  · cases h)
def T57 : Table := (57, c57) :: T70
theorem T57_sound : Table.Sound Go.Proofs.Try.prog Hx T57 := Table.sound_cons s57 T70_sound
def o38 (a : Bridge) : Bool × List Row × List Row := (Bridge.small a, [[.int .i64 (a).Id, .sl true 11 (enS true (a).Ports)]], [])
def c38 : Contract
  | [[.int .i64 a_Id, .sl false 11 a_Ports]] => some (isS Port false a_Ports && (o38 ⟨a_Id, (deS Port a_Ports)⟩).1, (o38 ⟨a_Id, (deS Port a_Ports)⟩).2.1, (o38 ⟨a_Id, (deS Port a_Ports)⟩).2.2)
  | _ => none

theorem r38 (a : Bridge) (n : Nat) : evFn ⟨prog, Hx, 38⟩ T57.call n f38 [[.int .i64 a.Id, .sl false 11 (enS false a.Ports)]] = bif isS Port false (enS false (Bridge.Ports a)) && decide (length (deS Port (enS false (Bridge.Ports a))) ≤ 1048576) then some ([[D.int i64 (Bridge.Id a), D.sl true 11 (enS true (deS Port (enS false (Bridge.Ports a))))]], []) else none := by kernel_rfl
theorem m38 (a : Bridge) (hpre : (o38 a).1 = true) : evFn ⟨Go.Proofs.Try.prog, Hx, 38⟩ T57.call 0 f38 [[.int .i64 a.Id, .sl false 11 (enS false a.Ports)]] = some (o38 a).2 := by
  refine (r38 a _).trans ?_
  show _ = (some ([[.int .i64 (a).Id, .sl true 11 (enS true (a).Ports)]], []) : Option (List Row × List Row))
  replace hpre : (Bridge.small a) = true := hpre
  unfold Bridge.small at hpre
  try simp only [Bool.and_eq_true] at hpre
  simp only [hpre, isS_enS, deS_enS, cond_true, Bool.and_self, Bool.and_true, Bool.true_and]
  try rfl
theorem s38 : SoundAt Go.Proofs.Try.prog Hx 38 c38 := soundAt_of T57_sound mixed func38 (by kernel_rfl) (by
  intro rows r h
  unfold c38 at h
  split at h
  · rename_i a_Id a_Ports
    obtain ⟨hp, hr⟩ := Prod.mk.inj (Option.some.inj h)
    subst hr
    simp only [Bool.and_eq_true] at hp
    obtain ⟨hs0, hp⟩ := hp
    obtain ⟨xs0, rfl⟩ := isS_ex hs0
    simp only [deS_enS] at hp ⊢
    exact ⟨_, m38 ⟨a_Id, xs0⟩ hp⟩
  · cases h)
def T38 : Table := (38, c38) :: T57
theorem T38_sound : Table.Sound Go.Proofs.Try.prog Hx T38 := Table.sound_cons s38 T57_sound
def o18 (a : List Bridge) : Bool × List Row × List Row := ((decide (a.length ≤ 1048576) && a.all Bridge.small), [[.sl true 2 (enS true (a))]], [])
def c18 : Contract
  | [[.sl false 2 a]] => some (isS Bridge false a && (o18 (deS Bridge a)).1, (o18 (deS Bridge a)).2.1, (o18 (deS Bridge a)).2.2)
  | _ => none

def k18_0 (n : Nat) : Ex → St → RR := kThen (fun st ↦ runCode (Ctx.mk prog Hx (18)) (Table.call T38) n (codeAt [1, 1, 1] (bodyOf f18)) (Lv.mk 4 [] 4) st (kLeave (Ctx.P (Ctx.mk prog Hx (18))) (List.zip (Array.toList (Go.Func.resultTypes f18)) (Array.toList (Go.Func.results f18))) [] [])) (kLeave (Ctx.P (Ctx.mk prog Hx (18))) (List.zip (Array.toList (Go.Func.resultTypes f18)) (Array.toList (Go.Func.results f18))) [] [])
def k18_1 (n : Nat) : Ex → St → RR := kBlock (0) (k18_0 n)
def S18_0 (a : List Bridge) (i0 : Int) (es1 : List (List D)) : St := St.mk [V_ [C.d (D.sl false 2 (enS false a))], U_, U_, V_ [C.view 0 0 0 [] 2 none], I_ i0, U_, U_, U_, U_, U_, U_, U_, U_, U_, U_, U_, U_, U_, U_, U_, U_, U_, U_] [Root.mk false 2 es1 0 0 true true false]
def B18_0 (n : Nat) : St → (Ex → St → RR) → RR := runCode (Ctx.mk prog Hx (18)) (Table.call T38) n (codeAt [1, 1, 0, 1, 0, 0] (bodyOf f18)) (Lv.mk 25 [(0, 8)] 4)
def X18_2 (a : List Bridge) (i0 : Int) (es1 : List (List D)) : St := St.mk [V_ [C.d (D.sl false 2 (enS false a))], U_, U_, V_ [C.view 0 0 0 [] 2 none], I_ i0, U_, U_, U_, I_ i0, V_ [C.d (D.sl false 2 (enS false a))], I_ (ofNat (length (enS false a))), B_ false, U_, U_, U_, U_, U_, U_, U_, U_, U_, U_, U_] [Root.mk false 2 es1 0 0 true true false]
theorem q18_0 (a : List Bridge) (n : Nat) (i0 : Int) (es1 : List (List D)) (f : St → RR) (K : Ex → St → RR) : B18_0 n (S18_0 a i0 es1) (kThen (fun st ↦ f (St.head 1 25 4194064 st)) K) = bif decide (i0 < ofNat (length (enS false a))) then bif decide (0 ≤ i0) && decide (i0 < ofNat (length (enS false a))) then bif Leaf.fit false (Leaf.int i64) (getD (getD (enS false a) (toNat i0) []) 0 D.dead) && (Leaf.fit false (Leaf.sl 11 true) (getD (getD (enS false a) (toNat i0) []) 1 D.dead) && true) then bif isS Port false (D.rows (getD (getD (enS false a) (toNat i0) []) 1 D.dead)) && Bridge.small (Bridge.mk (D.num (getD (getD (enS false a) (toNat i0) []) 0 D.dead)) (deS Port (D.rows (getD (getD (enS false a) (toNat i0) []) 1 D.dead)))) then bif decide (0 ≤ i0) && decide (i0 < ofNat (length es1)) then f (S18_0 a (wrap i64 (i0 + 1)) (set es1 (0 + toNat i0) [D.int i64 (D.num (getD (getD (enS false a) (toNat i0) []) 0 D.dead)), D.sl true 11 (enS true (deS Port (D.rows (getD (getD (enS false a) (toNat i0) []) 1 D.dead))))])) else none else none else none else none else K (Ex.exit 0) (X18_2 a i0 es1) := by kernel_rfl
theorem aX18_2 (a : List Bridge) (n : Nat) (i0 : Int) (es1 : List (List D)) : k18_1 n (Ex.exit 0) (X18_2 a i0 es1) = some ([[D.sl true 2 es1]], []) := by kernel_rfl
theorem r18 (a : List Bridge) (n : Nat) : evFn ⟨prog, Hx, 18⟩ T38.call n f18 [[.sl false 2 (enS false a)]] = bif decide (0 ≤ ofNat (length (enS false a))) && (decide (ofNat (length (enS false a)) ≤ ofNat (length (enS false a))) && decide (toNat (ofNat (length (enS false a))) * 32 ≤ 140737488355328)) then loopRun (B18_0 n) 1 25 4194064 n (S18_0 a (0) (replicate (toNat (ofNat (length (enS false a)))) [D.int i64 (0), D.sl true 11 []])) (k18_1 n) else none := by kernel_rfl
theorem m18 (a : List Bridge) (hpre : (o18 a).1 = true) : evFn ⟨Go.Proofs.Try.prog, Hx, 18⟩ T38.call (a.length + 1) f18 [[.sl false 2 (enS false a)]] = some (o18 a).2 := by
  refine (r18 a _).trans ?_
  show _ = (some ([[.sl true 2 (enS true (a))]], []) : Option (List Row × List Row))
  replace hpre : ((decide (a.length ≤ 1048576) && a.all Bridge.small)) = true := hpre
  rw [Bool.and_eq_true] at hpre
  have hlen := of_decide_eq_true hpre.1
  rw [enS_length, make_ok (by omega), cond_true, toNat_of]
  refine (congrArg (fun z => loopRun _ _ _ _ _ (S18_0 a 0 z) _) (enS_rep true a.length (En.nil : Bridge))).trans ?_
  refine loop_list (xs := a) (fun i (ys : List Bridge) => S18_0 a (Int.ofNat i) (enS true ys)) (fun i ys => ys.length = a.length ∧ ys.take i = a.take i) (fun _ _ _ => some ([[D.sl true 2 (enS true a)]], [])) ?_ ?_ (a.length + 1) _ (by omega) ⟨List.length_replicate .., rfl⟩
  · rintro ys ⟨h2, h3⟩ f
    refine (q18_0 a _ _ _ f _).trans ?_
    rw [end_lt, cond_false]
    refine (aX18_2 a _ _ _).trans ?_
    rw [List.take_length, ← h2, List.take_length] at h3
    subst h3
    rfl
  · rintro i ys hi ⟨h2, h3⟩ f hf
    refine (q18_0 a _ _ _ f _).trans ?_
    have hel := List.all_eq_true.1 hpre.2 _ (List.getElem_mem hi)
    simp only [enS_length, toNat_of, dec_lt, dec_ge, decide_true, decide_false, cond_true, cond_false, Bool.and_self, Bool.and_true, Bool.true_and, Bool.not_true, Bool.not_false, Nat.lt_irrefl, Nat.zero_add, isS_enS, deS_enS, isS_nil, deS_nil, List.nil_append, lendRows_enS, deepRows_enS, noSl_u8, En.enc, List.getD_cons_zero, List.getD_cons_succ, D.num, D.flag, D.text, D.rows, Leaf.fit, List.append_eq, TReader.eta, Frame.eta, Heard.eta, Member.eta, Card.eta, Out1.eta, Vec.eta, Port.eta, Bridge.eta, In.eta, Out.eta, Link.eta, Net.eta, TEnd.eta, Minder.eta, Reg.eta, Wire.eta, Box.eta, Deed.eta, Bpdu.eta, Visit.eta, Fabric.eta, Got.eta, TRide.eta, Up.eta, Copy.eta, Bucket.eta, Snap.eta, TL9Cur.eta, TL21In.eta, enS_get _ hi, hi, wrap_succ (show i < 4611686018427387904 by omega), h2, hel]
    exact (congrArg f (congrArg (S18_0 a _) (enS_set true ys i a[i]))).trans (hf (ys.set i a[i]) ⟨by rw [List.length_set]; exact h2, take_set_succ hi h2 h3⟩)
theorem s18 : SoundAt Go.Proofs.Try.prog Hx 18 c18 := soundAt_of T38_sound mixed func18 (by kernel_rfl) (by
  intro rows r h
  unfold c18 at h
  split at h
  · rename_i a
    obtain ⟨hp, hr⟩ := Prod.mk.inj (Option.some.inj h)
    subst hr
    simp only [Bool.and_eq_true] at hp
    obtain ⟨hs0, hp⟩ := hp
    obtain ⟨xs0, rfl⟩ := isS_ex hs0
    simp only [deS_enS] at hp ⊢
    exact ⟨_, m18 xs0 hp⟩
  · cases h)
def T18 : Table := (18, c18) :: T38
theorem T18_sound : Table.Sound Go.Proofs.Try.prog Hx T18 := Table.sound_cons s18 T38_sound
def o39 (a : Link) : Bool × List Row × List Row := (true, [[.int .i64 (a).A, .int .i64 (a).P, .int .i64 (a).B, .int .i64 (a).Q]], [])
def c39 : Contract
  | [[.int .i64 a_A, .int .i64 a_P, .int .i64 a_B, .int .i64 a_Q]] => some ((o39 ⟨a_A, a_P, a_B, a_Q⟩).1, (o39 ⟨a_A, a_P, a_B, a_Q⟩).2.1, (o39 ⟨a_A, a_P, a_B, a_Q⟩).2.2)
  | _ => none

theorem r39 (a : Link) (n : Nat) : evFn ⟨prog, Hx, 39⟩ T18.call n f39 [[.int .i64 a.A, .int .i64 a.P, .int .i64 a.B, .int .i64 a.Q]] = some ([[D.int i64 (Link.A a), D.int i64 (Link.P a), D.int i64 (Link.B a), D.int i64 (Link.Q a)]], []) := by kernel_rfl
theorem m39 (a : Link) (hpre : (o39 a).1 = true) : evFn ⟨Go.Proofs.Try.prog, Hx, 39⟩ T18.call 0 f39 [[.int .i64 a.A, .int .i64 a.P, .int .i64 a.B, .int .i64 a.Q]] = some (o39 a).2 := by
  refine (r39 a _).trans ?_
  show _ = (some ([[.int .i64 (a).A, .int .i64 (a).P, .int .i64 (a).B, .int .i64 (a).Q]], []) : Option (List Row × List Row))
  replace hpre : (true) = true := hpre
  rfl
theorem s39 : SoundAt Go.Proofs.Try.prog Hx 39 c39 := soundAt_of T18_sound mixed func39 (by kernel_rfl) (by
  intro rows r h
  unfold c39 at h
  split at h
  · rename_i a_A a_P a_B a_Q
    obtain ⟨hp, hr⟩ := Prod.mk.inj (Option.some.inj h)
    subst hr
    exact ⟨_, m39 ⟨a_A, a_P, a_B, a_Q⟩ hp⟩
  · cases h)
def T39 : Table := (39, c39) :: T18
theorem T39_sound : Table.Sound Go.Proofs.Try.prog Hx T39 := Table.sound_cons s39 T18_sound
def o19 (a : List Link) : Bool × List Row × List Row := (decide (a.length ≤ 1048576), [[.sl true 4 (enS true (a))]], [])
def c19 : Contract
  | [[.sl false 4 a]] => some (isS Link false a && (o19 (deS Link a)).1, (o19 (deS Link a)).2.1, (o19 (deS Link a)).2.2)
  | _ => none

def k19_0 (n : Nat) : Ex → St → RR := kThen (fun st ↦ runCode (Ctx.mk prog Hx (19)) (Table.call T39) n (codeAt [1, 1, 1] (bodyOf f19)) (Lv.mk 4 [] 4) st (kLeave (Ctx.P (Ctx.mk prog Hx (19))) (List.zip (Array.toList (Go.Func.resultTypes f19)) (Array.toList (Go.Func.results f19))) [] [])) (kLeave (Ctx.P (Ctx.mk prog Hx (19))) (List.zip (Array.toList (Go.Func.resultTypes f19)) (Array.toList (Go.Func.results f19))) [] [])
def k19_1 (n : Nat) : Ex → St → RR := kBlock (0) (k19_0 n)
def S19_0 (a : List Link) (i0 : Int) (es1 : List (List D)) : St := St.mk [V_ [C.d (D.sl false 4 (enS false a))], U_, U_, V_ [C.view 0 0 0 [] 4 none], I_ i0, U_, U_, U_, U_, U_, U_, U_, U_, U_, U_, U_, U_, U_, U_, U_, U_, U_, U_] [Root.mk false 4 es1 0 0 true true false]
def B19_0 (n : Nat) : St → (Ex → St → RR) → RR := runCode (Ctx.mk prog Hx (19)) (Table.call T39) n (codeAt [1, 1, 0, 1, 0, 0] (bodyOf f19)) (Lv.mk 25 [(0, 8)] 4)
def X19_2 (a : List Link) (i0 : Int) (es1 : List (List D)) : St := St.mk [V_ [C.d (D.sl false 4 (enS false a))], U_, U_, V_ [C.view 0 0 0 [] 4 none], I_ i0, U_, U_, U_, I_ i0, V_ [C.d (D.sl false 4 (enS false a))], I_ (ofNat (length (enS false a))), B_ false, U_, U_, U_, U_, U_, U_, U_, U_, U_, U_, U_] [Root.mk false 4 es1 0 0 true true false]
theorem q19_0 (a : List Link) (n : Nat) (i0 : Int) (es1 : List (List D)) (f : St → RR) (K : Ex → St → RR) : B19_0 n (S19_0 a i0 es1) (kThen (fun st ↦ f (St.head 1 25 4194064 st)) K) = bif decide (i0 < ofNat (length (enS false a))) then bif decide (0 ≤ i0) && decide (i0 < ofNat (length (enS false a))) then bif Leaf.fit false (Leaf.int i64) (getD (getD (enS false a) (toNat i0) []) 0 D.dead) && (Leaf.fit false (Leaf.int i64) (getD (getD (enS false a) (toNat i0) []) 1 D.dead) && (Leaf.fit false (Leaf.int i64) (getD (getD (enS false a) (toNat i0) []) 2 D.dead) && (Leaf.fit false (Leaf.int i64) (getD (getD (enS false a) (toNat i0) []) 3 D.dead) && true))) then bif decide (0 ≤ i0) && decide (i0 < ofNat (length es1)) then f (S19_0 a (wrap i64 (i0 + 1)) (set es1 (0 + toNat i0) [D.int i64 (D.num (getD (getD (enS false a) (toNat i0) []) 0 D.dead)), D.int i64 (D.num (getD (getD (enS false a) (toNat i0) []) 1 D.dead)), D.int i64 (D.num (getD (getD (enS false a) (toNat i0) []) 2 D.dead)), D.int i64 (D.num (getD (getD (enS false a) (toNat i0) []) 3 D.dead))])) else none else none else none else K (Ex.exit 0) (X19_2 a i0 es1) := by kernel_rfl
theorem aX19_2 (a : List Link) (n : Nat) (i0 : Int) (es1 : List (List D)) : k19_1 n (Ex.exit 0) (X19_2 a i0 es1) = some ([[D.sl true 4 es1]], []) := by kernel_rfl
theorem r19 (a : List Link) (n : Nat) : evFn ⟨prog, Hx, 19⟩ T39.call n f19 [[.sl false 4 (enS false a)]] = bif decide (0 ≤ ofNat (length (enS false a))) && (decide (ofNat (length (enS false a)) ≤ ofNat (length (enS false a))) && decide (toNat (ofNat (length (enS false a))) * 32 ≤ 140737488355328)) then loopRun (B19_0 n) 1 25 4194064 n (S19_0 a (0) (replicate (toNat (ofNat (length (enS false a)))) [D.int i64 (0), D.int i64 (0), D.int i64 (0), D.int i64 (0)])) (k19_1 n) else none := by kernel_rfl
theorem m19 (a : List Link) (hpre : (o19 a).1 = true) : evFn ⟨Go.Proofs.Try.prog, Hx, 19⟩ T39.call (a.length + 1) f19 [[.sl false 4 (enS false a)]] = some (o19 a).2 := by
  refine (r19 a _).trans ?_
  show _ = (some ([[.sl true 4 (enS true (a))]], []) : Option (List Row × List Row))
  replace hpre : (decide (a.length ≤ 1048576)) = true := hpre
  have hlen : a.length ≤ 1048576 := of_decide_eq_true hpre
  rw [enS_length, make_ok (by omega), cond_true, toNat_of]
  refine (congrArg (fun z => loopRun _ _ _ _ _ (S19_0 a 0 z) _) (enS_rep true a.length (En.nil : Link))).trans ?_
  refine loop_list (xs := a) (fun i (ys : List Link) => S19_0 a (Int.ofNat i) (enS true ys)) (fun i ys => ys.length = a.length ∧ ys.take i = a.take i) (fun _ _ _ => some ([[D.sl true 4 (enS true a)]], [])) ?_ ?_ (a.length + 1) _ (by omega) ⟨List.length_replicate .., rfl⟩
  · rintro ys ⟨h2, h3⟩ f
    refine (q19_0 a _ _ _ f _).trans ?_
    simp only [enS_length, dec_lt, Nat.lt_irrefl, decide_false, cond_false]
    refine (aX19_2 a _ _ _).trans ?_
    rw [List.take_length, ← h2, List.take_length] at h3
    subst h3
    rfl
  · rintro i ys hi ⟨h2, h3⟩ f hf
    refine (q19_0 a _ _ _ f _).trans ?_
    simp only [enS_length, toNat_of, dec_lt, dec_ge, enS_get _ hi, h2, hi, wrap_succ (show i < 4611686018427387904 by omega), Nat.zero_add, decide_true, cond_true, Bool.and_self]
    exact (congrArg f (congrArg (S19_0 a _) (enS_set true ys i a[i]))).trans (hf (ys.set i a[i]) ⟨by rw [List.length_set]; exact h2, take_set_succ hi h2 h3⟩)
theorem s19 : SoundAt Go.Proofs.Try.prog Hx 19 c19 := soundAt_of T39_sound mixed func19 (by kernel_rfl) (by
  intro rows r h
  unfold c19 at h
  split at h
  · rename_i a
    obtain ⟨hp, hr⟩ := Prod.mk.inj (Option.some.inj h)
    subst hr
    simp only [Bool.and_eq_true] at hp
    obtain ⟨hs0, hp⟩ := hp
    obtain ⟨xs0, rfl⟩ := isS_ex hs0
    simp only [deS_enS] at hp ⊢
    exact ⟨_, m19 xs0 hp⟩
  · cases h)
def T19 : Table := (19, c19) :: T39
theorem T19_sound : Table.Sound Go.Proofs.Try.prog Hx T19 := Table.sound_cons s19 T39_sound
def o6 (a : Net) : Bool × List Row × List Row := (Net.small a, [[.sl true 2 (enS true (a).Bridges), .sl true 4 (enS true (a).Links)]], [])
def c6 : Contract
  | [[.sl false 2 a_Bridges, .sl false 4 a_Links]] => some (isS Bridge false a_Bridges && isS Link false a_Links && (o6 ⟨(deS Bridge a_Bridges), (deS Link a_Links)⟩).1, (o6 ⟨(deS Bridge a_Bridges), (deS Link a_Links)⟩).2.1, (o6 ⟨(deS Bridge a_Bridges), (deS Link a_Links)⟩).2.2)
  | _ => none

theorem r6 (a : Net) (n : Nat) : evFn ⟨prog, Hx, 6⟩ T19.call n f6 [[.sl false 2 (enS false a.Bridges), .sl false 4 (enS false a.Links)]] = bif isS Bridge false (enS false (Net.Bridges a)) && (decide (length (deS Bridge (enS false (Net.Bridges a))) ≤ 1048576) && all (deS Bridge (enS false (Net.Bridges a))) Bridge.small) then bif isS Link false (enS false (Net.Links a)) && decide (length (deS Link (enS false (Net.Links a))) ≤ 1048576) then some ([[D.sl true 2 (enS true (deS Bridge (enS false (Net.Bridges a)))), D.sl true 4 (enS true (deS Link (enS false (Net.Links a))))]], []) else none else none := by kernel_rfl
theorem m6 (a : Net) (hpre : (o6 a).1 = true) : evFn ⟨Go.Proofs.Try.prog, Hx, 6⟩ T19.call 0 f6 [[.sl false 2 (enS false a.Bridges), .sl false 4 (enS false a.Links)]] = some (o6 a).2 := by
  refine (r6 a _).trans ?_
  show _ = (some ([[.sl true 2 (enS true (a).Bridges), .sl true 4 (enS true (a).Links)]], []) : Option (List Row × List Row))
  replace hpre : (Net.small a) = true := hpre
  unfold Net.small at hpre
  try simp only [Bool.and_eq_true] at hpre
  simp only [hpre, isS_enS, deS_enS, cond_true, Bool.and_self, Bool.and_true, Bool.true_and]
  try rfl
theorem s6 : SoundAt Go.Proofs.Try.prog Hx 6 c6 := soundAt_of T19_sound mixed func6 (by kernel_rfl) (by
  intro rows r h
  unfold c6 at h
  split at h
  · rename_i a_Bridges a_Links
    obtain ⟨hp, hr⟩ := Prod.mk.inj (Option.some.inj h)
    subst hr
    simp only [Bool.and_eq_true] at hp
    obtain ⟨⟨hs0, hs1⟩, hp⟩ := hp
    obtain ⟨xs0, rfl⟩ := isS_ex hs0
    obtain ⟨xs1, rfl⟩ := isS_ex hs1
    simp only [deS_enS] at hp ⊢
    exact ⟨_, m6 ⟨xs0, xs1⟩ hp⟩
  · cases h)
def T6 : Table := (6, c6) :: T19
theorem T6_sound : Table.Sound Go.Proofs.Try.prog Hx T6 := Table.sound_cons s6 T19_sound
def o84 (a : Vec) (b : Vec) : Bool × List Row × List Row := (sameB a b, [[.bool (true)]], [])
def c84 : Contract
  | [[.int .i64 a_Root, .int .i64 a_Cost, .int .i64 a_Bridge, .int .i64 a_Port], [.int .i64 b_Root, .int .i64 b_Cost, .int .i64 b_Bridge, .int .i64 b_Port]] => some ((o84 ⟨a_Root, a_Cost, a_Bridge, a_Port⟩ ⟨b_Root, b_Cost, b_Bridge, b_Port⟩).1, (o84 ⟨a_Root, a_Cost, a_Bridge, a_Port⟩ ⟨b_Root, b_Cost, b_Bridge, b_Port⟩).2.1, (o84 ⟨a_Root, a_Cost, a_Bridge, a_Port⟩ ⟨b_Root, b_Cost, b_Bridge, b_Port⟩).2.2)
  | _ => none

theorem r84 (a : Vec) (b : Vec) (n : Nat) : evFn ⟨prog, Hx, 84⟩ T6.call n f84 [[.int .i64 a.Root, .int .i64 a.Cost, .int .i64 a.Bridge, .int .i64 a.Port], [.int .i64 b.Root, .int .i64 b.Cost, .int .i64 b.Bridge, .int .i64 b.Port]] = bif Vec.Root a != Vec.Root b then some ([[D.bool false]], []) else bif Vec.Cost a != Vec.Cost b then some ([[D.bool false]], []) else bif Vec.Bridge a != Vec.Bridge b then some ([[D.bool false]], []) else bif Vec.Port a != Vec.Port b then some ([[D.bool false]], []) else some ([[D.bool true]], []) := by kernel_rfl
theorem m84 (a : Vec) (b : Vec) (hpre : (o84 a b).1 = true) : evFn ⟨Go.Proofs.Try.prog, Hx, 84⟩ T6.call 0 f84 [[.int .i64 a.Root, .int .i64 a.Cost, .int .i64 a.Bridge, .int .i64 a.Port], [.int .i64 b.Root, .int .i64 b.Cost, .int .i64 b.Bridge, .int .i64 b.Port]] = some (o84 a b).2 := by
  refine (r84 a b _).trans ?_
  show _ = (some ([[.bool (true)]], []) : Option (List Row × List Row))
  replace hpre : (sameB a b) = true := hpre
  have := sameB_eq hpre
  subst this
  simp only [bne_self_eq_false, cond_false, sameB_self, cond_true, Bool.not_true]
theorem s84 : SoundAt Go.Proofs.Try.prog Hx 84 c84 := soundAt_of T6_sound mixed func84 (by kernel_rfl) (by
  intro rows r h
  unfold c84 at h
  split at h
  · rename_i a_Root a_Cost a_Bridge a_Port b_Root b_Cost b_Bridge b_Port
    obtain ⟨hp, hr⟩ := Prod.mk.inj (Option.some.inj h)
    subst hr
    exact ⟨_, m84 ⟨a_Root, a_Cost, a_Bridge, a_Port⟩ ⟨b_Root, b_Cost, b_Bridge, b_Port⟩ hp⟩
  · cases h)
def T84 : Table := (84, c84) :: T6
theorem T84_sound : Table.Sound Go.Proofs.Try.prog Hx T84 := Table.sound_cons s84 T6_sound
def o77 (a : Port) (b : Port) : Bool × List Row × List Row := (sameB a b, [[.bool (true)]], [])
def c77 : Contract
  | [[.bool a_Up, .bool a_Has, .int .i64 a_Vec_Root, .int .i64 a_Vec_Cost, .int .i64 a_Vec_Bridge, .int .i64 a_Vec_Port, .int .i64 a_Hops, .int .i64 a_Left, .int .i64 a_Role, .int .i64 a_Wait, .bool a_Open], [.bool b_Up, .bool b_Has, .int .i64 b_Vec_Root, .int .i64 b_Vec_Cost, .int .i64 b_Vec_Bridge, .int .i64 b_Vec_Port, .int .i64 b_Hops, .int .i64 b_Left, .int .i64 b_Role, .int .i64 b_Wait, .bool b_Open]] => some ((o77 ⟨a_Up, a_Has, ⟨a_Vec_Root, a_Vec_Cost, a_Vec_Bridge, a_Vec_Port⟩, a_Hops, a_Left, a_Role, a_Wait, a_Open⟩ ⟨b_Up, b_Has, ⟨b_Vec_Root, b_Vec_Cost, b_Vec_Bridge, b_Vec_Port⟩, b_Hops, b_Left, b_Role, b_Wait, b_Open⟩).1, (o77 ⟨a_Up, a_Has, ⟨a_Vec_Root, a_Vec_Cost, a_Vec_Bridge, a_Vec_Port⟩, a_Hops, a_Left, a_Role, a_Wait, a_Open⟩ ⟨b_Up, b_Has, ⟨b_Vec_Root, b_Vec_Cost, b_Vec_Bridge, b_Vec_Port⟩, b_Hops, b_Left, b_Role, b_Wait, b_Open⟩).2.1, (o77 ⟨a_Up, a_Has, ⟨a_Vec_Root, a_Vec_Cost, a_Vec_Bridge, a_Vec_Port⟩, a_Hops, a_Left, a_Role, a_Wait, a_Open⟩ ⟨b_Up, b_Has, ⟨b_Vec_Root, b_Vec_Cost, b_Vec_Bridge, b_Vec_Port⟩, b_Hops, b_Left, b_Role, b_Wait, b_Open⟩).2.2)
  | _ => none

theorem r77 (a : Port) (b : Port) (n : Nat) : evFn ⟨prog, Hx, 77⟩ T84.call n f77 [[.bool a.Up, .bool a.Has, .int .i64 a.Vec.Root, .int .i64 a.Vec.Cost, .int .i64 a.Vec.Bridge, .int .i64 a.Vec.Port, .int .i64 a.Hops, .int .i64 a.Left, .int .i64 a.Role, .int .i64 a.Wait, .bool a.Open], [.bool b.Up, .bool b.Has, .int .i64 b.Vec.Root, .int .i64 b.Vec.Cost, .int .i64 b.Vec.Bridge, .int .i64 b.Vec.Port, .int .i64 b.Hops, .int .i64 b.Left, .int .i64 b.Role, .int .i64 b.Wait, .bool b.Open]] = bif Port.Up a != Port.Up b then some ([[D.bool false]], []) else bif Port.Has a != Port.Has b then some ([[D.bool false]], []) else bif sameB (Port.Vec a) (Port.Vec b) then bif Port.Hops a != Port.Hops b then some ([[D.bool false]], []) else bif Port.Left a != Port.Left b then some ([[D.bool false]], []) else bif Port.Role a != Port.Role b then some ([[D.bool false]], []) else bif Port.Wait a != Port.Wait b then some ([[D.bool false]], []) else bif Port.Open a != Port.Open b then some ([[D.bool false]], []) else some ([[D.bool true]], []) else none := by kernel_rfl
theorem m77 (a : Port) (b : Port) (hpre : (o77 a b).1 = true) : evFn ⟨Go.Proofs.Try.prog, Hx, 77⟩ T84.call 0 f77 [[.bool a.Up, .bool a.Has, .int .i64 a.Vec.Root, .int .i64 a.Vec.Cost, .int .i64 a.Vec.Bridge, .int .i64 a.Vec.Port, .int .i64 a.Hops, .int .i64 a.Left, .int .i64 a.Role, .int .i64 a.Wait, .bool a.Open], [.bool b.Up, .bool b.Has, .int .i64 b.Vec.Root, .int .i64 b.Vec.Cost, .int .i64 b.Vec.Bridge, .int .i64 b.Vec.Port, .int .i64 b.Hops, .int .i64 b.Left, .int .i64 b.Role, .int .i64 b.Wait, .bool b.Open]] = some (o77 a b).2 := by
  refine (r77 a b _).trans ?_
  show _ = (some ([[.bool (true)]], []) : Option (List Row × List Row))
  replace hpre : (sameB a b) = true := hpre
  have := sameB_eq hpre
  subst this
  simp only [bne_self_eq_false, cond_false, sameB_self, cond_true, Bool.not_true]
theorem s77 : SoundAt Go.Proofs.Try.prog Hx 77 c77 := soundAt_of T84_sound mixed func77 (by kernel_rfl) (by
  intro rows r h
  unfold c77 at h
  split at h
  · rename_i a_Up a_Has a_Vec_Root a_Vec_Cost a_Vec_Bridge a_Vec_Port a_Hops a_Left a_Role a_Wait a_Open b_Up b_Has b_Vec_Root b_Vec_Cost b_Vec_Bridge b_Vec_Port b_Hops b_Left b_Role b_Wait b_Open
    obtain ⟨hp, hr⟩ := Prod.mk.inj (Option.some.inj h)
    subst hr
    exact ⟨_, m77 ⟨a_Up, a_Has, ⟨a_Vec_Root, a_Vec_Cost, a_Vec_Bridge, a_Vec_Port⟩, a_Hops, a_Left, a_Role, a_Wait, a_Open⟩ ⟨b_Up, b_Has, ⟨b_Vec_Root, b_Vec_Cost, b_Vec_Bridge, b_Vec_Port⟩, b_Hops, b_Left, b_Role, b_Wait, b_Open⟩ hp⟩
  · cases h)
def T77 : Table := (77, c77) :: T84
theorem T77_sound : Table.Sound Go.Proofs.Try.prog Hx T77 := Table.sound_cons s77 T84_sound
def o65 (a : List Port) (b : List Port) : Bool × List Row × List Row := (sameB a b && (decide (a.length ≤ 1048576)), [[.bool (true)]], [])
def c65 : Contract
  | [[.sl false 11 a], [.sl false 11 b]] => some (isS Port false a && isS Port false b && (o65 (deS Port a) (deS Port b)).1, (o65 (deS Port a) (deS Port b)).2.1, (o65 (deS Port a) (deS Port b)).2.2)
  | _ => none

def k65_0 (n : Nat) : Ex → St → RR := kThen (fun st ↦ runCode (Ctx.mk prog Hx (65)) (Table.call T77) n (codeAt [1, 1, 1] (bodyOf f65)) (Lv.mk 16 [] 16) st (kLeave (Ctx.P (Ctx.mk prog Hx (65))) (List.zip (Array.toList (Go.Func.resultTypes f65)) (Array.toList (Go.Func.results f65))) [] [])) (kLeave (Ctx.P (Ctx.mk prog Hx (65))) (List.zip (Array.toList (Go.Func.resultTypes f65)) (Array.toList (Go.Func.results f65))) [] [])
def k65_1 (n : Nat) : Ex → St → RR := kBlock (0) (k65_0 n)
def S65_0 (a : List Port) (b : List Port) (i0 : Int) : St := St.mk [V_ [C.d (D.sl false 11 (enS false a))], V_ [C.d (D.sl false 11 (enS false b))], U_, U_, U_, I_ i0, U_, U_, U_, U_, U_, U_, U_, U_, U_, U_, U_, U_, U_, U_, U_, U_, U_, U_, U_, U_, U_] []
def B65_0 (n : Nat) : St → (Ex → St → RR) → RR := runCode (Ctx.mk prog Hx (65)) (Table.call T77) n (codeAt [1, 1, 0, 1, 0, 0] (bodyOf f65)) (Lv.mk 35 [(0, 0)] 16)
def X65_2 (a : List Port) (b : List Port) (i0 : Int) : St := St.mk [V_ [C.d (D.sl false 11 (enS false a))], V_ [C.d (D.sl false 11 (enS false b))], U_, U_, U_, I_ i0, U_, U_, U_, U_, U_, I_ i0, V_ [C.d (D.sl false 11 (enS false a))], I_ (ofNat (length (enS false a))), B_ false, U_, U_, U_, U_, U_, U_, U_, U_, U_, U_, U_, U_] []
theorem q65_0 (a : List Port) (b : List Port) (n : Nat) (i0 : Int) (f : St → RR) (K : Ex → St → RR) : B65_0 n (S65_0 a b i0) (kThen (fun st ↦ f (St.head 0 35 134215728 st)) K) = bif decide (i0 < ofNat (length (enS false a))) then bif decide (0 ≤ i0) && decide (i0 < ofNat (length (enS false a))) then bif Leaf.fit false Leaf.bool (getD (getD (enS false a) (toNat i0) []) 0 D.dead) && (Leaf.fit false Leaf.bool (getD (getD (enS false a) (toNat i0) []) 1 D.dead) && (Leaf.fit false (Leaf.int i64) (getD (getD (enS false a) (toNat i0) []) 2 D.dead) && (Leaf.fit false (Leaf.int i64) (getD (getD (enS false a) (toNat i0) []) 3 D.dead) && (Leaf.fit false (Leaf.int i64) (getD (getD (enS false a) (toNat i0) []) 4 D.dead) && (Leaf.fit false (Leaf.int i64) (getD (getD (enS false a) (toNat i0) []) 5 D.dead) && (Leaf.fit false (Leaf.int i64) (getD (getD (enS false a) (toNat i0) []) 6 D.dead) && (Leaf.fit false (Leaf.int i64) (getD (getD (enS false a) (toNat i0) []) 7 D.dead) && (Leaf.fit false (Leaf.int i64) (getD (getD (enS false a) (toNat i0) []) 8 D.dead) && (Leaf.fit false (Leaf.int i64) (getD (getD (enS false a) (toNat i0) []) 9 D.dead) && (Leaf.fit false Leaf.bool (getD (getD (enS false a) (toNat i0) []) 10 D.dead) && true)))))))))) then bif decide (0 ≤ i0) && decide (i0 < ofNat (length (enS false b))) then bif Leaf.fit false Leaf.bool (getD (getD (enS false b) (toNat i0) []) 0 D.dead) && (Leaf.fit false Leaf.bool (getD (getD (enS false b) (toNat i0) []) 1 D.dead) && (Leaf.fit false (Leaf.int i64) (getD (getD (enS false b) (toNat i0) []) 2 D.dead) && (Leaf.fit false (Leaf.int i64) (getD (getD (enS false b) (toNat i0) []) 3 D.dead) && (Leaf.fit false (Leaf.int i64) (getD (getD (enS false b) (toNat i0) []) 4 D.dead) && (Leaf.fit false (Leaf.int i64) (getD (getD (enS false b) (toNat i0) []) 5 D.dead) && (Leaf.fit false (Leaf.int i64) (getD (getD (enS false b) (toNat i0) []) 6 D.dead) && (Leaf.fit false (Leaf.int i64) (getD (getD (enS false b) (toNat i0) []) 7 D.dead) && (Leaf.fit false (Leaf.int i64) (getD (getD (enS false b) (toNat i0) []) 8 D.dead) && (Leaf.fit false (Leaf.int i64) (getD (getD (enS false b) (toNat i0) []) 9 D.dead) && (Leaf.fit false Leaf.bool (getD (getD (enS false b) (toNat i0) []) 10 D.dead) && true)))))))))) then bif sameB (Port.mk (D.flag (getD (getD (enS false a) (toNat i0) []) 0 D.dead)) (D.flag (getD (getD (enS false a) (toNat i0) []) 1 D.dead)) (Vec.mk (D.num (getD (getD (enS false a) (toNat i0) []) 2 D.dead)) (D.num (getD (getD (enS false a) (toNat i0) []) 3 D.dead)) (D.num (getD (getD (enS false a) (toNat i0) []) 4 D.dead)) (D.num (getD (getD (enS false a) (toNat i0) []) 5 D.dead))) (D.num (getD (getD (enS false a) (toNat i0) []) 6 D.dead)) (D.num (getD (getD (enS false a) (toNat i0) []) 7 D.dead)) (D.num (getD (getD (enS false a) (toNat i0) []) 8 D.dead)) (D.num (getD (getD (enS false a) (toNat i0) []) 9 D.dead)) (D.flag (getD (getD (enS false a) (toNat i0) []) 10 D.dead))) (Port.mk (D.flag (getD (getD (enS false b) (toNat i0) []) 0 D.dead)) (D.flag (getD (getD (enS false b) (toNat i0) []) 1 D.dead)) (Vec.mk (D.num (getD (getD (enS false b) (toNat i0) []) 2 D.dead)) (D.num (getD (getD (enS false b) (toNat i0) []) 3 D.dead)) (D.num (getD (getD (enS false b) (toNat i0) []) 4 D.dead)) (D.num (getD (getD (enS false b) (toNat i0) []) 5 D.dead))) (D.num (getD (getD (enS false b) (toNat i0) []) 6 D.dead)) (D.num (getD (getD (enS false b) (toNat i0) []) 7 D.dead)) (D.num (getD (getD (enS false b) (toNat i0) []) 8 D.dead)) (D.num (getD (getD (enS false b) (toNat i0) []) 9 D.dead)) (D.flag (getD (getD (enS false b) (toNat i0) []) 10 D.dead))) then f (S65_0 a b (wrap i64 (i0 + 1))) else none else none else none else none else none else K (Ex.exit 0) (X65_2 a b i0) := by kernel_rfl
theorem aX65_2 (a : List Port) (b : List Port) (n : Nat) (i0 : Int) : k65_1 n (Ex.exit 0) (X65_2 a b i0) = some ([[D.bool true]], []) := by kernel_rfl
theorem r65 (a : List Port) (b : List Port) (n : Nat) : evFn ⟨prog, Hx, 65⟩ T77.call n f65 [[.sl false 11 (enS false a)], [.sl false 11 (enS false b)]] = bif ofNat (length (enS false a)) != ofNat (length (enS false b)) then some ([[D.bool false]], []) else loopRun (B65_0 n) 0 35 134215728 n (S65_0 a b (0)) (k65_1 n) := by kernel_rfl
theorem m65 (a : List Port) (b : List Port) (hpre : (o65 a b).1 = true) : evFn ⟨Go.Proofs.Try.prog, Hx, 65⟩ T77.call (a.length + 1) f65 [[.sl false 11 (enS false a)], [.sl false 11 (enS false b)]] = some (o65 a b).2 := by
  refine (r65 a b _).trans ?_
  show _ = (some ([[.bool (true)]], []) : Option (List Row × List Row))
  replace hpre : (sameB a b && (decide (a.length ≤ 1048576))) = true := hpre
  rw [Bool.and_eq_true] at hpre
  obtain ⟨h0, h1⟩ := hpre
  have hlen : a.length ≤ 1048576 := of_decide_eq_true h1
  have := sameB_eq h0
  subst this
  simp only [bne_self_eq_false, cond_false]
  refine loop_list (xs := a) (fun i (_ : Unit) => S65_0 a a (Int.ofNat i)) (fun _ _ => True) (fun _ _ _ => some ([[D.bool true]], [])) ?_ ?_ (a.length + 1) () (by omega) trivial
  · rintro _ _ f
    refine (q65_0 a a _ _ f _).trans ?_
    simp only [enS_length, dec_lt, Nat.lt_irrefl, decide_false, cond_false]
    exact aX65_2 a a _ _
  · rintro i _ hi _ f hf
    refine (q65_0 a a _ _ f _).trans ?_
    simp only [enS_length, toNat_of, dec_lt, dec_ge, enS_get _ hi, hi, wrap_succ (show i < 4611686018427387904 by omega), decide_true, cond_true, Bool.and_self, sameB_self, bne_self_eq_false, cond_false]
    exact hf () trivial
theorem s65 : SoundAt Go.Proofs.Try.prog Hx 65 c65 := soundAt_of T77_sound mixed func65 (by kernel_rfl) (by
  intro rows r h
  unfold c65 at h
  split at h
  · rename_i a b
    obtain ⟨hp, hr⟩ := Prod.mk.inj (Option.some.inj h)
    subst hr
    simp only [Bool.and_eq_true] at hp
    obtain ⟨⟨hs0, hs1⟩, hp⟩ := hp
    obtain ⟨xs0, rfl⟩ := isS_ex hs0
    obtain ⟨xs1, rfl⟩ := isS_ex hs1
    simp only [deS_enS] at hp ⊢
    exact ⟨_, m65 xs0 xs1 hp⟩
  · cases h)
def T65 : Table := (65, c65) :: T77
theorem T65_sound : Table.Sound Go.Proofs.Try.prog Hx T65 := Table.sound_cons s65 T77_sound
def o44 (a : Bridge) (b : Bridge) : Bool × List Row × List Row := (sameB a b && (Bridge.small a), [[.bool (true)]], [])
def c44 : Contract
  | [[.int .i64 a_Id, .sl false 11 a_Ports], [.int .i64 b_Id, .sl false 11 b_Ports]] => some (isS Port false a_Ports && isS Port false b_Ports && (o44 ⟨a_Id, (deS Port a_Ports)⟩ ⟨b_Id, (deS Port b_Ports)⟩).1, (o44 ⟨a_Id, (deS Port a_Ports)⟩ ⟨b_Id, (deS Port b_Ports)⟩).2.1, (o44 ⟨a_Id, (deS Port a_Ports)⟩ ⟨b_Id, (deS Port b_Ports)⟩).2.2)
  | _ => none

theorem r44 (a : Bridge) (b : Bridge) (n : Nat) : evFn ⟨prog, Hx, 44⟩ T65.call n f44 [[.int .i64 a.Id, .sl false 11 (enS false a.Ports)], [.int .i64 b.Id, .sl false 11 (enS false b.Ports)]] = bif Bridge.Id a != Bridge.Id b then some ([[D.bool false]], []) else bif isS Port false (enS false (Bridge.Ports a)) && isS Port false (enS false (Bridge.Ports b)) && (sameB (deS Port (enS false (Bridge.Ports a))) (deS Port (enS false (Bridge.Ports b))) && decide (length (deS Port (enS false (Bridge.Ports a))) ≤ 1048576)) then some ([[D.bool true]], []) else none := by kernel_rfl
theorem m44 (a : Bridge) (b : Bridge) (hpre : (o44 a b).1 = true) : evFn ⟨Go.Proofs.Try.prog, Hx, 44⟩ T65.call 0 f44 [[.int .i64 a.Id, .sl false 11 (enS false a.Ports)], [.int .i64 b.Id, .sl false 11 (enS false b.Ports)]] = some (o44 a b).2 := by
  refine (r44 a b _).trans ?_
  show _ = (some ([[.bool (true)]], []) : Option (List Row × List Row))
  replace hpre : (sameB a b && (Bridge.small a)) = true := hpre
  rw [Bool.and_eq_true] at hpre
  obtain ⟨h0, h1⟩ := hpre
  have := sameB_eq h0
  subst this
  unfold Bridge.small at h1
  try simp only [Bool.and_eq_true] at h1
  simp only [h1, bne_self_eq_false, cond_false, cond_true, sameB_self, isS_enS, deS_enS, Bool.and_self, Bool.and_true, Bool.true_and, Bool.not_true]
  try rfl
theorem s44 : SoundAt Go.Proofs.Try.prog Hx 44 c44 := soundAt_of T65_sound mixed func44 (by kernel_rfl) (by
  intro rows r h
  unfold c44 at h
  split at h
  · rename_i a_Id a_Ports b_Id b_Ports
    obtain ⟨hp, hr⟩ := Prod.mk.inj (Option.some.inj h)
    subst hr
    simp only [Bool.and_eq_true] at hp
    obtain ⟨⟨hs0, hs1⟩, hp⟩ := hp
    obtain ⟨xs0, rfl⟩ := isS_ex hs0
    obtain ⟨xs1, rfl⟩ := isS_ex hs1
    simp only [deS_enS] at hp ⊢
    exact ⟨_, m44 ⟨a_Id, xs0⟩ ⟨b_Id, xs1⟩ hp⟩
  · cases h)
def T44 : Table := (44, c44) :: T65
theorem T44_sound : Table.Sound Go.Proofs.Try.prog Hx T44 := Table.sound_cons s44 T65_sound
def o24 (a : List Bridge) (b : List Bridge) : Bool × List Row × List Row := (sameB a b && ((decide (a.length ≤ 1048576) && a.all Bridge.small)), [[.bool (true)]], [])
def c24 : Contract
  | [[.sl false 2 a], [.sl false 2 b]] => some (isS Bridge false a && isS Bridge false b && (o24 (deS Bridge a) (deS Bridge b)).1, (o24 (deS Bridge a) (deS Bridge b)).2.1, (o24 (deS Bridge a) (deS Bridge b)).2.2)
  | _ => none

def k24_0 (n : Nat) : Ex → St → RR := kThen (fun st ↦ runCode (Ctx.mk prog Hx (24)) (Table.call T44) n (codeAt [1, 1, 1] (bodyOf f24)) (Lv.mk 16 [] 16) st (kLeave (Ctx.P (Ctx.mk prog Hx (24))) (List.zip (Array.toList (Go.Func.resultTypes f24)) (Array.toList (Go.Func.results f24))) [] [])) (kLeave (Ctx.P (Ctx.mk prog Hx (24))) (List.zip (Array.toList (Go.Func.resultTypes f24)) (Array.toList (Go.Func.results f24))) [] [])
def k24_1 (n : Nat) : Ex → St → RR := kBlock (0) (k24_0 n)
def S24_0 (a : List Bridge) (b : List Bridge) (i0 : Int) : St := St.mk [V_ [C.d (D.sl false 2 (enS false a))], V_ [C.d (D.sl false 2 (enS false b))], U_, U_, U_, I_ i0, U_, U_, U_, U_, U_, U_, U_, U_, U_, U_, U_, U_, U_, U_, U_, U_, U_, U_, U_, U_, U_] []
def B24_0 (n : Nat) : St → (Ex → St → RR) → RR := runCode (Ctx.mk prog Hx (24)) (Table.call T44) n (codeAt [1, 1, 0, 1, 0, 0] (bodyOf f24)) (Lv.mk 35 [(0, 0)] 16)
def X24_2 (a : List Bridge) (b : List Bridge) (i0 : Int) : St := St.mk [V_ [C.d (D.sl false 2 (enS false a))], V_ [C.d (D.sl false 2 (enS false b))], U_, U_, U_, I_ i0, U_, U_, U_, U_, U_, I_ i0, V_ [C.d (D.sl false 2 (enS false a))], I_ (ofNat (length (enS false a))), B_ false, U_, U_, U_, U_, U_, U_, U_, U_, U_, U_, U_, U_] []
theorem q24_0 (a : List Bridge) (b : List Bridge) (n : Nat) (i0 : Int) (f : St → RR) (K : Ex → St → RR) : B24_0 n (S24_0 a b i0) (kThen (fun st ↦ f (St.head 0 35 134215728 st)) K) = bif decide (i0 < ofNat (length (enS false a))) then bif decide (0 ≤ i0) && decide (i0 < ofNat (length (enS false a))) then bif Leaf.fit false (Leaf.int i64) (getD (getD (enS false a) (toNat i0) []) 0 D.dead) && (Leaf.fit false (Leaf.sl 11 true) (getD (getD (enS false a) (toNat i0) []) 1 D.dead) && true) then bif decide (0 ≤ i0) && decide (i0 < ofNat (length (enS false b))) then bif Leaf.fit false (Leaf.int i64) (getD (getD (enS false b) (toNat i0) []) 0 D.dead) && (Leaf.fit false (Leaf.sl 11 true) (getD (getD (enS false b) (toNat i0) []) 1 D.dead) && true) then bif isS Port false (D.rows (getD (getD (enS false a) (toNat i0) []) 1 D.dead)) && isS Port false (D.rows (getD (getD (enS false b) (toNat i0) []) 1 D.dead)) && (sameB (Bridge.mk (D.num (getD (getD (enS false a) (toNat i0) []) 0 D.dead)) (deS Port (D.rows (getD (getD (enS false a) (toNat i0) []) 1 D.dead)))) (Bridge.mk (D.num (getD (getD (enS false b) (toNat i0) []) 0 D.dead)) (deS Port (D.rows (getD (getD (enS false b) (toNat i0) []) 1 D.dead)))) && Bridge.small (Bridge.mk (D.num (getD (getD (enS false a) (toNat i0) []) 0 D.dead)) (deS Port (D.rows (getD (getD (enS false a) (toNat i0) []) 1 D.dead))))) then f (S24_0 a b (wrap i64 (i0 + 1))) else none else none else none else none else none else K (Ex.exit 0) (X24_2 a b i0) := by kernel_rfl
theorem aX24_2 (a : List Bridge) (b : List Bridge) (n : Nat) (i0 : Int) : k24_1 n (Ex.exit 0) (X24_2 a b i0) = some ([[D.bool true]], []) := by kernel_rfl
theorem r24 (a : List Bridge) (b : List Bridge) (n : Nat) : evFn ⟨prog, Hx, 24⟩ T44.call n f24 [[.sl false 2 (enS false a)], [.sl false 2 (enS false b)]] = bif ofNat (length (enS false a)) != ofNat (length (enS false b)) then some ([[D.bool false]], []) else loopRun (B24_0 n) 0 35 134215728 n (S24_0 a b (0)) (k24_1 n) := by kernel_rfl
theorem m24 (a : List Bridge) (b : List Bridge) (hpre : (o24 a b).1 = true) : evFn ⟨Go.Proofs.Try.prog, Hx, 24⟩ T44.call (a.length + 1) f24 [[.sl false 2 (enS false a)], [.sl false 2 (enS false b)]] = some (o24 a b).2 := by
  refine (r24 a b _).trans ?_
  show _ = (some ([[.bool (true)]], []) : Option (List Row × List Row))
  replace hpre : (sameB a b && ((decide (a.length ≤ 1048576) && a.all Bridge.small))) = true := hpre
  rw [Bool.and_eq_true, Bool.and_eq_true] at hpre
  obtain ⟨h0, h1, h2⟩ := hpre
  have hlen := of_decide_eq_true h1
  have := sameB_eq h0
  subst this
  simp only [bne_self_eq_false, cond_false]
  refine loop_list (xs := a) (fun i (_ : Unit) => S24_0 a a (Int.ofNat i)) (fun _ _ => True) (fun _ _ _ => some ([[D.bool true]], [])) ?_ ?_ (a.length + 1) () (by omega) trivial
  · rintro _ _ f
    refine (q24_0 a a _ _ f _).trans ?_
    rw [end_lt, cond_false]
    exact aX24_2 a a _ _
  · rintro i _ hi _ f hf
    refine (q24_0 a a _ _ f _).trans ?_
    have hel := List.all_eq_true.1 h2 _ (List.getElem_mem hi)
    simp only [enS_length, toNat_of, dec_lt, dec_ge, decide_true, decide_false, cond_true, cond_false, Bool.and_self, Bool.and_true, Bool.true_and, Bool.not_true, Bool.not_false, Nat.lt_irrefl, Nat.zero_add, isS_enS, deS_enS, isS_nil, deS_nil, List.nil_append, lendRows_enS, deepRows_enS, noSl_u8, En.enc, List.getD_cons_zero, List.getD_cons_succ, D.num, D.flag, D.text, D.rows, Leaf.fit, List.append_eq, TReader.eta, Frame.eta, Heard.eta, Member.eta, Card.eta, Out1.eta, Vec.eta, Port.eta, Bridge.eta, In.eta, Out.eta, Link.eta, Net.eta, TEnd.eta, Minder.eta, Reg.eta, Wire.eta, Box.eta, Deed.eta, Bpdu.eta, Visit.eta, Fabric.eta, Got.eta, TRide.eta, Up.eta, Copy.eta, Bucket.eta, Snap.eta, TL9Cur.eta, TL21In.eta, enS_get _ hi, hi, wrap_succ (show i < 4611686018427387904 by omega), hel, sameB_self]
    exact hf () trivial
theorem s24 : SoundAt Go.Proofs.Try.prog Hx 24 c24 := soundAt_of T44_sound mixed func24 (by kernel_rfl) (by
  intro rows r h
  unfold c24 at h
  split at h
  · rename_i a b
    obtain ⟨hp, hr⟩ := Prod.mk.inj (Option.some.inj h)
    subst hr
    simp only [Bool.and_eq_true] at hp
    obtain ⟨⟨hs0, hs1⟩, hp⟩ := hp
    obtain ⟨xs0, rfl⟩ := isS_ex hs0
    obtain ⟨xs1, rfl⟩ := isS_ex hs1
    simp only [deS_enS] at hp ⊢
    exact ⟨_, m24 xs0 xs1 hp⟩
  · cases h)
def T24 : Table := (24, c24) :: T44
theorem T24_sound : Table.Sound Go.Proofs.Try.prog Hx T24 := Table.sound_cons s24 T44_sound
def o45 (a : Link) (b : Link) : Bool × List Row × List Row := (sameB a b, [[.bool (true)]], [])
def c45 : Contract
  | [[.int .i64 a_A, .int .i64 a_P, .int .i64 a_B, .int .i64 a_Q], [.int .i64 b_A, .int .i64 b_P, .int .i64 b_B, .int .i64 b_Q]] => some ((o45 ⟨a_A, a_P, a_B, a_Q⟩ ⟨b_A, b_P, b_B, b_Q⟩).1, (o45 ⟨a_A, a_P, a_B, a_Q⟩ ⟨b_A, b_P, b_B, b_Q⟩).2.1, (o45 ⟨a_A, a_P, a_B, a_Q⟩ ⟨b_A, b_P, b_B, b_Q⟩).2.2)
  | _ => none

theorem r45 (a : Link) (b : Link) (n : Nat) : evFn ⟨prog, Hx, 45⟩ T24.call n f45 [[.int .i64 a.A, .int .i64 a.P, .int .i64 a.B, .int .i64 a.Q], [.int .i64 b.A, .int .i64 b.P, .int .i64 b.B, .int .i64 b.Q]] = bif Link.A a != Link.A b then some ([[D.bool false]], []) else bif Link.P a != Link.P b then some ([[D.bool false]], []) else bif Link.B a != Link.B b then some ([[D.bool false]], []) else bif Link.Q a != Link.Q b then some ([[D.bool false]], []) else some ([[D.bool true]], []) := by kernel_rfl
theorem m45 (a : Link) (b : Link) (hpre : (o45 a b).1 = true) : evFn ⟨Go.Proofs.Try.prog, Hx, 45⟩ T24.call 0 f45 [[.int .i64 a.A, .int .i64 a.P, .int .i64 a.B, .int .i64 a.Q], [.int .i64 b.A, .int .i64 b.P, .int .i64 b.B, .int .i64 b.Q]] = some (o45 a b).2 := by
  refine (r45 a b _).trans ?_
  show _ = (some ([[.bool (true)]], []) : Option (List Row × List Row))
  replace hpre : (sameB a b) = true := hpre
  have := sameB_eq hpre
  subst this
  simp only [bne_self_eq_false, cond_false, sameB_self, cond_true, Bool.not_true]
theorem s45 : SoundAt Go.Proofs.Try.prog Hx 45 c45 := soundAt_of T24_sound mixed func45 (by kernel_rfl) (by
  intro rows r h
  unfold c45 at h
  split at h
  · rename_i a_A a_P a_B a_Q b_A b_P b_B b_Q
    obtain ⟨hp, hr⟩ := Prod.mk.inj (Option.some.inj h)
    subst hr
    exact ⟨_, m45 ⟨a_A, a_P, a_B, a_Q⟩ ⟨b_A, b_P, b_B, b_Q⟩ hp⟩
  · cases h)
def T45 : Table := (45, c45) :: T24
theorem T45_sound : Table.Sound Go.Proofs.Try.prog Hx T45 := Table.sound_cons s45 T24_sound
def o25 (a : List Link) (b : List Link) : Bool × List Row × List Row := (sameB a b && (decide (a.length ≤ 1048576)), [[.bool (true)]], [])
def c25 : Contract
  | [[.sl false 4 a], [.sl false 4 b]] => some (isS Link false a && isS Link false b && (o25 (deS Link a) (deS Link b)).1, (o25 (deS Link a) (deS Link b)).2.1, (o25 (deS Link a) (deS Link b)).2.2)
  | _ => none

def k25_0 (n : Nat) : Ex → St → RR := kThen (fun st ↦ runCode (Ctx.mk prog Hx (25)) (Table.call T45) n (codeAt [1, 1, 1] (bodyOf f25)) (Lv.mk 16 [] 16) st (kLeave (Ctx.P (Ctx.mk prog Hx (25))) (List.zip (Array.toList (Go.Func.resultTypes f25)) (Array.toList (Go.Func.results f25))) [] [])) (kLeave (Ctx.P (Ctx.mk prog Hx (25))) (List.zip (Array.toList (Go.Func.resultTypes f25)) (Array.toList (Go.Func.results f25))) [] [])
def k25_1 (n : Nat) : Ex → St → RR := kBlock (0) (k25_0 n)
def S25_0 (a : List Link) (b : List Link) (i0 : Int) : St := St.mk [V_ [C.d (D.sl false 4 (enS false a))], V_ [C.d (D.sl false 4 (enS false b))], U_, U_, U_, I_ i0, U_, U_, U_, U_, U_, U_, U_, U_, U_, U_, U_, U_, U_, U_, U_, U_, U_, U_, U_, U_, U_] []
def B25_0 (n : Nat) : St → (Ex → St → RR) → RR := runCode (Ctx.mk prog Hx (25)) (Table.call T45) n (codeAt [1, 1, 0, 1, 0, 0] (bodyOf f25)) (Lv.mk 35 [(0, 0)] 16)
def X25_2 (a : List Link) (b : List Link) (i0 : Int) : St := St.mk [V_ [C.d (D.sl false 4 (enS false a))], V_ [C.d (D.sl false 4 (enS false b))], U_, U_, U_, I_ i0, U_, U_, U_, U_, U_, I_ i0, V_ [C.d (D.sl false 4 (enS false a))], I_ (ofNat (length (enS false a))), B_ false, U_, U_, U_, U_, U_, U_, U_, U_, U_, U_, U_, U_] []
theorem q25_0 (a : List Link) (b : List Link) (n : Nat) (i0 : Int) (f : St → RR) (K : Ex → St → RR) : B25_0 n (S25_0 a b i0) (kThen (fun st ↦ f (St.head 0 35 134215728 st)) K) = bif decide (i0 < ofNat (length (enS false a))) then bif decide (0 ≤ i0) && decide (i0 < ofNat (length (enS false a))) then bif Leaf.fit false (Leaf.int i64) (getD (getD (enS false a) (toNat i0) []) 0 D.dead) && (Leaf.fit false (Leaf.int i64) (getD (getD (enS false a) (toNat i0) []) 1 D.dead) && (Leaf.fit false (Leaf.int i64) (getD (getD (enS false a) (toNat i0) []) 2 D.dead) && (Leaf.fit false (Leaf.int i64) (getD (getD (enS false a) (toNat i0) []) 3 D.dead) && true))) then bif decide (0 ≤ i0) && decide (i0 < ofNat (length (enS false b))) then bif Leaf.fit false (Leaf.int i64) (getD (getD (enS false b) (toNat i0) []) 0 D.dead) && (Leaf.fit false (Leaf.int i64) (getD (getD (enS false b) (toNat i0) []) 1 D.dead) && (Leaf.fit false (Leaf.int i64) (getD (getD (enS false b) (toNat i0) []) 2 D.dead) && (Leaf.fit false (Leaf.int i64) (getD (getD (enS false b) (toNat i0) []) 3 D.dead) && true))) then bif sameB (Link.mk (D.num (getD (getD (enS false a) (toNat i0) []) 0 D.dead)) (D.num (getD (getD (enS false a) (toNat i0) []) 1 D.dead)) (D.num (getD (getD (enS false a) (toNat i0) []) 2 D.dead)) (D.num (getD (getD (enS false a) (toNat i0) []) 3 D.dead))) (Link.mk (D.num (getD (getD (enS false b) (toNat i0) []) 0 D.dead)) (D.num (getD (getD (enS false b) (toNat i0) []) 1 D.dead)) (D.num (getD (getD (enS false b) (toNat i0) []) 2 D.dead)) (D.num (getD (getD (enS false b) (toNat i0) []) 3 D.dead))) then f (S25_0 a b (wrap i64 (i0 + 1))) else none else none else none else none else none else K (Ex.exit 0) (X25_2 a b i0) := by kernel_rfl
theorem aX25_2 (a : List Link) (b : List Link) (n : Nat) (i0 : Int) : k25_1 n (Ex.exit 0) (X25_2 a b i0) = some ([[D.bool true]], []) := by kernel_rfl
theorem r25 (a : List Link) (b : List Link) (n : Nat) : evFn ⟨prog, Hx, 25⟩ T45.call n f25 [[.sl false 4 (enS false a)], [.sl false 4 (enS false b)]] = bif ofNat (length (enS false a)) != ofNat (length (enS false b)) then some ([[D.bool false]], []) else loopRun (B25_0 n) 0 35 134215728 n (S25_0 a b (0)) (k25_1 n) := by kernel_rfl
theorem m25 (a : List Link) (b : List Link) (hpre : (o25 a b).1 = true) : evFn ⟨Go.Proofs.Try.prog, Hx, 25⟩ T45.call (a.length + 1) f25 [[.sl false 4 (enS false a)], [.sl false 4 (enS false b)]] = some (o25 a b).2 := by
  refine (r25 a b _).trans ?_
  show _ = (some ([[.bool (true)]], []) : Option (List Row × List Row))
  replace hpre : (sameB a b && (decide (a.length ≤ 1048576))) = true := hpre
  rw [Bool.and_eq_true] at hpre
  obtain ⟨h0, h1⟩ := hpre
  have hlen : a.length ≤ 1048576 := of_decide_eq_true h1
  have := sameB_eq h0
  subst this
  simp only [bne_self_eq_false, cond_false]
  refine loop_list (xs := a) (fun i (_ : Unit) => S25_0 a a (Int.ofNat i)) (fun _ _ => True) (fun _ _ _ => some ([[D.bool true]], [])) ?_ ?_ (a.length + 1) () (by omega) trivial
  · rintro _ _ f
    refine (q25_0 a a _ _ f _).trans ?_
    simp only [enS_length, dec_lt, Nat.lt_irrefl, decide_false, cond_false]
    exact aX25_2 a a _ _
  · rintro i _ hi _ f hf
    refine (q25_0 a a _ _ f _).trans ?_
    simp only [enS_length, toNat_of, dec_lt, dec_ge, enS_get _ hi, hi, wrap_succ (show i < 4611686018427387904 by omega), decide_true, cond_true, Bool.and_self, sameB_self, bne_self_eq_false, cond_false]
    exact hf () trivial
theorem s25 : SoundAt Go.Proofs.Try.prog Hx 25 c25 := soundAt_of T45_sound mixed func25 (by kernel_rfl) (by
  intro rows r h
  unfold c25 at h
  split at h
  · rename_i a b
    obtain ⟨hp, hr⟩ := Prod.mk.inj (Option.some.inj h)
    subst hr
    simp only [Bool.and_eq_true] at hp
    obtain ⟨⟨hs0, hs1⟩, hp⟩ := hp
    obtain ⟨xs0, rfl⟩ := isS_ex hs0
    obtain ⟨xs1, rfl⟩ := isS_ex hs1
    simp only [deS_enS] at hp ⊢
    exact ⟨_, m25 xs0 xs1 hp⟩
  · cases h)
def T25 : Table := (25, c25) :: T45
theorem T25_sound : Table.Sound Go.Proofs.Try.prog Hx T25 := Table.sound_cons s25 T45_sound
def o9 (a : Net) (b : Net) : Bool × List Row × List Row := (sameB a b && (Net.small a), [[.bool (true)]], [])
def c9 : Contract
  | [[.sl false 2 a_Bridges, .sl false 4 a_Links], [.sl false 2 b_Bridges, .sl false 4 b_Links]] => some (isS Bridge false a_Bridges && isS Link false a_Links && isS Bridge false b_Bridges && isS Link false b_Links && (o9 ⟨(deS Bridge a_Bridges), (deS Link a_Links)⟩ ⟨(deS Bridge b_Bridges), (deS Link b_Links)⟩).1, (o9 ⟨(deS Bridge a_Bridges), (deS Link a_Links)⟩ ⟨(deS Bridge b_Bridges), (deS Link b_Links)⟩).2.1, (o9 ⟨(deS Bridge a_Bridges), (deS Link a_Links)⟩ ⟨(deS Bridge b_Bridges), (deS Link b_Links)⟩).2.2)
  | _ => none

theorem r9 (a : Net) (b : Net) (n : Nat) : evFn ⟨prog, Hx, 9⟩ T25.call n f9 [[.sl false 2 (enS false a.Bridges), .sl false 4 (enS false a.Links)], [.sl false 2 (enS false b.Bridges), .sl false 4 (enS false b.Links)]] = bif isS Bridge false (enS false (Net.Bridges a)) && isS Bridge false (enS false (Net.Bridges b)) && (sameB (deS Bridge (enS false (Net.Bridges a))) (deS Bridge (enS false (Net.Bridges b))) && (decide (length (deS Bridge (enS false (Net.Bridges a))) ≤ 1048576) && all (deS Bridge (enS false (Net.Bridges a))) Bridge.small)) then bif isS Link false (enS false (Net.Links a)) && isS Link false (enS false (Net.Links b)) && (sameB (deS Link (enS false (Net.Links a))) (deS Link (enS false (Net.Links b))) && decide (length (deS Link (enS false (Net.Links a))) ≤ 1048576)) then some ([[D.bool true]], []) else none else none := by kernel_rfl
theorem m9 (a : Net) (b : Net) (hpre : (o9 a b).1 = true) : evFn ⟨Go.Proofs.Try.prog, Hx, 9⟩ T25.call 0 f9 [[.sl false 2 (enS false a.Bridges), .sl false 4 (enS false a.Links)], [.sl false 2 (enS false b.Bridges), .sl false 4 (enS false b.Links)]] = some (o9 a b).2 := by
  refine (r9 a b _).trans ?_
  show _ = (some ([[.bool (true)]], []) : Option (List Row × List Row))
  replace hpre : (sameB a b && (Net.small a)) = true := hpre
  rw [Bool.and_eq_true] at hpre
  obtain ⟨h0, h1⟩ := hpre
  have := sameB_eq h0
  subst this
  unfold Net.small at h1
  try simp only [Bool.and_eq_true] at h1
  simp only [h1, bne_self_eq_false, cond_false, cond_true, sameB_self, isS_enS, deS_enS, Bool.and_self, Bool.and_true, Bool.true_and, Bool.not_true]
  try rfl
theorem s9 : SoundAt Go.Proofs.Try.prog Hx 9 c9 := soundAt_of T25_sound mixed func9 (by kernel_rfl) (by
  intro rows r h
  unfold c9 at h
  split at h
  · rename_i a_Bridges a_Links b_Bridges b_Links
    obtain ⟨hp, hr⟩ := Prod.mk.inj (Option.some.inj h)
    subst hr
    simp only [Bool.and_eq_true] at hp
    obtain ⟨⟨⟨⟨hs0, hs1⟩, hs2⟩, hs3⟩, hp⟩ := hp
    obtain ⟨xs0, rfl⟩ := isS_ex hs0
    obtain ⟨xs1, rfl⟩ := isS_ex hs1
    obtain ⟨xs2, rfl⟩ := isS_ex hs2
    obtain ⟨xs3, rfl⟩ := isS_ex hs3
    simp only [deS_enS] at hp ⊢
    exact ⟨_, m9 ⟨xs0, xs1⟩ ⟨xs2, xs3⟩ hp⟩
  · cases h)
def T9 : Table := (9, c9) :: T25
theorem T9_sound : Table.Sound Go.Proofs.Try.prog Hx T9 := Table.sound_cons s9 T25_sound
def o62 (a : List Bool) (b : List Bool) : Bool × List Row × List Row := (sameB a b && (decide (a.length ≤ 1048576)), [[.bool (true)]], [])
def c62 : Contract
  | [[.sl false 1 a], [.sl false 1 b]] => some (isS Bool false a && isS Bool false b && (o62 (deS Bool a) (deS Bool b)).1, (o62 (deS Bool a) (deS Bool b)).2.1, (o62 (deS Bool a) (deS Bool b)).2.2)
  | _ => none

def k62_0 (n : Nat) : Ex → St → RR := kThen (fun st ↦ runCode (Ctx.mk prog Hx (62)) (Table.call T9) n (codeAt [1, 1, 1] (bodyOf f62)) (Lv.mk 16 [] 16) st (kLeave (Ctx.P (Ctx.mk prog Hx (62))) (List.zip (Array.toList (Go.Func.resultTypes f62)) (Array.toList (Go.Func.results f62))) [] [])) (kLeave (Ctx.P (Ctx.mk prog Hx (62))) (List.zip (Array.toList (Go.Func.resultTypes f62)) (Array.toList (Go.Func.results f62))) [] [])
def k62_1 (n : Nat) : Ex → St → RR := kBlock (0) (k62_0 n)
def S62_0 (a : List Bool) (b : List Bool) (i0 : Int) : St := St.mk [V_ [C.d (D.sl false 1 (enS false a))], V_ [C.d (D.sl false 1 (enS false b))], U_, U_, U_, I_ i0, U_, U_, U_, U_, U_, U_, U_, U_, U_, U_, U_, U_, U_, U_, U_, U_, U_, U_, U_, U_] []
def B62_0 (n : Nat) : St → (Ex → St → RR) → RR := runCode (Ctx.mk prog Hx (62)) (Table.call T9) n (codeAt [1, 1, 0, 1, 0, 0] (bodyOf f62)) (Lv.mk 35 [(0, 0)] 16)
def X62_2 (a : List Bool) (b : List Bool) (i0 : Int) : St := St.mk [V_ [C.d (D.sl false 1 (enS false a))], V_ [C.d (D.sl false 1 (enS false b))], U_, U_, B_ false, I_ i0, U_, U_, U_, U_, U_, I_ i0, V_ [C.d (D.sl false 1 (enS false a))], I_ (ofNat (length (enS false a))), B_ true, U_, U_, V_ [C.d (D.sl false 1 (enS false a))], I_ i0, V_ [C.rptr (getD (enS false a) (toNat i0) [])], B_ (D.flag (getD (getD (enS false a) (toNat i0) []) 0 D.dead)), V_ [C.d (D.sl false 1 (enS false b))], I_ i0, V_ [C.rptr (getD (enS false b) (toNat i0) [])], B_ (D.flag (getD (getD (enS false b) (toNat i0) []) 0 D.dead)), B_ true] []
def X62_3 (a : List Bool) (b : List Bool) (i0 : Int) : St := St.mk [V_ [C.d (D.sl false 1 (enS false a))], V_ [C.d (D.sl false 1 (enS false b))], U_, U_, U_, I_ i0, U_, U_, U_, U_, U_, I_ i0, V_ [C.d (D.sl false 1 (enS false a))], I_ (ofNat (length (enS false a))), B_ false, U_, U_, U_, U_, U_, U_, U_, U_, U_, U_, U_] []
theorem q62_0 (a : List Bool) (b : List Bool) (n : Nat) (i0 : Int) (f : St → RR) (K : Ex → St → RR) : B62_0 n (S62_0 a b i0) (kThen (fun st ↦ f (St.head 0 35 67106864 st)) K) = bif decide (i0 < ofNat (length (enS false a))) then bif decide (0 ≤ i0) && decide (i0 < ofNat (length (enS false a))) then bif Leaf.fit false Leaf.bool (getD (getD (enS false a) (toNat i0) []) 0 D.dead) && true then bif decide (0 ≤ i0) && decide (i0 < ofNat (length (enS false b))) then bif Leaf.fit false Leaf.bool (getD (getD (enS false b) (toNat i0) []) 0 D.dead) && true then bif D.flag (getD (getD (enS false a) (toNat i0) []) 0 D.dead) != D.flag (getD (getD (enS false b) (toNat i0) []) 0 D.dead) then K Ex.ret (X62_2 a b i0) else f (S62_0 a b (wrap i64 (i0 + 1))) else none else none else none else none else K (Ex.exit 0) (X62_3 a b i0) := by kernel_rfl
theorem aX62_2 (a : List Bool) (b : List Bool) (n : Nat) (i0 : Int) : k62_1 n Ex.ret (X62_2 a b i0) = some ([[D.bool false]], []) := by kernel_rfl
theorem aX62_3 (a : List Bool) (b : List Bool) (n : Nat) (i0 : Int) : k62_1 n (Ex.exit 0) (X62_3 a b i0) = some ([[D.bool true]], []) := by kernel_rfl
theorem r62 (a : List Bool) (b : List Bool) (n : Nat) : evFn ⟨prog, Hx, 62⟩ T9.call n f62 [[.sl false 1 (enS false a)], [.sl false 1 (enS false b)]] = bif ofNat (length (enS false a)) != ofNat (length (enS false b)) then some ([[D.bool false]], []) else loopRun (B62_0 n) 0 35 67106864 n (S62_0 a b (0)) (k62_1 n) := by kernel_rfl
theorem m62 (a : List Bool) (b : List Bool) (hpre : (o62 a b).1 = true) : evFn ⟨Go.Proofs.Try.prog, Hx, 62⟩ T9.call (a.length + 1) f62 [[.sl false 1 (enS false a)], [.sl false 1 (enS false b)]] = some (o62 a b).2 := by
  refine (r62 a b _).trans ?_
  show _ = (some ([[.bool (true)]], []) : Option (List Row × List Row))
  replace hpre : (sameB a b && (decide (a.length ≤ 1048576))) = true := hpre
  rw [Bool.and_eq_true] at hpre
  obtain ⟨h0, h1⟩ := hpre
  have hlen : a.length ≤ 1048576 := of_decide_eq_true h1
  have := sameB_eq h0
  subst this
  simp only [bne_self_eq_false, cond_false]
  refine loop_list (xs := a) (fun i (_ : Unit) => S62_0 a a (Int.ofNat i)) (fun _ _ => True) (fun _ _ _ => some ([[D.bool true]], [])) ?_ ?_ (a.length + 1) () (by omega) trivial
  · rintro _ _ f
    refine (q62_0 a a _ _ f _).trans ?_
    simp only [enS_length, dec_lt, Nat.lt_irrefl, decide_false, cond_false]
    exact aX62_3 a a _ _
  · rintro i _ hi _ f hf
    refine (q62_0 a a _ _ f _).trans ?_
    simp only [enS_length, toNat_of, dec_lt, dec_ge, enS_get _ hi, hi, wrap_succ (show i < 4611686018427387904 by omega), decide_true, cond_true, Bool.and_self, sameB_self, bne_self_eq_false, cond_false]
    exact hf () trivial
theorem s62 : SoundAt Go.Proofs.Try.prog Hx 62 c62 := soundAt_of T9_sound mixed func62 (by kernel_rfl) (by
  intro rows r h
  unfold c62 at h
  split at h
  · rename_i a b
    obtain ⟨hp, hr⟩ := Prod.mk.inj (Option.some.inj h)
    subst hr
    simp only [Bool.and_eq_true] at hp
    obtain ⟨⟨hs0, hs1⟩, hp⟩ := hp
    obtain ⟨xs0, rfl⟩ := isS_ex hs0
    obtain ⟨xs1, rfl⟩ := isS_ex hs1
    simp only [deS_enS] at hp ⊢
    exact ⟨_, m62 xs0 xs1 hp⟩
  · cases h)
def T62 : Table := (62, c62) :: T9
theorem T62_sound : Table.Sound Go.Proofs.Try.prog Hx T62 := Table.sound_cons s62 T9_sound
def o83 (a : List Int) (b : List Int) : Bool × List Row × List Row := (sameB a b && (decide (a.length ≤ 1048576)), [[.bool (true)]], [])
def c83 : Contract
  | [[.sl false 1 a], [.sl false 1 b]] => some (isS Int false a && isS Int false b && (o83 (deS Int a) (deS Int b)).1, (o83 (deS Int a) (deS Int b)).2.1, (o83 (deS Int a) (deS Int b)).2.2)
  | _ => none

def k83_0 (n : Nat) : Ex → St → RR := kThen (fun st ↦ runCode (Ctx.mk prog Hx (83)) (Table.call T62) n (codeAt [1, 1, 1] (bodyOf f83)) (Lv.mk 16 [] 16) st (kLeave (Ctx.P (Ctx.mk prog Hx (83))) (List.zip (Array.toList (Go.Func.resultTypes f83)) (Array.toList (Go.Func.results f83))) [] [])) (kLeave (Ctx.P (Ctx.mk prog Hx (83))) (List.zip (Array.toList (Go.Func.resultTypes f83)) (Array.toList (Go.Func.results f83))) [] [])
def k83_1 (n : Nat) : Ex → St → RR := kBlock (0) (k83_0 n)
def S83_0 (a : List Int) (b : List Int) (i0 : Int) : St := St.mk [V_ [C.d (D.sl false 1 (enS false a))], V_ [C.d (D.sl false 1 (enS false b))], U_, U_, U_, I_ i0, U_, U_, U_, U_, U_, U_, U_, U_, U_, U_, U_, U_, U_, U_, U_, U_, U_, U_, U_, U_] []
def B83_0 (n : Nat) : St → (Ex → St → RR) → RR := runCode (Ctx.mk prog Hx (83)) (Table.call T62) n (codeAt [1, 1, 0, 1, 0, 0] (bodyOf f83)) (Lv.mk 35 [(0, 0)] 16)
def X83_2 (a : List Int) (b : List Int) (i0 : Int) : St := St.mk [V_ [C.d (D.sl false 1 (enS false a))], V_ [C.d (D.sl false 1 (enS false b))], U_, U_, B_ false, I_ i0, U_, U_, U_, U_, U_, I_ i0, V_ [C.d (D.sl false 1 (enS false a))], I_ (ofNat (length (enS false a))), B_ true, U_, U_, V_ [C.d (D.sl false 1 (enS false a))], I_ i0, V_ [C.rptr (getD (enS false a) (toNat i0) [])], I_ (D.num (getD (getD (enS false a) (toNat i0) []) 0 D.dead)), V_ [C.d (D.sl false 1 (enS false b))], I_ i0, V_ [C.rptr (getD (enS false b) (toNat i0) [])], I_ (D.num (getD (getD (enS false b) (toNat i0) []) 0 D.dead)), B_ true] []
def X83_3 (a : List Int) (b : List Int) (i0 : Int) : St := St.mk [V_ [C.d (D.sl false 1 (enS false a))], V_ [C.d (D.sl false 1 (enS false b))], U_, U_, U_, I_ i0, U_, U_, U_, U_, U_, I_ i0, V_ [C.d (D.sl false 1 (enS false a))], I_ (ofNat (length (enS false a))), B_ false, U_, U_, U_, U_, U_, U_, U_, U_, U_, U_, U_] []
theorem q83_0 (a : List Int) (b : List Int) (n : Nat) (i0 : Int) (f : St → RR) (K : Ex → St → RR) : B83_0 n (S83_0 a b i0) (kThen (fun st ↦ f (St.head 0 35 67106864 st)) K) = bif decide (i0 < ofNat (length (enS false a))) then bif decide (0 ≤ i0) && decide (i0 < ofNat (length (enS false a))) then bif Leaf.fit false (Leaf.int i64) (getD (getD (enS false a) (toNat i0) []) 0 D.dead) && true then bif decide (0 ≤ i0) && decide (i0 < ofNat (length (enS false b))) then bif Leaf.fit false (Leaf.int i64) (getD (getD (enS false b) (toNat i0) []) 0 D.dead) && true then bif D.num (getD (getD (enS false a) (toNat i0) []) 0 D.dead) != D.num (getD (getD (enS false b) (toNat i0) []) 0 D.dead) then K Ex.ret (X83_2 a b i0) else f (S83_0 a b (wrap i64 (i0 + 1))) else none else none else none else none else K (Ex.exit 0) (X83_3 a b i0) := by kernel_rfl
theorem aX83_2 (a : List Int) (b : List Int) (n : Nat) (i0 : Int) : k83_1 n Ex.ret (X83_2 a b i0) = some ([[D.bool false]], []) := by kernel_rfl
theorem aX83_3 (a : List Int) (b : List Int) (n : Nat) (i0 : Int) : k83_1 n (Ex.exit 0) (X83_3 a b i0) = some ([[D.bool true]], []) := by kernel_rfl
theorem r83 (a : List Int) (b : List Int) (n : Nat) : evFn ⟨prog, Hx, 83⟩ T62.call n f83 [[.sl false 1 (enS false a)], [.sl false 1 (enS false b)]] = bif ofNat (length (enS false a)) != ofNat (length (enS false b)) then some ([[D.bool false]], []) else loopRun (B83_0 n) 0 35 67106864 n (S83_0 a b (0)) (k83_1 n) := by kernel_rfl
theorem m83 (a : List Int) (b : List Int) (hpre : (o83 a b).1 = true) : evFn ⟨Go.Proofs.Try.prog, Hx, 83⟩ T62.call (a.length + 1) f83 [[.sl false 1 (enS false a)], [.sl false 1 (enS false b)]] = some (o83 a b).2 := by
  refine (r83 a b _).trans ?_
  show _ = (some ([[.bool (true)]], []) : Option (List Row × List Row))
  replace hpre : (sameB a b && (decide (a.length ≤ 1048576))) = true := hpre
  rw [Bool.and_eq_true] at hpre
  obtain ⟨h0, h1⟩ := hpre
  have hlen : a.length ≤ 1048576 := of_decide_eq_true h1
  have := sameB_eq h0
  subst this
  simp only [bne_self_eq_false, cond_false]
  refine loop_list (xs := a) (fun i (_ : Unit) => S83_0 a a (Int.ofNat i)) (fun _ _ => True) (fun _ _ _ => some ([[D.bool true]], [])) ?_ ?_ (a.length + 1) () (by omega) trivial
  · rintro _ _ f
    refine (q83_0 a a _ _ f _).trans ?_
    simp only [enS_length, dec_lt, Nat.lt_irrefl, decide_false, cond_false]
    exact aX83_3 a a _ _
  · rintro i _ hi _ f hf
    refine (q83_0 a a _ _ f _).trans ?_
    simp only [enS_length, toNat_of, dec_lt, dec_ge, enS_get _ hi, hi, wrap_succ (show i < 4611686018427387904 by omega), decide_true, cond_true, Bool.and_self, sameB_self, bne_self_eq_false, cond_false]
    exact hf () trivial
theorem s83 : SoundAt Go.Proofs.Try.prog Hx 83 c83 := soundAt_of T62_sound mixed func83 (by kernel_rfl) (by
  intro rows r h
  unfold c83 at h
  split at h
  · rename_i a b
    obtain ⟨hp, hr⟩ := Prod.mk.inj (Option.some.inj h)
    subst hr
    simp only [Bool.and_eq_true] at hp
    obtain ⟨⟨hs0, hs1⟩, hp⟩ := hp
    obtain ⟨xs0, rfl⟩ := isS_ex hs0
    obtain ⟨xs1, rfl⟩ := isS_ex hs1
    simp only [deS_enS] at hp ⊢
    exact ⟨_, m83 xs0 xs1 hp⟩
  · cases h)
def T83 : Table := (83, c83) :: T62
theorem T83_sound : Table.Sound Go.Proofs.Try.prog Hx T83 := Table.sound_cons s83 T62_sound
def o75 (a : Member) (b : Member) : Bool × List Row × List Row := (sameB a b && (Member.small a), [[.bool (true)]], [])
def c75 : Contract
  | [[.int .i64 a_Own, .sl false 1 a_In], [.int .i64 b_Own, .sl false 1 b_In]] => some (isS Int false a_In && isS Int false b_In && (o75 ⟨a_Own, (deS Int a_In)⟩ ⟨b_Own, (deS Int b_In)⟩).1, (o75 ⟨a_Own, (deS Int a_In)⟩ ⟨b_Own, (deS Int b_In)⟩).2.1, (o75 ⟨a_Own, (deS Int a_In)⟩ ⟨b_Own, (deS Int b_In)⟩).2.2)
  | _ => none

theorem r75 (a : Member) (b : Member) (n : Nat) : evFn ⟨prog, Hx, 75⟩ T83.call n f75 [[.int .i64 a.Own, .sl false 1 (enS false a.In)], [.int .i64 b.Own, .sl false 1 (enS false b.In)]] = bif Member.Own a != Member.Own b then some ([[D.bool false]], []) else bif isS Int false (enS false (Member.In a)) && isS Int false (enS false (Member.In b)) && (sameB (deS Int (enS false (Member.In a))) (deS Int (enS false (Member.In b))) && decide (length (deS Int (enS false (Member.In a))) ≤ 1048576)) then some ([[D.bool true]], []) else none := by kernel_rfl
theorem m75 (a : Member) (b : Member) (hpre : (o75 a b).1 = true) : evFn ⟨Go.Proofs.Try.prog, Hx, 75⟩ T83.call 0 f75 [[.int .i64 a.Own, .sl false 1 (enS false a.In)], [.int .i64 b.Own, .sl false 1 (enS false b.In)]] = some (o75 a b).2 := by
  refine (r75 a b _).trans ?_
  show _ = (some ([[.bool (true)]], []) : Option (List Row × List Row))
  replace hpre : (sameB a b && (Member.small a)) = true := hpre
  rw [Bool.and_eq_true] at hpre
  obtain ⟨h0, h1⟩ := hpre
  have := sameB_eq h0
  subst this
  unfold Member.small at h1
  try simp only [Bool.and_eq_true] at h1
  simp only [h1, bne_self_eq_false, cond_false, cond_true, sameB_self, isS_enS, deS_enS, Bool.and_self, Bool.and_true, Bool.true_and, Bool.not_true]
  try rfl
theorem s75 : SoundAt Go.Proofs.Try.prog Hx 75 c75 := soundAt_of T83_sound mixed func75 (by kernel_rfl) (by
  intro rows r h
  unfold c75 at h
  split at h
  · rename_i a_Own a_In b_Own b_In
    obtain ⟨hp, hr⟩ := Prod.mk.inj (Option.some.inj h)
    subst hr
    simp only [Bool.and_eq_true] at hp
    obtain ⟨⟨hs0, hs1⟩, hp⟩ := hp
    obtain ⟨xs0, rfl⟩ := isS_ex hs0
    obtain ⟨xs1, rfl⟩ := isS_ex hs1
    simp only [deS_enS] at hp ⊢
    exact ⟨_, m75 ⟨a_Own, xs0⟩ ⟨b_Own, xs1⟩ hp⟩
  · cases h)
def T75 : Table := (75, c75) :: T83
theorem T75_sound : Table.Sound Go.Proofs.Try.prog Hx T75 := Table.sound_cons s75 T83_sound
def o63 (a : List Member) (b : List Member) : Bool × List Row × List Row := (sameB a b && ((decide (a.length ≤ 1048576) && a.all Member.small)), [[.bool (true)]], [])
def c63 : Contract
  | [[.sl false 2 a], [.sl false 2 b]] => some (isS Member false a && isS Member false b && (o63 (deS Member a) (deS Member b)).1, (o63 (deS Member a) (deS Member b)).2.1, (o63 (deS Member a) (deS Member b)).2.2)
  | _ => none

def k63_0 (n : Nat) : Ex → St → RR := kThen (fun st ↦ runCode (Ctx.mk prog Hx (63)) (Table.call T75) n (codeAt [1, 1, 1] (bodyOf f63)) (Lv.mk 16 [] 16) st (kLeave (Ctx.P (Ctx.mk prog Hx (63))) (List.zip (Array.toList (Go.Func.resultTypes f63)) (Array.toList (Go.Func.results f63))) [] [])) (kLeave (Ctx.P (Ctx.mk prog Hx (63))) (List.zip (Array.toList (Go.Func.resultTypes f63)) (Array.toList (Go.Func.results f63))) [] [])
def k63_1 (n : Nat) : Ex → St → RR := kBlock (0) (k63_0 n)
def S63_0 (a : List Member) (b : List Member) (i0 : Int) : St := St.mk [V_ [C.d (D.sl false 2 (enS false a))], V_ [C.d (D.sl false 2 (enS false b))], U_, U_, U_, I_ i0, U_, U_, U_, U_, U_, U_, U_, U_, U_, U_, U_, U_, U_, U_, U_, U_, U_, U_, U_, U_, U_] []
def B63_0 (n : Nat) : St → (Ex → St → RR) → RR := runCode (Ctx.mk prog Hx (63)) (Table.call T75) n (codeAt [1, 1, 0, 1, 0, 0] (bodyOf f63)) (Lv.mk 35 [(0, 0)] 16)
def X63_2 (a : List Member) (b : List Member) (i0 : Int) : St := St.mk [V_ [C.d (D.sl false 2 (enS false a))], V_ [C.d (D.sl false 2 (enS false b))], U_, U_, U_, I_ i0, U_, U_, U_, U_, U_, I_ i0, V_ [C.d (D.sl false 2 (enS false a))], I_ (ofNat (length (enS false a))), B_ false, U_, U_, U_, U_, U_, U_, U_, U_, U_, U_, U_, U_] []
theorem q63_0 (a : List Member) (b : List Member) (n : Nat) (i0 : Int) (f : St → RR) (K : Ex → St → RR) : B63_0 n (S63_0 a b i0) (kThen (fun st ↦ f (St.head 0 35 134215728 st)) K) = bif decide (i0 < ofNat (length (enS false a))) then bif decide (0 ≤ i0) && decide (i0 < ofNat (length (enS false a))) then bif Leaf.fit false (Leaf.int i64) (getD (getD (enS false a) (toNat i0) []) 0 D.dead) && (Leaf.fit false (Leaf.sl 1 true) (getD (getD (enS false a) (toNat i0) []) 1 D.dead) && true) then bif decide (0 ≤ i0) && decide (i0 < ofNat (length (enS false b))) then bif Leaf.fit false (Leaf.int i64) (getD (getD (enS false b) (toNat i0) []) 0 D.dead) && (Leaf.fit false (Leaf.sl 1 true) (getD (getD (enS false b) (toNat i0) []) 1 D.dead) && true) then bif isS Int false (D.rows (getD (getD (enS false a) (toNat i0) []) 1 D.dead)) && isS Int false (D.rows (getD (getD (enS false b) (toNat i0) []) 1 D.dead)) && (sameB (Member.mk (D.num (getD (getD (enS false a) (toNat i0) []) 0 D.dead)) (deS Int (D.rows (getD (getD (enS false a) (toNat i0) []) 1 D.dead)))) (Member.mk (D.num (getD (getD (enS false b) (toNat i0) []) 0 D.dead)) (deS Int (D.rows (getD (getD (enS false b) (toNat i0) []) 1 D.dead)))) && Member.small (Member.mk (D.num (getD (getD (enS false a) (toNat i0) []) 0 D.dead)) (deS Int (D.rows (getD (getD (enS false a) (toNat i0) []) 1 D.dead))))) then f (S63_0 a b (wrap i64 (i0 + 1))) else none else none else none else none else none else K (Ex.exit 0) (X63_2 a b i0) := by kernel_rfl
theorem aX63_2 (a : List Member) (b : List Member) (n : Nat) (i0 : Int) : k63_1 n (Ex.exit 0) (X63_2 a b i0) = some ([[D.bool true]], []) := by kernel_rfl
theorem r63 (a : List Member) (b : List Member) (n : Nat) : evFn ⟨prog, Hx, 63⟩ T75.call n f63 [[.sl false 2 (enS false a)], [.sl false 2 (enS false b)]] = bif ofNat (length (enS false a)) != ofNat (length (enS false b)) then some ([[D.bool false]], []) else loopRun (B63_0 n) 0 35 134215728 n (S63_0 a b (0)) (k63_1 n) := by kernel_rfl
theorem m63 (a : List Member) (b : List Member) (hpre : (o63 a b).1 = true) : evFn ⟨Go.Proofs.Try.prog, Hx, 63⟩ T75.call (a.length + 1) f63 [[.sl false 2 (enS false a)], [.sl false 2 (enS false b)]] = some (o63 a b).2 := by
  refine (r63 a b _).trans ?_
  show _ = (some ([[.bool (true)]], []) : Option (List Row × List Row))
  replace hpre : (sameB a b && ((decide (a.length ≤ 1048576) && a.all Member.small))) = true := hpre
  rw [Bool.and_eq_true, Bool.and_eq_true] at hpre
  obtain ⟨h0, h1, h2⟩ := hpre
  have hlen := of_decide_eq_true h1
  have := sameB_eq h0
  subst this
  simp only [bne_self_eq_false, cond_false]
  refine loop_list (xs := a) (fun i (_ : Unit) => S63_0 a a (Int.ofNat i)) (fun _ _ => True) (fun _ _ _ => some ([[D.bool true]], [])) ?_ ?_ (a.length + 1) () (by omega) trivial
  · rintro _ _ f
    refine (q63_0 a a _ _ f _).trans ?_
    rw [end_lt, cond_false]
    exact aX63_2 a a _ _
  · rintro i _ hi _ f hf
    refine (q63_0 a a _ _ f _).trans ?_
    have hel := List.all_eq_true.1 h2 _ (List.getElem_mem hi)
    simp only [enS_length, toNat_of, dec_lt, dec_ge, decide_true, decide_false, cond_true, cond_false, Bool.and_self, Bool.and_true, Bool.true_and, Bool.not_true, Bool.not_false, Nat.lt_irrefl, Nat.zero_add, isS_enS, deS_enS, isS_nil, deS_nil, List.nil_append, lendRows_enS, deepRows_enS, noSl_u8, En.enc, List.getD_cons_zero, List.getD_cons_succ, D.num, D.flag, D.text, D.rows, Leaf.fit, List.append_eq, TReader.eta, Frame.eta, Heard.eta, Member.eta, Card.eta, Out1.eta, Vec.eta, Port.eta, Bridge.eta, In.eta, Out.eta, Link.eta, Net.eta, TEnd.eta, Minder.eta, Reg.eta, Wire.eta, Box.eta, Deed.eta, Bpdu.eta, Visit.eta, Fabric.eta, Got.eta, TRide.eta, Up.eta, Copy.eta, Bucket.eta, Snap.eta, TL9Cur.eta, TL21In.eta, enS_get _ hi, hi, wrap_succ (show i < 4611686018427387904 by omega), hel, sameB_self]
    exact hf () trivial
theorem s63 : SoundAt Go.Proofs.Try.prog Hx 63 c63 := soundAt_of T75_sound mixed func63 (by kernel_rfl) (by
  intro rows r h
  unfold c63 at h
  split at h
  · rename_i a b
    obtain ⟨hp, hr⟩ := Prod.mk.inj (Option.some.inj h)
    subst hr
    simp only [Bool.and_eq_true] at hp
    obtain ⟨⟨hs0, hs1⟩, hp⟩ := hp
    obtain ⟨xs0, rfl⟩ := isS_ex hs0
    obtain ⟨xs1, rfl⟩ := isS_ex hs1
    simp only [deS_enS] at hp ⊢
    exact ⟨_, m63 xs0 xs1 hp⟩
  · cases h)
def T63 : Table := (63, c63) :: T75
theorem T63_sound : Table.Sound Go.Proofs.Try.prog Hx T63 := Table.sound_cons s63 T75_sound
def o76 (a : Heard) (b : Heard) : Bool × List Row × List Row := (sameB a b, [[.bool (true)]], [])
def c76 : Contract
  | [[.int .i64 a_Addr, .int .i64 a_Vlan, .int .i64 a_Port, .int .i64 a_Left], [.int .i64 b_Addr, .int .i64 b_Vlan, .int .i64 b_Port, .int .i64 b_Left]] => some ((o76 ⟨a_Addr, a_Vlan, a_Port, a_Left⟩ ⟨b_Addr, b_Vlan, b_Port, b_Left⟩).1, (o76 ⟨a_Addr, a_Vlan, a_Port, a_Left⟩ ⟨b_Addr, b_Vlan, b_Port, b_Left⟩).2.1, (o76 ⟨a_Addr, a_Vlan, a_Port, a_Left⟩ ⟨b_Addr, b_Vlan, b_Port, b_Left⟩).2.2)
  | _ => none

theorem r76 (a : Heard) (b : Heard) (n : Nat) : evFn ⟨prog, Hx, 76⟩ T63.call n f76 [[.int .i64 a.Addr, .int .i64 a.Vlan, .int .i64 a.Port, .int .i64 a.Left], [.int .i64 b.Addr, .int .i64 b.Vlan, .int .i64 b.Port, .int .i64 b.Left]] = bif Heard.Addr a != Heard.Addr b then some ([[D.bool false]], []) else bif Heard.Vlan a != Heard.Vlan b then some ([[D.bool false]], []) else bif Heard.Port a != Heard.Port b then some ([[D.bool false]], []) else bif Heard.Left a != Heard.Left b then some ([[D.bool false]], []) else some ([[D.bool true]], []) := by kernel_rfl
theorem m76 (a : Heard) (b : Heard) (hpre : (o76 a b).1 = true) : evFn ⟨Go.Proofs.Try.prog, Hx, 76⟩ T63.call 0 f76 [[.int .i64 a.Addr, .int .i64 a.Vlan, .int .i64 a.Port, .int .i64 a.Left], [.int .i64 b.Addr, .int .i64 b.Vlan, .int .i64 b.Port, .int .i64 b.Left]] = some (o76 a b).2 := by
  refine (r76 a b _).trans ?_
  show _ = (some ([[.bool (true)]], []) : Option (List Row × List Row))
  replace hpre : (sameB a b) = true := hpre
  have := sameB_eq hpre
  subst this
  simp only [bne_self_eq_false, cond_false, sameB_self, cond_true, Bool.not_true]
theorem s76 : SoundAt Go.Proofs.Try.prog Hx 76 c76 := soundAt_of T63_sound mixed func76 (by kernel_rfl) (by
  intro rows r h
  unfold c76 at h
  split at h
  · rename_i a_Addr a_Vlan a_Port a_Left b_Addr b_Vlan b_Port b_Left
    obtain ⟨hp, hr⟩ := Prod.mk.inj (Option.some.inj h)
    subst hr
    exact ⟨_, m76 ⟨a_Addr, a_Vlan, a_Port, a_Left⟩ ⟨b_Addr, b_Vlan, b_Port, b_Left⟩ hp⟩
  · cases h)
def T76 : Table := (76, c76) :: T63
theorem T76_sound : Table.Sound Go.Proofs.Try.prog Hx T76 := Table.sound_cons s76 T63_sound
def o64 (a : List Heard) (b : List Heard) : Bool × List Row × List Row := (sameB a b && (decide (a.length ≤ 1048576)), [[.bool (true)]], [])
def c64 : Contract
  | [[.sl false 4 a], [.sl false 4 b]] => some (isS Heard false a && isS Heard false b && (o64 (deS Heard a) (deS Heard b)).1, (o64 (deS Heard a) (deS Heard b)).2.1, (o64 (deS Heard a) (deS Heard b)).2.2)
  | _ => none

def k64_0 (n : Nat) : Ex → St → RR := kThen (fun st ↦ runCode (Ctx.mk prog Hx (64)) (Table.call T76) n (codeAt [1, 1, 1] (bodyOf f64)) (Lv.mk 16 [] 16) st (kLeave (Ctx.P (Ctx.mk prog Hx (64))) (List.zip (Array.toList (Go.Func.resultTypes f64)) (Array.toList (Go.Func.results f64))) [] [])) (kLeave (Ctx.P (Ctx.mk prog Hx (64))) (List.zip (Array.toList (Go.Func.resultTypes f64)) (Array.toList (Go.Func.results f64))) [] [])
def k64_1 (n : Nat) : Ex → St → RR := kBlock (0) (k64_0 n)
def S64_0 (a : List Heard) (b : List Heard) (i0 : Int) : St := St.mk [V_ [C.d (D.sl false 4 (enS false a))], V_ [C.d (D.sl false 4 (enS false b))], U_, U_, U_, I_ i0, U_, U_, U_, U_, U_, U_, U_, U_, U_, U_, U_, U_, U_, U_, U_, U_, U_, U_, U_, U_, U_] []
def B64_0 (n : Nat) : St → (Ex → St → RR) → RR := runCode (Ctx.mk prog Hx (64)) (Table.call T76) n (codeAt [1, 1, 0, 1, 0, 0] (bodyOf f64)) (Lv.mk 35 [(0, 0)] 16)
def X64_2 (a : List Heard) (b : List Heard) (i0 : Int) : St := St.mk [V_ [C.d (D.sl false 4 (enS false a))], V_ [C.d (D.sl false 4 (enS false b))], U_, U_, U_, I_ i0, U_, U_, U_, U_, U_, I_ i0, V_ [C.d (D.sl false 4 (enS false a))], I_ (ofNat (length (enS false a))), B_ false, U_, U_, U_, U_, U_, U_, U_, U_, U_, U_, U_, U_] []
theorem q64_0 (a : List Heard) (b : List Heard) (n : Nat) (i0 : Int) (f : St → RR) (K : Ex → St → RR) : B64_0 n (S64_0 a b i0) (kThen (fun st ↦ f (St.head 0 35 134215728 st)) K) = bif decide (i0 < ofNat (length (enS false a))) then bif decide (0 ≤ i0) && decide (i0 < ofNat (length (enS false a))) then bif Leaf.fit false (Leaf.int i64) (getD (getD (enS false a) (toNat i0) []) 0 D.dead) && (Leaf.fit false (Leaf.int i64) (getD (getD (enS false a) (toNat i0) []) 1 D.dead) && (Leaf.fit false (Leaf.int i64) (getD (getD (enS false a) (toNat i0) []) 2 D.dead) && (Leaf.fit false (Leaf.int i64) (getD (getD (enS false a) (toNat i0) []) 3 D.dead) && true))) then bif decide (0 ≤ i0) && decide (i0 < ofNat (length (enS false b))) then bif Leaf.fit false (Leaf.int i64) (getD (getD (enS false b) (toNat i0) []) 0 D.dead) && (Leaf.fit false (Leaf.int i64) (getD (getD (enS false b) (toNat i0) []) 1 D.dead) && (Leaf.fit false (Leaf.int i64) (getD (getD (enS false b) (toNat i0) []) 2 D.dead) && (Leaf.fit false (Leaf.int i64) (getD (getD (enS false b) (toNat i0) []) 3 D.dead) && true))) then bif sameB (Heard.mk (D.num (getD (getD (enS false a) (toNat i0) []) 0 D.dead)) (D.num (getD (getD (enS false a) (toNat i0) []) 1 D.dead)) (D.num (getD (getD (enS false a) (toNat i0) []) 2 D.dead)) (D.num (getD (getD (enS false a) (toNat i0) []) 3 D.dead))) (Heard.mk (D.num (getD (getD (enS false b) (toNat i0) []) 0 D.dead)) (D.num (getD (getD (enS false b) (toNat i0) []) 1 D.dead)) (D.num (getD (getD (enS false b) (toNat i0) []) 2 D.dead)) (D.num (getD (getD (enS false b) (toNat i0) []) 3 D.dead))) then f (S64_0 a b (wrap i64 (i0 + 1))) else none else none else none else none else none else K (Ex.exit 0) (X64_2 a b i0) := by kernel_rfl
theorem aX64_2 (a : List Heard) (b : List Heard) (n : Nat) (i0 : Int) : k64_1 n (Ex.exit 0) (X64_2 a b i0) = some ([[D.bool true]], []) := by kernel_rfl
theorem r64 (a : List Heard) (b : List Heard) (n : Nat) : evFn ⟨prog, Hx, 64⟩ T76.call n f64 [[.sl false 4 (enS false a)], [.sl false 4 (enS false b)]] = bif ofNat (length (enS false a)) != ofNat (length (enS false b)) then some ([[D.bool false]], []) else loopRun (B64_0 n) 0 35 134215728 n (S64_0 a b (0)) (k64_1 n) := by kernel_rfl
theorem m64 (a : List Heard) (b : List Heard) (hpre : (o64 a b).1 = true) : evFn ⟨Go.Proofs.Try.prog, Hx, 64⟩ T76.call (a.length + 1) f64 [[.sl false 4 (enS false a)], [.sl false 4 (enS false b)]] = some (o64 a b).2 := by
  refine (r64 a b _).trans ?_
  show _ = (some ([[.bool (true)]], []) : Option (List Row × List Row))
  replace hpre : (sameB a b && (decide (a.length ≤ 1048576))) = true := hpre
  rw [Bool.and_eq_true] at hpre
  obtain ⟨h0, h1⟩ := hpre
  have hlen : a.length ≤ 1048576 := of_decide_eq_true h1
  have := sameB_eq h0
  subst this
  simp only [bne_self_eq_false, cond_false]
  refine loop_list (xs := a) (fun i (_ : Unit) => S64_0 a a (Int.ofNat i)) (fun _ _ => True) (fun _ _ _ => some ([[D.bool true]], [])) ?_ ?_ (a.length + 1) () (by omega) trivial
  · rintro _ _ f
    refine (q64_0 a a _ _ f _).trans ?_
    simp only [enS_length, dec_lt, Nat.lt_irrefl, decide_false, cond_false]
    exact aX64_2 a a _ _
  · rintro i _ hi _ f hf
    refine (q64_0 a a _ _ f _).trans ?_
    simp only [enS_length, toNat_of, dec_lt, dec_ge, enS_get _ hi, hi, wrap_succ (show i < 4611686018427387904 by omega), decide_true, cond_true, Bool.and_self, sameB_self, bne_self_eq_false, cond_false]
    exact hf () trivial
theorem s64 : SoundAt Go.Proofs.Try.prog Hx 64 c64 := soundAt_of T76_sound mixed func64 (by kernel_rfl) (by
  intro rows r h
  unfold c64 at h
  split at h
  · rename_i a b
    obtain ⟨hp, hr⟩ := Prod.mk.inj (Option.some.inj h)
    subst hr
    simp only [Bool.and_eq_true] at hp
    obtain ⟨⟨hs0, hs1⟩, hp⟩ := hp
    obtain ⟨xs0, rfl⟩ := isS_ex hs0
    obtain ⟨xs1, rfl⟩ := isS_ex hs1
    simp only [deS_enS] at hp ⊢
    exact ⟨_, m64 xs0 xs1 hp⟩
  · cases h)
def T64 : Table := (64, c64) :: T76
theorem T64_sound : Table.Sound Go.Proofs.Try.prog Hx T64 := Table.sound_cons s64 T76_sound
def o43 (a : Card) (b : Card) : Bool × List Row × List Row := (sameB a b && (Card.small a), [[.bool (true)]], [])
def c43 : Contract
  | [[.sl false 1 a_Open, .sl false 2 a_Members, .sl false 4 a_Table], [.sl false 1 b_Open, .sl false 2 b_Members, .sl false 4 b_Table]] => some (isS Bool false a_Open && isS Member false a_Members && isS Heard false a_Table && isS Bool false b_Open && isS Member false b_Members && isS Heard false b_Table && (o43 ⟨(deS Bool a_Open), (deS Member a_Members), (deS Heard a_Table)⟩ ⟨(deS Bool b_Open), (deS Member b_Members), (deS Heard b_Table)⟩).1, (o43 ⟨(deS Bool a_Open), (deS Member a_Members), (deS Heard a_Table)⟩ ⟨(deS Bool b_Open), (deS Member b_Members), (deS Heard b_Table)⟩).2.1, (o43 ⟨(deS Bool a_Open), (deS Member a_Members), (deS Heard a_Table)⟩ ⟨(deS Bool b_Open), (deS Member b_Members), (deS Heard b_Table)⟩).2.2)
  | _ => none

theorem r43 (a : Card) (b : Card) (n : Nat) : evFn ⟨prog, Hx, 43⟩ T64.call n f43 [[.sl false 1 (enS false a.Open), .sl false 2 (enS false a.Members), .sl false 4 (enS false a.Table)], [.sl false 1 (enS false b.Open), .sl false 2 (enS false b.Members), .sl false 4 (enS false b.Table)]] = bif isS Bool false (enS false (Card.Open a)) && isS Bool false (enS false (Card.Open b)) && (sameB (deS Bool (enS false (Card.Open a))) (deS Bool (enS false (Card.Open b))) && decide (length (deS Bool (enS false (Card.Open a))) ≤ 1048576)) then bif isS Member false (enS false (Card.Members a)) && isS Member false (enS false (Card.Members b)) && (sameB (deS Member (enS false (Card.Members a))) (deS Member (enS false (Card.Members b))) && (decide (length (deS Member (enS false (Card.Members a))) ≤ 1048576) && all (deS Member (enS false (Card.Members a))) Member.small)) then bif isS Heard false (enS false (Card.Table a)) && isS Heard false (enS false (Card.Table b)) && (sameB (deS Heard (enS false (Card.Table a))) (deS Heard (enS false (Card.Table b))) && decide (length (deS Heard (enS false (Card.Table a))) ≤ 1048576)) then some ([[D.bool true]], []) else none else none else none := by kernel_rfl
theorem m43 (a : Card) (b : Card) (hpre : (o43 a b).1 = true) : evFn ⟨Go.Proofs.Try.prog, Hx, 43⟩ T64.call 0 f43 [[.sl false 1 (enS false a.Open), .sl false 2 (enS false a.Members), .sl false 4 (enS false a.Table)], [.sl false 1 (enS false b.Open), .sl false 2 (enS false b.Members), .sl false 4 (enS false b.Table)]] = some (o43 a b).2 := by
  refine (r43 a b _).trans ?_
  show _ = (some ([[.bool (true)]], []) : Option (List Row × List Row))
  replace hpre : (sameB a b && (Card.small a)) = true := hpre
  rw [Bool.and_eq_true] at hpre
  obtain ⟨h0, h1⟩ := hpre
  have := sameB_eq h0
  subst this
  unfold Card.small at h1
  try simp only [Bool.and_eq_true] at h1
  simp only [h1, bne_self_eq_false, cond_false, cond_true, sameB_self, isS_enS, deS_enS, Bool.and_self, Bool.and_true, Bool.true_and, Bool.not_true]
  try rfl
theorem s43 : SoundAt Go.Proofs.Try.prog Hx 43 c43 := soundAt_of T64_sound mixed func43 (by kernel_rfl) (by
  intro rows r h
  unfold c43 at h
  split at h
  · rename_i a_Open a_Members a_Table b_Open b_Members b_Table
    obtain ⟨hp, hr⟩ := Prod.mk.inj (Option.some.inj h)
    subst hr
    simp only [Bool.and_eq_true] at hp
    obtain ⟨⟨⟨⟨⟨⟨hs0, hs1⟩, hs2⟩, hs3⟩, hs4⟩, hs5⟩, hp⟩ := hp
    obtain ⟨xs0, rfl⟩ := isS_ex hs0
    obtain ⟨xs1, rfl⟩ := isS_ex hs1
    obtain ⟨xs2, rfl⟩ := isS_ex hs2
    obtain ⟨xs3, rfl⟩ := isS_ex hs3
    obtain ⟨xs4, rfl⟩ := isS_ex hs4
    obtain ⟨xs5, rfl⟩ := isS_ex hs5
    simp only [deS_enS] at hp ⊢
    exact ⟨_, m43 ⟨xs0, xs1, xs2⟩ ⟨xs3, xs4, xs5⟩ hp⟩
  · cases h)
def T43 : Table := (43, c43) :: T64
theorem T43_sound : Table.Sound Go.Proofs.Try.prog Hx T43 := Table.sound_cons s43 T64_sound
def o23 (a : List Card) (b : List Card) : Bool × List Row × List Row := (sameB a b && ((decide (a.length ≤ 1048576) && a.all Card.small)), [[.bool (true)]], [])
def c23 : Contract
  | [[.sl false 3 a], [.sl false 3 b]] => some (isS Card false a && isS Card false b && (o23 (deS Card a) (deS Card b)).1, (o23 (deS Card a) (deS Card b)).2.1, (o23 (deS Card a) (deS Card b)).2.2)
  | _ => none

def k23_0 (n : Nat) : Ex → St → RR := kThen (fun st ↦ runCode (Ctx.mk prog Hx (23)) (Table.call T43) n (codeAt [1, 1, 1] (bodyOf f23)) (Lv.mk 16 [] 16) st (kLeave (Ctx.P (Ctx.mk prog Hx (23))) (List.zip (Array.toList (Go.Func.resultTypes f23)) (Array.toList (Go.Func.results f23))) [] [])) (kLeave (Ctx.P (Ctx.mk prog Hx (23))) (List.zip (Array.toList (Go.Func.resultTypes f23)) (Array.toList (Go.Func.results f23))) [] [])
def k23_1 (n : Nat) : Ex → St → RR := kBlock (0) (k23_0 n)
def S23_0 (a : List Card) (b : List Card) (i0 : Int) : St := St.mk [V_ [C.d (D.sl false 3 (enS false a))], V_ [C.d (D.sl false 3 (enS false b))], U_, U_, U_, I_ i0, U_, U_, U_, U_, U_, U_, U_, U_, U_, U_, U_, U_, U_, U_, U_, U_, U_, U_, U_, U_, U_] []
def B23_0 (n : Nat) : St → (Ex → St → RR) → RR := runCode (Ctx.mk prog Hx (23)) (Table.call T43) n (codeAt [1, 1, 0, 1, 0, 0] (bodyOf f23)) (Lv.mk 35 [(0, 0)] 16)
def X23_2 (a : List Card) (b : List Card) (i0 : Int) : St := St.mk [V_ [C.d (D.sl false 3 (enS false a))], V_ [C.d (D.sl false 3 (enS false b))], U_, U_, U_, I_ i0, U_, U_, U_, U_, U_, I_ i0, V_ [C.d (D.sl false 3 (enS false a))], I_ (ofNat (length (enS false a))), B_ false, U_, U_, U_, U_, U_, U_, U_, U_, U_, U_, U_, U_] []
theorem q23_0 (a : List Card) (b : List Card) (n : Nat) (i0 : Int) (f : St → RR) (K : Ex → St → RR) : B23_0 n (S23_0 a b i0) (kThen (fun st ↦ f (St.head 0 35 134215728 st)) K) = bif decide (i0 < ofNat (length (enS false a))) then bif decide (0 ≤ i0) && decide (i0 < ofNat (length (enS false a))) then bif Leaf.fit false (Leaf.sl 1 true) (getD (getD (enS false a) (toNat i0) []) 0 D.dead) && (Leaf.fit false (Leaf.sl 2 false) (getD (getD (enS false a) (toNat i0) []) 1 D.dead) && (Leaf.fit false (Leaf.sl 4 true) (getD (getD (enS false a) (toNat i0) []) 2 D.dead) && true)) then bif decide (0 ≤ i0) && decide (i0 < ofNat (length (enS false b))) then bif Leaf.fit false (Leaf.sl 1 true) (getD (getD (enS false b) (toNat i0) []) 0 D.dead) && (Leaf.fit false (Leaf.sl 2 false) (getD (getD (enS false b) (toNat i0) []) 1 D.dead) && (Leaf.fit false (Leaf.sl 4 true) (getD (getD (enS false b) (toNat i0) []) 2 D.dead) && true)) then bif isS Bool false (D.rows (getD (getD (enS false a) (toNat i0) []) 0 D.dead)) && isS Member false (D.rows (getD (getD (enS false a) (toNat i0) []) 1 D.dead)) && isS Heard false (D.rows (getD (getD (enS false a) (toNat i0) []) 2 D.dead)) && isS Bool false (D.rows (getD (getD (enS false b) (toNat i0) []) 0 D.dead)) && isS Member false (D.rows (getD (getD (enS false b) (toNat i0) []) 1 D.dead)) && isS Heard false (D.rows (getD (getD (enS false b) (toNat i0) []) 2 D.dead)) && (sameB (Card.mk (deS Bool (D.rows (getD (getD (enS false a) (toNat i0) []) 0 D.dead))) (deS Member (D.rows (getD (getD (enS false a) (toNat i0) []) 1 D.dead))) (deS Heard (D.rows (getD (getD (enS false a) (toNat i0) []) 2 D.dead)))) (Card.mk (deS Bool (D.rows (getD (getD (enS false b) (toNat i0) []) 0 D.dead))) (deS Member (D.rows (getD (getD (enS false b) (toNat i0) []) 1 D.dead))) (deS Heard (D.rows (getD (getD (enS false b) (toNat i0) []) 2 D.dead)))) && Card.small (Card.mk (deS Bool (D.rows (getD (getD (enS false a) (toNat i0) []) 0 D.dead))) (deS Member (D.rows (getD (getD (enS false a) (toNat i0) []) 1 D.dead))) (deS Heard (D.rows (getD (getD (enS false a) (toNat i0) []) 2 D.dead))))) then f (S23_0 a b (wrap i64 (i0 + 1))) else none else none else none else none else none else K (Ex.exit 0) (X23_2 a b i0) := by kernel_rfl
theorem aX23_2 (a : List Card) (b : List Card) (n : Nat) (i0 : Int) : k23_1 n (Ex.exit 0) (X23_2 a b i0) = some ([[D.bool true]], []) := by kernel_rfl
theorem r23 (a : List Card) (b : List Card) (n : Nat) : evFn ⟨prog, Hx, 23⟩ T43.call n f23 [[.sl false 3 (enS false a)], [.sl false 3 (enS false b)]] = bif ofNat (length (enS false a)) != ofNat (length (enS false b)) then some ([[D.bool false]], []) else loopRun (B23_0 n) 0 35 134215728 n (S23_0 a b (0)) (k23_1 n) := by kernel_rfl
theorem m23 (a : List Card) (b : List Card) (hpre : (o23 a b).1 = true) : evFn ⟨Go.Proofs.Try.prog, Hx, 23⟩ T43.call (a.length + 1) f23 [[.sl false 3 (enS false a)], [.sl false 3 (enS false b)]] = some (o23 a b).2 := by
  refine (r23 a b _).trans ?_
  show _ = (some ([[.bool (true)]], []) : Option (List Row × List Row))
  replace hpre : (sameB a b && ((decide (a.length ≤ 1048576) && a.all Card.small))) = true := hpre
  rw [Bool.and_eq_true, Bool.and_eq_true] at hpre
  obtain ⟨h0, h1, h2⟩ := hpre
  have hlen := of_decide_eq_true h1
  have := sameB_eq h0
  subst this
  simp only [bne_self_eq_false, cond_false]
  refine loop_list (xs := a) (fun i (_ : Unit) => S23_0 a a (Int.ofNat i)) (fun _ _ => True) (fun _ _ _ => some ([[D.bool true]], [])) ?_ ?_ (a.length + 1) () (by omega) trivial
  · rintro _ _ f
    refine (q23_0 a a _ _ f _).trans ?_
    rw [end_lt, cond_false]
    exact aX23_2 a a _ _
  · rintro i _ hi _ f hf
    refine (q23_0 a a _ _ f _).trans ?_
    have hel := List.all_eq_true.1 h2 _ (List.getElem_mem hi)
    simp only [enS_length, toNat_of, dec_lt, dec_ge, decide_true, decide_false, cond_true, cond_false, Bool.and_self, Bool.and_true, Bool.true_and, Bool.not_true, Bool.not_false, Nat.lt_irrefl, Nat.zero_add, isS_enS, deS_enS, isS_nil, deS_nil, List.nil_append, lendRows_enS, deepRows_enS, noSl_u8, En.enc, List.getD_cons_zero, List.getD_cons_succ, D.num, D.flag, D.text, D.rows, Leaf.fit, List.append_eq, TReader.eta, Frame.eta, Heard.eta, Member.eta, Card.eta, Out1.eta, Vec.eta, Port.eta, Bridge.eta, In.eta, Out.eta, Link.eta, Net.eta, TEnd.eta, Minder.eta, Reg.eta, Wire.eta, Box.eta, Deed.eta, Bpdu.eta, Visit.eta, Fabric.eta, Got.eta, TRide.eta, Up.eta, Copy.eta, Bucket.eta, Snap.eta, TL9Cur.eta, TL21In.eta, enS_get _ hi, hi, wrap_succ (show i < 4611686018427387904 by omega), hel, sameB_self]
    exact hf () trivial
theorem s23 : SoundAt Go.Proofs.Try.prog Hx 23 c23 := soundAt_of T43_sound mixed func23 (by kernel_rfl) (by
  intro rows r h
  unfold c23 at h
  split at h
  · rename_i a b
    obtain ⟨hp, hr⟩ := Prod.mk.inj (Option.some.inj h)
    subst hr
    simp only [Bool.and_eq_true] at hp
    obtain ⟨⟨hs0, hs1⟩, hp⟩ := hp
    obtain ⟨xs0, rfl⟩ := isS_ex hs0
    obtain ⟨xs1, rfl⟩ := isS_ex hs1
    simp only [deS_enS] at hp ⊢
    exact ⟨_, m23 xs0 xs1 hp⟩
  · cases h)
def T23 : Table := (23, c23) :: T43
theorem T23_sound : Table.Sound Go.Proofs.Try.prog Hx T23 := Table.sound_cons s23 T43_sound
def o8 (a : Fabric) (b : Fabric) : Bool × List Row × List Row := (sameB a b && (Fabric.small a), [[.bool (true)]], [])
def c8 : Contract
  | [[.sl false 2 a_Net_Bridges, .sl false 4 a_Net_Links, .sl false 3 a_Cards], [.sl false 2 b_Net_Bridges, .sl false 4 b_Net_Links, .sl false 3 b_Cards]] => some (isS Bridge false a_Net_Bridges && isS Link false a_Net_Links && isS Card false a_Cards && isS Bridge false b_Net_Bridges && isS Link false b_Net_Links && isS Card false b_Cards && (o8 ⟨⟨(deS Bridge a_Net_Bridges), (deS Link a_Net_Links)⟩, (deS Card a_Cards)⟩ ⟨⟨(deS Bridge b_Net_Bridges), (deS Link b_Net_Links)⟩, (deS Card b_Cards)⟩).1, (o8 ⟨⟨(deS Bridge a_Net_Bridges), (deS Link a_Net_Links)⟩, (deS Card a_Cards)⟩ ⟨⟨(deS Bridge b_Net_Bridges), (deS Link b_Net_Links)⟩, (deS Card b_Cards)⟩).2.1, (o8 ⟨⟨(deS Bridge a_Net_Bridges), (deS Link a_Net_Links)⟩, (deS Card a_Cards)⟩ ⟨⟨(deS Bridge b_Net_Bridges), (deS Link b_Net_Links)⟩, (deS Card b_Cards)⟩).2.2)
  | _ => none

theorem r8 (a : Fabric) (b : Fabric) (n : Nat) : evFn ⟨prog, Hx, 8⟩ T23.call n f8 [[.sl false 2 (enS false a.Net.Bridges), .sl false 4 (enS false a.Net.Links), .sl false 3 (enS false a.Cards)], [.sl false 2 (enS false b.Net.Bridges), .sl false 4 (enS false b.Net.Links), .sl false 3 (enS false b.Cards)]] = bif isS Bridge false (enS false (Net.Bridges (Fabric.Net a))) && isS Link false (enS false (Net.Links (Fabric.Net a))) && isS Bridge false (enS false (Net.Bridges (Fabric.Net b))) && isS Link false (enS false (Net.Links (Fabric.Net b))) && (sameB (Net.mk (deS Bridge (enS false (Net.Bridges (Fabric.Net a)))) (deS Link (enS false (Net.Links (Fabric.Net a))))) (Net.mk (deS Bridge (enS false (Net.Bridges (Fabric.Net b)))) (deS Link (enS false (Net.Links (Fabric.Net b))))) && Net.small (Net.mk (deS Bridge (enS false (Net.Bridges (Fabric.Net a)))) (deS Link (enS false (Net.Links (Fabric.Net a)))))) then bif isS Card false (enS false (Fabric.Cards a)) && isS Card false (enS false (Fabric.Cards b)) && (sameB (deS Card (enS false (Fabric.Cards a))) (deS Card (enS false (Fabric.Cards b))) && (decide (length (deS Card (enS false (Fabric.Cards a))) ≤ 1048576) && all (deS Card (enS false (Fabric.Cards a))) Card.small)) then some ([[D.bool true]], []) else none else none := by kernel_rfl
theorem m8 (a : Fabric) (b : Fabric) (hpre : (o8 a b).1 = true) : evFn ⟨Go.Proofs.Try.prog, Hx, 8⟩ T23.call 0 f8 [[.sl false 2 (enS false a.Net.Bridges), .sl false 4 (enS false a.Net.Links), .sl false 3 (enS false a.Cards)], [.sl false 2 (enS false b.Net.Bridges), .sl false 4 (enS false b.Net.Links), .sl false 3 (enS false b.Cards)]] = some (o8 a b).2 := by
  refine (r8 a b _).trans ?_
  show _ = (some ([[.bool (true)]], []) : Option (List Row × List Row))
  replace hpre : (sameB a b && (Fabric.small a)) = true := hpre
  rw [Bool.and_eq_true] at hpre
  obtain ⟨h0, h1⟩ := hpre
  have := sameB_eq h0
  subst this
  unfold Fabric.small at h1
  try simp only [Bool.and_eq_true] at h1
  simp only [h1, bne_self_eq_false, cond_false, cond_true, sameB_self, isS_enS, deS_enS, Bool.and_self, Bool.and_true, Bool.true_and, Bool.not_true]
  try rfl
theorem s8 : SoundAt Go.Proofs.Try.prog Hx 8 c8 := soundAt_of T23_sound mixed func8 (by kernel_rfl) (by
  intro rows r h
  unfold c8 at h
  split at h
  · rename_i a_Net_Bridges a_Net_Links a_Cards b_Net_Bridges b_Net_Links b_Cards
    obtain ⟨hp, hr⟩ := Prod.mk.inj (Option.some.inj h)
    subst hr
    simp only [Bool.and_eq_true] at hp
    obtain ⟨⟨⟨⟨⟨⟨hs0, hs1⟩, hs2⟩, hs3⟩, hs4⟩, hs5⟩, hp⟩ := hp
    obtain ⟨xs0, rfl⟩ := isS_ex hs0
    obtain ⟨xs1, rfl⟩ := isS_ex hs1
    obtain ⟨xs2, rfl⟩ := isS_ex hs2
    obtain ⟨xs3, rfl⟩ := isS_ex hs3
    obtain ⟨xs4, rfl⟩ := isS_ex hs4
    obtain ⟨xs5, rfl⟩ := isS_ex hs5
    simp only [deS_enS] at hp ⊢
    exact ⟨_, m8 ⟨⟨xs0, xs1⟩, xs2⟩ ⟨⟨xs3, xs4⟩, xs5⟩ hp⟩
  · cases h)
def T8 : Table := (8, c8) :: T23
theorem T8_sound : Table.Sound Go.Proofs.Try.prog Hx T8 := Table.sound_cons s8 T23_sound
end Go.Ev
end
