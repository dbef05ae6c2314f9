/- Contracts of functions, each by its evaluation. -/
import Derived.Test.YtfeaiokfklkhjaaEvMd
import Derived.Test.YtfeaiokfklkhjaaProg
import Derived.KernelRfl
import Derived.Test.YtfeaiokfklkhjaaFBridgeok
set_option linter.unusedVariables false
set_option linter.unusedSimpArgs false
set_option maxRecDepth 100000
noncomputable section
open List (getD length drop take set append replicate all isEmpty)
open Int (toNat ofNat)
open Go.IntKind (i64 wrap)
open Go.Proofs.Try (prog f10 f105 f11 f113 f114 f115 f116 f117 f120 f121 f122 f129 f13 f130 f131 f132 f134 f15 f161 f162 f163 f168 f169 f170 f184 f185 f187 f25 f32 f34 f39 f40 f41 f45 f46 f48 f49 f6 f64 f70 f73 f77 f78 f8 f84 f85 f88 func10 func105 func11 func113 func114 func115 func116 func117 func120 func121 func122 func129 func13 func130 func131 func132 func134 func15 func161 func162 func163 func168 func169 func170 func184 func185 func187 func25 func32 func34 func39 func40 func41 func45 func46 func48 func49 func6 func64 func70 func73 func77 func78 func8 func84 func85 func88)
namespace Go.Ev
open Go.RowKit Go.Md
end Go.Ev
namespace Go.Md
open Go Go.Ev
def Bridge.wt (x : Bridge) : Int := (x.Ports.length : Int)
def Bridge.small (x : Bridge) : Bool := decide (x.Ports.length ≤ 1048576)
def Bridge.big (x : Bridge) : Bool := decide (x.Ports.length ≤ 9223372036854775807)
theorem Bridge.wt_pos (x : Bridge) : 0 ≤ Bridge.wt x := by
  unfold Bridge.wt
  omega
theorem Bridge.small_of (x : Bridge) (h : Bridge.wt x ≤ 1048576) : Bridge.small x = true := by
  unfold Bridge.wt at h
  unfold Bridge.small
  exact decide_eq_true (by omega)
def Net.wt (x : Net) : Int := ((x.Bridges.length : Int) + cntS Bridge.wt x.Bridges) + (x.Links.length : Int)
def Net.small (x : Net) : Bool := (decide (x.Bridges.length ≤ 1048576) && x.Bridges.all Bridge.small) && decide (x.Links.length ≤ 1048576)
def Net.big (x : Net) : Bool := (decide (x.Bridges.length ≤ 9223372036854775807) && x.Bridges.all Bridge.big) && decide (x.Links.length ≤ 9223372036854775807)
theorem Net.wt_pos (x : Net) : 0 ≤ Net.wt x := by
  have h0 := cntS_nonneg (n := Bridge.wt) Bridge.wt_pos x.Bridges
  unfold Net.wt
  omega
theorem Net.small_of (x : Net) (h : Net.wt x ≤ 1048576) : Net.small x = true := by
  have h0 := cntS_nonneg (n := Bridge.wt) Bridge.wt_pos x.Bridges
  unfold Net.wt at h
  unfold Net.small
  exact Bool.and_eq_true_iff.2 ⟨Bool.and_eq_true_iff.2 ⟨decide_eq_true (by omega), all_small Bridge.wt_pos Bridge.small_of _ (by omega)⟩, decide_eq_true (by omega)⟩
def Member.wt (x : Member) : Int := (x.In.length : Int)
def Member.small (x : Member) : Bool := decide (x.In.length ≤ 1048576)
def Member.big (x : Member) : Bool := decide (x.In.length ≤ 9223372036854775807)
theorem Member.wt_pos (x : Member) : 0 ≤ Member.wt x := by
  unfold Member.wt
  omega
theorem Member.small_of (x : Member) (h : Member.wt x ≤ 1048576) : Member.small x = true := by
  unfold Member.wt at h
  unfold Member.small
  exact decide_eq_true (by omega)
def Card.wt (x : Card) : Int := (x.Open.length : Int) + ((x.Members.length : Int) + cntS Member.wt x.Members) + (x.Table.length : Int)
def Card.small (x : Card) : Bool := decide (x.Open.length ≤ 1048576) && (decide (x.Members.length ≤ 1048576) && x.Members.all Member.small) && decide (x.Table.length ≤ 1048576)
def Card.big (x : Card) : Bool := decide (x.Open.length ≤ 9223372036854775807) && (decide (x.Members.length ≤ 9223372036854775807) && x.Members.all Member.big) && decide (x.Table.length ≤ 9223372036854775807)
theorem Card.wt_pos (x : Card) : 0 ≤ Card.wt x := by
  have h1 := cntS_nonneg (n := Member.wt) Member.wt_pos x.Members
  unfold Card.wt
  omega
theorem Card.small_of (x : Card) (h : Card.wt x ≤ 1048576) : Card.small x = true := by
  have h1 := cntS_nonneg (n := Member.wt) Member.wt_pos x.Members
  unfold Card.wt at h
  unfold Card.small
  exact Bool.and_eq_true_iff.2 ⟨Bool.and_eq_true_iff.2 ⟨decide_eq_true (by omega), Bool.and_eq_true_iff.2 ⟨decide_eq_true (by omega), all_small Member.wt_pos Member.small_of _ (by omega)⟩⟩, decide_eq_true (by omega)⟩
def Fabric.wt (x : Fabric) : Int := Net.wt x.Net + ((x.Cards.length : Int) + cntS Card.wt x.Cards)
def Fabric.small (x : Fabric) : Bool := Net.small x.Net && (decide (x.Cards.length ≤ 1048576) && x.Cards.all Card.small)
def Fabric.big (x : Fabric) : Bool := Net.big x.Net && (decide (x.Cards.length ≤ 9223372036854775807) && x.Cards.all Card.big)
theorem Fabric.wt_pos (x : Fabric) : 0 ≤ Fabric.wt x := by
  have h0 := Net.wt_pos x.Net
  have h1 := cntS_nonneg (n := Card.wt) Card.wt_pos x.Cards
  unfold Fabric.wt
  omega
theorem Fabric.small_of (x : Fabric) (h : Fabric.wt x ≤ 1048576) : Fabric.small x = true := by
  have h0 := Net.wt_pos x.Net
  have h1 := cntS_nonneg (n := Card.wt) Card.wt_pos x.Cards
  unfold Fabric.wt at h
  unfold Fabric.small
  exact Bool.and_eq_true_iff.2 ⟨Net.small_of _ (by omega), Bool.and_eq_true_iff.2 ⟨decide_eq_true (by omega), all_small Card.wt_pos Card.small_of _ (by omega)⟩⟩
end Go.Md
namespace Go.Ev
open Go.Md
def o132 (a : List Port) (left : Int) : Bool × List Row × List Row := (decide (0 ≤ left) && (decide (left ≤ 1048576) && decide (a.length ≤ 9223372036854775807)), [[.int .i64 (szR (a.length : Int) left)]], [])
def c132 : Contract
  | [[.sl false 11 a], [.int .i64 left]] => some (isS Port false a && (o132 (deS Port a) left).1, (o132 (deS Port a) left).2.1, (o132 (deS Port a) left).2.2)
  | _ => none

theorem r132 (a : List Port) (left : Int) (n : Nat) : evFn ⟨prog, Hx, 132⟩ T79.call n f132 [[.sl false 11 (enS false a)], [.int .i64 left]] = bif decide (wrap i64 (left - ofNat (length (enS false a))) < 0) then some ([[D.int i64 (Int.negSucc 0)]], []) else some ([[D.int i64 (wrap i64 (left - ofNat (length (enS false a))))]], []) := by kernel_rfl
theorem m132 (a : List Port) (left : Int) (hpre : (o132 a left).1 = true) : evFn ⟨Go.Proofs.Try.prog, Hx, 132⟩ T79.call 0 f132 [[.sl false 11 (enS false a)], [.int .i64 left]] = some (o132 a left).2 := by
  refine (r132 a left _).trans ?_
  show _ = (some ([[.int .i64 (szR (a.length : Int) left)]], []) : Option (List Row × List Row))
  replace hpre : (decide (0 ≤ left) && (decide (left ≤ 1048576) && decide (a.length ≤ 9223372036854775807))) = true := hpre
  simp only [Bool.and_eq_true, decide_eq_true_eq] at hpre
  obtain ⟨h0, h1, h2⟩ := hpre
  simp only [enS_length]
  have hw : IntKind.wrap IntKind.i64 (left - Int.ofNat a.length) = left - (a.length : Int) := wrap_of (by show _ ≤ left - (a.length : Int); omega) (by show left - (a.length : Int) ≤ _; omega)
  rw [hw]
  unfold szR
  by_cases h : (a.length : Int) ≤ left
  · rw [decide_eq_false (by omega), decide_eq_true h]; rfl
  · rw [decide_eq_true (by omega), decide_eq_false h]; rfl
theorem s132 : SoundAt Go.Proofs.Try.prog Hx 132 c132 := soundAt_of T79_sound mixed func132 (by kernel_rfl) (by
  intro rows r h
  unfold c132 at h
  split at h
  · rename_i a left
    obtain ⟨hp, hr⟩ := Prod.mk.inj (Option.some.inj h)
    subst hr
    simp only [Bool.and_eq_true] at hp
    obtain ⟨hs0, hp⟩ := hp
    obtain ⟨xs0, rfl⟩ := isS_ex hs0
    simp only [deS_enS] at hp ⊢
    exact ⟨_, m132 xs0 left hp⟩
  · cases h)
def T132 : Table := (132, c132) :: T79
theorem T132_sound : Table.Sound Go.Proofs.Try.prog Hx T132 := Table.sound_cons s132 T79_sound
def o78 (a : Bridge) (left : Int) : Bool × List Row × List Row := (decide (0 ≤ left) && (decide (left ≤ 1048576) && Bridge.big a), [[.int .i64 (szR (Bridge.wt a) left)]], [])
def c78 : Contract
  | [[.int .i64 a_Id, .sl false 11 a_Ports], [.int .i64 left]] => some (isS Port false a_Ports && (o78 ⟨a_Id, (deS Port a_Ports)⟩ left).1, (o78 ⟨a_Id, (deS Port a_Ports)⟩ left).2.1, (o78 ⟨a_Id, (deS Port a_Ports)⟩ left).2.2)
  | _ => none

theorem r78 (a : Bridge) (left : Int) (n : Nat) : evFn ⟨prog, Hx, 78⟩ T132.call n f78 [[.int .i64 a.Id, .sl false 11 (enS false a.Ports)], [.int .i64 left]] = bif isS Port false (enS false (Bridge.Ports a)) && (decide (0 ≤ left) && (decide (left ≤ 1048576) && decide (length (deS Port (enS false (Bridge.Ports a))) ≤ 9223372036854775807))) then bif decide (szR (ofNat (length (deS Port (enS false (Bridge.Ports a))))) left < 0) then some ([[D.int i64 (Int.negSucc 0)]], []) else some ([[D.int i64 (szR (ofNat (length (deS Port (enS false (Bridge.Ports a))))) left)]], []) else none := by kernel_rfl
theorem m78 (a : Bridge) (left : Int) (hpre : (o78 a left).1 = true) : evFn ⟨Go.Proofs.Try.prog, Hx, 78⟩ T132.call 0 f78 [[.int .i64 a.Id, .sl false 11 (enS false a.Ports)], [.int .i64 left]] = some (o78 a left).2 := by
  refine (r78 a left _).trans ?_
  show _ = (some ([[.int .i64 (szR (Bridge.wt a) left)]], []) : Option (List Row × List Row))
  replace hpre : (decide (0 ≤ left) && (decide (left ≤ 1048576) && Bridge.big a)) = true := hpre
  simp only [Bool.and_eq_true, decide_eq_true_eq] at hpre
  obtain ⟨h0, h1, h2⟩ := hpre
  unfold Bridge.big at h2
  try simp only [Bool.and_eq_true] at h2
  unfold Bridge.wt
  have p0 : 0 ≤ (a.Ports.length : Int) := by omega
  have g0 : decide (0 ≤ left) = true := decide_eq_true (by omega)
  have f0 : decide (left ≤ 1048576) = true := decide_eq_true (by omega)
  rcases szR_cases ((a.Ports.length : Int)) (left) (by omega) with ⟨a0, b0, c0⟩ | ⟨a0, b0, c0⟩
  case inr =>
    rw [b0] at c0
    simp only [g0, f0, b0, c0, h2, Int.ofNat_eq_natCast, isS_enS, deS_enS, cond_true, cond_false, Bool.and_self, Bool.and_true, Bool.true_and]
    try rw [szR_gt (by omega)]
    try rfl
  rw [b0] at c0
  simp only [g0, f0, b0, c0, h2, Int.ofNat_eq_natCast, isS_enS, deS_enS, cond_true, cond_false, Bool.and_self, Bool.and_true, Bool.true_and]
  try rw [szR_le (by omega)]
  try rfl
theorem s78 : SoundAt Go.Proofs.Try.prog Hx 78 c78 := soundAt_of T132_sound mixed func78 (by kernel_rfl) (by
  intro rows r h
  unfold c78 at h
  split at h
  · rename_i a_Id a_Ports left
    obtain ⟨hp, hr⟩ := Prod.mk.inj (Option.some.inj h)
    subst hr
    simp only [Bool.and_eq_true] at hp
    obtain ⟨hs0, hp⟩ := hp
    obtain ⟨xs0, rfl⟩ := isS_ex hs0
    simp only [deS_enS] at hp ⊢
    exact ⟨_, m78 ⟨a_Id, xs0⟩ left hp⟩
  · cases h)
def T78 : Table := (78, c78) :: T132
theorem T78_sound : Table.Sound Go.Proofs.Try.prog Hx T78 := Table.sound_cons s78 T132_sound
def o40 (a : List Bridge) (left : Int) : Bool × List Row × List Row := (decide (0 ≤ left) && (decide (left ≤ 1048576) && (decide (a.length ≤ 9223372036854775807) && a.all Bridge.big)), [[.int .i64 (szR ((a.length : Int) + cntS Bridge.wt a) left)]], [])
def c40 : Contract
  | [[.sl false 2 a], [.int .i64 left]] => some (isS Bridge false a && (o40 (deS Bridge a) left).1, (o40 (deS Bridge a) left).2.1, (o40 (deS Bridge a) left).2.2)
  | _ => none

def k40_0 (n : Nat) : Ex → St → RR := kThen (fun st ↦ runCode (Ctx.mk prog Hx (40)) (Table.call T78) n (codeAt [1, 1, 1, 1] (bodyOf f40)) (Lv.mk 16 [] 16) st (kLeave (Ctx.P (Ctx.mk prog Hx (40))) (List.zip (Array.toList (Go.Func.resultTypes f40)) (Array.toList (Go.Func.results f40))) [] [])) (kLeave (Ctx.P (Ctx.mk prog Hx (40))) (List.zip (Array.toList (Go.Func.resultTypes f40)) (Array.toList (Go.Func.results f40))) [] [])
def k40_1 (n : Nat) : Ex → St → RR := kBlock (0) (k40_0 n)
def S40_0 (a : List Bridge) (i0 : Int) (i1 : Int) : St := St.mk [V_ [C.d (D.sl false 2 (enS false a))], I_ i0, U_, U_, U_, I_ i1, U_, U_, U_, U_, U_, U_, U_, U_, U_, U_, U_, U_, U_, U_, U_, U_, U_, U_, U_, U_, U_] []
def B40_0 (n : Nat) : St → (Ex → St → RR) → RR := runCode (Ctx.mk prog Hx (40)) (Table.call T78) n (codeAt [1, 1, 1, 0, 1, 0, 0] (bodyOf f40)) (Lv.mk 35 [(0, 2)] 16)
def X40_2 (a : List Bridge) (i0 : Int) (i1 : Int) : St := St.mk [V_ [C.d (D.sl false 2 (enS false a))], I_ (szR (Bridge.wt (Bridge.mk (D.num (getD (getD (enS false a) (toNat i1) []) 0 D.dead)) (deS Port (D.rows (getD (getD (enS false a) (toNat i1) []) 1 D.dead))))) i0), U_, U_, I_ (Int.negSucc 0), I_ i1, U_, U_, U_, U_, U_, U_, I_ i1, V_ [C.d (D.sl false 2 (enS false a))], I_ (ofNat (length (enS false a))), B_ true, U_, U_, V_ [C.d (D.sl false 2 (enS false a))], I_ i1, V_ [C.rptr (getD (enS false a) (toNat i1) [])], TV.v true [C.d (D.int i64 (D.num (getD (getD (enS false a) (toNat i1) []) 0 D.dead))), C.d (D.sl false 11 (D.rows (getD (getD (enS false a) (toNat i1) []) 1 D.dead)))], I_ i0, I_ (szR (Bridge.wt (Bridge.mk (D.num (getD (getD (enS false a) (toNat i1) []) 0 D.dead)) (deS Port (D.rows (getD (getD (enS false a) (toNat i1) []) 1 D.dead))))) i0), I_ (szR (Bridge.wt (Bridge.mk (D.num (getD (getD (enS false a) (toNat i1) []) 0 D.dead)) (deS Port (D.rows (getD (getD (enS false a) (toNat i1) []) 1 D.dead))))) i0), B_ true, U_] []
def X40_3 (a : List Bridge) (i0 : Int) (i1 : Int) : St := St.mk [V_ [C.d (D.sl false 2 (enS false a))], I_ i0, U_, U_, U_, I_ i1, U_, U_, U_, U_, U_, U_, I_ i1, V_ [C.d (D.sl false 2 (enS false a))], I_ (ofNat (length (enS false a))), B_ false, U_, U_, U_, U_, U_, U_, U_, U_, U_, U_, U_] []
theorem q40_0 (a : List Bridge) (n : Nat) (i0 : Int) (i1 : Int) (f : St → RR) (K : Ex → St → RR) : B40_0 n (S40_0 a i0 i1) (kThen (fun st ↦ f (St.head 0 35 67104818 st)) K) = bif decide (i1 < ofNat (length (enS false a))) then bif decide (0 ≤ i1) && decide (i1 < ofNat (length (enS false a))) then bif Leaf.fit false (Leaf.int i64) (getD (getD (enS false a) (toNat i1) []) 0 D.dead) && (Leaf.fit false (Leaf.sl 11 true) (getD (getD (enS false a) (toNat i1) []) 1 D.dead) && true) then bif isS Port false (D.rows (getD (getD (enS false a) (toNat i1) []) 1 D.dead)) && (decide (0 ≤ i0) && (decide (i0 ≤ 1048576) && Bridge.big (Bridge.mk (D.num (getD (getD (enS false a) (toNat i1) []) 0 D.dead)) (deS Port (D.rows (getD (getD (enS false a) (toNat i1) []) 1 D.dead)))))) then bif decide (szR (Bridge.wt (Bridge.mk (D.num (getD (getD (enS false a) (toNat i1) []) 0 D.dead)) (deS Port (D.rows (getD (getD (enS false a) (toNat i1) []) 1 D.dead))))) i0 < 0) then K Ex.ret (X40_2 a i0 i1) else f (S40_0 a (szR (Bridge.wt (Bridge.mk (D.num (getD (getD (enS false a) (toNat i1) []) 0 D.dead)) (deS Port (D.rows (getD (getD (enS false a) (toNat i1) []) 1 D.dead))))) i0) (wrap i64 (i1 + 1))) else none else none else none else K (Ex.exit 0) (X40_3 a i0 i1) := by kernel_rfl
theorem aX40_2 (a : List Bridge) (n : Nat) (i0 : Int) (i1 : Int) : k40_1 n Ex.ret (X40_2 a i0 i1) = some ([[D.int i64 (Int.negSucc 0)]], []) := by kernel_rfl
theorem aX40_3 (a : List Bridge) (n : Nat) (i0 : Int) (i1 : Int) : k40_1 n (Ex.exit 0) (X40_3 a i0 i1) = some ([[D.int i64 i0]], []) := by kernel_rfl
theorem r40 (a : List Bridge) (left : Int) (n : Nat) : evFn ⟨prog, Hx, 40⟩ T78.call n f40 [[.sl false 2 (enS false a)], [.int .i64 left]] = bif decide (wrap i64 (left - ofNat (length (enS false a))) < 0) then some ([[D.int i64 (Int.negSucc 0)]], []) else loopRun (B40_0 n) 0 35 67104818 n (S40_0 a (wrap i64 (left - ofNat (length (enS false a)))) (0)) (k40_1 n) := by kernel_rfl
theorem m40 (a : List Bridge) (left : Int) (hpre : (o40 a left).1 = true) : evFn ⟨Go.Proofs.Try.prog, Hx, 40⟩ T78.call (a.length + 1) f40 [[.sl false 2 (enS false a)], [.int .i64 left]] = some (o40 a left).2 := by
  refine (r40 a left _).trans ?_
  show _ = (some ([[.int .i64 (szR ((a.length : Int) + cntS Bridge.wt a) left)]], []) : Option (List Row × List Row))
  replace hpre : (decide (0 ≤ left) && (decide (left ≤ 1048576) && (decide (a.length ≤ 9223372036854775807) && a.all Bridge.big))) = true := hpre
  simp only [Bool.and_eq_true, decide_eq_true_eq] at hpre
  obtain ⟨h0, h1, h2, h3⟩ := hpre
  simp only [enS_length]
  have hw : IntKind.wrap IntKind.i64 (left - Int.ofNat a.length) = left - (a.length : Int) := wrap_of (by show _ ≤ left - (a.length : Int); omega) (by show left - (a.length : Int) ≤ _; omega)
  rw [hw]
  have hc := cntS_nonneg (n := Bridge.wt) Bridge.wt_pos a
  by_cases hl : (a.length : Int) ≤ left
  case neg =>
    rw [decide_eq_true (by omega), szR_gt (by omega)]
    rfl
  rw [decide_eq_false (by omega), cond_false]
  have hlen : a.length ≤ 1048576 := by omega
  have hg : szR ((a.length : Int) + cntS Bridge.wt a) left = szR (cntS Bridge.wt a) (left - (a.length : Int)) := by
    by_cases h : cntS Bridge.wt a ≤ left - (a.length : Int)
    · rw [szR_le h, szR_le (by omega)]; omega
    · rw [szR_gt (by omega), szR_gt (by omega)]
  rw [hg]
  refine loop_list (xs := a) (fun i (l : Int) => S40_0 a l (Int.ofNat i)) (fun _ l => 0 ≤ l ∧ l ≤ 1048576) (fun _ l rest => some ([[D.int .i64 (szR (cntS Bridge.wt rest) l)]], [])) ?_ ?_ (a.length + 1) (left - (a.length : Int)) (by omega) ⟨by omega, by omega⟩
  · rintro l ⟨g0, g1⟩ f
    refine (q40_0 a _ _ _ f _).trans ?_
    rw [end_lt, cond_false]
    refine (aX40_3 a _ _ _).trans ?_
    rw [cntS, szR_le g0, Int.sub_zero]
  · rintro i l hi ⟨g0, g1⟩ f hf
    refine (q40_0 a _ _ _ f _).trans ?_
    have hel := List.all_eq_true.1 h3 _ (List.getElem_mem hi)
    have hp := Bridge.wt_pos a[i]
    have hc2 := cntS_nonneg (n := Bridge.wt) Bridge.wt_pos (a.drop (i + 1))
    have d0 : decide (0 ≤ l) = true := decide_eq_true g0
    have d1 : decide (l ≤ 1048576) = true := decide_eq_true g1
    simp only [enS_length, toNat_of, dec_lt, dec_ge, decide_true, decide_false, cond_true, cond_false, Bool.and_self, Bool.and_true, Bool.true_and, Bool.not_true, Bool.not_false, Nat.lt_irrefl, Nat.zero_add, isS_enS, deS_enS, isS_nil, deS_nil, List.nil_append, lendRows_enS, deepRows_enS, noSl_u8, En.enc, List.getD_cons_zero, List.getD_cons_succ, D.num, D.flag, D.text, D.rows, Leaf.fit, List.append_eq, TReader.eta, Frame.eta, Heard.eta, Member.eta, Card.eta, Out1.eta, Vec.eta, Port.eta, Bridge.eta, In.eta, Out.eta, Link.eta, Net.eta, TEnd.eta, Minder.eta, Reg.eta, Wire.eta, Box.eta, Deed.eta, Bpdu.eta, Visit.eta, Fabric.eta, Got.eta, TRide.eta, Up.eta, Copy.eta, Bucket.eta, Snap.eta, TL9Cur.eta, TL21In.eta, enS_get _ hi, hi, wrap_succ (show i < 4611686018427387904 by omega), hel, d0, d1]
    rcases szR_cases (Bridge.wt a[i]) l g0 with ⟨a1, b1, c1⟩ | ⟨a1, b1, c1⟩
    · rw [c1, cond_false, b1]
      refine (hf (l - Bridge.wt a[i]) ⟨by omega, by omega⟩).trans ?_
      have : szR (cntS Bridge.wt (a[i] :: a.drop (i + 1))) l = szR (cntS Bridge.wt (a.drop (i + 1))) (l - Bridge.wt a[i]) := by
        show szR (Bridge.wt a[i] + cntS Bridge.wt (a.drop (i + 1))) l = _
        by_cases h : cntS Bridge.wt (a.drop (i + 1)) ≤ l - Bridge.wt a[i]
        · rw [szR_le h, szR_le (by omega)]; omega
        · rw [szR_gt (by omega), szR_gt (by omega)]
      rw [this]
    · rw [c1, cond_true]
      refine (aX40_2 a _ _ _).trans ?_
      have : szR (cntS Bridge.wt (a[i] :: a.drop (i + 1))) l = -1 := by
        show szR (Bridge.wt a[i] + cntS Bridge.wt (a.drop (i + 1))) l = _
        exact szR_gt (by omega)
      rw [this]
      rfl
theorem s40 : SoundAt Go.Proofs.Try.prog Hx 40 c40 := soundAt_of T78_sound mixed func40 (by kernel_rfl) (by
  intro rows r h
  unfold c40 at h
  split at h
  · rename_i a left
    obtain ⟨hp, hr⟩ := Prod.mk.inj (Option.some.inj h)
    subst hr
    simp only [Bool.and_eq_true] at hp
    obtain ⟨hs0, hp⟩ := hp
    obtain ⟨xs0, rfl⟩ := isS_ex hs0
    simp only [deS_enS] at hp ⊢
    exact ⟨_, m40 xs0 left hp⟩
  · cases h)
def T40 : Table := (40, c40) :: T78
theorem T40_sound : Table.Sound Go.Proofs.Try.prog Hx T40 := Table.sound_cons s40 T78_sound
def o41 (a : List Link) (left : Int) : Bool × List Row × List Row := (decide (0 ≤ left) && (decide (left ≤ 1048576) && decide (a.length ≤ 9223372036854775807)), [[.int .i64 (szR (a.length : Int) left)]], [])
def c41 : Contract
  | [[.sl false 4 a], [.int .i64 left]] => some (isS Link false a && (o41 (deS Link a) left).1, (o41 (deS Link a) left).2.1, (o41 (deS Link a) left).2.2)
  | _ => none

theorem r41 (a : List Link) (left : Int) (n : Nat) : evFn ⟨prog, Hx, 41⟩ T40.call n f41 [[.sl false 4 (enS false a)], [.int .i64 left]] = bif decide (wrap i64 (left - ofNat (length (enS false a))) < 0) then some ([[D.int i64 (Int.negSucc 0)]], []) else some ([[D.int i64 (wrap i64 (left - ofNat (length (enS false a))))]], []) := by kernel_rfl
theorem m41 (a : List Link) (left : Int) (hpre : (o41 a left).1 = true) : evFn ⟨Go.Proofs.Try.prog, Hx, 41⟩ T40.call 0 f41 [[.sl false 4 (enS false a)], [.int .i64 left]] = some (o41 a left).2 := by
  refine (r41 a left _).trans ?_
  show _ = (some ([[.int .i64 (szR (a.length : Int) left)]], []) : Option (List Row × List Row))
  replace hpre : (decide (0 ≤ left) && (decide (left ≤ 1048576) && decide (a.length ≤ 9223372036854775807))) = true := hpre
  simp only [Bool.and_eq_true, decide_eq_true_eq] at hpre
  obtain ⟨h0, h1, h2⟩ := hpre
  simp only [enS_length]
  have hw : IntKind.wrap IntKind.i64 (left - Int.ofNat a.length) = left - (a.length : Int) := wrap_of (by show _ ≤ left - (a.length : Int); omega) (by show left - (a.length : Int) ≤ _; omega)
  rw [hw]
  unfold szR
  by_cases h : (a.length : Int) ≤ left
  · rw [decide_eq_false (by omega), decide_eq_true h]; rfl
  · rw [decide_eq_true (by omega), decide_eq_false h]; rfl
theorem s41 : SoundAt Go.Proofs.Try.prog Hx 41 c41 := soundAt_of T40_sound mixed func41 (by kernel_rfl) (by
  intro rows r h
  unfold c41 at h
  split at h
  · rename_i a left
    obtain ⟨hp, hr⟩ := Prod.mk.inj (Option.some.inj h)
    subst hr
    simp only [Bool.and_eq_true] at hp
    obtain ⟨hs0, hp⟩ := hp
    obtain ⟨xs0, rfl⟩ := isS_ex hs0
    simp only [deS_enS] at hp ⊢
    exact ⟨_, m41 xs0 left hp⟩
  · cases h)
def T41 : Table := (41, c41) :: T40
theorem T41_sound : Table.Sound Go.Proofs.Try.prog Hx T41 := Table.sound_cons s41 T40_sound
def o11 (a : Net) (left : Int) : Bool × List Row × List Row := (decide (0 ≤ left) && (decide (left ≤ 1048576) && Net.big a), [[.int .i64 (szR (Net.wt a) left)]], [])
def c11 : Contract
  | [[.sl false 2 a_Bridges, .sl false 4 a_Links], [.int .i64 left]] => some (isS Bridge false a_Bridges && isS Link false a_Links && (o11 ⟨(deS Bridge a_Bridges), (deS Link a_Links)⟩ left).1, (o11 ⟨(deS Bridge a_Bridges), (deS Link a_Links)⟩ left).2.1, (o11 ⟨(deS Bridge a_Bridges), (deS Link a_Links)⟩ left).2.2)
  | _ => none

theorem r11 (a : Net) (left : Int) (n : Nat) : evFn ⟨prog, Hx, 11⟩ T41.call n f11 [[.sl false 2 (enS false a.Bridges), .sl false 4 (enS false a.Links)], [.int .i64 left]] = bif isS Bridge false (enS false (Net.Bridges a)) && (decide (0 ≤ left) && (decide (left ≤ 1048576) && (decide (length (deS Bridge (enS false (Net.Bridges a))) ≤ 9223372036854775807) && all (deS Bridge (enS false (Net.Bridges a))) Bridge.big))) then bif decide (szR (ofNat (length (deS Bridge (enS false (Net.Bridges a)))) + cntS Bridge.wt (deS Bridge (enS false (Net.Bridges a)))) left < 0) then some ([[D.int i64 (Int.negSucc 0)]], []) else bif isS Link false (enS false (Net.Links a)) && (decide (0 ≤ szR (ofNat (length (deS Bridge (enS false (Net.Bridges a)))) + cntS Bridge.wt (deS Bridge (enS false (Net.Bridges a)))) left) && (decide (szR (ofNat (length (deS Bridge (enS false (Net.Bridges a)))) + cntS Bridge.wt (deS Bridge (enS false (Net.Bridges a)))) left ≤ 1048576) && decide (length (deS Link (enS false (Net.Links a))) ≤ 9223372036854775807))) then bif decide (szR (ofNat (length (deS Link (enS false (Net.Links a))))) (szR (ofNat (length (deS Bridge (enS false (Net.Bridges a)))) + cntS Bridge.wt (deS Bridge (enS false (Net.Bridges a)))) left) < 0) then some ([[D.int i64 (Int.negSucc 0)]], []) else some ([[D.int i64 (szR (ofNat (length (deS Link (enS false (Net.Links a))))) (szR (ofNat (length (deS Bridge (enS false (Net.Bridges a)))) + cntS Bridge.wt (deS Bridge (enS false (Net.Bridges a)))) left))]], []) else none else none := by kernel_rfl
theorem m11 (a : Net) (left : Int) (hpre : (o11 a left).1 = true) : evFn ⟨Go.Proofs.Try.prog, Hx, 11⟩ T41.call 0 f11 [[.sl false 2 (enS false a.Bridges), .sl false 4 (enS false a.Links)], [.int .i64 left]] = some (o11 a left).2 := by
  refine (r11 a left _).trans ?_
  show _ = (some ([[.int .i64 (szR (Net.wt a) left)]], []) : Option (List Row × List Row))
  replace hpre : (decide (0 ≤ left) && (decide (left ≤ 1048576) && Net.big a)) = true := hpre
  simp only [Bool.and_eq_true, decide_eq_true_eq] at hpre
  obtain ⟨h0, h1, h2⟩ := hpre
  unfold Net.big at h2
  try simp only [Bool.and_eq_true] at h2
  unfold Net.wt
  have p0 : 0 ≤ ((a.Bridges.length : Int) + cntS Bridge.wt a.Bridges) := by have := cntS_nonneg (n := Bridge.wt) Bridge.wt_pos a.Bridges; omega
  have p1 : 0 ≤ (a.Links.length : Int) := by omega
  have g0 : decide (0 ≤ left) = true := decide_eq_true (by omega)
  have f0 : decide (left ≤ 1048576) = true := decide_eq_true (by omega)
  rcases szR_cases (((a.Bridges.length : Int) + cntS Bridge.wt a.Bridges)) (left) (by omega) with ⟨a0, b0, c0⟩ | ⟨a0, b0, c0⟩
  case inr =>
    rw [b0] at c0
    simp only [g0, f0, b0, c0, h2, Int.ofNat_eq_natCast, isS_enS, deS_enS, cond_true, cond_false, Bool.and_self, Bool.and_true, Bool.true_and]
    try rw [szR_gt (by omega)]
    try rfl
  rw [b0] at c0
  have g1 : decide (0 ≤ left - ((a.Bridges.length : Int) + cntS Bridge.wt a.Bridges)) = true := decide_eq_true (by omega)
  have f1 : decide (left - ((a.Bridges.length : Int) + cntS Bridge.wt a.Bridges) ≤ 1048576) = true := decide_eq_true (by omega)
  rcases szR_cases ((a.Links.length : Int)) (left - ((a.Bridges.length : Int) + cntS Bridge.wt a.Bridges)) (by omega) with ⟨a1, b1, c1⟩ | ⟨a1, b1, c1⟩
  case inr =>
    rw [b1] at c1
    simp only [g0, f0, b0, c0, g1, f1, b1, c1, h2, Int.ofNat_eq_natCast, isS_enS, deS_enS, cond_true, cond_false, Bool.and_self, Bool.and_true, Bool.true_and]
    try rw [szR_gt (by omega)]
    try rfl
  rw [b1] at c1
  simp only [g0, f0, b0, c0, g1, f1, b1, c1, h2, Int.ofNat_eq_natCast, isS_enS, deS_enS, cond_true, cond_false, Bool.and_self, Bool.and_true, Bool.true_and]
  try rw [szR_le (by omega)]
  try rfl
  try (refine congrArg (fun z => (some ([[D.int IntKind.i64 z]], []) : Option (List Row × List Row))) ?_; omega)
theorem s11 : SoundAt Go.Proofs.Try.prog Hx 11 c11 := soundAt_of T41_sound mixed func11 (by kernel_rfl) (by
  intro rows r h
  unfold c11 at h
  split at h
  · rename_i a_Bridges a_Links left
    obtain ⟨hp, hr⟩ := Prod.mk.inj (Option.some.inj h)
    subst hr
    simp only [Bool.and_eq_true] at hp
    obtain ⟨⟨hs0, hs1⟩, hp⟩ := hp
    obtain ⟨xs0, rfl⟩ := isS_ex hs0
    obtain ⟨xs1, rfl⟩ := isS_ex hs1
    simp only [deS_enS] at hp ⊢
    exact ⟨_, m11 ⟨xs0, xs1⟩ left hp⟩
  · cases h)
def T11 : Table := (11, c11) :: T41
theorem T11_sound : Table.Sound Go.Proofs.Try.prog Hx T11 := Table.sound_cons s11 T41_sound
def o115 (a : List Bool) (left : Int) : Bool × List Row × List Row := (decide (0 ≤ left) && (decide (left ≤ 1048576) && decide (a.length ≤ 9223372036854775807)), [[.int .i64 (szR (a.length : Int) left)]], [])
def c115 : Contract
  | [[.sl false 1 a], [.int .i64 left]] => some (isS Bool false a && (o115 (deS Bool a) left).1, (o115 (deS Bool a) left).2.1, (o115 (deS Bool a) left).2.2)
  | _ => none

theorem r115 (a : List Bool) (left : Int) (n : Nat) : evFn ⟨prog, Hx, 115⟩ T11.call n f115 [[.sl false 1 (enS false a)], [.int .i64 left]] = bif decide (wrap i64 (left - ofNat (length (enS false a))) < 0) then some ([[D.int i64 (Int.negSucc 0)]], []) else some ([[D.int i64 (wrap i64 (left - ofNat (length (enS false a))))]], []) := by kernel_rfl
theorem m115 (a : List Bool) (left : Int) (hpre : (o115 a left).1 = true) : evFn ⟨Go.Proofs.Try.prog, Hx, 115⟩ T11.call 0 f115 [[.sl false 1 (enS false a)], [.int .i64 left]] = some (o115 a left).2 := by
  refine (r115 a left _).trans ?_
  show _ = (some ([[.int .i64 (szR (a.length : Int) left)]], []) : Option (List Row × List Row))
  replace hpre : (decide (0 ≤ left) && (decide (left ≤ 1048576) && decide (a.length ≤ 9223372036854775807))) = true := hpre
  simp only [Bool.and_eq_true, decide_eq_true_eq] at hpre
  obtain ⟨h0, h1, h2⟩ := hpre
  simp only [enS_length]
  have hw : IntKind.wrap IntKind.i64 (left - Int.ofNat a.length) = left - (a.length : Int) := wrap_of (by show _ ≤ left - (a.length : Int); omega) (by show left - (a.length : Int) ≤ _; omega)
  rw [hw]
  unfold szR
  by_cases h : (a.length : Int) ≤ left
  · rw [decide_eq_false (by omega), decide_eq_true h]; rfl
  · rw [decide_eq_true (by omega), decide_eq_false h]; rfl
theorem s115 : SoundAt Go.Proofs.Try.prog Hx 115 c115 := soundAt_of T11_sound mixed func115 (by kernel_rfl) (by
  intro rows r h
  unfold c115 at h
  split at h
  · rename_i a left
    obtain ⟨hp, hr⟩ := Prod.mk.inj (Option.some.inj h)
    subst hr
    simp only [Bool.and_eq_true] at hp
    obtain ⟨hs0, hp⟩ := hp
    obtain ⟨xs0, rfl⟩ := isS_ex hs0
    simp only [deS_enS] at hp ⊢
    exact ⟨_, m115 xs0 left hp⟩
  · cases h)
def T115 : Table := (115, c115) :: T11
theorem T115_sound : Table.Sound Go.Proofs.Try.prog Hx T115 := Table.sound_cons s115 T11_sound
def o184 (a : List Int) (left : Int) : Bool × List Row × List Row := (decide (0 ≤ left) && (decide (left ≤ 1048576) && decide (a.length ≤ 9223372036854775807)), [[.int .i64 (szR (a.length : Int) left)]], [])
def c184 : Contract
  | [[.sl false 1 a], [.int .i64 left]] => some (isS Int false a && (o184 (deS Int a) left).1, (o184 (deS Int a) left).2.1, (o184 (deS Int a) left).2.2)
  | _ => none

theorem r184 (a : List Int) (left : Int) (n : Nat) : evFn ⟨prog, Hx, 184⟩ T115.call n f184 [[.sl false 1 (enS false a)], [.int .i64 left]] = bif decide (wrap i64 (left - ofNat (length (enS false a))) < 0) then some ([[D.int i64 (Int.negSucc 0)]], []) else some ([[D.int i64 (wrap i64 (left - ofNat (length (enS false a))))]], []) := by kernel_rfl
theorem m184 (a : List Int) (left : Int) (hpre : (o184 a left).1 = true) : evFn ⟨Go.Proofs.Try.prog, Hx, 184⟩ T115.call 0 f184 [[.sl false 1 (enS false a)], [.int .i64 left]] = some (o184 a left).2 := by
  refine (r184 a left _).trans ?_
  show _ = (some ([[.int .i64 (szR (a.length : Int) left)]], []) : Option (List Row × List Row))
  replace hpre : (decide (0 ≤ left) && (decide (left ≤ 1048576) && decide (a.length ≤ 9223372036854775807))) = true := hpre
  simp only [Bool.and_eq_true, decide_eq_true_eq] at hpre
  obtain ⟨h0, h1, h2⟩ := hpre
  simp only [enS_length]
  have hw : IntKind.wrap IntKind.i64 (left - Int.ofNat a.length) = left - (a.length : Int) := wrap_of (by show _ ≤ left - (a.length : Int); omega) (by show left - (a.length : Int) ≤ _; omega)
  rw [hw]
  unfold szR
  by_cases h : (a.length : Int) ≤ left
  · rw [decide_eq_false (by omega), decide_eq_true h]; rfl
  · rw [decide_eq_true (by omega), decide_eq_false h]; rfl
theorem s184 : SoundAt Go.Proofs.Try.prog Hx 184 c184 := soundAt_of T115_sound mixed func184 (by kernel_rfl) (by
  intro rows r h
  unfold c184 at h
  split at h
  · rename_i a left
    obtain ⟨hp, hr⟩ := Prod.mk.inj (Option.some.inj h)
    subst hr
    simp only [Bool.and_eq_true] at hp
    obtain ⟨hs0, hp⟩ := hp
    obtain ⟨xs0, rfl⟩ := isS_ex hs0
    simp only [deS_enS] at hp ⊢
    exact ⟨_, m184 xs0 left hp⟩
  · cases h)
def T184 : Table := (184, c184) :: T115
theorem T184_sound : Table.Sound Go.Proofs.Try.prog Hx T184 := Table.sound_cons s184 T115_sound
def o161 (a : Member) (left : Int) : Bool × List Row × List Row := (decide (0 ≤ left) && (decide (left ≤ 1048576) && Member.big a), [[.int .i64 (szR (Member.wt a) left)]], [])
def c161 : Contract
  | [[.int .i64 a_Own, .sl false 1 a_In], [.int .i64 left]] => some (isS Int false a_In && (o161 ⟨a_Own, (deS Int a_In)⟩ left).1, (o161 ⟨a_Own, (deS Int a_In)⟩ left).2.1, (o161 ⟨a_Own, (deS Int a_In)⟩ left).2.2)
  | _ => none

theorem r161 (a : Member) (left : Int) (n : Nat) : evFn ⟨prog, Hx, 161⟩ T184.call n f161 [[.int .i64 a.Own, .sl false 1 (enS false a.In)], [.int .i64 left]] = bif isS Int false (enS false (Member.In a)) && (decide (0 ≤ left) && (decide (left ≤ 1048576) && decide (length (deS Int (enS false (Member.In a))) ≤ 9223372036854775807))) then bif decide (szR (ofNat (length (deS Int (enS false (Member.In a))))) left < 0) then some ([[D.int i64 (Int.negSucc 0)]], []) else some ([[D.int i64 (szR (ofNat (length (deS Int (enS false (Member.In a))))) left)]], []) else none := by kernel_rfl
theorem m161 (a : Member) (left : Int) (hpre : (o161 a left).1 = true) : evFn ⟨Go.Proofs.Try.prog, Hx, 161⟩ T184.call 0 f161 [[.int .i64 a.Own, .sl false 1 (enS false a.In)], [.int .i64 left]] = some (o161 a left).2 := by
  refine (r161 a left _).trans ?_
  show _ = (some ([[.int .i64 (szR (Member.wt a) left)]], []) : Option (List Row × List Row))
  replace hpre : (decide (0 ≤ left) && (decide (left ≤ 1048576) && Member.big a)) = true := hpre
  simp only [Bool.and_eq_true, decide_eq_true_eq] at hpre
  obtain ⟨h0, h1, h2⟩ := hpre
  unfold Member.big at h2
  try simp only [Bool.and_eq_true] at h2
  unfold Member.wt
  have p0 : 0 ≤ (a.In.length : Int) := by omega
  have g0 : decide (0 ≤ left) = true := decide_eq_true (by omega)
  have f0 : decide (left ≤ 1048576) = true := decide_eq_true (by omega)
  rcases szR_cases ((a.In.length : Int)) (left) (by omega) with ⟨a0, b0, c0⟩ | ⟨a0, b0, c0⟩
  case inr =>
    rw [b0] at c0
    simp only [g0, f0, b0, c0, h2, Int.ofNat_eq_natCast, isS_enS, deS_enS, cond_true, cond_false, Bool.and_self, Bool.and_true, Bool.true_and]
    try rw [szR_gt (by omega)]
    try rfl
  rw [b0] at c0
  simp only [g0, f0, b0, c0, h2, Int.ofNat_eq_natCast, isS_enS, deS_enS, cond_true, cond_false, Bool.and_self, Bool.and_true, Bool.true_and]
  try rw [szR_le (by omega)]
  try rfl
theorem s161 : SoundAt Go.Proofs.Try.prog Hx 161 c161 := soundAt_of T184_sound mixed func161 (by kernel_rfl) (by
  intro rows r h
  unfold c161 at h
  split at h
  · rename_i a_Own a_In left
    obtain ⟨hp, hr⟩ := Prod.mk.inj (Option.some.inj h)
    subst hr
    simp only [Bool.and_eq_true] at hp
    obtain ⟨hs0, hp⟩ := hp
    obtain ⟨xs0, rfl⟩ := isS_ex hs0
    simp only [deS_enS] at hp ⊢
    exact ⟨_, m161 ⟨a_Own, xs0⟩ left hp⟩
  · cases h)
def T161 : Table := (161, c161) :: T184
theorem T161_sound : Table.Sound Go.Proofs.Try.prog Hx T161 := Table.sound_cons s161 T184_sound
def o116 (a : List Member) (left : Int) : Bool × List Row × List Row := (decide (0 ≤ left) && (decide (left ≤ 1048576) && (decide (a.length ≤ 9223372036854775807) && a.all Member.big)), [[.int .i64 (szR ((a.length : Int) + cntS Member.wt a) left)]], [])
def c116 : Contract
  | [[.sl false 2 a], [.int .i64 left]] => some (isS Member false a && (o116 (deS Member a) left).1, (o116 (deS Member a) left).2.1, (o116 (deS Member a) left).2.2)
  | _ => none

def k116_0 (n : Nat) : Ex → St → RR := kThen (fun st ↦ runCode (Ctx.mk prog Hx (116)) (Table.call T161) n (codeAt [1, 1, 1, 1] (bodyOf f116)) (Lv.mk 16 [] 16) st (kLeave (Ctx.P (Ctx.mk prog Hx (116))) (List.zip (Array.toList (Go.Func.resultTypes f116)) (Array.toList (Go.Func.results f116))) [] [])) (kLeave (Ctx.P (Ctx.mk prog Hx (116))) (List.zip (Array.toList (Go.Func.resultTypes f116)) (Array.toList (Go.Func.results f116))) [] [])
def k116_1 (n : Nat) : Ex → St → RR := kBlock (0) (k116_0 n)
def S116_0 (a : List Member) (i0 : Int) (i1 : Int) : St := St.mk [V_ [C.d (D.sl false 2 (enS false a))], I_ i0, U_, U_, U_, I_ i1, U_, U_, U_, U_, U_, U_, U_, U_, U_, U_, U_, U_, U_, U_, U_, U_, U_, U_, U_, U_, U_] []
def B116_0 (n : Nat) : St → (Ex → St → RR) → RR := runCode (Ctx.mk prog Hx (116)) (Table.call T161) n (codeAt [1, 1, 1, 0, 1, 0, 0] (bodyOf f116)) (Lv.mk 35 [(0, 2)] 16)
def X116_2 (a : List Member) (i0 : Int) (i1 : Int) : St := St.mk [V_ [C.d (D.sl false 2 (enS false a))], I_ (szR (Member.wt (Member.mk (D.num (getD (getD (enS false a) (toNat i1) []) 0 D.dead)) (deS Int (D.rows (getD (getD (enS false a) (toNat i1) []) 1 D.dead))))) i0), U_, U_, I_ (Int.negSucc 0), I_ i1, U_, U_, U_, U_, U_, U_, I_ i1, V_ [C.d (D.sl false 2 (enS false a))], I_ (ofNat (length (enS false a))), B_ true, U_, U_, V_ [C.d (D.sl false 2 (enS false a))], I_ i1, V_ [C.rptr (getD (enS false a) (toNat i1) [])], TV.v true [C.d (D.int i64 (D.num (getD (getD (enS false a) (toNat i1) []) 0 D.dead))), C.d (D.sl false 1 (D.rows (getD (getD (enS false a) (toNat i1) []) 1 D.dead)))], I_ i0, I_ (szR (Member.wt (Member.mk (D.num (getD (getD (enS false a) (toNat i1) []) 0 D.dead)) (deS Int (D.rows (getD (getD (enS false a) (toNat i1) []) 1 D.dead))))) i0), I_ (szR (Member.wt (Member.mk (D.num (getD (getD (enS false a) (toNat i1) []) 0 D.dead)) (deS Int (D.rows (getD (getD (enS false a) (toNat i1) []) 1 D.dead))))) i0), B_ true, U_] []
def X116_3 (a : List Member) (i0 : Int) (i1 : Int) : St := St.mk [V_ [C.d (D.sl false 2 (enS false a))], I_ i0, U_, U_, U_, I_ i1, U_, U_, U_, U_, U_, U_, I_ i1, V_ [C.d (D.sl false 2 (enS false a))], I_ (ofNat (length (enS false a))), B_ false, U_, U_, U_, U_, U_, U_, U_, U_, U_, U_, U_] []
theorem q116_0 (a : List Member) (n : Nat) (i0 : Int) (i1 : Int) (f : St → RR) (K : Ex → St → RR) : B116_0 n (S116_0 a i0 i1) (kThen (fun st ↦ f (St.head 0 35 67104818 st)) K) = bif decide (i1 < ofNat (length (enS false a))) then bif decide (0 ≤ i1) && decide (i1 < ofNat (length (enS false a))) then bif Leaf.fit false (Leaf.int i64) (getD (getD (enS false a) (toNat i1) []) 0 D.dead) && (Leaf.fit false (Leaf.sl 1 true) (getD (getD (enS false a) (toNat i1) []) 1 D.dead) && true) then bif isS Int false (D.rows (getD (getD (enS false a) (toNat i1) []) 1 D.dead)) && (decide (0 ≤ i0) && (decide (i0 ≤ 1048576) && Member.big (Member.mk (D.num (getD (getD (enS false a) (toNat i1) []) 0 D.dead)) (deS Int (D.rows (getD (getD (enS false a) (toNat i1) []) 1 D.dead)))))) then bif decide (szR (Member.wt (Member.mk (D.num (getD (getD (enS false a) (toNat i1) []) 0 D.dead)) (deS Int (D.rows (getD (getD (enS false a) (toNat i1) []) 1 D.dead))))) i0 < 0) then K Ex.ret (X116_2 a i0 i1) else f (S116_0 a (szR (Member.wt (Member.mk (D.num (getD (getD (enS false a) (toNat i1) []) 0 D.dead)) (deS Int (D.rows (getD (getD (enS false a) (toNat i1) []) 1 D.dead))))) i0) (wrap i64 (i1 + 1))) else none else none else none else K (Ex.exit 0) (X116_3 a i0 i1) := by kernel_rfl
theorem aX116_2 (a : List Member) (n : Nat) (i0 : Int) (i1 : Int) : k116_1 n Ex.ret (X116_2 a i0 i1) = some ([[D.int i64 (Int.negSucc 0)]], []) := by kernel_rfl
theorem aX116_3 (a : List Member) (n : Nat) (i0 : Int) (i1 : Int) : k116_1 n (Ex.exit 0) (X116_3 a i0 i1) = some ([[D.int i64 i0]], []) := by kernel_rfl
theorem r116 (a : List Member) (left : Int) (n : Nat) : evFn ⟨prog, Hx, 116⟩ T161.call n f116 [[.sl false 2 (enS false a)], [.int .i64 left]] = bif decide (wrap i64 (left - ofNat (length (enS false a))) < 0) then some ([[D.int i64 (Int.negSucc 0)]], []) else loopRun (B116_0 n) 0 35 67104818 n (S116_0 a (wrap i64 (left - ofNat (length (enS false a)))) (0)) (k116_1 n) := by kernel_rfl
theorem m116 (a : List Member) (left : Int) (hpre : (o116 a left).1 = true) : evFn ⟨Go.Proofs.Try.prog, Hx, 116⟩ T161.call (a.length + 1) f116 [[.sl false 2 (enS false a)], [.int .i64 left]] = some (o116 a left).2 := by
  refine (r116 a left _).trans ?_
  show _ = (some ([[.int .i64 (szR ((a.length : Int) + cntS Member.wt a) left)]], []) : Option (List Row × List Row))
  replace hpre : (decide (0 ≤ left) && (decide (left ≤ 1048576) && (decide (a.length ≤ 9223372036854775807) && a.all Member.big))) = true := hpre
  simp only [Bool.and_eq_true, decide_eq_true_eq] at hpre
  obtain ⟨h0, h1, h2, h3⟩ := hpre
  simp only [enS_length]
  have hw : IntKind.wrap IntKind.i64 (left - Int.ofNat a.length) = left - (a.length : Int) := wrap_of (by show _ ≤ left - (a.length : Int); omega) (by show left - (a.length : Int) ≤ _; omega)
  rw [hw]
  have hc := cntS_nonneg (n := Member.wt) Member.wt_pos a
  by_cases hl : (a.length : Int) ≤ left
  case neg =>
    rw [decide_eq_true (by omega), szR_gt (by omega)]
    rfl
  rw [decide_eq_false (by omega), cond_false]
  have hlen : a.length ≤ 1048576 := by omega
  have hg : szR ((a.length : Int) + cntS Member.wt a) left = szR (cntS Member.wt a) (left - (a.length : Int)) := by
    by_cases h : cntS Member.wt a ≤ left - (a.length : Int)
    · rw [szR_le h, szR_le (by omega)]; omega
    · rw [szR_gt (by omega), szR_gt (by omega)]
  rw [hg]
  refine loop_list (xs := a) (fun i (l : Int) => S116_0 a l (Int.ofNat i)) (fun _ l => 0 ≤ l ∧ l ≤ 1048576) (fun _ l rest => some ([[D.int .i64 (szR (cntS Member.wt rest) l)]], [])) ?_ ?_ (a.length + 1) (left - (a.length : Int)) (by omega) ⟨by omega, by omega⟩
  · rintro l ⟨g0, g1⟩ f
    refine (q116_0 a _ _ _ f _).trans ?_
    rw [end_lt, cond_false]
    refine (aX116_3 a _ _ _).trans ?_
    rw [cntS, szR_le g0, Int.sub_zero]
  · rintro i l hi ⟨g0, g1⟩ f hf
    refine (q116_0 a _ _ _ f _).trans ?_
    have hel := List.all_eq_true.1 h3 _ (List.getElem_mem hi)
    have hp := Member.wt_pos a[i]
    have hc2 := cntS_nonneg (n := Member.wt) Member.wt_pos (a.drop (i + 1))
    have d0 : decide (0 ≤ l) = true := decide_eq_true g0
    have d1 : decide (l ≤ 1048576) = true := decide_eq_true g1
    simp only [enS_length, toNat_of, dec_lt, dec_ge, decide_true, decide_false, cond_true, cond_false, Bool.and_self, Bool.and_true, Bool.true_and, Bool.not_true, Bool.not_false, Nat.lt_irrefl, Nat.zero_add, isS_enS, deS_enS, isS_nil, deS_nil, List.nil_append, lendRows_enS, deepRows_enS, noSl_u8, En.enc, List.getD_cons_zero, List.getD_cons_succ, D.num, D.flag, D.text, D.rows, Leaf.fit, List.append_eq, TReader.eta, Frame.eta, Heard.eta, Member.eta, Card.eta, Out1.eta, Vec.eta, Port.eta, Bridge.eta, In.eta, Out.eta, Link.eta, Net.eta, TEnd.eta, Minder.eta, Reg.eta, Wire.eta, Box.eta, Deed.eta, Bpdu.eta, Visit.eta, Fabric.eta, Got.eta, TRide.eta, Up.eta, Copy.eta, Bucket.eta, Snap.eta, TL9Cur.eta, TL21In.eta, enS_get _ hi, hi, wrap_succ (show i < 4611686018427387904 by omega), hel, d0, d1]
    rcases szR_cases (Member.wt a[i]) l g0 with ⟨a1, b1, c1⟩ | ⟨a1, b1, c1⟩
    · rw [c1, cond_false, b1]
      refine (hf (l - Member.wt a[i]) ⟨by omega, by omega⟩).trans ?_
      have : szR (cntS Member.wt (a[i] :: a.drop (i + 1))) l = szR (cntS Member.wt (a.drop (i + 1))) (l - Member.wt a[i]) := by
        show szR (Member.wt a[i] + cntS Member.wt (a.drop (i + 1))) l = _
        by_cases h : cntS Member.wt (a.drop (i + 1)) ≤ l - Member.wt a[i]
        · rw [szR_le h, szR_le (by omega)]; omega
        · rw [szR_gt (by omega), szR_gt (by omega)]
      rw [this]
    · rw [c1, cond_true]
      refine (aX116_2 a _ _ _).trans ?_
      have : szR (cntS Member.wt (a[i] :: a.drop (i + 1))) l = -1 := by
        show szR (Member.wt a[i] + cntS Member.wt (a.drop (i + 1))) l = _
        exact szR_gt (by omega)
      rw [this]
      rfl
theorem s116 : SoundAt Go.Proofs.Try.prog Hx 116 c116 := soundAt_of T161_sound mixed func116 (by kernel_rfl) (by
  intro rows r h
  unfold c116 at h
  split at h
  · rename_i a left
    obtain ⟨hp, hr⟩ := Prod.mk.inj (Option.some.inj h)
    subst hr
    simp only [Bool.and_eq_true] at hp
    obtain ⟨hs0, hp⟩ := hp
    obtain ⟨xs0, rfl⟩ := isS_ex hs0
    simp only [deS_enS] at hp ⊢
    exact ⟨_, m116 xs0 left hp⟩
  · cases h)
def T116 : Table := (116, c116) :: T161
theorem T116_sound : Table.Sound Go.Proofs.Try.prog Hx T116 := Table.sound_cons s116 T161_sound
def o117 (a : List Heard) (left : Int) : Bool × List Row × List Row := (decide (0 ≤ left) && (decide (left ≤ 1048576) && decide (a.length ≤ 9223372036854775807)), [[.int .i64 (szR (a.length : Int) left)]], [])
def c117 : Contract
  | [[.sl false 4 a], [.int .i64 left]] => some (isS Heard false a && (o117 (deS Heard a) left).1, (o117 (deS Heard a) left).2.1, (o117 (deS Heard a) left).2.2)
  | _ => none

theorem r117 (a : List Heard) (left : Int) (n : Nat) : evFn ⟨prog, Hx, 117⟩ T116.call n f117 [[.sl false 4 (enS false a)], [.int .i64 left]] = bif decide (wrap i64 (left - ofNat (length (enS false a))) < 0) then some ([[D.int i64 (Int.negSucc 0)]], []) else some ([[D.int i64 (wrap i64 (left - ofNat (length (enS false a))))]], []) := by kernel_rfl
theorem m117 (a : List Heard) (left : Int) (hpre : (o117 a left).1 = true) : evFn ⟨Go.Proofs.Try.prog, Hx, 117⟩ T116.call 0 f117 [[.sl false 4 (enS false a)], [.int .i64 left]] = some (o117 a left).2 := by
  refine (r117 a left _).trans ?_
  show _ = (some ([[.int .i64 (szR (a.length : Int) left)]], []) : Option (List Row × List Row))
  replace hpre : (decide (0 ≤ left) && (decide (left ≤ 1048576) && decide (a.length ≤ 9223372036854775807))) = true := hpre
  simp only [Bool.and_eq_true, decide_eq_true_eq] at hpre
  obtain ⟨h0, h1, h2⟩ := hpre
  simp only [enS_length]
  have hw : IntKind.wrap IntKind.i64 (left - Int.ofNat a.length) = left - (a.length : Int) := wrap_of (by show _ ≤ left - (a.length : Int); omega) (by show left - (a.length : Int) ≤ _; omega)
  rw [hw]
  unfold szR
  by_cases h : (a.length : Int) ≤ left
  · rw [decide_eq_false (by omega), decide_eq_true h]; rfl
  · rw [decide_eq_true (by omega), decide_eq_false h]; rfl
theorem s117 : SoundAt Go.Proofs.Try.prog Hx 117 c117 := soundAt_of T116_sound mixed func117 (by kernel_rfl) (by
  intro rows r h
  unfold c117 at h
  split at h
  · rename_i a left
    obtain ⟨hp, hr⟩ := Prod.mk.inj (Option.some.inj h)
    subst hr
    simp only [Bool.and_eq_true] at hp
    obtain ⟨hs0, hp⟩ := hp
    obtain ⟨xs0, rfl⟩ := isS_ex hs0
    simp only [deS_enS] at hp ⊢
    exact ⟨_, m117 xs0 left hp⟩
  · cases h)
def T117 : Table := (117, c117) :: T116
theorem T117_sound : Table.Sound Go.Proofs.Try.prog Hx T117 := Table.sound_cons s117 T116_sound
def o70 (a : Card) (left : Int) : Bool × List Row × List Row := (decide (0 ≤ left) && (decide (left ≤ 1048576) && Card.big a), [[.int .i64 (szR (Card.wt a) left)]], [])
def c70 : Contract
  | [[.sl false 1 a_Open, .sl false 2 a_Members, .sl false 4 a_Table], [.int .i64 left]] => some (isS Bool false a_Open && isS Member false a_Members && isS Heard false a_Table && (o70 ⟨(deS Bool a_Open), (deS Member a_Members), (deS Heard a_Table)⟩ left).1, (o70 ⟨(deS Bool a_Open), (deS Member a_Members), (deS Heard a_Table)⟩ left).2.1, (o70 ⟨(deS Bool a_Open), (deS Member a_Members), (deS Heard a_Table)⟩ left).2.2)
  | _ => none

theorem r70 (a : Card) (left : Int) (n : Nat) : evFn ⟨prog, Hx, 70⟩ T117.call n f70 [[.sl false 1 (enS false a.Open), .sl false 2 (enS false a.Members), .sl false 4 (enS false a.Table)], [.int .i64 left]] = bif isS Bool false (enS false (Card.Open a)) && (decide (0 ≤ left) && (decide (left ≤ 1048576) && decide (length (deS Bool (enS false (Card.Open a))) ≤ 9223372036854775807))) then bif decide (szR (ofNat (length (deS Bool (enS false (Card.Open a))))) left < 0) then some ([[D.int i64 (Int.negSucc 0)]], []) else bif isS Member false (enS false (Card.Members a)) && (decide (0 ≤ szR (ofNat (length (deS Bool (enS false (Card.Open a))))) left) && (decide (szR (ofNat (length (deS Bool (enS false (Card.Open a))))) left ≤ 1048576) && (decide (length (deS Member (enS false (Card.Members a))) ≤ 9223372036854775807) && all (deS Member (enS false (Card.Members a))) Member.big))) then bif decide (szR (ofNat (length (deS Member (enS false (Card.Members a)))) + cntS Member.wt (deS Member (enS false (Card.Members a)))) (szR (ofNat (length (deS Bool (enS false (Card.Open a))))) left) < 0) then some ([[D.int i64 (Int.negSucc 0)]], []) else bif isS Heard false (enS false (Card.Table a)) && (decide (0 ≤ szR (ofNat (length (deS Member (enS false (Card.Members a)))) + cntS Member.wt (deS Member (enS false (Card.Members a)))) (szR (ofNat (length (deS Bool (enS false (Card.Open a))))) left)) && (decide (szR (ofNat (length (deS Member (enS false (Card.Members a)))) + cntS Member.wt (deS Member (enS false (Card.Members a)))) (szR (ofNat (length (deS Bool (enS false (Card.Open a))))) left) ≤ 1048576) && decide (length (deS Heard (enS false (Card.Table a))) ≤ 9223372036854775807))) then bif decide (szR (ofNat (length (deS Heard (enS false (Card.Table a))))) (szR (ofNat (length (deS Member (enS false (Card.Members a)))) + cntS Member.wt (deS Member (enS false (Card.Members a)))) (szR (ofNat (length (deS Bool (enS false (Card.Open a))))) left)) < 0) then some ([[D.int i64 (Int.negSucc 0)]], []) else some ([[D.int i64 (szR (ofNat (length (deS Heard (enS false (Card.Table a))))) (szR (ofNat (length (deS Member (enS false (Card.Members a)))) + cntS Member.wt (deS Member (enS false (Card.Members a)))) (szR (ofNat (length (deS Bool (enS false (Card.Open a))))) left)))]], []) else none else none else none := by kernel_rfl
theorem m70 (a : Card) (left : Int) (hpre : (o70 a left).1 = true) : evFn ⟨Go.Proofs.Try.prog, Hx, 70⟩ T117.call 0 f70 [[.sl false 1 (enS false a.Open), .sl false 2 (enS false a.Members), .sl false 4 (enS false a.Table)], [.int .i64 left]] = some (o70 a left).2 := by
  refine (r70 a left _).trans ?_
  show _ = (some ([[.int .i64 (szR (Card.wt a) left)]], []) : Option (List Row × List Row))
  replace hpre : (decide (0 ≤ left) && (decide (left ≤ 1048576) && Card.big a)) = true := hpre
  simp only [Bool.and_eq_true, decide_eq_true_eq] at hpre
  obtain ⟨h0, h1, h2⟩ := hpre
  unfold Card.big at h2
  try simp only [Bool.and_eq_true] at h2
  unfold Card.wt
  have p0 : 0 ≤ (a.Open.length : Int) := by omega
  have p1 : 0 ≤ ((a.Members.length : Int) + cntS Member.wt a.Members) := by have := cntS_nonneg (n := Member.wt) Member.wt_pos a.Members; omega
  have p2 : 0 ≤ (a.Table.length : Int) := by omega
  have g0 : decide (0 ≤ left) = true := decide_eq_true (by omega)
  have f0 : decide (left ≤ 1048576) = true := decide_eq_true (by omega)
  rcases szR_cases ((a.Open.length : Int)) (left) (by omega) with ⟨a0, b0, c0⟩ | ⟨a0, b0, c0⟩
  case inr =>
    rw [b0] at c0
    simp only [g0, f0, b0, c0, h2, Int.ofNat_eq_natCast, isS_enS, deS_enS, cond_true, cond_false, Bool.and_self, Bool.and_true, Bool.true_and]
    try rw [szR_gt (by omega)]
    try rfl
  rw [b0] at c0
  have g1 : decide (0 ≤ left - (a.Open.length : Int)) = true := decide_eq_true (by omega)
  have f1 : decide (left - (a.Open.length : Int) ≤ 1048576) = true := decide_eq_true (by omega)
  rcases szR_cases (((a.Members.length : Int) + cntS Member.wt a.Members)) (left - (a.Open.length : Int)) (by omega) with ⟨a1, b1, c1⟩ | ⟨a1, b1, c1⟩
  case inr =>
    rw [b1] at c1
    simp only [g0, f0, b0, c0, g1, f1, b1, c1, h2, Int.ofNat_eq_natCast, isS_enS, deS_enS, cond_true, cond_false, Bool.and_self, Bool.and_true, Bool.true_and]
    try rw [szR_gt (by omega)]
    try rfl
  rw [b1] at c1
  have g2 : decide (0 ≤ left - (a.Open.length : Int) - ((a.Members.length : Int) + cntS Member.wt a.Members)) = true := decide_eq_true (by omega)
  have f2 : decide (left - (a.Open.length : Int) - ((a.Members.length : Int) + cntS Member.wt a.Members) ≤ 1048576) = true := decide_eq_true (by omega)
  rcases szR_cases ((a.Table.length : Int)) (left - (a.Open.length : Int) - ((a.Members.length : Int) + cntS Member.wt a.Members)) (by omega) with ⟨a2, b2, c2⟩ | ⟨a2, b2, c2⟩
  case inr =>
    rw [b2] at c2
    simp only [g0, f0, b0, c0, g1, f1, b1, c1, g2, f2, b2, c2, h2, Int.ofNat_eq_natCast, isS_enS, deS_enS, cond_true, cond_false, Bool.and_self, Bool.and_true, Bool.true_and]
    try rw [szR_gt (by omega)]
    try rfl
  rw [b2] at c2
  simp only [g0, f0, b0, c0, g1, f1, b1, c1, g2, f2, b2, c2, h2, Int.ofNat_eq_natCast, isS_enS, deS_enS, cond_true, cond_false, Bool.and_self, Bool.and_true, Bool.true_and]
  try rw [szR_le (by omega)]
  try rfl
  try (refine congrArg (fun z => (some ([[D.int IntKind.i64 z]], []) : Option (List Row × List Row))) ?_; omega)
theorem s70 : SoundAt Go.Proofs.Try.prog Hx 70 c70 := soundAt_of T117_sound mixed func70 (by kernel_rfl) (by
  intro rows r h
  unfold c70 at h
  split at h
  · rename_i a_Open a_Members a_Table left
    obtain ⟨hp, hr⟩ := Prod.mk.inj (Option.some.inj h)
    subst hr
    simp only [Bool.and_eq_true] at hp
    obtain ⟨⟨⟨hs0, hs1⟩, hs2⟩, hp⟩ := hp
    obtain ⟨xs0, rfl⟩ := isS_ex hs0
    obtain ⟨xs1, rfl⟩ := isS_ex hs1
    obtain ⟨xs2, rfl⟩ := isS_ex hs2
    simp only [deS_enS] at hp ⊢
    exact ⟨_, m70 ⟨xs0, xs1, xs2⟩ left hp⟩
  · cases h)
def T70 : Table := (70, c70) :: T117
theorem T70_sound : Table.Sound Go.Proofs.Try.prog Hx T70 := Table.sound_cons s70 T117_sound
def o32 (a : List Card) (left : Int) : Bool × List Row × List Row := (decide (0 ≤ left) && (decide (left ≤ 1048576) && (decide (a.length ≤ 9223372036854775807) && a.all Card.big)), [[.int .i64 (szR ((a.length : Int) + cntS Card.wt a) left)]], [])
def c32 : Contract
  | [[.sl false 3 a], [.int .i64 left]] => some (isS Card false a && (o32 (deS Card a) left).1, (o32 (deS Card a) left).2.1, (o32 (deS Card a) left).2.2)
  | _ => none

def k32_0 (n : Nat) : Ex → St → RR := kThen (fun st ↦ runCode (Ctx.mk prog Hx (32)) (Table.call T70) n (codeAt [1, 1, 1, 1] (bodyOf f32)) (Lv.mk 16 [] 16) st (kLeave (Ctx.P (Ctx.mk prog Hx (32))) (List.zip (Array.toList (Go.Func.resultTypes f32)) (Array.toList (Go.Func.results f32))) [] [])) (kLeave (Ctx.P (Ctx.mk prog Hx (32))) (List.zip (Array.toList (Go.Func.resultTypes f32)) (Array.toList (Go.Func.results f32))) [] [])
def k32_1 (n : Nat) : Ex → St → RR := kBlock (0) (k32_0 n)
def S32_0 (a : List Card) (i0 : Int) (i1 : Int) : St := St.mk [V_ [C.d (D.sl false 3 (enS false a))], I_ i0, U_, U_, U_, I_ i1, U_, U_, U_, U_, U_, U_, U_, U_, U_, U_, U_, U_, U_, U_, U_, U_, U_, U_, U_, U_, U_] []
def B32_0 (n : Nat) : St → (Ex → St → RR) → RR := runCode (Ctx.mk prog Hx (32)) (Table.call T70) n (codeAt [1, 1, 1, 0, 1, 0, 0] (bodyOf f32)) (Lv.mk 35 [(0, 2)] 16)
def X32_2 (a : List Card) (i0 : Int) (i1 : Int) : St := St.mk [V_ [C.d (D.sl false 3 (enS false a))], I_ (szR (Card.wt (Card.mk (deS Bool (D.rows (getD (getD (enS false a) (toNat i1) []) 0 D.dead))) (deS Member (D.rows (getD (getD (enS false a) (toNat i1) []) 1 D.dead))) (deS Heard (D.rows (getD (getD (enS false a) (toNat i1) []) 2 D.dead))))) i0), U_, U_, I_ (Int.negSucc 0), I_ i1, U_, U_, U_, U_, U_, U_, I_ i1, V_ [C.d (D.sl false 3 (enS false a))], I_ (ofNat (length (enS false a))), B_ true, U_, U_, V_ [C.d (D.sl false 3 (enS false a))], I_ i1, V_ [C.rptr (getD (enS false a) (toNat i1) [])], TV.v true [C.d (D.sl false 1 (D.rows (getD (getD (enS false a) (toNat i1) []) 0 D.dead))), C.d (D.sl false 2 (D.rows (getD (getD (enS false a) (toNat i1) []) 1 D.dead))), C.d (D.sl false 4 (D.rows (getD (getD (enS false a) (toNat i1) []) 2 D.dead)))], I_ i0, I_ (szR (Card.wt (Card.mk (deS Bool (D.rows (getD (getD (enS false a) (toNat i1) []) 0 D.dead))) (deS Member (D.rows (getD (getD (enS false a) (toNat i1) []) 1 D.dead))) (deS Heard (D.rows (getD (getD (enS false a) (toNat i1) []) 2 D.dead))))) i0), I_ (szR (Card.wt (Card.mk (deS Bool (D.rows (getD (getD (enS false a) (toNat i1) []) 0 D.dead))) (deS Member (D.rows (getD (getD (enS false a) (toNat i1) []) 1 D.dead))) (deS Heard (D.rows (getD (getD (enS false a) (toNat i1) []) 2 D.dead))))) i0), B_ true, U_] []
def X32_3 (a : List Card) (i0 : Int) (i1 : Int) : St := St.mk [V_ [C.d (D.sl false 3 (enS false a))], I_ i0, U_, U_, U_, I_ i1, U_, U_, U_, U_, U_, U_, I_ i1, V_ [C.d (D.sl false 3 (enS false a))], I_ (ofNat (length (enS false a))), B_ false, U_, U_, U_, U_, U_, U_, U_, U_, U_, U_, U_] []
theorem q32_0 (a : List Card) (n : Nat) (i0 : Int) (i1 : Int) (f : St → RR) (K : Ex → St → RR) : B32_0 n (S32_0 a i0 i1) (kThen (fun st ↦ f (St.head 0 35 67104818 st)) K) = bif decide (i1 < ofNat (length (enS false a))) then bif decide (0 ≤ i1) && decide (i1 < ofNat (length (enS false a))) then bif Leaf.fit false (Leaf.sl 1 true) (getD (getD (enS false a) (toNat i1) []) 0 D.dead) && (Leaf.fit false (Leaf.sl 2 false) (getD (getD (enS false a) (toNat i1) []) 1 D.dead) && (Leaf.fit false (Leaf.sl 4 true) (getD (getD (enS false a) (toNat i1) []) 2 D.dead) && true)) then bif isS Bool false (D.rows (getD (getD (enS false a) (toNat i1) []) 0 D.dead)) && isS Member false (D.rows (getD (getD (enS false a) (toNat i1) []) 1 D.dead)) && isS Heard false (D.rows (getD (getD (enS false a) (toNat i1) []) 2 D.dead)) && (decide (0 ≤ i0) && (decide (i0 ≤ 1048576) && Card.big (Card.mk (deS Bool (D.rows (getD (getD (enS false a) (toNat i1) []) 0 D.dead))) (deS Member (D.rows (getD (getD (enS false a) (toNat i1) []) 1 D.dead))) (deS Heard (D.rows (getD (getD (enS false a) (toNat i1) []) 2 D.dead)))))) then bif decide (szR (Card.wt (Card.mk (deS Bool (D.rows (getD (getD (enS false a) (toNat i1) []) 0 D.dead))) (deS Member (D.rows (getD (getD (enS false a) (toNat i1) []) 1 D.dead))) (deS Heard (D.rows (getD (getD (enS false a) (toNat i1) []) 2 D.dead))))) i0 < 0) then K Ex.ret (X32_2 a i0 i1) else f (S32_0 a (szR (Card.wt (Card.mk (deS Bool (D.rows (getD (getD (enS false a) (toNat i1) []) 0 D.dead))) (deS Member (D.rows (getD (getD (enS false a) (toNat i1) []) 1 D.dead))) (deS Heard (D.rows (getD (getD (enS false a) (toNat i1) []) 2 D.dead))))) i0) (wrap i64 (i1 + 1))) else none else none else none else K (Ex.exit 0) (X32_3 a i0 i1) := by kernel_rfl
theorem aX32_2 (a : List Card) (n : Nat) (i0 : Int) (i1 : Int) : k32_1 n Ex.ret (X32_2 a i0 i1) = some ([[D.int i64 (Int.negSucc 0)]], []) := by kernel_rfl
theorem aX32_3 (a : List Card) (n : Nat) (i0 : Int) (i1 : Int) : k32_1 n (Ex.exit 0) (X32_3 a i0 i1) = some ([[D.int i64 i0]], []) := by kernel_rfl
theorem r32 (a : List Card) (left : Int) (n : Nat) : evFn ⟨prog, Hx, 32⟩ T70.call n f32 [[.sl false 3 (enS false a)], [.int .i64 left]] = bif decide (wrap i64 (left - ofNat (length (enS false a))) < 0) then some ([[D.int i64 (Int.negSucc 0)]], []) else loopRun (B32_0 n) 0 35 67104818 n (S32_0 a (wrap i64 (left - ofNat (length (enS false a)))) (0)) (k32_1 n) := by kernel_rfl
theorem m32 (a : List Card) (left : Int) (hpre : (o32 a left).1 = true) : evFn ⟨Go.Proofs.Try.prog, Hx, 32⟩ T70.call (a.length + 1) f32 [[.sl false 3 (enS false a)], [.int .i64 left]] = some (o32 a left).2 := by
  refine (r32 a left _).trans ?_
  show _ = (some ([[.int .i64 (szR ((a.length : Int) + cntS Card.wt a) left)]], []) : Option (List Row × List Row))
  replace hpre : (decide (0 ≤ left) && (decide (left ≤ 1048576) && (decide (a.length ≤ 9223372036854775807) && a.all Card.big))) = true := hpre
  simp only [Bool.and_eq_true, decide_eq_true_eq] at hpre
  obtain ⟨h0, h1, h2, h3⟩ := hpre
  simp only [enS_length]
  have hw : IntKind.wrap IntKind.i64 (left - Int.ofNat a.length) = left - (a.length : Int) := wrap_of (by show _ ≤ left - (a.length : Int); omega) (by show left - (a.length : Int) ≤ _; omega)
  rw [hw]
  have hc := cntS_nonneg (n := Card.wt) Card.wt_pos a
  by_cases hl : (a.length : Int) ≤ left
  case neg =>
    rw [decide_eq_true (by omega), szR_gt (by omega)]
    rfl
  rw [decide_eq_false (by omega), cond_false]
  have hlen : a.length ≤ 1048576 := by omega
  have hg : szR ((a.length : Int) + cntS Card.wt a) left = szR (cntS Card.wt a) (left - (a.length : Int)) := by
    by_cases h : cntS Card.wt a ≤ left - (a.length : Int)
    · rw [szR_le h, szR_le (by omega)]; omega
    · rw [szR_gt (by omega), szR_gt (by omega)]
  rw [hg]
  refine loop_list (xs := a) (fun i (l : Int) => S32_0 a l (Int.ofNat i)) (fun _ l => 0 ≤ l ∧ l ≤ 1048576) (fun _ l rest => some ([[D.int .i64 (szR (cntS Card.wt rest) l)]], [])) ?_ ?_ (a.length + 1) (left - (a.length : Int)) (by omega) ⟨by omega, by omega⟩
  · rintro l ⟨g0, g1⟩ f
    refine (q32_0 a _ _ _ f _).trans ?_
    rw [end_lt, cond_false]
    refine (aX32_3 a _ _ _).trans ?_
    rw [cntS, szR_le g0, Int.sub_zero]
  · rintro i l hi ⟨g0, g1⟩ f hf
    refine (q32_0 a _ _ _ f _).trans ?_
    have hel := List.all_eq_true.1 h3 _ (List.getElem_mem hi)
    have hp := Card.wt_pos a[i]
    have hc2 := cntS_nonneg (n := Card.wt) Card.wt_pos (a.drop (i + 1))
    have d0 : decide (0 ≤ l) = true := decide_eq_true g0
    have d1 : decide (l ≤ 1048576) = true := decide_eq_true g1
    simp only [enS_length, toNat_of, dec_lt, dec_ge, decide_true, decide_false, cond_true, cond_false, Bool.and_self, Bool.and_true, Bool.true_and, Bool.not_true, Bool.not_false, Nat.lt_irrefl, Nat.zero_add, isS_enS, deS_enS, isS_nil, deS_nil, List.nil_append, lendRows_enS, deepRows_enS, noSl_u8, En.enc, List.getD_cons_zero, List.getD_cons_succ, D.num, D.flag, D.text, D.rows, Leaf.fit, List.append_eq, TReader.eta, Frame.eta, Heard.eta, Member.eta, Card.eta, Out1.eta, Vec.eta, Port.eta, Bridge.eta, In.eta, Out.eta, Link.eta, Net.eta, TEnd.eta, Minder.eta, Reg.eta, Wire.eta, Box.eta, Deed.eta, Bpdu.eta, Visit.eta, Fabric.eta, Got.eta, TRide.eta, Up.eta, Copy.eta, Bucket.eta, Snap.eta, TL9Cur.eta, TL21In.eta, enS_get _ hi, hi, wrap_succ (show i < 4611686018427387904 by omega), hel, d0, d1]
    rcases szR_cases (Card.wt a[i]) l g0 with ⟨a1, b1, c1⟩ | ⟨a1, b1, c1⟩
    · rw [c1, cond_false, b1]
      refine (hf (l - Card.wt a[i]) ⟨by omega, by omega⟩).trans ?_
      have : szR (cntS Card.wt (a[i] :: a.drop (i + 1))) l = szR (cntS Card.wt (a.drop (i + 1))) (l - Card.wt a[i]) := by
        show szR (Card.wt a[i] + cntS Card.wt (a.drop (i + 1))) l = _
        by_cases h : cntS Card.wt (a.drop (i + 1)) ≤ l - Card.wt a[i]
        · rw [szR_le h, szR_le (by omega)]; omega
        · rw [szR_gt (by omega), szR_gt (by omega)]
      rw [this]
    · rw [c1, cond_true]
      refine (aX32_2 a _ _ _).trans ?_
      have : szR (cntS Card.wt (a[i] :: a.drop (i + 1))) l = -1 := by
        show szR (Card.wt a[i] + cntS Card.wt (a.drop (i + 1))) l = _
        exact szR_gt (by omega)
      rw [this]
      rfl
theorem s32 : SoundAt Go.Proofs.Try.prog Hx 32 c32 := soundAt_of T70_sound mixed func32 (by kernel_rfl) (by
  intro rows r h
  unfold c32 at h
  split at h
  · rename_i a left
    obtain ⟨hp, hr⟩ := Prod.mk.inj (Option.some.inj h)
    subst hr
    simp only [Bool.and_eq_true] at hp
    obtain ⟨hs0, hp⟩ := hp
    obtain ⟨xs0, rfl⟩ := isS_ex hs0
    simp only [deS_enS] at hp ⊢
    exact ⟨_, m32 xs0 left hp⟩
  · cases h)
def T32 : Table := (32, c32) :: T70
theorem T32_sound : Table.Sound Go.Proofs.Try.prog Hx T32 := Table.sound_cons s32 T70_sound
def o6 (a : Fabric) (left : Int) : Bool × List Row × List Row := (decide (0 ≤ left) && (decide (left ≤ 1048576) && Fabric.big a), [[.int .i64 (szR (Fabric.wt a) left)]], [])
def c6 : Contract
  | [[.sl false 2 a_Net_Bridges, .sl false 4 a_Net_Links, .sl false 3 a_Cards], [.int .i64 left]] => some (isS Bridge false a_Net_Bridges && isS Link false a_Net_Links && isS Card false a_Cards && (o6 ⟨⟨(deS Bridge a_Net_Bridges), (deS Link a_Net_Links)⟩, (deS Card a_Cards)⟩ left).1, (o6 ⟨⟨(deS Bridge a_Net_Bridges), (deS Link a_Net_Links)⟩, (deS Card a_Cards)⟩ left).2.1, (o6 ⟨⟨(deS Bridge a_Net_Bridges), (deS Link a_Net_Links)⟩, (deS Card a_Cards)⟩ left).2.2)
  | _ => none

theorem r6 (a : Fabric) (left : Int) (n : Nat) : evFn ⟨prog, Hx, 6⟩ T32.call n f6 [[.sl false 2 (enS false a.Net.Bridges), .sl false 4 (enS false a.Net.Links), .sl false 3 (enS false a.Cards)], [.int .i64 left]] = bif isS Bridge false (enS false (Net.Bridges (Fabric.Net a))) && isS Link false (enS false (Net.Links (Fabric.Net a))) && (decide (0 ≤ left) && (decide (left ≤ 1048576) && Net.big (Net.mk (deS Bridge (enS false (Net.Bridges (Fabric.Net a)))) (deS Link (enS false (Net.Links (Fabric.Net a))))))) then bif decide (szR (Net.wt (Net.mk (deS Bridge (enS false (Net.Bridges (Fabric.Net a)))) (deS Link (enS false (Net.Links (Fabric.Net a)))))) left < 0) then some ([[D.int i64 (Int.negSucc 0)]], []) else bif isS Card false (enS false (Fabric.Cards a)) && (decide (0 ≤ szR (Net.wt (Net.mk (deS Bridge (enS false (Net.Bridges (Fabric.Net a)))) (deS Link (enS false (Net.Links (Fabric.Net a)))))) left) && (decide (szR (Net.wt (Net.mk (deS Bridge (enS false (Net.Bridges (Fabric.Net a)))) (deS Link (enS false (Net.Links (Fabric.Net a)))))) left ≤ 1048576) && (decide (length (deS Card (enS false (Fabric.Cards a))) ≤ 9223372036854775807) && all (deS Card (enS false (Fabric.Cards a))) Card.big))) then bif decide (szR (ofNat (length (deS Card (enS false (Fabric.Cards a)))) + cntS Card.wt (deS Card (enS false (Fabric.Cards a)))) (szR (Net.wt (Net.mk (deS Bridge (enS false (Net.Bridges (Fabric.Net a)))) (deS Link (enS false (Net.Links (Fabric.Net a)))))) left) < 0) then some ([[D.int i64 (Int.negSucc 0)]], []) else some ([[D.int i64 (szR (ofNat (length (deS Card (enS false (Fabric.Cards a)))) + cntS Card.wt (deS Card (enS false (Fabric.Cards a)))) (szR (Net.wt (Net.mk (deS Bridge (enS false (Net.Bridges (Fabric.Net a)))) (deS Link (enS false (Net.Links (Fabric.Net a)))))) left))]], []) else none else none := by kernel_rfl
theorem m6 (a : Fabric) (left : Int) (hpre : (o6 a left).1 = true) : evFn ⟨Go.Proofs.Try.prog, Hx, 6⟩ T32.call 0 f6 [[.sl false 2 (enS false a.Net.Bridges), .sl false 4 (enS false a.Net.Links), .sl false 3 (enS false a.Cards)], [.int .i64 left]] = some (o6 a left).2 := by
  refine (r6 a left _).trans ?_
  show _ = (some ([[.int .i64 (szR (Fabric.wt a) left)]], []) : Option (List Row × List Row))
  replace hpre : (decide (0 ≤ left) && (decide (left ≤ 1048576) && Fabric.big a)) = true := hpre
  simp only [Bool.and_eq_true, decide_eq_true_eq] at hpre
  obtain ⟨h0, h1, h2⟩ := hpre
  unfold Fabric.big at h2
  try simp only [Bool.and_eq_true] at h2
  unfold Fabric.wt
  have p0 : 0 ≤ Net.wt a.Net := by exact Net.wt_pos a.Net
  have p1 : 0 ≤ ((a.Cards.length : Int) + cntS Card.wt a.Cards) := by have := cntS_nonneg (n := Card.wt) Card.wt_pos a.Cards; omega
  have g0 : decide (0 ≤ left) = true := decide_eq_true (by omega)
  have f0 : decide (left ≤ 1048576) = true := decide_eq_true (by omega)
  rcases szR_cases (Net.wt a.Net) (left) (by omega) with ⟨a0, b0, c0⟩ | ⟨a0, b0, c0⟩
  case inr =>
    rw [b0] at c0
    simp only [g0, f0, b0, c0, h2, Int.ofNat_eq_natCast, isS_enS, deS_enS, cond_true, cond_false, Bool.and_self, Bool.and_true, Bool.true_and]
    try rw [szR_gt (by omega)]
    try rfl
  rw [b0] at c0
  have g1 : decide (0 ≤ left - Net.wt a.Net) = true := decide_eq_true (by omega)
  have f1 : decide (left - Net.wt a.Net ≤ 1048576) = true := decide_eq_true (by omega)
  rcases szR_cases (((a.Cards.length : Int) + cntS Card.wt a.Cards)) (left - Net.wt a.Net) (by omega) with ⟨a1, b1, c1⟩ | ⟨a1, b1, c1⟩
  case inr =>
    rw [b1] at c1
    simp only [g0, f0, b0, c0, g1, f1, b1, c1, h2, Int.ofNat_eq_natCast, isS_enS, deS_enS, cond_true, cond_false, Bool.and_self, Bool.and_true, Bool.true_and]
    try rw [szR_gt (by omega)]
    try rfl
  rw [b1] at c1
  simp only [g0, f0, b0, c0, g1, f1, b1, c1, h2, Int.ofNat_eq_natCast, isS_enS, deS_enS, cond_true, cond_false, Bool.and_self, Bool.and_true, Bool.true_and]
  try rw [szR_le (by omega)]
  try rfl
  try (refine congrArg (fun z => (some ([[D.int IntKind.i64 z]], []) : Option (List Row × List Row))) ?_; omega)
theorem s6 : SoundAt Go.Proofs.Try.prog Hx 6 c6 := soundAt_of T32_sound mixed func6 (by kernel_rfl) (by
  intro rows r h
  unfold c6 at h
  split at h
  · rename_i a_Net_Bridges a_Net_Links a_Cards left
    obtain ⟨hp, hr⟩ := Prod.mk.inj (Option.some.inj h)
    subst hr
    simp only [Bool.and_eq_true] at hp
    obtain ⟨⟨⟨hs0, hs1⟩, hs2⟩, hp⟩ := hp
    obtain ⟨xs0, rfl⟩ := isS_ex hs0
    obtain ⟨xs1, rfl⟩ := isS_ex hs1
    obtain ⟨xs2, rfl⟩ := isS_ex hs2
    simp only [deS_enS] at hp ⊢
    exact ⟨_, m6 ⟨⟨xs0, xs1⟩, xs2⟩ left hp⟩
  · cases h)
def T6 : Table := (6, c6) :: T32
theorem T6_sound : Table.Sound Go.Proofs.Try.prog Hx T6 := Table.sound_cons s6 T32_sound
def o105 (a : Vec) : Bool × List Row × List Row := (true, [[.int .i64 (a).Root, .int .i64 (a).Cost, .int .i64 (a).Bridge, .int .i64 (a).Port]], [])
def c105 : Contract
  | [[.int .i64 a_Root, .int .i64 a_Cost, .int .i64 a_Bridge, .int .i64 a_Port]] => some ((o105 ⟨a_Root, a_Cost, a_Bridge, a_Port⟩).1, (o105 ⟨a_Root, a_Cost, a_Bridge, a_Port⟩).2.1, (o105 ⟨a_Root, a_Cost, a_Bridge, a_Port⟩).2.2)
  | _ => none

theorem r105 (a : Vec) (n : Nat) : evFn ⟨prog, Hx, 105⟩ T6.call n f105 [[.int .i64 a.Root, .int .i64 a.Cost, .int .i64 a.Bridge, .int .i64 a.Port]] = some ([[D.int i64 (Vec.Root a), D.int i64 (Vec.Cost a), D.int i64 (Vec.Bridge a), D.int i64 (Vec.Port a)]], []) := by kernel_rfl
theorem m105 (a : Vec) (hpre : (o105 a).1 = true) : evFn ⟨Go.Proofs.Try.prog, Hx, 105⟩ T6.call 0 f105 [[.int .i64 a.Root, .int .i64 a.Cost, .int .i64 a.Bridge, .int .i64 a.Port]] = some (o105 a).2 := by
  refine (r105 a _).trans ?_
  show _ = (some ([[.int .i64 (a).Root, .int .i64 (a).Cost, .int .i64 (a).Bridge, .int .i64 (a).Port]], []) : Option (List Row × List Row))
  replace hpre : (true) = true := hpre
  rfl
theorem s105 : SoundAt Go.Proofs.Try.prog Hx 105 c105 := soundAt_of T6_sound mixed func105 (by kernel_rfl) (by
  intro rows r h
  unfold c105 at h
  split at h
  · rename_i a_Root a_Cost a_Bridge a_Port
    obtain ⟨hp, hr⟩ := Prod.mk.inj (Option.some.inj h)
    subst hr
    exact ⟨_, m105 ⟨a_Root, a_Cost, a_Bridge, a_Port⟩ hp⟩
  · cases h)
def T105 : Table := (105, c105) :: T6
theorem T105_sound : Table.Sound Go.Proofs.Try.prog Hx T105 := Table.sound_cons s105 T6_sound
def o170 (a : Port) : Bool × List Row × List Row := (true, [[.bool (a).Up, .bool (a).Has, .int .i64 (a).Vec.Root, .int .i64 (a).Vec.Cost, .int .i64 (a).Vec.Bridge, .int .i64 (a).Vec.Port, .int .i64 (a).Hops, .int .i64 (a).Left, .int .i64 (a).Role, .int .i64 (a).Wait, .bool (a).Open]], [])
def c170 : Contract
  | [[.bool a_Up, .bool a_Has, .int .i64 a_Vec_Root, .int .i64 a_Vec_Cost, .int .i64 a_Vec_Bridge, .int .i64 a_Vec_Port, .int .i64 a_Hops, .int .i64 a_Left, .int .i64 a_Role, .int .i64 a_Wait, .bool a_Open]] => some ((o170 ⟨a_Up, a_Has, ⟨a_Vec_Root, a_Vec_Cost, a_Vec_Bridge, a_Vec_Port⟩, a_Hops, a_Left, a_Role, a_Wait, a_Open⟩).1, (o170 ⟨a_Up, a_Has, ⟨a_Vec_Root, a_Vec_Cost, a_Vec_Bridge, a_Vec_Port⟩, a_Hops, a_Left, a_Role, a_Wait, a_Open⟩).2.1, (o170 ⟨a_Up, a_Has, ⟨a_Vec_Root, a_Vec_Cost, a_Vec_Bridge, a_Vec_Port⟩, a_Hops, a_Left, a_Role, a_Wait, a_Open⟩).2.2)
  | _ => none

theorem r170 (a : Port) (n : Nat) : evFn ⟨prog, Hx, 170⟩ T105.call n f170 [[.bool a.Up, .bool a.Has, .int .i64 a.Vec.Root, .int .i64 a.Vec.Cost, .int .i64 a.Vec.Bridge, .int .i64 a.Vec.Port, .int .i64 a.Hops, .int .i64 a.Left, .int .i64 a.Role, .int .i64 a.Wait, .bool a.Open]] = some ([[D.bool (Port.Up a), D.bool (Port.Has a), D.int i64 (Vec.Root (Port.Vec a)), D.int i64 (Vec.Cost (Port.Vec a)), D.int i64 (Vec.Bridge (Port.Vec a)), D.int i64 (Vec.Port (Port.Vec a)), D.int i64 (Port.Hops a), D.int i64 (Port.Left a), D.int i64 (Port.Role a), D.int i64 (Port.Wait a), D.bool (Port.Open a)]], []) := by kernel_rfl
theorem m170 (a : Port) (hpre : (o170 a).1 = true) : evFn ⟨Go.Proofs.Try.prog, Hx, 170⟩ T105.call 0 f170 [[.bool a.Up, .bool a.Has, .int .i64 a.Vec.Root, .int .i64 a.Vec.Cost, .int .i64 a.Vec.Bridge, .int .i64 a.Vec.Port, .int .i64 a.Hops, .int .i64 a.Left, .int .i64 a.Role, .int .i64 a.Wait, .bool a.Open]] = some (o170 a).2 := by
  refine (r170 a _).trans ?_
  show _ = (some ([[.bool (a).Up, .bool (a).Has, .int .i64 (a).Vec.Root, .int .i64 (a).Vec.Cost, .int .i64 (a).Vec.Bridge, .int .i64 (a).Vec.Port, .int .i64 (a).Hops, .int .i64 (a).Left, .int .i64 (a).Role, .int .i64 (a).Wait, .bool (a).Open]], []) : Option (List Row × List Row))
  replace hpre : (true) = true := hpre
  rfl
theorem s170 : SoundAt Go.Proofs.Try.prog Hx 170 c170 := soundAt_of T105_sound mixed func170 (by kernel_rfl) (by
  intro rows r h
  unfold c170 at h
  split at h
  · rename_i a_Up a_Has a_Vec_Root a_Vec_Cost a_Vec_Bridge a_Vec_Port a_Hops a_Left a_Role a_Wait a_Open
    obtain ⟨hp, hr⟩ := Prod.mk.inj (Option.some.inj h)
    subst hr
    exact ⟨_, m170 ⟨a_Up, a_Has, ⟨a_Vec_Root, a_Vec_Cost, a_Vec_Bridge, a_Vec_Port⟩, a_Hops, a_Left, a_Role, a_Wait, a_Open⟩ hp⟩
  · cases h)
def T170 : Table := (170, c170) :: T105
theorem T170_sound : Table.Sound Go.Proofs.Try.prog Hx T170 := Table.sound_cons s170 T105_sound
def o134 (a : List Port) : Bool × List Row × List Row := (decide (a.length ≤ 1048576), [[.sl true 11 (enS true (a))]], [])
def c134 : Contract
  | [[.sl false 11 a]] => some (isS Port false a && (o134 (deS Port a)).1, (o134 (deS Port a)).2.1, (o134 (deS Port a)).2.2)
  | _ => none

def k134_0 (n : Nat) : Ex → St → RR := kThen (fun st ↦ runCode (Ctx.mk prog Hx (134)) (Table.call T170) n (codeAt [1, 1, 1] (bodyOf f134)) (Lv.mk 4 [] 4) st (kLeave (Ctx.P (Ctx.mk prog Hx (134))) (List.zip (Array.toList (Go.Func.resultTypes f134)) (Array.toList (Go.Func.results f134))) [] [])) (kLeave (Ctx.P (Ctx.mk prog Hx (134))) (List.zip (Array.toList (Go.Func.resultTypes f134)) (Array.toList (Go.Func.results f134))) [] [])
def k134_1 (n : Nat) : Ex → St → RR := kBlock (0) (k134_0 n)
def S134_0 (a : List Port) (i0 : Int) (es1 : List (List D)) : St := St.mk [V_ [C.d (D.sl false 11 (enS false a))], U_, U_, V_ [C.view 0 0 0 [] 11 none], I_ i0, U_, U_, U_, U_, U_, U_, U_, U_, U_, U_, U_, U_, U_, U_, U_, U_, U_, U_] [Root.mk false 11 es1 0 0 true true false]
def B134_0 (n : Nat) : St → (Ex → St → RR) → RR := runCode (Ctx.mk prog Hx (134)) (Table.call T170) n (codeAt [1, 1, 0, 1, 0, 0] (bodyOf f134)) (Lv.mk 25 [(0, 8)] 4)
def X134_2 (a : List Port) (i0 : Int) (es1 : List (List D)) : St := St.mk [V_ [C.d (D.sl false 11 (enS false a))], U_, U_, V_ [C.view 0 0 0 [] 11 none], I_ i0, U_, U_, U_, I_ i0, V_ [C.d (D.sl false 11 (enS false a))], I_ (ofNat (length (enS false a))), B_ false, U_, U_, U_, U_, U_, U_, U_, U_, U_, U_, U_] [Root.mk false 11 es1 0 0 true true false]
theorem q134_0 (a : List Port) (n : Nat) (i0 : Int) (es1 : List (List D)) (f : St → RR) (K : Ex → St → RR) : B134_0 n (S134_0 a i0 es1) (kThen (fun st ↦ f (St.head 1 25 4194064 st)) K) = bif decide (i0 < ofNat (length (enS false a))) then bif decide (0 ≤ i0) && decide (i0 < ofNat (length (enS false a))) then bif Leaf.fit false Leaf.bool (getD (getD (enS false a) (toNat i0) []) 0 D.dead) && (Leaf.fit false Leaf.bool (getD (getD (enS false a) (toNat i0) []) 1 D.dead) && (Leaf.fit false (Leaf.int i64) (getD (getD (enS false a) (toNat i0) []) 2 D.dead) && (Leaf.fit false (Leaf.int i64) (getD (getD (enS false a) (toNat i0) []) 3 D.dead) && (Leaf.fit false (Leaf.int i64) (getD (getD (enS false a) (toNat i0) []) 4 D.dead) && (Leaf.fit false (Leaf.int i64) (getD (getD (enS false a) (toNat i0) []) 5 D.dead) && (Leaf.fit false (Leaf.int i64) (getD (getD (enS false a) (toNat i0) []) 6 D.dead) && (Leaf.fit false (Leaf.int i64) (getD (getD (enS false a) (toNat i0) []) 7 D.dead) && (Leaf.fit false (Leaf.int i64) (getD (getD (enS false a) (toNat i0) []) 8 D.dead) && (Leaf.fit false (Leaf.int i64) (getD (getD (enS false a) (toNat i0) []) 9 D.dead) && (Leaf.fit false Leaf.bool (getD (getD (enS false a) (toNat i0) []) 10 D.dead) && true)))))))))) then bif decide (0 ≤ i0) && decide (i0 < ofNat (length es1)) then f (S134_0 a (wrap i64 (i0 + 1)) (set es1 (0 + toNat i0) [D.bool (D.flag (getD (getD (enS false a) (toNat i0) []) 0 D.dead)), D.bool (D.flag (getD (getD (enS false a) (toNat i0) []) 1 D.dead)), D.int i64 (D.num (getD (getD (enS false a) (toNat i0) []) 2 D.dead)), D.int i64 (D.num (getD (getD (enS false a) (toNat i0) []) 3 D.dead)), D.int i64 (D.num (getD (getD (enS false a) (toNat i0) []) 4 D.dead)), D.int i64 (D.num (getD (getD (enS false a) (toNat i0) []) 5 D.dead)), D.int i64 (D.num (getD (getD (enS false a) (toNat i0) []) 6 D.dead)), D.int i64 (D.num (getD (getD (enS false a) (toNat i0) []) 7 D.dead)), D.int i64 (D.num (getD (getD (enS false a) (toNat i0) []) 8 D.dead)), D.int i64 (D.num (getD (getD (enS false a) (toNat i0) []) 9 D.dead)), D.bool (D.flag (getD (getD (enS false a) (toNat i0) []) 10 D.dead))])) else none else none else none else K (Ex.exit 0) (X134_2 a i0 es1) := by kernel_rfl
theorem aX134_2 (a : List Port) (n : Nat) (i0 : Int) (es1 : List (List D)) : k134_1 n (Ex.exit 0) (X134_2 a i0 es1) = some ([[D.sl true 11 es1]], []) := by kernel_rfl
theorem r134 (a : List Port) (n : Nat) : evFn ⟨prog, Hx, 134⟩ T170.call n f134 [[.sl false 11 (enS false a)]] = bif decide (0 ≤ ofNat (length (enS false a))) && (decide (ofNat (length (enS false a)) ≤ ofNat (length (enS false a))) && decide (toNat (ofNat (length (enS false a))) * 80 ≤ 140737488355328)) then loopRun (B134_0 n) 1 25 4194064 n (S134_0 a (0) (replicate (toNat (ofNat (length (enS false a)))) [D.bool false, D.bool false, D.int i64 (0), D.int i64 (0), D.int i64 (0), D.int i64 (0), D.int i64 (0), D.int i64 (0), D.int i64 (0), D.int i64 (0), D.bool false])) (k134_1 n) else none := by kernel_rfl
theorem m134 (a : List Port) (hpre : (o134 a).1 = true) : evFn ⟨Go.Proofs.Try.prog, Hx, 134⟩ T170.call (a.length + 1) f134 [[.sl false 11 (enS false a)]] = some (o134 a).2 := by
  refine (r134 a _).trans ?_
  show _ = (some ([[.sl true 11 (enS true (a))]], []) : Option (List Row × List Row))
  replace hpre : (decide (a.length ≤ 1048576)) = true := hpre
  have hlen : a.length ≤ 1048576 := of_decide_eq_true hpre
  rw [enS_length, make_ok (by omega), cond_true, toNat_of]
  refine (congrArg (fun z => loopRun _ _ _ _ _ (S134_0 a 0 z) _) (enS_rep true a.length (En.nil : Port))).trans ?_
  refine loop_list (xs := a) (fun i (ys : List Port) => S134_0 a (Int.ofNat i) (enS true ys)) (fun i ys => ys.length = a.length ∧ ys.take i = a.take i) (fun _ _ _ => some ([[D.sl true 11 (enS true a)]], [])) ?_ ?_ (a.length + 1) _ (by omega) ⟨List.length_replicate .., rfl⟩
  · rintro ys ⟨h2, h3⟩ f
    refine (q134_0 a _ _ _ f _).trans ?_
    simp only [enS_length, dec_lt, Nat.lt_irrefl, decide_false, cond_false]
    refine (aX134_2 a _ _ _).trans ?_
    rw [List.take_length, ← h2, List.take_length] at h3
    subst h3
    rfl
  · rintro i ys hi ⟨h2, h3⟩ f hf
    refine (q134_0 a _ _ _ f _).trans ?_
    simp only [enS_length, toNat_of, dec_lt, dec_ge, enS_get _ hi, h2, hi, wrap_succ (show i < 4611686018427387904 by omega), Nat.zero_add, decide_true, cond_true, Bool.and_self]
    exact (congrArg f (congrArg (S134_0 a _) (enS_set true ys i a[i]))).trans (hf (ys.set i a[i]) ⟨by rw [List.length_set]; exact h2, take_set_succ hi h2 h3⟩)
theorem s134 : SoundAt Go.Proofs.Try.prog Hx 134 c134 := soundAt_of T170_sound mixed func134 (by kernel_rfl) (by
  intro rows r h
  unfold c134 at h
  split at h
  · rename_i a
    obtain ⟨hp, hr⟩ := Prod.mk.inj (Option.some.inj h)
    subst hr
    simp only [Bool.and_eq_true] at hp
    obtain ⟨hs0, hp⟩ := hp
    obtain ⟨xs0, rfl⟩ := isS_ex hs0
    simp only [deS_enS] at hp ⊢
    exact ⟨_, m134 xs0 hp⟩
  · cases h)
def T134 : Table := (134, c134) :: T170
theorem T134_sound : Table.Sound Go.Proofs.Try.prog Hx T134 := Table.sound_cons s134 T170_sound
def o84 (a : Bridge) : Bool × List Row × List Row := (Bridge.small a, [[.int .i64 (a).Id, .sl true 11 (enS true (a).Ports)]], [])
def c84 : Contract
  | [[.int .i64 a_Id, .sl false 11 a_Ports]] => some (isS Port false a_Ports && (o84 ⟨a_Id, (deS Port a_Ports)⟩).1, (o84 ⟨a_Id, (deS Port a_Ports)⟩).2.1, (o84 ⟨a_Id, (deS Port a_Ports)⟩).2.2)
  | _ => none

theorem r84 (a : Bridge) (n : Nat) : evFn ⟨prog, Hx, 84⟩ T134.call n f84 [[.int .i64 a.Id, .sl false 11 (enS false a.Ports)]] = bif isS Port false (enS false (Bridge.Ports a)) && decide (length (deS Port (enS false (Bridge.Ports a))) ≤ 1048576) then some ([[D.int i64 (Bridge.Id a), D.sl true 11 (enS true (deS Port (enS false (Bridge.Ports a))))]], []) else none := by kernel_rfl
theorem m84 (a : Bridge) (hpre : (o84 a).1 = true) : evFn ⟨Go.Proofs.Try.prog, Hx, 84⟩ T134.call 0 f84 [[.int .i64 a.Id, .sl false 11 (enS false a.Ports)]] = some (o84 a).2 := by
  refine (r84 a _).trans ?_
  show _ = (some ([[.int .i64 (a).Id, .sl true 11 (enS true (a).Ports)]], []) : Option (List Row × List Row))
  replace hpre : (Bridge.small a) = true := hpre
  unfold Bridge.small at hpre
  try simp only [Bool.and_eq_true] at hpre
  simp only [hpre, isS_enS, deS_enS, cond_true, Bool.and_self, Bool.and_true, Bool.true_and]
  try rfl
theorem s84 : SoundAt Go.Proofs.Try.prog Hx 84 c84 := soundAt_of T134_sound mixed func84 (by kernel_rfl) (by
  intro rows r h
  unfold c84 at h
  split at h
  · rename_i a_Id a_Ports
    obtain ⟨hp, hr⟩ := Prod.mk.inj (Option.some.inj h)
    subst hr
    simp only [Bool.and_eq_true] at hp
    obtain ⟨hs0, hp⟩ := hp
    obtain ⟨xs0, rfl⟩ := isS_ex hs0
    simp only [deS_enS] at hp ⊢
    exact ⟨_, m84 ⟨a_Id, xs0⟩ hp⟩
  · cases h)
def T84 : Table := (84, c84) :: T134
theorem T84_sound : Table.Sound Go.Proofs.Try.prog Hx T84 := Table.sound_cons s84 T134_sound
def o45 (a : List Bridge) : Bool × List Row × List Row := ((decide (a.length ≤ 1048576) && a.all Bridge.small), [[.sl true 2 (enS true (a))]], [])
def c45 : Contract
  | [[.sl false 2 a]] => some (isS Bridge false a && (o45 (deS Bridge a)).1, (o45 (deS Bridge a)).2.1, (o45 (deS Bridge a)).2.2)
  | _ => none

def k45_0 (n : Nat) : Ex → St → RR := kThen (fun st ↦ runCode (Ctx.mk prog Hx (45)) (Table.call T84) n (codeAt [1, 1, 1] (bodyOf f45)) (Lv.mk 4 [] 4) st (kLeave (Ctx.P (Ctx.mk prog Hx (45))) (List.zip (Array.toList (Go.Func.resultTypes f45)) (Array.toList (Go.Func.results f45))) [] [])) (kLeave (Ctx.P (Ctx.mk prog Hx (45))) (List.zip (Array.toList (Go.Func.resultTypes f45)) (Array.toList (Go.Func.results f45))) [] [])
def k45_1 (n : Nat) : Ex → St → RR := kBlock (0) (k45_0 n)
def S45_0 (a : List Bridge) (i0 : Int) (es1 : List (List D)) : St := St.mk [V_ [C.d (D.sl false 2 (enS false a))], U_, U_, V_ [C.view 0 0 0 [] 2 none], I_ i0, U_, U_, U_, U_, U_, U_, U_, U_, U_, U_, U_, U_, U_, U_, U_, U_, U_, U_] [Root.mk false 2 es1 0 0 true true false]
def B45_0 (n : Nat) : St → (Ex → St → RR) → RR := runCode (Ctx.mk prog Hx (45)) (Table.call T84) n (codeAt [1, 1, 0, 1, 0, 0] (bodyOf f45)) (Lv.mk 25 [(0, 8)] 4)
def X45_2 (a : List Bridge) (i0 : Int) (es1 : List (List D)) : St := St.mk [V_ [C.d (D.sl false 2 (enS false a))], U_, U_, V_ [C.view 0 0 0 [] 2 none], I_ i0, U_, U_, U_, I_ i0, V_ [C.d (D.sl false 2 (enS false a))], I_ (ofNat (length (enS false a))), B_ false, U_, U_, U_, U_, U_, U_, U_, U_, U_, U_, U_] [Root.mk false 2 es1 0 0 true true false]
theorem q45_0 (a : List Bridge) (n : Nat) (i0 : Int) (es1 : List (List D)) (f : St → RR) (K : Ex → St → RR) : B45_0 n (S45_0 a i0 es1) (kThen (fun st ↦ f (St.head 1 25 4194064 st)) K) = bif decide (i0 < ofNat (length (enS false a))) then bif decide (0 ≤ i0) && decide (i0 < ofNat (length (enS false a))) then bif Leaf.fit false (Leaf.int i64) (getD (getD (enS false a) (toNat i0) []) 0 D.dead) && (Leaf.fit false (Leaf.sl 11 true) (getD (getD (enS false a) (toNat i0) []) 1 D.dead) && true) then bif isS Port false (D.rows (getD (getD (enS false a) (toNat i0) []) 1 D.dead)) && Bridge.small (Bridge.mk (D.num (getD (getD (enS false a) (toNat i0) []) 0 D.dead)) (deS Port (D.rows (getD (getD (enS false a) (toNat i0) []) 1 D.dead)))) then bif decide (0 ≤ i0) && decide (i0 < ofNat (length es1)) then f (S45_0 a (wrap i64 (i0 + 1)) (set es1 (0 + toNat i0) [D.int i64 (D.num (getD (getD (enS false a) (toNat i0) []) 0 D.dead)), D.sl true 11 (enS true (deS Port (D.rows (getD (getD (enS false a) (toNat i0) []) 1 D.dead))))])) else none else none else none else none else K (Ex.exit 0) (X45_2 a i0 es1) := by kernel_rfl
theorem aX45_2 (a : List Bridge) (n : Nat) (i0 : Int) (es1 : List (List D)) : k45_1 n (Ex.exit 0) (X45_2 a i0 es1) = some ([[D.sl true 2 es1]], []) := by kernel_rfl
theorem r45 (a : List Bridge) (n : Nat) : evFn ⟨prog, Hx, 45⟩ T84.call n f45 [[.sl false 2 (enS false a)]] = bif decide (0 ≤ ofNat (length (enS false a))) && (decide (ofNat (length (enS false a)) ≤ ofNat (length (enS false a))) && decide (toNat (ofNat (length (enS false a))) * 32 ≤ 140737488355328)) then loopRun (B45_0 n) 1 25 4194064 n (S45_0 a (0) (replicate (toNat (ofNat (length (enS false a)))) [D.int i64 (0), D.sl true 11 []])) (k45_1 n) else none := by kernel_rfl
theorem m45 (a : List Bridge) (hpre : (o45 a).1 = true) : evFn ⟨Go.Proofs.Try.prog, Hx, 45⟩ T84.call (a.length + 1) f45 [[.sl false 2 (enS false a)]] = some (o45 a).2 := by
  refine (r45 a _).trans ?_
  show _ = (some ([[.sl true 2 (enS true (a))]], []) : Option (List Row × List Row))
  replace hpre : ((decide (a.length ≤ 1048576) && a.all Bridge.small)) = true := hpre
  rw [Bool.and_eq_true] at hpre
  have hlen := of_decide_eq_true hpre.1
  rw [enS_length, make_ok (by omega), cond_true, toNat_of]
  refine (congrArg (fun z => loopRun _ _ _ _ _ (S45_0 a 0 z) _) (enS_rep true a.length (En.nil : Bridge))).trans ?_
  refine loop_list (xs := a) (fun i (ys : List Bridge) => S45_0 a (Int.ofNat i) (enS true ys)) (fun i ys => ys.length = a.length ∧ ys.take i = a.take i) (fun _ _ _ => some ([[D.sl true 2 (enS true a)]], [])) ?_ ?_ (a.length + 1) _ (by omega) ⟨List.length_replicate .., rfl⟩
  · rintro ys ⟨h2, h3⟩ f
    refine (q45_0 a _ _ _ f _).trans ?_
    rw [end_lt, cond_false]
    refine (aX45_2 a _ _ _).trans ?_
    rw [List.take_length, ← h2, List.take_length] at h3
    subst h3
    rfl
  · rintro i ys hi ⟨h2, h3⟩ f hf
    refine (q45_0 a _ _ _ f _).trans ?_
    have hel := List.all_eq_true.1 hpre.2 _ (List.getElem_mem hi)
    simp only [enS_length, toNat_of, dec_lt, dec_ge, decide_true, decide_false, cond_true, cond_false, Bool.and_self, Bool.and_true, Bool.true_and, Bool.not_true, Bool.not_false, Nat.lt_irrefl, Nat.zero_add, isS_enS, deS_enS, isS_nil, deS_nil, List.nil_append, lendRows_enS, deepRows_enS, noSl_u8, En.enc, List.getD_cons_zero, List.getD_cons_succ, D.num, D.flag, D.text, D.rows, Leaf.fit, List.append_eq, TReader.eta, Frame.eta, Heard.eta, Member.eta, Card.eta, Out1.eta, Vec.eta, Port.eta, Bridge.eta, In.eta, Out.eta, Link.eta, Net.eta, TEnd.eta, Minder.eta, Reg.eta, Wire.eta, Box.eta, Deed.eta, Bpdu.eta, Visit.eta, Fabric.eta, Got.eta, TRide.eta, Up.eta, Copy.eta, Bucket.eta, Snap.eta, TL9Cur.eta, TL21In.eta, enS_get _ hi, hi, wrap_succ (show i < 4611686018427387904 by omega), h2, hel]
    exact (congrArg f (congrArg (S45_0 a _) (enS_set true ys i a[i]))).trans (hf (ys.set i a[i]) ⟨by rw [List.length_set]; exact h2, take_set_succ hi h2 h3⟩)
theorem s45 : SoundAt Go.Proofs.Try.prog Hx 45 c45 := soundAt_of T84_sound mixed func45 (by kernel_rfl) (by
  intro rows r h
  unfold c45 at h
  split at h
  · rename_i a
    obtain ⟨hp, hr⟩ := Prod.mk.inj (Option.some.inj h)
    subst hr
    simp only [Bool.and_eq_true] at hp
    obtain ⟨hs0, hp⟩ := hp
    obtain ⟨xs0, rfl⟩ := isS_ex hs0
    simp only [deS_enS] at hp ⊢
    exact ⟨_, m45 xs0 hp⟩
  · cases h)
def T45 : Table := (45, c45) :: T84
theorem T45_sound : Table.Sound Go.Proofs.Try.prog Hx T45 := Table.sound_cons s45 T84_sound
def o85 (a : Link) : Bool × List Row × List Row := (true, [[.int .i64 (a).A, .int .i64 (a).P, .int .i64 (a).B, .int .i64 (a).Q]], [])
def c85 : Contract
  | [[.int .i64 a_A, .int .i64 a_P, .int .i64 a_B, .int .i64 a_Q]] => some ((o85 ⟨a_A, a_P, a_B, a_Q⟩).1, (o85 ⟨a_A, a_P, a_B, a_Q⟩).2.1, (o85 ⟨a_A, a_P, a_B, a_Q⟩).2.2)
  | _ => none

theorem r85 (a : Link) (n : Nat) : evFn ⟨prog, Hx, 85⟩ T45.call n f85 [[.int .i64 a.A, .int .i64 a.P, .int .i64 a.B, .int .i64 a.Q]] = some ([[D.int i64 (Link.A a), D.int i64 (Link.P a), D.int i64 (Link.B a), D.int i64 (Link.Q a)]], []) := by kernel_rfl
theorem m85 (a : Link) (hpre : (o85 a).1 = true) : evFn ⟨Go.Proofs.Try.prog, Hx, 85⟩ T45.call 0 f85 [[.int .i64 a.A, .int .i64 a.P, .int .i64 a.B, .int .i64 a.Q]] = some (o85 a).2 := by
  refine (r85 a _).trans ?_
  show _ = (some ([[.int .i64 (a).A, .int .i64 (a).P, .int .i64 (a).B, .int .i64 (a).Q]], []) : Option (List Row × List Row))
  replace hpre : (true) = true := hpre
  rfl
theorem s85 : SoundAt Go.Proofs.Try.prog Hx 85 c85 := soundAt_of T45_sound mixed func85 (by kernel_rfl) (by
  intro rows r h
  unfold c85 at h
  split at h
  · rename_i a_A a_P a_B a_Q
    obtain ⟨hp, hr⟩ := Prod.mk.inj (Option.some.inj h)
    subst hr
    exact ⟨_, m85 ⟨a_A, a_P, a_B, a_Q⟩ hp⟩
  · cases h)
def T85 : Table := (85, c85) :: T45
theorem T85_sound : Table.Sound Go.Proofs.Try.prog Hx T85 := Table.sound_cons s85 T45_sound
def o46 (a : List Link) : Bool × List Row × List Row := (decide (a.length ≤ 1048576), [[.sl true 4 (enS true (a))]], [])
def c46 : Contract
  | [[.sl false 4 a]] => some (isS Link false a && (o46 (deS Link a)).1, (o46 (deS Link a)).2.1, (o46 (deS Link a)).2.2)
  | _ => none

def k46_0 (n : Nat) : Ex → St → RR := kThen (fun st ↦ runCode (Ctx.mk prog Hx (46)) (Table.call T85) n (codeAt [1, 1, 1] (bodyOf f46)) (Lv.mk 4 [] 4) st (kLeave (Ctx.P (Ctx.mk prog Hx (46))) (List.zip (Array.toList (Go.Func.resultTypes f46)) (Array.toList (Go.Func.results f46))) [] [])) (kLeave (Ctx.P (Ctx.mk prog Hx (46))) (List.zip (Array.toList (Go.Func.resultTypes f46)) (Array.toList (Go.Func.results f46))) [] [])
def k46_1 (n : Nat) : Ex → St → RR := kBlock (0) (k46_0 n)
def S46_0 (a : List Link) (i0 : Int) (es1 : List (List D)) : St := St.mk [V_ [C.d (D.sl false 4 (enS false a))], U_, U_, V_ [C.view 0 0 0 [] 4 none], I_ i0, U_, U_, U_, U_, U_, U_, U_, U_, U_, U_, U_, U_, U_, U_, U_, U_, U_, U_] [Root.mk false 4 es1 0 0 true true false]
def B46_0 (n : Nat) : St → (Ex → St → RR) → RR := runCode (Ctx.mk prog Hx (46)) (Table.call T85) n (codeAt [1, 1, 0, 1, 0, 0] (bodyOf f46)) (Lv.mk 25 [(0, 8)] 4)
def X46_2 (a : List Link) (i0 : Int) (es1 : List (List D)) : St := St.mk [V_ [C.d (D.sl false 4 (enS false a))], U_, U_, V_ [C.view 0 0 0 [] 4 none], I_ i0, U_, U_, U_, I_ i0, V_ [C.d (D.sl false 4 (enS false a))], I_ (ofNat (length (enS false a))), B_ false, U_, U_, U_, U_, U_, U_, U_, U_, U_, U_, U_] [Root.mk false 4 es1 0 0 true true false]
theorem q46_0 (a : List Link) (n : Nat) (i0 : Int) (es1 : List (List D)) (f : St → RR) (K : Ex → St → RR) : B46_0 n (S46_0 a i0 es1) (kThen (fun st ↦ f (St.head 1 25 4194064 st)) K) = bif decide (i0 < ofNat (length (enS false a))) then bif decide (0 ≤ i0) && decide (i0 < ofNat (length (enS false a))) then bif Leaf.fit false (Leaf.int i64) (getD (getD (enS false a) (toNat i0) []) 0 D.dead) && (Leaf.fit false (Leaf.int i64) (getD (getD (enS false a) (toNat i0) []) 1 D.dead) && (Leaf.fit false (Leaf.int i64) (getD (getD (enS false a) (toNat i0) []) 2 D.dead) && (Leaf.fit false (Leaf.int i64) (getD (getD (enS false a) (toNat i0) []) 3 D.dead) && true))) then bif decide (0 ≤ i0) && decide (i0 < ofNat (length es1)) then f (S46_0 a (wrap i64 (i0 + 1)) (set es1 (0 + toNat i0) [D.int i64 (D.num (getD (getD (enS false a) (toNat i0) []) 0 D.dead)), D.int i64 (D.num (getD (getD (enS false a) (toNat i0) []) 1 D.dead)), D.int i64 (D.num (getD (getD (enS false a) (toNat i0) []) 2 D.dead)), D.int i64 (D.num (getD (getD (enS false a) (toNat i0) []) 3 D.dead))])) else none else none else none else K (Ex.exit 0) (X46_2 a i0 es1) := by kernel_rfl
theorem aX46_2 (a : List Link) (n : Nat) (i0 : Int) (es1 : List (List D)) : k46_1 n (Ex.exit 0) (X46_2 a i0 es1) = some ([[D.sl true 4 es1]], []) := by kernel_rfl
theorem r46 (a : List Link) (n : Nat) : evFn ⟨prog, Hx, 46⟩ T85.call n f46 [[.sl false 4 (enS false a)]] = bif decide (0 ≤ ofNat (length (enS false a))) && (decide (ofNat (length (enS false a)) ≤ ofNat (length (enS false a))) && decide (toNat (ofNat (length (enS false a))) * 32 ≤ 140737488355328)) then loopRun (B46_0 n) 1 25 4194064 n (S46_0 a (0) (replicate (toNat (ofNat (length (enS false a)))) [D.int i64 (0), D.int i64 (0), D.int i64 (0), D.int i64 (0)])) (k46_1 n) else none := by kernel_rfl
theorem m46 (a : List Link) (hpre : (o46 a).1 = true) : evFn ⟨Go.Proofs.Try.prog, Hx, 46⟩ T85.call (a.length + 1) f46 [[.sl false 4 (enS false a)]] = some (o46 a).2 := by
  refine (r46 a _).trans ?_
  show _ = (some ([[.sl true 4 (enS true (a))]], []) : Option (List Row × List Row))
  replace hpre : (decide (a.length ≤ 1048576)) = true := hpre
  have hlen : a.length ≤ 1048576 := of_decide_eq_true hpre
  rw [enS_length, make_ok (by omega), cond_true, toNat_of]
  refine (congrArg (fun z => loopRun _ _ _ _ _ (S46_0 a 0 z) _) (enS_rep true a.length (En.nil : Link))).trans ?_
  refine loop_list (xs := a) (fun i (ys : List Link) => S46_0 a (Int.ofNat i) (enS true ys)) (fun i ys => ys.length = a.length ∧ ys.take i = a.take i) (fun _ _ _ => some ([[D.sl true 4 (enS true a)]], [])) ?_ ?_ (a.length + 1) _ (by omega) ⟨List.length_replicate .., rfl⟩
  · rintro ys ⟨h2, h3⟩ f
    refine (q46_0 a _ _ _ f _).trans ?_
    simp only [enS_length, dec_lt, Nat.lt_irrefl, decide_false, cond_false]
    refine (aX46_2 a _ _ _).trans ?_
    rw [List.take_length, ← h2, List.take_length] at h3
    subst h3
    rfl
  · rintro i ys hi ⟨h2, h3⟩ f hf
    refine (q46_0 a _ _ _ f _).trans ?_
    simp only [enS_length, toNat_of, dec_lt, dec_ge, enS_get _ hi, h2, hi, wrap_succ (show i < 4611686018427387904 by omega), Nat.zero_add, decide_true, cond_true, Bool.and_self]
    exact (congrArg f (congrArg (S46_0 a _) (enS_set true ys i a[i]))).trans (hf (ys.set i a[i]) ⟨by rw [List.length_set]; exact h2, take_set_succ hi h2 h3⟩)
theorem s46 : SoundAt Go.Proofs.Try.prog Hx 46 c46 := soundAt_of T85_sound mixed func46 (by kernel_rfl) (by
  intro rows r h
  unfold c46 at h
  split at h
  · rename_i a
    obtain ⟨hp, hr⟩ := Prod.mk.inj (Option.some.inj h)
    subst hr
    simp only [Bool.and_eq_true] at hp
    obtain ⟨hs0, hp⟩ := hp
    obtain ⟨xs0, rfl⟩ := isS_ex hs0
    simp only [deS_enS] at hp ⊢
    exact ⟨_, m46 xs0 hp⟩
  · cases h)
def T46 : Table := (46, c46) :: T85
theorem T46_sound : Table.Sound Go.Proofs.Try.prog Hx T46 := Table.sound_cons s46 T85_sound
def o13 (a : Net) : Bool × List Row × List Row := (Net.small a, [[.sl true 2 (enS true (a).Bridges), .sl true 4 (enS true (a).Links)]], [])
def c13 : Contract
  | [[.sl false 2 a_Bridges, .sl false 4 a_Links]] => some (isS Bridge false a_Bridges && isS Link false a_Links && (o13 ⟨(deS Bridge a_Bridges), (deS Link a_Links)⟩).1, (o13 ⟨(deS Bridge a_Bridges), (deS Link a_Links)⟩).2.1, (o13 ⟨(deS Bridge a_Bridges), (deS Link a_Links)⟩).2.2)
  | _ => none

theorem r13 (a : Net) (n : Nat) : evFn ⟨prog, Hx, 13⟩ T46.call n f13 [[.sl false 2 (enS false a.Bridges), .sl false 4 (enS false a.Links)]] = bif isS Bridge false (enS false (Net.Bridges a)) && (decide (length (deS Bridge (enS false (Net.Bridges a))) ≤ 1048576) && all (deS Bridge (enS false (Net.Bridges a))) Bridge.small) then bif isS Link false (enS false (Net.Links a)) && decide (length (deS Link (enS false (Net.Links a))) ≤ 1048576) then some ([[D.sl true 2 (enS true (deS Bridge (enS false (Net.Bridges a)))), D.sl true 4 (enS true (deS Link (enS false (Net.Links a))))]], []) else none else none := by kernel_rfl
theorem m13 (a : Net) (hpre : (o13 a).1 = true) : evFn ⟨Go.Proofs.Try.prog, Hx, 13⟩ T46.call 0 f13 [[.sl false 2 (enS false a.Bridges), .sl false 4 (enS false a.Links)]] = some (o13 a).2 := by
  refine (r13 a _).trans ?_
  show _ = (some ([[.sl true 2 (enS true (a).Bridges), .sl true 4 (enS true (a).Links)]], []) : Option (List Row × List Row))
  replace hpre : (Net.small a) = true := hpre
  unfold Net.small at hpre
  try simp only [Bool.and_eq_true] at hpre
  simp only [hpre, isS_enS, deS_enS, cond_true, Bool.and_self, Bool.and_true, Bool.true_and]
  try rfl
theorem s13 : SoundAt Go.Proofs.Try.prog Hx 13 c13 := soundAt_of T46_sound mixed func13 (by kernel_rfl) (by
  intro rows r h
  unfold c13 at h
  split at h
  · rename_i a_Bridges a_Links
    obtain ⟨hp, hr⟩ := Prod.mk.inj (Option.some.inj h)
    subst hr
    simp only [Bool.and_eq_true] at hp
    obtain ⟨⟨hs0, hs1⟩, hp⟩ := hp
    obtain ⟨xs0, rfl⟩ := isS_ex hs0
    obtain ⟨xs1, rfl⟩ := isS_ex hs1
    simp only [deS_enS] at hp ⊢
    exact ⟨_, m13 ⟨xs0, xs1⟩ hp⟩
  · cases h)
def T13 : Table := (13, c13) :: T46
theorem T13_sound : Table.Sound Go.Proofs.Try.prog Hx T13 := Table.sound_cons s13 T46_sound
def o120 (a : List Bool) : Bool × List Row × List Row := (decide (a.length ≤ 1048576), [[.sl true 1 (enS true (a))]], [])
def c120 : Contract
  | [[.sl false 1 a]] => some (isS Bool false a && (o120 (deS Bool a)).1, (o120 (deS Bool a)).2.1, (o120 (deS Bool a)).2.2)
  | _ => none

def k120_0 (n : Nat) : Ex → St → RR := kThen (fun st ↦ runCode (Ctx.mk prog Hx (120)) (Table.call T13) n (codeAt [1, 1, 1] (bodyOf f120)) (Lv.mk 4 [] 4) st (kLeave (Ctx.P (Ctx.mk prog Hx (120))) (List.zip (Array.toList (Go.Func.resultTypes f120)) (Array.toList (Go.Func.results f120))) [] [])) (kLeave (Ctx.P (Ctx.mk prog Hx (120))) (List.zip (Array.toList (Go.Func.resultTypes f120)) (Array.toList (Go.Func.results f120))) [] [])
def k120_1 (n : Nat) : Ex → St → RR := kBlock (0) (k120_0 n)
def S120_0 (a : List Bool) (i0 : Int) (es1 : List (List D)) : St := St.mk [V_ [C.d (D.sl false 1 (enS false a))], U_, U_, V_ [C.view 0 0 0 [] 1 none], I_ i0, U_, U_, U_, U_, U_, U_, U_, U_, U_, U_, U_, U_, U_, U_, U_, U_, U_] [Root.mk false 1 es1 0 0 true true false]
def B120_0 (n : Nat) : St → (Ex → St → RR) → RR := runCode (Ctx.mk prog Hx (120)) (Table.call T13) n (codeAt [1, 1, 0, 1, 0, 0] (bodyOf f120)) (Lv.mk 25 [(0, 8)] 4)
def X120_2 (a : List Bool) (i0 : Int) (es1 : List (List D)) : St := St.mk [V_ [C.d (D.sl false 1 (enS false a))], U_, U_, V_ [C.view 0 0 0 [] 1 none], I_ i0, U_, U_, U_, I_ i0, V_ [C.d (D.sl false 1 (enS false a))], I_ (ofNat (length (enS false a))), B_ false, U_, U_, U_, U_, U_, U_, U_, U_, U_, U_] [Root.mk false 1 es1 0 0 true true false]
theorem q120_0 (a : List Bool) (n : Nat) (i0 : Int) (es1 : List (List D)) (f : St → RR) (K : Ex → St → RR) : B120_0 n (S120_0 a i0 es1) (kThen (fun st ↦ f (St.head 1 25 2096912 st)) K) = bif decide (i0 < ofNat (length (enS false a))) then bif decide (0 ≤ i0) && decide (i0 < ofNat (length (enS false a))) then bif Leaf.fit false Leaf.bool (getD (getD (enS false a) (toNat i0) []) 0 D.dead) && true then bif decide (0 ≤ i0) && decide (i0 < ofNat (length es1)) then f (S120_0 a (wrap i64 (i0 + 1)) (set es1 (0 + toNat i0) [D.bool (D.flag (getD (getD (enS false a) (toNat i0) []) 0 D.dead))])) else none else none else none else K (Ex.exit 0) (X120_2 a i0 es1) := by kernel_rfl
theorem aX120_2 (a : List Bool) (n : Nat) (i0 : Int) (es1 : List (List D)) : k120_1 n (Ex.exit 0) (X120_2 a i0 es1) = some ([[D.sl true 1 es1]], []) := by kernel_rfl
theorem r120 (a : List Bool) (n : Nat) : evFn ⟨prog, Hx, 120⟩ T13.call n f120 [[.sl false 1 (enS false a)]] = bif decide (0 ≤ ofNat (length (enS false a))) && (decide (ofNat (length (enS false a)) ≤ ofNat (length (enS false a))) && decide (toNat (ofNat (length (enS false a))) * 1 ≤ 140737488355328)) then loopRun (B120_0 n) 1 25 2096912 n (S120_0 a (0) (replicate (toNat (ofNat (length (enS false a)))) [D.bool false])) (k120_1 n) else none := by kernel_rfl
theorem m120 (a : List Bool) (hpre : (o120 a).1 = true) : evFn ⟨Go.Proofs.Try.prog, Hx, 120⟩ T13.call (a.length + 1) f120 [[.sl false 1 (enS false a)]] = some (o120 a).2 := by
  refine (r120 a _).trans ?_
  show _ = (some ([[.sl true 1 (enS true (a))]], []) : Option (List Row × List Row))
  replace hpre : (decide (a.length ≤ 1048576)) = true := hpre
  have hlen : a.length ≤ 1048576 := of_decide_eq_true hpre
  rw [enS_length, make_ok (by omega), cond_true, toNat_of]
  refine (congrArg (fun z => loopRun _ _ _ _ _ (S120_0 a 0 z) _) (enS_rep true a.length (En.nil : Bool))).trans ?_
  refine loop_list (xs := a) (fun i (ys : List Bool) => S120_0 a (Int.ofNat i) (enS true ys)) (fun i ys => ys.length = a.length ∧ ys.take i = a.take i) (fun _ _ _ => some ([[D.sl true 1 (enS true a)]], [])) ?_ ?_ (a.length + 1) _ (by omega) ⟨List.length_replicate .., rfl⟩
  · rintro ys ⟨h2, h3⟩ f
    refine (q120_0 a _ _ _ f _).trans ?_
    simp only [enS_length, dec_lt, Nat.lt_irrefl, decide_false, cond_false]
    refine (aX120_2 a _ _ _).trans ?_
    rw [List.take_length, ← h2, List.take_length] at h3
    subst h3
    rfl
  · rintro i ys hi ⟨h2, h3⟩ f hf
    refine (q120_0 a _ _ _ f _).trans ?_
    simp only [enS_length, toNat_of, dec_lt, dec_ge, enS_get _ hi, h2, hi, wrap_succ (show i < 4611686018427387904 by omega), Nat.zero_add, decide_true, cond_true, Bool.and_self]
    exact (congrArg f (congrArg (S120_0 a _) (enS_set true ys i a[i]))).trans (hf (ys.set i a[i]) ⟨by rw [List.length_set]; exact h2, take_set_succ hi h2 h3⟩)
theorem s120 : SoundAt Go.Proofs.Try.prog Hx 120 c120 := soundAt_of T13_sound mixed func120 (by kernel_rfl) (by
  intro rows r h
  unfold c120 at h
  split at h
  · rename_i a
    obtain ⟨hp, hr⟩ := Prod.mk.inj (Option.some.inj h)
    subst hr
    simp only [Bool.and_eq_true] at hp
    obtain ⟨hs0, hp⟩ := hp
    obtain ⟨xs0, rfl⟩ := isS_ex hs0
    simp only [deS_enS] at hp ⊢
    exact ⟨_, m120 xs0 hp⟩
  · cases h)
def T120 : Table := (120, c120) :: T13
theorem T120_sound : Table.Sound Go.Proofs.Try.prog Hx T120 := Table.sound_cons s120 T13_sound
def o185 (a : List Int) : Bool × List Row × List Row := (decide (a.length ≤ 1048576), [[.sl true 1 (enS true (a))]], [])
def c185 : Contract
  | [[.sl false 1 a]] => some (isS Int false a && (o185 (deS Int a)).1, (o185 (deS Int a)).2.1, (o185 (deS Int a)).2.2)
  | _ => none

def k185_0 (n : Nat) : Ex → St → RR := kThen (fun st ↦ runCode (Ctx.mk prog Hx (185)) (Table.call T120) n (codeAt [1, 1, 1] (bodyOf f185)) (Lv.mk 4 [] 4) st (kLeave (Ctx.P (Ctx.mk prog Hx (185))) (List.zip (Array.toList (Go.Func.resultTypes f185)) (Array.toList (Go.Func.results f185))) [] [])) (kLeave (Ctx.P (Ctx.mk prog Hx (185))) (List.zip (Array.toList (Go.Func.resultTypes f185)) (Array.toList (Go.Func.results f185))) [] [])
def k185_1 (n : Nat) : Ex → St → RR := kBlock (0) (k185_0 n)
def S185_0 (a : List Int) (i0 : Int) (es1 : List (List D)) : St := St.mk [V_ [C.d (D.sl false 1 (enS false a))], U_, U_, V_ [C.view 0 0 0 [] 1 none], I_ i0, U_, U_, U_, U_, U_, U_, U_, U_, U_, U_, U_, U_, U_, U_, U_, U_, U_] [Root.mk false 1 es1 0 0 true true false]
def B185_0 (n : Nat) : St → (Ex → St → RR) → RR := runCode (Ctx.mk prog Hx (185)) (Table.call T120) n (codeAt [1, 1, 0, 1, 0, 0] (bodyOf f185)) (Lv.mk 25 [(0, 8)] 4)
def X185_2 (a : List Int) (i0 : Int) (es1 : List (List D)) : St := St.mk [V_ [C.d (D.sl false 1 (enS false a))], U_, U_, V_ [C.view 0 0 0 [] 1 none], I_ i0, U_, U_, U_, I_ i0, V_ [C.d (D.sl false 1 (enS false a))], I_ (ofNat (length (enS false a))), B_ false, U_, U_, U_, U_, U_, U_, U_, U_, U_, U_] [Root.mk false 1 es1 0 0 true true false]
theorem q185_0 (a : List Int) (n : Nat) (i0 : Int) (es1 : List (List D)) (f : St → RR) (K : Ex → St → RR) : B185_0 n (S185_0 a i0 es1) (kThen (fun st ↦ f (St.head 1 25 2096912 st)) K) = bif decide (i0 < ofNat (length (enS false a))) then bif decide (0 ≤ i0) && decide (i0 < ofNat (length (enS false a))) then bif Leaf.fit false (Leaf.int i64) (getD (getD (enS false a) (toNat i0) []) 0 D.dead) && true then bif decide (0 ≤ i0) && decide (i0 < ofNat (length es1)) then f (S185_0 a (wrap i64 (i0 + 1)) (set es1 (0 + toNat i0) [D.int i64 (D.num (getD (getD (enS false a) (toNat i0) []) 0 D.dead))])) else none else none else none else K (Ex.exit 0) (X185_2 a i0 es1) := by kernel_rfl
theorem aX185_2 (a : List Int) (n : Nat) (i0 : Int) (es1 : List (List D)) : k185_1 n (Ex.exit 0) (X185_2 a i0 es1) = some ([[D.sl true 1 es1]], []) := by kernel_rfl
theorem r185 (a : List Int) (n : Nat) : evFn ⟨prog, Hx, 185⟩ T120.call n f185 [[.sl false 1 (enS false a)]] = bif decide (0 ≤ ofNat (length (enS false a))) && (decide (ofNat (length (enS false a)) ≤ ofNat (length (enS false a))) && decide (toNat (ofNat (length (enS false a))) * 8 ≤ 140737488355328)) then loopRun (B185_0 n) 1 25 2096912 n (S185_0 a (0) (replicate (toNat (ofNat (length (enS false a)))) [D.int i64 (0)])) (k185_1 n) else none := by kernel_rfl
theorem m185 (a : List Int) (hpre : (o185 a).1 = true) : evFn ⟨Go.Proofs.Try.prog, Hx, 185⟩ T120.call (a.length + 1) f185 [[.sl false 1 (enS false a)]] = some (o185 a).2 := by
  refine (r185 a _).trans ?_
  show _ = (some ([[.sl true 1 (enS true (a))]], []) : Option (List Row × List Row))
  replace hpre : (decide (a.length ≤ 1048576)) = true := hpre
  have hlen : a.length ≤ 1048576 := of_decide_eq_true hpre
  rw [enS_length, make_ok (by omega), cond_true, toNat_of]
  refine (congrArg (fun z => loopRun _ _ _ _ _ (S185_0 a 0 z) _) (enS_rep true a.length (En.nil : Int))).trans ?_
  refine loop_list (xs := a) (fun i (ys : List Int) => S185_0 a (Int.ofNat i) (enS true ys)) (fun i ys => ys.length = a.length ∧ ys.take i = a.take i) (fun _ _ _ => some ([[D.sl true 1 (enS true a)]], [])) ?_ ?_ (a.length + 1) _ (by omega) ⟨List.length_replicate .., rfl⟩
  · rintro ys ⟨h2, h3⟩ f
    refine (q185_0 a _ _ _ f _).trans ?_
    simp only [enS_length, dec_lt, Nat.lt_irrefl, decide_false, cond_false]
    refine (aX185_2 a _ _ _).trans ?_
    rw [List.take_length, ← h2, List.take_length] at h3
    subst h3
    rfl
  · rintro i ys hi ⟨h2, h3⟩ f hf
    refine (q185_0 a _ _ _ f _).trans ?_
    simp only [enS_length, toNat_of, dec_lt, dec_ge, enS_get _ hi, h2, hi, wrap_succ (show i < 4611686018427387904 by omega), Nat.zero_add, decide_true, cond_true, Bool.and_self]
    exact (congrArg f (congrArg (S185_0 a _) (enS_set true ys i a[i]))).trans (hf (ys.set i a[i]) ⟨by rw [List.length_set]; exact h2, take_set_succ hi h2 h3⟩)
theorem s185 : SoundAt Go.Proofs.Try.prog Hx 185 c185 := soundAt_of T120_sound mixed func185 (by kernel_rfl) (by
  intro rows r h
  unfold c185 at h
  split at h
  · rename_i a
    obtain ⟨hp, hr⟩ := Prod.mk.inj (Option.some.inj h)
    subst hr
    simp only [Bool.and_eq_true] at hp
    obtain ⟨hs0, hp⟩ := hp
    obtain ⟨xs0, rfl⟩ := isS_ex hs0
    simp only [deS_enS] at hp ⊢
    exact ⟨_, m185 xs0 hp⟩
  · cases h)
def T185 : Table := (185, c185) :: T120
theorem T185_sound : Table.Sound Go.Proofs.Try.prog Hx T185 := Table.sound_cons s185 T120_sound
def o162 (a : Member) : Bool × List Row × List Row := (Member.small a, [[.int .i64 (a).Own, .sl true 1 (enS true (a).In)]], [])
def c162 : Contract
  | [[.int .i64 a_Own, .sl false 1 a_In]] => some (isS Int false a_In && (o162 ⟨a_Own, (deS Int a_In)⟩).1, (o162 ⟨a_Own, (deS Int a_In)⟩).2.1, (o162 ⟨a_Own, (deS Int a_In)⟩).2.2)
  | _ => none

theorem r162 (a : Member) (n : Nat) : evFn ⟨prog, Hx, 162⟩ T185.call n f162 [[.int .i64 a.Own, .sl false 1 (enS false a.In)]] = bif isS Int false (enS false (Member.In a)) && decide (length (deS Int (enS false (Member.In a))) ≤ 1048576) then some ([[D.int i64 (Member.Own a), D.sl true 1 (enS true (deS Int (enS false (Member.In a))))]], []) else none := by kernel_rfl
theorem m162 (a : Member) (hpre : (o162 a).1 = true) : evFn ⟨Go.Proofs.Try.prog, Hx, 162⟩ T185.call 0 f162 [[.int .i64 a.Own, .sl false 1 (enS false a.In)]] = some (o162 a).2 := by
  refine (r162 a _).trans ?_
  show _ = (some ([[.int .i64 (a).Own, .sl true 1 (enS true (a).In)]], []) : Option (List Row × List Row))
  replace hpre : (Member.small a) = true := hpre
  unfold Member.small at hpre
  try simp only [Bool.and_eq_true] at hpre
  simp only [hpre, isS_enS, deS_enS, cond_true, Bool.and_self, Bool.and_true, Bool.true_and]
  try rfl
theorem s162 : SoundAt Go.Proofs.Try.prog Hx 162 c162 := soundAt_of T185_sound mixed func162 (by kernel_rfl) (by
  intro rows r h
  unfold c162 at h
  split at h
  · rename_i a_Own a_In
    obtain ⟨hp, hr⟩ := Prod.mk.inj (Option.some.inj h)
    subst hr
    simp only [Bool.and_eq_true] at hp
    obtain ⟨hs0, hp⟩ := hp
    obtain ⟨xs0, rfl⟩ := isS_ex hs0
    simp only [deS_enS] at hp ⊢
    exact ⟨_, m162 ⟨a_Own, xs0⟩ hp⟩
  · cases h)
def T162 : Table := (162, c162) :: T185
theorem T162_sound : Table.Sound Go.Proofs.Try.prog Hx T162 := Table.sound_cons s162 T185_sound
def o121 (a : List Member) : Bool × List Row × List Row := ((decide (a.length ≤ 1048576) && a.all Member.small), [[.sl true 2 (enS true (a))]], [])
def c121 : Contract
  | [[.sl false 2 a]] => some (isS Member false a && (o121 (deS Member a)).1, (o121 (deS Member a)).2.1, (o121 (deS Member a)).2.2)
  | _ => none

def k121_0 (n : Nat) : Ex → St → RR := kThen (fun st ↦ runCode (Ctx.mk prog Hx (121)) (Table.call T162) n (codeAt [1, 1, 1] (bodyOf f121)) (Lv.mk 4 [] 4) st (kLeave (Ctx.P (Ctx.mk prog Hx (121))) (List.zip (Array.toList (Go.Func.resultTypes f121)) (Array.toList (Go.Func.results f121))) [] [])) (kLeave (Ctx.P (Ctx.mk prog Hx (121))) (List.zip (Array.toList (Go.Func.resultTypes f121)) (Array.toList (Go.Func.results f121))) [] [])
def k121_1 (n : Nat) : Ex → St → RR := kBlock (0) (k121_0 n)
def S121_0 (a : List Member) (i0 : Int) (es1 : List (List D)) : St := St.mk [V_ [C.d (D.sl false 2 (enS false a))], U_, U_, V_ [C.view 0 0 0 [] 2 none], I_ i0, U_, U_, U_, U_, U_, U_, U_, U_, U_, U_, U_, U_, U_, U_, U_, U_, U_, U_] [Root.mk false 2 es1 0 0 true true false]
def B121_0 (n : Nat) : St → (Ex → St → RR) → RR := runCode (Ctx.mk prog Hx (121)) (Table.call T162) n (codeAt [1, 1, 0, 1, 0, 0] (bodyOf f121)) (Lv.mk 25 [(0, 8)] 4)
def X121_2 (a : List Member) (i0 : Int) (es1 : List (List D)) : St := St.mk [V_ [C.d (D.sl false 2 (enS false a))], U_, U_, V_ [C.view 0 0 0 [] 2 none], I_ i0, U_, U_, U_, I_ i0, V_ [C.d (D.sl false 2 (enS false a))], I_ (ofNat (length (enS false a))), B_ false, U_, U_, U_, U_, U_, U_, U_, U_, U_, U_, U_] [Root.mk false 2 es1 0 0 true true false]
theorem q121_0 (a : List Member) (n : Nat) (i0 : Int) (es1 : List (List D)) (f : St → RR) (K : Ex → St → RR) : B121_0 n (S121_0 a i0 es1) (kThen (fun st ↦ f (St.head 1 25 4194064 st)) K) = bif decide (i0 < ofNat (length (enS false a))) then bif decide (0 ≤ i0) && decide (i0 < ofNat (length (enS false a))) then bif Leaf.fit false (Leaf.int i64) (getD (getD (enS false a) (toNat i0) []) 0 D.dead) && (Leaf.fit false (Leaf.sl 1 true) (getD (getD (enS false a) (toNat i0) []) 1 D.dead) && true) then bif isS Int false (D.rows (getD (getD (enS false a) (toNat i0) []) 1 D.dead)) && Member.small (Member.mk (D.num (getD (getD (enS false a) (toNat i0) []) 0 D.dead)) (deS Int (D.rows (getD (getD (enS false a) (toNat i0) []) 1 D.dead)))) then bif decide (0 ≤ i0) && decide (i0 < ofNat (length es1)) then f (S121_0 a (wrap i64 (i0 + 1)) (set es1 (0 + toNat i0) [D.int i64 (D.num (getD (getD (enS false a) (toNat i0) []) 0 D.dead)), D.sl true 1 (enS true (deS Int (D.rows (getD (getD (enS false a) (toNat i0) []) 1 D.dead))))])) else none else none else none else none else K (Ex.exit 0) (X121_2 a i0 es1) := by kernel_rfl
theorem aX121_2 (a : List Member) (n : Nat) (i0 : Int) (es1 : List (List D)) : k121_1 n (Ex.exit 0) (X121_2 a i0 es1) = some ([[D.sl true 2 es1]], []) := by kernel_rfl
theorem r121 (a : List Member) (n : Nat) : evFn ⟨prog, Hx, 121⟩ T162.call n f121 [[.sl false 2 (enS false a)]] = bif decide (0 ≤ ofNat (length (enS false a))) && (decide (ofNat (length (enS false a)) ≤ ofNat (length (enS false a))) && decide (toNat (ofNat (length (enS false a))) * 32 ≤ 140737488355328)) then loopRun (B121_0 n) 1 25 4194064 n (S121_0 a (0) (replicate (toNat (ofNat (length (enS false a)))) [D.int i64 (0), D.sl true 1 []])) (k121_1 n) else none := by kernel_rfl
theorem m121 (a : List Member) (hpre : (o121 a).1 = true) : evFn ⟨Go.Proofs.Try.prog, Hx, 121⟩ T162.call (a.length + 1) f121 [[.sl false 2 (enS false a)]] = some (o121 a).2 := by
  refine (r121 a _).trans ?_
  show _ = (some ([[.sl true 2 (enS true (a))]], []) : Option (List Row × List Row))
  replace hpre : ((decide (a.length ≤ 1048576) && a.all Member.small)) = true := hpre
  rw [Bool.and_eq_true] at hpre
  have hlen := of_decide_eq_true hpre.1
  rw [enS_length, make_ok (by omega), cond_true, toNat_of]
  refine (congrArg (fun z => loopRun _ _ _ _ _ (S121_0 a 0 z) _) (enS_rep true a.length (En.nil : Member))).trans ?_
  refine loop_list (xs := a) (fun i (ys : List Member) => S121_0 a (Int.ofNat i) (enS true ys)) (fun i ys => ys.length = a.length ∧ ys.take i = a.take i) (fun _ _ _ => some ([[D.sl true 2 (enS true a)]], [])) ?_ ?_ (a.length + 1) _ (by omega) ⟨List.length_replicate .., rfl⟩
  · rintro ys ⟨h2, h3⟩ f
    refine (q121_0 a _ _ _ f _).trans ?_
    rw [end_lt, cond_false]
    refine (aX121_2 a _ _ _).trans ?_
    rw [List.take_length, ← h2, List.take_length] at h3
    subst h3
    rfl
  · rintro i ys hi ⟨h2, h3⟩ f hf
    refine (q121_0 a _ _ _ f _).trans ?_
    have hel := List.all_eq_true.1 hpre.2 _ (List.getElem_mem hi)
    simp only [enS_length, toNat_of, dec_lt, dec_ge, decide_true, decide_false, cond_true, cond_false, Bool.and_self, Bool.and_true, Bool.true_and, Bool.not_true, Bool.not_false, Nat.lt_irrefl, Nat.zero_add, isS_enS, deS_enS, isS_nil, deS_nil, List.nil_append, lendRows_enS, deepRows_enS, noSl_u8, En.enc, List.getD_cons_zero, List.getD_cons_succ, D.num, D.flag, D.text, D.rows, Leaf.fit, List.append_eq, TReader.eta, Frame.eta, Heard.eta, Member.eta, Card.eta, Out1.eta, Vec.eta, Port.eta, Bridge.eta, In.eta, Out.eta, Link.eta, Net.eta, TEnd.eta, Minder.eta, Reg.eta, Wire.eta, Box.eta, Deed.eta, Bpdu.eta, Visit.eta, Fabric.eta, Got.eta, TRide.eta, Up.eta, Copy.eta, Bucket.eta, Snap.eta, TL9Cur.eta, TL21In.eta, enS_get _ hi, hi, wrap_succ (show i < 4611686018427387904 by omega), h2, hel]
    exact (congrArg f (congrArg (S121_0 a _) (enS_set true ys i a[i]))).trans (hf (ys.set i a[i]) ⟨by rw [List.length_set]; exact h2, take_set_succ hi h2 h3⟩)
theorem s121 : SoundAt Go.Proofs.Try.prog Hx 121 c121 := soundAt_of T162_sound mixed func121 (by kernel_rfl) (by
  intro rows r h
  unfold c121 at h
  split at h
  · rename_i a
    obtain ⟨hp, hr⟩ := Prod.mk.inj (Option.some.inj h)
    subst hr
    simp only [Bool.and_eq_true] at hp
    obtain ⟨hs0, hp⟩ := hp
    obtain ⟨xs0, rfl⟩ := isS_ex hs0
    simp only [deS_enS] at hp ⊢
    exact ⟨_, m121 xs0 hp⟩
  · cases h)
def T121 : Table := (121, c121) :: T162
theorem T121_sound : Table.Sound Go.Proofs.Try.prog Hx T121 := Table.sound_cons s121 T162_sound
def o163 (a : Heard) : Bool × List Row × List Row := (true, [[.int .i64 (a).Addr, .int .i64 (a).Vlan, .int .i64 (a).Port, .int .i64 (a).Left]], [])
def c163 : Contract
  | [[.int .i64 a_Addr, .int .i64 a_Vlan, .int .i64 a_Port, .int .i64 a_Left]] => some ((o163 ⟨a_Addr, a_Vlan, a_Port, a_Left⟩).1, (o163 ⟨a_Addr, a_Vlan, a_Port, a_Left⟩).2.1, (o163 ⟨a_Addr, a_Vlan, a_Port, a_Left⟩).2.2)
  | _ => none

theorem r163 (a : Heard) (n : Nat) : evFn ⟨prog, Hx, 163⟩ T121.call n f163 [[.int .i64 a.Addr, .int .i64 a.Vlan, .int .i64 a.Port, .int .i64 a.Left]] = some ([[D.int i64 (Heard.Addr a), D.int i64 (Heard.Vlan a), D.int i64 (Heard.Port a), D.int i64 (Heard.Left a)]], []) := by kernel_rfl
theorem m163 (a : Heard) (hpre : (o163 a).1 = true) : evFn ⟨Go.Proofs.Try.prog, Hx, 163⟩ T121.call 0 f163 [[.int .i64 a.Addr, .int .i64 a.Vlan, .int .i64 a.Port, .int .i64 a.Left]] = some (o163 a).2 := by
  refine (r163 a _).trans ?_
  show _ = (some ([[.int .i64 (a).Addr, .int .i64 (a).Vlan, .int .i64 (a).Port, .int .i64 (a).Left]], []) : Option (List Row × List Row))
  replace hpre : (true) = true := hpre
  rfl
theorem s163 : SoundAt Go.Proofs.Try.prog Hx 163 c163 := soundAt_of T121_sound mixed func163 (by kernel_rfl) (by
  intro rows r h
  unfold c163 at h
  split at h
  · rename_i a_Addr a_Vlan a_Port a_Left
    obtain ⟨hp, hr⟩ := Prod.mk.inj (Option.some.inj h)
    subst hr
    exact ⟨_, m163 ⟨a_Addr, a_Vlan, a_Port, a_Left⟩ hp⟩
  · cases h)
def T163 : Table := (163, c163) :: T121
theorem T163_sound : Table.Sound Go.Proofs.Try.prog Hx T163 := Table.sound_cons s163 T121_sound
def o122 (a : List Heard) : Bool × List Row × List Row := (decide (a.length ≤ 1048576), [[.sl true 4 (enS true (a))]], [])
def c122 : Contract
  | [[.sl false 4 a]] => some (isS Heard false a && (o122 (deS Heard a)).1, (o122 (deS Heard a)).2.1, (o122 (deS Heard a)).2.2)
  | _ => none

def k122_0 (n : Nat) : Ex → St → RR := kThen (fun st ↦ runCode (Ctx.mk prog Hx (122)) (Table.call T163) n (codeAt [1, 1, 1] (bodyOf f122)) (Lv.mk 4 [] 4) st (kLeave (Ctx.P (Ctx.mk prog Hx (122))) (List.zip (Array.toList (Go.Func.resultTypes f122)) (Array.toList (Go.Func.results f122))) [] [])) (kLeave (Ctx.P (Ctx.mk prog Hx (122))) (List.zip (Array.toList (Go.Func.resultTypes f122)) (Array.toList (Go.Func.results f122))) [] [])
def k122_1 (n : Nat) : Ex → St → RR := kBlock (0) (k122_0 n)
def S122_0 (a : List Heard) (i0 : Int) (es1 : List (List D)) : St := St.mk [V_ [C.d (D.sl false 4 (enS false a))], U_, U_, V_ [C.view 0 0 0 [] 4 none], I_ i0, U_, U_, U_, U_, U_, U_, U_, U_, U_, U_, U_, U_, U_, U_, U_, U_, U_, U_] [Root.mk false 4 es1 0 0 true true false]
def B122_0 (n : Nat) : St → (Ex → St → RR) → RR := runCode (Ctx.mk prog Hx (122)) (Table.call T163) n (codeAt [1, 1, 0, 1, 0, 0] (bodyOf f122)) (Lv.mk 25 [(0, 8)] 4)
def X122_2 (a : List Heard) (i0 : Int) (es1 : List (List D)) : St := St.mk [V_ [C.d (D.sl false 4 (enS false a))], U_, U_, V_ [C.view 0 0 0 [] 4 none], I_ i0, U_, U_, U_, I_ i0, V_ [C.d (D.sl false 4 (enS false a))], I_ (ofNat (length (enS false a))), B_ false, U_, U_, U_, U_, U_, U_, U_, U_, U_, U_, U_] [Root.mk false 4 es1 0 0 true true false]
theorem q122_0 (a : List Heard) (n : Nat) (i0 : Int) (es1 : List (List D)) (f : St → RR) (K : Ex → St → RR) : B122_0 n (S122_0 a i0 es1) (kThen (fun st ↦ f (St.head 1 25 4194064 st)) K) = bif decide (i0 < ofNat (length (enS false a))) then bif decide (0 ≤ i0) && decide (i0 < ofNat (length (enS false a))) then bif Leaf.fit false (Leaf.int i64) (getD (getD (enS false a) (toNat i0) []) 0 D.dead) && (Leaf.fit false (Leaf.int i64) (getD (getD (enS false a) (toNat i0) []) 1 D.dead) && (Leaf.fit false (Leaf.int i64) (getD (getD (enS false a) (toNat i0) []) 2 D.dead) && (Leaf.fit false (Leaf.int i64) (getD (getD (enS false a) (toNat i0) []) 3 D.dead) && true))) then bif decide (0 ≤ i0) && decide (i0 < ofNat (length es1)) then f (S122_0 a (wrap i64 (i0 + 1)) (set es1 (0 + toNat i0) [D.int i64 (D.num (getD (getD (enS false a) (toNat i0) []) 0 D.dead)), D.int i64 (D.num (getD (getD (enS false a) (toNat i0) []) 1 D.dead)), D.int i64 (D.num (getD (getD (enS false a) (toNat i0) []) 2 D.dead)), D.int i64 (D.num (getD (getD (enS false a) (toNat i0) []) 3 D.dead))])) else none else none else none else K (Ex.exit 0) (X122_2 a i0 es1) := by kernel_rfl
theorem aX122_2 (a : List Heard) (n : Nat) (i0 : Int) (es1 : List (List D)) : k122_1 n (Ex.exit 0) (X122_2 a i0 es1) = some ([[D.sl true 4 es1]], []) := by kernel_rfl
theorem r122 (a : List Heard) (n : Nat) : evFn ⟨prog, Hx, 122⟩ T163.call n f122 [[.sl false 4 (enS false a)]] = bif decide (0 ≤ ofNat (length (enS false a))) && (decide (ofNat (length (enS false a)) ≤ ofNat (length (enS false a))) && decide (toNat (ofNat (length (enS false a))) * 32 ≤ 140737488355328)) then loopRun (B122_0 n) 1 25 4194064 n (S122_0 a (0) (replicate (toNat (ofNat (length (enS false a)))) [D.int i64 (0), D.int i64 (0), D.int i64 (0), D.int i64 (0)])) (k122_1 n) else none := by kernel_rfl
theorem m122 (a : List Heard) (hpre : (o122 a).1 = true) : evFn ⟨Go.Proofs.Try.prog, Hx, 122⟩ T163.call (a.length + 1) f122 [[.sl false 4 (enS false a)]] = some (o122 a).2 := by
  refine (r122 a _).trans ?_
  show _ = (some ([[.sl true 4 (enS true (a))]], []) : Option (List Row × List Row))
  replace hpre : (decide (a.length ≤ 1048576)) = true := hpre
  have hlen : a.length ≤ 1048576 := of_decide_eq_true hpre
  rw [enS_length, make_ok (by omega), cond_true, toNat_of]
  refine (congrArg (fun z => loopRun _ _ _ _ _ (S122_0 a 0 z) _) (enS_rep true a.length (En.nil : Heard))).trans ?_
  refine loop_list (xs := a) (fun i (ys : List Heard) => S122_0 a (Int.ofNat i) (enS true ys)) (fun i ys => ys.length = a.length ∧ ys.take i = a.take i) (fun _ _ _ => some ([[D.sl true 4 (enS true a)]], [])) ?_ ?_ (a.length + 1) _ (by omega) ⟨List.length_replicate .., rfl⟩
  · rintro ys ⟨h2, h3⟩ f
    refine (q122_0 a _ _ _ f _).trans ?_
    simp only [enS_length, dec_lt, Nat.lt_irrefl, decide_false, cond_false]
    refine (aX122_2 a _ _ _).trans ?_
    rw [List.take_length, ← h2, List.take_length] at h3
    subst h3
    rfl
  · rintro i ys hi ⟨h2, h3⟩ f hf
    refine (q122_0 a _ _ _ f _).trans ?_
    simp only [enS_length, toNat_of, dec_lt, dec_ge, enS_get _ hi, h2, hi, wrap_succ (show i < 4611686018427387904 by omega), Nat.zero_add, decide_true, cond_true, Bool.and_self]
    exact (congrArg f (congrArg (S122_0 a _) (enS_set true ys i a[i]))).trans (hf (ys.set i a[i]) ⟨by rw [List.length_set]; exact h2, take_set_succ hi h2 h3⟩)
theorem s122 : SoundAt Go.Proofs.Try.prog Hx 122 c122 := soundAt_of T163_sound mixed func122 (by kernel_rfl) (by
  intro rows r h
  unfold c122 at h
  split at h
  · rename_i a
    obtain ⟨hp, hr⟩ := Prod.mk.inj (Option.some.inj h)
    subst hr
    simp only [Bool.and_eq_true] at hp
    obtain ⟨hs0, hp⟩ := hp
    obtain ⟨xs0, rfl⟩ := isS_ex hs0
    simp only [deS_enS] at hp ⊢
    exact ⟨_, m122 xs0 hp⟩
  · cases h)
def T122 : Table := (122, c122) :: T163
theorem T122_sound : Table.Sound Go.Proofs.Try.prog Hx T122 := Table.sound_cons s122 T163_sound
def o73 (a : Card) : Bool × List Row × List Row := (Card.small a, [[.sl true 1 (enS true (a).Open), .sl true 2 (enS true (a).Members), .sl true 4 (enS true (a).Table)]], [])
def c73 : Contract
  | [[.sl false 1 a_Open, .sl false 2 a_Members, .sl false 4 a_Table]] => some (isS Bool false a_Open && isS Member false a_Members && isS Heard false a_Table && (o73 ⟨(deS Bool a_Open), (deS Member a_Members), (deS Heard a_Table)⟩).1, (o73 ⟨(deS Bool a_Open), (deS Member a_Members), (deS Heard a_Table)⟩).2.1, (o73 ⟨(deS Bool a_Open), (deS Member a_Members), (deS Heard a_Table)⟩).2.2)
  | _ => none

theorem r73 (a : Card) (n : Nat) : evFn ⟨prog, Hx, 73⟩ T122.call n f73 [[.sl false 1 (enS false a.Open), .sl false 2 (enS false a.Members), .sl false 4 (enS false a.Table)]] = bif isS Bool false (enS false (Card.Open a)) && decide (length (deS Bool (enS false (Card.Open a))) ≤ 1048576) then bif isS Member false (enS false (Card.Members a)) && (decide (length (deS Member (enS false (Card.Members a))) ≤ 1048576) && all (deS Member (enS false (Card.Members a))) Member.small) then bif isS Heard false (enS false (Card.Table a)) && decide (length (deS Heard (enS false (Card.Table a))) ≤ 1048576) then some ([[D.sl true 1 (enS true (deS Bool (enS false (Card.Open a)))), D.sl true 2 (enS true (deS Member (enS false (Card.Members a)))), D.sl true 4 (enS true (deS Heard (enS false (Card.Table a))))]], []) else none else none else none := by kernel_rfl
theorem m73 (a : Card) (hpre : (o73 a).1 = true) : evFn ⟨Go.Proofs.Try.prog, Hx, 73⟩ T122.call 0 f73 [[.sl false 1 (enS false a.Open), .sl false 2 (enS false a.Members), .sl false 4 (enS false a.Table)]] = some (o73 a).2 := by
  refine (r73 a _).trans ?_
  show _ = (some ([[.sl true 1 (enS true (a).Open), .sl true 2 (enS true (a).Members), .sl true 4 (enS true (a).Table)]], []) : Option (List Row × List Row))
  replace hpre : (Card.small a) = true := hpre
  unfold Card.small at hpre
  try simp only [Bool.and_eq_true] at hpre
  simp only [hpre, isS_enS, deS_enS, cond_true, Bool.and_self, Bool.and_true, Bool.true_and]
  try rfl
theorem s73 : SoundAt Go.Proofs.Try.prog Hx 73 c73 := soundAt_of T122_sound mixed func73 (by kernel_rfl) (by
  intro rows r h
  unfold c73 at h
  split at h
  · rename_i a_Open a_Members a_Table
    obtain ⟨hp, hr⟩ := Prod.mk.inj (Option.some.inj h)
    subst hr
    simp only [Bool.and_eq_true] at hp
    obtain ⟨⟨⟨hs0, hs1⟩, hs2⟩, hp⟩ := hp
    obtain ⟨xs0, rfl⟩ := isS_ex hs0
    obtain ⟨xs1, rfl⟩ := isS_ex hs1
    obtain ⟨xs2, rfl⟩ := isS_ex hs2
    simp only [deS_enS] at hp ⊢
    exact ⟨_, m73 ⟨xs0, xs1, xs2⟩ hp⟩
  · cases h)
def T73 : Table := (73, c73) :: T122
theorem T73_sound : Table.Sound Go.Proofs.Try.prog Hx T73 := Table.sound_cons s73 T122_sound
def o34 (a : List Card) : Bool × List Row × List Row := ((decide (a.length ≤ 1048576) && a.all Card.small), [[.sl true 3 (enS true (a))]], [])
def c34 : Contract
  | [[.sl false 3 a]] => some (isS Card false a && (o34 (deS Card a)).1, (o34 (deS Card a)).2.1, (o34 (deS Card a)).2.2)
  | _ => none

def k34_0 (n : Nat) : Ex → St → RR := kThen (fun st ↦ runCode (Ctx.mk prog Hx (34)) (Table.call T73) n (codeAt [1, 1, 1] (bodyOf f34)) (Lv.mk 4 [] 4) st (kLeave (Ctx.P (Ctx.mk prog Hx (34))) (List.zip (Array.toList (Go.Func.resultTypes f34)) (Array.toList (Go.Func.results f34))) [] [])) (kLeave (Ctx.P (Ctx.mk prog Hx (34))) (List.zip (Array.toList (Go.Func.resultTypes f34)) (Array.toList (Go.Func.results f34))) [] [])
def k34_1 (n : Nat) : Ex → St → RR := kBlock (0) (k34_0 n)
def S34_0 (a : List Card) (i0 : Int) (es1 : List (List D)) : St := St.mk [V_ [C.d (D.sl false 3 (enS false a))], U_, U_, V_ [C.view 0 0 0 [] 3 none], I_ i0, U_, U_, U_, U_, U_, U_, U_, U_, U_, U_, U_, U_, U_, U_, U_, U_, U_, U_] [Root.mk false 3 es1 0 0 true true false]
def B34_0 (n : Nat) : St → (Ex → St → RR) → RR := runCode (Ctx.mk prog Hx (34)) (Table.call T73) n (codeAt [1, 1, 0, 1, 0, 0] (bodyOf f34)) (Lv.mk 25 [(0, 8)] 4)
def X34_2 (a : List Card) (i0 : Int) (es1 : List (List D)) : St := St.mk [V_ [C.d (D.sl false 3 (enS false a))], U_, U_, V_ [C.view 0 0 0 [] 3 none], I_ i0, U_, U_, U_, I_ i0, V_ [C.d (D.sl false 3 (enS false a))], I_ (ofNat (length (enS false a))), B_ false, U_, U_, U_, U_, U_, U_, U_, U_, U_, U_, U_] [Root.mk false 3 es1 0 0 true true false]
theorem q34_0 (a : List Card) (n : Nat) (i0 : Int) (es1 : List (List D)) (f : St → RR) (K : Ex → St → RR) : B34_0 n (S34_0 a i0 es1) (kThen (fun st ↦ f (St.head 1 25 4194064 st)) K) = bif decide (i0 < ofNat (length (enS false a))) then bif decide (0 ≤ i0) && decide (i0 < ofNat (length (enS false a))) then bif Leaf.fit false (Leaf.sl 1 true) (getD (getD (enS false a) (toNat i0) []) 0 D.dead) && (Leaf.fit false (Leaf.sl 2 false) (getD (getD (enS false a) (toNat i0) []) 1 D.dead) && (Leaf.fit false (Leaf.sl 4 true) (getD (getD (enS false a) (toNat i0) []) 2 D.dead) && true)) then bif isS Bool false (D.rows (getD (getD (enS false a) (toNat i0) []) 0 D.dead)) && isS Member false (D.rows (getD (getD (enS false a) (toNat i0) []) 1 D.dead)) && isS Heard false (D.rows (getD (getD (enS false a) (toNat i0) []) 2 D.dead)) && Card.small (Card.mk (deS Bool (D.rows (getD (getD (enS false a) (toNat i0) []) 0 D.dead))) (deS Member (D.rows (getD (getD (enS false a) (toNat i0) []) 1 D.dead))) (deS Heard (D.rows (getD (getD (enS false a) (toNat i0) []) 2 D.dead)))) then bif decide (0 ≤ i0) && decide (i0 < ofNat (length es1)) then f (S34_0 a (wrap i64 (i0 + 1)) (set es1 (0 + toNat i0) [D.sl true 1 (enS true (deS Bool (D.rows (getD (getD (enS false a) (toNat i0) []) 0 D.dead)))), D.sl true 2 (enS true (deS Member (D.rows (getD (getD (enS false a) (toNat i0) []) 1 D.dead)))), D.sl true 4 (enS true (deS Heard (D.rows (getD (getD (enS false a) (toNat i0) []) 2 D.dead))))])) else none else none else none else none else K (Ex.exit 0) (X34_2 a i0 es1) := by kernel_rfl
theorem aX34_2 (a : List Card) (n : Nat) (i0 : Int) (es1 : List (List D)) : k34_1 n (Ex.exit 0) (X34_2 a i0 es1) = some ([[D.sl true 3 es1]], []) := by kernel_rfl
theorem r34 (a : List Card) (n : Nat) : evFn ⟨prog, Hx, 34⟩ T73.call n f34 [[.sl false 3 (enS false a)]] = bif decide (0 ≤ ofNat (length (enS false a))) && (decide (ofNat (length (enS false a)) ≤ ofNat (length (enS false a))) && decide (toNat (ofNat (length (enS false a))) * 72 ≤ 140737488355328)) then loopRun (B34_0 n) 1 25 4194064 n (S34_0 a (0) (replicate (toNat (ofNat (length (enS false a)))) [D.sl true 1 [], D.sl true 2 [], D.sl true 4 []])) (k34_1 n) else none := by kernel_rfl
theorem m34 (a : List Card) (hpre : (o34 a).1 = true) : evFn ⟨Go.Proofs.Try.prog, Hx, 34⟩ T73.call (a.length + 1) f34 [[.sl false 3 (enS false a)]] = some (o34 a).2 := by
  refine (r34 a _).trans ?_
  show _ = (some ([[.sl true 3 (enS true (a))]], []) : Option (List Row × List Row))
  replace hpre : ((decide (a.length ≤ 1048576) && a.all Card.small)) = true := hpre
  rw [Bool.and_eq_true] at hpre
  have hlen := of_decide_eq_true hpre.1
  rw [enS_length, make_ok (by omega), cond_true, toNat_of]
  refine (congrArg (fun z => loopRun _ _ _ _ _ (S34_0 a 0 z) _) (enS_rep true a.length (En.nil : Card))).trans ?_
  refine loop_list (xs := a) (fun i (ys : List Card) => S34_0 a (Int.ofNat i) (enS true ys)) (fun i ys => ys.length = a.length ∧ ys.take i = a.take i) (fun _ _ _ => some ([[D.sl true 3 (enS true a)]], [])) ?_ ?_ (a.length + 1) _ (by omega) ⟨List.length_replicate .., rfl⟩
  · rintro ys ⟨h2, h3⟩ f
    refine (q34_0 a _ _ _ f _).trans ?_
    rw [end_lt, cond_false]
    refine (aX34_2 a _ _ _).trans ?_
    rw [List.take_length, ← h2, List.take_length] at h3
    subst h3
    rfl
  · rintro i ys hi ⟨h2, h3⟩ f hf
    refine (q34_0 a _ _ _ f _).trans ?_
    have hel := List.all_eq_true.1 hpre.2 _ (List.getElem_mem hi)
    simp only [enS_length, toNat_of, dec_lt, dec_ge, decide_true, decide_false, cond_true, cond_false, Bool.and_self, Bool.and_true, Bool.true_and, Bool.not_true, Bool.not_false, Nat.lt_irrefl, Nat.zero_add, isS_enS, deS_enS, isS_nil, deS_nil, List.nil_append, lendRows_enS, deepRows_enS, noSl_u8, En.enc, List.getD_cons_zero, List.getD_cons_succ, D.num, D.flag, D.text, D.rows, Leaf.fit, List.append_eq, TReader.eta, Frame.eta, Heard.eta, Member.eta, Card.eta, Out1.eta, Vec.eta, Port.eta, Bridge.eta, In.eta, Out.eta, Link.eta, Net.eta, TEnd.eta, Minder.eta, Reg.eta, Wire.eta, Box.eta, Deed.eta, Bpdu.eta, Visit.eta, Fabric.eta, Got.eta, TRide.eta, Up.eta, Copy.eta, Bucket.eta, Snap.eta, TL9Cur.eta, TL21In.eta, enS_get _ hi, hi, wrap_succ (show i < 4611686018427387904 by omega), h2, hel]
    exact (congrArg f (congrArg (S34_0 a _) (enS_set true ys i a[i]))).trans (hf (ys.set i a[i]) ⟨by rw [List.length_set]; exact h2, take_set_succ hi h2 h3⟩)
theorem s34 : SoundAt Go.Proofs.Try.prog Hx 34 c34 := soundAt_of T73_sound mixed func34 (by kernel_rfl) (by
  intro rows r h
  unfold c34 at h
  split at h
  · rename_i a
    obtain ⟨hp, hr⟩ := Prod.mk.inj (Option.some.inj h)
    subst hr
    simp only [Bool.and_eq_true] at hp
    obtain ⟨hs0, hp⟩ := hp
    obtain ⟨xs0, rfl⟩ := isS_ex hs0
    simp only [deS_enS] at hp ⊢
    exact ⟨_, m34 xs0 hp⟩
  · cases h)
def T34 : Table := (34, c34) :: T73
theorem T34_sound : Table.Sound Go.Proofs.Try.prog Hx T34 := Table.sound_cons s34 T73_sound
def o8 (a : Fabric) : Bool × List Row × List Row := (Fabric.small a, [[.sl true 2 (enS true (a).Net.Bridges), .sl true 4 (enS true (a).Net.Links), .sl true 3 (enS true (a).Cards)]], [])
def c8 : Contract
  | [[.sl false 2 a_Net_Bridges, .sl false 4 a_Net_Links, .sl false 3 a_Cards]] => some (isS Bridge false a_Net_Bridges && isS Link false a_Net_Links && isS Card false a_Cards && (o8 ⟨⟨(deS Bridge a_Net_Bridges), (deS Link a_Net_Links)⟩, (deS Card a_Cards)⟩).1, (o8 ⟨⟨(deS Bridge a_Net_Bridges), (deS Link a_Net_Links)⟩, (deS Card a_Cards)⟩).2.1, (o8 ⟨⟨(deS Bridge a_Net_Bridges), (deS Link a_Net_Links)⟩, (deS Card a_Cards)⟩).2.2)
  | _ => none

theorem r8 (a : Fabric) (n : Nat) : evFn ⟨prog, Hx, 8⟩ T34.call n f8 [[.sl false 2 (enS false a.Net.Bridges), .sl false 4 (enS false a.Net.Links), .sl false 3 (enS false a.Cards)]] = bif isS Bridge false (enS false (Net.Bridges (Fabric.Net a))) && isS Link false (enS false (Net.Links (Fabric.Net a))) && Net.small (Net.mk (deS Bridge (enS false (Net.Bridges (Fabric.Net a)))) (deS Link (enS false (Net.Links (Fabric.Net a))))) then bif isS Card false (enS false (Fabric.Cards a)) && (decide (length (deS Card (enS false (Fabric.Cards a))) ≤ 1048576) && all (deS Card (enS false (Fabric.Cards a))) Card.small) then some ([[D.sl true 2 (enS true (deS Bridge (enS false (Net.Bridges (Fabric.Net a))))), D.sl true 4 (enS true (deS Link (enS false (Net.Links (Fabric.Net a))))), D.sl true 3 (enS true (deS Card (enS false (Fabric.Cards a))))]], []) else none else none := by kernel_rfl
theorem m8 (a : Fabric) (hpre : (o8 a).1 = true) : evFn ⟨Go.Proofs.Try.prog, Hx, 8⟩ T34.call 0 f8 [[.sl false 2 (enS false a.Net.Bridges), .sl false 4 (enS false a.Net.Links), .sl false 3 (enS false a.Cards)]] = some (o8 a).2 := by
  refine (r8 a _).trans ?_
  show _ = (some ([[.sl true 2 (enS true (a).Net.Bridges), .sl true 4 (enS true (a).Net.Links), .sl true 3 (enS true (a).Cards)]], []) : Option (List Row × List Row))
  replace hpre : (Fabric.small a) = true := hpre
  unfold Fabric.small at hpre
  try simp only [Bool.and_eq_true] at hpre
  simp only [hpre, isS_enS, deS_enS, cond_true, Bool.and_self, Bool.and_true, Bool.true_and]
  try rfl
theorem s8 : SoundAt Go.Proofs.Try.prog Hx 8 c8 := soundAt_of T34_sound mixed func8 (by kernel_rfl) (by
  intro rows r h
  unfold c8 at h
  split at h
  · rename_i a_Net_Bridges a_Net_Links a_Cards
    obtain ⟨hp, hr⟩ := Prod.mk.inj (Option.some.inj h)
    subst hr
    simp only [Bool.and_eq_true] at hp
    obtain ⟨⟨⟨hs0, hs1⟩, hs2⟩, hp⟩ := hp
    obtain ⟨xs0, rfl⟩ := isS_ex hs0
    obtain ⟨xs1, rfl⟩ := isS_ex hs1
    obtain ⟨xs2, rfl⟩ := isS_ex hs2
    simp only [deS_enS] at hp ⊢
    exact ⟨_, m8 ⟨⟨xs0, xs1⟩, xs2⟩ hp⟩
  · cases h)
def T8 : Table := (8, c8) :: T34
theorem T8_sound : Table.Sound Go.Proofs.Try.prog Hx T8 := Table.sound_cons s8 T34_sound
def o114 (a : Vec) (b : Vec) : Bool × List Row × List Row := (sameB a b, [[.bool (true)]], [])
def c114 : Contract
  | [[.int .i64 a_Root, .int .i64 a_Cost, .int .i64 a_Bridge, .int .i64 a_Port], [.int .i64 b_Root, .int .i64 b_Cost, .int .i64 b_Bridge, .int .i64 b_Port]] => some ((o114 ⟨a_Root, a_Cost, a_Bridge, a_Port⟩ ⟨b_Root, b_Cost, b_Bridge, b_Port⟩).1, (o114 ⟨a_Root, a_Cost, a_Bridge, a_Port⟩ ⟨b_Root, b_Cost, b_Bridge, b_Port⟩).2.1, (o114 ⟨a_Root, a_Cost, a_Bridge, a_Port⟩ ⟨b_Root, b_Cost, b_Bridge, b_Port⟩).2.2)
  | _ => none

theorem r114 (a : Vec) (b : Vec) (n : Nat) : evFn ⟨prog, Hx, 114⟩ T8.call n f114 [[.int .i64 a.Root, .int .i64 a.Cost, .int .i64 a.Bridge, .int .i64 a.Port], [.int .i64 b.Root, .int .i64 b.Cost, .int .i64 b.Bridge, .int .i64 b.Port]] = bif Vec.Root a != Vec.Root b then some ([[D.bool false]], []) else bif Vec.Cost a != Vec.Cost b then some ([[D.bool false]], []) else bif Vec.Bridge a != Vec.Bridge b then some ([[D.bool false]], []) else bif Vec.Port a != Vec.Port b then some ([[D.bool false]], []) else some ([[D.bool true]], []) := by kernel_rfl
theorem m114 (a : Vec) (b : Vec) (hpre : (o114 a b).1 = true) : evFn ⟨Go.Proofs.Try.prog, Hx, 114⟩ T8.call 0 f114 [[.int .i64 a.Root, .int .i64 a.Cost, .int .i64 a.Bridge, .int .i64 a.Port], [.int .i64 b.Root, .int .i64 b.Cost, .int .i64 b.Bridge, .int .i64 b.Port]] = some (o114 a b).2 := by
  refine (r114 a b _).trans ?_
  show _ = (some ([[.bool (true)]], []) : Option (List Row × List Row))
  replace hpre : (sameB a b) = true := hpre
  have := sameB_eq hpre
  subst this
  simp only [bne_self_eq_false, cond_false, sameB_self, cond_true, Bool.not_true]
theorem s114 : SoundAt Go.Proofs.Try.prog Hx 114 c114 := soundAt_of T8_sound mixed func114 (by kernel_rfl) (by
  intro rows r h
  unfold c114 at h
  split at h
  · rename_i a_Root a_Cost a_Bridge a_Port b_Root b_Cost b_Bridge b_Port
    obtain ⟨hp, hr⟩ := Prod.mk.inj (Option.some.inj h)
    subst hr
    exact ⟨_, m114 ⟨a_Root, a_Cost, a_Bridge, a_Port⟩ ⟨b_Root, b_Cost, b_Bridge, b_Port⟩ hp⟩
  · cases h)
def T114 : Table := (114, c114) :: T8
theorem T114_sound : Table.Sound Go.Proofs.Try.prog Hx T114 := Table.sound_cons s114 T8_sound
def o113 (a : Port) (b : Port) : Bool × List Row × List Row := (sameB a b, [[.bool (true)]], [])
def c113 : Contract
  | [[.bool a_Up, .bool a_Has, .int .i64 a_Vec_Root, .int .i64 a_Vec_Cost, .int .i64 a_Vec_Bridge, .int .i64 a_Vec_Port, .int .i64 a_Hops, .int .i64 a_Left, .int .i64 a_Role, .int .i64 a_Wait, .bool a_Open], [.bool b_Up, .bool b_Has, .int .i64 b_Vec_Root, .int .i64 b_Vec_Cost, .int .i64 b_Vec_Bridge, .int .i64 b_Vec_Port, .int .i64 b_Hops, .int .i64 b_Left, .int .i64 b_Role, .int .i64 b_Wait, .bool b_Open]] => some ((o113 ⟨a_Up, a_Has, ⟨a_Vec_Root, a_Vec_Cost, a_Vec_Bridge, a_Vec_Port⟩, a_Hops, a_Left, a_Role, a_Wait, a_Open⟩ ⟨b_Up, b_Has, ⟨b_Vec_Root, b_Vec_Cost, b_Vec_Bridge, b_Vec_Port⟩, b_Hops, b_Left, b_Role, b_Wait, b_Open⟩).1, (o113 ⟨a_Up, a_Has, ⟨a_Vec_Root, a_Vec_Cost, a_Vec_Bridge, a_Vec_Port⟩, a_Hops, a_Left, a_Role, a_Wait, a_Open⟩ ⟨b_Up, b_Has, ⟨b_Vec_Root, b_Vec_Cost, b_Vec_Bridge, b_Vec_Port⟩, b_Hops, b_Left, b_Role, b_Wait, b_Open⟩).2.1, (o113 ⟨a_Up, a_Has, ⟨a_Vec_Root, a_Vec_Cost, a_Vec_Bridge, a_Vec_Port⟩, a_Hops, a_Left, a_Role, a_Wait, a_Open⟩ ⟨b_Up, b_Has, ⟨b_Vec_Root, b_Vec_Cost, b_Vec_Bridge, b_Vec_Port⟩, b_Hops, b_Left, b_Role, b_Wait, b_Open⟩).2.2)
  | _ => none

theorem r113 (a : Port) (b : Port) (n : Nat) : evFn ⟨prog, Hx, 113⟩ T114.call n f113 [[.bool a.Up, .bool a.Has, .int .i64 a.Vec.Root, .int .i64 a.Vec.Cost, .int .i64 a.Vec.Bridge, .int .i64 a.Vec.Port, .int .i64 a.Hops, .int .i64 a.Left, .int .i64 a.Role, .int .i64 a.Wait, .bool a.Open], [.bool b.Up, .bool b.Has, .int .i64 b.Vec.Root, .int .i64 b.Vec.Cost, .int .i64 b.Vec.Bridge, .int .i64 b.Vec.Port, .int .i64 b.Hops, .int .i64 b.Left, .int .i64 b.Role, .int .i64 b.Wait, .bool b.Open]] = bif Port.Up a != Port.Up b then some ([[D.bool false]], []) else bif Port.Has a != Port.Has b then some ([[D.bool false]], []) else bif sameB (Port.Vec a) (Port.Vec b) then bif Port.Hops a != Port.Hops b then some ([[D.bool false]], []) else bif Port.Left a != Port.Left b then some ([[D.bool false]], []) else bif Port.Role a != Port.Role b then some ([[D.bool false]], []) else bif Port.Wait a != Port.Wait b then some ([[D.bool false]], []) else bif Port.Open a != Port.Open b then some ([[D.bool false]], []) else some ([[D.bool true]], []) else none := by kernel_rfl
theorem m113 (a : Port) (b : Port) (hpre : (o113 a b).1 = true) : evFn ⟨Go.Proofs.Try.prog, Hx, 113⟩ T114.call 0 f113 [[.bool a.Up, .bool a.Has, .int .i64 a.Vec.Root, .int .i64 a.Vec.Cost, .int .i64 a.Vec.Bridge, .int .i64 a.Vec.Port, .int .i64 a.Hops, .int .i64 a.Left, .int .i64 a.Role, .int .i64 a.Wait, .bool a.Open], [.bool b.Up, .bool b.Has, .int .i64 b.Vec.Root, .int .i64 b.Vec.Cost, .int .i64 b.Vec.Bridge, .int .i64 b.Vec.Port, .int .i64 b.Hops, .int .i64 b.Left, .int .i64 b.Role, .int .i64 b.Wait, .bool b.Open]] = some (o113 a b).2 := by
  refine (r113 a b _).trans ?_
  show _ = (some ([[.bool (true)]], []) : Option (List Row × List Row))
  replace hpre : (sameB a b) = true := hpre
  have := sameB_eq hpre
  subst this
  simp only [bne_self_eq_false, cond_false, sameB_self, cond_true, Bool.not_true]
theorem s113 : SoundAt Go.Proofs.Try.prog Hx 113 c113 := soundAt_of T114_sound mixed func113 (by kernel_rfl) (by
  intro rows r h
  unfold c113 at h
  split at h
  · rename_i a_Up a_Has a_Vec_Root a_Vec_Cost a_Vec_Bridge a_Vec_Port a_Hops a_Left a_Role a_Wait a_Open b_Up b_Has b_Vec_Root b_Vec_Cost b_Vec_Bridge b_Vec_Port b_Hops b_Left b_Role b_Wait b_Open
    obtain ⟨hp, hr⟩ := Prod.mk.inj (Option.some.inj h)
    subst hr
    exact ⟨_, m113 ⟨a_Up, a_Has, ⟨a_Vec_Root, a_Vec_Cost, a_Vec_Bridge, a_Vec_Port⟩, a_Hops, a_Left, a_Role, a_Wait, a_Open⟩ ⟨b_Up, b_Has, ⟨b_Vec_Root, b_Vec_Cost, b_Vec_Bridge, b_Vec_Port⟩, b_Hops, b_Left, b_Role, b_Wait, b_Open⟩ hp⟩
  · cases h)
def T113 : Table := (113, c113) :: T114
theorem T113_sound : Table.Sound Go.Proofs.Try.prog Hx T113 := Table.sound_cons s113 T114_sound
def o64 (a : List Port) (b : List Port) : Bool × List Row × List Row := (sameB a b && (decide (a.length ≤ 1048576)), [[.bool (true)]], [])
def c64 : Contract
  | [[.sl false 11 a], [.sl false 11 b]] => some (isS Port false a && isS Port false b && (o64 (deS Port a) (deS Port b)).1, (o64 (deS Port a) (deS Port b)).2.1, (o64 (deS Port a) (deS Port b)).2.2)
  | _ => none

def k64_0 (n : Nat) : Ex → St → RR := kThen (fun st ↦ runCode (Ctx.mk prog Hx (64)) (Table.call T113) n (codeAt [1, 1, 1] (bodyOf f64)) (Lv.mk 16 [] 16) st (kLeave (Ctx.P (Ctx.mk prog Hx (64))) (List.zip (Array.toList (Go.Func.resultTypes f64)) (Array.toList (Go.Func.results f64))) [] [])) (kLeave (Ctx.P (Ctx.mk prog Hx (64))) (List.zip (Array.toList (Go.Func.resultTypes f64)) (Array.toList (Go.Func.results f64))) [] [])
def k64_1 (n : Nat) : Ex → St → RR := kBlock (0) (k64_0 n)
def S64_0 (a : List Port) (b : List Port) (i0 : Int) : St := St.mk [V_ [C.d (D.sl false 11 (enS false a))], V_ [C.d (D.sl false 11 (enS false b))], U_, U_, U_, I_ i0, U_, U_, U_, U_, U_, U_, U_, U_, U_, U_, U_, U_, U_, U_, U_, U_, U_, U_, U_, U_, U_] []
def B64_0 (n : Nat) : St → (Ex → St → RR) → RR := runCode (Ctx.mk prog Hx (64)) (Table.call T113) n (codeAt [1, 1, 0, 1, 0, 0] (bodyOf f64)) (Lv.mk 35 [(0, 0)] 16)
def X64_2 (a : List Port) (b : List Port) (i0 : Int) : St := St.mk [V_ [C.d (D.sl false 11 (enS false a))], V_ [C.d (D.sl false 11 (enS false b))], U_, U_, U_, I_ i0, U_, U_, U_, U_, U_, I_ i0, V_ [C.d (D.sl false 11 (enS false a))], I_ (ofNat (length (enS false a))), B_ false, U_, U_, U_, U_, U_, U_, U_, U_, U_, U_, U_, U_] []
theorem q64_0 (a : List Port) (b : List Port) (n : Nat) (i0 : Int) (f : St → RR) (K : Ex → St → RR) : B64_0 n (S64_0 a b i0) (kThen (fun st ↦ f (St.head 0 35 134215728 st)) K) = bif decide (i0 < ofNat (length (enS false a))) then bif decide (0 ≤ i0) && decide (i0 < ofNat (length (enS false a))) then bif Leaf.fit false Leaf.bool (getD (getD (enS false a) (toNat i0) []) 0 D.dead) && (Leaf.fit false Leaf.bool (getD (getD (enS false a) (toNat i0) []) 1 D.dead) && (Leaf.fit false (Leaf.int i64) (getD (getD (enS false a) (toNat i0) []) 2 D.dead) && (Leaf.fit false (Leaf.int i64) (getD (getD (enS false a) (toNat i0) []) 3 D.dead) && (Leaf.fit false (Leaf.int i64) (getD (getD (enS false a) (toNat i0) []) 4 D.dead) && (Leaf.fit false (Leaf.int i64) (getD (getD (enS false a) (toNat i0) []) 5 D.dead) && (Leaf.fit false (Leaf.int i64) (getD (getD (enS false a) (toNat i0) []) 6 D.dead) && (Leaf.fit false (Leaf.int i64) (getD (getD (enS false a) (toNat i0) []) 7 D.dead) && (Leaf.fit false (Leaf.int i64) (getD (getD (enS false a) (toNat i0) []) 8 D.dead) && (Leaf.fit false (Leaf.int i64) (getD (getD (enS false a) (toNat i0) []) 9 D.dead) && (Leaf.fit false Leaf.bool (getD (getD (enS false a) (toNat i0) []) 10 D.dead) && true)))))))))) then bif decide (0 ≤ i0) && decide (i0 < ofNat (length (enS false b))) then bif Leaf.fit false Leaf.bool (getD (getD (enS false b) (toNat i0) []) 0 D.dead) && (Leaf.fit false Leaf.bool (getD (getD (enS false b) (toNat i0) []) 1 D.dead) && (Leaf.fit false (Leaf.int i64) (getD (getD (enS false b) (toNat i0) []) 2 D.dead) && (Leaf.fit false (Leaf.int i64) (getD (getD (enS false b) (toNat i0) []) 3 D.dead) && (Leaf.fit false (Leaf.int i64) (getD (getD (enS false b) (toNat i0) []) 4 D.dead) && (Leaf.fit false (Leaf.int i64) (getD (getD (enS false b) (toNat i0) []) 5 D.dead) && (Leaf.fit false (Leaf.int i64) (getD (getD (enS false b) (toNat i0) []) 6 D.dead) && (Leaf.fit false (Leaf.int i64) (getD (getD (enS false b) (toNat i0) []) 7 D.dead) && (Leaf.fit false (Leaf.int i64) (getD (getD (enS false b) (toNat i0) []) 8 D.dead) && (Leaf.fit false (Leaf.int i64) (getD (getD (enS false b) (toNat i0) []) 9 D.dead) && (Leaf.fit false Leaf.bool (getD (getD (enS false b) (toNat i0) []) 10 D.dead) && true)))))))))) then bif sameB (Port.mk (D.flag (getD (getD (enS false a) (toNat i0) []) 0 D.dead)) (D.flag (getD (getD (enS false a) (toNat i0) []) 1 D.dead)) (Vec.mk (D.num (getD (getD (enS false a) (toNat i0) []) 2 D.dead)) (D.num (getD (getD (enS false a) (toNat i0) []) 3 D.dead)) (D.num (getD (getD (enS false a) (toNat i0) []) 4 D.dead)) (D.num (getD (getD (enS false a) (toNat i0) []) 5 D.dead))) (D.num (getD (getD (enS false a) (toNat i0) []) 6 D.dead)) (D.num (getD (getD (enS false a) (toNat i0) []) 7 D.dead)) (D.num (getD (getD (enS false a) (toNat i0) []) 8 D.dead)) (D.num (getD (getD (enS false a) (toNat i0) []) 9 D.dead)) (D.flag (getD (getD (enS false a) (toNat i0) []) 10 D.dead))) (Port.mk (D.flag (getD (getD (enS false b) (toNat i0) []) 0 D.dead)) (D.flag (getD (getD (enS false b) (toNat i0) []) 1 D.dead)) (Vec.mk (D.num (getD (getD (enS false b) (toNat i0) []) 2 D.dead)) (D.num (getD (getD (enS false b) (toNat i0) []) 3 D.dead)) (D.num (getD (getD (enS false b) (toNat i0) []) 4 D.dead)) (D.num (getD (getD (enS false b) (toNat i0) []) 5 D.dead))) (D.num (getD (getD (enS false b) (toNat i0) []) 6 D.dead)) (D.num (getD (getD (enS false b) (toNat i0) []) 7 D.dead)) (D.num (getD (getD (enS false b) (toNat i0) []) 8 D.dead)) (D.num (getD (getD (enS false b) (toNat i0) []) 9 D.dead)) (D.flag (getD (getD (enS false b) (toNat i0) []) 10 D.dead))) then f (S64_0 a b (wrap i64 (i0 + 1))) else none else none else none else none else none else K (Ex.exit 0) (X64_2 a b i0) := by kernel_rfl
theorem aX64_2 (a : List Port) (b : List Port) (n : Nat) (i0 : Int) : k64_1 n (Ex.exit 0) (X64_2 a b i0) = some ([[D.bool true]], []) := by kernel_rfl
theorem r64 (a : List Port) (b : List Port) (n : Nat) : evFn ⟨prog, Hx, 64⟩ T113.call n f64 [[.sl false 11 (enS false a)], [.sl false 11 (enS false b)]] = bif ofNat (length (enS false a)) != ofNat (length (enS false b)) then some ([[D.bool false]], []) else loopRun (B64_0 n) 0 35 134215728 n (S64_0 a b (0)) (k64_1 n) := by kernel_rfl
theorem m64 (a : List Port) (b : List Port) (hpre : (o64 a b).1 = true) : evFn ⟨Go.Proofs.Try.prog, Hx, 64⟩ T113.call (a.length + 1) f64 [[.sl false 11 (enS false a)], [.sl false 11 (enS false b)]] = some (o64 a b).2 := by
  refine (r64 a b _).trans ?_
  show _ = (some ([[.bool (true)]], []) : Option (List Row × List Row))
  replace hpre : (sameB a b && (decide (a.length ≤ 1048576))) = true := hpre
  rw [Bool.and_eq_true] at hpre
  obtain ⟨h0, h1⟩ := hpre
  have hlen : a.length ≤ 1048576 := of_decide_eq_true h1
  have := sameB_eq h0
  subst this
  simp only [bne_self_eq_false, cond_false]
  refine loop_list (xs := a) (fun i (_ : Unit) => S64_0 a a (Int.ofNat i)) (fun _ _ => True) (fun _ _ _ => some ([[D.bool true]], [])) ?_ ?_ (a.length + 1) () (by omega) trivial
  · rintro _ _ f
    refine (q64_0 a a _ _ f _).trans ?_
    simp only [enS_length, dec_lt, Nat.lt_irrefl, decide_false, cond_false]
    exact aX64_2 a a _ _
  · rintro i _ hi _ f hf
    refine (q64_0 a a _ _ f _).trans ?_
    simp only [enS_length, toNat_of, dec_lt, dec_ge, enS_get _ hi, hi, wrap_succ (show i < 4611686018427387904 by omega), decide_true, cond_true, Bool.and_self, sameB_self, bne_self_eq_false, cond_false]
    exact hf () trivial
theorem s64 : SoundAt Go.Proofs.Try.prog Hx 64 c64 := soundAt_of T113_sound mixed func64 (by kernel_rfl) (by
  intro rows r h
  unfold c64 at h
  split at h
  · rename_i a b
    obtain ⟨hp, hr⟩ := Prod.mk.inj (Option.some.inj h)
    subst hr
    simp only [Bool.and_eq_true] at hp
    obtain ⟨⟨hs0, hs1⟩, hp⟩ := hp
    obtain ⟨xs0, rfl⟩ := isS_ex hs0
    obtain ⟨xs1, rfl⟩ := isS_ex hs1
    simp only [deS_enS] at hp ⊢
    exact ⟨_, m64 xs0 xs1 hp⟩
  · cases h)
def T64 : Table := (64, c64) :: T113
theorem T64_sound : Table.Sound Go.Proofs.Try.prog Hx T64 := Table.sound_cons s64 T113_sound
def o25 (a : Bridge) (b : Bridge) : Bool × List Row × List Row := (sameB a b && (Bridge.small a), [[.bool (true)]], [])
def c25 : Contract
  | [[.int .i64 a_Id, .sl false 11 a_Ports], [.int .i64 b_Id, .sl false 11 b_Ports]] => some (isS Port false a_Ports && isS Port false b_Ports && (o25 ⟨a_Id, (deS Port a_Ports)⟩ ⟨b_Id, (deS Port b_Ports)⟩).1, (o25 ⟨a_Id, (deS Port a_Ports)⟩ ⟨b_Id, (deS Port b_Ports)⟩).2.1, (o25 ⟨a_Id, (deS Port a_Ports)⟩ ⟨b_Id, (deS Port b_Ports)⟩).2.2)
  | _ => none

theorem r25 (a : Bridge) (b : Bridge) (n : Nat) : evFn ⟨prog, Hx, 25⟩ T64.call n f25 [[.int .i64 a.Id, .sl false 11 (enS false a.Ports)], [.int .i64 b.Id, .sl false 11 (enS false b.Ports)]] = bif Bridge.Id a != Bridge.Id b then some ([[D.bool false]], []) else bif isS Port false (enS false (Bridge.Ports a)) && isS Port false (enS false (Bridge.Ports b)) && (sameB (deS Port (enS false (Bridge.Ports a))) (deS Port (enS false (Bridge.Ports b))) && decide (length (deS Port (enS false (Bridge.Ports a))) ≤ 1048576)) then some ([[D.bool true]], []) else none := by kernel_rfl
theorem m25 (a : Bridge) (b : Bridge) (hpre : (o25 a b).1 = true) : evFn ⟨Go.Proofs.Try.prog, Hx, 25⟩ T64.call 0 f25 [[.int .i64 a.Id, .sl false 11 (enS false a.Ports)], [.int .i64 b.Id, .sl false 11 (enS false b.Ports)]] = some (o25 a b).2 := by
  refine (r25 a b _).trans ?_
  show _ = (some ([[.bool (true)]], []) : Option (List Row × List Row))
  replace hpre : (sameB a b && (Bridge.small a)) = true := hpre
  rw [Bool.and_eq_true] at hpre
  obtain ⟨h0, h1⟩ := hpre
  have := sameB_eq h0
  subst this
  unfold Bridge.small at h1
  try simp only [Bool.and_eq_true] at h1
  simp only [h1, bne_self_eq_false, cond_false, cond_true, sameB_self, isS_enS, deS_enS, Bool.and_self, Bool.and_true, Bool.true_and, Bool.not_true]
  try rfl
theorem s25 : SoundAt Go.Proofs.Try.prog Hx 25 c25 := soundAt_of T64_sound mixed func25 (by kernel_rfl) (by
  intro rows r h
  unfold c25 at h
  split at h
  · rename_i a_Id a_Ports b_Id b_Ports
    obtain ⟨hp, hr⟩ := Prod.mk.inj (Option.some.inj h)
    subst hr
    simp only [Bool.and_eq_true] at hp
    obtain ⟨⟨hs0, hs1⟩, hp⟩ := hp
    obtain ⟨xs0, rfl⟩ := isS_ex hs0
    obtain ⟨xs1, rfl⟩ := isS_ex hs1
    simp only [deS_enS] at hp ⊢
    exact ⟨_, m25 ⟨a_Id, xs0⟩ ⟨b_Id, xs1⟩ hp⟩
  · cases h)
def T25 : Table := (25, c25) :: T64
theorem T25_sound : Table.Sound Go.Proofs.Try.prog Hx T25 := Table.sound_cons s25 T64_sound
def o48 (a : List Bridge) (b : List Bridge) : Bool × List Row × List Row := (sameB a b && ((decide (a.length ≤ 1048576) && a.all Bridge.small)), [[.bool (true)]], [])
def c48 : Contract
  | [[.sl false 2 a], [.sl false 2 b]] => some (isS Bridge false a && isS Bridge false b && (o48 (deS Bridge a) (deS Bridge b)).1, (o48 (deS Bridge a) (deS Bridge b)).2.1, (o48 (deS Bridge a) (deS Bridge b)).2.2)
  | _ => none

def k48_0 (n : Nat) : Ex → St → RR := kThen (fun st ↦ runCode (Ctx.mk prog Hx (48)) (Table.call T25) n (codeAt [1, 1, 1] (bodyOf f48)) (Lv.mk 16 [] 16) st (kLeave (Ctx.P (Ctx.mk prog Hx (48))) (List.zip (Array.toList (Go.Func.resultTypes f48)) (Array.toList (Go.Func.results f48))) [] [])) (kLeave (Ctx.P (Ctx.mk prog Hx (48))) (List.zip (Array.toList (Go.Func.resultTypes f48)) (Array.toList (Go.Func.results f48))) [] [])
def k48_1 (n : Nat) : Ex → St → RR := kBlock (0) (k48_0 n)
def S48_0 (a : List Bridge) (b : List Bridge) (i0 : Int) : St := St.mk [V_ [C.d (D.sl false 2 (enS false a))], V_ [C.d (D.sl false 2 (enS false b))], U_, U_, U_, I_ i0, U_, U_, U_, U_, U_, U_, U_, U_, U_, U_, U_, U_, U_, U_, U_, U_, U_, U_, U_, U_, U_] []
def B48_0 (n : Nat) : St → (Ex → St → RR) → RR := runCode (Ctx.mk prog Hx (48)) (Table.call T25) n (codeAt [1, 1, 0, 1, 0, 0] (bodyOf f48)) (Lv.mk 35 [(0, 0)] 16)
def X48_2 (a : List Bridge) (b : List Bridge) (i0 : Int) : St := St.mk [V_ [C.d (D.sl false 2 (enS false a))], V_ [C.d (D.sl false 2 (enS false b))], U_, U_, U_, I_ i0, U_, U_, U_, U_, U_, I_ i0, V_ [C.d (D.sl false 2 (enS false a))], I_ (ofNat (length (enS false a))), B_ false, U_, U_, U_, U_, U_, U_, U_, U_, U_, U_, U_, U_] []
theorem q48_0 (a : List Bridge) (b : List Bridge) (n : Nat) (i0 : Int) (f : St → RR) (K : Ex → St → RR) : B48_0 n (S48_0 a b i0) (kThen (fun st ↦ f (St.head 0 35 134215728 st)) K) = bif decide (i0 < ofNat (length (enS false a))) then bif decide (0 ≤ i0) && decide (i0 < ofNat (length (enS false a))) then bif Leaf.fit false (Leaf.int i64) (getD (getD (enS false a) (toNat i0) []) 0 D.dead) && (Leaf.fit false (Leaf.sl 11 true) (getD (getD (enS false a) (toNat i0) []) 1 D.dead) && true) then bif decide (0 ≤ i0) && decide (i0 < ofNat (length (enS false b))) then bif Leaf.fit false (Leaf.int i64) (getD (getD (enS false b) (toNat i0) []) 0 D.dead) && (Leaf.fit false (Leaf.sl 11 true) (getD (getD (enS false b) (toNat i0) []) 1 D.dead) && true) then bif isS Port false (D.rows (getD (getD (enS false a) (toNat i0) []) 1 D.dead)) && isS Port false (D.rows (getD (getD (enS false b) (toNat i0) []) 1 D.dead)) && (sameB (Bridge.mk (D.num (getD (getD (enS false a) (toNat i0) []) 0 D.dead)) (deS Port (D.rows (getD (getD (enS false a) (toNat i0) []) 1 D.dead)))) (Bridge.mk (D.num (getD (getD (enS false b) (toNat i0) []) 0 D.dead)) (deS Port (D.rows (getD (getD (enS false b) (toNat i0) []) 1 D.dead)))) && Bridge.small (Bridge.mk (D.num (getD (getD (enS false a) (toNat i0) []) 0 D.dead)) (deS Port (D.rows (getD (getD (enS false a) (toNat i0) []) 1 D.dead))))) then f (S48_0 a b (wrap i64 (i0 + 1))) else none else none else none else none else none else K (Ex.exit 0) (X48_2 a b i0) := by kernel_rfl
theorem aX48_2 (a : List Bridge) (b : List Bridge) (n : Nat) (i0 : Int) : k48_1 n (Ex.exit 0) (X48_2 a b i0) = some ([[D.bool true]], []) := by kernel_rfl
theorem r48 (a : List Bridge) (b : List Bridge) (n : Nat) : evFn ⟨prog, Hx, 48⟩ T25.call n f48 [[.sl false 2 (enS false a)], [.sl false 2 (enS false b)]] = bif ofNat (length (enS false a)) != ofNat (length (enS false b)) then some ([[D.bool false]], []) else loopRun (B48_0 n) 0 35 134215728 n (S48_0 a b (0)) (k48_1 n) := by kernel_rfl
theorem m48 (a : List Bridge) (b : List Bridge) (hpre : (o48 a b).1 = true) : evFn ⟨Go.Proofs.Try.prog, Hx, 48⟩ T25.call (a.length + 1) f48 [[.sl false 2 (enS false a)], [.sl false 2 (enS false b)]] = some (o48 a b).2 := by
  refine (r48 a b _).trans ?_
  show _ = (some ([[.bool (true)]], []) : Option (List Row × List Row))
  replace hpre : (sameB a b && ((decide (a.length ≤ 1048576) && a.all Bridge.small))) = true := hpre
  rw [Bool.and_eq_true, Bool.and_eq_true] at hpre
  obtain ⟨h0, h1, h2⟩ := hpre
  have hlen := of_decide_eq_true h1
  have := sameB_eq h0
  subst this
  simp only [bne_self_eq_false, cond_false]
  refine loop_list (xs := a) (fun i (_ : Unit) => S48_0 a a (Int.ofNat i)) (fun _ _ => True) (fun _ _ _ => some ([[D.bool true]], [])) ?_ ?_ (a.length + 1) () (by omega) trivial
  · rintro _ _ f
    refine (q48_0 a a _ _ f _).trans ?_
    rw [end_lt, cond_false]
    exact aX48_2 a a _ _
  · rintro i _ hi _ f hf
    refine (q48_0 a a _ _ f _).trans ?_
    have hel := List.all_eq_true.1 h2 _ (List.getElem_mem hi)
    simp only [enS_length, toNat_of, dec_lt, dec_ge, decide_true, decide_false, cond_true, cond_false, Bool.and_self, Bool.and_true, Bool.true_and, Bool.not_true, Bool.not_false, Nat.lt_irrefl, Nat.zero_add, isS_enS, deS_enS, isS_nil, deS_nil, List.nil_append, lendRows_enS, deepRows_enS, noSl_u8, En.enc, List.getD_cons_zero, List.getD_cons_succ, D.num, D.flag, D.text, D.rows, Leaf.fit, List.append_eq, TReader.eta, Frame.eta, Heard.eta, Member.eta, Card.eta, Out1.eta, Vec.eta, Port.eta, Bridge.eta, In.eta, Out.eta, Link.eta, Net.eta, TEnd.eta, Minder.eta, Reg.eta, Wire.eta, Box.eta, Deed.eta, Bpdu.eta, Visit.eta, Fabric.eta, Got.eta, TRide.eta, Up.eta, Copy.eta, Bucket.eta, Snap.eta, TL9Cur.eta, TL21In.eta, enS_get _ hi, hi, wrap_succ (show i < 4611686018427387904 by omega), hel, sameB_self]
    exact hf () trivial
theorem s48 : SoundAt Go.Proofs.Try.prog Hx 48 c48 := soundAt_of T25_sound mixed func48 (by kernel_rfl) (by
  intro rows r h
  unfold c48 at h
  split at h
  · rename_i a b
    obtain ⟨hp, hr⟩ := Prod.mk.inj (Option.some.inj h)
    subst hr
    simp only [Bool.and_eq_true] at hp
    obtain ⟨⟨hs0, hs1⟩, hp⟩ := hp
    obtain ⟨xs0, rfl⟩ := isS_ex hs0
    obtain ⟨xs1, rfl⟩ := isS_ex hs1
    simp only [deS_enS] at hp ⊢
    exact ⟨_, m48 xs0 xs1 hp⟩
  · cases h)
def T48 : Table := (48, c48) :: T25
theorem T48_sound : Table.Sound Go.Proofs.Try.prog Hx T48 := Table.sound_cons s48 T25_sound
def o88 (a : Link) (b : Link) : Bool × List Row × List Row := (sameB a b, [[.bool (true)]], [])
def c88 : Contract
  | [[.int .i64 a_A, .int .i64 a_P, .int .i64 a_B, .int .i64 a_Q], [.int .i64 b_A, .int .i64 b_P, .int .i64 b_B, .int .i64 b_Q]] => some ((o88 ⟨a_A, a_P, a_B, a_Q⟩ ⟨b_A, b_P, b_B, b_Q⟩).1, (o88 ⟨a_A, a_P, a_B, a_Q⟩ ⟨b_A, b_P, b_B, b_Q⟩).2.1, (o88 ⟨a_A, a_P, a_B, a_Q⟩ ⟨b_A, b_P, b_B, b_Q⟩).2.2)
  | _ => none

theorem r88 (a : Link) (b : Link) (n : Nat) : evFn ⟨prog, Hx, 88⟩ T48.call n f88 [[.int .i64 a.A, .int .i64 a.P, .int .i64 a.B, .int .i64 a.Q], [.int .i64 b.A, .int .i64 b.P, .int .i64 b.B, .int .i64 b.Q]] = bif Link.A a != Link.A b then some ([[D.bool false]], []) else bif Link.P a != Link.P b then some ([[D.bool false]], []) else bif Link.B a != Link.B b then some ([[D.bool false]], []) else bif Link.Q a != Link.Q b then some ([[D.bool false]], []) else some ([[D.bool true]], []) := by kernel_rfl
theorem m88 (a : Link) (b : Link) (hpre : (o88 a b).1 = true) : evFn ⟨Go.Proofs.Try.prog, Hx, 88⟩ T48.call 0 f88 [[.int .i64 a.A, .int .i64 a.P, .int .i64 a.B, .int .i64 a.Q], [.int .i64 b.A, .int .i64 b.P, .int .i64 b.B, .int .i64 b.Q]] = some (o88 a b).2 := by
  refine (r88 a b _).trans ?_
  show _ = (some ([[.bool (true)]], []) : Option (List Row × List Row))
  replace hpre : (sameB a b) = true := hpre
  have := sameB_eq hpre
  subst this
  simp only [bne_self_eq_false, cond_false, sameB_self, cond_true, Bool.not_true]
theorem s88 : SoundAt Go.Proofs.Try.prog Hx 88 c88 := soundAt_of T48_sound mixed func88 (by kernel_rfl) (by
  intro rows r h
  unfold c88 at h
  split at h
  · rename_i a_A a_P a_B a_Q b_A b_P b_B b_Q
    obtain ⟨hp, hr⟩ := Prod.mk.inj (Option.some.inj h)
    subst hr
    exact ⟨_, m88 ⟨a_A, a_P, a_B, a_Q⟩ ⟨b_A, b_P, b_B, b_Q⟩ hp⟩
  · cases h)
def T88 : Table := (88, c88) :: T48
theorem T88_sound : Table.Sound Go.Proofs.Try.prog Hx T88 := Table.sound_cons s88 T48_sound
def o49 (a : List Link) (b : List Link) : Bool × List Row × List Row := (sameB a b && (decide (a.length ≤ 1048576)), [[.bool (true)]], [])
def c49 : Contract
  | [[.sl false 4 a], [.sl false 4 b]] => some (isS Link false a && isS Link false b && (o49 (deS Link a) (deS Link b)).1, (o49 (deS Link a) (deS Link b)).2.1, (o49 (deS Link a) (deS Link b)).2.2)
  | _ => none

def k49_0 (n : Nat) : Ex → St → RR := kThen (fun st ↦ runCode (Ctx.mk prog Hx (49)) (Table.call T88) n (codeAt [1, 1, 1] (bodyOf f49)) (Lv.mk 16 [] 16) st (kLeave (Ctx.P (Ctx.mk prog Hx (49))) (List.zip (Array.toList (Go.Func.resultTypes f49)) (Array.toList (Go.Func.results f49))) [] [])) (kLeave (Ctx.P (Ctx.mk prog Hx (49))) (List.zip (Array.toList (Go.Func.resultTypes f49)) (Array.toList (Go.Func.results f49))) [] [])
def k49_1 (n : Nat) : Ex → St → RR := kBlock (0) (k49_0 n)
def S49_0 (a : List Link) (b : List Link) (i0 : Int) : St := St.mk [V_ [C.d (D.sl false 4 (enS false a))], V_ [C.d (D.sl false 4 (enS false b))], U_, U_, U_, I_ i0, U_, U_, U_, U_, U_, U_, U_, U_, U_, U_, U_, U_, U_, U_, U_, U_, U_, U_, U_, U_, U_] []
def B49_0 (n : Nat) : St → (Ex → St → RR) → RR := runCode (Ctx.mk prog Hx (49)) (Table.call T88) n (codeAt [1, 1, 0, 1, 0, 0] (bodyOf f49)) (Lv.mk 35 [(0, 0)] 16)
def X49_2 (a : List Link) (b : List Link) (i0 : Int) : St := St.mk [V_ [C.d (D.sl false 4 (enS false a))], V_ [C.d (D.sl false 4 (enS false b))], U_, U_, U_, I_ i0, U_, U_, U_, U_, U_, I_ i0, V_ [C.d (D.sl false 4 (enS false a))], I_ (ofNat (length (enS false a))), B_ false, U_, U_, U_, U_, U_, U_, U_, U_, U_, U_, U_, U_] []
theorem q49_0 (a : List Link) (b : List Link) (n : Nat) (i0 : Int) (f : St → RR) (K : Ex → St → RR) : B49_0 n (S49_0 a b i0) (kThen (fun st ↦ f (St.head 0 35 134215728 st)) K) = bif decide (i0 < ofNat (length (enS false a))) then bif decide (0 ≤ i0) && decide (i0 < ofNat (length (enS false a))) then bif Leaf.fit false (Leaf.int i64) (getD (getD (enS false a) (toNat i0) []) 0 D.dead) && (Leaf.fit false (Leaf.int i64) (getD (getD (enS false a) (toNat i0) []) 1 D.dead) && (Leaf.fit false (Leaf.int i64) (getD (getD (enS false a) (toNat i0) []) 2 D.dead) && (Leaf.fit false (Leaf.int i64) (getD (getD (enS false a) (toNat i0) []) 3 D.dead) && true))) then bif decide (0 ≤ i0) && decide (i0 < ofNat (length (enS false b))) then bif Leaf.fit false (Leaf.int i64) (getD (getD (enS false b) (toNat i0) []) 0 D.dead) && (Leaf.fit false (Leaf.int i64) (getD (getD (enS false b) (toNat i0) []) 1 D.dead) && (Leaf.fit false (Leaf.int i64) (getD (getD (enS false b) (toNat i0) []) 2 D.dead) && (Leaf.fit false (Leaf.int i64) (getD (getD (enS false b) (toNat i0) []) 3 D.dead) && true))) then bif sameB (Link.mk (D.num (getD (getD (enS false a) (toNat i0) []) 0 D.dead)) (D.num (getD (getD (enS false a) (toNat i0) []) 1 D.dead)) (D.num (getD (getD (enS false a) (toNat i0) []) 2 D.dead)) (D.num (getD (getD (enS false a) (toNat i0) []) 3 D.dead))) (Link.mk (D.num (getD (getD (enS false b) (toNat i0) []) 0 D.dead)) (D.num (getD (getD (enS false b) (toNat i0) []) 1 D.dead)) (D.num (getD (getD (enS false b) (toNat i0) []) 2 D.dead)) (D.num (getD (getD (enS false b) (toNat i0) []) 3 D.dead))) then f (S49_0 a b (wrap i64 (i0 + 1))) else none else none else none else none else none else K (Ex.exit 0) (X49_2 a b i0) := by kernel_rfl
theorem aX49_2 (a : List Link) (b : List Link) (n : Nat) (i0 : Int) : k49_1 n (Ex.exit 0) (X49_2 a b i0) = some ([[D.bool true]], []) := by kernel_rfl
theorem r49 (a : List Link) (b : List Link) (n : Nat) : evFn ⟨prog, Hx, 49⟩ T88.call n f49 [[.sl false 4 (enS false a)], [.sl false 4 (enS false b)]] = bif ofNat (length (enS false a)) != ofNat (length (enS false b)) then some ([[D.bool false]], []) else loopRun (B49_0 n) 0 35 134215728 n (S49_0 a b (0)) (k49_1 n) := by kernel_rfl
theorem m49 (a : List Link) (b : List Link) (hpre : (o49 a b).1 = true) : evFn ⟨Go.Proofs.Try.prog, Hx, 49⟩ T88.call (a.length + 1) f49 [[.sl false 4 (enS false a)], [.sl false 4 (enS false b)]] = some (o49 a b).2 := by
  refine (r49 a b _).trans ?_
  show _ = (some ([[.bool (true)]], []) : Option (List Row × List Row))
  replace hpre : (sameB a b && (decide (a.length ≤ 1048576))) = true := hpre
  rw [Bool.and_eq_true] at hpre
  obtain ⟨h0, h1⟩ := hpre
  have hlen : a.length ≤ 1048576 := of_decide_eq_true h1
  have := sameB_eq h0
  subst this
  simp only [bne_self_eq_false, cond_false]
  refine loop_list (xs := a) (fun i (_ : Unit) => S49_0 a a (Int.ofNat i)) (fun _ _ => True) (fun _ _ _ => some ([[D.bool true]], [])) ?_ ?_ (a.length + 1) () (by omega) trivial
  · rintro _ _ f
    refine (q49_0 a a _ _ f _).trans ?_
    simp only [enS_length, dec_lt, Nat.lt_irrefl, decide_false, cond_false]
    exact aX49_2 a a _ _
  · rintro i _ hi _ f hf
    refine (q49_0 a a _ _ f _).trans ?_
    simp only [enS_length, toNat_of, dec_lt, dec_ge, enS_get _ hi, hi, wrap_succ (show i < 4611686018427387904 by omega), decide_true, cond_true, Bool.and_self, sameB_self, bne_self_eq_false, cond_false]
    exact hf () trivial
theorem s49 : SoundAt Go.Proofs.Try.prog Hx 49 c49 := soundAt_of T88_sound mixed func49 (by kernel_rfl) (by
  intro rows r h
  unfold c49 at h
  split at h
  · rename_i a b
    obtain ⟨hp, hr⟩ := Prod.mk.inj (Option.some.inj h)
    subst hr
    simp only [Bool.and_eq_true] at hp
    obtain ⟨⟨hs0, hs1⟩, hp⟩ := hp
    obtain ⟨xs0, rfl⟩ := isS_ex hs0
    obtain ⟨xs1, rfl⟩ := isS_ex hs1
    simp only [deS_enS] at hp ⊢
    exact ⟨_, m49 xs0 xs1 hp⟩
  · cases h)
def T49 : Table := (49, c49) :: T88
theorem T49_sound : Table.Sound Go.Proofs.Try.prog Hx T49 := Table.sound_cons s49 T88_sound
def o15 (a : Net) (b : Net) : Bool × List Row × List Row := (sameB a b && (Net.small a), [[.bool (true)]], [])
def c15 : Contract
  | [[.sl false 2 a_Bridges, .sl false 4 a_Links], [.sl false 2 b_Bridges, .sl false 4 b_Links]] => some (isS Bridge false a_Bridges && isS Link false a_Links && isS Bridge false b_Bridges && isS Link false b_Links && (o15 ⟨(deS Bridge a_Bridges), (deS Link a_Links)⟩ ⟨(deS Bridge b_Bridges), (deS Link b_Links)⟩).1, (o15 ⟨(deS Bridge a_Bridges), (deS Link a_Links)⟩ ⟨(deS Bridge b_Bridges), (deS Link b_Links)⟩).2.1, (o15 ⟨(deS Bridge a_Bridges), (deS Link a_Links)⟩ ⟨(deS Bridge b_Bridges), (deS Link b_Links)⟩).2.2)
  | _ => none

theorem r15 (a : Net) (b : Net) (n : Nat) : evFn ⟨prog, Hx, 15⟩ T49.call n f15 [[.sl false 2 (enS false a.Bridges), .sl false 4 (enS false a.Links)], [.sl false 2 (enS false b.Bridges), .sl false 4 (enS false b.Links)]] = bif isS Bridge false (enS false (Net.Bridges a)) && isS Bridge false (enS false (Net.Bridges b)) && (sameB (deS Bridge (enS false (Net.Bridges a))) (deS Bridge (enS false (Net.Bridges b))) && (decide (length (deS Bridge (enS false (Net.Bridges a))) ≤ 1048576) && all (deS Bridge (enS false (Net.Bridges a))) Bridge.small)) then bif isS Link false (enS false (Net.Links a)) && isS Link false (enS false (Net.Links b)) && (sameB (deS Link (enS false (Net.Links a))) (deS Link (enS false (Net.Links b))) && decide (length (deS Link (enS false (Net.Links a))) ≤ 1048576)) then some ([[D.bool true]], []) else none else none := by kernel_rfl
theorem m15 (a : Net) (b : Net) (hpre : (o15 a b).1 = true) : evFn ⟨Go.Proofs.Try.prog, Hx, 15⟩ T49.call 0 f15 [[.sl false 2 (enS false a.Bridges), .sl false 4 (enS false a.Links)], [.sl false 2 (enS false b.Bridges), .sl false 4 (enS false b.Links)]] = some (o15 a b).2 := by
  refine (r15 a b _).trans ?_
  show _ = (some ([[.bool (true)]], []) : Option (List Row × List Row))
  replace hpre : (sameB a b && (Net.small a)) = true := hpre
  rw [Bool.and_eq_true] at hpre
  obtain ⟨h0, h1⟩ := hpre
  have := sameB_eq h0
  subst this
  unfold Net.small at h1
  try simp only [Bool.and_eq_true] at h1
  simp only [h1, bne_self_eq_false, cond_false, cond_true, sameB_self, isS_enS, deS_enS, Bool.and_self, Bool.and_true, Bool.true_and, Bool.not_true]
  try rfl
theorem s15 : SoundAt Go.Proofs.Try.prog Hx 15 c15 := soundAt_of T49_sound mixed func15 (by kernel_rfl) (by
  intro rows r h
  unfold c15 at h
  split at h
  · rename_i a_Bridges a_Links b_Bridges b_Links
    obtain ⟨hp, hr⟩ := Prod.mk.inj (Option.some.inj h)
    subst hr
    simp only [Bool.and_eq_true] at hp
    obtain ⟨⟨⟨⟨hs0, hs1⟩, hs2⟩, hs3⟩, hp⟩ := hp
    obtain ⟨xs0, rfl⟩ := isS_ex hs0
    obtain ⟨xs1, rfl⟩ := isS_ex hs1
    obtain ⟨xs2, rfl⟩ := isS_ex hs2
    obtain ⟨xs3, rfl⟩ := isS_ex hs3
    simp only [deS_enS] at hp ⊢
    exact ⟨_, m15 ⟨xs0, xs1⟩ ⟨xs2, xs3⟩ hp⟩
  · cases h)
def T15 : Table := (15, c15) :: T49
theorem T15_sound : Table.Sound Go.Proofs.Try.prog Hx T15 := Table.sound_cons s15 T49_sound
def o129 (a : List Bool) (b : List Bool) : Bool × List Row × List Row := (sameB a b && (decide (a.length ≤ 1048576)), [[.bool (true)]], [])
def c129 : Contract
  | [[.sl false 1 a], [.sl false 1 b]] => some (isS Bool false a && isS Bool false b && (o129 (deS Bool a) (deS Bool b)).1, (o129 (deS Bool a) (deS Bool b)).2.1, (o129 (deS Bool a) (deS Bool b)).2.2)
  | _ => none

def k129_0 (n : Nat) : Ex → St → RR := kThen (fun st ↦ runCode (Ctx.mk prog Hx (129)) (Table.call T15) n (codeAt [1, 1, 1] (bodyOf f129)) (Lv.mk 16 [] 16) st (kLeave (Ctx.P (Ctx.mk prog Hx (129))) (List.zip (Array.toList (Go.Func.resultTypes f129)) (Array.toList (Go.Func.results f129))) [] [])) (kLeave (Ctx.P (Ctx.mk prog Hx (129))) (List.zip (Array.toList (Go.Func.resultTypes f129)) (Array.toList (Go.Func.results f129))) [] [])
def k129_1 (n : Nat) : Ex → St → RR := kBlock (0) (k129_0 n)
def S129_0 (a : List Bool) (b : List Bool) (i0 : Int) : St := St.mk [V_ [C.d (D.sl false 1 (enS false a))], V_ [C.d (D.sl false 1 (enS false b))], U_, U_, U_, I_ i0, U_, U_, U_, U_, U_, U_, U_, U_, U_, U_, U_, U_, U_, U_, U_, U_, U_, U_, U_, U_] []
def B129_0 (n : Nat) : St → (Ex → St → RR) → RR := runCode (Ctx.mk prog Hx (129)) (Table.call T15) n (codeAt [1, 1, 0, 1, 0, 0] (bodyOf f129)) (Lv.mk 35 [(0, 0)] 16)
def X129_2 (a : List Bool) (b : List Bool) (i0 : Int) : St := St.mk [V_ [C.d (D.sl false 1 (enS false a))], V_ [C.d (D.sl false 1 (enS false b))], U_, U_, B_ false, I_ i0, U_, U_, U_, U_, U_, I_ i0, V_ [C.d (D.sl false 1 (enS false a))], I_ (ofNat (length (enS false a))), B_ true, U_, U_, V_ [C.d (D.sl false 1 (enS false a))], I_ i0, V_ [C.rptr (getD (enS false a) (toNat i0) [])], B_ (D.flag (getD (getD (enS false a) (toNat i0) []) 0 D.dead)), V_ [C.d (D.sl false 1 (enS false b))], I_ i0, V_ [C.rptr (getD (enS false b) (toNat i0) [])], B_ (D.flag (getD (getD (enS false b) (toNat i0) []) 0 D.dead)), B_ true] []
def X129_3 (a : List Bool) (b : List Bool) (i0 : Int) : St := St.mk [V_ [C.d (D.sl false 1 (enS false a))], V_ [C.d (D.sl false 1 (enS false b))], U_, U_, U_, I_ i0, U_, U_, U_, U_, U_, I_ i0, V_ [C.d (D.sl false 1 (enS false a))], I_ (ofNat (length (enS false a))), B_ false, U_, U_, U_, U_, U_, U_, U_, U_, U_, U_, U_] []
theorem q129_0 (a : List Bool) (b : List Bool) (n : Nat) (i0 : Int) (f : St → RR) (K : Ex → St → RR) : B129_0 n (S129_0 a b i0) (kThen (fun st ↦ f (St.head 0 35 67106864 st)) K) = bif decide (i0 < ofNat (length (enS false a))) then bif decide (0 ≤ i0) && decide (i0 < ofNat (length (enS false a))) then bif Leaf.fit false Leaf.bool (getD (getD (enS false a) (toNat i0) []) 0 D.dead) && true then bif decide (0 ≤ i0) && decide (i0 < ofNat (length (enS false b))) then bif Leaf.fit false Leaf.bool (getD (getD (enS false b) (toNat i0) []) 0 D.dead) && true then bif D.flag (getD (getD (enS false a) (toNat i0) []) 0 D.dead) != D.flag (getD (getD (enS false b) (toNat i0) []) 0 D.dead) then K Ex.ret (X129_2 a b i0) else f (S129_0 a b (wrap i64 (i0 + 1))) else none else none else none else none else K (Ex.exit 0) (X129_3 a b i0) := by kernel_rfl
theorem aX129_2 (a : List Bool) (b : List Bool) (n : Nat) (i0 : Int) : k129_1 n Ex.ret (X129_2 a b i0) = some ([[D.bool false]], []) := by kernel_rfl
theorem aX129_3 (a : List Bool) (b : List Bool) (n : Nat) (i0 : Int) : k129_1 n (Ex.exit 0) (X129_3 a b i0) = some ([[D.bool true]], []) := by kernel_rfl
theorem r129 (a : List Bool) (b : List Bool) (n : Nat) : evFn ⟨prog, Hx, 129⟩ T15.call n f129 [[.sl false 1 (enS false a)], [.sl false 1 (enS false b)]] = bif ofNat (length (enS false a)) != ofNat (length (enS false b)) then some ([[D.bool false]], []) else loopRun (B129_0 n) 0 35 67106864 n (S129_0 a b (0)) (k129_1 n) := by kernel_rfl
theorem m129 (a : List Bool) (b : List Bool) (hpre : (o129 a b).1 = true) : evFn ⟨Go.Proofs.Try.prog, Hx, 129⟩ T15.call (a.length + 1) f129 [[.sl false 1 (enS false a)], [.sl false 1 (enS false b)]] = some (o129 a b).2 := by
  refine (r129 a b _).trans ?_
  show _ = (some ([[.bool (true)]], []) : Option (List Row × List Row))
  replace hpre : (sameB a b && (decide (a.length ≤ 1048576))) = true := hpre
  rw [Bool.and_eq_true] at hpre
  obtain ⟨h0, h1⟩ := hpre
  have hlen : a.length ≤ 1048576 := of_decide_eq_true h1
  have := sameB_eq h0
  subst this
  simp only [bne_self_eq_false, cond_false]
  refine loop_list (xs := a) (fun i (_ : Unit) => S129_0 a a (Int.ofNat i)) (fun _ _ => True) (fun _ _ _ => some ([[D.bool true]], [])) ?_ ?_ (a.length + 1) () (by omega) trivial
  · rintro _ _ f
    refine (q129_0 a a _ _ f _).trans ?_
    simp only [enS_length, dec_lt, Nat.lt_irrefl, decide_false, cond_false]
    exact aX129_3 a a _ _
  · rintro i _ hi _ f hf
    refine (q129_0 a a _ _ f _).trans ?_
    simp only [enS_length, toNat_of, dec_lt, dec_ge, enS_get _ hi, hi, wrap_succ (show i < 4611686018427387904 by omega), decide_true, cond_true, Bool.and_self, sameB_self, bne_self_eq_false, cond_false]
    exact hf () trivial
theorem s129 : SoundAt Go.Proofs.Try.prog Hx 129 c129 := soundAt_of T15_sound mixed func129 (by kernel_rfl) (by
  intro rows r h
  unfold c129 at h
  split at h
  · rename_i a b
    obtain ⟨hp, hr⟩ := Prod.mk.inj (Option.some.inj h)
    subst hr
    simp only [Bool.and_eq_true] at hp
    obtain ⟨⟨hs0, hs1⟩, hp⟩ := hp
    obtain ⟨xs0, rfl⟩ := isS_ex hs0
    obtain ⟨xs1, rfl⟩ := isS_ex hs1
    simp only [deS_enS] at hp ⊢
    exact ⟨_, m129 xs0 xs1 hp⟩
  · cases h)
def T129 : Table := (129, c129) :: T15
theorem T129_sound : Table.Sound Go.Proofs.Try.prog Hx T129 := Table.sound_cons s129 T15_sound
def o187 (a : List Int) (b : List Int) : Bool × List Row × List Row := (sameB a b && (decide (a.length ≤ 1048576)), [[.bool (true)]], [])
def c187 : Contract
  | [[.sl false 1 a], [.sl false 1 b]] => some (isS Int false a && isS Int false b && (o187 (deS Int a) (deS Int b)).1, (o187 (deS Int a) (deS Int b)).2.1, (o187 (deS Int a) (deS Int b)).2.2)
  | _ => none

def k187_0 (n : Nat) : Ex → St → RR := kThen (fun st ↦ runCode (Ctx.mk prog Hx (187)) (Table.call T129) n (codeAt [1, 1, 1] (bodyOf f187)) (Lv.mk 16 [] 16) st (kLeave (Ctx.P (Ctx.mk prog Hx (187))) (List.zip (Array.toList (Go.Func.resultTypes f187)) (Array.toList (Go.Func.results f187))) [] [])) (kLeave (Ctx.P (Ctx.mk prog Hx (187))) (List.zip (Array.toList (Go.Func.resultTypes f187)) (Array.toList (Go.Func.results f187))) [] [])
def k187_1 (n : Nat) : Ex → St → RR := kBlock (0) (k187_0 n)
def S187_0 (a : List Int) (b : List Int) (i0 : Int) : St := St.mk [V_ [C.d (D.sl false 1 (enS false a))], V_ [C.d (D.sl false 1 (enS false b))], U_, U_, U_, I_ i0, U_, U_, U_, U_, U_, U_, U_, U_, U_, U_, U_, U_, U_, U_, U_, U_, U_, U_, U_, U_] []
def B187_0 (n : Nat) : St → (Ex → St → RR) → RR := runCode (Ctx.mk prog Hx (187)) (Table.call T129) n (codeAt [1, 1, 0, 1, 0, 0] (bodyOf f187)) (Lv.mk 35 [(0, 0)] 16)
def X187_2 (a : List Int) (b : List Int) (i0 : Int) : St := St.mk [V_ [C.d (D.sl false 1 (enS false a))], V_ [C.d (D.sl false 1 (enS false b))], U_, U_, B_ false, I_ i0, U_, U_, U_, U_, U_, I_ i0, V_ [C.d (D.sl false 1 (enS false a))], I_ (ofNat (length (enS false a))), B_ true, U_, U_, V_ [C.d (D.sl false 1 (enS false a))], I_ i0, V_ [C.rptr (getD (enS false a) (toNat i0) [])], I_ (D.num (getD (getD (enS false a) (toNat i0) []) 0 D.dead)), V_ [C.d (D.sl false 1 (enS false b))], I_ i0, V_ [C.rptr (getD (enS false b) (toNat i0) [])], I_ (D.num (getD (getD (enS false b) (toNat i0) []) 0 D.dead)), B_ true] []
def X187_3 (a : List Int) (b : List Int) (i0 : Int) : St := St.mk [V_ [C.d (D.sl false 1 (enS false a))], V_ [C.d (D.sl false 1 (enS false b))], U_, U_, U_, I_ i0, U_, U_, U_, U_, U_, I_ i0, V_ [C.d (D.sl false 1 (enS false a))], I_ (ofNat (length (enS false a))), B_ false, U_, U_, U_, U_, U_, U_, U_, U_, U_, U_, U_] []
theorem q187_0 (a : List Int) (b : List Int) (n : Nat) (i0 : Int) (f : St → RR) (K : Ex → St → RR) : B187_0 n (S187_0 a b i0) (kThen (fun st ↦ f (St.head 0 35 67106864 st)) K) = bif decide (i0 < ofNat (length (enS false a))) then bif decide (0 ≤ i0) && decide (i0 < ofNat (length (enS false a))) then bif Leaf.fit false (Leaf.int i64) (getD (getD (enS false a) (toNat i0) []) 0 D.dead) && true then bif decide (0 ≤ i0) && decide (i0 < ofNat (length (enS false b))) then bif Leaf.fit false (Leaf.int i64) (getD (getD (enS false b) (toNat i0) []) 0 D.dead) && true then bif D.num (getD (getD (enS false a) (toNat i0) []) 0 D.dead) != D.num (getD (getD (enS false b) (toNat i0) []) 0 D.dead) then K Ex.ret (X187_2 a b i0) else f (S187_0 a b (wrap i64 (i0 + 1))) else none else none else none else none else K (Ex.exit 0) (X187_3 a b i0) := by kernel_rfl
theorem aX187_2 (a : List Int) (b : List Int) (n : Nat) (i0 : Int) : k187_1 n Ex.ret (X187_2 a b i0) = some ([[D.bool false]], []) := by kernel_rfl
theorem aX187_3 (a : List Int) (b : List Int) (n : Nat) (i0 : Int) : k187_1 n (Ex.exit 0) (X187_3 a b i0) = some ([[D.bool true]], []) := by kernel_rfl
theorem r187 (a : List Int) (b : List Int) (n : Nat) : evFn ⟨prog, Hx, 187⟩ T129.call n f187 [[.sl false 1 (enS false a)], [.sl false 1 (enS false b)]] = bif ofNat (length (enS false a)) != ofNat (length (enS false b)) then some ([[D.bool false]], []) else loopRun (B187_0 n) 0 35 67106864 n (S187_0 a b (0)) (k187_1 n) := by kernel_rfl
theorem m187 (a : List Int) (b : List Int) (hpre : (o187 a b).1 = true) : evFn ⟨Go.Proofs.Try.prog, Hx, 187⟩ T129.call (a.length + 1) f187 [[.sl false 1 (enS false a)], [.sl false 1 (enS false b)]] = some (o187 a b).2 := by
  refine (r187 a b _).trans ?_
  show _ = (some ([[.bool (true)]], []) : Option (List Row × List Row))
  replace hpre : (sameB a b && (decide (a.length ≤ 1048576))) = true := hpre
  rw [Bool.and_eq_true] at hpre
  obtain ⟨h0, h1⟩ := hpre
  have hlen : a.length ≤ 1048576 := of_decide_eq_true h1
  have := sameB_eq h0
  subst this
  simp only [bne_self_eq_false, cond_false]
  refine loop_list (xs := a) (fun i (_ : Unit) => S187_0 a a (Int.ofNat i)) (fun _ _ => True) (fun _ _ _ => some ([[D.bool true]], [])) ?_ ?_ (a.length + 1) () (by omega) trivial
  · rintro _ _ f
    refine (q187_0 a a _ _ f _).trans ?_
    simp only [enS_length, dec_lt, Nat.lt_irrefl, decide_false, cond_false]
    exact aX187_3 a a _ _
  · rintro i _ hi _ f hf
    refine (q187_0 a a _ _ f _).trans ?_
    simp only [enS_length, toNat_of, dec_lt, dec_ge, enS_get _ hi, hi, wrap_succ (show i < 4611686018427387904 by omega), decide_true, cond_true, Bool.and_self, sameB_self, bne_self_eq_false, cond_false]
    exact hf () trivial
theorem s187 : SoundAt Go.Proofs.Try.prog Hx 187 c187 := soundAt_of T129_sound mixed func187 (by kernel_rfl) (by
  intro rows r h
  unfold c187 at h
  split at h
  · rename_i a b
    obtain ⟨hp, hr⟩ := Prod.mk.inj (Option.some.inj h)
    subst hr
    simp only [Bool.and_eq_true] at hp
    obtain ⟨⟨hs0, hs1⟩, hp⟩ := hp
    obtain ⟨xs0, rfl⟩ := isS_ex hs0
    obtain ⟨xs1, rfl⟩ := isS_ex hs1
    simp only [deS_enS] at hp ⊢
    exact ⟨_, m187 xs0 xs1 hp⟩
  · cases h)
def T187 : Table := (187, c187) :: T129
theorem T187_sound : Table.Sound Go.Proofs.Try.prog Hx T187 := Table.sound_cons s187 T129_sound
def o168 (a : Member) (b : Member) : Bool × List Row × List Row := (sameB a b && (Member.small a), [[.bool (true)]], [])
def c168 : Contract
  | [[.int .i64 a_Own, .sl false 1 a_In], [.int .i64 b_Own, .sl false 1 b_In]] => some (isS Int false a_In && isS Int false b_In && (o168 ⟨a_Own, (deS Int a_In)⟩ ⟨b_Own, (deS Int b_In)⟩).1, (o168 ⟨a_Own, (deS Int a_In)⟩ ⟨b_Own, (deS Int b_In)⟩).2.1, (o168 ⟨a_Own, (deS Int a_In)⟩ ⟨b_Own, (deS Int b_In)⟩).2.2)
  | _ => none

theorem r168 (a : Member) (b : Member) (n : Nat) : evFn ⟨prog, Hx, 168⟩ T187.call n f168 [[.int .i64 a.Own, .sl false 1 (enS false a.In)], [.int .i64 b.Own, .sl false 1 (enS false b.In)]] = bif Member.Own a != Member.Own b then some ([[D.bool false]], []) else bif isS Int false (enS false (Member.In a)) && isS Int false (enS false (Member.In b)) && (sameB (deS Int (enS false (Member.In a))) (deS Int (enS false (Member.In b))) && decide (length (deS Int (enS false (Member.In a))) ≤ 1048576)) then some ([[D.bool true]], []) else none := by kernel_rfl
theorem m168 (a : Member) (b : Member) (hpre : (o168 a b).1 = true) : evFn ⟨Go.Proofs.Try.prog, Hx, 168⟩ T187.call 0 f168 [[.int .i64 a.Own, .sl false 1 (enS false a.In)], [.int .i64 b.Own, .sl false 1 (enS false b.In)]] = some (o168 a b).2 := by
  refine (r168 a b _).trans ?_
  show _ = (some ([[.bool (true)]], []) : Option (List Row × List Row))
  replace hpre : (sameB a b && (Member.small a)) = true := hpre
  rw [Bool.and_eq_true] at hpre
  obtain ⟨h0, h1⟩ := hpre
  have := sameB_eq h0
  subst this
  unfold Member.small at h1
  try simp only [Bool.and_eq_true] at h1
  simp only [h1, bne_self_eq_false, cond_false, cond_true, sameB_self, isS_enS, deS_enS, Bool.and_self, Bool.and_true, Bool.true_and, Bool.not_true]
  try rfl
theorem s168 : SoundAt Go.Proofs.Try.prog Hx 168 c168 := soundAt_of T187_sound mixed func168 (by kernel_rfl) (by
  intro rows r h
  unfold c168 at h
  split at h
  · rename_i a_Own a_In b_Own b_In
    obtain ⟨hp, hr⟩ := Prod.mk.inj (Option.some.inj h)
    subst hr
    simp only [Bool.and_eq_true] at hp
    obtain ⟨⟨hs0, hs1⟩, hp⟩ := hp
    obtain ⟨xs0, rfl⟩ := isS_ex hs0
    obtain ⟨xs1, rfl⟩ := isS_ex hs1
    simp only [deS_enS] at hp ⊢
    exact ⟨_, m168 ⟨a_Own, xs0⟩ ⟨b_Own, xs1⟩ hp⟩
  · cases h)
def T168 : Table := (168, c168) :: T187
theorem T168_sound : Table.Sound Go.Proofs.Try.prog Hx T168 := Table.sound_cons s168 T187_sound
def o130 (a : List Member) (b : List Member) : Bool × List Row × List Row := (sameB a b && ((decide (a.length ≤ 1048576) && a.all Member.small)), [[.bool (true)]], [])
def c130 : Contract
  | [[.sl false 2 a], [.sl false 2 b]] => some (isS Member false a && isS Member false b && (o130 (deS Member a) (deS Member b)).1, (o130 (deS Member a) (deS Member b)).2.1, (o130 (deS Member a) (deS Member b)).2.2)
  | _ => none

def k130_0 (n : Nat) : Ex → St → RR := kThen (fun st ↦ runCode (Ctx.mk prog Hx (130)) (Table.call T168) n (codeAt [1, 1, 1] (bodyOf f130)) (Lv.mk 16 [] 16) st (kLeave (Ctx.P (Ctx.mk prog Hx (130))) (List.zip (Array.toList (Go.Func.resultTypes f130)) (Array.toList (Go.Func.results f130))) [] [])) (kLeave (Ctx.P (Ctx.mk prog Hx (130))) (List.zip (Array.toList (Go.Func.resultTypes f130)) (Array.toList (Go.Func.results f130))) [] [])
def k130_1 (n : Nat) : Ex → St → RR := kBlock (0) (k130_0 n)
def S130_0 (a : List Member) (b : List Member) (i0 : Int) : St := St.mk [V_ [C.d (D.sl false 2 (enS false a))], V_ [C.d (D.sl false 2 (enS false b))], U_, U_, U_, I_ i0, U_, U_, U_, U_, U_, U_, U_, U_, U_, U_, U_, U_, U_, U_, U_, U_, U_, U_, U_, U_, U_] []
def B130_0 (n : Nat) : St → (Ex → St → RR) → RR := runCode (Ctx.mk prog Hx (130)) (Table.call T168) n (codeAt [1, 1, 0, 1, 0, 0] (bodyOf f130)) (Lv.mk 35 [(0, 0)] 16)
def X130_2 (a : List Member) (b : List Member) (i0 : Int) : St := St.mk [V_ [C.d (D.sl false 2 (enS false a))], V_ [C.d (D.sl false 2 (enS false b))], U_, U_, U_, I_ i0, U_, U_, U_, U_, U_, I_ i0, V_ [C.d (D.sl false 2 (enS false a))], I_ (ofNat (length (enS false a))), B_ false, U_, U_, U_, U_, U_, U_, U_, U_, U_, U_, U_, U_] []
theorem q130_0 (a : List Member) (b : List Member) (n : Nat) (i0 : Int) (f : St → RR) (K : Ex → St → RR) : B130_0 n (S130_0 a b i0) (kThen (fun st ↦ f (St.head 0 35 134215728 st)) K) = bif decide (i0 < ofNat (length (enS false a))) then bif decide (0 ≤ i0) && decide (i0 < ofNat (length (enS false a))) then bif Leaf.fit false (Leaf.int i64) (getD (getD (enS false a) (toNat i0) []) 0 D.dead) && (Leaf.fit false (Leaf.sl 1 true) (getD (getD (enS false a) (toNat i0) []) 1 D.dead) && true) then bif decide (0 ≤ i0) && decide (i0 < ofNat (length (enS false b))) then bif Leaf.fit false (Leaf.int i64) (getD (getD (enS false b) (toNat i0) []) 0 D.dead) && (Leaf.fit false (Leaf.sl 1 true) (getD (getD (enS false b) (toNat i0) []) 1 D.dead) && true) then bif isS Int false (D.rows (getD (getD (enS false a) (toNat i0) []) 1 D.dead)) && isS Int false (D.rows (getD (getD (enS false b) (toNat i0) []) 1 D.dead)) && (sameB (Member.mk (D.num (getD (getD (enS false a) (toNat i0) []) 0 D.dead)) (deS Int (D.rows (getD (getD (enS false a) (toNat i0) []) 1 D.dead)))) (Member.mk (D.num (getD (getD (enS false b) (toNat i0) []) 0 D.dead)) (deS Int (D.rows (getD (getD (enS false b) (toNat i0) []) 1 D.dead)))) && Member.small (Member.mk (D.num (getD (getD (enS false a) (toNat i0) []) 0 D.dead)) (deS Int (D.rows (getD (getD (enS false a) (toNat i0) []) 1 D.dead))))) then f (S130_0 a b (wrap i64 (i0 + 1))) else none else none else none else none else none else K (Ex.exit 0) (X130_2 a b i0) := by kernel_rfl
theorem aX130_2 (a : List Member) (b : List Member) (n : Nat) (i0 : Int) : k130_1 n (Ex.exit 0) (X130_2 a b i0) = some ([[D.bool true]], []) := by kernel_rfl
theorem r130 (a : List Member) (b : List Member) (n : Nat) : evFn ⟨prog, Hx, 130⟩ T168.call n f130 [[.sl false 2 (enS false a)], [.sl false 2 (enS false b)]] = bif ofNat (length (enS false a)) != ofNat (length (enS false b)) then some ([[D.bool false]], []) else loopRun (B130_0 n) 0 35 134215728 n (S130_0 a b (0)) (k130_1 n) := by kernel_rfl
theorem m130 (a : List Member) (b : List Member) (hpre : (o130 a b).1 = true) : evFn ⟨Go.Proofs.Try.prog, Hx, 130⟩ T168.call (a.length + 1) f130 [[.sl false 2 (enS false a)], [.sl false 2 (enS false b)]] = some (o130 a b).2 := by
  refine (r130 a b _).trans ?_
  show _ = (some ([[.bool (true)]], []) : Option (List Row × List Row))
  replace hpre : (sameB a b && ((decide (a.length ≤ 1048576) && a.all Member.small))) = true := hpre
  rw [Bool.and_eq_true, Bool.and_eq_true] at hpre
  obtain ⟨h0, h1, h2⟩ := hpre
  have hlen := of_decide_eq_true h1
  have := sameB_eq h0
  subst this
  simp only [bne_self_eq_false, cond_false]
  refine loop_list (xs := a) (fun i (_ : Unit) => S130_0 a a (Int.ofNat i)) (fun _ _ => True) (fun _ _ _ => some ([[D.bool true]], [])) ?_ ?_ (a.length + 1) () (by omega) trivial
  · rintro _ _ f
    refine (q130_0 a a _ _ f _).trans ?_
    rw [end_lt, cond_false]
    exact aX130_2 a a _ _
  · rintro i _ hi _ f hf
    refine (q130_0 a a _ _ f _).trans ?_
    have hel := List.all_eq_true.1 h2 _ (List.getElem_mem hi)
    simp only [enS_length, toNat_of, dec_lt, dec_ge, decide_true, decide_false, cond_true, cond_false, Bool.and_self, Bool.and_true, Bool.true_and, Bool.not_true, Bool.not_false, Nat.lt_irrefl, Nat.zero_add, isS_enS, deS_enS, isS_nil, deS_nil, List.nil_append, lendRows_enS, deepRows_enS, noSl_u8, En.enc, List.getD_cons_zero, List.getD_cons_succ, D.num, D.flag, D.text, D.rows, Leaf.fit, List.append_eq, TReader.eta, Frame.eta, Heard.eta, Member.eta, Card.eta, Out1.eta, Vec.eta, Port.eta, Bridge.eta, In.eta, Out.eta, Link.eta, Net.eta, TEnd.eta, Minder.eta, Reg.eta, Wire.eta, Box.eta, Deed.eta, Bpdu.eta, Visit.eta, Fabric.eta, Got.eta, TRide.eta, Up.eta, Copy.eta, Bucket.eta, Snap.eta, TL9Cur.eta, TL21In.eta, enS_get _ hi, hi, wrap_succ (show i < 4611686018427387904 by omega), hel, sameB_self]
    exact hf () trivial
theorem s130 : SoundAt Go.Proofs.Try.prog Hx 130 c130 := soundAt_of T168_sound mixed func130 (by kernel_rfl) (by
  intro rows r h
  unfold c130 at h
  split at h
  · rename_i a b
    obtain ⟨hp, hr⟩ := Prod.mk.inj (Option.some.inj h)
    subst hr
    simp only [Bool.and_eq_true] at hp
    obtain ⟨⟨hs0, hs1⟩, hp⟩ := hp
    obtain ⟨xs0, rfl⟩ := isS_ex hs0
    obtain ⟨xs1, rfl⟩ := isS_ex hs1
    simp only [deS_enS] at hp ⊢
    exact ⟨_, m130 xs0 xs1 hp⟩
  · cases h)
def T130 : Table := (130, c130) :: T168
theorem T130_sound : Table.Sound Go.Proofs.Try.prog Hx T130 := Table.sound_cons s130 T168_sound
def o169 (a : Heard) (b : Heard) : Bool × List Row × List Row := (sameB a b, [[.bool (true)]], [])
def c169 : Contract
  | [[.int .i64 a_Addr, .int .i64 a_Vlan, .int .i64 a_Port, .int .i64 a_Left], [.int .i64 b_Addr, .int .i64 b_Vlan, .int .i64 b_Port, .int .i64 b_Left]] => some ((o169 ⟨a_Addr, a_Vlan, a_Port, a_Left⟩ ⟨b_Addr, b_Vlan, b_Port, b_Left⟩).1, (o169 ⟨a_Addr, a_Vlan, a_Port, a_Left⟩ ⟨b_Addr, b_Vlan, b_Port, b_Left⟩).2.1, (o169 ⟨a_Addr, a_Vlan, a_Port, a_Left⟩ ⟨b_Addr, b_Vlan, b_Port, b_Left⟩).2.2)
  | _ => none

theorem r169 (a : Heard) (b : Heard) (n : Nat) : evFn ⟨prog, Hx, 169⟩ T130.call n f169 [[.int .i64 a.Addr, .int .i64 a.Vlan, .int .i64 a.Port, .int .i64 a.Left], [.int .i64 b.Addr, .int .i64 b.Vlan, .int .i64 b.Port, .int .i64 b.Left]] = bif Heard.Addr a != Heard.Addr b then some ([[D.bool false]], []) else bif Heard.Vlan a != Heard.Vlan b then some ([[D.bool false]], []) else bif Heard.Port a != Heard.Port b then some ([[D.bool false]], []) else bif Heard.Left a != Heard.Left b then some ([[D.bool false]], []) else some ([[D.bool true]], []) := by kernel_rfl
theorem m169 (a : Heard) (b : Heard) (hpre : (o169 a b).1 = true) : evFn ⟨Go.Proofs.Try.prog, Hx, 169⟩ T130.call 0 f169 [[.int .i64 a.Addr, .int .i64 a.Vlan, .int .i64 a.Port, .int .i64 a.Left], [.int .i64 b.Addr, .int .i64 b.Vlan, .int .i64 b.Port, .int .i64 b.Left]] = some (o169 a b).2 := by
  refine (r169 a b _).trans ?_
  show _ = (some ([[.bool (true)]], []) : Option (List Row × List Row))
  replace hpre : (sameB a b) = true := hpre
  have := sameB_eq hpre
  subst this
  simp only [bne_self_eq_false, cond_false, sameB_self, cond_true, Bool.not_true]
theorem s169 : SoundAt Go.Proofs.Try.prog Hx 169 c169 := soundAt_of T130_sound mixed func169 (by kernel_rfl) (by
  intro rows r h
  unfold c169 at h
  split at h
  · rename_i a_Addr a_Vlan a_Port a_Left b_Addr b_Vlan b_Port b_Left
    obtain ⟨hp, hr⟩ := Prod.mk.inj (Option.some.inj h)
    subst hr
    exact ⟨_, m169 ⟨a_Addr, a_Vlan, a_Port, a_Left⟩ ⟨b_Addr, b_Vlan, b_Port, b_Left⟩ hp⟩
  · cases h)
def T169 : Table := (169, c169) :: T130
theorem T169_sound : Table.Sound Go.Proofs.Try.prog Hx T169 := Table.sound_cons s169 T130_sound
def o131 (a : List Heard) (b : List Heard) : Bool × List Row × List Row := (sameB a b && (decide (a.length ≤ 1048576)), [[.bool (true)]], [])
def c131 : Contract
  | [[.sl false 4 a], [.sl false 4 b]] => some (isS Heard false a && isS Heard false b && (o131 (deS Heard a) (deS Heard b)).1, (o131 (deS Heard a) (deS Heard b)).2.1, (o131 (deS Heard a) (deS Heard b)).2.2)
  | _ => none

def k131_0 (n : Nat) : Ex → St → RR := kThen (fun st ↦ runCode (Ctx.mk prog Hx (131)) (Table.call T169) n (codeAt [1, 1, 1] (bodyOf f131)) (Lv.mk 16 [] 16) st (kLeave (Ctx.P (Ctx.mk prog Hx (131))) (List.zip (Array.toList (Go.Func.resultTypes f131)) (Array.toList (Go.Func.results f131))) [] [])) (kLeave (Ctx.P (Ctx.mk prog Hx (131))) (List.zip (Array.toList (Go.Func.resultTypes f131)) (Array.toList (Go.Func.results f131))) [] [])
def k131_1 (n : Nat) : Ex → St → RR := kBlock (0) (k131_0 n)
def S131_0 (a : List Heard) (b : List Heard) (i0 : Int) : St := St.mk [V_ [C.d (D.sl false 4 (enS false a))], V_ [C.d (D.sl false 4 (enS false b))], U_, U_, U_, I_ i0, U_, U_, U_, U_, U_, U_, U_, U_, U_, U_, U_, U_, U_, U_, U_, U_, U_, U_, U_, U_, U_] []
def B131_0 (n : Nat) : St → (Ex → St → RR) → RR := runCode (Ctx.mk prog Hx (131)) (Table.call T169) n (codeAt [1, 1, 0, 1, 0, 0] (bodyOf f131)) (Lv.mk 35 [(0, 0)] 16)
def X131_2 (a : List Heard) (b : List Heard) (i0 : Int) : St := St.mk [V_ [C.d (D.sl false 4 (enS false a))], V_ [C.d (D.sl false 4 (enS false b))], U_, U_, U_, I_ i0, U_, U_, U_, U_, U_, I_ i0, V_ [C.d (D.sl false 4 (enS false a))], I_ (ofNat (length (enS false a))), B_ false, U_, U_, U_, U_, U_, U_, U_, U_, U_, U_, U_, U_] []
theorem q131_0 (a : List Heard) (b : List Heard) (n : Nat) (i0 : Int) (f : St → RR) (K : Ex → St → RR) : B131_0 n (S131_0 a b i0) (kThen (fun st ↦ f (St.head 0 35 134215728 st)) K) = bif decide (i0 < ofNat (length (enS false a))) then bif decide (0 ≤ i0) && decide (i0 < ofNat (length (enS false a))) then bif Leaf.fit false (Leaf.int i64) (getD (getD (enS false a) (toNat i0) []) 0 D.dead) && (Leaf.fit false (Leaf.int i64) (getD (getD (enS false a) (toNat i0) []) 1 D.dead) && (Leaf.fit false (Leaf.int i64) (getD (getD (enS false a) (toNat i0) []) 2 D.dead) && (Leaf.fit false (Leaf.int i64) (getD (getD (enS false a) (toNat i0) []) 3 D.dead) && true))) then bif decide (0 ≤ i0) && decide (i0 < ofNat (length (enS false b))) then bif Leaf.fit false (Leaf.int i64) (getD (getD (enS false b) (toNat i0) []) 0 D.dead) && (Leaf.fit false (Leaf.int i64) (getD (getD (enS false b) (toNat i0) []) 1 D.dead) && (Leaf.fit false (Leaf.int i64) (getD (getD (enS false b) (toNat i0) []) 2 D.dead) && (Leaf.fit false (Leaf.int i64) (getD (getD (enS false b) (toNat i0) []) 3 D.dead) && true))) then bif sameB (Heard.mk (D.num (getD (getD (enS false a) (toNat i0) []) 0 D.dead)) (D.num (getD (getD (enS false a) (toNat i0) []) 1 D.dead)) (D.num (getD (getD (enS false a) (toNat i0) []) 2 D.dead)) (D.num (getD (getD (enS false a) (toNat i0) []) 3 D.dead))) (Heard.mk (D.num (getD (getD (enS false b) (toNat i0) []) 0 D.dead)) (D.num (getD (getD (enS false b) (toNat i0) []) 1 D.dead)) (D.num (getD (getD (enS false b) (toNat i0) []) 2 D.dead)) (D.num (getD (getD (enS false b) (toNat i0) []) 3 D.dead))) then f (S131_0 a b (wrap i64 (i0 + 1))) else none else none else none else none else none else K (Ex.exit 0) (X131_2 a b i0) := by kernel_rfl
theorem aX131_2 (a : List Heard) (b : List Heard) (n : Nat) (i0 : Int) : k131_1 n (Ex.exit 0) (X131_2 a b i0) = some ([[D.bool true]], []) := by kernel_rfl
theorem r131 (a : List Heard) (b : List Heard) (n : Nat) : evFn ⟨prog, Hx, 131⟩ T169.call n f131 [[.sl false 4 (enS false a)], [.sl false 4 (enS false b)]] = bif ofNat (length (enS false a)) != ofNat (length (enS false b)) then some ([[D.bool false]], []) else loopRun (B131_0 n) 0 35 134215728 n (S131_0 a b (0)) (k131_1 n) := by kernel_rfl
theorem m131 (a : List Heard) (b : List Heard) (hpre : (o131 a b).1 = true) : evFn ⟨Go.Proofs.Try.prog, Hx, 131⟩ T169.call (a.length + 1) f131 [[.sl false 4 (enS false a)], [.sl false 4 (enS false b)]] = some (o131 a b).2 := by
  refine (r131 a b _).trans ?_
  show _ = (some ([[.bool (true)]], []) : Option (List Row × List Row))
  replace hpre : (sameB a b && (decide (a.length ≤ 1048576))) = true := hpre
  rw [Bool.and_eq_true] at hpre
  obtain ⟨h0, h1⟩ := hpre
  have hlen : a.length ≤ 1048576 := of_decide_eq_true h1
  have := sameB_eq h0
  subst this
  simp only [bne_self_eq_false, cond_false]
  refine loop_list (xs := a) (fun i (_ : Unit) => S131_0 a a (Int.ofNat i)) (fun _ _ => True) (fun _ _ _ => some ([[D.bool true]], [])) ?_ ?_ (a.length + 1) () (by omega) trivial
  · rintro _ _ f
    refine (q131_0 a a _ _ f _).trans ?_
    simp only [enS_length, dec_lt, Nat.lt_irrefl, decide_false, cond_false]
    exact aX131_2 a a _ _
  · rintro i _ hi _ f hf
    refine (q131_0 a a _ _ f _).trans ?_
    simp only [enS_length, toNat_of, dec_lt, dec_ge, enS_get _ hi, hi, wrap_succ (show i < 4611686018427387904 by omega), decide_true, cond_true, Bool.and_self, sameB_self, bne_self_eq_false, cond_false]
    exact hf () trivial
theorem s131 : SoundAt Go.Proofs.Try.prog Hx 131 c131 := soundAt_of T169_sound mixed func131 (by kernel_rfl) (by
  intro rows r h
  unfold c131 at h
  split at h
  · rename_i a b
    obtain ⟨hp, hr⟩ := Prod.mk.inj (Option.some.inj h)
    subst hr
    simp only [Bool.and_eq_true] at hp
    obtain ⟨⟨hs0, hs1⟩, hp⟩ := hp
    obtain ⟨xs0, rfl⟩ := isS_ex hs0
    obtain ⟨xs1, rfl⟩ := isS_ex hs1
    simp only [deS_enS] at hp ⊢
    exact ⟨_, m131 xs0 xs1 hp⟩
  · cases h)
def T131 : Table := (131, c131) :: T169
theorem T131_sound : Table.Sound Go.Proofs.Try.prog Hx T131 := Table.sound_cons s131 T169_sound
def o77 (a : Card) (b : Card) : Bool × List Row × List Row := (sameB a b && (Card.small a), [[.bool (true)]], [])
def c77 : Contract
  | [[.sl false 1 a_Open, .sl false 2 a_Members, .sl false 4 a_Table], [.sl false 1 b_Open, .sl false 2 b_Members, .sl false 4 b_Table]] => some (isS Bool false a_Open && isS Member false a_Members && isS Heard false a_Table && isS Bool false b_Open && isS Member false b_Members && isS Heard false b_Table && (o77 ⟨(deS Bool a_Open), (deS Member a_Members), (deS Heard a_Table)⟩ ⟨(deS Bool b_Open), (deS Member b_Members), (deS Heard b_Table)⟩).1, (o77 ⟨(deS Bool a_Open), (deS Member a_Members), (deS Heard a_Table)⟩ ⟨(deS Bool b_Open), (deS Member b_Members), (deS Heard b_Table)⟩).2.1, (o77 ⟨(deS Bool a_Open), (deS Member a_Members), (deS Heard a_Table)⟩ ⟨(deS Bool b_Open), (deS Member b_Members), (deS Heard b_Table)⟩).2.2)
  | _ => none

theorem r77 (a : Card) (b : Card) (n : Nat) : evFn ⟨prog, Hx, 77⟩ T131.call n f77 [[.sl false 1 (enS false a.Open), .sl false 2 (enS false a.Members), .sl false 4 (enS false a.Table)], [.sl false 1 (enS false b.Open), .sl false 2 (enS false b.Members), .sl false 4 (enS false b.Table)]] = bif isS Bool false (enS false (Card.Open a)) && isS Bool false (enS false (Card.Open b)) && (sameB (deS Bool (enS false (Card.Open a))) (deS Bool (enS false (Card.Open b))) && decide (length (deS Bool (enS false (Card.Open a))) ≤ 1048576)) then bif isS Member false (enS false (Card.Members a)) && isS Member false (enS false (Card.Members b)) && (sameB (deS Member (enS false (Card.Members a))) (deS Member (enS false (Card.Members b))) && (decide (length (deS Member (enS false (Card.Members a))) ≤ 1048576) && all (deS Member (enS false (Card.Members a))) Member.small)) then bif isS Heard false (enS false (Card.Table a)) && isS Heard false (enS false (Card.Table b)) && (sameB (deS Heard (enS false (Card.Table a))) (deS Heard (enS false (Card.Table b))) && decide (length (deS Heard (enS false (Card.Table a))) ≤ 1048576)) then some ([[D.bool true]], []) else none else none else none := by kernel_rfl
theorem m77 (a : Card) (b : Card) (hpre : (o77 a b).1 = true) : evFn ⟨Go.Proofs.Try.prog, Hx, 77⟩ T131.call 0 f77 [[.sl false 1 (enS false a.Open), .sl false 2 (enS false a.Members), .sl false 4 (enS false a.Table)], [.sl false 1 (enS false b.Open), .sl false 2 (enS false b.Members), .sl false 4 (enS false b.Table)]] = some (o77 a b).2 := by
  refine (r77 a b _).trans ?_
  show _ = (some ([[.bool (true)]], []) : Option (List Row × List Row))
  replace hpre : (sameB a b && (Card.small a)) = true := hpre
  rw [Bool.and_eq_true] at hpre
  obtain ⟨h0, h1⟩ := hpre
  have := sameB_eq h0
  subst this
  unfold Card.small at h1
  try simp only [Bool.and_eq_true] at h1
  simp only [h1, bne_self_eq_false, cond_false, cond_true, sameB_self, isS_enS, deS_enS, Bool.and_self, Bool.and_true, Bool.true_and, Bool.not_true]
  try rfl
theorem s77 : SoundAt Go.Proofs.Try.prog Hx 77 c77 := soundAt_of T131_sound mixed func77 (by kernel_rfl) (by
  intro rows r h
  unfold c77 at h
  split at h
  · rename_i a_Open a_Members a_Table b_Open b_Members b_Table
    obtain ⟨hp, hr⟩ := Prod.mk.inj (Option.some.inj h)
    subst hr
    simp only [Bool.and_eq_true] at hp
    obtain ⟨⟨⟨⟨⟨⟨hs0, hs1⟩, hs2⟩, hs3⟩, hs4⟩, hs5⟩, hp⟩ := hp
    obtain ⟨xs0, rfl⟩ := isS_ex hs0
    obtain ⟨xs1, rfl⟩ := isS_ex hs1
    obtain ⟨xs2, rfl⟩ := isS_ex hs2
    obtain ⟨xs3, rfl⟩ := isS_ex hs3
    obtain ⟨xs4, rfl⟩ := isS_ex hs4
    obtain ⟨xs5, rfl⟩ := isS_ex hs5
    simp only [deS_enS] at hp ⊢
    exact ⟨_, m77 ⟨xs0, xs1, xs2⟩ ⟨xs3, xs4, xs5⟩ hp⟩
  · cases h)
def T77 : Table := (77, c77) :: T131
theorem T77_sound : Table.Sound Go.Proofs.Try.prog Hx T77 := Table.sound_cons s77 T131_sound
def o39 (a : List Card) (b : List Card) : Bool × List Row × List Row := (sameB a b && ((decide (a.length ≤ 1048576) && a.all Card.small)), [[.bool (true)]], [])
def c39 : Contract
  | [[.sl false 3 a], [.sl false 3 b]] => some (isS Card false a && isS Card false b && (o39 (deS Card a) (deS Card b)).1, (o39 (deS Card a) (deS Card b)).2.1, (o39 (deS Card a) (deS Card b)).2.2)
  | _ => none

def k39_0 (n : Nat) : Ex → St → RR := kThen (fun st ↦ runCode (Ctx.mk prog Hx (39)) (Table.call T77) n (codeAt [1, 1, 1] (bodyOf f39)) (Lv.mk 16 [] 16) st (kLeave (Ctx.P (Ctx.mk prog Hx (39))) (List.zip (Array.toList (Go.Func.resultTypes f39)) (Array.toList (Go.Func.results f39))) [] [])) (kLeave (Ctx.P (Ctx.mk prog Hx (39))) (List.zip (Array.toList (Go.Func.resultTypes f39)) (Array.toList (Go.Func.results f39))) [] [])
def k39_1 (n : Nat) : Ex → St → RR := kBlock (0) (k39_0 n)
def S39_0 (a : List Card) (b : List Card) (i0 : Int) : St := St.mk [V_ [C.d (D.sl false 3 (enS false a))], V_ [C.d (D.sl false 3 (enS false b))], U_, U_, U_, I_ i0, U_, U_, U_, U_, U_, U_, U_, U_, U_, U_, U_, U_, U_, U_, U_, U_, U_, U_, U_, U_, U_] []
def B39_0 (n : Nat) : St → (Ex → St → RR) → RR := runCode (Ctx.mk prog Hx (39)) (Table.call T77) n (codeAt [1, 1, 0, 1, 0, 0] (bodyOf f39)) (Lv.mk 35 [(0, 0)] 16)
def X39_2 (a : List Card) (b : List Card) (i0 : Int) : St := St.mk [V_ [C.d (D.sl false 3 (enS false a))], V_ [C.d (D.sl false 3 (enS false b))], U_, U_, U_, I_ i0, U_, U_, U_, U_, U_, I_ i0, V_ [C.d (D.sl false 3 (enS false a))], I_ (ofNat (length (enS false a))), B_ false, U_, U_, U_, U_, U_, U_, U_, U_, U_, U_, U_, U_] []
theorem q39_0 (a : List Card) (b : List Card) (n : Nat) (i0 : Int) (f : St → RR) (K : Ex → St → RR) : B39_0 n (S39_0 a b i0) (kThen (fun st ↦ f (St.head 0 35 134215728 st)) K) = bif decide (i0 < ofNat (length (enS false a))) then bif decide (0 ≤ i0) && decide (i0 < ofNat (length (enS false a))) then bif Leaf.fit false (Leaf.sl 1 true) (getD (getD (enS false a) (toNat i0) []) 0 D.dead) && (Leaf.fit false (Leaf.sl 2 false) (getD (getD (enS false a) (toNat i0) []) 1 D.dead) && (Leaf.fit false (Leaf.sl 4 true) (getD (getD (enS false a) (toNat i0) []) 2 D.dead) && true)) then bif decide (0 ≤ i0) && decide (i0 < ofNat (length (enS false b))) then bif Leaf.fit false (Leaf.sl 1 true) (getD (getD (enS false b) (toNat i0) []) 0 D.dead) && (Leaf.fit false (Leaf.sl 2 false) (getD (getD (enS false b) (toNat i0) []) 1 D.dead) && (Leaf.fit false (Leaf.sl 4 true) (getD (getD (enS false b) (toNat i0) []) 2 D.dead) && true)) then bif isS Bool false (D.rows (getD (getD (enS false a) (toNat i0) []) 0 D.dead)) && isS Member false (D.rows (getD (getD (enS false a) (toNat i0) []) 1 D.dead)) && isS Heard false (D.rows (getD (getD (enS false a) (toNat i0) []) 2 D.dead)) && isS Bool false (D.rows (getD (getD (enS false b) (toNat i0) []) 0 D.dead)) && isS Member false (D.rows (getD (getD (enS false b) (toNat i0) []) 1 D.dead)) && isS Heard false (D.rows (getD (getD (enS false b) (toNat i0) []) 2 D.dead)) && (sameB (Card.mk (deS Bool (D.rows (getD (getD (enS false a) (toNat i0) []) 0 D.dead))) (deS Member (D.rows (getD (getD (enS false a) (toNat i0) []) 1 D.dead))) (deS Heard (D.rows (getD (getD (enS false a) (toNat i0) []) 2 D.dead)))) (Card.mk (deS Bool (D.rows (getD (getD (enS false b) (toNat i0) []) 0 D.dead))) (deS Member (D.rows (getD (getD (enS false b) (toNat i0) []) 1 D.dead))) (deS Heard (D.rows (getD (getD (enS false b) (toNat i0) []) 2 D.dead)))) && Card.small (Card.mk (deS Bool (D.rows (getD (getD (enS false a) (toNat i0) []) 0 D.dead))) (deS Member (D.rows (getD (getD (enS false a) (toNat i0) []) 1 D.dead))) (deS Heard (D.rows (getD (getD (enS false a) (toNat i0) []) 2 D.dead))))) then f (S39_0 a b (wrap i64 (i0 + 1))) else none else none else none else none else none else K (Ex.exit 0) (X39_2 a b i0) := by kernel_rfl
theorem aX39_2 (a : List Card) (b : List Card) (n : Nat) (i0 : Int) : k39_1 n (Ex.exit 0) (X39_2 a b i0) = some ([[D.bool true]], []) := by kernel_rfl
theorem r39 (a : List Card) (b : List Card) (n : Nat) : evFn ⟨prog, Hx, 39⟩ T77.call n f39 [[.sl false 3 (enS false a)], [.sl false 3 (enS false b)]] = bif ofNat (length (enS false a)) != ofNat (length (enS false b)) then some ([[D.bool false]], []) else loopRun (B39_0 n) 0 35 134215728 n (S39_0 a b (0)) (k39_1 n) := by kernel_rfl
theorem m39 (a : List Card) (b : List Card) (hpre : (o39 a b).1 = true) : evFn ⟨Go.Proofs.Try.prog, Hx, 39⟩ T77.call (a.length + 1) f39 [[.sl false 3 (enS false a)], [.sl false 3 (enS false b)]] = some (o39 a b).2 := by
  refine (r39 a b _).trans ?_
  show _ = (some ([[.bool (true)]], []) : Option (List Row × List Row))
  replace hpre : (sameB a b && ((decide (a.length ≤ 1048576) && a.all Card.small))) = true := hpre
  rw [Bool.and_eq_true, Bool.and_eq_true] at hpre
  obtain ⟨h0, h1, h2⟩ := hpre
  have hlen := of_decide_eq_true h1
  have := sameB_eq h0
  subst this
  simp only [bne_self_eq_false, cond_false]
  refine loop_list (xs := a) (fun i (_ : Unit) => S39_0 a a (Int.ofNat i)) (fun _ _ => True) (fun _ _ _ => some ([[D.bool true]], [])) ?_ ?_ (a.length + 1) () (by omega) trivial
  · rintro _ _ f
    refine (q39_0 a a _ _ f _).trans ?_
    rw [end_lt, cond_false]
    exact aX39_2 a a _ _
  · rintro i _ hi _ f hf
    refine (q39_0 a a _ _ f _).trans ?_
    have hel := List.all_eq_true.1 h2 _ (List.getElem_mem hi)
    simp only [enS_length, toNat_of, dec_lt, dec_ge, decide_true, decide_false, cond_true, cond_false, Bool.and_self, Bool.and_true, Bool.true_and, Bool.not_true, Bool.not_false, Nat.lt_irrefl, Nat.zero_add, isS_enS, deS_enS, isS_nil, deS_nil, List.nil_append, lendRows_enS, deepRows_enS, noSl_u8, En.enc, List.getD_cons_zero, List.getD_cons_succ, D.num, D.flag, D.text, D.rows, Leaf.fit, List.append_eq, TReader.eta, Frame.eta, Heard.eta, Member.eta, Card.eta, Out1.eta, Vec.eta, Port.eta, Bridge.eta, In.eta, Out.eta, Link.eta, Net.eta, TEnd.eta, Minder.eta, Reg.eta, Wire.eta, Box.eta, Deed.eta, Bpdu.eta, Visit.eta, Fabric.eta, Got.eta, TRide.eta, Up.eta, Copy.eta, Bucket.eta, Snap.eta, TL9Cur.eta, TL21In.eta, enS_get _ hi, hi, wrap_succ (show i < 4611686018427387904 by omega), hel, sameB_self]
    exact hf () trivial
theorem s39 : SoundAt Go.Proofs.Try.prog Hx 39 c39 := soundAt_of T77_sound mixed func39 (by kernel_rfl) (by
  intro rows r h
  unfold c39 at h
  split at h
  · rename_i a b
    obtain ⟨hp, hr⟩ := Prod.mk.inj (Option.some.inj h)
    subst hr
    simp only [Bool.and_eq_true] at hp
    obtain ⟨⟨hs0, hs1⟩, hp⟩ := hp
    obtain ⟨xs0, rfl⟩ := isS_ex hs0
    obtain ⟨xs1, rfl⟩ := isS_ex hs1
    simp only [deS_enS] at hp ⊢
    exact ⟨_, m39 xs0 xs1 hp⟩
  · cases h)
def T39 : Table := (39, c39) :: T77
theorem T39_sound : Table.Sound Go.Proofs.Try.prog Hx T39 := Table.sound_cons s39 T77_sound
def o10 (a : Fabric) (b : Fabric) : Bool × List Row × List Row := (sameB a b && (Fabric.small a), [[.bool (true)]], [])
def c10 : Contract
  | [[.sl false 2 a_Net_Bridges, .sl false 4 a_Net_Links, .sl false 3 a_Cards], [.sl false 2 b_Net_Bridges, .sl false 4 b_Net_Links, .sl false 3 b_Cards]] => some (isS Bridge false a_Net_Bridges && isS Link false a_Net_Links && isS Card false a_Cards && isS Bridge false b_Net_Bridges && isS Link false b_Net_Links && isS Card false b_Cards && (o10 ⟨⟨(deS Bridge a_Net_Bridges), (deS Link a_Net_Links)⟩, (deS Card a_Cards)⟩ ⟨⟨(deS Bridge b_Net_Bridges), (deS Link b_Net_Links)⟩, (deS Card b_Cards)⟩).1, (o10 ⟨⟨(deS Bridge a_Net_Bridges), (deS Link a_Net_Links)⟩, (deS Card a_Cards)⟩ ⟨⟨(deS Bridge b_Net_Bridges), (deS Link b_Net_Links)⟩, (deS Card b_Cards)⟩).2.1, (o10 ⟨⟨(deS Bridge a_Net_Bridges), (deS Link a_Net_Links)⟩, (deS Card a_Cards)⟩ ⟨⟨(deS Bridge b_Net_Bridges), (deS Link b_Net_Links)⟩, (deS Card b_Cards)⟩).2.2)
  | _ => none

theorem r10 (a : Fabric) (b : Fabric) (n : Nat) : evFn ⟨prog, Hx, 10⟩ T39.call n f10 [[.sl false 2 (enS false a.Net.Bridges), .sl false 4 (enS false a.Net.Links), .sl false 3 (enS false a.Cards)], [.sl false 2 (enS false b.Net.Bridges), .sl false 4 (enS false b.Net.Links), .sl false 3 (enS false b.Cards)]] = bif isS Bridge false (enS false (Net.Bridges (Fabric.Net a))) && isS Link false (enS false (Net.Links (Fabric.Net a))) && isS Bridge false (enS false (Net.Bridges (Fabric.Net b))) && isS Link false (enS false (Net.Links (Fabric.Net b))) && (sameB (Net.mk (deS Bridge (enS false (Net.Bridges (Fabric.Net a)))) (deS Link (enS false (Net.Links (Fabric.Net a))))) (Net.mk (deS Bridge (enS false (Net.Bridges (Fabric.Net b)))) (deS Link (enS false (Net.Links (Fabric.Net b))))) && Net.small (Net.mk (deS Bridge (enS false (Net.Bridges (Fabric.Net a)))) (deS Link (enS false (Net.Links (Fabric.Net a)))))) then bif isS Card false (enS false (Fabric.Cards a)) && isS Card false (enS false (Fabric.Cards b)) && (sameB (deS Card (enS false (Fabric.Cards a))) (deS Card (enS false (Fabric.Cards b))) && (decide (length (deS Card (enS false (Fabric.Cards a))) ≤ 1048576) && all (deS Card (enS false (Fabric.Cards a))) Card.small)) then some ([[D.bool true]], []) else none else none := by kernel_rfl
theorem m10 (a : Fabric) (b : Fabric) (hpre : (o10 a b).1 = true) : evFn ⟨Go.Proofs.Try.prog, Hx, 10⟩ T39.call 0 f10 [[.sl false 2 (enS false a.Net.Bridges), .sl false 4 (enS false a.Net.Links), .sl false 3 (enS false a.Cards)], [.sl false 2 (enS false b.Net.Bridges), .sl false 4 (enS false b.Net.Links), .sl false 3 (enS false b.Cards)]] = some (o10 a b).2 := by
  refine (r10 a b _).trans ?_
  show _ = (some ([[.bool (true)]], []) : Option (List Row × List Row))
  replace hpre : (sameB a b && (Fabric.small a)) = true := hpre
  rw [Bool.and_eq_true] at hpre
  obtain ⟨h0, h1⟩ := hpre
  have := sameB_eq h0
  subst this
  unfold Fabric.small at h1
  try simp only [Bool.and_eq_true] at h1
  simp only [h1, bne_self_eq_false, cond_false, cond_true, sameB_self, isS_enS, deS_enS, Bool.and_self, Bool.and_true, Bool.true_and, Bool.not_true]
  try rfl
theorem s10 : SoundAt Go.Proofs.Try.prog Hx 10 c10 := soundAt_of T39_sound mixed func10 (by kernel_rfl) (by
  intro rows r h
  unfold c10 at h
  split at h
  · rename_i a_Net_Bridges a_Net_Links a_Cards b_Net_Bridges b_Net_Links b_Cards
    obtain ⟨hp, hr⟩ := Prod.mk.inj (Option.some.inj h)
    subst hr
    simp only [Bool.and_eq_true] at hp
    obtain ⟨⟨⟨⟨⟨⟨hs0, hs1⟩, hs2⟩, hs3⟩, hs4⟩, hs5⟩, hp⟩ := hp
    obtain ⟨xs0, rfl⟩ := isS_ex hs0
    obtain ⟨xs1, rfl⟩ := isS_ex hs1
    obtain ⟨xs2, rfl⟩ := isS_ex hs2
    obtain ⟨xs3, rfl⟩ := isS_ex hs3
    obtain ⟨xs4, rfl⟩ := isS_ex hs4
    obtain ⟨xs5, rfl⟩ := isS_ex hs5
    simp only [deS_enS] at hp ⊢
    exact ⟨_, m10 ⟨⟨xs0, xs1⟩, xs2⟩ ⟨⟨xs3, xs4⟩, xs5⟩ hp⟩
  · cases h)
def T10 : Table := (10, c10) :: T39
theorem T10_sound : Table.Sound Go.Proofs.Try.prog Hx T10 := Table.sound_cons s10 T39_sound
end Go.Ev
end
