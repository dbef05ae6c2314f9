/- Contracts of functions, each by its evaluation. -/
import Derived.Test.YtljedfojdgfahaaEvMd
import Derived.Test.YtljedfojdgfahaaProg
import Derived.KernelRfl
import Derived.Test.YtljedfojdgfahaaFBridgeok
set_option linter.unusedVariables false
set_option linter.unusedSimpArgs false
set_option maxRecDepth 100000
noncomputable section
open List (getD length drop take set append replicate all isEmpty)
open Int (toNat ofNat)
open Go.IntKind (i64 wrap)
open Go.Proofs.Try (prog)
namespace Go.Ev
open Go.RowKit Go.Md
end Go.Ev
namespace Go.Md
open Go Go.Ev
def Bridge.wt (x : Bridge) : Int := (x.Ports.length : Int)
def Bridge.small (x : Bridge) : Bool := decide (x.Ports.length ≤ 1048576)
def Bridge.big (x : Bridge) : Bool := decide (x.Ports.length ≤ 9223372036854775807)
theorem Bridge.wt_pos (x : Bridge) : 0 ≤ Bridge.wt x := by
  unfold Bridge.wt
  omega
theorem Bridge.small_of (x : Bridge) (h : Bridge.wt x ≤ 1048576) : Bridge.small x = true := by
  unfold Bridge.wt at h
  unfold Bridge.small
  exact decide_eq_true (by omega)
def Net.wt (x : Net) : Int := ((x.Bridges.length : Int) + cntS Bridge.wt x.Bridges) + (x.Links.length : Int)
def Net.small (x : Net) : Bool := (decide (x.Bridges.length ≤ 1048576) && x.Bridges.all Bridge.small) && decide (x.Links.length ≤ 1048576)
def Net.big (x : Net) : Bool := (decide (x.Bridges.length ≤ 9223372036854775807) && x.Bridges.all Bridge.big) && decide (x.Links.length ≤ 9223372036854775807)
theorem Net.wt_pos (x : Net) : 0 ≤ Net.wt x := by
  have h0 := cntS_nonneg (n := Bridge.wt) Bridge.wt_pos x.Bridges
  unfold Net.wt
  omega
theorem Net.small_of (x : Net) (h : Net.wt x ≤ 1048576) : Net.small x = true := by
  have h0 := cntS_nonneg (n := Bridge.wt) Bridge.wt_pos x.Bridges
  unfold Net.wt at h
  unfold Net.small
  exact Bool.and_eq_true_iff.2 ⟨Bool.and_eq_true_iff.2 ⟨decide_eq_true (by omega), all_small Bridge.wt_pos Bridge.small_of _ (by omega)⟩, decide_eq_true (by omega)⟩
end Go.Md
namespace Go.Ev
open Go.Md
/- szPortS -/
def o83 (a : List Port) (left : Int) : Bool × List Row × List Row := (decide (0 ≤ left) && (decide (left ≤ 1048576) && decide (a.length ≤ 9223372036854775807)), [[.int .i64 (szR (a.length : Int) left)]], [])
def c83 : Contract
  | [[.sl false 11 a], [.int .i64 left]] => some (isS Port false a && (o83 (deS Port a) left).1, (o83 (deS Port a) left).2.1, (o83 (deS Port a) left).2.2)
  | _ => none

theorem r83 (a : List Port) (left : Int) (n : Nat) : evFn ⟨prog, Hx, 83⟩ T61.call n Go.Proofs.Try.f83 [[.sl false 11 (enS false a)], [.int .i64 left]] = bif decide (wrap i64 (left - ofNat (length (enS false a))) < 0) then some ([[D.int i64 (Int.negSucc 0)]], []) else some ([[D.int i64 (wrap i64 (left - ofNat (length (enS false a))))]], []) := by kernel_rfl
theorem m83 (a : List Port) (left : Int) (hpre : (o83 a left).1 = true) : evFn ⟨Go.Proofs.Try.prog, Hx, 83⟩ T61.call 0 Go.Proofs.Try.f83 [[.sl false 11 (enS false a)], [.int .i64 left]] = some (o83 a left).2 := by
  refine (r83 a left _).trans ?_
  show _ = (some ([[.int .i64 (szR (a.length : Int) left)]], []) : Option (List Row × List Row))
  replace hpre : (decide (0 ≤ left) && (decide (left ≤ 1048576) && decide (a.length ≤ 9223372036854775807))) = true := hpre
  simp only [Bool.and_eq_true, decide_eq_true_eq] at hpre
  obtain ⟨h0, h1, h2⟩ := hpre
  simp only [enS_length]
  have hw : IntKind.wrap IntKind.i64 (left - Int.ofNat a.length) = left - (a.length : Int) := wrap_of (by show _ ≤ left - (a.length : Int); omega) (by show left - (a.length : Int) ≤ _; omega)
  rw [hw]
  unfold szR
  by_cases h : (a.length : Int) ≤ left
  · rw [decide_eq_false (by omega), decide_eq_true h]; rfl
  · rw [decide_eq_true (by omega), decide_eq_false h]; rfl
theorem s83 : SoundAt Go.Proofs.Try.prog Hx 83 c83 := soundAt_of T61_sound mixed Go.Proofs.Try.func83 (by kernel_rfl) (by
  intro rows r h
  unfold c83 at h
  split at h
  · rename_i a left
    obtain ⟨hp, hr⟩ := Prod.mk.inj (Option.some.inj h)
    subst hr
    simp only [Bool.and_eq_true] at hp
    obtain ⟨hs0, hp⟩ := hp
    obtain ⟨xs0, rfl⟩ := isS_ex hs0
    simp only [deS_enS] at hp ⊢
    exact ⟨_, m83 xs0 left hp⟩
  · cases h)
def T83 : Table := (83, c83) :: T61
theorem T83_sound : Table.Sound Go.Proofs.Try.prog Hx T83 := Table.sound_cons s83 T61_sound
/- szBridge -/
def o60 (a : Bridge) (left : Int) : Bool × List Row × List Row := (decide (0 ≤ left) && (decide (left ≤ 1048576) && Bridge.big a), [[.int .i64 (szR (Bridge.wt a) left)]], [])
def c60 : Contract
  | [[.int .i64 a_Id, .sl false 11 a_Ports], [.int .i64 left]] => some (isS Port false a_Ports && (o60 ⟨a_Id, (deS Port a_Ports)⟩ left).1, (o60 ⟨a_Id, (deS Port a_Ports)⟩ left).2.1, (o60 ⟨a_Id, (deS Port a_Ports)⟩ left).2.2)
  | _ => none

theorem r60 (a : Bridge) (left : Int) (n : Nat) : evFn ⟨prog, Hx, 60⟩ T83.call n Go.Proofs.Try.f60 [[.int .i64 a.Id, .sl false 11 (enS false a.Ports)], [.int .i64 left]] = bif isS Port false (enS false (Bridge.Ports a)) && (decide (0 ≤ left) && (decide (left ≤ 1048576) && decide (length (deS Port (enS false (Bridge.Ports a))) ≤ 9223372036854775807))) then bif decide (szR (ofNat (length (deS Port (enS false (Bridge.Ports a))))) left < 0) then some ([[D.int i64 (Int.negSucc 0)]], []) else some ([[D.int i64 (szR (ofNat (length (deS Port (enS false (Bridge.Ports a))))) left)]], []) else none := by kernel_rfl
theorem m60 (a : Bridge) (left : Int) (hpre : (o60 a left).1 = true) : evFn ⟨Go.Proofs.Try.prog, Hx, 60⟩ T83.call 0 Go.Proofs.Try.f60 [[.int .i64 a.Id, .sl false 11 (enS false a.Ports)], [.int .i64 left]] = some (o60 a left).2 := by
  refine (r60 a left _).trans ?_
  show _ = (some ([[.int .i64 (szR (Bridge.wt a) left)]], []) : Option (List Row × List Row))
  replace hpre : (decide (0 ≤ left) && (decide (left ≤ 1048576) && Bridge.big a)) = true := hpre
  simp only [Bool.and_eq_true, decide_eq_true_eq] at hpre
  obtain ⟨h0, h1, h2⟩ := hpre
  unfold Bridge.big at h2
  try simp only [Bool.and_eq_true] at h2
  unfold Bridge.wt
  have p0 : 0 ≤ (a.Ports.length : Int) := by omega
  have g0 : decide (0 ≤ left) = true := decide_eq_true (by omega)
  have f0 : decide (left ≤ 1048576) = true := decide_eq_true (by omega)
  rcases szR_cases ((a.Ports.length : Int)) (left) (by omega) with ⟨a0, b0, c0⟩ | ⟨a0, b0, c0⟩
  case inr =>
    rw [b0] at c0
    simp only [g0, f0, b0, c0, h2, Int.ofNat_eq_natCast, isS_enS, deS_enS, cond_true, cond_false, Bool.and_self, Bool.and_true, Bool.true_and]
    try rw [szR_gt (by omega)]
    try rfl
  rw [b0] at c0
  simp only [g0, f0, b0, c0, h2, Int.ofNat_eq_natCast, isS_enS, deS_enS, cond_true, cond_false, Bool.and_self, Bool.and_true, Bool.true_and]
  try rw [szR_le (by omega)]
  try rfl
theorem s60 : SoundAt Go.Proofs.Try.prog Hx 60 c60 := soundAt_of T83_sound mixed Go.Proofs.Try.func60 (by kernel_rfl) (by
  intro rows r h
  unfold c60 at h
  split at h
  · rename_i a_Id a_Ports left
    obtain ⟨hp, hr⟩ := Prod.mk.inj (Option.some.inj h)
    subst hr
    simp only [Bool.and_eq_true] at hp
    obtain ⟨hs0, hp⟩ := hp
    obtain ⟨xs0, rfl⟩ := isS_ex hs0
    simp only [deS_enS] at hp ⊢
    exact ⟨_, m60 ⟨a_Id, xs0⟩ left hp⟩
  · cases h)
def T60 : Table := (60, c60) :: T83
theorem T60_sound : Table.Sound Go.Proofs.Try.prog Hx T60 := Table.sound_cons s60 T83_sound
/- szBridgeS -/
def o31 (a : List Bridge) (left : Int) : Bool × List Row × List Row := (decide (0 ≤ left) && (decide (left ≤ 1048576) && (decide (a.length ≤ 9223372036854775807) && a.all Bridge.big)), [[.int .i64 (szR ((a.length : Int) + cntS Bridge.wt a) left)]], [])
def c31 : Contract
  | [[.sl false 2 a], [.int .i64 left]] => some (isS Bridge false a && (o31 (deS Bridge a) left).1, (o31 (deS Bridge a) left).2.1, (o31 (deS Bridge a) left).2.2)
  | _ => none

def k31_0 (n : Nat) : Ex → St → RR := kThen (fun st ↦ runCode (Ctx.mk prog Hx (31)) (Table.call T60) n (codeAt [1, 1, 1, 1] (bodyOf Go.Proofs.Try.f31)) (Lv.mk 16 [] 16) st (kLeave (Ctx.P (Ctx.mk prog Hx (31))) (List.zip (Array.toList (Go.Func.resultTypes Go.Proofs.Try.f31)) (Array.toList (Go.Func.results Go.Proofs.Try.f31))) [] [])) (kLeave (Ctx.P (Ctx.mk prog Hx (31))) (List.zip (Array.toList (Go.Func.resultTypes Go.Proofs.Try.f31)) (Array.toList (Go.Func.results Go.Proofs.Try.f31))) [] [])
def k31_1 (n : Nat) : Ex → St → RR := kBlock (0) (k31_0 n)
def S31_0 (a : List Bridge) (i0 : Int) (i1 : Int) : St := St.mk [TV.v false [C.d (D.sl false 2 (enS false a))], I_ i0, U_, U_, U_, I_ i1, U_, U_, U_, U_, U_, U_, U_, U_, U_, U_, U_, U_, U_, U_, U_, U_, U_, U_, U_, U_, U_] []
def B31_0 (n : Nat) : St → (Ex → St → RR) → RR := runCode (Ctx.mk prog Hx (31)) (Table.call T60) n (codeAt [1, 1, 1, 0, 1, 0, 0] (bodyOf Go.Proofs.Try.f31)) (Lv.mk 35 [(0, 2)] 16)
def X31_2 (a : List Bridge) (i0 : Int) (i1 : Int) : St := St.mk [TV.v false [C.d (D.sl false 2 (enS false a))], I_ (szR (Bridge.wt (Bridge.mk (D.num (getD (getD (enS false a) (toNat i1) []) 0 D.dead)) (deS Port (D.rows (getD (getD (enS false a) (toNat i1) []) 1 D.dead))))) i0), U_, U_, I_ (Int.negSucc 0), I_ i1, U_, U_, U_, U_, U_, U_, I_ i1, TV.v false [C.d (D.sl false 2 (enS false a))], I_ (ofNat (length (enS false a))), B_ true, U_, U_, TV.v false [C.d (D.sl false 2 (enS false a))], I_ i1, TV.v false [C.rptr (getD (enS false a) (toNat i1) [])], TV.v true [C.d (D.int i64 (D.num (getD (getD (enS false a) (toNat i1) []) 0 D.dead))), C.d (D.sl false 11 (D.rows (getD (getD (enS false a) (toNat i1) []) 1 D.dead)))], I_ i0, I_ (szR (Bridge.wt (Bridge.mk (D.num (getD (getD (enS false a) (toNat i1) []) 0 D.dead)) (deS Port (D.rows (getD (getD (enS false a) (toNat i1) []) 1 D.dead))))) i0), I_ (szR (Bridge.wt (Bridge.mk (D.num (getD (getD (enS false a) (toNat i1) []) 0 D.dead)) (deS Port (D.rows (getD (getD (enS false a) (toNat i1) []) 1 D.dead))))) i0), B_ true, U_] []
def X31_3 (a : List Bridge) (i0 : Int) (i1 : Int) : St := St.mk [TV.v false [C.d (D.sl false 2 (enS false a))], I_ i0, U_, U_, U_, I_ i1, U_, U_, U_, U_, U_, U_, I_ i1, TV.v false [C.d (D.sl false 2 (enS false a))], I_ (ofNat (length (enS false a))), B_ false, U_, U_, U_, U_, U_, U_, U_, U_, U_, U_, U_] []
theorem q31_0 (a : List Bridge) (n : Nat) (i0 : Int) (i1 : Int) (f : St → RR) (K : Ex → St → RR) : B31_0 n (S31_0 a i0 i1) (kThen (fun st ↦ f (St.head 0 35 67104818 st)) K) = bif decide (i1 < ofNat (length (enS false a))) then bif decide (0 ≤ i1) && decide (i1 < ofNat (length (enS false a))) then bif Leaf.fit false (Leaf.int i64) (getD (getD (enS false a) (toNat i1) []) 0 D.dead) && (Leaf.fit false (Leaf.sl 11 true) (getD (getD (enS false a) (toNat i1) []) 1 D.dead) && true) then bif isS Port false (D.rows (getD (getD (enS false a) (toNat i1) []) 1 D.dead)) && (decide (0 ≤ i0) && (decide (i0 ≤ 1048576) && Bridge.big (Bridge.mk (D.num (getD (getD (enS false a) (toNat i1) []) 0 D.dead)) (deS Port (D.rows (getD (getD (enS false a) (toNat i1) []) 1 D.dead)))))) then bif decide (szR (Bridge.wt (Bridge.mk (D.num (getD (getD (enS false a) (toNat i1) []) 0 D.dead)) (deS Port (D.rows (getD (getD (enS false a) (toNat i1) []) 1 D.dead))))) i0 < 0) then K Ex.ret (X31_2 a i0 i1) else f (S31_0 a (szR (Bridge.wt (Bridge.mk (D.num (getD (getD (enS false a) (toNat i1) []) 0 D.dead)) (deS Port (D.rows (getD (getD (enS false a) (toNat i1) []) 1 D.dead))))) i0) (wrap i64 (i1 + 1))) else none else none else none else K (Ex.exit 0) (X31_3 a i0 i1) := by kernel_rfl
theorem aX31_2 (a : List Bridge) (n : Nat) (i0 : Int) (i1 : Int) : k31_1 n Ex.ret (X31_2 a i0 i1) = some ([[D.int i64 (Int.negSucc 0)]], []) := by kernel_rfl
theorem aX31_3 (a : List Bridge) (n : Nat) (i0 : Int) (i1 : Int) : k31_1 n (Ex.exit 0) (X31_3 a i0 i1) = some ([[D.int i64 i0]], []) := by kernel_rfl
theorem r31 (a : List Bridge) (left : Int) (n : Nat) : evFn ⟨prog, Hx, 31⟩ T60.call n Go.Proofs.Try.f31 [[.sl false 2 (enS false a)], [.int .i64 left]] = bif decide (wrap i64 (left - ofNat (length (enS false a))) < 0) then some ([[D.int i64 (Int.negSucc 0)]], []) else loopRun (B31_0 n) 0 35 67104818 n (S31_0 a (wrap i64 (left - ofNat (length (enS false a)))) (0)) (k31_1 n) := by kernel_rfl
theorem m31 (a : List Bridge) (left : Int) (hpre : (o31 a left).1 = true) : evFn ⟨Go.Proofs.Try.prog, Hx, 31⟩ T60.call (a.length + 1) Go.Proofs.Try.f31 [[.sl false 2 (enS false a)], [.int .i64 left]] = some (o31 a left).2 := by
  refine (r31 a left _).trans ?_
  show _ = (some ([[.int .i64 (szR ((a.length : Int) + cntS Bridge.wt a) left)]], []) : Option (List Row × List Row))
  replace hpre : (decide (0 ≤ left) && (decide (left ≤ 1048576) && (decide (a.length ≤ 9223372036854775807) && a.all Bridge.big))) = true := hpre
  simp only [Bool.and_eq_true, decide_eq_true_eq] at hpre
  obtain ⟨h0, h1, h2, h3⟩ := hpre
  simp only [enS_length]
  have hw : IntKind.wrap IntKind.i64 (left - Int.ofNat a.length) = left - (a.length : Int) := wrap_of (by show _ ≤ left - (a.length : Int); omega) (by show left - (a.length : Int) ≤ _; omega)
  rw [hw]
  have hc := cntS_nonneg (n := Bridge.wt) Bridge.wt_pos a
  by_cases hl : (a.length : Int) ≤ left
  case neg =>
    rw [decide_eq_true (by omega), szR_gt (by omega)]
    rfl
  rw [decide_eq_false (by omega), cond_false]
  have hlen : a.length ≤ 1048576 := by omega
  have hg : szR ((a.length : Int) + cntS Bridge.wt a) left = szR (cntS Bridge.wt a) (left - (a.length : Int)) := by
    by_cases h : cntS Bridge.wt a ≤ left - (a.length : Int)
    · rw [szR_le h, szR_le (by omega)]; omega
    · rw [szR_gt (by omega), szR_gt (by omega)]
  rw [hg]
  refine loop_list (xs := a) (fun i (l : Int) => S31_0 a l (Int.ofNat i)) (fun _ l => 0 ≤ l ∧ l ≤ 1048576) (fun _ l rest => some ([[D.int .i64 (szR (cntS Bridge.wt rest) l)]], [])) ?_ ?_ (a.length + 1) (left - (a.length : Int)) (by omega) ⟨by omega, by omega⟩
  · rintro l ⟨g0, g1⟩ f
    refine (q31_0 a _ _ _ f _).trans ?_
    rw [end_lt, cond_false]
    refine (aX31_3 a _ _ _).trans ?_
    rw [cntS, szR_le g0, Int.sub_zero]
  · rintro i l hi ⟨g0, g1⟩ f hf
    refine (q31_0 a _ _ _ f _).trans ?_
    have hel := List.all_eq_true.1 h3 _ (List.getElem_mem hi)
    have hp := Bridge.wt_pos a[i]
    have hc2 := cntS_nonneg (n := Bridge.wt) Bridge.wt_pos (a.drop (i + 1))
    have d0 : decide (0 ≤ l) = true := decide_eq_true g0
    have d1 : decide (l ≤ 1048576) = true := decide_eq_true g1
    simp only [enS_length, toNat_of, dec_lt, dec_ge, decide_true, decide_false, cond_true, cond_false, Bool.and_self, Bool.and_true, Bool.true_and, Bool.not_true, Bool.not_false, Nat.lt_irrefl, Nat.zero_add, isS_enS, deS_enS, isS_nil, deS_nil, List.nil_append, lendRows_enS, deepRows_enS, noSl_u8, En.enc, List.getD_cons_zero, List.getD_cons_succ, D.num, D.flag, D.text, D.rows, Leaf.fit, List.append_eq, TReader.eta, Frame.eta, Heard.eta, Member.eta, Card.eta, Out1.eta, Vec.eta, Port.eta, Bridge.eta, In.eta, Out.eta, Link.eta, Net.eta, TEnd.eta, Minder.eta, Reg.eta, Wire.eta, Box.eta, Deed.eta, Bpdu.eta, Visit.eta, Fabric.eta, Got.eta, TRide.eta, Up.eta, Copy.eta, Bucket.eta, Snap.eta, TL9Cur.eta, TL21In.eta, enS_get _ hi, hi, wrap_succ (show i < 4611686018427387904 by omega), hel, d0, d1]
    rcases szR_cases (Bridge.wt a[i]) l g0 with ⟨a1, b1, c1⟩ | ⟨a1, b1, c1⟩
    · rw [c1, cond_false, b1]
      refine (hf (l - Bridge.wt a[i]) ⟨by omega, by omega⟩).trans ?_
      have : szR (cntS Bridge.wt (a[i] :: a.drop (i + 1))) l = szR (cntS Bridge.wt (a.drop (i + 1))) (l - Bridge.wt a[i]) := by
        show szR (Bridge.wt a[i] + cntS Bridge.wt (a.drop (i + 1))) l = _
        by_cases h : cntS Bridge.wt (a.drop (i + 1)) ≤ l - Bridge.wt a[i]
        · rw [szR_le h, szR_le (by omega)]; omega
        · rw [szR_gt (by omega), szR_gt (by omega)]
      rw [this]
    · rw [c1, cond_true]
      refine (aX31_2 a _ _ _).trans ?_
      have : szR (cntS Bridge.wt (a[i] :: a.drop (i + 1))) l = -1 := by
        show szR (Bridge.wt a[i] + cntS Bridge.wt (a.drop (i + 1))) l = _
        exact szR_gt (by omega)
      rw [this]
      rfl
theorem s31 : SoundAt Go.Proofs.Try.prog Hx 31 c31 := soundAt_of T60_sound mixed Go.Proofs.Try.func31 (by kernel_rfl) (by
  intro rows r h
  unfold c31 at h
  split at h
  · rename_i a left
    obtain ⟨hp, hr⟩ := Prod.mk.inj (Option.some.inj h)
    subst hr
    simp only [Bool.and_eq_true] at hp
    obtain ⟨hs0, hp⟩ := hp
    obtain ⟨xs0, rfl⟩ := isS_ex hs0
    simp only [deS_enS] at hp ⊢
    exact ⟨_, m31 xs0 left hp⟩
  · cases h)
def T31 : Table := (31, c31) :: T60
theorem T31_sound : Table.Sound Go.Proofs.Try.prog Hx T31 := Table.sound_cons s31 T60_sound
/- szLinkS -/
def o32 (a : List Link) (left : Int) : Bool × List Row × List Row := (decide (0 ≤ left) && (decide (left ≤ 1048576) && decide (a.length ≤ 9223372036854775807)), [[.int .i64 (szR (a.length : Int) left)]], [])
def c32 : Contract
  | [[.sl false 4 a], [.int .i64 left]] => some (isS Link false a && (o32 (deS Link a) left).1, (o32 (deS Link a) left).2.1, (o32 (deS Link a) left).2.2)
  | _ => none

theorem r32 (a : List Link) (left : Int) (n : Nat) : evFn ⟨prog, Hx, 32⟩ T31.call n Go.Proofs.Try.f32 [[.sl false 4 (enS false a)], [.int .i64 left]] = bif decide (wrap i64 (left - ofNat (length (enS false a))) < 0) then some ([[D.int i64 (Int.negSucc 0)]], []) else some ([[D.int i64 (wrap i64 (left - ofNat (length (enS false a))))]], []) := by kernel_rfl
theorem m32 (a : List Link) (left : Int) (hpre : (o32 a left).1 = true) : evFn ⟨Go.Proofs.Try.prog, Hx, 32⟩ T31.call 0 Go.Proofs.Try.f32 [[.sl false 4 (enS false a)], [.int .i64 left]] = some (o32 a left).2 := by
  refine (r32 a left _).trans ?_
  show _ = (some ([[.int .i64 (szR (a.length : Int) left)]], []) : Option (List Row × List Row))
  replace hpre : (decide (0 ≤ left) && (decide (left ≤ 1048576) && decide (a.length ≤ 9223372036854775807))) = true := hpre
  simp only [Bool.and_eq_true, decide_eq_true_eq] at hpre
  obtain ⟨h0, h1, h2⟩ := hpre
  simp only [enS_length]
  have hw : IntKind.wrap IntKind.i64 (left - Int.ofNat a.length) = left - (a.length : Int) := wrap_of (by show _ ≤ left - (a.length : Int); omega) (by show left - (a.length : Int) ≤ _; omega)
  rw [hw]
  unfold szR
  by_cases h : (a.length : Int) ≤ left
  · rw [decide_eq_false (by omega), decide_eq_true h]; rfl
  · rw [decide_eq_true (by omega), decide_eq_false h]; rfl
theorem s32 : SoundAt Go.Proofs.Try.prog Hx 32 c32 := soundAt_of T31_sound mixed Go.Proofs.Try.func32 (by kernel_rfl) (by
  intro rows r h
  unfold c32 at h
  split at h
  · rename_i a left
    obtain ⟨hp, hr⟩ := Prod.mk.inj (Option.some.inj h)
    subst hr
    simp only [Bool.and_eq_true] at hp
    obtain ⟨hs0, hp⟩ := hp
    obtain ⟨xs0, rfl⟩ := isS_ex hs0
    simp only [deS_enS] at hp ⊢
    exact ⟨_, m32 xs0 left hp⟩
  · cases h)
def T32 : Table := (32, c32) :: T31
theorem T32_sound : Table.Sound Go.Proofs.Try.prog Hx T32 := Table.sound_cons s32 T31_sound
/- szNet -/
def o7 (a : Net) (left : Int) : Bool × List Row × List Row := (decide (0 ≤ left) && (decide (left ≤ 1048576) && Net.big a), [[.int .i64 (szR (Net.wt a) left)]], [])
def c7 : Contract
  | [[.sl false 2 a_Bridges, .sl false 4 a_Links], [.int .i64 left]] => some (isS Bridge false a_Bridges && isS Link false a_Links && (o7 ⟨(deS Bridge a_Bridges), (deS Link a_Links)⟩ left).1, (o7 ⟨(deS Bridge a_Bridges), (deS Link a_Links)⟩ left).2.1, (o7 ⟨(deS Bridge a_Bridges), (deS Link a_Links)⟩ left).2.2)
  | _ => none

theorem r7 (a : Net) (left : Int) (n : Nat) : evFn ⟨prog, Hx, 7⟩ T32.call n Go.Proofs.Try.f7 [[.sl false 2 (enS false a.Bridges), .sl false 4 (enS false a.Links)], [.int .i64 left]] = bif isS Bridge false (enS false (Net.Bridges a)) && (decide (0 ≤ left) && (decide (left ≤ 1048576) && (decide (length (deS Bridge (enS false (Net.Bridges a))) ≤ 9223372036854775807) && all (deS Bridge (enS false (Net.Bridges a))) Bridge.big))) then bif decide (szR (ofNat (length (deS Bridge (enS false (Net.Bridges a)))) + cntS Bridge.wt (deS Bridge (enS false (Net.Bridges a)))) left < 0) then some ([[D.int i64 (Int.negSucc 0)]], []) else bif isS Link false (enS false (Net.Links a)) && (decide (0 ≤ szR (ofNat (length (deS Bridge (enS false (Net.Bridges a)))) + cntS Bridge.wt (deS Bridge (enS false (Net.Bridges a)))) left) && (decide (szR (ofNat (length (deS Bridge (enS false (Net.Bridges a)))) + cntS Bridge.wt (deS Bridge (enS false (Net.Bridges a)))) left ≤ 1048576) && decide (length (deS Link (enS false (Net.Links a))) ≤ 9223372036854775807))) then bif decide (szR (ofNat (length (deS Link (enS false (Net.Links a))))) (szR (ofNat (length (deS Bridge (enS false (Net.Bridges a)))) + cntS Bridge.wt (deS Bridge (enS false (Net.Bridges a)))) left) < 0) then some ([[D.int i64 (Int.negSucc 0)]], []) else some ([[D.int i64 (szR (ofNat (length (deS Link (enS false (Net.Links a))))) (szR (ofNat (length (deS Bridge (enS false (Net.Bridges a)))) + cntS Bridge.wt (deS Bridge (enS false (Net.Bridges a)))) left))]], []) else none else none := by kernel_rfl
theorem m7 (a : Net) (left : Int) (hpre : (o7 a left).1 = true) : evFn ⟨Go.Proofs.Try.prog, Hx, 7⟩ T32.call 0 Go.Proofs.Try.f7 [[.sl false 2 (enS false a.Bridges), .sl false 4 (enS false a.Links)], [.int .i64 left]] = some (o7 a left).2 := by
  refine (r7 a left _).trans ?_
  show _ = (some ([[.int .i64 (szR (Net.wt a) left)]], []) : Option (List Row × List Row))
  replace hpre : (decide (0 ≤ left) && (decide (left ≤ 1048576) && Net.big a)) = true := hpre
  simp only [Bool.and_eq_true, decide_eq_true_eq] at hpre
  obtain ⟨h0, h1, h2⟩ := hpre
  unfold Net.big at h2
  try simp only [Bool.and_eq_true] at h2
  unfold Net.wt
  have p0 : 0 ≤ ((a.Bridges.length : Int) + cntS Bridge.wt a.Bridges) := by have := cntS_nonneg (n := Bridge.wt) Bridge.wt_pos a.Bridges; omega
  have p1 : 0 ≤ (a.Links.length : Int) := by omega
  have g0 : decide (0 ≤ left) = true := decide_eq_true (by omega)
  have f0 : decide (left ≤ 1048576) = true := decide_eq_true (by omega)
  rcases szR_cases (((a.Bridges.length : Int) + cntS Bridge.wt a.Bridges)) (left) (by omega) with ⟨a0, b0, c0⟩ | ⟨a0, b0, c0⟩
  case inr =>
    rw [b0] at c0
    simp only [g0, f0, b0, c0, h2, Int.ofNat_eq_natCast, isS_enS, deS_enS, cond_true, cond_false, Bool.and_self, Bool.and_true, Bool.true_and]
    try rw [szR_gt (by omega)]
    try rfl
  rw [b0] at c0
  have g1 : decide (0 ≤ left - ((a.Bridges.length : Int) + cntS Bridge.wt a.Bridges)) = true := decide_eq_true (by omega)
  have f1 : decide (left - ((a.Bridges.length : Int) + cntS Bridge.wt a.Bridges) ≤ 1048576) = true := decide_eq_true (by omega)
  rcases szR_cases ((a.Links.length : Int)) (left - ((a.Bridges.length : Int) + cntS Bridge.wt a.Bridges)) (by omega) with ⟨a1, b1, c1⟩ | ⟨a1, b1, c1⟩
  case inr =>
    rw [b1] at c1
    simp only [g0, f0, b0, c0, g1, f1, b1, c1, h2, Int.ofNat_eq_natCast, isS_enS, deS_enS, cond_true, cond_false, Bool.and_self, Bool.and_true, Bool.true_and]
    try rw [szR_gt (by omega)]
    try rfl
  rw [b1] at c1
  simp only [g0, f0, b0, c0, g1, f1, b1, c1, h2, Int.ofNat_eq_natCast, isS_enS, deS_enS, cond_true, cond_false, Bool.and_self, Bool.and_true, Bool.true_and]
  try rw [szR_le (by omega)]
  try rfl
  try (refine congrArg (fun z => (some ([[D.int IntKind.i64 z]], []) : Option (List Row × List Row))) ?_; omega)
theorem s7 : SoundAt Go.Proofs.Try.prog Hx 7 c7 := soundAt_of T32_sound mixed Go.Proofs.Try.func7 (by kernel_rfl) (by
  intro rows r h
  unfold c7 at h
  split at h
  · rename_i a_Bridges a_Links left
    obtain ⟨hp, hr⟩ := Prod.mk.inj (Option.some.inj h)
    subst hr
    simp only [Bool.and_eq_true] at hp
    obtain ⟨⟨hs0, hs1⟩, hp⟩ := hp
    obtain ⟨xs0, rfl⟩ := isS_ex hs0
    obtain ⟨xs1, rfl⟩ := isS_ex hs1
    simp only [deS_enS] at hp ⊢
    exact ⟨_, m7 ⟨xs0, xs1⟩ left hp⟩
  · cases h)
def T7 : Table := (7, c7) :: T32
theorem T7_sound : Table.Sound Go.Proofs.Try.prog Hx T7 := Table.sound_cons s7 T32_sound
/- toVec -/
def o101 (a : Vec) : Bool × List Row × List Row := (true, [[.int .i64 (a).Root, .int .i64 (a).Cost, .int .i64 (a).Bridge, .int .i64 (a).Port]], [])
def c101 : Contract
  | [[.int .i64 a_Root, .int .i64 a_Cost, .int .i64 a_Bridge, .int .i64 a_Port]] => some ((o101 ⟨a_Root, a_Cost, a_Bridge, a_Port⟩).1, (o101 ⟨a_Root, a_Cost, a_Bridge, a_Port⟩).2.1, (o101 ⟨a_Root, a_Cost, a_Bridge, a_Port⟩).2.2)
  | _ => none

theorem r101 (a : Vec) (n : Nat) : evFn ⟨prog, Hx, 101⟩ T7.call n Go.Proofs.Try.f101 [[.int .i64 a.Root, .int .i64 a.Cost, .int .i64 a.Bridge, .int .i64 a.Port]] = some ([[D.int i64 (Vec.Root a), D.int i64 (Vec.Cost a), D.int i64 (Vec.Bridge a), D.int i64 (Vec.Port a)]], []) := by kernel_rfl
theorem m101 (a : Vec) (hpre : (o101 a).1 = true) : evFn ⟨Go.Proofs.Try.prog, Hx, 101⟩ T7.call 0 Go.Proofs.Try.f101 [[.int .i64 a.Root, .int .i64 a.Cost, .int .i64 a.Bridge, .int .i64 a.Port]] = some (o101 a).2 := by
  refine (r101 a _).trans ?_
  show _ = (some ([[.int .i64 (a).Root, .int .i64 (a).Cost, .int .i64 (a).Bridge, .int .i64 (a).Port]], []) : Option (List Row × List Row))
  replace hpre : (true) = true := hpre
  rfl
theorem s101 : SoundAt Go.Proofs.Try.prog Hx 101 c101 := soundAt_of T7_sound mixed Go.Proofs.Try.func101 (by kernel_rfl) (by
  intro rows r h
  unfold c101 at h
  split at h
  · rename_i a_Root a_Cost a_Bridge a_Port
    obtain ⟨hp, hr⟩ := Prod.mk.inj (Option.some.inj h)
    subst hr
    exact ⟨_, m101 ⟨a_Root, a_Cost, a_Bridge, a_Port⟩ hp⟩
  · cases h)
def T101 : Table := (101, c101) :: T7
theorem T101_sound : Table.Sound Go.Proofs.Try.prog Hx T101 := Table.sound_cons s101 T7_sound
/- toPort -/
def o98 (a : Port) : Bool × List Row × List Row := (true, [[.bool (a).Up, .bool (a).Has, .int .i64 (a).Vec.Root, .int .i64 (a).Vec.Cost, .int .i64 (a).Vec.Bridge, .int .i64 (a).Vec.Port, .int .i64 (a).Hops, .int .i64 (a).Left, .int .i64 (a).Role, .int .i64 (a).Wait, .bool (a).Open]], [])
def c98 : Contract
  | [[.bool a_Up, .bool a_Has, .int .i64 a_Vec_Root, .int .i64 a_Vec_Cost, .int .i64 a_Vec_Bridge, .int .i64 a_Vec_Port, .int .i64 a_Hops, .int .i64 a_Left, .int .i64 a_Role, .int .i64 a_Wait, .bool a_Open]] => some ((o98 ⟨a_Up, a_Has, ⟨a_Vec_Root, a_Vec_Cost, a_Vec_Bridge, a_Vec_Port⟩, a_Hops, a_Left, a_Role, a_Wait, a_Open⟩).1, (o98 ⟨a_Up, a_Has, ⟨a_Vec_Root, a_Vec_Cost, a_Vec_Bridge, a_Vec_Port⟩, a_Hops, a_Left, a_Role, a_Wait, a_Open⟩).2.1, (o98 ⟨a_Up, a_Has, ⟨a_Vec_Root, a_Vec_Cost, a_Vec_Bridge, a_Vec_Port⟩, a_Hops, a_Left, a_Role, a_Wait, a_Open⟩).2.2)
  | _ => none

theorem r98 (a : Port) (n : Nat) : evFn ⟨prog, Hx, 98⟩ T101.call n Go.Proofs.Try.f98 [[.bool a.Up, .bool a.Has, .int .i64 a.Vec.Root, .int .i64 a.Vec.Cost, .int .i64 a.Vec.Bridge, .int .i64 a.Vec.Port, .int .i64 a.Hops, .int .i64 a.Left, .int .i64 a.Role, .int .i64 a.Wait, .bool a.Open]] = some ([[D.bool (Port.Up a), D.bool (Port.Has a), D.int i64 (Vec.Root (Port.Vec a)), D.int i64 (Vec.Cost (Port.Vec a)), D.int i64 (Vec.Bridge (Port.Vec a)), D.int i64 (Vec.Port (Port.Vec a)), D.int i64 (Port.Hops a), D.int i64 (Port.Left a), D.int i64 (Port.Role a), D.int i64 (Port.Wait a), D.bool (Port.Open a)]], []) := by kernel_rfl
theorem m98 (a : Port) (hpre : (o98 a).1 = true) : evFn ⟨Go.Proofs.Try.prog, Hx, 98⟩ T101.call 0 Go.Proofs.Try.f98 [[.bool a.Up, .bool a.Has, .int .i64 a.Vec.Root, .int .i64 a.Vec.Cost, .int .i64 a.Vec.Bridge, .int .i64 a.Vec.Port, .int .i64 a.Hops, .int .i64 a.Left, .int .i64 a.Role, .int .i64 a.Wait, .bool a.Open]] = some (o98 a).2 := by
  refine (r98 a _).trans ?_
  show _ = (some ([[.bool (a).Up, .bool (a).Has, .int .i64 (a).Vec.Root, .int .i64 (a).Vec.Cost, .int .i64 (a).Vec.Bridge, .int .i64 (a).Vec.Port, .int .i64 (a).Hops, .int .i64 (a).Left, .int .i64 (a).Role, .int .i64 (a).Wait, .bool (a).Open]], []) : Option (List Row × List Row))
  replace hpre : (true) = true := hpre
  rfl
theorem s98 : SoundAt Go.Proofs.Try.prog Hx 98 c98 := soundAt_of T101_sound mixed Go.Proofs.Try.func98 (by kernel_rfl) (by
  intro rows r h
  unfold c98 at h
  split at h
  · rename_i a_Up a_Has a_Vec_Root a_Vec_Cost a_Vec_Bridge a_Vec_Port a_Hops a_Left a_Role a_Wait a_Open
    obtain ⟨hp, hr⟩ := Prod.mk.inj (Option.some.inj h)
    subst hr
    exact ⟨_, m98 ⟨a_Up, a_Has, ⟨a_Vec_Root, a_Vec_Cost, a_Vec_Bridge, a_Vec_Port⟩, a_Hops, a_Left, a_Role, a_Wait, a_Open⟩ hp⟩
  · cases h)
def T98 : Table := (98, c98) :: T101
theorem T98_sound : Table.Sound Go.Proofs.Try.prog Hx T98 := Table.sound_cons s98 T101_sound
/- toPortS -/
def o85 (a : List Port) : Bool × List Row × List Row := (decide (a.length ≤ 1048576), [[.sl true 11 (enS true (a))]], [])
def c85 : Contract
  | [[.sl false 11 a]] => some (isS Port false a && (o85 (deS Port a)).1, (o85 (deS Port a)).2.1, (o85 (deS Port a)).2.2)
  | _ => none

def k85_0 (n : Nat) : Ex → St → RR := kThen (fun st ↦ runCode (Ctx.mk prog Hx (85)) (Table.call T98) n (codeAt [1, 1, 1] (bodyOf Go.Proofs.Try.f85)) (Lv.mk 4 [] 4) st (kLeave (Ctx.P (Ctx.mk prog Hx (85))) (List.zip (Array.toList (Go.Func.resultTypes Go.Proofs.Try.f85)) (Array.toList (Go.Func.results Go.Proofs.Try.f85))) [] [])) (kLeave (Ctx.P (Ctx.mk prog Hx (85))) (List.zip (Array.toList (Go.Func.resultTypes Go.Proofs.Try.f85)) (Array.toList (Go.Func.results Go.Proofs.Try.f85))) [] [])
def k85_1 (n : Nat) : Ex → St → RR := kBlock (0) (k85_0 n)
def S85_0 (a : List Port) (i0 : Int) (es1 : List (List D)) : St := St.mk [TV.v false [C.d (D.sl false 11 (enS false a))], U_, U_, TV.v false [C.view 0 0 0 [] 11 none], I_ i0, U_, U_, U_, U_, U_, U_, U_, U_, U_, U_, U_, U_, U_, U_, U_, U_, U_, U_] [Root.mk false 11 es1 0 0 true true false]
def B85_0 (n : Nat) : St → (Ex → St → RR) → RR := runCode (Ctx.mk prog Hx (85)) (Table.call T98) n (codeAt [1, 1, 0, 1, 0, 0] (bodyOf Go.Proofs.Try.f85)) (Lv.mk 25 [(0, 8)] 4)
def X85_2 (a : List Port) (i0 : Int) (es1 : List (List D)) : St := St.mk [TV.v false [C.d (D.sl false 11 (enS false a))], U_, U_, TV.v false [C.view 0 0 0 [] 11 none], I_ i0, U_, U_, U_, I_ i0, TV.v false [C.d (D.sl false 11 (enS false a))], I_ (ofNat (length (enS false a))), B_ false, U_, U_, U_, U_, U_, U_, U_, U_, U_, U_, U_] [Root.mk false 11 es1 0 0 true true false]
theorem q85_0 (a : List Port) (n : Nat) (i0 : Int) (es1 : List (List D)) (f : St → RR) (K : Ex → St → RR) : B85_0 n (S85_0 a i0 es1) (kThen (fun st ↦ f (St.head 1 25 4194064 st)) K) = bif decide (i0 < ofNat (length (enS false a))) then bif decide (0 ≤ i0) && decide (i0 < ofNat (length (enS false a))) then bif Leaf.fit false Leaf.bool (getD (getD (enS false a) (toNat i0) []) 0 D.dead) && (Leaf.fit false Leaf.bool (getD (getD (enS false a) (toNat i0) []) 1 D.dead) && (Leaf.fit false (Leaf.int i64) (getD (getD (enS false a) (toNat i0) []) 2 D.dead) && (Leaf.fit false (Leaf.int i64) (getD (getD (enS false a) (toNat i0) []) 3 D.dead) && (Leaf.fit false (Leaf.int i64) (getD (getD (enS false a) (toNat i0) []) 4 D.dead) && (Leaf.fit false (Leaf.int i64) (getD (getD (enS false a) (toNat i0) []) 5 D.dead) && (Leaf.fit false (Leaf.int i64) (getD (getD (enS false a) (toNat i0) []) 6 D.dead) && (Leaf.fit false (Leaf.int i64) (getD (getD (enS false a) (toNat i0) []) 7 D.dead) && (Leaf.fit false (Leaf.int i64) (getD (getD (enS false a) (toNat i0) []) 8 D.dead) && (Leaf.fit false (Leaf.int i64) (getD (getD (enS false a) (toNat i0) []) 9 D.dead) && (Leaf.fit false Leaf.bool (getD (getD (enS false a) (toNat i0) []) 10 D.dead) && true)))))))))) then bif decide (0 ≤ i0) && decide (i0 < ofNat (length es1)) then f (S85_0 a (wrap i64 (i0 + 1)) (set es1 (0 + toNat i0) [D.bool (D.flag (getD (getD (enS false a) (toNat i0) []) 0 D.dead)), D.bool (D.flag (getD (getD (enS false a) (toNat i0) []) 1 D.dead)), D.int i64 (D.num (getD (getD (enS false a) (toNat i0) []) 2 D.dead)), D.int i64 (D.num (getD (getD (enS false a) (toNat i0) []) 3 D.dead)), D.int i64 (D.num (getD (getD (enS false a) (toNat i0) []) 4 D.dead)), D.int i64 (D.num (getD (getD (enS false a) (toNat i0) []) 5 D.dead)), D.int i64 (D.num (getD (getD (enS false a) (toNat i0) []) 6 D.dead)), D.int i64 (D.num (getD (getD (enS false a) (toNat i0) []) 7 D.dead)), D.int i64 (D.num (getD (getD (enS false a) (toNat i0) []) 8 D.dead)), D.int i64 (D.num (getD (getD (enS false a) (toNat i0) []) 9 D.dead)), D.bool (D.flag (getD (getD (enS false a) (toNat i0) []) 10 D.dead))])) else none else none else none else K (Ex.exit 0) (X85_2 a i0 es1) := by kernel_rfl
theorem aX85_2 (a : List Port) (n : Nat) (i0 : Int) (es1 : List (List D)) : k85_1 n (Ex.exit 0) (X85_2 a i0 es1) = some ([[D.sl true 11 es1]], []) := by kernel_rfl
theorem r85 (a : List Port) (n : Nat) : evFn ⟨prog, Hx, 85⟩ T98.call n Go.Proofs.Try.f85 [[.sl false 11 (enS false a)]] = bif decide (0 ≤ ofNat (length (enS false a))) && (decide (ofNat (length (enS false a)) ≤ ofNat (length (enS false a))) && decide (toNat (ofNat (length (enS false a))) * 80 ≤ 140737488355328)) then loopRun (B85_0 n) 1 25 4194064 n (S85_0 a (0) (replicate (toNat (ofNat (length (enS false a)))) [D.bool false, D.bool false, D.int i64 (0), D.int i64 (0), D.int i64 (0), D.int i64 (0), D.int i64 (0), D.int i64 (0), D.int i64 (0), D.int i64 (0), D.bool false])) (k85_1 n) else none := by kernel_rfl
theorem m85 (a : List Port) (hpre : (o85 a).1 = true) : evFn ⟨Go.Proofs.Try.prog, Hx, 85⟩ T98.call (a.length + 1) Go.Proofs.Try.f85 [[.sl false 11 (enS false a)]] = some (o85 a).2 := by
  refine (r85 a _).trans ?_
  show _ = (some ([[.sl true 11 (enS true (a))]], []) : Option (List Row × List Row))
  replace hpre : (decide (a.length ≤ 1048576)) = true := hpre
  have hlen : a.length ≤ 1048576 := of_decide_eq_true hpre
  rw [enS_length, make_ok (by omega), cond_true, toNat_of]
  refine (congrArg (fun z => loopRun _ _ _ _ _ (S85_0 a 0 z) _) (enS_rep true a.length (En.nil : Port))).trans ?_
  refine loop_list (xs := a) (fun i (ys : List Port) => S85_0 a (Int.ofNat i) (enS true ys)) (fun i ys => ys.length = a.length ∧ ys.take i = a.take i) (fun _ _ _ => some ([[D.sl true 11 (enS true a)]], [])) ?_ ?_ (a.length + 1) _ (by omega) ⟨List.length_replicate .., rfl⟩
  · rintro ys ⟨h2, h3⟩ f
    refine (q85_0 a _ _ _ f _).trans ?_
    simp only [enS_length, dec_lt, Nat.lt_irrefl, decide_false, cond_false]
    refine (aX85_2 a _ _ _).trans ?_
    rw [List.take_length, ← h2, List.take_length] at h3
    subst h3
    rfl
  · rintro i ys hi ⟨h2, h3⟩ f hf
    refine (q85_0 a _ _ _ f _).trans ?_
    simp only [enS_length, toNat_of, dec_lt, dec_ge, enS_get _ hi, h2, hi, wrap_succ (show i < 4611686018427387904 by omega), Nat.zero_add, decide_true, cond_true, Bool.and_self]
    exact (congrArg f (congrArg (S85_0 a _) (enS_set true ys i a[i]))).trans (hf (ys.set i a[i]) ⟨by rw [List.length_set]; exact h2, take_set_succ hi h2 h3⟩)
theorem s85 : SoundAt Go.Proofs.Try.prog Hx 85 c85 := soundAt_of T98_sound mixed Go.Proofs.Try.func85 (by kernel_rfl) (by
  intro rows r h
  unfold c85 at h
  split at h
  · rename_i a
    obtain ⟨hp, hr⟩ := Prod.mk.inj (Option.some.inj h)
    subst hr
    simp only [Bool.and_eq_true] at hp
    obtain ⟨hs0, hp⟩ := hp
    obtain ⟨xs0, rfl⟩ := isS_ex hs0
    simp only [deS_enS] at hp ⊢
    exact ⟨_, m85 xs0 hp⟩
  · cases h)
def T85 : Table := (85, c85) :: T98
theorem T85_sound : Table.Sound Go.Proofs.Try.prog Hx T85 := Table.sound_cons s85 T98_sound
/- toBridge -/
def o65 (a : Bridge) : Bool × List Row × List Row := (Bridge.small a, [[.int .i64 (a).Id, .sl true 11 (enS true (a).Ports)]], [])
def c65 : Contract
  | [[.int .i64 a_Id, .sl false 11 a_Ports]] => some (isS Port false a_Ports && (o65 ⟨a_Id, (deS Port a_Ports)⟩).1, (o65 ⟨a_Id, (deS Port a_Ports)⟩).2.1, (o65 ⟨a_Id, (deS Port a_Ports)⟩).2.2)
  | _ => none

theorem r65 (a : Bridge) (n : Nat) : evFn ⟨prog, Hx, 65⟩ T85.call n Go.Proofs.Try.f65 [[.int .i64 a.Id, .sl false 11 (enS false a.Ports)]] = bif isS Port false (enS false (Bridge.Ports a)) && decide (length (deS Port (enS false (Bridge.Ports a))) ≤ 1048576) then some ([[D.int i64 (Bridge.Id a), D.sl true 11 (enS true (deS Port (enS false (Bridge.Ports a))))]], []) else none := by kernel_rfl
theorem m65 (a : Bridge) (hpre : (o65 a).1 = true) : evFn ⟨Go.Proofs.Try.prog, Hx, 65⟩ T85.call 0 Go.Proofs.Try.f65 [[.int .i64 a.Id, .sl false 11 (enS false a.Ports)]] = some (o65 a).2 := by
  refine (r65 a _).trans ?_
  show _ = (some ([[.int .i64 (a).Id, .sl true 11 (enS true (a).Ports)]], []) : Option (List Row × List Row))
  replace hpre : (Bridge.small a) = true := hpre
  unfold Bridge.small at hpre
  try simp only [Bool.and_eq_true] at hpre
  simp only [hpre, isS_enS, deS_enS, cond_true, Bool.and_self, Bool.and_true, Bool.true_and]
  try rfl
theorem s65 : SoundAt Go.Proofs.Try.prog Hx 65 c65 := soundAt_of T85_sound mixed Go.Proofs.Try.func65 (by kernel_rfl) (by
  intro rows r h
  unfold c65 at h
  split at h
  · rename_i a_Id a_Ports
    obtain ⟨hp, hr⟩ := Prod.mk.inj (Option.some.inj h)
    subst hr
    simp only [Bool.and_eq_true] at hp
    obtain ⟨hs0, hp⟩ := hp
    obtain ⟨xs0, rfl⟩ := isS_ex hs0
    simp only [deS_enS] at hp ⊢
    exact ⟨_, m65 ⟨a_Id, xs0⟩ hp⟩
  · cases h)
def T65 : Table := (65, c65) :: T85
theorem T65_sound : Table.Sound Go.Proofs.Try.prog Hx T65 := Table.sound_cons s65 T85_sound
/- toBridgeS -/
def o35 (a : List Bridge) : Bool × List Row × List Row := ((decide (a.length ≤ 1048576) && a.all Bridge.small), [[.sl true 2 (enS true (a))]], [])
def c35 : Contract
  | [[.sl false 2 a]] => some (isS Bridge false a && (o35 (deS Bridge a)).1, (o35 (deS Bridge a)).2.1, (o35 (deS Bridge a)).2.2)
  | _ => none

def k35_0 (n : Nat) : Ex → St → RR := kThen (fun st ↦ runCode (Ctx.mk prog Hx (35)) (Table.call T65) n (codeAt [1, 1, 1] (bodyOf Go.Proofs.Try.f35)) (Lv.mk 4 [] 4) st (kLeave (Ctx.P (Ctx.mk prog Hx (35))) (List.zip (Array.toList (Go.Func.resultTypes Go.Proofs.Try.f35)) (Array.toList (Go.Func.results Go.Proofs.Try.f35))) [] [])) (kLeave (Ctx.P (Ctx.mk prog Hx (35))) (List.zip (Array.toList (Go.Func.resultTypes Go.Proofs.Try.f35)) (Array.toList (Go.Func.results Go.Proofs.Try.f35))) [] [])
def k35_1 (n : Nat) : Ex → St → RR := kBlock (0) (k35_0 n)
def S35_0 (a : List Bridge) (i0 : Int) (es1 : List (List D)) : St := St.mk [TV.v false [C.d (D.sl false 2 (enS false a))], U_, U_, TV.v false [C.view 0 0 0 [] 2 none], I_ i0, U_, U_, U_, U_, U_, U_, U_, U_, U_, U_, U_, U_, U_, U_, U_, U_, U_, U_] [Root.mk false 2 es1 0 0 true true false]
def B35_0 (n : Nat) : St → (Ex → St → RR) → RR := runCode (Ctx.mk prog Hx (35)) (Table.call T65) n (codeAt [1, 1, 0, 1, 0, 0] (bodyOf Go.Proofs.Try.f35)) (Lv.mk 25 [(0, 8)] 4)
def X35_2 (a : List Bridge) (i0 : Int) (es1 : List (List D)) : St := St.mk [TV.v false [C.d (D.sl false 2 (enS false a))], U_, U_, TV.v false [C.view 0 0 0 [] 2 none], I_ i0, U_, U_, U_, I_ i0, TV.v false [C.d (D.sl false 2 (enS false a))], I_ (ofNat (length (enS false a))), B_ false, U_, U_, U_, U_, U_, U_, U_, U_, U_, U_, U_] [Root.mk false 2 es1 0 0 true true false]
theorem q35_0 (a : List Bridge) (n : Nat) (i0 : Int) (es1 : List (List D)) (f : St → RR) (K : Ex → St → RR) : B35_0 n (S35_0 a i0 es1) (kThen (fun st ↦ f (St.head 1 25 4194064 st)) K) = bif decide (i0 < ofNat (length (enS false a))) then bif decide (0 ≤ i0) && decide (i0 < ofNat (length (enS false a))) then bif Leaf.fit false (Leaf.int i64) (getD (getD (enS false a) (toNat i0) []) 0 D.dead) && (Leaf.fit false (Leaf.sl 11 true) (getD (getD (enS false a) (toNat i0) []) 1 D.dead) && true) then bif isS Port false (D.rows (getD (getD (enS false a) (toNat i0) []) 1 D.dead)) && Bridge.small (Bridge.mk (D.num (getD (getD (enS false a) (toNat i0) []) 0 D.dead)) (deS Port (D.rows (getD (getD (enS false a) (toNat i0) []) 1 D.dead)))) then bif decide (0 ≤ i0) && decide (i0 < ofNat (length es1)) then f (S35_0 a (wrap i64 (i0 + 1)) (set es1 (0 + toNat i0) [D.int i64 (D.num (getD (getD (enS false a) (toNat i0) []) 0 D.dead)), D.sl true 11 (enS true (deS Port (D.rows (getD (getD (enS false a) (toNat i0) []) 1 D.dead))))])) else none else none else none else none else K (Ex.exit 0) (X35_2 a i0 es1) := by kernel_rfl
theorem aX35_2 (a : List Bridge) (n : Nat) (i0 : Int) (es1 : List (List D)) : k35_1 n (Ex.exit 0) (X35_2 a i0 es1) = some ([[D.sl true 2 es1]], []) := by kernel_rfl
theorem r35 (a : List Bridge) (n : Nat) : evFn ⟨prog, Hx, 35⟩ T65.call n Go.Proofs.Try.f35 [[.sl false 2 (enS false a)]] = bif decide (0 ≤ ofNat (length (enS false a))) && (decide (ofNat (length (enS false a)) ≤ ofNat (length (enS false a))) && decide (toNat (ofNat (length (enS false a))) * 32 ≤ 140737488355328)) then loopRun (B35_0 n) 1 25 4194064 n (S35_0 a (0) (replicate (toNat (ofNat (length (enS false a)))) [D.int i64 (0), D.sl true 11 []])) (k35_1 n) else none := by kernel_rfl
theorem m35 (a : List Bridge) (hpre : (o35 a).1 = true) : evFn ⟨Go.Proofs.Try.prog, Hx, 35⟩ T65.call (a.length + 1) Go.Proofs.Try.f35 [[.sl false 2 (enS false a)]] = some (o35 a).2 := by
  refine (r35 a _).trans ?_
  show _ = (some ([[.sl true 2 (enS true (a))]], []) : Option (List Row × List Row))
  replace hpre : ((decide (a.length ≤ 1048576) && a.all Bridge.small)) = true := hpre
  rw [Bool.and_eq_true] at hpre
  have hlen := of_decide_eq_true hpre.1
  rw [enS_length, make_ok (by omega), cond_true, toNat_of]
  refine (congrArg (fun z => loopRun _ _ _ _ _ (S35_0 a 0 z) _) (enS_rep true a.length (En.nil : Bridge))).trans ?_
  refine loop_list (xs := a) (fun i (ys : List Bridge) => S35_0 a (Int.ofNat i) (enS true ys)) (fun i ys => ys.length = a.length ∧ ys.take i = a.take i) (fun _ _ _ => some ([[D.sl true 2 (enS true a)]], [])) ?_ ?_ (a.length + 1) _ (by omega) ⟨List.length_replicate .., rfl⟩
  · rintro ys ⟨h2, h3⟩ f
    refine (q35_0 a _ _ _ f _).trans ?_
    rw [end_lt, cond_false]
    refine (aX35_2 a _ _ _).trans ?_
    rw [List.take_length, ← h2, List.take_length] at h3
    subst h3
    rfl
  · rintro i ys hi ⟨h2, h3⟩ f hf
    refine (q35_0 a _ _ _ f _).trans ?_
    have hel := List.all_eq_true.1 hpre.2 _ (List.getElem_mem hi)
    simp only [enS_length, toNat_of, dec_lt, dec_ge, decide_true, decide_false, cond_true, cond_false, Bool.and_self, Bool.and_true, Bool.true_and, Bool.not_true, Bool.not_false, Nat.lt_irrefl, Nat.zero_add, isS_enS, deS_enS, isS_nil, deS_nil, List.nil_append, lendRows_enS, deepRows_enS, noSl_u8, En.enc, List.getD_cons_zero, List.getD_cons_succ, D.num, D.flag, D.text, D.rows, Leaf.fit, List.append_eq, TReader.eta, Frame.eta, Heard.eta, Member.eta, Card.eta, Out1.eta, Vec.eta, Port.eta, Bridge.eta, In.eta, Out.eta, Link.eta, Net.eta, TEnd.eta, Minder.eta, Reg.eta, Wire.eta, Box.eta, Deed.eta, Bpdu.eta, Visit.eta, Fabric.eta, Got.eta, TRide.eta, Up.eta, Copy.eta, Bucket.eta, Snap.eta, TL9Cur.eta, TL21In.eta, enS_get _ hi, hi, wrap_succ (show i < 4611686018427387904 by omega), h2, hel]
    exact (congrArg f (congrArg (S35_0 a _) (enS_set true ys i a[i]))).trans (hf (ys.set i a[i]) ⟨by rw [List.length_set]; exact h2, take_set_succ hi h2 h3⟩)
theorem s35 : SoundAt Go.Proofs.Try.prog Hx 35 c35 := soundAt_of T65_sound mixed Go.Proofs.Try.func35 (by kernel_rfl) (by
  intro rows r h
  unfold c35 at h
  split at h
  · rename_i a
    obtain ⟨hp, hr⟩ := Prod.mk.inj (Option.some.inj h)
    subst hr
    simp only [Bool.and_eq_true] at hp
    obtain ⟨hs0, hp⟩ := hp
    obtain ⟨xs0, rfl⟩ := isS_ex hs0
    simp only [deS_enS] at hp ⊢
    exact ⟨_, m35 xs0 hp⟩
  · cases h)
def T35 : Table := (35, c35) :: T65
theorem T35_sound : Table.Sound Go.Proofs.Try.prog Hx T35 := Table.sound_cons s35 T65_sound
/- toLink -/
def o66 (a : Link) : Bool × List Row × List Row := (true, [[.int .i64 (a).A, .int .i64 (a).P, .int .i64 (a).B, .int .i64 (a).Q]], [])
def c66 : Contract
  | [[.int .i64 a_A, .int .i64 a_P, .int .i64 a_B, .int .i64 a_Q]] => some ((o66 ⟨a_A, a_P, a_B, a_Q⟩).1, (o66 ⟨a_A, a_P, a_B, a_Q⟩).2.1, (o66 ⟨a_A, a_P, a_B, a_Q⟩).2.2)
  | _ => none

theorem r66 (a : Link) (n : Nat) : evFn ⟨prog, Hx, 66⟩ T35.call n Go.Proofs.Try.f66 [[.int .i64 a.A, .int .i64 a.P, .int .i64 a.B, .int .i64 a.Q]] = some ([[D.int i64 (Link.A a), D.int i64 (Link.P a), D.int i64 (Link.B a), D.int i64 (Link.Q a)]], []) := by kernel_rfl
theorem m66 (a : Link) (hpre : (o66 a).1 = true) : evFn ⟨Go.Proofs.Try.prog, Hx, 66⟩ T35.call 0 Go.Proofs.Try.f66 [[.int .i64 a.A, .int .i64 a.P, .int .i64 a.B, .int .i64 a.Q]] = some (o66 a).2 := by
  refine (r66 a _).trans ?_
  show _ = (some ([[.int .i64 (a).A, .int .i64 (a).P, .int .i64 (a).B, .int .i64 (a).Q]], []) : Option (List Row × List Row))
  replace hpre : (true) = true := hpre
  rfl
theorem s66 : SoundAt Go.Proofs.Try.prog Hx 66 c66 := soundAt_of T35_sound mixed Go.Proofs.Try.func66 (by kernel_rfl) (by
  intro rows r h
  unfold c66 at h
  split at h
  · rename_i a_A a_P a_B a_Q
    obtain ⟨hp, hr⟩ := Prod.mk.inj (Option.some.inj h)
    subst hr
    exact ⟨_, m66 ⟨a_A, a_P, a_B, a_Q⟩ hp⟩
  · cases h)
def T66 : Table := (66, c66) :: T35
theorem T66_sound : Table.Sound Go.Proofs.Try.prog Hx T66 := Table.sound_cons s66 T35_sound
/- toLinkS -/
def o36 (a : List Link) : Bool × List Row × List Row := (decide (a.length ≤ 1048576), [[.sl true 4 (enS true (a))]], [])
def c36 : Contract
  | [[.sl false 4 a]] => some (isS Link false a && (o36 (deS Link a)).1, (o36 (deS Link a)).2.1, (o36 (deS Link a)).2.2)
  | _ => none

def k36_0 (n : Nat) : Ex → St → RR := kThen (fun st ↦ runCode (Ctx.mk prog Hx (36)) (Table.call T66) n (codeAt [1, 1, 1] (bodyOf Go.Proofs.Try.f36)) (Lv.mk 4 [] 4) st (kLeave (Ctx.P (Ctx.mk prog Hx (36))) (List.zip (Array.toList (Go.Func.resultTypes Go.Proofs.Try.f36)) (Array.toList (Go.Func.results Go.Proofs.Try.f36))) [] [])) (kLeave (Ctx.P (Ctx.mk prog Hx (36))) (List.zip (Array.toList (Go.Func.resultTypes Go.Proofs.Try.f36)) (Array.toList (Go.Func.results Go.Proofs.Try.f36))) [] [])
def k36_1 (n : Nat) : Ex → St → RR := kBlock (0) (k36_0 n)
def S36_0 (a : List Link) (i0 : Int) (es1 : List (List D)) : St := St.mk [TV.v false [C.d (D.sl false 4 (enS false a))], U_, U_, TV.v false [C.view 0 0 0 [] 4 none], I_ i0, U_, U_, U_, U_, U_, U_, U_, U_, U_, U_, U_, U_, U_, U_, U_, U_, U_, U_] [Root.mk false 4 es1 0 0 true true false]
def B36_0 (n : Nat) : St → (Ex → St → RR) → RR := runCode (Ctx.mk prog Hx (36)) (Table.call T66) n (codeAt [1, 1, 0, 1, 0, 0] (bodyOf Go.Proofs.Try.f36)) (Lv.mk 25 [(0, 8)] 4)
def X36_2 (a : List Link) (i0 : Int) (es1 : List (List D)) : St := St.mk [TV.v false [C.d (D.sl false 4 (enS false a))], U_, U_, TV.v false [C.view 0 0 0 [] 4 none], I_ i0, U_, U_, U_, I_ i0, TV.v false [C.d (D.sl false 4 (enS false a))], I_ (ofNat (length (enS false a))), B_ false, U_, U_, U_, U_, U_, U_, U_, U_, U_, U_, U_] [Root.mk false 4 es1 0 0 true true false]
theorem q36_0 (a : List Link) (n : Nat) (i0 : Int) (es1 : List (List D)) (f : St → RR) (K : Ex → St → RR) : B36_0 n (S36_0 a i0 es1) (kThen (fun st ↦ f (St.head 1 25 4194064 st)) K) = bif decide (i0 < ofNat (length (enS false a))) then bif decide (0 ≤ i0) && decide (i0 < ofNat (length (enS false a))) then bif Leaf.fit false (Leaf.int i64) (getD (getD (enS false a) (toNat i0) []) 0 D.dead) && (Leaf.fit false (Leaf.int i64) (getD (getD (enS false a) (toNat i0) []) 1 D.dead) && (Leaf.fit false (Leaf.int i64) (getD (getD (enS false a) (toNat i0) []) 2 D.dead) && (Leaf.fit false (Leaf.int i64) (getD (getD (enS false a) (toNat i0) []) 3 D.dead) && true))) then bif decide (0 ≤ i0) && decide (i0 < ofNat (length es1)) then f (S36_0 a (wrap i64 (i0 + 1)) (set es1 (0 + toNat i0) [D.int i64 (D.num (getD (getD (enS false a) (toNat i0) []) 0 D.dead)), D.int i64 (D.num (getD (getD (enS false a) (toNat i0) []) 1 D.dead)), D.int i64 (D.num (getD (getD (enS false a) (toNat i0) []) 2 D.dead)), D.int i64 (D.num (getD (getD (enS false a) (toNat i0) []) 3 D.dead))])) else none else none else none else K (Ex.exit 0) (X36_2 a i0 es1) := by kernel_rfl
theorem aX36_2 (a : List Link) (n : Nat) (i0 : Int) (es1 : List (List D)) : k36_1 n (Ex.exit 0) (X36_2 a i0 es1) = some ([[D.sl true 4 es1]], []) := by kernel_rfl
theorem r36 (a : List Link) (n : Nat) : evFn ⟨prog, Hx, 36⟩ T66.call n Go.Proofs.Try.f36 [[.sl false 4 (enS false a)]] = bif decide (0 ≤ ofNat (length (enS false a))) && (decide (ofNat (length (enS false a)) ≤ ofNat (length (enS false a))) && decide (toNat (ofNat (length (enS false a))) * 32 ≤ 140737488355328)) then loopRun (B36_0 n) 1 25 4194064 n (S36_0 a (0) (replicate (toNat (ofNat (length (enS false a)))) [D.int i64 (0), D.int i64 (0), D.int i64 (0), D.int i64 (0)])) (k36_1 n) else none := by kernel_rfl
theorem m36 (a : List Link) (hpre : (o36 a).1 = true) : evFn ⟨Go.Proofs.Try.prog, Hx, 36⟩ T66.call (a.length + 1) Go.Proofs.Try.f36 [[.sl false 4 (enS false a)]] = some (o36 a).2 := by
  refine (r36 a _).trans ?_
  show _ = (some ([[.sl true 4 (enS true (a))]], []) : Option (List Row × List Row))
  replace hpre : (decide (a.length ≤ 1048576)) = true := hpre
  have hlen : a.length ≤ 1048576 := of_decide_eq_true hpre
  rw [enS_length, make_ok (by omega), cond_true, toNat_of]
  refine (congrArg (fun z => loopRun _ _ _ _ _ (S36_0 a 0 z) _) (enS_rep true a.length (En.nil : Link))).trans ?_
  refine loop_list (xs := a) (fun i (ys : List Link) => S36_0 a (Int.ofNat i) (enS true ys)) (fun i ys => ys.length = a.length ∧ ys.take i = a.take i) (fun _ _ _ => some ([[D.sl true 4 (enS true a)]], [])) ?_ ?_ (a.length + 1) _ (by omega) ⟨List.length_replicate .., rfl⟩
  · rintro ys ⟨h2, h3⟩ f
    refine (q36_0 a _ _ _ f _).trans ?_
    simp only [enS_length, dec_lt, Nat.lt_irrefl, decide_false, cond_false]
    refine (aX36_2 a _ _ _).trans ?_
    rw [List.take_length, ← h2, List.take_length] at h3
    subst h3
    rfl
  · rintro i ys hi ⟨h2, h3⟩ f hf
    refine (q36_0 a _ _ _ f _).trans ?_
    simp only [enS_length, toNat_of, dec_lt, dec_ge, enS_get _ hi, h2, hi, wrap_succ (show i < 4611686018427387904 by omega), Nat.zero_add, decide_true, cond_true, Bool.and_self]
    exact (congrArg f (congrArg (S36_0 a _) (enS_set true ys i a[i]))).trans (hf (ys.set i a[i]) ⟨by rw [List.length_set]; exact h2, take_set_succ hi h2 h3⟩)
theorem s36 : SoundAt Go.Proofs.Try.prog Hx 36 c36 := soundAt_of T66_sound mixed Go.Proofs.Try.func36 (by kernel_rfl) (by
  intro rows r h
  unfold c36 at h
  split at h
  · rename_i a
    obtain ⟨hp, hr⟩ := Prod.mk.inj (Option.some.inj h)
    subst hr
    simp only [Bool.and_eq_true] at hp
    obtain ⟨hs0, hp⟩ := hp
    obtain ⟨xs0, rfl⟩ := isS_ex hs0
    simp only [deS_enS] at hp ⊢
    exact ⟨_, m36 xs0 hp⟩
  · cases h)
def T36 : Table := (36, c36) :: T66
theorem T36_sound : Table.Sound Go.Proofs.Try.prog Hx T36 := Table.sound_cons s36 T66_sound
/- toNet -/
def o9 (a : Net) : Bool × List Row × List Row := (Net.small a, [[.sl true 2 (enS true (a).Bridges), .sl true 4 (enS true (a).Links)]], [])
def c9 : Contract
  | [[.sl false 2 a_Bridges, .sl false 4 a_Links]] => some (isS Bridge false a_Bridges && isS Link false a_Links && (o9 ⟨(deS Bridge a_Bridges), (deS Link a_Links)⟩).1, (o9 ⟨(deS Bridge a_Bridges), (deS Link a_Links)⟩).2.1, (o9 ⟨(deS Bridge a_Bridges), (deS Link a_Links)⟩).2.2)
  | _ => none

theorem r9 (a : Net) (n : Nat) : evFn ⟨prog, Hx, 9⟩ T36.call n Go.Proofs.Try.f9 [[.sl false 2 (enS false a.Bridges), .sl false 4 (enS false a.Links)]] = bif isS Bridge false (enS false (Net.Bridges a)) && (decide (length (deS Bridge (enS false (Net.Bridges a))) ≤ 1048576) && all (deS Bridge (enS false (Net.Bridges a))) Bridge.small) then bif isS Link false (enS false (Net.Links a)) && decide (length (deS Link (enS false (Net.Links a))) ≤ 1048576) then some ([[D.sl true 2 (enS true (deS Bridge (enS false (Net.Bridges a)))), D.sl true 4 (enS true (deS Link (enS false (Net.Links a))))]], []) else none else none := by kernel_rfl
theorem m9 (a : Net) (hpre : (o9 a).1 = true) : evFn ⟨Go.Proofs.Try.prog, Hx, 9⟩ T36.call 0 Go.Proofs.Try.f9 [[.sl false 2 (enS false a.Bridges), .sl false 4 (enS false a.Links)]] = some (o9 a).2 := by
  refine (r9 a _).trans ?_
  show _ = (some ([[.sl true 2 (enS true (a).Bridges), .sl true 4 (enS true (a).Links)]], []) : Option (List Row × List Row))
  replace hpre : (Net.small a) = true := hpre
  unfold Net.small at hpre
  try simp only [Bool.and_eq_true] at hpre
  simp only [hpre, isS_enS, deS_enS, cond_true, Bool.and_self, Bool.and_true, Bool.true_and]
  try rfl
theorem s9 : SoundAt Go.Proofs.Try.prog Hx 9 c9 := soundAt_of T36_sound mixed Go.Proofs.Try.func9 (by kernel_rfl) (by
  intro rows r h
  unfold c9 at h
  split at h
  · rename_i a_Bridges a_Links
    obtain ⟨hp, hr⟩ := Prod.mk.inj (Option.some.inj h)
    subst hr
    simp only [Bool.and_eq_true] at hp
    obtain ⟨⟨hs0, hs1⟩, hp⟩ := hp
    obtain ⟨xs0, rfl⟩ := isS_ex hs0
    obtain ⟨xs1, rfl⟩ := isS_ex hs1
    simp only [deS_enS] at hp ⊢
    exact ⟨_, m9 ⟨xs0, xs1⟩ hp⟩
  · cases h)
def T9 : Table := (9, c9) :: T36
theorem T9_sound : Table.Sound Go.Proofs.Try.prog Hx T9 := Table.sound_cons s9 T36_sound
/- eqVec -/
def o96 (a : Vec) (b : Vec) : Bool × List Row × List Row := (sameB a b, [[.bool (true)]], [])
def c96 : Contract
  | [[.int .i64 a_Root, .int .i64 a_Cost, .int .i64 a_Bridge, .int .i64 a_Port], [.int .i64 b_Root, .int .i64 b_Cost, .int .i64 b_Bridge, .int .i64 b_Port]] => some ((o96 ⟨a_Root, a_Cost, a_Bridge, a_Port⟩ ⟨b_Root, b_Cost, b_Bridge, b_Port⟩).1, (o96 ⟨a_Root, a_Cost, a_Bridge, a_Port⟩ ⟨b_Root, b_Cost, b_Bridge, b_Port⟩).2.1, (o96 ⟨a_Root, a_Cost, a_Bridge, a_Port⟩ ⟨b_Root, b_Cost, b_Bridge, b_Port⟩).2.2)
  | _ => none

theorem r96 (a : Vec) (b : Vec) (n : Nat) : evFn ⟨prog, Hx, 96⟩ T9.call n Go.Proofs.Try.f96 [[.int .i64 a.Root, .int .i64 a.Cost, .int .i64 a.Bridge, .int .i64 a.Port], [.int .i64 b.Root, .int .i64 b.Cost, .int .i64 b.Bridge, .int .i64 b.Port]] = bif Vec.Root a != Vec.Root b then some ([[D.bool false]], []) else bif Vec.Cost a != Vec.Cost b then some ([[D.bool false]], []) else bif Vec.Bridge a != Vec.Bridge b then some ([[D.bool false]], []) else bif Vec.Port a != Vec.Port b then some ([[D.bool false]], []) else some ([[D.bool true]], []) := by kernel_rfl
theorem m96 (a : Vec) (b : Vec) (hpre : (o96 a b).1 = true) : evFn ⟨Go.Proofs.Try.prog, Hx, 96⟩ T9.call 0 Go.Proofs.Try.f96 [[.int .i64 a.Root, .int .i64 a.Cost, .int .i64 a.Bridge, .int .i64 a.Port], [.int .i64 b.Root, .int .i64 b.Cost, .int .i64 b.Bridge, .int .i64 b.Port]] = some (o96 a b).2 := by
  refine (r96 a b _).trans ?_
  show _ = (some ([[.bool (true)]], []) : Option (List Row × List Row))
  replace hpre : (sameB a b) = true := hpre
  have := sameB_eq hpre
  subst this
  simp only [bne_self_eq_false, cond_false, sameB_self, cond_true, Bool.not_true]
theorem s96 : SoundAt Go.Proofs.Try.prog Hx 96 c96 := soundAt_of T9_sound mixed Go.Proofs.Try.func96 (by kernel_rfl) (by
  intro rows r h
  unfold c96 at h
  split at h
  · rename_i a_Root a_Cost a_Bridge a_Port b_Root b_Cost b_Bridge b_Port
    obtain ⟨hp, hr⟩ := Prod.mk.inj (Option.some.inj h)
    subst hr
    exact ⟨_, m96 ⟨a_Root, a_Cost, a_Bridge, a_Port⟩ ⟨b_Root, b_Cost, b_Bridge, b_Port⟩ hp⟩
  · cases h)
def T96 : Table := (96, c96) :: T9
theorem T96_sound : Table.Sound Go.Proofs.Try.prog Hx T96 := Table.sound_cons s96 T9_sound
/- eqPort -/
def o82 (a : Port) (b : Port) : Bool × List Row × List Row := (sameB a b, [[.bool (true)]], [])
def c82 : Contract
  | [[.bool a_Up, .bool a_Has, .int .i64 a_Vec_Root, .int .i64 a_Vec_Cost, .int .i64 a_Vec_Bridge, .int .i64 a_Vec_Port, .int .i64 a_Hops, .int .i64 a_Left, .int .i64 a_Role, .int .i64 a_Wait, .bool a_Open], [.bool b_Up, .bool b_Has, .int .i64 b_Vec_Root, .int .i64 b_Vec_Cost, .int .i64 b_Vec_Bridge, .int .i64 b_Vec_Port, .int .i64 b_Hops, .int .i64 b_Left, .int .i64 b_Role, .int .i64 b_Wait, .bool b_Open]] => some ((o82 ⟨a_Up, a_Has, ⟨a_Vec_Root, a_Vec_Cost, a_Vec_Bridge, a_Vec_Port⟩, a_Hops, a_Left, a_Role, a_Wait, a_Open⟩ ⟨b_Up, b_Has, ⟨b_Vec_Root, b_Vec_Cost, b_Vec_Bridge, b_Vec_Port⟩, b_Hops, b_Left, b_Role, b_Wait, b_Open⟩).1, (o82 ⟨a_Up, a_Has, ⟨a_Vec_Root, a_Vec_Cost, a_Vec_Bridge, a_Vec_Port⟩, a_Hops, a_Left, a_Role, a_Wait, a_Open⟩ ⟨b_Up, b_Has, ⟨b_Vec_Root, b_Vec_Cost, b_Vec_Bridge, b_Vec_Port⟩, b_Hops, b_Left, b_Role, b_Wait, b_Open⟩).2.1, (o82 ⟨a_Up, a_Has, ⟨a_Vec_Root, a_Vec_Cost, a_Vec_Bridge, a_Vec_Port⟩, a_Hops, a_Left, a_Role, a_Wait, a_Open⟩ ⟨b_Up, b_Has, ⟨b_Vec_Root, b_Vec_Cost, b_Vec_Bridge, b_Vec_Port⟩, b_Hops, b_Left, b_Role, b_Wait, b_Open⟩).2.2)
  | _ => none

theorem r82 (a : Port) (b : Port) (n : Nat) : evFn ⟨prog, Hx, 82⟩ T96.call n Go.Proofs.Try.f82 [[.bool a.Up, .bool a.Has, .int .i64 a.Vec.Root, .int .i64 a.Vec.Cost, .int .i64 a.Vec.Bridge, .int .i64 a.Vec.Port, .int .i64 a.Hops, .int .i64 a.Left, .int .i64 a.Role, .int .i64 a.Wait, .bool a.Open], [.bool b.Up, .bool b.Has, .int .i64 b.Vec.Root, .int .i64 b.Vec.Cost, .int .i64 b.Vec.Bridge, .int .i64 b.Vec.Port, .int .i64 b.Hops, .int .i64 b.Left, .int .i64 b.Role, .int .i64 b.Wait, .bool b.Open]] = bif Port.Up a != Port.Up b then some ([[D.bool false]], []) else bif Port.Has a != Port.Has b then some ([[D.bool false]], []) else bif sameB (Port.Vec a) (Port.Vec b) then bif Port.Hops a != Port.Hops b then some ([[D.bool false]], []) else bif Port.Left a != Port.Left b then some ([[D.bool false]], []) else bif Port.Role a != Port.Role b then some ([[D.bool false]], []) else bif Port.Wait a != Port.Wait b then some ([[D.bool false]], []) else bif Port.Open a != Port.Open b then some ([[D.bool false]], []) else some ([[D.bool true]], []) else none := by kernel_rfl
theorem m82 (a : Port) (b : Port) (hpre : (o82 a b).1 = true) : evFn ⟨Go.Proofs.Try.prog, Hx, 82⟩ T96.call 0 Go.Proofs.Try.f82 [[.bool a.Up, .bool a.Has, .int .i64 a.Vec.Root, .int .i64 a.Vec.Cost, .int .i64 a.Vec.Bridge, .int .i64 a.Vec.Port, .int .i64 a.Hops, .int .i64 a.Left, .int .i64 a.Role, .int .i64 a.Wait, .bool a.Open], [.bool b.Up, .bool b.Has, .int .i64 b.Vec.Root, .int .i64 b.Vec.Cost, .int .i64 b.Vec.Bridge, .int .i64 b.Vec.Port, .int .i64 b.Hops, .int .i64 b.Left, .int .i64 b.Role, .int .i64 b.Wait, .bool b.Open]] = some (o82 a b).2 := by
  refine (r82 a b _).trans ?_
  show _ = (some ([[.bool (true)]], []) : Option (List Row × List Row))
  replace hpre : (sameB a b) = true := hpre
  have := sameB_eq hpre
  subst this
  simp only [bne_self_eq_false, cond_false, sameB_self, cond_true, Bool.not_true]
theorem s82 : SoundAt Go.Proofs.Try.prog Hx 82 c82 := soundAt_of T96_sound mixed Go.Proofs.Try.func82 (by kernel_rfl) (by
  intro rows r h
  unfold c82 at h
  split at h
  · rename_i a_Up a_Has a_Vec_Root a_Vec_Cost a_Vec_Bridge a_Vec_Port a_Hops a_Left a_Role a_Wait a_Open b_Up b_Has b_Vec_Root b_Vec_Cost b_Vec_Bridge b_Vec_Port b_Hops b_Left b_Role b_Wait b_Open
    obtain ⟨hp, hr⟩ := Prod.mk.inj (Option.some.inj h)
    subst hr
    exact ⟨_, m82 ⟨a_Up, a_Has, ⟨a_Vec_Root, a_Vec_Cost, a_Vec_Bridge, a_Vec_Port⟩, a_Hops, a_Left, a_Role, a_Wait, a_Open⟩ ⟨b_Up, b_Has, ⟨b_Vec_Root, b_Vec_Cost, b_Vec_Bridge, b_Vec_Port⟩, b_Hops, b_Left, b_Role, b_Wait, b_Open⟩ hp⟩
  · cases h)
def T82 : Table := (82, c82) :: T96
theorem T82_sound : Table.Sound Go.Proofs.Try.prog Hx T82 := Table.sound_cons s82 T96_sound
/- eqPortS -/
def o50 (a : List Port) (b : List Port) : Bool × List Row × List Row := (sameB a b && (decide (a.length ≤ 1048576)), [[.bool (true)]], [])
def c50 : Contract
  | [[.sl false 11 a], [.sl false 11 b]] => some (isS Port false a && isS Port false b && (o50 (deS Port a) (deS Port b)).1, (o50 (deS Port a) (deS Port b)).2.1, (o50 (deS Port a) (deS Port b)).2.2)
  | _ => none

def k50_0 (n : Nat) : Ex → St → RR := kThen (fun st ↦ runCode (Ctx.mk prog Hx (50)) (Table.call T82) n (codeAt [1, 1, 1] (bodyOf Go.Proofs.Try.f50)) (Lv.mk 16 [] 16) st (kLeave (Ctx.P (Ctx.mk prog Hx (50))) (List.zip (Array.toList (Go.Func.resultTypes Go.Proofs.Try.f50)) (Array.toList (Go.Func.results Go.Proofs.Try.f50))) [] [])) (kLeave (Ctx.P (Ctx.mk prog Hx (50))) (List.zip (Array.toList (Go.Func.resultTypes Go.Proofs.Try.f50)) (Array.toList (Go.Func.results Go.Proofs.Try.f50))) [] [])
def k50_1 (n : Nat) : Ex → St → RR := kBlock (0) (k50_0 n)
def S50_0 (a : List Port) (b : List Port) (i0 : Int) : St := St.mk [TV.v false [C.d (D.sl false 11 (enS false a))], TV.v false [C.d (D.sl false 11 (enS false b))], U_, U_, U_, I_ i0, U_, U_, U_, U_, U_, U_, U_, U_, U_, U_, U_, U_, U_, U_, U_, U_, U_, U_, U_, U_, U_] []
def B50_0 (n : Nat) : St → (Ex → St → RR) → RR := runCode (Ctx.mk prog Hx (50)) (Table.call T82) n (codeAt [1, 1, 0, 1, 0, 0] (bodyOf Go.Proofs.Try.f50)) (Lv.mk 35 [(0, 0)] 16)
def X50_2 (a : List Port) (b : List Port) (i0 : Int) : St := St.mk [TV.v false [C.d (D.sl false 11 (enS false a))], TV.v false [C.d (D.sl false 11 (enS false b))], U_, U_, U_, I_ i0, U_, U_, U_, U_, U_, I_ i0, TV.v false [C.d (D.sl false 11 (enS false a))], I_ (ofNat (length (enS false a))), B_ false, U_, U_, U_, U_, U_, U_, U_, U_, U_, U_, U_, U_] []
theorem q50_0 (a : List Port) (b : List Port) (n : Nat) (i0 : Int) (f : St → RR) (K : Ex → St → RR) : B50_0 n (S50_0 a b i0) (kThen (fun st ↦ f (St.head 0 35 134215728 st)) K) = bif decide (i0 < ofNat (length (enS false a))) then bif decide (0 ≤ i0) && decide (i0 < ofNat (length (enS false a))) then bif Leaf.fit false Leaf.bool (getD (getD (enS false a) (toNat i0) []) 0 D.dead) && (Leaf.fit false Leaf.bool (getD (getD (enS false a) (toNat i0) []) 1 D.dead) && (Leaf.fit false (Leaf.int i64) (getD (getD (enS false a) (toNat i0) []) 2 D.dead) && (Leaf.fit false (Leaf.int i64) (getD (getD (enS false a) (toNat i0) []) 3 D.dead) && (Leaf.fit false (Leaf.int i64) (getD (getD (enS false a) (toNat i0) []) 4 D.dead) && (Leaf.fit false (Leaf.int i64) (getD (getD (enS false a) (toNat i0) []) 5 D.dead) && (Leaf.fit false (Leaf.int i64) (getD (getD (enS false a) (toNat i0) []) 6 D.dead) && (Leaf.fit false (Leaf.int i64) (getD (getD (enS false a) (toNat i0) []) 7 D.dead) && (Leaf.fit false (Leaf.int i64) (getD (getD (enS false a) (toNat i0) []) 8 D.dead) && (Leaf.fit false (Leaf.int i64) (getD (getD (enS false a) (toNat i0) []) 9 D.dead) && (Leaf.fit false Leaf.bool (getD (getD (enS false a) (toNat i0) []) 10 D.dead) && true)))))))))) then bif decide (0 ≤ i0) && decide (i0 < ofNat (length (enS false b))) then bif Leaf.fit false Leaf.bool (getD (getD (enS false b) (toNat i0) []) 0 D.dead) && (Leaf.fit false Leaf.bool (getD (getD (enS false b) (toNat i0) []) 1 D.dead) && (Leaf.fit false (Leaf.int i64) (getD (getD (enS false b) (toNat i0) []) 2 D.dead) && (Leaf.fit false (Leaf.int i64) (getD (getD (enS false b) (toNat i0) []) 3 D.dead) && (Leaf.fit false (Leaf.int i64) (getD (getD (enS false b) (toNat i0) []) 4 D.dead) && (Leaf.fit false (Leaf.int i64) (getD (getD (enS false b) (toNat i0) []) 5 D.dead) && (Leaf.fit false (Leaf.int i64) (getD (getD (enS false b) (toNat i0) []) 6 D.dead) && (Leaf.fit false (Leaf.int i64) (getD (getD (enS false b) (toNat i0) []) 7 D.dead) && (Leaf.fit false (Leaf.int i64) (getD (getD (enS false b) (toNat i0) []) 8 D.dead) && (Leaf.fit false (Leaf.int i64) (getD (getD (enS false b) (toNat i0) []) 9 D.dead) && (Leaf.fit false Leaf.bool (getD (getD (enS false b) (toNat i0) []) 10 D.dead) && true)))))))))) then bif sameB (Port.mk (D.flag (getD (getD (enS false a) (toNat i0) []) 0 D.dead)) (D.flag (getD (getD (enS false a) (toNat i0) []) 1 D.dead)) (Vec.mk (D.num (getD (getD (enS false a) (toNat i0) []) 2 D.dead)) (D.num (getD (getD (enS false a) (toNat i0) []) 3 D.dead)) (D.num (getD (getD (enS false a) (toNat i0) []) 4 D.dead)) (D.num (getD (getD (enS false a) (toNat i0) []) 5 D.dead))) (D.num (getD (getD (enS false a) (toNat i0) []) 6 D.dead)) (D.num (getD (getD (enS false a) (toNat i0) []) 7 D.dead)) (D.num (getD (getD (enS false a) (toNat i0) []) 8 D.dead)) (D.num (getD (getD (enS false a) (toNat i0) []) 9 D.dead)) (D.flag (getD (getD (enS false a) (toNat i0) []) 10 D.dead))) (Port.mk (D.flag (getD (getD (enS false b) (toNat i0) []) 0 D.dead)) (D.flag (getD (getD (enS false b) (toNat i0) []) 1 D.dead)) (Vec.mk (D.num (getD (getD (enS false b) (toNat i0) []) 2 D.dead)) (D.num (getD (getD (enS false b) (toNat i0) []) 3 D.dead)) (D.num (getD (getD (enS false b) (toNat i0) []) 4 D.dead)) (D.num (getD (getD (enS false b) (toNat i0) []) 5 D.dead))) (D.num (getD (getD (enS false b) (toNat i0) []) 6 D.dead)) (D.num (getD (getD (enS false b) (toNat i0) []) 7 D.dead)) (D.num (getD (getD (enS false b) (toNat i0) []) 8 D.dead)) (D.num (getD (getD (enS false b) (toNat i0) []) 9 D.dead)) (D.flag (getD (getD (enS false b) (toNat i0) []) 10 D.dead))) then f (S50_0 a b (wrap i64 (i0 + 1))) else none else none else none else none else none else K (Ex.exit 0) (X50_2 a b i0) := by kernel_rfl
theorem aX50_2 (a : List Port) (b : List Port) (n : Nat) (i0 : Int) : k50_1 n (Ex.exit 0) (X50_2 a b i0) = some ([[D.bool true]], []) := by kernel_rfl
theorem r50 (a : List Port) (b : List Port) (n : Nat) : evFn ⟨prog, Hx, 50⟩ T82.call n Go.Proofs.Try.f50 [[.sl false 11 (enS false a)], [.sl false 11 (enS false b)]] = bif ofNat (length (enS false a)) != ofNat (length (enS false b)) then some ([[D.bool false]], []) else loopRun (B50_0 n) 0 35 134215728 n (S50_0 a b (0)) (k50_1 n) := by kernel_rfl
theorem m50 (a : List Port) (b : List Port) (hpre : (o50 a b).1 = true) : evFn ⟨Go.Proofs.Try.prog, Hx, 50⟩ T82.call (a.length + 1) Go.Proofs.Try.f50 [[.sl false 11 (enS false a)], [.sl false 11 (enS false b)]] = some (o50 a b).2 := by
  refine (r50 a b _).trans ?_
  show _ = (some ([[.bool (true)]], []) : Option (List Row × List Row))
  replace hpre : (sameB a b && (decide (a.length ≤ 1048576))) = true := hpre
  rw [Bool.and_eq_true] at hpre
  obtain ⟨h0, h1⟩ := hpre
  have hlen : a.length ≤ 1048576 := of_decide_eq_true h1
  have := sameB_eq h0
  subst this
  simp only [bne_self_eq_false, cond_false]
  refine loop_list (xs := a) (fun i (_ : Unit) => S50_0 a a (Int.ofNat i)) (fun _ _ => True) (fun _ _ _ => some ([[D.bool true]], [])) ?_ ?_ (a.length + 1) () (by omega) trivial
  · rintro _ _ f
    refine (q50_0 a a _ _ f _).trans ?_
    simp only [enS_length, dec_lt, Nat.lt_irrefl, decide_false, cond_false]
    exact aX50_2 a a _ _
  · rintro i _ hi _ f hf
    refine (q50_0 a a _ _ f _).trans ?_
    simp only [enS_length, toNat_of, dec_lt, dec_ge, enS_get _ hi, hi, wrap_succ (show i < 4611686018427387904 by omega), decide_true, cond_true, Bool.and_self, sameB_self, bne_self_eq_false, cond_false]
    exact hf () trivial
theorem s50 : SoundAt Go.Proofs.Try.prog Hx 50 c50 := soundAt_of T82_sound mixed Go.Proofs.Try.func50 (by kernel_rfl) (by
  intro rows r h
  unfold c50 at h
  split at h
  · rename_i a b
    obtain ⟨hp, hr⟩ := Prod.mk.inj (Option.some.inj h)
    subst hr
    simp only [Bool.and_eq_true] at hp
    obtain ⟨⟨hs0, hs1⟩, hp⟩ := hp
    obtain ⟨xs0, rfl⟩ := isS_ex hs0
    obtain ⟨xs1, rfl⟩ := isS_ex hs1
    simp only [deS_enS] at hp ⊢
    exact ⟨_, m50 xs0 xs1 hp⟩
  · cases h)
def T50 : Table := (50, c50) :: T82
theorem T50_sound : Table.Sound Go.Proofs.Try.prog Hx T50 := Table.sound_cons s50 T82_sound
/- eqBridge -/
def o15 (a : Bridge) (b : Bridge) : Bool × List Row × List Row := (sameB a b && (Bridge.small a), [[.bool (true)]], [])
def c15 : Contract
  | [[.int .i64 a_Id, .sl false 11 a_Ports], [.int .i64 b_Id, .sl false 11 b_Ports]] => some (isS Port false a_Ports && isS Port false b_Ports && (o15 ⟨a_Id, (deS Port a_Ports)⟩ ⟨b_Id, (deS Port b_Ports)⟩).1, (o15 ⟨a_Id, (deS Port a_Ports)⟩ ⟨b_Id, (deS Port b_Ports)⟩).2.1, (o15 ⟨a_Id, (deS Port a_Ports)⟩ ⟨b_Id, (deS Port b_Ports)⟩).2.2)
  | _ => none

theorem r15 (a : Bridge) (b : Bridge) (n : Nat) : evFn ⟨prog, Hx, 15⟩ T50.call n Go.Proofs.Try.f15 [[.int .i64 a.Id, .sl false 11 (enS false a.Ports)], [.int .i64 b.Id, .sl false 11 (enS false b.Ports)]] = bif Bridge.Id a != Bridge.Id b then some ([[D.bool false]], []) else bif isS Port false (enS false (Bridge.Ports a)) && isS Port false (enS false (Bridge.Ports b)) && (sameB (deS Port (enS false (Bridge.Ports a))) (deS Port (enS false (Bridge.Ports b))) && decide (length (deS Port (enS false (Bridge.Ports a))) ≤ 1048576)) then some ([[D.bool true]], []) else none := by kernel_rfl
theorem m15 (a : Bridge) (b : Bridge) (hpre : (o15 a b).1 = true) : evFn ⟨Go.Proofs.Try.prog, Hx, 15⟩ T50.call 0 Go.Proofs.Try.f15 [[.int .i64 a.Id, .sl false 11 (enS false a.Ports)], [.int .i64 b.Id, .sl false 11 (enS false b.Ports)]] = some (o15 a b).2 := by
  refine (r15 a b _).trans ?_
  show _ = (some ([[.bool (true)]], []) : Option (List Row × List Row))
  replace hpre : (sameB a b && (Bridge.small a)) = true := hpre
  rw [Bool.and_eq_true] at hpre
  obtain ⟨h0, h1⟩ := hpre
  have := sameB_eq h0
  subst this
  unfold Bridge.small at h1
  try simp only [Bool.and_eq_true] at h1
  simp only [h1, bne_self_eq_false, cond_false, cond_true, sameB_self, isS_enS, deS_enS, Bool.and_self, Bool.and_true, Bool.true_and, Bool.not_true]
  try rfl
theorem s15 : SoundAt Go.Proofs.Try.prog Hx 15 c15 := soundAt_of T50_sound mixed Go.Proofs.Try.func15 (by kernel_rfl) (by
  intro rows r h
  unfold c15 at h
  split at h
  · rename_i a_Id a_Ports b_Id b_Ports
    obtain ⟨hp, hr⟩ := Prod.mk.inj (Option.some.inj h)
    subst hr
    simp only [Bool.and_eq_true] at hp
    obtain ⟨⟨hs0, hs1⟩, hp⟩ := hp
    obtain ⟨xs0, rfl⟩ := isS_ex hs0
    obtain ⟨xs1, rfl⟩ := isS_ex hs1
    simp only [deS_enS] at hp ⊢
    exact ⟨_, m15 ⟨a_Id, xs0⟩ ⟨b_Id, xs1⟩ hp⟩
  · cases h)
def T15 : Table := (15, c15) :: T50
theorem T15_sound : Table.Sound Go.Proofs.Try.prog Hx T15 := Table.sound_cons s15 T50_sound
/- eqBridgeS -/
def o39 (a : List Bridge) (b : List Bridge) : Bool × List Row × List Row := (sameB a b && ((decide (a.length ≤ 1048576) && a.all Bridge.small)), [[.bool (true)]], [])
def c39 : Contract
  | [[.sl false 2 a], [.sl false 2 b]] => some (isS Bridge false a && isS Bridge false b && (o39 (deS Bridge a) (deS Bridge b)).1, (o39 (deS Bridge a) (deS Bridge b)).2.1, (o39 (deS Bridge a) (deS Bridge b)).2.2)
  | _ => none

def k39_0 (n : Nat) : Ex → St → RR := kThen (fun st ↦ runCode (Ctx.mk prog Hx (39)) (Table.call T15) n (codeAt [1, 1, 1] (bodyOf Go.Proofs.Try.f39)) (Lv.mk 16 [] 16) st (kLeave (Ctx.P (Ctx.mk prog Hx (39))) (List.zip (Array.toList (Go.Func.resultTypes Go.Proofs.Try.f39)) (Array.toList (Go.Func.results Go.Proofs.Try.f39))) [] [])) (kLeave (Ctx.P (Ctx.mk prog Hx (39))) (List.zip (Array.toList (Go.Func.resultTypes Go.Proofs.Try.f39)) (Array.toList (Go.Func.results Go.Proofs.Try.f39))) [] [])
def k39_1 (n : Nat) : Ex → St → RR := kBlock (0) (k39_0 n)
def S39_0 (a : List Bridge) (b : List Bridge) (i0 : Int) : St := St.mk [TV.v false [C.d (D.sl false 2 (enS false a))], TV.v false [C.d (D.sl false 2 (enS false b))], U_, U_, U_, I_ i0, U_, U_, U_, U_, U_, U_, U_, U_, U_, U_, U_, U_, U_, U_, U_, U_, U_, U_, U_, U_, U_] []
def B39_0 (n : Nat) : St → (Ex → St → RR) → RR := runCode (Ctx.mk prog Hx (39)) (Table.call T15) n (codeAt [1, 1, 0, 1, 0, 0] (bodyOf Go.Proofs.Try.f39)) (Lv.mk 35 [(0, 0)] 16)
def X39_2 (a : List Bridge) (b : List Bridge) (i0 : Int) : St := St.mk [TV.v false [C.d (D.sl false 2 (enS false a))], TV.v false [C.d (D.sl false 2 (enS false b))], U_, U_, U_, I_ i0, U_, U_, U_, U_, U_, I_ i0, TV.v false [C.d (D.sl false 2 (enS false a))], I_ (ofNat (length (enS false a))), B_ false, U_, U_, U_, U_, U_, U_, U_, U_, U_, U_, U_, U_] []
theorem q39_0 (a : List Bridge) (b : List Bridge) (n : Nat) (i0 : Int) (f : St → RR) (K : Ex → St → RR) : B39_0 n (S39_0 a b i0) (kThen (fun st ↦ f (St.head 0 35 134215728 st)) K) = bif decide (i0 < ofNat (length (enS false a))) then bif decide (0 ≤ i0) && decide (i0 < ofNat (length (enS false a))) then bif Leaf.fit false (Leaf.int i64) (getD (getD (enS false a) (toNat i0) []) 0 D.dead) && (Leaf.fit false (Leaf.sl 11 true) (getD (getD (enS false a) (toNat i0) []) 1 D.dead) && true) then bif decide (0 ≤ i0) && decide (i0 < ofNat (length (enS false b))) then bif Leaf.fit false (Leaf.int i64) (getD (getD (enS false b) (toNat i0) []) 0 D.dead) && (Leaf.fit false (Leaf.sl 11 true) (getD (getD (enS false b) (toNat i0) []) 1 D.dead) && true) then bif isS Port false (D.rows (getD (getD (enS false a) (toNat i0) []) 1 D.dead)) && isS Port false (D.rows (getD (getD (enS false b) (toNat i0) []) 1 D.dead)) && (sameB (Bridge.mk (D.num (getD (getD (enS false a) (toNat i0) []) 0 D.dead)) (deS Port (D.rows (getD (getD (enS false a) (toNat i0) []) 1 D.dead)))) (Bridge.mk (D.num (getD (getD (enS false b) (toNat i0) []) 0 D.dead)) (deS Port (D.rows (getD (getD (enS false b) (toNat i0) []) 1 D.dead)))) && Bridge.small (Bridge.mk (D.num (getD (getD (enS false a) (toNat i0) []) 0 D.dead)) (deS Port (D.rows (getD (getD (enS false a) (toNat i0) []) 1 D.dead))))) then f (S39_0 a b (wrap i64 (i0 + 1))) else none else none else none else none else none else K (Ex.exit 0) (X39_2 a b i0) := by kernel_rfl
theorem aX39_2 (a : List Bridge) (b : List Bridge) (n : Nat) (i0 : Int) : k39_1 n (Ex.exit 0) (X39_2 a b i0) = some ([[D.bool true]], []) := by kernel_rfl
theorem r39 (a : List Bridge) (b : List Bridge) (n : Nat) : evFn ⟨prog, Hx, 39⟩ T15.call n Go.Proofs.Try.f39 [[.sl false 2 (enS false a)], [.sl false 2 (enS false b)]] = bif ofNat (length (enS false a)) != ofNat (length (enS false b)) then some ([[D.bool false]], []) else loopRun (B39_0 n) 0 35 134215728 n (S39_0 a b (0)) (k39_1 n) := by kernel_rfl
theorem m39 (a : List Bridge) (b : List Bridge) (hpre : (o39 a b).1 = true) : evFn ⟨Go.Proofs.Try.prog, Hx, 39⟩ T15.call (a.length + 1) Go.Proofs.Try.f39 [[.sl false 2 (enS false a)], [.sl false 2 (enS false b)]] = some (o39 a b).2 := by
  refine (r39 a b _).trans ?_
  show _ = (some ([[.bool (true)]], []) : Option (List Row × List Row))
  replace hpre : (sameB a b && ((decide (a.length ≤ 1048576) && a.all Bridge.small))) = true := hpre
  rw [Bool.and_eq_true, Bool.and_eq_true] at hpre
  obtain ⟨h0, h1, h2⟩ := hpre
  have hlen := of_decide_eq_true h1
  have := sameB_eq h0
  subst this
  simp only [bne_self_eq_false, cond_false]
  refine loop_list (xs := a) (fun i (_ : Unit) => S39_0 a a (Int.ofNat i)) (fun _ _ => True) (fun _ _ _ => some ([[D.bool true]], [])) ?_ ?_ (a.length + 1) () (by omega) trivial
  · rintro _ _ f
    refine (q39_0 a a _ _ f _).trans ?_
    rw [end_lt, cond_false]
    exact aX39_2 a a _ _
  · rintro i _ hi _ f hf
    refine (q39_0 a a _ _ f _).trans ?_
    have hel := List.all_eq_true.1 h2 _ (List.getElem_mem hi)
    simp only [enS_length, toNat_of, dec_lt, dec_ge, decide_true, decide_false, cond_true, cond_false, Bool.and_self, Bool.and_true, Bool.true_and, Bool.not_true, Bool.not_false, Nat.lt_irrefl, Nat.zero_add, isS_enS, deS_enS, isS_nil, deS_nil, List.nil_append, lendRows_enS, deepRows_enS, noSl_u8, En.enc, List.getD_cons_zero, List.getD_cons_succ, D.num, D.flag, D.text, D.rows, Leaf.fit, List.append_eq, TReader.eta, Frame.eta, Heard.eta, Member.eta, Card.eta, Out1.eta, Vec.eta, Port.eta, Bridge.eta, In.eta, Out.eta, Link.eta, Net.eta, TEnd.eta, Minder.eta, Reg.eta, Wire.eta, Box.eta, Deed.eta, Bpdu.eta, Visit.eta, Fabric.eta, Got.eta, TRide.eta, Up.eta, Copy.eta, Bucket.eta, Snap.eta, TL9Cur.eta, TL21In.eta, enS_get _ hi, hi, wrap_succ (show i < 4611686018427387904 by omega), hel, sameB_self]
    exact hf () trivial
theorem s39 : SoundAt Go.Proofs.Try.prog Hx 39 c39 := soundAt_of T15_sound mixed Go.Proofs.Try.func39 (by kernel_rfl) (by
  intro rows r h
  unfold c39 at h
  split at h
  · rename_i a b
    obtain ⟨hp, hr⟩ := Prod.mk.inj (Option.some.inj h)
    subst hr
    simp only [Bool.and_eq_true] at hp
    obtain ⟨⟨hs0, hs1⟩, hp⟩ := hp
    obtain ⟨xs0, rfl⟩ := isS_ex hs0
    obtain ⟨xs1, rfl⟩ := isS_ex hs1
    simp only [deS_enS] at hp ⊢
    exact ⟨_, m39 xs0 xs1 hp⟩
  · cases h)
def T39 : Table := (39, c39) :: T15
theorem T39_sound : Table.Sound Go.Proofs.Try.prog Hx T39 := Table.sound_cons s39 T15_sound
/- eqLink -/
def o70 (a : Link) (b : Link) : Bool × List Row × List Row := (sameB a b, [[.bool (true)]], [])
def c70 : Contract
  | [[.int .i64 a_A, .int .i64 a_P, .int .i64 a_B, .int .i64 a_Q], [.int .i64 b_A, .int .i64 b_P, .int .i64 b_B, .int .i64 b_Q]] => some ((o70 ⟨a_A, a_P, a_B, a_Q⟩ ⟨b_A, b_P, b_B, b_Q⟩).1, (o70 ⟨a_A, a_P, a_B, a_Q⟩ ⟨b_A, b_P, b_B, b_Q⟩).2.1, (o70 ⟨a_A, a_P, a_B, a_Q⟩ ⟨b_A, b_P, b_B, b_Q⟩).2.2)
  | _ => none

theorem r70 (a : Link) (b : Link) (n : Nat) : evFn ⟨prog, Hx, 70⟩ T39.call n Go.Proofs.Try.f70 [[.int .i64 a.A, .int .i64 a.P, .int .i64 a.B, .int .i64 a.Q], [.int .i64 b.A, .int .i64 b.P, .int .i64 b.B, .int .i64 b.Q]] = bif Link.A a != Link.A b then some ([[D.bool false]], []) else bif Link.P a != Link.P b then some ([[D.bool false]], []) else bif Link.B a != Link.B b then some ([[D.bool false]], []) else bif Link.Q a != Link.Q b then some ([[D.bool false]], []) else some ([[D.bool true]], []) := by kernel_rfl
theorem m70 (a : Link) (b : Link) (hpre : (o70 a b).1 = true) : evFn ⟨Go.Proofs.Try.prog, Hx, 70⟩ T39.call 0 Go.Proofs.Try.f70 [[.int .i64 a.A, .int .i64 a.P, .int .i64 a.B, .int .i64 a.Q], [.int .i64 b.A, .int .i64 b.P, .int .i64 b.B, .int .i64 b.Q]] = some (o70 a b).2 := by
  refine (r70 a b _).trans ?_
  show _ = (some ([[.bool (true)]], []) : Option (List Row × List Row))
  replace hpre : (sameB a b) = true := hpre
  have := sameB_eq hpre
  subst this
  simp only [bne_self_eq_false, cond_false, sameB_self, cond_true, Bool.not_true]
theorem s70 : SoundAt Go.Proofs.Try.prog Hx 70 c70 := soundAt_of T39_sound mixed Go.Proofs.Try.func70 (by kernel_rfl) (by
  intro rows r h
  unfold c70 at h
  split at h
  · rename_i a_A a_P a_B a_Q b_A b_P b_B b_Q
    obtain ⟨hp, hr⟩ := Prod.mk.inj (Option.some.inj h)
    subst hr
    exact ⟨_, m70 ⟨a_A, a_P, a_B, a_Q⟩ ⟨b_A, b_P, b_B, b_Q⟩ hp⟩
  · cases h)
def T70 : Table := (70, c70) :: T39
theorem T70_sound : Table.Sound Go.Proofs.Try.prog Hx T70 := Table.sound_cons s70 T39_sound
/- eqLinkS -/
def o40 (a : List Link) (b : List Link) : Bool × List Row × List Row := (sameB a b && (decide (a.length ≤ 1048576)), [[.bool (true)]], [])
def c40 : Contract
  | [[.sl false 4 a], [.sl false 4 b]] => some (isS Link false a && isS Link false b && (o40 (deS Link a) (deS Link b)).1, (o40 (deS Link a) (deS Link b)).2.1, (o40 (deS Link a) (deS Link b)).2.2)
  | _ => none

def k40_0 (n : Nat) : Ex → St → RR := kThen (fun st ↦ runCode (Ctx.mk prog Hx (40)) (Table.call T70) n (codeAt [1, 1, 1] (bodyOf Go.Proofs.Try.f40)) (Lv.mk 16 [] 16) st (kLeave (Ctx.P (Ctx.mk prog Hx (40))) (List.zip (Array.toList (Go.Func.resultTypes Go.Proofs.Try.f40)) (Array.toList (Go.Func.results Go.Proofs.Try.f40))) [] [])) (kLeave (Ctx.P (Ctx.mk prog Hx (40))) (List.zip (Array.toList (Go.Func.resultTypes Go.Proofs.Try.f40)) (Array.toList (Go.Func.results Go.Proofs.Try.f40))) [] [])
def k40_1 (n : Nat) : Ex → St → RR := kBlock (0) (k40_0 n)
def S40_0 (a : List Link) (b : List Link) (i0 : Int) : St := St.mk [TV.v false [C.d (D.sl false 4 (enS false a))], TV.v false [C.d (D.sl false 4 (enS false b))], U_, U_, U_, I_ i0, U_, U_, U_, U_, U_, U_, U_, U_, U_, U_, U_, U_, U_, U_, U_, U_, U_, U_, U_, U_, U_] []
def B40_0 (n : Nat) : St → (Ex → St → RR) → RR := runCode (Ctx.mk prog Hx (40)) (Table.call T70) n (codeAt [1, 1, 0, 1, 0, 0] (bodyOf Go.Proofs.Try.f40)) (Lv.mk 35 [(0, 0)] 16)
def X40_2 (a : List Link) (b : List Link) (i0 : Int) : St := St.mk [TV.v false [C.d (D.sl false 4 (enS false a))], TV.v false [C.d (D.sl false 4 (enS false b))], U_, U_, U_, I_ i0, U_, U_, U_, U_, U_, I_ i0, TV.v false [C.d (D.sl false 4 (enS false a))], I_ (ofNat (length (enS false a))), B_ false, U_, U_, U_, U_, U_, U_, U_, U_, U_, U_, U_, U_] []
theorem q40_0 (a : List Link) (b : List Link) (n : Nat) (i0 : Int) (f : St → RR) (K : Ex → St → RR) : B40_0 n (S40_0 a b i0) (kThen (fun st ↦ f (St.head 0 35 134215728 st)) K) = bif decide (i0 < ofNat (length (enS false a))) then bif decide (0 ≤ i0) && decide (i0 < ofNat (length (enS false a))) then bif Leaf.fit false (Leaf.int i64) (getD (getD (enS false a) (toNat i0) []) 0 D.dead) && (Leaf.fit false (Leaf.int i64) (getD (getD (enS false a) (toNat i0) []) 1 D.dead) && (Leaf.fit false (Leaf.int i64) (getD (getD (enS false a) (toNat i0) []) 2 D.dead) && (Leaf.fit false (Leaf.int i64) (getD (getD (enS false a) (toNat i0) []) 3 D.dead) && true))) then bif decide (0 ≤ i0) && decide (i0 < ofNat (length (enS false b))) then bif Leaf.fit false (Leaf.int i64) (getD (getD (enS false b) (toNat i0) []) 0 D.dead) && (Leaf.fit false (Leaf.int i64) (getD (getD (enS false b) (toNat i0) []) 1 D.dead) && (Leaf.fit false (Leaf.int i64) (getD (getD (enS false b) (toNat i0) []) 2 D.dead) && (Leaf.fit false (Leaf.int i64) (getD (getD (enS false b) (toNat i0) []) 3 D.dead) && true))) then bif sameB (Link.mk (D.num (getD (getD (enS false a) (toNat i0) []) 0 D.dead)) (D.num (getD (getD (enS false a) (toNat i0) []) 1 D.dead)) (D.num (getD (getD (enS false a) (toNat i0) []) 2 D.dead)) (D.num (getD (getD (enS false a) (toNat i0) []) 3 D.dead))) (Link.mk (D.num (getD (getD (enS false b) (toNat i0) []) 0 D.dead)) (D.num (getD (getD (enS false b) (toNat i0) []) 1 D.dead)) (D.num (getD (getD (enS false b) (toNat i0) []) 2 D.dead)) (D.num (getD (getD (enS false b) (toNat i0) []) 3 D.dead))) then f (S40_0 a b (wrap i64 (i0 + 1))) else none else none else none else none else none else K (Ex.exit 0) (X40_2 a b i0) := by kernel_rfl
theorem aX40_2 (a : List Link) (b : List Link) (n : Nat) (i0 : Int) : k40_1 n (Ex.exit 0) (X40_2 a b i0) = some ([[D.bool true]], []) := by kernel_rfl
theorem r40 (a : List Link) (b : List Link) (n : Nat) : evFn ⟨prog, Hx, 40⟩ T70.call n Go.Proofs.Try.f40 [[.sl false 4 (enS false a)], [.sl false 4 (enS false b)]] = bif ofNat (length (enS false a)) != ofNat (length (enS false b)) then some ([[D.bool false]], []) else loopRun (B40_0 n) 0 35 134215728 n (S40_0 a b (0)) (k40_1 n) := by kernel_rfl
theorem m40 (a : List Link) (b : List Link) (hpre : (o40 a b).1 = true) : evFn ⟨Go.Proofs.Try.prog, Hx, 40⟩ T70.call (a.length + 1) Go.Proofs.Try.f40 [[.sl false 4 (enS false a)], [.sl false 4 (enS false b)]] = some (o40 a b).2 := by
  refine (r40 a b _).trans ?_
  show _ = (some ([[.bool (true)]], []) : Option (List Row × List Row))
  replace hpre : (sameB a b && (decide (a.length ≤ 1048576))) = true := hpre
  rw [Bool.and_eq_true] at hpre
  obtain ⟨h0, h1⟩ := hpre
  have hlen : a.length ≤ 1048576 := of_decide_eq_true h1
  have := sameB_eq h0
  subst this
  simp only [bne_self_eq_false, cond_false]
  refine loop_list (xs := a) (fun i (_ : Unit) => S40_0 a a (Int.ofNat i)) (fun _ _ => True) (fun _ _ _ => some ([[D.bool true]], [])) ?_ ?_ (a.length + 1) () (by omega) trivial
  · rintro _ _ f
    refine (q40_0 a a _ _ f _).trans ?_
    simp only [enS_length, dec_lt, Nat.lt_irrefl, decide_false, cond_false]
    exact aX40_2 a a _ _
  · rintro i _ hi _ f hf
    refine (q40_0 a a _ _ f _).trans ?_
    simp only [enS_length, toNat_of, dec_lt, dec_ge, enS_get _ hi, hi, wrap_succ (show i < 4611686018427387904 by omega), decide_true, cond_true, Bool.and_self, sameB_self, bne_self_eq_false, cond_false]
    exact hf () trivial
theorem s40 : SoundAt Go.Proofs.Try.prog Hx 40 c40 := soundAt_of T70_sound mixed Go.Proofs.Try.func40 (by kernel_rfl) (by
  intro rows r h
  unfold c40 at h
  split at h
  · rename_i a b
    obtain ⟨hp, hr⟩ := Prod.mk.inj (Option.some.inj h)
    subst hr
    simp only [Bool.and_eq_true] at hp
    obtain ⟨⟨hs0, hs1⟩, hp⟩ := hp
    obtain ⟨xs0, rfl⟩ := isS_ex hs0
    obtain ⟨xs1, rfl⟩ := isS_ex hs1
    simp only [deS_enS] at hp ⊢
    exact ⟨_, m40 xs0 xs1 hp⟩
  · cases h)
def T40 : Table := (40, c40) :: T70
theorem T40_sound : Table.Sound Go.Proofs.Try.prog Hx T40 := Table.sound_cons s40 T70_sound
/- eqNet -/
def o11 (a : Net) (b : Net) : Bool × List Row × List Row := (sameB a b && (Net.small a), [[.bool (true)]], [])
def c11 : Contract
  | [[.sl false 2 a_Bridges, .sl false 4 a_Links], [.sl false 2 b_Bridges, .sl false 4 b_Links]] => some (isS Bridge false a_Bridges && isS Link false a_Links && isS Bridge false b_Bridges && isS Link false b_Links && (o11 ⟨(deS Bridge a_Bridges), (deS Link a_Links)⟩ ⟨(deS Bridge b_Bridges), (deS Link b_Links)⟩).1, (o11 ⟨(deS Bridge a_Bridges), (deS Link a_Links)⟩ ⟨(deS Bridge b_Bridges), (deS Link b_Links)⟩).2.1, (o11 ⟨(deS Bridge a_Bridges), (deS Link a_Links)⟩ ⟨(deS Bridge b_Bridges), (deS Link b_Links)⟩).2.2)
  | _ => none

theorem r11 (a : Net) (b : Net) (n : Nat) : evFn ⟨prog, Hx, 11⟩ T40.call n Go.Proofs.Try.f11 [[.sl false 2 (enS false a.Bridges), .sl false 4 (enS false a.Links)], [.sl false 2 (enS false b.Bridges), .sl false 4 (enS false b.Links)]] = bif isS Bridge false (enS false (Net.Bridges a)) && isS Bridge false (enS false (Net.Bridges b)) && (sameB (deS Bridge (enS false (Net.Bridges a))) (deS Bridge (enS false (Net.Bridges b))) && (decide (length (deS Bridge (enS false (Net.Bridges a))) ≤ 1048576) && all (deS Bridge (enS false (Net.Bridges a))) Bridge.small)) then bif isS Link false (enS false (Net.Links a)) && isS Link false (enS false (Net.Links b)) && (sameB (deS Link (enS false (Net.Links a))) (deS Link (enS false (Net.Links b))) && decide (length (deS Link (enS false (Net.Links a))) ≤ 1048576)) then some ([[D.bool true]], []) else none else none := by kernel_rfl
theorem m11 (a : Net) (b : Net) (hpre : (o11 a b).1 = true) : evFn ⟨Go.Proofs.Try.prog, Hx, 11⟩ T40.call 0 Go.Proofs.Try.f11 [[.sl false 2 (enS false a.Bridges), .sl false 4 (enS false a.Links)], [.sl false 2 (enS false b.Bridges), .sl false 4 (enS false b.Links)]] = some (o11 a b).2 := by
  refine (r11 a b _).trans ?_
  show _ = (some ([[.bool (true)]], []) : Option (List Row × List Row))
  replace hpre : (sameB a b && (Net.small a)) = true := hpre
  rw [Bool.and_eq_true] at hpre
  obtain ⟨h0, h1⟩ := hpre
  have := sameB_eq h0
  subst this
  unfold Net.small at h1
  try simp only [Bool.and_eq_true] at h1
  simp only [h1, bne_self_eq_false, cond_false, cond_true, sameB_self, isS_enS, deS_enS, Bool.and_self, Bool.and_true, Bool.true_and, Bool.not_true]
  try rfl
theorem s11 : SoundAt Go.Proofs.Try.prog Hx 11 c11 := soundAt_of T40_sound mixed Go.Proofs.Try.func11 (by kernel_rfl) (by
  intro rows r h
  unfold c11 at h
  split at h
  · rename_i a_Bridges a_Links b_Bridges b_Links
    obtain ⟨hp, hr⟩ := Prod.mk.inj (Option.some.inj h)
    subst hr
    simp only [Bool.and_eq_true] at hp
    obtain ⟨⟨⟨⟨hs0, hs1⟩, hs2⟩, hs3⟩, hp⟩ := hp
    obtain ⟨xs0, rfl⟩ := isS_ex hs0
    obtain ⟨xs1, rfl⟩ := isS_ex hs1
    obtain ⟨xs2, rfl⟩ := isS_ex hs2
    obtain ⟨xs3, rfl⟩ := isS_ex hs3
    simp only [deS_enS] at hp ⊢
    exact ⟨_, m11 ⟨xs0, xs1⟩ ⟨xs2, xs3⟩ hp⟩
  · cases h)
def T11 : Table := (11, c11) :: T40
theorem T11_sound : Table.Sound Go.Proofs.Try.prog Hx T11 := Table.sound_cons s11 T40_sound
end Go.Ev
end
