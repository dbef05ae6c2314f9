/- Contracts of functions, each by its evaluation. -/
import Derived.Test.YtihhlajibgoemaaEvMd
import Derived.Test.YtihhlajibgoemaaProg
import Derived.KernelRfl
import Derived.Test.YtihhlajibgoemaaFFab2
set_option linter.unusedVariables false
set_option linter.unusedSimpArgs false
set_option maxRecDepth 100000
noncomputable section
open List (getD length drop take set append replicate all isEmpty)
open Int (toNat ofNat)
open Go.IntKind (i64 wrap)
open Go.Proofs.Try (prog f10 f11 f12 f26 f27 f28 f29 f30 f46 f47 f48 f49 f50 f51 f52 f53 f54 f66 f67 f68 func10 func11 func12 func26 func27 func28 func29 func30 func46 func47 func48 func49 func50 func51 func52 func53 func54 func66 func67 func68)
namespace Go.Ev
open Go.RowKit Go.Md
end Go.Ev
namespace Go.Md
open Go Go.Ev
def oneN {α : Type} (_ : α) : Int := 1
theorem oneN_pos {α : Type} (x : α) : 0 ≤ oneN x := by show (0 : Int) ≤ 1; omega
def boolMk (_ : Bool) (k : Int) : Bool := k.tmod 3 == 0
def Vec.mk_ (x : Vec) (k : Int) : Vec := ⟨k, k + 1, k + 1 + 1, k + 1 + 1 + 1⟩
def Vec.n_ (x : Vec) : Int := 1 + 1 + 1 + 1
theorem Vec.n_pos (x : Vec) : 0 ≤ Vec.n_ x := by show (0 : Int) ≤ 1 + 1 + 1 + 1; decide
def Port.mk_ (x : Port) (k : Int) : Port := ⟨(k).tmod 3 == 0, (k + 1).tmod 3 == 0, ⟨k + 1 + 1, k + 1 + 1 + 1, k + 1 + 1 + 1 + 1, k + 1 + 1 + 1 + 1 + 1⟩, k + 1 + 1 + 1 + 1 + 1 + 1, k + 1 + 1 + 1 + 1 + 1 + 1 + 1, k + 1 + 1 + 1 + 1 + 1 + 1 + 1 + 1, k + 1 + 1 + 1 + 1 + 1 + 1 + 1 + 1 + 1, (k + 1 + 1 + 1 + 1 + 1 + 1 + 1 + 1 + 1 + 1).tmod 3 == 0⟩
def Port.n_ (x : Port) : Int := 1 + 1 + 1 + 1 + 1 + 1 + 1 + 1 + 1 + 1 + 1
theorem Port.n_pos (x : Port) : 0 ≤ Port.n_ x := by show (0 : Int) ≤ 1 + 1 + 1 + 1 + 1 + 1 + 1 + 1 + 1 + 1 + 1; decide
def Bridge.mk_ (x : Bridge) (k : Int) : Bridge := ⟨k, markS Port.mk_ Port.n_ x.Ports (k + 1)⟩
def Bridge.n_ (x : Bridge) : Int := 1 + cntS Port.n_ x.Ports
theorem Bridge.n_pos (x : Bridge) : 0 ≤ Bridge.n_ x := by
  have h1 := cntS_nonneg (n := Port.n_) Port.n_pos x.Ports
  unfold Bridge.n_
  omega
def intMk (_ : Int) (k : Int) : Int := k
def Member.mk_ (x : Member) (k : Int) : Member := ⟨k, markS intMk oneN x.In (k + 1)⟩
def Member.n_ (x : Member) : Int := 1 + cntS oneN x.In
theorem Member.n_pos (x : Member) : 0 ≤ Member.n_ x := by
  have h1 := cntS_nonneg (n := oneN) oneN_pos x.In
  unfold Member.n_
  omega
def Heard.mk_ (x : Heard) (k : Int) : Heard := ⟨k, k + 1, k + 1 + 1, k + 1 + 1 + 1⟩
def Heard.n_ (x : Heard) : Int := 1 + 1 + 1 + 1
theorem Heard.n_pos (x : Heard) : 0 ≤ Heard.n_ x := by show (0 : Int) ≤ 1 + 1 + 1 + 1; decide
def Card.mk_ (x : Card) (k : Int) : Card := ⟨markS boolMk oneN x.Open (k), markS Member.mk_ Member.n_ x.Members (k + cntS oneN x.Open), markS Heard.mk_ Heard.n_ x.Table (k + cntS oneN x.Open + cntS Member.n_ x.Members)⟩
def Card.n_ (x : Card) : Int := cntS oneN x.Open + cntS Member.n_ x.Members + cntS Heard.n_ x.Table
theorem Card.n_pos (x : Card) : 0 ≤ Card.n_ x := by
  have h0 := cntS_nonneg (n := oneN) oneN_pos x.Open
  have h1 := cntS_nonneg (n := Member.n_) Member.n_pos x.Members
  have h2 := cntS_nonneg (n := Heard.n_) Heard.n_pos x.Table
  unfold Card.n_
  omega
def Link.mk_ (x : Link) (k : Int) : Link := ⟨k, k + 1, k + 1 + 1, k + 1 + 1 + 1⟩
def Link.n_ (x : Link) : Int := 1 + 1 + 1 + 1
theorem Link.n_pos (x : Link) : 0 ≤ Link.n_ x := by show (0 : Int) ≤ 1 + 1 + 1 + 1; decide
def Net.mkTop (x : Net) (k : Int) : Net := ⟨markS Bridge.mk_ Bridge.n_ x.Bridges (k), markS Link.mk_ Link.n_ x.Links (k + cntS Bridge.n_ x.Bridges)⟩
def Net.nTop (x : Net) : Int := cntS Bridge.n_ x.Bridges + cntS Link.n_ x.Links
theorem Net.nTop_pos (x : Net) : 0 ≤ Net.nTop x := by
  have h0 := cntS_nonneg (n := Bridge.n_) Bridge.n_pos x.Bridges
  have h1 := cntS_nonneg (n := Link.n_) Link.n_pos x.Links
  unfold Net.nTop
  omega
def Fabric.mkTop (x : Fabric) (k : Int) : Fabric := ⟨Net.mkTop x.Net (k), markS Card.mk_ Card.n_ x.Cards (k + Net.nTop x.Net)⟩
def Fabric.nTop (x : Fabric) : Int := Net.nTop x.Net + cntS Card.n_ x.Cards
theorem Fabric.nTop_pos (x : Fabric) : 0 ≤ Fabric.nTop x := by
  have h0 := Net.nTop_pos x.Net
  have h1 := cntS_nonneg (n := Card.n_) Card.n_pos x.Cards
  unfold Fabric.nTop
  omega
end Go.Md
namespace Go.Ev
open Go.Md
def o52 (a : List Bool) (k : Int) : Bool × List Row × List Row := (sameB (markS boolMk oneN a k) a && (decide (0 ≤ k) && (decide (k + cntS oneN a ≤ 4611686018427387904) && decide (a.length ≤ 1152921504606846976))), [[.int .i64 (k + cntS oneN a)]], [])
def c52 : Contract
  | [[.sl false 1 a], [.int .i64 k]] => some (isS Bool false a && (o52 (deS Bool a) k).1, (o52 (deS Bool a) k).2.1, (o52 (deS Bool a) k).2.2)
  | _ => none

def k52_0 (n : Nat) : Ex → St → RR := kThen (fun st ↦ runCode (Ctx.mk prog Hx (52)) (Table.call T5) n (codeAt [1, 1] (bodyOf f52)) (Lv.mk 16 [] 16) st (kLeave (Ctx.P (Ctx.mk prog Hx (52))) (List.zip (Array.toList (Go.Func.resultTypes f52)) (Array.toList (Go.Func.results f52))) [] [])) (kLeave (Ctx.P (Ctx.mk prog Hx (52))) (List.zip (Array.toList (Go.Func.resultTypes f52)) (Array.toList (Go.Func.results f52))) [] [])
def k52_1 (n : Nat) : Ex → St → RR := kBlock (0) (k52_0 n)
def S52_0 (a : List Bool) (i0 : Int) (i1 : Int) : St := St.mk [V_ [C.d (D.sl false 1 (enS false a))], I_ i0, U_, U_, U_, I_ i1, U_, U_, U_, U_, U_, U_, U_, U_, U_, U_, U_, U_, U_, U_, U_, U_, U_] []
def B52_0 (n : Nat) : St → (Ex → St → RR) → RR := runCode (Ctx.mk prog Hx (52)) (Table.call T5) n (codeAt [1, 0, 1, 0, 0] (bodyOf f52)) (Lv.mk 35 [(0, 2)] 16)
def X52_2 (a : List Bool) (i0 : Int) (i1 : Int) : St := St.mk [V_ [C.d (D.sl false 1 (enS false a))], I_ i0, U_, U_, I_ (Int.negSucc 0), I_ i1, I_ i1, V_ [C.d (D.sl false 1 (enS false a))], I_ (ofNat (length (enS false a))), B_ true, U_, U_, V_ [C.d (D.sl false 1 (enS false a))], I_ i1, V_ [C.rptr (getD (enS false a) (toNat i1) [])], B_ (D.flag (getD (getD (enS false a) (toNat i1) []) 0 D.dead)), I_ i0, I_ (Int.tmod i0 (3)), B_ (Int.tmod i0 (3) == 0), B_ true, U_, U_, U_] []
def X52_3 (a : List Bool) (i0 : Int) (i1 : Int) : St := St.mk [V_ [C.d (D.sl false 1 (enS false a))], I_ i0, U_, U_, U_, I_ i1, I_ i1, V_ [C.d (D.sl false 1 (enS false a))], I_ (ofNat (length (enS false a))), B_ false, U_, U_, U_, U_, U_, U_, U_, U_, U_, U_, U_, U_, U_] []
theorem q52_0 (a : List Bool) (n : Nat) (i0 : Int) (i1 : Int) (f : St → RR) (K : Ex → St → RR) : B52_0 n (S52_0 a i0 i1) (kThen (fun st ↦ f (St.head 0 35 4194290 st)) K) = bif decide (i1 < ofNat (length (enS false a))) then bif decide (0 ≤ i1) && decide (i1 < ofNat (length (enS false a))) then bif Leaf.fit false Leaf.bool (getD (getD (enS false a) (toNat i1) []) 0 D.dead) && true then bif D.flag (getD (getD (enS false a) (toNat i1) []) 0 D.dead) != (Int.tmod i0 (3) == 0) then K Ex.ret (X52_2 a i0 i1) else f (S52_0 a (wrap i64 (i0 + 1)) (wrap i64 (i1 + 1))) else none else none else K (Ex.exit 0) (X52_3 a i0 i1) := by kernel_rfl
theorem aX52_2 (a : List Bool) (n : Nat) (i0 : Int) (i1 : Int) : k52_1 n Ex.ret (X52_2 a i0 i1) = some ([[D.int i64 (Int.negSucc 0)]], []) := by kernel_rfl
theorem aX52_3 (a : List Bool) (n : Nat) (i0 : Int) (i1 : Int) : k52_1 n (Ex.exit 0) (X52_3 a i0 i1) = some ([[D.int i64 i0]], []) := by kernel_rfl
theorem r52 (a : List Bool) (k : Int) (n : Nat) : evFn ⟨prog, Hx, 52⟩ T5.call n f52 [[.sl false 1 (enS false a)], [.int .i64 k]] = loopRun (B52_0 n) 0 35 4194290 n (S52_0 a k (0)) (k52_1 n) := by kernel_rfl
theorem m52 (a : List Bool) (k : Int) (hpre : (o52 a k).1 = true) : evFn ⟨Go.Proofs.Try.prog, Hx, 52⟩ T5.call (a.length + 1) f52 [[.sl false 1 (enS false a)], [.int .i64 k]] = some (o52 a k).2 := by
  refine (r52 a k _).trans ?_
  show _ = (some ([[.int .i64 (k + cntS oneN a)]], []) : Option (List Row × List Row))
  replace hpre : (sameB (markS boolMk oneN a k) a && (decide (0 ≤ k) && (decide (k + cntS oneN a ≤ 4611686018427387904) && decide (a.length ≤ 1152921504606846976)))) = true := hpre
  rw [Bool.and_eq_true] at hpre
  obtain ⟨hsame, hpre⟩ := hpre
  have hsame := sameB_eq hsame
  simp only [Bool.and_eq_true, decide_eq_true_eq] at hpre
  obtain ⟨h0, h1, h2⟩ := hpre
  refine loop_list (xs := a) (fun i (k : Int) => S52_0 a k (Int.ofNat i)) (fun i k => 0 ≤ k ∧ k + cntS oneN (a.drop i) ≤ 4611686018427387904 ∧ markS boolMk oneN (a.drop i) k = a.drop i) (fun _ k rest => some ([[D.int .i64 (k + cntS oneN rest)]], [])) ?_ ?_ (a.length + 1) k (by omega) ⟨h0, h1, hsame⟩
  · rintro k ⟨hk0, hk1, _⟩ f
    refine (q52_0 a _ _ _ f _).trans ?_
    simp only [enS_length, dec_lt, Nat.lt_irrefl, decide_false, cond_false]
    refine (aX52_3 a _ _ _).trans ?_
    simp only [cntS, Int.add_zero]
  · rintro i k hi ⟨hk0, hk1, hk2⟩ f hf
    rw [List.drop_eq_getElem_cons hi] at hk1 hk2
    have hc := cntS_nonneg (n := oneN) oneN_pos (a.drop (i + 1))
    have hn : oneN a[i] = 1 := rfl
    simp only [cntS, hn] at hk1
    have he : k + 1 = k + oneN a[i] := by omega
    simp only [markS, List.cons.injEq] at hk2
    obtain ⟨hk2, hk3⟩ := hk2
    refine (q52_0 a _ _ _ f _).trans ?_
    simp only [enS_length, toNat_of, dec_lt, dec_ge, enS_get _ hi, hi, wrap_succ (show i < 4611686018427387904 by omega), decide_true, cond_true, Bool.and_self]
    have hw1 : IntKind.wrap IntKind.i64 (k + 1) = k + 1 := wrap_le (by omega) (by omega)
    simp only [hw1]
    rw [← hk2]
    refine Eq.trans (b := f (S52_0 a (k + 1) (Int.ofNat (i + 1)))) ?_ ((hf (k + 1) ⟨by omega, by omega, by rw [he]; exact hk3⟩).trans ?_)
    · simp only [En.enc, boolMk, Leaf.fit, List.drop_succ_cons, List.drop_zero, List.getD_cons_zero, List.getD_cons_succ, D.num, D.flag, D.text, bne_self_eq_false, Bool.and_self, cond_true, cond_false, decide_true]
    · show _ = some ([[D.int .i64 (k + (oneN a[i] + cntS oneN (a.drop (i + 1))))]], [])
      rw [he, Int.add_assoc]
theorem s52 : SoundAt Go.Proofs.Try.prog Hx 52 c52 := soundAt_of T5_sound mixed func52 (by kernel_rfl) (by
  intro rows r h
  unfold c52 at h
  split at h
  · rename_i a k
    obtain ⟨hp, hr⟩ := Prod.mk.inj (Option.some.inj h)
    subst hr
    simp only [Bool.and_eq_true] at hp
    obtain ⟨hs0, hp⟩ := hp
    obtain ⟨xs0, rfl⟩ := isS_ex hs0
    simp only [deS_enS] at hp ⊢
    exact ⟨_, m52 xs0 k hp⟩
  · cases h)
def T52 : Table := (52, c52) :: T5
theorem T52_sound : Table.Sound Go.Proofs.Try.prog Hx T52 := Table.sound_cons s52 T5_sound
def o67 (a : List Port) (k : Int) : Bool × List Row × List Row := (sameB (markS Port.mk_ Port.n_ a k) a && (decide (0 ≤ k) && (decide (k + cntS Port.n_ a ≤ 4611686018427387904) && decide (a.length ≤ 1152921504606846976))), [[.int .i64 (k + cntS Port.n_ a)]], [])
def c67 : Contract
  | [[.sl false 11 a], [.int .i64 k]] => some (isS Port false a && (o67 (deS Port a) k).1, (o67 (deS Port a) k).2.1, (o67 (deS Port a) k).2.2)
  | _ => none

def k67_0 (n : Nat) : Ex → St → RR := kThen (fun st ↦ runCode (Ctx.mk prog Hx (67)) (Table.call T52) n (codeAt [1, 1] (bodyOf f67)) (Lv.mk 16 [] 16) st (kLeave (Ctx.P (Ctx.mk prog Hx (67))) (List.zip (Array.toList (Go.Func.resultTypes f67)) (Array.toList (Go.Func.results f67))) [] [])) (kLeave (Ctx.P (Ctx.mk prog Hx (67))) (List.zip (Array.toList (Go.Func.resultTypes f67)) (Array.toList (Go.Func.results f67))) [] [])
def k67_1 (n : Nat) : Ex → St → RR := kBlock (0) (k67_0 n)
def S67_0 (a : List Port) (i0 : Int) (i1 : Int) : St := St.mk [V_ [C.d (D.sl false 11 (enS false a))], I_ i0, U_, U_, U_, I_ i1, U_, U_, U_, U_, U_, U_, U_, U_, U_, U_, U_, U_, U_, U_, U_, U_, U_, U_, U_, U_, U_, U_, U_, U_, U_, U_, U_, U_, U_, U_, U_, U_, U_, U_, U_, U_, U_, U_, U_, U_, U_, U_, U_, U_, U_, U_, U_, U_, U_, U_, U_, U_, U_, U_, U_, U_, U_, U_, U_, U_, U_, U_, U_, U_, U_, U_, U_, U_, U_, U_, U_, U_, U_, U_, U_, U_, U_, U_, U_, U_, U_, U_, U_, U_, U_, U_, U_, U_, U_, U_, U_, U_, U_, U_, U_, U_, U_, U_, U_, U_, U_, U_, U_, U_, U_, U_, U_, U_, U_, U_, U_, U_, U_, U_, U_, U_] []
def B67_0 (n : Nat) : St → (Ex → St → RR) → RR := runCode (Ctx.mk prog Hx (67)) (Table.call T52) n (codeAt [1, 0, 1, 0, 0] (bodyOf f67)) (Lv.mk 35 [(0, 2)] 16)
def X67_2 (a : List Port) (i0 : Int) (i1 : Int) : St := St.mk [V_ [C.d (D.sl false 11 (enS false a))], I_ i0, U_, U_, I_ (Int.negSucc 0), I_ i1, I_ i1, V_ [C.d (D.sl false 11 (enS false a))], I_ (ofNat (length (enS false a))), B_ true, U_, U_, V_ [C.d (D.sl false 11 (enS false a))], I_ i1, V_ [C.rptr (getD (enS false a) (toNat i1) [])], V_ [C.rptr (getD (enS false a) (toNat i1) [])], B_ (D.flag (getD (getD (enS false a) (toNat i1) []) 0 D.dead)), I_ i0, I_ (Int.tmod i0 (3)), B_ (Int.tmod i0 (3) == 0), B_ true, U_, U_, U_, U_, U_, U_, U_, U_, U_, U_, U_, U_, U_, U_, U_, U_, U_, U_, U_, U_, U_, U_, U_, U_, U_, U_, U_, U_, U_, U_, U_, U_, U_, U_, U_, U_, U_, U_, U_, U_, U_, U_, U_, U_, U_, U_, U_, U_, U_, U_, U_, U_, U_, U_, U_, U_, U_, U_, U_, U_, U_, U_, U_, U_, U_, U_, U_, U_, U_, U_, U_, U_, U_, U_, U_, U_, U_, U_, U_, U_, U_, U_, U_, U_, U_, U_, U_, U_, U_, U_, U_, U_, U_, U_, U_, U_, U_, U_, U_, U_, U_] []
def X67_3 (a : List Port) (i0 : Int) (i1 : Int) : St := St.mk [V_ [C.d (D.sl false 11 (enS false a))], I_ (wrap i64 (i0 + 1)), U_, U_, I_ (Int.negSucc 0), I_ i1, I_ i1, V_ [C.d (D.sl false 11 (enS false a))], I_ (ofNat (length (enS false a))), B_ true, U_, U_, V_ [C.d (D.sl false 11 (enS false a))], I_ i1, V_ [C.rptr (getD (enS false a) (toNat i1) [])], V_ [C.rptr (getD (enS false a) (toNat i1) [])], B_ (D.flag (getD (getD (enS false a) (toNat i1) []) 0 D.dead)), I_ i0, I_ (Int.tmod i0 (3)), B_ (Int.tmod i0 (3) == 0), B_ false, I_ i0, I_ (wrap i64 (i0 + 1)), V_ [C.d (D.sl false 11 (enS false a))], I_ i1, V_ [C.rptr (getD (enS false a) (toNat i1) [])], V_ [C.rptr (drop 1 (getD (enS false a) (toNat i1) []))], B_ (D.flag (getD (drop 1 (getD (enS false a) (toNat i1) [])) 0 D.dead)), I_ (wrap i64 (i0 + 1)), I_ (Int.tmod (wrap i64 (i0 + 1)) (3)), B_ (Int.tmod (wrap i64 (i0 + 1)) (3) == 0), B_ true, U_, U_, U_, U_, U_, U_, U_, U_, U_, U_, U_, U_, U_, U_, U_, U_, U_, U_, U_, U_, U_, U_, U_, U_, U_, U_, U_, U_, U_, U_, U_, U_, U_, U_, U_, U_, U_, U_, U_, U_, U_, U_, U_, U_, U_, U_, U_, U_, U_, U_, U_, U_, U_, U_, U_, U_, U_, U_, U_, U_, U_, U_, U_, U_, U_, U_, U_, U_, U_, U_, U_, U_, U_, U_, U_, U_, U_, U_, U_, U_, U_, U_, U_, U_, U_, U_, U_, U_, U_, U_] []
def X67_4 (a : List Port) (i0 : Int) (i1 : Int) : St := St.mk [V_ [C.d (D.sl false 11 (enS false a))], I_ (wrap i64 (wrap i64 (i0 + 1) + 1)), U_, U_, I_ (Int.negSucc 0), I_ i1, I_ i1, V_ [C.d (D.sl false 11 (enS false a))], I_ (ofNat (length (enS false a))), B_ true, U_, U_, V_ [C.d (D.sl false 11 (enS false a))], I_ i1, V_ [C.rptr (getD (enS false a) (toNat i1) [])], V_ [C.rptr (getD (enS false a) (toNat i1) [])], B_ (D.flag (getD (getD (enS false a) (toNat i1) []) 0 D.dead)), I_ i0, I_ (Int.tmod i0 (3)), B_ (Int.tmod i0 (3) == 0), B_ false, I_ i0, I_ (wrap i64 (i0 + 1)), V_ [C.d (D.sl false 11 (enS false a))], I_ i1, V_ [C.rptr (getD (enS false a) (toNat i1) [])], V_ [C.rptr (drop 1 (getD (enS false a) (toNat i1) []))], B_ (D.flag (getD (drop 1 (getD (enS false a) (toNat i1) [])) 0 D.dead)), I_ (wrap i64 (i0 + 1)), I_ (Int.tmod (wrap i64 (i0 + 1)) (3)), B_ (Int.tmod (wrap i64 (i0 + 1)) (3) == 0), B_ false, I_ (wrap i64 (i0 + 1)), I_ (wrap i64 (wrap i64 (i0 + 1) + 1)), V_ [C.d (D.sl false 11 (enS false a))], I_ i1, V_ [C.rptr (getD (enS false a) (toNat i1) [])], V_ [C.rptr (drop 2 (getD (enS false a) (toNat i1) []))], V_ [C.rptr (drop 2 (getD (enS false a) (toNat i1) []))], I_ (D.num (getD (drop 2 (getD (enS false a) (toNat i1) [])) 0 D.dead)), I_ (wrap i64 (wrap i64 (i0 + 1) + 1)), B_ true, U_, U_, U_, U_, U_, U_, U_, U_, U_, U_, U_, U_, U_, U_, U_, U_, U_, U_, U_, U_, U_, U_, U_, U_, U_, U_, U_, U_, U_, U_, U_, U_, U_, U_, U_, U_, U_, U_, U_, U_, U_, U_, U_, U_, U_, U_, U_, U_, U_, U_, U_, U_, U_, U_, U_, U_, U_, U_, U_, U_, U_, U_, U_, U_, U_, U_, U_, U_, U_, U_, U_, U_, U_, U_, U_, U_, U_, U_, U_, U_] []
def X67_5 (a : List Port) (i0 : Int) (i1 : Int) : St := St.mk [V_ [C.d (D.sl false 11 (enS false a))], I_ (wrap i64 (wrap i64 (wrap i64 (i0 + 1) + 1) + 1)), U_, U_, I_ (Int.negSucc 0), I_ i1, I_ i1, V_ [C.d (D.sl false 11 (enS false a))], I_ (ofNat (length (enS false a))), B_ true, U_, U_, V_ [C.d (D.sl false 11 (enS false a))], I_ i1, V_ [C.rptr (getD (enS false a) (toNat i1) [])], V_ [C.rptr (getD (enS false a) (toNat i1) [])], B_ (D.flag (getD (getD (enS false a) (toNat i1) []) 0 D.dead)), I_ i0, I_ (Int.tmod i0 (3)), B_ (Int.tmod i0 (3) == 0), B_ false, I_ i0, I_ (wrap i64 (i0 + 1)), V_ [C.d (D.sl false 11 (enS false a))], I_ i1, V_ [C.rptr (getD (enS false a) (toNat i1) [])], V_ [C.rptr (drop 1 (getD (enS false a) (toNat i1) []))], B_ (D.flag (getD (drop 1 (getD (enS false a) (toNat i1) [])) 0 D.dead)), I_ (wrap i64 (i0 + 1)), I_ (Int.tmod (wrap i64 (i0 + 1)) (3)), B_ (Int.tmod (wrap i64 (i0 + 1)) (3) == 0), B_ false, I_ (wrap i64 (i0 + 1)), I_ (wrap i64 (wrap i64 (i0 + 1) + 1)), V_ [C.d (D.sl false 11 (enS false a))], I_ i1, V_ [C.rptr (getD (enS false a) (toNat i1) [])], V_ [C.rptr (drop 2 (getD (enS false a) (toNat i1) []))], V_ [C.rptr (drop 2 (getD (enS false a) (toNat i1) []))], I_ (D.num (getD (drop 2 (getD (enS false a) (toNat i1) [])) 0 D.dead)), I_ (wrap i64 (wrap i64 (i0 + 1) + 1)), B_ false, I_ (wrap i64 (wrap i64 (i0 + 1) + 1)), I_ (wrap i64 (wrap i64 (wrap i64 (i0 + 1) + 1) + 1)), V_ [C.d (D.sl false 11 (enS false a))], I_ i1, V_ [C.rptr (getD (enS false a) (toNat i1) [])], V_ [C.rptr (drop 2 (getD (enS false a) (toNat i1) []))], V_ [C.rptr (drop 1 (drop 2 (getD (enS false a) (toNat i1) [])))], I_ (D.num (getD (drop 1 (drop 2 (getD (enS false a) (toNat i1) []))) 0 D.dead)), I_ (wrap i64 (wrap i64 (wrap i64 (i0 + 1) + 1) + 1)), B_ true, U_, U_, U_, U_, U_, U_, U_, U_, U_, U_, U_, U_, U_, U_, U_, U_, U_, U_, U_, U_, U_, U_, U_, U_, U_, U_, U_, U_, U_, U_, U_, U_, U_, U_, U_, U_, U_, U_, U_, U_, U_, U_, U_, U_, U_, U_, U_, U_, U_, U_, U_, U_, U_, U_, U_, U_, U_, U_, U_, U_, U_, U_, U_, U_, U_, U_, U_, U_, U_, U_] []
def X67_6 (a : List Port) (i0 : Int) (i1 : Int) : St := St.mk [V_ [C.d (D.sl false 11 (enS false a))], I_ (wrap i64 (wrap i64 (wrap i64 (wrap i64 (i0 + 1) + 1) + 1) + 1)), U_, U_, I_ (Int.negSucc 0), I_ i1, I_ i1, V_ [C.d (D.sl false 11 (enS false a))], I_ (ofNat (length (enS false a))), B_ true, U_, U_, V_ [C.d (D.sl false 11 (enS false a))], I_ i1, V_ [C.rptr (getD (enS false a) (toNat i1) [])], V_ [C.rptr (getD (enS false a) (toNat i1) [])], B_ (D.flag (getD (getD (enS false a) (toNat i1) []) 0 D.dead)), I_ i0, I_ (Int.tmod i0 (3)), B_ (Int.tmod i0 (3) == 0), B_ false, I_ i0, I_ (wrap i64 (i0 + 1)), V_ [C.d (D.sl false 11 (enS false a))], I_ i1, V_ [C.rptr (getD (enS false a) (toNat i1) [])], V_ [C.rptr (drop 1 (getD (enS false a) (toNat i1) []))], B_ (D.flag (getD (drop 1 (getD (enS false a) (toNat i1) [])) 0 D.dead)), I_ (wrap i64 (i0 + 1)), I_ (Int.tmod (wrap i64 (i0 + 1)) (3)), B_ (Int.tmod (wrap i64 (i0 + 1)) (3) == 0), B_ false, I_ (wrap i64 (i0 + 1)), I_ (wrap i64 (wrap i64 (i0 + 1) + 1)), V_ [C.d (D.sl false 11 (enS false a))], I_ i1, V_ [C.rptr (getD (enS false a) (toNat i1) [])], V_ [C.rptr (drop 2 (getD (enS false a) (toNat i1) []))], V_ [C.rptr (drop 2 (getD (enS false a) (toNat i1) []))], I_ (D.num (getD (drop 2 (getD (enS false a) (toNat i1) [])) 0 D.dead)), I_ (wrap i64 (wrap i64 (i0 + 1) + 1)), B_ false, I_ (wrap i64 (wrap i64 (i0 + 1) + 1)), I_ (wrap i64 (wrap i64 (wrap i64 (i0 + 1) + 1) + 1)), V_ [C.d (D.sl false 11 (enS false a))], I_ i1, V_ [C.rptr (getD (enS false a) (toNat i1) [])], V_ [C.rptr (drop 2 (getD (enS false a) (toNat i1) []))], V_ [C.rptr (drop 1 (drop 2 (getD (enS false a) (toNat i1) [])))], I_ (D.num (getD (drop 1 (drop 2 (getD (enS false a) (toNat i1) []))) 0 D.dead)), I_ (wrap i64 (wrap i64 (wrap i64 (i0 + 1) + 1) + 1)), B_ false, I_ (wrap i64 (wrap i64 (wrap i64 (i0 + 1) + 1) + 1)), I_ (wrap i64 (wrap i64 (wrap i64 (wrap i64 (i0 + 1) + 1) + 1) + 1)), V_ [C.d (D.sl false 11 (enS false a))], I_ i1, V_ [C.rptr (getD (enS false a) (toNat i1) [])], V_ [C.rptr (drop 2 (getD (enS false a) (toNat i1) []))], V_ [C.rptr (drop 2 (drop 2 (getD (enS false a) (toNat i1) [])))], I_ (D.num (getD (drop 2 (drop 2 (getD (enS false a) (toNat i1) []))) 0 D.dead)), I_ (wrap i64 (wrap i64 (wrap i64 (wrap i64 (i0 + 1) + 1) + 1) + 1)), B_ true, U_, U_, U_, U_, U_, U_, U_, U_, U_, U_, U_, U_, U_, U_, U_, U_, U_, U_, U_, U_, U_, U_, U_, U_, U_, U_, U_, U_, U_, U_, U_, U_, U_, U_, U_, U_, U_, U_, U_, U_, U_, U_, U_, U_, U_, U_, U_, U_, U_, U_, U_, U_, U_, U_, U_, U_, U_, U_, U_, U_] []
def X67_7 (a : List Port) (i0 : Int) (i1 : Int) : St := St.mk [V_ [C.d (D.sl false 11 (enS false a))], I_ (wrap i64 (wrap i64 (wrap i64 (wrap i64 (wrap i64 (i0 + 1) + 1) + 1) + 1) + 1)), U_, U_, I_ (Int.negSucc 0), I_ i1, I_ i1, V_ [C.d (D.sl false 11 (enS false a))], I_ (ofNat (length (enS false a))), B_ true, U_, U_, V_ [C.d (D.sl false 11 (enS false a))], I_ i1, V_ [C.rptr (getD (enS false a) (toNat i1) [])], V_ [C.rptr (getD (enS false a) (toNat i1) [])], B_ (D.flag (getD (getD (enS false a) (toNat i1) []) 0 D.dead)), I_ i0, I_ (Int.tmod i0 (3)), B_ (Int.tmod i0 (3) == 0), B_ false, I_ i0, I_ (wrap i64 (i0 + 1)), V_ [C.d (D.sl false 11 (enS false a))], I_ i1, V_ [C.rptr (getD (enS false a) (toNat i1) [])], V_ [C.rptr (drop 1 (getD (enS false a) (toNat i1) []))], B_ (D.flag (getD (drop 1 (getD (enS false a) (toNat i1) [])) 0 D.dead)), I_ (wrap i64 (i0 + 1)), I_ (Int.tmod (wrap i64 (i0 + 1)) (3)), B_ (Int.tmod (wrap i64 (i0 + 1)) (3) == 0), B_ false, I_ (wrap i64 (i0 + 1)), I_ (wrap i64 (wrap i64 (i0 + 1) + 1)), V_ [C.d (D.sl false 11 (enS false a))], I_ i1, V_ [C.rptr (getD (enS false a) (toNat i1) [])], V_ [C.rptr (drop 2 (getD (enS false a) (toNat i1) []))], V_ [C.rptr (drop 2 (getD (enS false a) (toNat i1) []))], I_ (D.num (getD (drop 2 (getD (enS false a) (toNat i1) [])) 0 D.dead)), I_ (wrap i64 (wrap i64 (i0 + 1) + 1)), B_ false, I_ (wrap i64 (wrap i64 (i0 + 1) + 1)), I_ (wrap i64 (wrap i64 (wrap i64 (i0 + 1) + 1) + 1)), V_ [C.d (D.sl false 11 (enS false a))], I_ i1, V_ [C.rptr (getD (enS false a) (toNat i1) [])], V_ [C.rptr (drop 2 (getD (enS false a) (toNat i1) []))], V_ [C.rptr (drop 1 (drop 2 (getD (enS false a) (toNat i1) [])))], I_ (D.num (getD (drop 1 (drop 2 (getD (enS false a) (toNat i1) []))) 0 D.dead)), I_ (wrap i64 (wrap i64 (wrap i64 (i0 + 1) + 1) + 1)), B_ false, I_ (wrap i64 (wrap i64 (wrap i64 (i0 + 1) + 1) + 1)), I_ (wrap i64 (wrap i64 (wrap i64 (wrap i64 (i0 + 1) + 1) + 1) + 1)), V_ [C.d (D.sl false 11 (enS false a))], I_ i1, V_ [C.rptr (getD (enS false a) (toNat i1) [])], V_ [C.rptr (drop 2 (getD (enS false a) (toNat i1) []))], V_ [C.rptr (drop 2 (drop 2 (getD (enS false a) (toNat i1) [])))], I_ (D.num (getD (drop 2 (drop 2 (getD (enS false a) (toNat i1) []))) 0 D.dead)), I_ (wrap i64 (wrap i64 (wrap i64 (wrap i64 (i0 + 1) + 1) + 1) + 1)), B_ false, I_ (wrap i64 (wrap i64 (wrap i64 (wrap i64 (i0 + 1) + 1) + 1) + 1)), I_ (wrap i64 (wrap i64 (wrap i64 (wrap i64 (wrap i64 (i0 + 1) + 1) + 1) + 1) + 1)), V_ [C.d (D.sl false 11 (enS false a))], I_ i1, V_ [C.rptr (getD (enS false a) (toNat i1) [])], V_ [C.rptr (drop 2 (getD (enS false a) (toNat i1) []))], V_ [C.rptr (drop 3 (drop 2 (getD (enS false a) (toNat i1) [])))], I_ (D.num (getD (drop 3 (drop 2 (getD (enS false a) (toNat i1) []))) 0 D.dead)), I_ (wrap i64 (wrap i64 (wrap i64 (wrap i64 (wrap i64 (i0 + 1) + 1) + 1) + 1) + 1)), B_ true, U_, U_, U_, U_, U_, U_, U_, U_, U_, U_, U_, U_, U_, U_, U_, U_, U_, U_, U_, U_, U_, U_, U_, U_, U_, U_, U_, U_, U_, U_, U_, U_, U_, U_, U_, U_, U_, U_, U_, U_, U_, U_, U_, U_, U_, U_, U_, U_, U_, U_] []
def X67_8 (a : List Port) (i0 : Int) (i1 : Int) : St := St.mk [V_ [C.d (D.sl false 11 (enS false a))], I_ (wrap i64 (wrap i64 (wrap i64 (wrap i64 (wrap i64 (wrap i64 (i0 + 1) + 1) + 1) + 1) + 1) + 1)), U_, U_, I_ (Int.negSucc 0), I_ i1, I_ i1, V_ [C.d (D.sl false 11 (enS false a))], I_ (ofNat (length (enS false a))), B_ true, U_, U_, V_ [C.d (D.sl false 11 (enS false a))], I_ i1, V_ [C.rptr (getD (enS false a) (toNat i1) [])], V_ [C.rptr (getD (enS false a) (toNat i1) [])], B_ (D.flag (getD (getD (enS false a) (toNat i1) []) 0 D.dead)), I_ i0, I_ (Int.tmod i0 (3)), B_ (Int.tmod i0 (3) == 0), B_ false, I_ i0, I_ (wrap i64 (i0 + 1)), V_ [C.d (D.sl false 11 (enS false a))], I_ i1, V_ [C.rptr (getD (enS false a) (toNat i1) [])], V_ [C.rptr (drop 1 (getD (enS false a) (toNat i1) []))], B_ (D.flag (getD (drop 1 (getD (enS false a) (toNat i1) [])) 0 D.dead)), I_ (wrap i64 (i0 + 1)), I_ (Int.tmod (wrap i64 (i0 + 1)) (3)), B_ (Int.tmod (wrap i64 (i0 + 1)) (3) == 0), B_ false, I_ (wrap i64 (i0 + 1)), I_ (wrap i64 (wrap i64 (i0 + 1) + 1)), V_ [C.d (D.sl false 11 (enS false a))], I_ i1, V_ [C.rptr (getD (enS false a) (toNat i1) [])], V_ [C.rptr (drop 2 (getD (enS false a) (toNat i1) []))], V_ [C.rptr (drop 2 (getD (enS false a) (toNat i1) []))], I_ (D.num (getD (drop 2 (getD (enS false a) (toNat i1) [])) 0 D.dead)), I_ (wrap i64 (wrap i64 (i0 + 1) + 1)), B_ false, I_ (wrap i64 (wrap i64 (i0 + 1) + 1)), I_ (wrap i64 (wrap i64 (wrap i64 (i0 + 1) + 1) + 1)), V_ [C.d (D.sl false 11 (enS false a))], I_ i1, V_ [C.rptr (getD (enS false a) (toNat i1) [])], V_ [C.rptr (drop 2 (getD (enS false a) (toNat i1) []))], V_ [C.rptr (drop 1 (drop 2 (getD (enS false a) (toNat i1) [])))], I_ (D.num (getD (drop 1 (drop 2 (getD (enS false a) (toNat i1) []))) 0 D.dead)), I_ (wrap i64 (wrap i64 (wrap i64 (i0 + 1) + 1) + 1)), B_ false, I_ (wrap i64 (wrap i64 (wrap i64 (i0 + 1) + 1) + 1)), I_ (wrap i64 (wrap i64 (wrap i64 (wrap i64 (i0 + 1) + 1) + 1) + 1)), V_ [C.d (D.sl false 11 (enS false a))], I_ i1, V_ [C.rptr (getD (enS false a) (toNat i1) [])], V_ [C.rptr (drop 2 (getD (enS false a) (toNat i1) []))], V_ [C.rptr (drop 2 (drop 2 (getD (enS false a) (toNat i1) [])))], I_ (D.num (getD (drop 2 (drop 2 (getD (enS false a) (toNat i1) []))) 0 D.dead)), I_ (wrap i64 (wrap i64 (wrap i64 (wrap i64 (i0 + 1) + 1) + 1) + 1)), B_ false, I_ (wrap i64 (wrap i64 (wrap i64 (wrap i64 (i0 + 1) + 1) + 1) + 1)), I_ (wrap i64 (wrap i64 (wrap i64 (wrap i64 (wrap i64 (i0 + 1) + 1) + 1) + 1) + 1)), V_ [C.d (D.sl false 11 (enS false a))], I_ i1, V_ [C.rptr (getD (enS false a) (toNat i1) [])], V_ [C.rptr (drop 2 (getD (enS false a) (toNat i1) []))], V_ [C.rptr (drop 3 (drop 2 (getD (enS false a) (toNat i1) [])))], I_ (D.num (getD (drop 3 (drop 2 (getD (enS false a) (toNat i1) []))) 0 D.dead)), I_ (wrap i64 (wrap i64 (wrap i64 (wrap i64 (wrap i64 (i0 + 1) + 1) + 1) + 1) + 1)), B_ false, I_ (wrap i64 (wrap i64 (wrap i64 (wrap i64 (wrap i64 (i0 + 1) + 1) + 1) + 1) + 1)), I_ (wrap i64 (wrap i64 (wrap i64 (wrap i64 (wrap i64 (wrap i64 (i0 + 1) + 1) + 1) + 1) + 1) + 1)), V_ [C.d (D.sl false 11 (enS false a))], I_ i1, V_ [C.rptr (getD (enS false a) (toNat i1) [])], V_ [C.rptr (drop 6 (getD (enS false a) (toNat i1) []))], I_ (D.num (getD (drop 6 (getD (enS false a) (toNat i1) [])) 0 D.dead)), I_ (wrap i64 (wrap i64 (wrap i64 (wrap i64 (wrap i64 (wrap i64 (i0 + 1) + 1) + 1) + 1) + 1) + 1)), B_ true, U_, U_, U_, U_, U_, U_, U_, U_, U_, U_, U_, U_, U_, U_, U_, U_, U_, U_, U_, U_, U_, U_, U_, U_, U_, U_, U_, U_, U_, U_, U_, U_, U_, U_, U_, U_, U_, U_, U_, U_, U_] []
def X67_9 (a : List Port) (i0 : Int) (i1 : Int) : St := St.mk [V_ [C.d (D.sl false 11 (enS false a))], I_ (wrap i64 (wrap i64 (wrap i64 (wrap i64 (wrap i64 (wrap i64 (wrap i64 (i0 + 1) + 1) + 1) + 1) + 1) + 1) + 1)), U_, U_, I_ (Int.negSucc 0), I_ i1, I_ i1, V_ [C.d (D.sl false 11 (enS false a))], I_ (ofNat (length (enS false a))), B_ true, U_, U_, V_ [C.d (D.sl false 11 (enS false a))], I_ i1, V_ [C.rptr (getD (enS false a) (toNat i1) [])], V_ [C.rptr (getD (enS false a) (toNat i1) [])], B_ (D.flag (getD (getD (enS false a) (toNat i1) []) 0 D.dead)), I_ i0, I_ (Int.tmod i0 (3)), B_ (Int.tmod i0 (3) == 0), B_ false, I_ i0, I_ (wrap i64 (i0 + 1)), V_ [C.d (D.sl false 11 (enS false a))], I_ i1, V_ [C.rptr (getD (enS false a) (toNat i1) [])], V_ [C.rptr (drop 1 (getD (enS false a) (toNat i1) []))], B_ (D.flag (getD (drop 1 (getD (enS false a) (toNat i1) [])) 0 D.dead)), I_ (wrap i64 (i0 + 1)), I_ (Int.tmod (wrap i64 (i0 + 1)) (3)), B_ (Int.tmod (wrap i64 (i0 + 1)) (3) == 0), B_ false, I_ (wrap i64 (i0 + 1)), I_ (wrap i64 (wrap i64 (i0 + 1) + 1)), V_ [C.d (D.sl false 11 (enS false a))], I_ i1, V_ [C.rptr (getD (enS false a) (toNat i1) [])], V_ [C.rptr (drop 2 (getD (enS false a) (toNat i1) []))], V_ [C.rptr (drop 2 (getD (enS false a) (toNat i1) []))], I_ (D.num (getD (drop 2 (getD (enS false a) (toNat i1) [])) 0 D.dead)), I_ (wrap i64 (wrap i64 (i0 + 1) + 1)), B_ false, I_ (wrap i64 (wrap i64 (i0 + 1) + 1)), I_ (wrap i64 (wrap i64 (wrap i64 (i0 + 1) + 1) + 1)), V_ [C.d (D.sl false 11 (enS false a))], I_ i1, V_ [C.rptr (getD (enS false a) (toNat i1) [])], V_ [C.rptr (drop 2 (getD (enS false a) (toNat i1) []))], V_ [C.rptr (drop 1 (drop 2 (getD (enS false a) (toNat i1) [])))], I_ (D.num (getD (drop 1 (drop 2 (getD (enS false a) (toNat i1) []))) 0 D.dead)), I_ (wrap i64 (wrap i64 (wrap i64 (i0 + 1) + 1) + 1)), B_ false, I_ (wrap i64 (wrap i64 (wrap i64 (i0 + 1) + 1) + 1)), I_ (wrap i64 (wrap i64 (wrap i64 (wrap i64 (i0 + 1) + 1) + 1) + 1)), V_ [C.d (D.sl false 11 (enS false a))], I_ i1, V_ [C.rptr (getD (enS false a) (toNat i1) [])], V_ [C.rptr (drop 2 (getD (enS false a) (toNat i1) []))], V_ [C.rptr (drop 2 (drop 2 (getD (enS false a) (toNat i1) [])))], I_ (D.num (getD (drop 2 (drop 2 (getD (enS false a) (toNat i1) []))) 0 D.dead)), I_ (wrap i64 (wrap i64 (wrap i64 (wrap i64 (i0 + 1) + 1) + 1) + 1)), B_ false, I_ (wrap i64 (wrap i64 (wrap i64 (wrap i64 (i0 + 1) + 1) + 1) + 1)), I_ (wrap i64 (wrap i64 (wrap i64 (wrap i64 (wrap i64 (i0 + 1) + 1) + 1) + 1) + 1)), V_ [C.d (D.sl false 11 (enS false a))], I_ i1, V_ [C.rptr (getD (enS false a) (toNat i1) [])], V_ [C.rptr (drop 2 (getD (enS false a) (toNat i1) []))], V_ [C.rptr (drop 3 (drop 2 (getD (enS false a) (toNat i1) [])))], I_ (D.num (getD (drop 3 (drop 2 (getD (enS false a) (toNat i1) []))) 0 D.dead)), I_ (wrap i64 (wrap i64 (wrap i64 (wrap i64 (wrap i64 (i0 + 1) + 1) + 1) + 1) + 1)), B_ false, I_ (wrap i64 (wrap i64 (wrap i64 (wrap i64 (wrap i64 (i0 + 1) + 1) + 1) + 1) + 1)), I_ (wrap i64 (wrap i64 (wrap i64 (wrap i64 (wrap i64 (wrap i64 (i0 + 1) + 1) + 1) + 1) + 1) + 1)), V_ [C.d (D.sl false 11 (enS false a))], I_ i1, V_ [C.rptr (getD (enS false a) (toNat i1) [])], V_ [C.rptr (drop 6 (getD (enS false a) (toNat i1) []))], I_ (D.num (getD (drop 6 (getD (enS false a) (toNat i1) [])) 0 D.dead)), I_ (wrap i64 (wrap i64 (wrap i64 (wrap i64 (wrap i64 (wrap i64 (i0 + 1) + 1) + 1) + 1) + 1) + 1)), B_ false, I_ (wrap i64 (wrap i64 (wrap i64 (wrap i64 (wrap i64 (wrap i64 (i0 + 1) + 1) + 1) + 1) + 1) + 1)), I_ (wrap i64 (wrap i64 (wrap i64 (wrap i64 (wrap i64 (wrap i64 (wrap i64 (i0 + 1) + 1) + 1) + 1) + 1) + 1) + 1)), V_ [C.d (D.sl false 11 (enS false a))], I_ i1, V_ [C.rptr (getD (enS false a) (toNat i1) [])], V_ [C.rptr (drop 7 (getD (enS false a) (toNat i1) []))], I_ (D.num (getD (drop 7 (getD (enS false a) (toNat i1) [])) 0 D.dead)), I_ (wrap i64 (wrap i64 (wrap i64 (wrap i64 (wrap i64 (wrap i64 (wrap i64 (i0 + 1) + 1) + 1) + 1) + 1) + 1) + 1)), B_ true, U_, U_, U_, U_, U_, U_, U_, U_, U_, U_, U_, U_, U_, U_, U_, U_, U_, U_, U_, U_, U_, U_, U_, U_, U_, U_, U_, U_, U_, U_, U_, U_] []
def X67_10 (a : List Port) (i0 : Int) (i1 : Int) : St := St.mk [V_ [C.d (D.sl false 11 (enS false a))], I_ (wrap i64 (wrap i64 (wrap i64 (wrap i64 (wrap i64 (wrap i64 (wrap i64 (wrap i64 (i0 + 1) + 1) + 1) + 1) + 1) + 1) + 1) + 1)), U_, U_, I_ (Int.negSucc 0), I_ i1, I_ i1, V_ [C.d (D.sl false 11 (enS false a))], I_ (ofNat (length (enS false a))), B_ true, U_, U_, V_ [C.d (D.sl false 11 (enS false a))], I_ i1, V_ [C.rptr (getD (enS false a) (toNat i1) [])], V_ [C.rptr (getD (enS false a) (toNat i1) [])], B_ (D.flag (getD (getD (enS false a) (toNat i1) []) 0 D.dead)), I_ i0, I_ (Int.tmod i0 (3)), B_ (Int.tmod i0 (3) == 0), B_ false, I_ i0, I_ (wrap i64 (i0 + 1)), V_ [C.d (D.sl false 11 (enS false a))], I_ i1, V_ [C.rptr (getD (enS false a) (toNat i1) [])], V_ [C.rptr (drop 1 (getD (enS false a) (toNat i1) []))], B_ (D.flag (getD (drop 1 (getD (enS false a) (toNat i1) [])) 0 D.dead)), I_ (wrap i64 (i0 + 1)), I_ (Int.tmod (wrap i64 (i0 + 1)) (3)), B_ (Int.tmod (wrap i64 (i0 + 1)) (3) == 0), B_ false, I_ (wrap i64 (i0 + 1)), I_ (wrap i64 (wrap i64 (i0 + 1) + 1)), V_ [C.d (D.sl false 11 (enS false a))], I_ i1, V_ [C.rptr (getD (enS false a) (toNat i1) [])], V_ [C.rptr (drop 2 (getD (enS false a) (toNat i1) []))], V_ [C.rptr (drop 2 (getD (enS false a) (toNat i1) []))], I_ (D.num (getD (drop 2 (getD (enS false a) (toNat i1) [])) 0 D.dead)), I_ (wrap i64 (wrap i64 (i0 + 1) + 1)), B_ false, I_ (wrap i64 (wrap i64 (i0 + 1) + 1)), I_ (wrap i64 (wrap i64 (wrap i64 (i0 + 1) + 1) + 1)), V_ [C.d (D.sl false 11 (enS false a))], I_ i1, V_ [C.rptr (getD (enS false a) (toNat i1) [])], V_ [C.rptr (drop 2 (getD (enS false a) (toNat i1) []))], V_ [C.rptr (drop 1 (drop 2 (getD (enS false a) (toNat i1) [])))], I_ (D.num (getD (drop 1 (drop 2 (getD (enS false a) (toNat i1) []))) 0 D.dead)), I_ (wrap i64 (wrap i64 (wrap i64 (i0 + 1) + 1) + 1)), B_ false, I_ (wrap i64 (wrap i64 (wrap i64 (i0 + 1) + 1) + 1)), I_ (wrap i64 (wrap i64 (wrap i64 (wrap i64 (i0 + 1) + 1) + 1) + 1)), V_ [C.d (D.sl false 11 (enS false a))], I_ i1, V_ [C.rptr (getD (enS false a) (toNat i1) [])], V_ [C.rptr (drop 2 (getD (enS false a) (toNat i1) []))], V_ [C.rptr (drop 2 (drop 2 (getD (enS false a) (toNat i1) [])))], I_ (D.num (getD (drop 2 (drop 2 (getD (enS false a) (toNat i1) []))) 0 D.dead)), I_ (wrap i64 (wrap i64 (wrap i64 (wrap i64 (i0 + 1) + 1) + 1) + 1)), B_ false, I_ (wrap i64 (wrap i64 (wrap i64 (wrap i64 (i0 + 1) + 1) + 1) + 1)), I_ (wrap i64 (wrap i64 (wrap i64 (wrap i64 (wrap i64 (i0 + 1) + 1) + 1) + 1) + 1)), V_ [C.d (D.sl false 11 (enS false a))], I_ i1, V_ [C.rptr (getD (enS false a) (toNat i1) [])], V_ [C.rptr (drop 2 (getD (enS false a) (toNat i1) []))], V_ [C.rptr (drop 3 (drop 2 (getD (enS false a) (toNat i1) [])))], I_ (D.num (getD (drop 3 (drop 2 (getD (enS false a) (toNat i1) []))) 0 D.dead)), I_ (wrap i64 (wrap i64 (wrap i64 (wrap i64 (wrap i64 (i0 + 1) + 1) + 1) + 1) + 1)), B_ false, I_ (wrap i64 (wrap i64 (wrap i64 (wrap i64 (wrap i64 (i0 + 1) + 1) + 1) + 1) + 1)), I_ (wrap i64 (wrap i64 (wrap i64 (wrap i64 (wrap i64 (wrap i64 (i0 + 1) + 1) + 1) + 1) + 1) + 1)), V_ [C.d (D.sl false 11 (enS false a))], I_ i1, V_ [C.rptr (getD (enS false a) (toNat i1) [])], V_ [C.rptr (drop 6 (getD (enS false a) (toNat i1) []))], I_ (D.num (getD (drop 6 (getD (enS false a) (toNat i1) [])) 0 D.dead)), I_ (wrap i64 (wrap i64 (wrap i64 (wrap i64 (wrap i64 (wrap i64 (i0 + 1) + 1) + 1) + 1) + 1) + 1)), B_ false, I_ (wrap i64 (wrap i64 (wrap i64 (wrap i64 (wrap i64 (wrap i64 (i0 + 1) + 1) + 1) + 1) + 1) + 1)), I_ (wrap i64 (wrap i64 (wrap i64 (wrap i64 (wrap i64 (wrap i64 (wrap i64 (i0 + 1) + 1) + 1) + 1) + 1) + 1) + 1)), V_ [C.d (D.sl false 11 (enS false a))], I_ i1, V_ [C.rptr (getD (enS false a) (toNat i1) [])], V_ [C.rptr (drop 7 (getD (enS false a) (toNat i1) []))], I_ (D.num (getD (drop 7 (getD (enS false a) (toNat i1) [])) 0 D.dead)), I_ (wrap i64 (wrap i64 (wrap i64 (wrap i64 (wrap i64 (wrap i64 (wrap i64 (i0 + 1) + 1) + 1) + 1) + 1) + 1) + 1)), B_ false, I_ (wrap i64 (wrap i64 (wrap i64 (wrap i64 (wrap i64 (wrap i64 (wrap i64 (i0 + 1) + 1) + 1) + 1) + 1) + 1) + 1)), I_ (wrap i64 (wrap i64 (wrap i64 (wrap i64 (wrap i64 (wrap i64 (wrap i64 (wrap i64 (i0 + 1) + 1) + 1) + 1) + 1) + 1) + 1) + 1)), V_ [C.d (D.sl false 11 (enS false a))], I_ i1, V_ [C.rptr (getD (enS false a) (toNat i1) [])], V_ [C.rptr (drop 8 (getD (enS false a) (toNat i1) []))], I_ (D.num (getD (drop 8 (getD (enS false a) (toNat i1) [])) 0 D.dead)), I_ (wrap i64 (wrap i64 (wrap i64 (wrap i64 (wrap i64 (wrap i64 (wrap i64 (wrap i64 (i0 + 1) + 1) + 1) + 1) + 1) + 1) + 1) + 1)), B_ true, U_, U_, U_, U_, U_, U_, U_, U_, U_, U_, U_, U_, U_, U_, U_, U_, U_, U_, U_, U_, U_, U_, U_] []
def X67_11 (a : List Port) (i0 : Int) (i1 : Int) : St := St.mk [V_ [C.d (D.sl false 11 (enS false a))], I_ (wrap i64 (wrap i64 (wrap i64 (wrap i64 (wrap i64 (wrap i64 (wrap i64 (wrap i64 (wrap i64 (i0 + 1) + 1) + 1) + 1) + 1) + 1) + 1) + 1) + 1)), U_, U_, I_ (Int.negSucc 0), I_ i1, I_ i1, V_ [C.d (D.sl false 11 (enS false a))], I_ (ofNat (length (enS false a))), B_ true, U_, U_, V_ [C.d (D.sl false 11 (enS false a))], I_ i1, V_ [C.rptr (getD (enS false a) (toNat i1) [])], V_ [C.rptr (getD (enS false a) (toNat i1) [])], B_ (D.flag (getD (getD (enS false a) (toNat i1) []) 0 D.dead)), I_ i0, I_ (Int.tmod i0 (3)), B_ (Int.tmod i0 (3) == 0), B_ false, I_ i0, I_ (wrap i64 (i0 + 1)), V_ [C.d (D.sl false 11 (enS false a))], I_ i1, V_ [C.rptr (getD (enS false a) (toNat i1) [])], V_ [C.rptr (drop 1 (getD (enS false a) (toNat i1) []))], B_ (D.flag (getD (drop 1 (getD (enS false a) (toNat i1) [])) 0 D.dead)), I_ (wrap i64 (i0 + 1)), I_ (Int.tmod (wrap i64 (i0 + 1)) (3)), B_ (Int.tmod (wrap i64 (i0 + 1)) (3) == 0), B_ false, I_ (wrap i64 (i0 + 1)), I_ (wrap i64 (wrap i64 (i0 + 1) + 1)), V_ [C.d (D.sl false 11 (enS false a))], I_ i1, V_ [C.rptr (getD (enS false a) (toNat i1) [])], V_ [C.rptr (drop 2 (getD (enS false a) (toNat i1) []))], V_ [C.rptr (drop 2 (getD (enS false a) (toNat i1) []))], I_ (D.num (getD (drop 2 (getD (enS false a) (toNat i1) [])) 0 D.dead)), I_ (wrap i64 (wrap i64 (i0 + 1) + 1)), B_ false, I_ (wrap i64 (wrap i64 (i0 + 1) + 1)), I_ (wrap i64 (wrap i64 (wrap i64 (i0 + 1) + 1) + 1)), V_ [C.d (D.sl false 11 (enS false a))], I_ i1, V_ [C.rptr (getD (enS false a) (toNat i1) [])], V_ [C.rptr (drop 2 (getD (enS false a) (toNat i1) []))], V_ [C.rptr (drop 1 (drop 2 (getD (enS false a) (toNat i1) [])))], I_ (D.num (getD (drop 1 (drop 2 (getD (enS false a) (toNat i1) []))) 0 D.dead)), I_ (wrap i64 (wrap i64 (wrap i64 (i0 + 1) + 1) + 1)), B_ false, I_ (wrap i64 (wrap i64 (wrap i64 (i0 + 1) + 1) + 1)), I_ (wrap i64 (wrap i64 (wrap i64 (wrap i64 (i0 + 1) + 1) + 1) + 1)), V_ [C.d (D.sl false 11 (enS false a))], I_ i1, V_ [C.rptr (getD (enS false a) (toNat i1) [])], V_ [C.rptr (drop 2 (getD (enS false a) (toNat i1) []))], V_ [C.rptr (drop 2 (drop 2 (getD (enS false a) (toNat i1) [])))], I_ (D.num (getD (drop 2 (drop 2 (getD (enS false a) (toNat i1) []))) 0 D.dead)), I_ (wrap i64 (wrap i64 (wrap i64 (wrap i64 (i0 + 1) + 1) + 1) + 1)), B_ false, I_ (wrap i64 (wrap i64 (wrap i64 (wrap i64 (i0 + 1) + 1) + 1) + 1)), I_ (wrap i64 (wrap i64 (wrap i64 (wrap i64 (wrap i64 (i0 + 1) + 1) + 1) + 1) + 1)), V_ [C.d (D.sl false 11 (enS false a))], I_ i1, V_ [C.rptr (getD (enS false a) (toNat i1) [])], V_ [C.rptr (drop 2 (getD (enS false a) (toNat i1) []))], V_ [C.rptr (drop 3 (drop 2 (getD (enS false a) (toNat i1) [])))], I_ (D.num (getD (drop 3 (drop 2 (getD (enS false a) (toNat i1) []))) 0 D.dead)), I_ (wrap i64 (wrap i64 (wrap i64 (wrap i64 (wrap i64 (i0 + 1) + 1) + 1) + 1) + 1)), B_ false, I_ (wrap i64 (wrap i64 (wrap i64 (wrap i64 (wrap i64 (i0 + 1) + 1) + 1) + 1) + 1)), I_ (wrap i64 (wrap i64 (wrap i64 (wrap i64 (wrap i64 (wrap i64 (i0 + 1) + 1) + 1) + 1) + 1) + 1)), V_ [C.d (D.sl false 11 (enS false a))], I_ i1, V_ [C.rptr (getD (enS false a) (toNat i1) [])], V_ [C.rptr (drop 6 (getD (enS false a) (toNat i1) []))], I_ (D.num (getD (drop 6 (getD (enS false a) (toNat i1) [])) 0 D.dead)), I_ (wrap i64 (wrap i64 (wrap i64 (wrap i64 (wrap i64 (wrap i64 (i0 + 1) + 1) + 1) + 1) + 1) + 1)), B_ false, I_ (wrap i64 (wrap i64 (wrap i64 (wrap i64 (wrap i64 (wrap i64 (i0 + 1) + 1) + 1) + 1) + 1) + 1)), I_ (wrap i64 (wrap i64 (wrap i64 (wrap i64 (wrap i64 (wrap i64 (wrap i64 (i0 + 1) + 1) + 1) + 1) + 1) + 1) + 1)), V_ [C.d (D.sl false 11 (enS false a))], I_ i1, V_ [C.rptr (getD (enS false a) (toNat i1) [])], V_ [C.rptr (drop 7 (getD (enS false a) (toNat i1) []))], I_ (D.num (getD (drop 7 (getD (enS false a) (toNat i1) [])) 0 D.dead)), I_ (wrap i64 (wrap i64 (wrap i64 (wrap i64 (wrap i64 (wrap i64 (wrap i64 (i0 + 1) + 1) + 1) + 1) + 1) + 1) + 1)), B_ false, I_ (wrap i64 (wrap i64 (wrap i64 (wrap i64 (wrap i64 (wrap i64 (wrap i64 (i0 + 1) + 1) + 1) + 1) + 1) + 1) + 1)), I_ (wrap i64 (wrap i64 (wrap i64 (wrap i64 (wrap i64 (wrap i64 (wrap i64 (wrap i64 (i0 + 1) + 1) + 1) + 1) + 1) + 1) + 1) + 1)), V_ [C.d (D.sl false 11 (enS false a))], I_ i1, V_ [C.rptr (getD (enS false a) (toNat i1) [])], V_ [C.rptr (drop 8 (getD (enS false a) (toNat i1) []))], I_ (D.num (getD (drop 8 (getD (enS false a) (toNat i1) [])) 0 D.dead)), I_ (wrap i64 (wrap i64 (wrap i64 (wrap i64 (wrap i64 (wrap i64 (wrap i64 (wrap i64 (i0 + 1) + 1) + 1) + 1) + 1) + 1) + 1) + 1)), B_ false, I_ (wrap i64 (wrap i64 (wrap i64 (wrap i64 (wrap i64 (wrap i64 (wrap i64 (wrap i64 (i0 + 1) + 1) + 1) + 1) + 1) + 1) + 1) + 1)), I_ (wrap i64 (wrap i64 (wrap i64 (wrap i64 (wrap i64 (wrap i64 (wrap i64 (wrap i64 (wrap i64 (i0 + 1) + 1) + 1) + 1) + 1) + 1) + 1) + 1) + 1)), V_ [C.d (D.sl false 11 (enS false a))], I_ i1, V_ [C.rptr (getD (enS false a) (toNat i1) [])], V_ [C.rptr (drop 9 (getD (enS false a) (toNat i1) []))], I_ (D.num (getD (drop 9 (getD (enS false a) (toNat i1) [])) 0 D.dead)), I_ (wrap i64 (wrap i64 (wrap i64 (wrap i64 (wrap i64 (wrap i64 (wrap i64 (wrap i64 (wrap i64 (i0 + 1) + 1) + 1) + 1) + 1) + 1) + 1) + 1) + 1)), B_ true, U_, U_, U_, U_, U_, U_, U_, U_, U_, U_, U_, U_, U_, U_] []
def X67_12 (a : List Port) (i0 : Int) (i1 : Int) : St := St.mk [V_ [C.d (D.sl false 11 (enS false a))], I_ (wrap i64 (wrap i64 (wrap i64 (wrap i64 (wrap i64 (wrap i64 (wrap i64 (wrap i64 (wrap i64 (wrap i64 (i0 + 1) + 1) + 1) + 1) + 1) + 1) + 1) + 1) + 1) + 1)), U_, U_, I_ (Int.negSucc 0), I_ i1, I_ i1, V_ [C.d (D.sl false 11 (enS false a))], I_ (ofNat (length (enS false a))), B_ true, U_, U_, V_ [C.d (D.sl false 11 (enS false a))], I_ i1, V_ [C.rptr (getD (enS false a) (toNat i1) [])], V_ [C.rptr (getD (enS false a) (toNat i1) [])], B_ (D.flag (getD (getD (enS false a) (toNat i1) []) 0 D.dead)), I_ i0, I_ (Int.tmod i0 (3)), B_ (Int.tmod i0 (3) == 0), B_ false, I_ i0, I_ (wrap i64 (i0 + 1)), V_ [C.d (D.sl false 11 (enS false a))], I_ i1, V_ [C.rptr (getD (enS false a) (toNat i1) [])], V_ [C.rptr (drop 1 (getD (enS false a) (toNat i1) []))], B_ (D.flag (getD (drop 1 (getD (enS false a) (toNat i1) [])) 0 D.dead)), I_ (wrap i64 (i0 + 1)), I_ (Int.tmod (wrap i64 (i0 + 1)) (3)), B_ (Int.tmod (wrap i64 (i0 + 1)) (3) == 0), B_ false, I_ (wrap i64 (i0 + 1)), I_ (wrap i64 (wrap i64 (i0 + 1) + 1)), V_ [C.d (D.sl false 11 (enS false a))], I_ i1, V_ [C.rptr (getD (enS false a) (toNat i1) [])], V_ [C.rptr (drop 2 (getD (enS false a) (toNat i1) []))], V_ [C.rptr (drop 2 (getD (enS false a) (toNat i1) []))], I_ (D.num (getD (drop 2 (getD (enS false a) (toNat i1) [])) 0 D.dead)), I_ (wrap i64 (wrap i64 (i0 + 1) + 1)), B_ false, I_ (wrap i64 (wrap i64 (i0 + 1) + 1)), I_ (wrap i64 (wrap i64 (wrap i64 (i0 + 1) + 1) + 1)), V_ [C.d (D.sl false 11 (enS false a))], I_ i1, V_ [C.rptr (getD (enS false a) (toNat i1) [])], V_ [C.rptr (drop 2 (getD (enS false a) (toNat i1) []))], V_ [C.rptr (drop 1 (drop 2 (getD (enS false a) (toNat i1) [])))], I_ (D.num (getD (drop 1 (drop 2 (getD (enS false a) (toNat i1) []))) 0 D.dead)), I_ (wrap i64 (wrap i64 (wrap i64 (i0 + 1) + 1) + 1)), B_ false, I_ (wrap i64 (wrap i64 (wrap i64 (i0 + 1) + 1) + 1)), I_ (wrap i64 (wrap i64 (wrap i64 (wrap i64 (i0 + 1) + 1) + 1) + 1)), V_ [C.d (D.sl false 11 (enS false a))], I_ i1, V_ [C.rptr (getD (enS false a) (toNat i1) [])], V_ [C.rptr (drop 2 (getD (enS false a) (toNat i1) []))], V_ [C.rptr (drop 2 (drop 2 (getD (enS false a) (toNat i1) [])))], I_ (D.num (getD (drop 2 (drop 2 (getD (enS false a) (toNat i1) []))) 0 D.dead)), I_ (wrap i64 (wrap i64 (wrap i64 (wrap i64 (i0 + 1) + 1) + 1) + 1)), B_ false, I_ (wrap i64 (wrap i64 (wrap i64 (wrap i64 (i0 + 1) + 1) + 1) + 1)), I_ (wrap i64 (wrap i64 (wrap i64 (wrap i64 (wrap i64 (i0 + 1) + 1) + 1) + 1) + 1)), V_ [C.d (D.sl false 11 (enS false a))], I_ i1, V_ [C.rptr (getD (enS false a) (toNat i1) [])], V_ [C.rptr (drop 2 (getD (enS false a) (toNat i1) []))], V_ [C.rptr (drop 3 (drop 2 (getD (enS false a) (toNat i1) [])))], I_ (D.num (getD (drop 3 (drop 2 (getD (enS false a) (toNat i1) []))) 0 D.dead)), I_ (wrap i64 (wrap i64 (wrap i64 (wrap i64 (wrap i64 (i0 + 1) + 1) + 1) + 1) + 1)), B_ false, I_ (wrap i64 (wrap i64 (wrap i64 (wrap i64 (wrap i64 (i0 + 1) + 1) + 1) + 1) + 1)), I_ (wrap i64 (wrap i64 (wrap i64 (wrap i64 (wrap i64 (wrap i64 (i0 + 1) + 1) + 1) + 1) + 1) + 1)), V_ [C.d (D.sl false 11 (enS false a))], I_ i1, V_ [C.rptr (getD (enS false a) (toNat i1) [])], V_ [C.rptr (drop 6 (getD (enS false a) (toNat i1) []))], I_ (D.num (getD (drop 6 (getD (enS false a) (toNat i1) [])) 0 D.dead)), I_ (wrap i64 (wrap i64 (wrap i64 (wrap i64 (wrap i64 (wrap i64 (i0 + 1) + 1) + 1) + 1) + 1) + 1)), B_ false, I_ (wrap i64 (wrap i64 (wrap i64 (wrap i64 (wrap i64 (wrap i64 (i0 + 1) + 1) + 1) + 1) + 1) + 1)), I_ (wrap i64 (wrap i64 (wrap i64 (wrap i64 (wrap i64 (wrap i64 (wrap i64 (i0 + 1) + 1) + 1) + 1) + 1) + 1) + 1)), V_ [C.d (D.sl false 11 (enS false a))], I_ i1, V_ [C.rptr (getD (enS false a) (toNat i1) [])], V_ [C.rptr (drop 7 (getD (enS false a) (toNat i1) []))], I_ (D.num (getD (drop 7 (getD (enS false a) (toNat i1) [])) 0 D.dead)), I_ (wrap i64 (wrap i64 (wrap i64 (wrap i64 (wrap i64 (wrap i64 (wrap i64 (i0 + 1) + 1) + 1) + 1) + 1) + 1) + 1)), B_ false, I_ (wrap i64 (wrap i64 (wrap i64 (wrap i64 (wrap i64 (wrap i64 (wrap i64 (i0 + 1) + 1) + 1) + 1) + 1) + 1) + 1)), I_ (wrap i64 (wrap i64 (wrap i64 (wrap i64 (wrap i64 (wrap i64 (wrap i64 (wrap i64 (i0 + 1) + 1) + 1) + 1) + 1) + 1) + 1) + 1)), V_ [C.d (D.sl false 11 (enS false a))], I_ i1, V_ [C.rptr (getD (enS false a) (toNat i1) [])], V_ [C.rptr (drop 8 (getD (enS false a) (toNat i1) []))], I_ (D.num (getD (drop 8 (getD (enS false a) (toNat i1) [])) 0 D.dead)), I_ (wrap i64 (wrap i64 (wrap i64 (wrap i64 (wrap i64 (wrap i64 (wrap i64 (wrap i64 (i0 + 1) + 1) + 1) + 1) + 1) + 1) + 1) + 1)), B_ false, I_ (wrap i64 (wrap i64 (wrap i64 (wrap i64 (wrap i64 (wrap i64 (wrap i64 (wrap i64 (i0 + 1) + 1) + 1) + 1) + 1) + 1) + 1) + 1)), I_ (wrap i64 (wrap i64 (wrap i64 (wrap i64 (wrap i64 (wrap i64 (wrap i64 (wrap i64 (wrap i64 (i0 + 1) + 1) + 1) + 1) + 1) + 1) + 1) + 1) + 1)), V_ [C.d (D.sl false 11 (enS false a))], I_ i1, V_ [C.rptr (getD (enS false a) (toNat i1) [])], V_ [C.rptr (drop 9 (getD (enS false a) (toNat i1) []))], I_ (D.num (getD (drop 9 (getD (enS false a) (toNat i1) [])) 0 D.dead)), I_ (wrap i64 (wrap i64 (wrap i64 (wrap i64 (wrap i64 (wrap i64 (wrap i64 (wrap i64 (wrap i64 (i0 + 1) + 1) + 1) + 1) + 1) + 1) + 1) + 1) + 1)), B_ false, I_ (wrap i64 (wrap i64 (wrap i64 (wrap i64 (wrap i64 (wrap i64 (wrap i64 (wrap i64 (wrap i64 (i0 + 1) + 1) + 1) + 1) + 1) + 1) + 1) + 1) + 1)), I_ (wrap i64 (wrap i64 (wrap i64 (wrap i64 (wrap i64 (wrap i64 (wrap i64 (wrap i64 (wrap i64 (wrap i64 (i0 + 1) + 1) + 1) + 1) + 1) + 1) + 1) + 1) + 1) + 1)), V_ [C.d (D.sl false 11 (enS false a))], I_ i1, V_ [C.rptr (getD (enS false a) (toNat i1) [])], V_ [C.rptr (drop 10 (getD (enS false a) (toNat i1) []))], B_ (D.flag (getD (drop 10 (getD (enS false a) (toNat i1) [])) 0 D.dead)), I_ (wrap i64 (wrap i64 (wrap i64 (wrap i64 (wrap i64 (wrap i64 (wrap i64 (wrap i64 (wrap i64 (wrap i64 (i0 + 1) + 1) + 1) + 1) + 1) + 1) + 1) + 1) + 1) + 1)), I_ (Int.tmod (wrap i64 (wrap i64 (wrap i64 (wrap i64 (wrap i64 (wrap i64 (wrap i64 (wrap i64 (wrap i64 (wrap i64 (i0 + 1) + 1) + 1) + 1) + 1) + 1) + 1) + 1) + 1) + 1)) (3)), B_ (Int.tmod (wrap i64 (wrap i64 (wrap i64 (wrap i64 (wrap i64 (wrap i64 (wrap i64 (wrap i64 (wrap i64 (wrap i64 (i0 + 1) + 1) + 1) + 1) + 1) + 1) + 1) + 1) + 1) + 1)) (3) == 0), B_ true, U_, U_, U_] []
def X67_13 (a : List Port) (i0 : Int) (i1 : Int) : St := St.mk [V_ [C.d (D.sl false 11 (enS false a))], I_ i0, U_, U_, U_, I_ i1, I_ i1, V_ [C.d (D.sl false 11 (enS false a))], I_ (ofNat (length (enS false a))), B_ false, U_, U_, U_, U_, U_, U_, U_, U_, U_, U_, U_, U_, U_, U_, U_, U_, U_, U_, U_, U_, U_, U_, U_, U_, U_, U_, U_, U_, U_, U_, U_, U_, U_, U_, U_, U_, U_, U_, U_, U_, U_, U_, U_, U_, U_, U_, U_, U_, U_, U_, U_, U_, U_, U_, U_, U_, U_, U_, U_, U_, U_, U_, U_, U_, U_, U_, U_, U_, U_, U_, U_, U_, U_, U_, U_, U_, U_, U_, U_, U_, U_, U_, U_, U_, U_, U_, U_, U_, U_, U_, U_, U_, U_, U_, U_, U_, U_, U_, U_, U_, U_, U_, U_, U_, U_, U_, U_, U_, U_, U_, U_, U_] []
theorem q67_0 (a : List Port) (n : Nat) (i0 : Int) (i1 : Int) (f : St → RR) (K : Ex → St → RR) : B67_0 n (S67_0 a i0 i1) (kThen (fun st ↦ f (St.head 0 35 2658455991569831745807614120560689138 st)) K) = bif decide (i1 < ofNat (length (enS false a))) then bif decide (0 ≤ i1) && decide (i1 < ofNat (length (enS false a))) then bif Leaf.fit false Leaf.bool (getD (getD (enS false a) (toNat i1) []) 0 D.dead) && true then bif D.flag (getD (getD (enS false a) (toNat i1) []) 0 D.dead) != (Int.tmod i0 (3) == 0) then K Ex.ret (X67_2 a i0 i1) else bif decide (0 ≤ i1) && decide (i1 < ofNat (length (enS false a))) then bif Leaf.fit false Leaf.bool (getD (drop 1 (getD (enS false a) (toNat i1) [])) 0 D.dead) && true then bif D.flag (getD (drop 1 (getD (enS false a) (toNat i1) [])) 0 D.dead) != (Int.tmod (wrap i64 (i0 + 1)) (3) == 0) then K Ex.ret (X67_3 a i0 i1) else bif decide (0 ≤ i1) && decide (i1 < ofNat (length (enS false a))) then bif Leaf.fit false (Leaf.int i64) (getD (drop 2 (getD (enS false a) (toNat i1) [])) 0 D.dead) && true then bif D.num (getD (drop 2 (getD (enS false a) (toNat i1) [])) 0 D.dead) != wrap i64 (wrap i64 (i0 + 1) + 1) then K Ex.ret (X67_4 a i0 i1) else bif decide (0 ≤ i1) && decide (i1 < ofNat (length (enS false a))) then bif Leaf.fit false (Leaf.int i64) (getD (drop 1 (drop 2 (getD (enS false a) (toNat i1) []))) 0 D.dead) && true then bif D.num (getD (drop 1 (drop 2 (getD (enS false a) (toNat i1) []))) 0 D.dead) != wrap i64 (wrap i64 (wrap i64 (i0 + 1) + 1) + 1) then K Ex.ret (X67_5 a i0 i1) else bif decide (0 ≤ i1) && decide (i1 < ofNat (length (enS false a))) then bif Leaf.fit false (Leaf.int i64) (getD (drop 2 (drop 2 (getD (enS false a) (toNat i1) []))) 0 D.dead) && true then bif D.num (getD (drop 2 (drop 2 (getD (enS false a) (toNat i1) []))) 0 D.dead) != wrap i64 (wrap i64 (wrap i64 (wrap i64 (i0 + 1) + 1) + 1) + 1) then K Ex.ret (X67_6 a i0 i1) else bif decide (0 ≤ i1) && decide (i1 < ofNat (length (enS false a))) then bif Leaf.fit false (Leaf.int i64) (getD (drop 3 (drop 2 (getD (enS false a) (toNat i1) []))) 0 D.dead) && true then bif D.num (getD (drop 3 (drop 2 (getD (enS false a) (toNat i1) []))) 0 D.dead) != wrap i64 (wrap i64 (wrap i64 (wrap i64 (wrap i64 (i0 + 1) + 1) + 1) + 1) + 1) then K Ex.ret (X67_7 a i0 i1) else bif decide (0 ≤ i1) && decide (i1 < ofNat (length (enS false a))) then bif Leaf.fit false (Leaf.int i64) (getD (drop 6 (getD (enS false a) (toNat i1) [])) 0 D.dead) && true then bif D.num (getD (drop 6 (getD (enS false a) (toNat i1) [])) 0 D.dead) != wrap i64 (wrap i64 (wrap i64 (wrap i64 (wrap i64 (wrap i64 (i0 + 1) + 1) + 1) + 1) + 1) + 1) then K Ex.ret (X67_8 a i0 i1) else bif decide (0 ≤ i1) && decide (i1 < ofNat (length (enS false a))) then bif Leaf.fit false (Leaf.int i64) (getD (drop 7 (getD (enS false a) (toNat i1) [])) 0 D.dead) && true then bif D.num (getD (drop 7 (getD (enS false a) (toNat i1) [])) 0 D.dead) != wrap i64 (wrap i64 (wrap i64 (wrap i64 (wrap i64 (wrap i64 (wrap i64 (i0 + 1) + 1) + 1) + 1) + 1) + 1) + 1) then K Ex.ret (X67_9 a i0 i1) else bif decide (0 ≤ i1) && decide (i1 < ofNat (length (enS false a))) then bif Leaf.fit false (Leaf.int i64) (getD (drop 8 (getD (enS false a) (toNat i1) [])) 0 D.dead) && true then bif D.num (getD (drop 8 (getD (enS false a) (toNat i1) [])) 0 D.dead) != wrap i64 (wrap i64 (wrap i64 (wrap i64 (wrap i64 (wrap i64 (wrap i64 (wrap i64 (i0 + 1) + 1) + 1) + 1) + 1) + 1) + 1) + 1) then K Ex.ret (X67_10 a i0 i1) else bif decide (0 ≤ i1) && decide (i1 < ofNat (length (enS false a))) then bif Leaf.fit false (Leaf.int i64) (getD (drop 9 (getD (enS false a) (toNat i1) [])) 0 D.dead) && true then bif D.num (getD (drop 9 (getD (enS false a) (toNat i1) [])) 0 D.dead) != wrap i64 (wrap i64 (wrap i64 (wrap i64 (wrap i64 (wrap i64 (wrap i64 (wrap i64 (wrap i64 (i0 + 1) + 1) + 1) + 1) + 1) + 1) + 1) + 1) + 1) then K Ex.ret (X67_11 a i0 i1) else bif decide (0 ≤ i1) && decide (i1 < ofNat (length (enS false a))) then bif Leaf.fit false Leaf.bool (getD (drop 10 (getD (enS false a) (toNat i1) [])) 0 D.dead) && true then bif D.flag (getD (drop 10 (getD (enS false a) (toNat i1) [])) 0 D.dead) != (Int.tmod (wrap i64 (wrap i64 (wrap i64 (wrap i64 (wrap i64 (wrap i64 (wrap i64 (wrap i64 (wrap i64 (wrap i64 (i0 + 1) + 1) + 1) + 1) + 1) + 1) + 1) + 1) + 1) + 1)) (3) == 0) then K Ex.ret (X67_12 a i0 i1) else f (S67_0 a (wrap i64 (wrap i64 (wrap i64 (wrap i64 (wrap i64 (wrap i64 (wrap i64 (wrap i64 (wrap i64 (wrap i64 (wrap i64 (i0 + 1) + 1) + 1) + 1) + 1) + 1) + 1) + 1) + 1) + 1) + 1)) (wrap i64 (i1 + 1))) else none else none else none else none else none else none else none else none else none else none else none else none else none else none else none else none else none else none else none else none else none else none else K (Ex.exit 0) (X67_13 a i0 i1) := by kernel_rfl
theorem aX67_2 (a : List Port) (n : Nat) (i0 : Int) (i1 : Int) : k67_1 n Ex.ret (X67_2 a i0 i1) = some ([[D.int i64 (Int.negSucc 0)]], []) := by kernel_rfl
theorem aX67_3 (a : List Port) (n : Nat) (i0 : Int) (i1 : Int) : k67_1 n Ex.ret (X67_3 a i0 i1) = some ([[D.int i64 (Int.negSucc 0)]], []) := by kernel_rfl
theorem aX67_4 (a : List Port) (n : Nat) (i0 : Int) (i1 : Int) : k67_1 n Ex.ret (X67_4 a i0 i1) = some ([[D.int i64 (Int.negSucc 0)]], []) := by kernel_rfl
theorem aX67_5 (a : List Port) (n : Nat) (i0 : Int) (i1 : Int) : k67_1 n Ex.ret (X67_5 a i0 i1) = some ([[D.int i64 (Int.negSucc 0)]], []) := by kernel_rfl
theorem aX67_6 (a : List Port) (n : Nat) (i0 : Int) (i1 : Int) : k67_1 n Ex.ret (X67_6 a i0 i1) = some ([[D.int i64 (Int.negSucc 0)]], []) := by kernel_rfl
theorem aX67_7 (a : List Port) (n : Nat) (i0 : Int) (i1 : Int) : k67_1 n Ex.ret (X67_7 a i0 i1) = some ([[D.int i64 (Int.negSucc 0)]], []) := by kernel_rfl
theorem aX67_8 (a : List Port) (n : Nat) (i0 : Int) (i1 : Int) : k67_1 n Ex.ret (X67_8 a i0 i1) = some ([[D.int i64 (Int.negSucc 0)]], []) := by kernel_rfl
theorem aX67_9 (a : List Port) (n : Nat) (i0 : Int) (i1 : Int) : k67_1 n Ex.ret (X67_9 a i0 i1) = some ([[D.int i64 (Int.negSucc 0)]], []) := by kernel_rfl
theorem aX67_10 (a : List Port) (n : Nat) (i0 : Int) (i1 : Int) : k67_1 n Ex.ret (X67_10 a i0 i1) = some ([[D.int i64 (Int.negSucc 0)]], []) := by kernel_rfl
theorem aX67_11 (a : List Port) (n : Nat) (i0 : Int) (i1 : Int) : k67_1 n Ex.ret (X67_11 a i0 i1) = some ([[D.int i64 (Int.negSucc 0)]], []) := by kernel_rfl
theorem aX67_12 (a : List Port) (n : Nat) (i0 : Int) (i1 : Int) : k67_1 n Ex.ret (X67_12 a i0 i1) = some ([[D.int i64 (Int.negSucc 0)]], []) := by kernel_rfl
theorem aX67_13 (a : List Port) (n : Nat) (i0 : Int) (i1 : Int) : k67_1 n (Ex.exit 0) (X67_13 a i0 i1) = some ([[D.int i64 i0]], []) := by kernel_rfl
theorem r67 (a : List Port) (k : Int) (n : Nat) : evFn ⟨prog, Hx, 67⟩ T52.call n f67 [[.sl false 11 (enS false a)], [.int .i64 k]] = loopRun (B67_0 n) 0 35 2658455991569831745807614120560689138 n (S67_0 a k (0)) (k67_1 n) := by kernel_rfl
theorem m67 (a : List Port) (k : Int) (hpre : (o67 a k).1 = true) : evFn ⟨Go.Proofs.Try.prog, Hx, 67⟩ T52.call (a.length + 1) f67 [[.sl false 11 (enS false a)], [.int .i64 k]] = some (o67 a k).2 := by
  refine (r67 a k _).trans ?_
  show _ = (some ([[.int .i64 (k + cntS Port.n_ a)]], []) : Option (List Row × List Row))
  replace hpre : (sameB (markS Port.mk_ Port.n_ a k) a && (decide (0 ≤ k) && (decide (k + cntS Port.n_ a ≤ 4611686018427387904) && decide (a.length ≤ 1152921504606846976)))) = true := hpre
  rw [Bool.and_eq_true] at hpre
  obtain ⟨hsame, hpre⟩ := hpre
  have hsame := sameB_eq hsame
  simp only [Bool.and_eq_true, decide_eq_true_eq] at hpre
  obtain ⟨h0, h1, h2⟩ := hpre
  refine loop_list (xs := a) (fun i (k : Int) => S67_0 a k (Int.ofNat i)) (fun i k => 0 ≤ k ∧ k + cntS Port.n_ (a.drop i) ≤ 4611686018427387904 ∧ markS Port.mk_ Port.n_ (a.drop i) k = a.drop i) (fun _ k rest => some ([[D.int .i64 (k + cntS Port.n_ rest)]], [])) ?_ ?_ (a.length + 1) k (by omega) ⟨h0, h1, hsame⟩
  · rintro k ⟨hk0, hk1, _⟩ f
    refine (q67_0 a _ _ _ f _).trans ?_
    simp only [enS_length, dec_lt, Nat.lt_irrefl, decide_false, cond_false]
    refine (aX67_13 a _ _ _).trans ?_
    simp only [cntS, Int.add_zero]
  · rintro i k hi ⟨hk0, hk1, hk2⟩ f hf
    rw [List.drop_eq_getElem_cons hi] at hk1 hk2
    have hc := cntS_nonneg (n := Port.n_) Port.n_pos (a.drop (i + 1))
    have hn : Port.n_ a[i] = 11 := rfl
    simp only [cntS, hn] at hk1
    have he : k + 1 + 1 + 1 + 1 + 1 + 1 + 1 + 1 + 1 + 1 + 1 = k + Port.n_ a[i] := by omega
    simp only [markS, List.cons.injEq] at hk2
    obtain ⟨hk2, hk3⟩ := hk2
    refine (q67_0 a _ _ _ f _).trans ?_
    simp only [enS_length, toNat_of, dec_lt, dec_ge, enS_get _ hi, hi, wrap_succ (show i < 4611686018427387904 by omega), decide_true, cond_true, Bool.and_self]
    have hw1 : IntKind.wrap IntKind.i64 (k + 1) = k + 1 := wrap_le (by omega) (by omega)
    have hw2 : IntKind.wrap IntKind.i64 (k + 1 + 1) = k + 1 + 1 := wrap_le (by omega) (by omega)
    have hw3 : IntKind.wrap IntKind.i64 (k + 1 + 1 + 1) = k + 1 + 1 + 1 := wrap_le (by omega) (by omega)
    have hw4 : IntKind.wrap IntKind.i64 (k + 1 + 1 + 1 + 1) = k + 1 + 1 + 1 + 1 := wrap_le (by omega) (by omega)
    have hw5 : IntKind.wrap IntKind.i64 (k + 1 + 1 + 1 + 1 + 1) = k + 1 + 1 + 1 + 1 + 1 := wrap_le (by omega) (by omega)
    have hw6 : IntKind.wrap IntKind.i64 (k + 1 + 1 + 1 + 1 + 1 + 1) = k + 1 + 1 + 1 + 1 + 1 + 1 := wrap_le (by omega) (by omega)
    have hw7 : IntKind.wrap IntKind.i64 (k + 1 + 1 + 1 + 1 + 1 + 1 + 1) = k + 1 + 1 + 1 + 1 + 1 + 1 + 1 := wrap_le (by omega) (by omega)
    have hw8 : IntKind.wrap IntKind.i64 (k + 1 + 1 + 1 + 1 + 1 + 1 + 1 + 1) = k + 1 + 1 + 1 + 1 + 1 + 1 + 1 + 1 := wrap_le (by omega) (by omega)
    have hw9 : IntKind.wrap IntKind.i64 (k + 1 + 1 + 1 + 1 + 1 + 1 + 1 + 1 + 1) = k + 1 + 1 + 1 + 1 + 1 + 1 + 1 + 1 + 1 := wrap_le (by omega) (by omega)
    have hw10 : IntKind.wrap IntKind.i64 (k + 1 + 1 + 1 + 1 + 1 + 1 + 1 + 1 + 1 + 1) = k + 1 + 1 + 1 + 1 + 1 + 1 + 1 + 1 + 1 + 1 := wrap_le (by omega) (by omega)
    have hw11 : IntKind.wrap IntKind.i64 (k + 1 + 1 + 1 + 1 + 1 + 1 + 1 + 1 + 1 + 1 + 1) = k + 1 + 1 + 1 + 1 + 1 + 1 + 1 + 1 + 1 + 1 + 1 := wrap_le (by omega) (by omega)
    simp only [hw1, hw2, hw3, hw4, hw5, hw6, hw7, hw8, hw9, hw10, hw11]
    rw [← hk2]
    refine Eq.trans (b := f (S67_0 a (k + 1 + 1 + 1 + 1 + 1 + 1 + 1 + 1 + 1 + 1 + 1) (Int.ofNat (i + 1)))) ?_ ((hf (k + 1 + 1 + 1 + 1 + 1 + 1 + 1 + 1 + 1 + 1 + 1) ⟨by omega, by omega, by rw [he]; exact hk3⟩).trans ?_)
    · simp only [En.enc, Port.mk_, Leaf.fit, List.drop_succ_cons, List.drop_zero, List.getD_cons_zero, List.getD_cons_succ, D.num, D.flag, D.text, bne_self_eq_false, Bool.and_self, cond_true, cond_false, decide_true]
    · show _ = some ([[D.int .i64 (k + (Port.n_ a[i] + cntS Port.n_ (a.drop (i + 1))))]], [])
      rw [he, Int.add_assoc]
theorem s67 : SoundAt Go.Proofs.Try.prog Hx 67 c67 := soundAt_of T52_sound mixed func67 (by kernel_rfl) (by
  intro rows r h
  unfold c67 at h
  split at h
  · rename_i a k
    obtain ⟨hp, hr⟩ := Prod.mk.inj (Option.some.inj h)
    subst hr
    simp only [Bool.and_eq_true] at hp
    obtain ⟨hs0, hp⟩ := hp
    obtain ⟨xs0, rfl⟩ := isS_ex hs0
    simp only [deS_enS] at hp ⊢
    exact ⟨_, m67 xs0 k hp⟩
  · cases h)
def T67 : Table := (67, c67) :: T52
theorem T67_sound : Table.Sound Go.Proofs.Try.prog Hx T67 := Table.sound_cons s67 T52_sound
def o50 (a : List Bridge) (k : Int) : Bool × List Row × List Row := (sameB (markS Bridge.mk_ Bridge.n_ a k) a && (decide (0 ≤ k) && (decide (k + cntS Bridge.n_ a ≤ 4611686018427387904) && (decide (a.length ≤ 1152921504606846976) && a.all (fun x => decide (x.Ports.length ≤ 1152921504606846976))))), [[.int .i64 (k + cntS Bridge.n_ a)]], [])
def c50 : Contract
  | [[.sl false 2 a], [.int .i64 k]] => some (isS Bridge false a && (o50 (deS Bridge a) k).1, (o50 (deS Bridge a) k).2.1, (o50 (deS Bridge a) k).2.2)
  | _ => none

def k50_0 (n : Nat) : Ex → St → RR := kThen (fun st ↦ runCode (Ctx.mk prog Hx (50)) (Table.call T67) n (codeAt [1, 1] (bodyOf f50)) (Lv.mk 16 [] 16) st (kLeave (Ctx.P (Ctx.mk prog Hx (50))) (List.zip (Array.toList (Go.Func.resultTypes f50)) (Array.toList (Go.Func.results f50))) [] [])) (kLeave (Ctx.P (Ctx.mk prog Hx (50))) (List.zip (Array.toList (Go.Func.resultTypes f50)) (Array.toList (Go.Func.results f50))) [] [])
def k50_1 (n : Nat) : Ex → St → RR := kBlock (0) (k50_0 n)
def S50_0 (a : List Bridge) (i0 : Int) (i1 : Int) : St := St.mk [V_ [C.d (D.sl false 2 (enS false a))], I_ i0, U_, U_, U_, I_ i1, U_, U_, U_, U_, U_, U_, U_, U_, U_, U_, U_, U_, U_, U_, U_, U_, U_, U_, U_, U_, U_, U_, U_, U_, U_] []
def B50_0 (n : Nat) : St → (Ex → St → RR) → RR := runCode (Ctx.mk prog Hx (50)) (Table.call T67) n (codeAt [1, 0, 1, 0, 0] (bodyOf f50)) (Lv.mk 35 [(0, 2)] 16)
def X50_2 (a : List Bridge) (i0 : Int) (i1 : Int) : St := St.mk [V_ [C.d (D.sl false 2 (enS false a))], I_ i0, U_, U_, I_ (Int.negSucc 0), I_ i1, I_ i1, V_ [C.d (D.sl false 2 (enS false a))], I_ (ofNat (length (enS false a))), B_ true, U_, U_, V_ [C.d (D.sl false 2 (enS false a))], I_ i1, V_ [C.rptr (getD (enS false a) (toNat i1) [])], V_ [C.rptr (getD (enS false a) (toNat i1) [])], I_ (D.num (getD (getD (enS false a) (toNat i1) []) 0 D.dead)), I_ i0, B_ true, U_, U_, U_, U_, U_, U_, U_, U_, U_, U_, U_, U_] []
def X50_3 (a : List Bridge) (i0 : Int) (i1 : Int) : St := St.mk [V_ [C.d (D.sl false 2 (enS false a))], I_ (wrap i64 (i0 + 1) + cntS Port.n_ (deS Port (D.rows (getD (drop 1 (getD (enS false a) (toNat i1) [])) 0 D.dead)))), U_, U_, I_ (Int.negSucc 0), I_ i1, I_ i1, V_ [C.d (D.sl false 2 (enS false a))], I_ (ofNat (length (enS false a))), B_ true, U_, U_, V_ [C.d (D.sl false 2 (enS false a))], I_ i1, V_ [C.rptr (getD (enS false a) (toNat i1) [])], V_ [C.rptr (getD (enS false a) (toNat i1) [])], I_ (D.num (getD (getD (enS false a) (toNat i1) []) 0 D.dead)), I_ i0, B_ false, I_ i0, I_ (wrap i64 (i0 + 1)), V_ [C.d (D.sl false 2 (enS false a))], I_ i1, V_ [C.rptr (getD (enS false a) (toNat i1) [])], V_ [C.rptr (drop 1 (getD (enS false a) (toNat i1) []))], V_ [C.d (D.sl false 11 (D.rows (getD (drop 1 (getD (enS false a) (toNat i1) [])) 0 D.dead)))], I_ (wrap i64 (i0 + 1)), I_ (wrap i64 (i0 + 1) + cntS Port.n_ (deS Port (D.rows (getD (drop 1 (getD (enS false a) (toNat i1) [])) 0 D.dead)))), I_ (wrap i64 (i0 + 1) + cntS Port.n_ (deS Port (D.rows (getD (drop 1 (getD (enS false a) (toNat i1) [])) 0 D.dead)))), B_ true, U_] []
def X50_4 (a : List Bridge) (i0 : Int) (i1 : Int) : St := St.mk [V_ [C.d (D.sl false 2 (enS false a))], I_ i0, U_, U_, U_, I_ i1, I_ i1, V_ [C.d (D.sl false 2 (enS false a))], I_ (ofNat (length (enS false a))), B_ false, U_, U_, U_, U_, U_, U_, U_, U_, U_, U_, U_, U_, U_, U_, U_, U_, U_, U_, U_, U_, U_] []
theorem q50_0 (a : List Bridge) (n : Nat) (i0 : Int) (i1 : Int) (f : St → RR) (K : Ex → St → RR) : B50_0 n (S50_0 a i0 i1) (kThen (fun st ↦ f (St.head 0 35 1073741810 st)) K) = bif decide (i1 < ofNat (length (enS false a))) then bif decide (0 ≤ i1) && decide (i1 < ofNat (length (enS false a))) then bif Leaf.fit false (Leaf.int i64) (getD (getD (enS false a) (toNat i1) []) 0 D.dead) && true then bif D.num (getD (getD (enS false a) (toNat i1) []) 0 D.dead) != i0 then K Ex.ret (X50_2 a i0 i1) else bif decide (0 ≤ i1) && decide (i1 < ofNat (length (enS false a))) then bif Leaf.fit false (Leaf.sl 11 true) (getD (drop 1 (getD (enS false a) (toNat i1) [])) 0 D.dead) && true then bif isS Port false (D.rows (getD (drop 1 (getD (enS false a) (toNat i1) [])) 0 D.dead)) && (sameB (markS Port.mk_ Port.n_ (deS Port (D.rows (getD (drop 1 (getD (enS false a) (toNat i1) [])) 0 D.dead))) (wrap i64 (i0 + 1))) (deS Port (D.rows (getD (drop 1 (getD (enS false a) (toNat i1) [])) 0 D.dead))) && (decide (0 ≤ wrap i64 (i0 + 1)) && (decide (wrap i64 (i0 + 1) + cntS Port.n_ (deS Port (D.rows (getD (drop 1 (getD (enS false a) (toNat i1) [])) 0 D.dead))) ≤ 4611686018427387904) && decide (length (deS Port (D.rows (getD (drop 1 (getD (enS false a) (toNat i1) [])) 0 D.dead))) ≤ 1152921504606846976)))) then bif decide (wrap i64 (i0 + 1) + cntS Port.n_ (deS Port (D.rows (getD (drop 1 (getD (enS false a) (toNat i1) [])) 0 D.dead))) < 0) then K Ex.ret (X50_3 a i0 i1) else f (S50_0 a (wrap i64 (i0 + 1) + cntS Port.n_ (deS Port (D.rows (getD (drop 1 (getD (enS false a) (toNat i1) [])) 0 D.dead)))) (wrap i64 (i1 + 1))) else none else none else none else none else none else K (Ex.exit 0) (X50_4 a i0 i1) := by kernel_rfl
theorem aX50_2 (a : List Bridge) (n : Nat) (i0 : Int) (i1 : Int) : k50_1 n Ex.ret (X50_2 a i0 i1) = some ([[D.int i64 (Int.negSucc 0)]], []) := by kernel_rfl
theorem aX50_3 (a : List Bridge) (n : Nat) (i0 : Int) (i1 : Int) : k50_1 n Ex.ret (X50_3 a i0 i1) = some ([[D.int i64 (Int.negSucc 0)]], []) := by kernel_rfl
theorem aX50_4 (a : List Bridge) (n : Nat) (i0 : Int) (i1 : Int) : k50_1 n (Ex.exit 0) (X50_4 a i0 i1) = some ([[D.int i64 i0]], []) := by kernel_rfl
theorem r50 (a : List Bridge) (k : Int) (n : Nat) : evFn ⟨prog, Hx, 50⟩ T67.call n f50 [[.sl false 2 (enS false a)], [.int .i64 k]] = loopRun (B50_0 n) 0 35 1073741810 n (S50_0 a k (0)) (k50_1 n) := by kernel_rfl
theorem m50 (a : List Bridge) (k : Int) (hpre : (o50 a k).1 = true) : evFn ⟨Go.Proofs.Try.prog, Hx, 50⟩ T67.call (a.length + 1) f50 [[.sl false 2 (enS false a)], [.int .i64 k]] = some (o50 a k).2 := by
  refine (r50 a k _).trans ?_
  show _ = (some ([[.int .i64 (k + cntS Bridge.n_ a)]], []) : Option (List Row × List Row))
  replace hpre : (sameB (markS Bridge.mk_ Bridge.n_ a k) a && (decide (0 ≤ k) && (decide (k + cntS Bridge.n_ a ≤ 4611686018427387904) && (decide (a.length ≤ 1152921504606846976) && a.all (fun x => decide (x.Ports.length ≤ 1152921504606846976)))))) = true := hpre
  rw [Bool.and_eq_true] at hpre
  obtain ⟨hsame, hpre⟩ := hpre
  have hsame := sameB_eq hsame
  simp only [Bool.and_eq_true] at hpre
  obtain ⟨h0, h1, h2, h3⟩ := hpre
  have h0 := of_decide_eq_true h0
  have h1 := of_decide_eq_true h1
  have h2 := of_decide_eq_true h2
  refine loop_list (xs := a) (fun i (k : Int) => S50_0 a k (Int.ofNat i)) (fun i k => 0 ≤ k ∧ k + cntS Bridge.n_ (a.drop i) ≤ 4611686018427387904 ∧ markS Bridge.mk_ Bridge.n_ (a.drop i) k = a.drop i) (fun _ k rest => some ([[D.int .i64 (k + cntS Bridge.n_ rest)]], [])) ?_ ?_ (a.length + 1) k (by omega) ⟨h0, h1, hsame⟩
  · rintro k ⟨hk0, hk1, _⟩ f
    refine (q50_0 a _ _ _ f _).trans ?_
    simp only [enS_length, dec_lt, Nat.lt_irrefl, decide_false, cond_false]
    refine (aX50_4 a _ _ _).trans ?_
    simp only [cntS, Int.add_zero]
  · rintro i k hi ⟨hk0, hk1, hk2⟩ f hf
    rw [List.drop_eq_getElem_cons hi] at hk1 hk2
    have hel := List.all_eq_true.1 h3 _ (List.getElem_mem hi)
    have hc := cntS_nonneg (n := Bridge.n_) Bridge.n_pos (a.drop (i + 1))
    try simp only [Bool.and_eq_true] at hel
    simp only [cntS, Bridge.n_] at hk1
    have p1 : 0 ≤ cntS Port.n_ a[i].Ports := cntS_nonneg Port.n_pos a[i].Ports
    have w0 : IntKind.wrap IntKind.i64 (k + 1) = k + 1 := wrap_le (by omega) (by omega)
    have g1 : decide (0 ≤ k + 1) = true := decide_eq_true (by omega)
    have f1 : decide (k + 1 + cntS Port.n_ a[i].Ports ≤ 4611686018427387904) = true := decide_eq_true (by omega)
    have d1 : decide (k + 1 + cntS Port.n_ a[i].Ports < 0) = false := decide_eq_false (by omega)
    have he : k + 1 + cntS Port.n_ a[i].Ports = k + Bridge.n_ a[i] := by simp only [Bridge.n_]; omega
    simp only [markS, List.cons.injEq] at hk2
    obtain ⟨hk2, hk3⟩ := hk2
    have e0 : a[i].Id = (k) := (congrArg (fun y : Bridge => y.Id) hk2).symm
    have e1 : sameB (markS Port.mk_ Port.n_ a[i].Ports (k + 1)) a[i].Ports = true := by rw [show markS Port.mk_ Port.n_ a[i].Ports (k + 1) = a[i].Ports from congrArg (fun y : Bridge => y.Ports) hk2]; exact sameB_self _
    refine (q50_0 a _ _ _ f _).trans ?_
    simp only [enS_length, toNat_of, dec_lt, dec_ge, enS_get _ hi, hi, wrap_succ (show i < 4611686018427387904 by omega), decide_true, cond_true, Bool.and_self, Bool.and_true, Bool.true_and, En.enc, List.append_eq, List.take_succ_cons, List.take_zero, List.drop_succ_cons, List.drop_zero, List.cons_append, List.nil_append, List.getD_cons_zero, List.getD_cons_succ, D.num, D.flag, D.text, D.rows, Leaf.fit, beq_self_eq_true, isS_enS, deS_enS, hel, w0, g1, f1, d1]
    simp only [e0, e1, bne_self_eq_false, cond_true, cond_false, hel, w0, g1, f1, d1, Bool.and_self, Bool.and_true, Bool.true_and, enS_length]
    refine (hf (k + 1 + cntS Port.n_ a[i].Ports) ⟨by omega, by omega, by rw [he]; exact hk3⟩).trans ?_
    show _ = some ([[D.int .i64 (k + (Bridge.n_ a[i] + cntS Bridge.n_ (a.drop (i + 1))))]], [])
    rw [he, Int.add_assoc]
theorem s50 : SoundAt Go.Proofs.Try.prog Hx 50 c50 := soundAt_of T67_sound mixed func50 (by kernel_rfl) (by
  intro rows r h
  unfold c50 at h
  split at h
  · rename_i a k
    obtain ⟨hp, hr⟩ := Prod.mk.inj (Option.some.inj h)
    subst hr
    simp only [Bool.and_eq_true] at hp
    obtain ⟨hs0, hp⟩ := hp
    obtain ⟨xs0, rfl⟩ := isS_ex hs0
    simp only [deS_enS] at hp ⊢
    exact ⟨_, m50 xs0 k hp⟩
  · cases h)
def T50 : Table := (50, c50) :: T67
theorem T50_sound : Table.Sound Go.Proofs.Try.prog Hx T50 := Table.sound_cons s50 T67_sound
def o68 (a : List Int) (k : Int) : Bool × List Row × List Row := (sameB (markS intMk oneN a k) a && (decide (0 ≤ k) && (decide (k + cntS oneN a ≤ 4611686018427387904) && decide (a.length ≤ 1152921504606846976))), [[.int .i64 (k + cntS oneN a)]], [])
def c68 : Contract
  | [[.sl false 1 a], [.int .i64 k]] => some (isS Int false a && (o68 (deS Int a) k).1, (o68 (deS Int a) k).2.1, (o68 (deS Int a) k).2.2)
  | _ => none

def k68_0 (n : Nat) : Ex → St → RR := kThen (fun st ↦ runCode (Ctx.mk prog Hx (68)) (Table.call T50) n (codeAt [1, 1] (bodyOf f68)) (Lv.mk 16 [] 16) st (kLeave (Ctx.P (Ctx.mk prog Hx (68))) (List.zip (Array.toList (Go.Func.resultTypes f68)) (Array.toList (Go.Func.results f68))) [] [])) (kLeave (Ctx.P (Ctx.mk prog Hx (68))) (List.zip (Array.toList (Go.Func.resultTypes f68)) (Array.toList (Go.Func.results f68))) [] [])
def k68_1 (n : Nat) : Ex → St → RR := kBlock (0) (k68_0 n)
def S68_0 (a : List Int) (i0 : Int) (i1 : Int) : St := St.mk [V_ [C.d (D.sl false 1 (enS false a))], I_ i0, U_, U_, U_, I_ i1, U_, U_, U_, U_, U_, U_, U_, U_, U_, U_, U_, U_, U_, U_, U_] []
def B68_0 (n : Nat) : St → (Ex → St → RR) → RR := runCode (Ctx.mk prog Hx (68)) (Table.call T50) n (codeAt [1, 0, 1, 0, 0] (bodyOf f68)) (Lv.mk 35 [(0, 2)] 16)
def X68_2 (a : List Int) (i0 : Int) (i1 : Int) : St := St.mk [V_ [C.d (D.sl false 1 (enS false a))], I_ i0, U_, U_, I_ (Int.negSucc 0), I_ i1, I_ i1, V_ [C.d (D.sl false 1 (enS false a))], I_ (ofNat (length (enS false a))), B_ true, U_, U_, V_ [C.d (D.sl false 1 (enS false a))], I_ i1, V_ [C.rptr (getD (enS false a) (toNat i1) [])], I_ (D.num (getD (getD (enS false a) (toNat i1) []) 0 D.dead)), I_ i0, B_ true, U_, U_, U_] []
def X68_3 (a : List Int) (i0 : Int) (i1 : Int) : St := St.mk [V_ [C.d (D.sl false 1 (enS false a))], I_ i0, U_, U_, U_, I_ i1, I_ i1, V_ [C.d (D.sl false 1 (enS false a))], I_ (ofNat (length (enS false a))), B_ false, U_, U_, U_, U_, U_, U_, U_, U_, U_, U_, U_] []
theorem q68_0 (a : List Int) (n : Nat) (i0 : Int) (i1 : Int) (f : St → RR) (K : Ex → St → RR) : B68_0 n (S68_0 a i0 i1) (kThen (fun st ↦ f (St.head 0 35 1048562 st)) K) = bif decide (i1 < ofNat (length (enS false a))) then bif decide (0 ≤ i1) && decide (i1 < ofNat (length (enS false a))) then bif Leaf.fit false (Leaf.int i64) (getD (getD (enS false a) (toNat i1) []) 0 D.dead) && true then bif D.num (getD (getD (enS false a) (toNat i1) []) 0 D.dead) != i0 then K Ex.ret (X68_2 a i0 i1) else f (S68_0 a (wrap i64 (i0 + 1)) (wrap i64 (i1 + 1))) else none else none else K (Ex.exit 0) (X68_3 a i0 i1) := by kernel_rfl
theorem aX68_2 (a : List Int) (n : Nat) (i0 : Int) (i1 : Int) : k68_1 n Ex.ret (X68_2 a i0 i1) = some ([[D.int i64 (Int.negSucc 0)]], []) := by kernel_rfl
theorem aX68_3 (a : List Int) (n : Nat) (i0 : Int) (i1 : Int) : k68_1 n (Ex.exit 0) (X68_3 a i0 i1) = some ([[D.int i64 i0]], []) := by kernel_rfl
theorem r68 (a : List Int) (k : Int) (n : Nat) : evFn ⟨prog, Hx, 68⟩ T50.call n f68 [[.sl false 1 (enS false a)], [.int .i64 k]] = loopRun (B68_0 n) 0 35 1048562 n (S68_0 a k (0)) (k68_1 n) := by kernel_rfl
theorem m68 (a : List Int) (k : Int) (hpre : (o68 a k).1 = true) : evFn ⟨Go.Proofs.Try.prog, Hx, 68⟩ T50.call (a.length + 1) f68 [[.sl false 1 (enS false a)], [.int .i64 k]] = some (o68 a k).2 := by
  refine (r68 a k _).trans ?_
  show _ = (some ([[.int .i64 (k + cntS oneN a)]], []) : Option (List Row × List Row))
  replace hpre : (sameB (markS intMk oneN a k) a && (decide (0 ≤ k) && (decide (k + cntS oneN a ≤ 4611686018427387904) && decide (a.length ≤ 1152921504606846976)))) = true := hpre
  rw [Bool.and_eq_true] at hpre
  obtain ⟨hsame, hpre⟩ := hpre
  have hsame := sameB_eq hsame
  simp only [Bool.and_eq_true, decide_eq_true_eq] at hpre
  obtain ⟨h0, h1, h2⟩ := hpre
  refine loop_list (xs := a) (fun i (k : Int) => S68_0 a k (Int.ofNat i)) (fun i k => 0 ≤ k ∧ k + cntS oneN (a.drop i) ≤ 4611686018427387904 ∧ markS intMk oneN (a.drop i) k = a.drop i) (fun _ k rest => some ([[D.int .i64 (k + cntS oneN rest)]], [])) ?_ ?_ (a.length + 1) k (by omega) ⟨h0, h1, hsame⟩
  · rintro k ⟨hk0, hk1, _⟩ f
    refine (q68_0 a _ _ _ f _).trans ?_
    simp only [enS_length, dec_lt, Nat.lt_irrefl, decide_false, cond_false]
    refine (aX68_3 a _ _ _).trans ?_
    simp only [cntS, Int.add_zero]
  · rintro i k hi ⟨hk0, hk1, hk2⟩ f hf
    rw [List.drop_eq_getElem_cons hi] at hk1 hk2
    have hc := cntS_nonneg (n := oneN) oneN_pos (a.drop (i + 1))
    have hn : oneN a[i] = 1 := rfl
    simp only [cntS, hn] at hk1
    have he : k + 1 = k + oneN a[i] := by omega
    simp only [markS, List.cons.injEq] at hk2
    obtain ⟨hk2, hk3⟩ := hk2
    refine (q68_0 a _ _ _ f _).trans ?_
    simp only [enS_length, toNat_of, dec_lt, dec_ge, enS_get _ hi, hi, wrap_succ (show i < 4611686018427387904 by omega), decide_true, cond_true, Bool.and_self]
    have hw1 : IntKind.wrap IntKind.i64 (k + 1) = k + 1 := wrap_le (by omega) (by omega)
    simp only [hw1]
    rw [← hk2]
    refine Eq.trans (b := f (S68_0 a (k + 1) (Int.ofNat (i + 1)))) ?_ ((hf (k + 1) ⟨by omega, by omega, by rw [he]; exact hk3⟩).trans ?_)
    · simp only [En.enc, intMk, Leaf.fit, List.drop_succ_cons, List.drop_zero, List.getD_cons_zero, List.getD_cons_succ, D.num, D.flag, D.text, bne_self_eq_false, Bool.and_self, cond_true, cond_false, decide_true]
    · show _ = some ([[D.int .i64 (k + (oneN a[i] + cntS oneN (a.drop (i + 1))))]], [])
      rw [he, Int.add_assoc]
theorem s68 : SoundAt Go.Proofs.Try.prog Hx 68 c68 := soundAt_of T50_sound mixed func68 (by kernel_rfl) (by
  intro rows r h
  unfold c68 at h
  split at h
  · rename_i a k
    obtain ⟨hp, hr⟩ := Prod.mk.inj (Option.some.inj h)
    subst hr
    simp only [Bool.and_eq_true] at hp
    obtain ⟨hs0, hp⟩ := hp
    obtain ⟨xs0, rfl⟩ := isS_ex hs0
    simp only [deS_enS] at hp ⊢
    exact ⟨_, m68 xs0 k hp⟩
  · cases h)
def T68 : Table := (68, c68) :: T50
theorem T68_sound : Table.Sound Go.Proofs.Try.prog Hx T68 := Table.sound_cons s68 T50_sound
def o53 (a : List Member) (k : Int) : Bool × List Row × List Row := (sameB (markS Member.mk_ Member.n_ a k) a && (decide (0 ≤ k) && (decide (k + cntS Member.n_ a ≤ 4611686018427387904) && (decide (a.length ≤ 1152921504606846976) && a.all (fun x => decide (x.In.length ≤ 1152921504606846976))))), [[.int .i64 (k + cntS Member.n_ a)]], [])
def c53 : Contract
  | [[.sl false 2 a], [.int .i64 k]] => some (isS Member false a && (o53 (deS Member a) k).1, (o53 (deS Member a) k).2.1, (o53 (deS Member a) k).2.2)
  | _ => none

def k53_0 (n : Nat) : Ex → St → RR := kThen (fun st ↦ runCode (Ctx.mk prog Hx (53)) (Table.call T68) n (codeAt [1, 1] (bodyOf f53)) (Lv.mk 16 [] 16) st (kLeave (Ctx.P (Ctx.mk prog Hx (53))) (List.zip (Array.toList (Go.Func.resultTypes f53)) (Array.toList (Go.Func.results f53))) [] [])) (kLeave (Ctx.P (Ctx.mk prog Hx (53))) (List.zip (Array.toList (Go.Func.resultTypes f53)) (Array.toList (Go.Func.results f53))) [] [])
def k53_1 (n : Nat) : Ex → St → RR := kBlock (0) (k53_0 n)
def S53_0 (a : List Member) (i0 : Int) (i1 : Int) : St := St.mk [V_ [C.d (D.sl false 2 (enS false a))], I_ i0, U_, U_, U_, I_ i1, U_, U_, U_, U_, U_, U_, U_, U_, U_, U_, U_, U_, U_, U_, U_, U_, U_, U_, U_, U_, U_, U_, U_, U_, U_] []
def B53_0 (n : Nat) : St → (Ex → St → RR) → RR := runCode (Ctx.mk prog Hx (53)) (Table.call T68) n (codeAt [1, 0, 1, 0, 0] (bodyOf f53)) (Lv.mk 35 [(0, 2)] 16)
def X53_2 (a : List Member) (i0 : Int) (i1 : Int) : St := St.mk [V_ [C.d (D.sl false 2 (enS false a))], I_ i0, U_, U_, I_ (Int.negSucc 0), I_ i1, I_ i1, V_ [C.d (D.sl false 2 (enS false a))], I_ (ofNat (length (enS false a))), B_ true, U_, U_, V_ [C.d (D.sl false 2 (enS false a))], I_ i1, V_ [C.rptr (getD (enS false a) (toNat i1) [])], V_ [C.rptr (getD (enS false a) (toNat i1) [])], I_ (D.num (getD (getD (enS false a) (toNat i1) []) 0 D.dead)), I_ i0, B_ true, U_, U_, U_, U_, U_, U_, U_, U_, U_, U_, U_, U_] []
def X53_3 (a : List Member) (i0 : Int) (i1 : Int) : St := St.mk [V_ [C.d (D.sl false 2 (enS false a))], I_ (wrap i64 (i0 + 1) + cntS oneN (deS Int (D.rows (getD (drop 1 (getD (enS false a) (toNat i1) [])) 0 D.dead)))), U_, U_, I_ (Int.negSucc 0), I_ i1, I_ i1, V_ [C.d (D.sl false 2 (enS false a))], I_ (ofNat (length (enS false a))), B_ true, U_, U_, V_ [C.d (D.sl false 2 (enS false a))], I_ i1, V_ [C.rptr (getD (enS false a) (toNat i1) [])], V_ [C.rptr (getD (enS false a) (toNat i1) [])], I_ (D.num (getD (getD (enS false a) (toNat i1) []) 0 D.dead)), I_ i0, B_ false, I_ i0, I_ (wrap i64 (i0 + 1)), V_ [C.d (D.sl false 2 (enS false a))], I_ i1, V_ [C.rptr (getD (enS false a) (toNat i1) [])], V_ [C.rptr (drop 1 (getD (enS false a) (toNat i1) []))], V_ [C.d (D.sl false 1 (D.rows (getD (drop 1 (getD (enS false a) (toNat i1) [])) 0 D.dead)))], I_ (wrap i64 (i0 + 1)), I_ (wrap i64 (i0 + 1) + cntS oneN (deS Int (D.rows (getD (drop 1 (getD (enS false a) (toNat i1) [])) 0 D.dead)))), I_ (wrap i64 (i0 + 1) + cntS oneN (deS Int (D.rows (getD (drop 1 (getD (enS false a) (toNat i1) [])) 0 D.dead)))), B_ true, U_] []
def X53_4 (a : List Member) (i0 : Int) (i1 : Int) : St := St.mk [V_ [C.d (D.sl false 2 (enS false a))], I_ i0, U_, U_, U_, I_ i1, I_ i1, V_ [C.d (D.sl false 2 (enS false a))], I_ (ofNat (length (enS false a))), B_ false, U_, U_, U_, U_, U_, U_, U_, U_, U_, U_, U_, U_, U_, U_, U_, U_, U_, U_, U_, U_, U_] []
theorem q53_0 (a : List Member) (n : Nat) (i0 : Int) (i1 : Int) (f : St → RR) (K : Ex → St → RR) : B53_0 n (S53_0 a i0 i1) (kThen (fun st ↦ f (St.head 0 35 1073741810 st)) K) = bif decide (i1 < ofNat (length (enS false a))) then bif decide (0 ≤ i1) && decide (i1 < ofNat (length (enS false a))) then bif Leaf.fit false (Leaf.int i64) (getD (getD (enS false a) (toNat i1) []) 0 D.dead) && true then bif D.num (getD (getD (enS false a) (toNat i1) []) 0 D.dead) != i0 then K Ex.ret (X53_2 a i0 i1) else bif decide (0 ≤ i1) && decide (i1 < ofNat (length (enS false a))) then bif Leaf.fit false (Leaf.sl 1 true) (getD (drop 1 (getD (enS false a) (toNat i1) [])) 0 D.dead) && true then bif isS Int false (D.rows (getD (drop 1 (getD (enS false a) (toNat i1) [])) 0 D.dead)) && (sameB (markS intMk oneN (deS Int (D.rows (getD (drop 1 (getD (enS false a) (toNat i1) [])) 0 D.dead))) (wrap i64 (i0 + 1))) (deS Int (D.rows (getD (drop 1 (getD (enS false a) (toNat i1) [])) 0 D.dead))) && (decide (0 ≤ wrap i64 (i0 + 1)) && (decide (wrap i64 (i0 + 1) + cntS oneN (deS Int (D.rows (getD (drop 1 (getD (enS false a) (toNat i1) [])) 0 D.dead))) ≤ 4611686018427387904) && decide (length (deS Int (D.rows (getD (drop 1 (getD (enS false a) (toNat i1) [])) 0 D.dead))) ≤ 1152921504606846976)))) then bif decide (wrap i64 (i0 + 1) + cntS oneN (deS Int (D.rows (getD (drop 1 (getD (enS false a) (toNat i1) [])) 0 D.dead))) < 0) then K Ex.ret (X53_3 a i0 i1) else f (S53_0 a (wrap i64 (i0 + 1) + cntS oneN (deS Int (D.rows (getD (drop 1 (getD (enS false a) (toNat i1) [])) 0 D.dead)))) (wrap i64 (i1 + 1))) else none else none else none else none else none else K (Ex.exit 0) (X53_4 a i0 i1) := by kernel_rfl
theorem aX53_2 (a : List Member) (n : Nat) (i0 : Int) (i1 : Int) : k53_1 n Ex.ret (X53_2 a i0 i1) = some ([[D.int i64 (Int.negSucc 0)]], []) := by kernel_rfl
theorem aX53_3 (a : List Member) (n : Nat) (i0 : Int) (i1 : Int) : k53_1 n Ex.ret (X53_3 a i0 i1) = some ([[D.int i64 (Int.negSucc 0)]], []) := by kernel_rfl
theorem aX53_4 (a : List Member) (n : Nat) (i0 : Int) (i1 : Int) : k53_1 n (Ex.exit 0) (X53_4 a i0 i1) = some ([[D.int i64 i0]], []) := by kernel_rfl
theorem r53 (a : List Member) (k : Int) (n : Nat) : evFn ⟨prog, Hx, 53⟩ T68.call n f53 [[.sl false 2 (enS false a)], [.int .i64 k]] = loopRun (B53_0 n) 0 35 1073741810 n (S53_0 a k (0)) (k53_1 n) := by kernel_rfl
theorem m53 (a : List Member) (k : Int) (hpre : (o53 a k).1 = true) : evFn ⟨Go.Proofs.Try.prog, Hx, 53⟩ T68.call (a.length + 1) f53 [[.sl false 2 (enS false a)], [.int .i64 k]] = some (o53 a k).2 := by
  refine (r53 a k _).trans ?_
  show _ = (some ([[.int .i64 (k + cntS Member.n_ a)]], []) : Option (List Row × List Row))
  replace hpre : (sameB (markS Member.mk_ Member.n_ a k) a && (decide (0 ≤ k) && (decide (k + cntS Member.n_ a ≤ 4611686018427387904) && (decide (a.length ≤ 1152921504606846976) && a.all (fun x => decide (x.In.length ≤ 1152921504606846976)))))) = true := hpre
  rw [Bool.and_eq_true] at hpre
  obtain ⟨hsame, hpre⟩ := hpre
  have hsame := sameB_eq hsame
  simp only [Bool.and_eq_true] at hpre
  obtain ⟨h0, h1, h2, h3⟩ := hpre
  have h0 := of_decide_eq_true h0
  have h1 := of_decide_eq_true h1
  have h2 := of_decide_eq_true h2
  refine loop_list (xs := a) (fun i (k : Int) => S53_0 a k (Int.ofNat i)) (fun i k => 0 ≤ k ∧ k + cntS Member.n_ (a.drop i) ≤ 4611686018427387904 ∧ markS Member.mk_ Member.n_ (a.drop i) k = a.drop i) (fun _ k rest => some ([[D.int .i64 (k + cntS Member.n_ rest)]], [])) ?_ ?_ (a.length + 1) k (by omega) ⟨h0, h1, hsame⟩
  · rintro k ⟨hk0, hk1, _⟩ f
    refine (q53_0 a _ _ _ f _).trans ?_
    simp only [enS_length, dec_lt, Nat.lt_irrefl, decide_false, cond_false]
    refine (aX53_4 a _ _ _).trans ?_
    simp only [cntS, Int.add_zero]
  · rintro i k hi ⟨hk0, hk1, hk2⟩ f hf
    rw [List.drop_eq_getElem_cons hi] at hk1 hk2
    have hel := List.all_eq_true.1 h3 _ (List.getElem_mem hi)
    have hc := cntS_nonneg (n := Member.n_) Member.n_pos (a.drop (i + 1))
    try simp only [Bool.and_eq_true] at hel
    simp only [cntS, Member.n_] at hk1
    have p1 : 0 ≤ cntS oneN a[i].In := cntS_nonneg oneN_pos a[i].In
    have w0 : IntKind.wrap IntKind.i64 (k + 1) = k + 1 := wrap_le (by omega) (by omega)
    have g1 : decide (0 ≤ k + 1) = true := decide_eq_true (by omega)
    have f1 : decide (k + 1 + cntS oneN a[i].In ≤ 4611686018427387904) = true := decide_eq_true (by omega)
    have d1 : decide (k + 1 + cntS oneN a[i].In < 0) = false := decide_eq_false (by omega)
    have he : k + 1 + cntS oneN a[i].In = k + Member.n_ a[i] := by simp only [Member.n_]; omega
    simp only [markS, List.cons.injEq] at hk2
    obtain ⟨hk2, hk3⟩ := hk2
    have e0 : a[i].Own = (k) := (congrArg (fun y : Member => y.Own) hk2).symm
    have e1 : sameB (markS intMk oneN a[i].In (k + 1)) a[i].In = true := by rw [show markS intMk oneN a[i].In (k + 1) = a[i].In from congrArg (fun y : Member => y.In) hk2]; exact sameB_self _
    refine (q53_0 a _ _ _ f _).trans ?_
    simp only [enS_length, toNat_of, dec_lt, dec_ge, enS_get _ hi, hi, wrap_succ (show i < 4611686018427387904 by omega), decide_true, cond_true, Bool.and_self, Bool.and_true, Bool.true_and, En.enc, List.append_eq, List.take_succ_cons, List.take_zero, List.drop_succ_cons, List.drop_zero, List.cons_append, List.nil_append, List.getD_cons_zero, List.getD_cons_succ, D.num, D.flag, D.text, D.rows, Leaf.fit, beq_self_eq_true, isS_enS, deS_enS, hel, w0, g1, f1, d1]
    simp only [e0, e1, bne_self_eq_false, cond_true, cond_false, hel, w0, g1, f1, d1, Bool.and_self, Bool.and_true, Bool.true_and, enS_length]
    refine (hf (k + 1 + cntS oneN a[i].In) ⟨by omega, by omega, by rw [he]; exact hk3⟩).trans ?_
    show _ = some ([[D.int .i64 (k + (Member.n_ a[i] + cntS Member.n_ (a.drop (i + 1))))]], [])
    rw [he, Int.add_assoc]
theorem s53 : SoundAt Go.Proofs.Try.prog Hx 53 c53 := soundAt_of T68_sound mixed func53 (by kernel_rfl) (by
  intro rows r h
  unfold c53 at h
  split at h
  · rename_i a k
    obtain ⟨hp, hr⟩ := Prod.mk.inj (Option.some.inj h)
    subst hr
    simp only [Bool.and_eq_true] at hp
    obtain ⟨hs0, hp⟩ := hp
    obtain ⟨xs0, rfl⟩ := isS_ex hs0
    simp only [deS_enS] at hp ⊢
    exact ⟨_, m53 xs0 k hp⟩
  · cases h)
def T53 : Table := (53, c53) :: T68
theorem T53_sound : Table.Sound Go.Proofs.Try.prog Hx T53 := Table.sound_cons s53 T68_sound
def o54 (a : List Heard) (k : Int) : Bool × List Row × List Row := (sameB (markS Heard.mk_ Heard.n_ a k) a && (decide (0 ≤ k) && (decide (k + cntS Heard.n_ a ≤ 4611686018427387904) && decide (a.length ≤ 1152921504606846976))), [[.int .i64 (k + cntS Heard.n_ a)]], [])
def c54 : Contract
  | [[.sl false 4 a], [.int .i64 k]] => some (isS Heard false a && (o54 (deS Heard a) k).1, (o54 (deS Heard a) k).2.1, (o54 (deS Heard a) k).2.2)
  | _ => none

def k54_0 (n : Nat) : Ex → St → RR := kThen (fun st ↦ runCode (Ctx.mk prog Hx (54)) (Table.call T53) n (codeAt [1, 1] (bodyOf f54)) (Lv.mk 16 [] 16) st (kLeave (Ctx.P (Ctx.mk prog Hx (54))) (List.zip (Array.toList (Go.Func.resultTypes f54)) (Array.toList (Go.Func.results f54))) [] [])) (kLeave (Ctx.P (Ctx.mk prog Hx (54))) (List.zip (Array.toList (Go.Func.resultTypes f54)) (Array.toList (Go.Func.results f54))) [] [])
def k54_1 (n : Nat) : Ex → St → RR := kBlock (0) (k54_0 n)
def S54_0 (a : List Heard) (i0 : Int) (i1 : Int) : St := St.mk [V_ [C.d (D.sl false 4 (enS false a))], I_ i0, U_, U_, U_, I_ i1, U_, U_, U_, U_, U_, U_, U_, U_, U_, U_, U_, U_, U_, U_, U_, U_, U_, U_, U_, U_, U_, U_, U_, U_, U_, U_, U_, U_, U_, U_, U_, U_, U_, U_, U_, U_, U_, U_, U_, U_, U_, U_, U_] []
def B54_0 (n : Nat) : St → (Ex → St → RR) → RR := runCode (Ctx.mk prog Hx (54)) (Table.call T53) n (codeAt [1, 0, 1, 0, 0] (bodyOf f54)) (Lv.mk 35 [(0, 2)] 16)
def X54_2 (a : List Heard) (i0 : Int) (i1 : Int) : St := St.mk [V_ [C.d (D.sl false 4 (enS false a))], I_ i0, U_, U_, I_ (Int.negSucc 0), I_ i1, I_ i1, V_ [C.d (D.sl false 4 (enS false a))], I_ (ofNat (length (enS false a))), B_ true, U_, U_, V_ [C.d (D.sl false 4 (enS false a))], I_ i1, V_ [C.rptr (getD (enS false a) (toNat i1) [])], V_ [C.rptr (getD (enS false a) (toNat i1) [])], I_ (D.num (getD (getD (enS false a) (toNat i1) []) 0 D.dead)), I_ i0, B_ true, U_, U_, U_, U_, U_, U_, U_, U_, U_, U_, U_, U_, U_, U_, U_, U_, U_, U_, U_, U_, U_, U_, U_, U_, U_, U_, U_, U_, U_, U_] []
def X54_3 (a : List Heard) (i0 : Int) (i1 : Int) : St := St.mk [V_ [C.d (D.sl false 4 (enS false a))], I_ (wrap i64 (i0 + 1)), U_, U_, I_ (Int.negSucc 0), I_ i1, I_ i1, V_ [C.d (D.sl false 4 (enS false a))], I_ (ofNat (length (enS false a))), B_ true, U_, U_, V_ [C.d (D.sl false 4 (enS false a))], I_ i1, V_ [C.rptr (getD (enS false a) (toNat i1) [])], V_ [C.rptr (getD (enS false a) (toNat i1) [])], I_ (D.num (getD (getD (enS false a) (toNat i1) []) 0 D.dead)), I_ i0, B_ false, I_ i0, I_ (wrap i64 (i0 + 1)), V_ [C.d (D.sl false 4 (enS false a))], I_ i1, V_ [C.rptr (getD (enS false a) (toNat i1) [])], V_ [C.rptr (drop 1 (getD (enS false a) (toNat i1) []))], I_ (D.num (getD (drop 1 (getD (enS false a) (toNat i1) [])) 0 D.dead)), I_ (wrap i64 (i0 + 1)), B_ true, U_, U_, U_, U_, U_, U_, U_, U_, U_, U_, U_, U_, U_, U_, U_, U_, U_, U_, U_, U_, U_] []
def X54_4 (a : List Heard) (i0 : Int) (i1 : Int) : St := St.mk [V_ [C.d (D.sl false 4 (enS false a))], I_ (wrap i64 (wrap i64 (i0 + 1) + 1)), U_, U_, I_ (Int.negSucc 0), I_ i1, I_ i1, V_ [C.d (D.sl false 4 (enS false a))], I_ (ofNat (length (enS false a))), B_ true, U_, U_, V_ [C.d (D.sl false 4 (enS false a))], I_ i1, V_ [C.rptr (getD (enS false a) (toNat i1) [])], V_ [C.rptr (getD (enS false a) (toNat i1) [])], I_ (D.num (getD (getD (enS false a) (toNat i1) []) 0 D.dead)), I_ i0, B_ false, I_ i0, I_ (wrap i64 (i0 + 1)), V_ [C.d (D.sl false 4 (enS false a))], I_ i1, V_ [C.rptr (getD (enS false a) (toNat i1) [])], V_ [C.rptr (drop 1 (getD (enS false a) (toNat i1) []))], I_ (D.num (getD (drop 1 (getD (enS false a) (toNat i1) [])) 0 D.dead)), I_ (wrap i64 (i0 + 1)), B_ false, I_ (wrap i64 (i0 + 1)), I_ (wrap i64 (wrap i64 (i0 + 1) + 1)), V_ [C.d (D.sl false 4 (enS false a))], I_ i1, V_ [C.rptr (getD (enS false a) (toNat i1) [])], V_ [C.rptr (drop 2 (getD (enS false a) (toNat i1) []))], I_ (D.num (getD (drop 2 (getD (enS false a) (toNat i1) [])) 0 D.dead)), I_ (wrap i64 (wrap i64 (i0 + 1) + 1)), B_ true, U_, U_, U_, U_, U_, U_, U_, U_, U_, U_, U_, U_] []
def X54_5 (a : List Heard) (i0 : Int) (i1 : Int) : St := St.mk [V_ [C.d (D.sl false 4 (enS false a))], I_ (wrap i64 (wrap i64 (wrap i64 (i0 + 1) + 1) + 1)), U_, U_, I_ (Int.negSucc 0), I_ i1, I_ i1, V_ [C.d (D.sl false 4 (enS false a))], I_ (ofNat (length (enS false a))), B_ true, U_, U_, V_ [C.d (D.sl false 4 (enS false a))], I_ i1, V_ [C.rptr (getD (enS false a) (toNat i1) [])], V_ [C.rptr (getD (enS false a) (toNat i1) [])], I_ (D.num (getD (getD (enS false a) (toNat i1) []) 0 D.dead)), I_ i0, B_ false, I_ i0, I_ (wrap i64 (i0 + 1)), V_ [C.d (D.sl false 4 (enS false a))], I_ i1, V_ [C.rptr (getD (enS false a) (toNat i1) [])], V_ [C.rptr (drop 1 (getD (enS false a) (toNat i1) []))], I_ (D.num (getD (drop 1 (getD (enS false a) (toNat i1) [])) 0 D.dead)), I_ (wrap i64 (i0 + 1)), B_ false, I_ (wrap i64 (i0 + 1)), I_ (wrap i64 (wrap i64 (i0 + 1) + 1)), V_ [C.d (D.sl false 4 (enS false a))], I_ i1, V_ [C.rptr (getD (enS false a) (toNat i1) [])], V_ [C.rptr (drop 2 (getD (enS false a) (toNat i1) []))], I_ (D.num (getD (drop 2 (getD (enS false a) (toNat i1) [])) 0 D.dead)), I_ (wrap i64 (wrap i64 (i0 + 1) + 1)), B_ false, I_ (wrap i64 (wrap i64 (i0 + 1) + 1)), I_ (wrap i64 (wrap i64 (wrap i64 (i0 + 1) + 1) + 1)), V_ [C.d (D.sl false 4 (enS false a))], I_ i1, V_ [C.rptr (getD (enS false a) (toNat i1) [])], V_ [C.rptr (drop 3 (getD (enS false a) (toNat i1) []))], I_ (D.num (getD (drop 3 (getD (enS false a) (toNat i1) [])) 0 D.dead)), I_ (wrap i64 (wrap i64 (wrap i64 (i0 + 1) + 1) + 1)), B_ true, U_, U_, U_] []
def X54_6 (a : List Heard) (i0 : Int) (i1 : Int) : St := St.mk [V_ [C.d (D.sl false 4 (enS false a))], I_ i0, U_, U_, U_, I_ i1, I_ i1, V_ [C.d (D.sl false 4 (enS false a))], I_ (ofNat (length (enS false a))), B_ false, U_, U_, U_, U_, U_, U_, U_, U_, U_, U_, U_, U_, U_, U_, U_, U_, U_, U_, U_, U_, U_, U_, U_, U_, U_, U_, U_, U_, U_, U_, U_, U_, U_, U_, U_, U_, U_, U_, U_] []
theorem q54_0 (a : List Heard) (n : Nat) (i0 : Int) (i1 : Int) (f : St → RR) (K : Ex → St → RR) : B54_0 n (S54_0 a i0 i1) (kThen (fun st ↦ f (St.head 0 35 281474976710642 st)) K) = bif decide (i1 < ofNat (length (enS false a))) then bif decide (0 ≤ i1) && decide (i1 < ofNat (length (enS false a))) then bif Leaf.fit false (Leaf.int i64) (getD (getD (enS false a) (toNat i1) []) 0 D.dead) && true then bif D.num (getD (getD (enS false a) (toNat i1) []) 0 D.dead) != i0 then K Ex.ret (X54_2 a i0 i1) else bif decide (0 ≤ i1) && decide (i1 < ofNat (length (enS false a))) then bif Leaf.fit false (Leaf.int i64) (getD (drop 1 (getD (enS false a) (toNat i1) [])) 0 D.dead) && true then bif D.num (getD (drop 1 (getD (enS false a) (toNat i1) [])) 0 D.dead) != wrap i64 (i0 + 1) then K Ex.ret (X54_3 a i0 i1) else bif decide (0 ≤ i1) && decide (i1 < ofNat (length (enS false a))) then bif Leaf.fit false (Leaf.int i64) (getD (drop 2 (getD (enS false a) (toNat i1) [])) 0 D.dead) && true then bif D.num (getD (drop 2 (getD (enS false a) (toNat i1) [])) 0 D.dead) != wrap i64 (wrap i64 (i0 + 1) + 1) then K Ex.ret (X54_4 a i0 i1) else bif decide (0 ≤ i1) && decide (i1 < ofNat (length (enS false a))) then bif Leaf.fit false (Leaf.int i64) (getD (drop 3 (getD (enS false a) (toNat i1) [])) 0 D.dead) && true then bif D.num (getD (drop 3 (getD (enS false a) (toNat i1) [])) 0 D.dead) != wrap i64 (wrap i64 (wrap i64 (i0 + 1) + 1) + 1) then K Ex.ret (X54_5 a i0 i1) else f (S54_0 a (wrap i64 (wrap i64 (wrap i64 (wrap i64 (i0 + 1) + 1) + 1) + 1)) (wrap i64 (i1 + 1))) else none else none else none else none else none else none else none else none else K (Ex.exit 0) (X54_6 a i0 i1) := by kernel_rfl
theorem aX54_2 (a : List Heard) (n : Nat) (i0 : Int) (i1 : Int) : k54_1 n Ex.ret (X54_2 a i0 i1) = some ([[D.int i64 (Int.negSucc 0)]], []) := by kernel_rfl
theorem aX54_3 (a : List Heard) (n : Nat) (i0 : Int) (i1 : Int) : k54_1 n Ex.ret (X54_3 a i0 i1) = some ([[D.int i64 (Int.negSucc 0)]], []) := by kernel_rfl
theorem aX54_4 (a : List Heard) (n : Nat) (i0 : Int) (i1 : Int) : k54_1 n Ex.ret (X54_4 a i0 i1) = some ([[D.int i64 (Int.negSucc 0)]], []) := by kernel_rfl
theorem aX54_5 (a : List Heard) (n : Nat) (i0 : Int) (i1 : Int) : k54_1 n Ex.ret (X54_5 a i0 i1) = some ([[D.int i64 (Int.negSucc 0)]], []) := by kernel_rfl
theorem aX54_6 (a : List Heard) (n : Nat) (i0 : Int) (i1 : Int) : k54_1 n (Ex.exit 0) (X54_6 a i0 i1) = some ([[D.int i64 i0]], []) := by kernel_rfl
theorem r54 (a : List Heard) (k : Int) (n : Nat) : evFn ⟨prog, Hx, 54⟩ T53.call n f54 [[.sl false 4 (enS false a)], [.int .i64 k]] = loopRun (B54_0 n) 0 35 281474976710642 n (S54_0 a k (0)) (k54_1 n) := by kernel_rfl
theorem m54 (a : List Heard) (k : Int) (hpre : (o54 a k).1 = true) : evFn ⟨Go.Proofs.Try.prog, Hx, 54⟩ T53.call (a.length + 1) f54 [[.sl false 4 (enS false a)], [.int .i64 k]] = some (o54 a k).2 := by
  refine (r54 a k _).trans ?_
  show _ = (some ([[.int .i64 (k + cntS Heard.n_ a)]], []) : Option (List Row × List Row))
  replace hpre : (sameB (markS Heard.mk_ Heard.n_ a k) a && (decide (0 ≤ k) && (decide (k + cntS Heard.n_ a ≤ 4611686018427387904) && decide (a.length ≤ 1152921504606846976)))) = true := hpre
  rw [Bool.and_eq_true] at hpre
  obtain ⟨hsame, hpre⟩ := hpre
  have hsame := sameB_eq hsame
  simp only [Bool.and_eq_true, decide_eq_true_eq] at hpre
  obtain ⟨h0, h1, h2⟩ := hpre
  refine loop_list (xs := a) (fun i (k : Int) => S54_0 a k (Int.ofNat i)) (fun i k => 0 ≤ k ∧ k + cntS Heard.n_ (a.drop i) ≤ 4611686018427387904 ∧ markS Heard.mk_ Heard.n_ (a.drop i) k = a.drop i) (fun _ k rest => some ([[D.int .i64 (k + cntS Heard.n_ rest)]], [])) ?_ ?_ (a.length + 1) k (by omega) ⟨h0, h1, hsame⟩
  · rintro k ⟨hk0, hk1, _⟩ f
    refine (q54_0 a _ _ _ f _).trans ?_
    simp only [enS_length, dec_lt, Nat.lt_irrefl, decide_false, cond_false]
    refine (aX54_6 a _ _ _).trans ?_
    simp only [cntS, Int.add_zero]
  · rintro i k hi ⟨hk0, hk1, hk2⟩ f hf
    rw [List.drop_eq_getElem_cons hi] at hk1 hk2
    have hc := cntS_nonneg (n := Heard.n_) Heard.n_pos (a.drop (i + 1))
    have hn : Heard.n_ a[i] = 4 := rfl
    simp only [cntS, hn] at hk1
    have he : k + 1 + 1 + 1 + 1 = k + Heard.n_ a[i] := by omega
    simp only [markS, List.cons.injEq] at hk2
    obtain ⟨hk2, hk3⟩ := hk2
    refine (q54_0 a _ _ _ f _).trans ?_
    simp only [enS_length, toNat_of, dec_lt, dec_ge, enS_get _ hi, hi, wrap_succ (show i < 4611686018427387904 by omega), decide_true, cond_true, Bool.and_self]
    have hw1 : IntKind.wrap IntKind.i64 (k + 1) = k + 1 := wrap_le (by omega) (by omega)
    have hw2 : IntKind.wrap IntKind.i64 (k + 1 + 1) = k + 1 + 1 := wrap_le (by omega) (by omega)
    have hw3 : IntKind.wrap IntKind.i64 (k + 1 + 1 + 1) = k + 1 + 1 + 1 := wrap_le (by omega) (by omega)
    have hw4 : IntKind.wrap IntKind.i64 (k + 1 + 1 + 1 + 1) = k + 1 + 1 + 1 + 1 := wrap_le (by omega) (by omega)
    simp only [hw1, hw2, hw3, hw4]
    rw [← hk2]
    refine Eq.trans (b := f (S54_0 a (k + 1 + 1 + 1 + 1) (Int.ofNat (i + 1)))) ?_ ((hf (k + 1 + 1 + 1 + 1) ⟨by omega, by omega, by rw [he]; exact hk3⟩).trans ?_)
    · simp only [En.enc, Heard.mk_, Leaf.fit, List.drop_succ_cons, List.drop_zero, List.getD_cons_zero, List.getD_cons_succ, D.num, D.flag, D.text, bne_self_eq_false, Bool.and_self, cond_true, cond_false, decide_true]
    · show _ = some ([[D.int .i64 (k + (Heard.n_ a[i] + cntS Heard.n_ (a.drop (i + 1))))]], [])
      rw [he, Int.add_assoc]
theorem s54 : SoundAt Go.Proofs.Try.prog Hx 54 c54 := soundAt_of T53_sound mixed func54 (by kernel_rfl) (by
  intro rows r h
  unfold c54 at h
  split at h
  · rename_i a k
    obtain ⟨hp, hr⟩ := Prod.mk.inj (Option.some.inj h)
    subst hr
    simp only [Bool.and_eq_true] at hp
    obtain ⟨hs0, hp⟩ := hp
    obtain ⟨xs0, rfl⟩ := isS_ex hs0
    simp only [deS_enS] at hp ⊢
    exact ⟨_, m54 xs0 k hp⟩
  · cases h)
def T54 : Table := (54, c54) :: T53
theorem T54_sound : Table.Sound Go.Proofs.Try.prog Hx T54 := Table.sound_cons s54 T53_sound
def o30 (a : List Card) (k : Int) : Bool × List Row × List Row := (sameB (markS Card.mk_ Card.n_ a k) a && (decide (0 ≤ k) && (decide (k + cntS Card.n_ a ≤ 4611686018427387904) && (decide (a.length ≤ 1152921504606846976) && a.all (fun x => (decide (x.Open.length ≤ 1152921504606846976) && (decide (x.Members.length ≤ 1152921504606846976) && x.Members.all (fun x => decide (x.In.length ≤ 1152921504606846976))) && decide (x.Table.length ≤ 1152921504606846976)))))), [[.int .i64 (k + cntS Card.n_ a)]], [])
def c30 : Contract
  | [[.sl false 3 a], [.int .i64 k]] => some (isS Card false a && (o30 (deS Card a) k).1, (o30 (deS Card a) k).2.1, (o30 (deS Card a) k).2.2)
  | _ => none

def k30_0 (n : Nat) : Ex → St → RR := kThen (fun st ↦ runCode (Ctx.mk prog Hx (30)) (Table.call T54) n (codeAt [1, 1] (bodyOf f30)) (Lv.mk 16 [] 16) st (kLeave (Ctx.P (Ctx.mk prog Hx (30))) (List.zip (Array.toList (Go.Func.resultTypes f30)) (Array.toList (Go.Func.results f30))) [] [])) (kLeave (Ctx.P (Ctx.mk prog Hx (30))) (List.zip (Array.toList (Go.Func.resultTypes f30)) (Array.toList (Go.Func.results f30))) [] [])
def k30_1 (n : Nat) : Ex → St → RR := kBlock (0) (k30_0 n)
def S30_0 (a : List Card) (i0 : Int) (i1 : Int) : St := St.mk [V_ [C.d (D.sl false 3 (enS false a))], I_ i0, U_, U_, U_, I_ i1, U_, U_, U_, U_, U_, U_, U_, U_, U_, U_, U_, U_, U_, U_, U_, U_, U_, U_, U_, U_, U_, U_, U_, U_, U_, U_, U_, U_, U_, U_, U_, U_, U_, U_] []
def B30_0 (n : Nat) : St → (Ex → St → RR) → RR := runCode (Ctx.mk prog Hx (30)) (Table.call T54) n (codeAt [1, 0, 1, 0, 0] (bodyOf f30)) (Lv.mk 35 [(0, 2)] 16)
def X30_2 (a : List Card) (i0 : Int) (i1 : Int) : St := St.mk [V_ [C.d (D.sl false 3 (enS false a))], I_ (i0 + cntS oneN (deS Bool (D.rows (getD (getD (enS false a) (toNat i1) []) 0 D.dead)))), U_, U_, I_ (Int.negSucc 0), I_ i1, I_ i1, V_ [C.d (D.sl false 3 (enS false a))], I_ (ofNat (length (enS false a))), B_ true, U_, U_, V_ [C.d (D.sl false 3 (enS false a))], I_ i1, V_ [C.rptr (getD (enS false a) (toNat i1) [])], V_ [C.rptr (getD (enS false a) (toNat i1) [])], V_ [C.d (D.sl false 1 (D.rows (getD (getD (enS false a) (toNat i1) []) 0 D.dead)))], I_ i0, I_ (i0 + cntS oneN (deS Bool (D.rows (getD (getD (enS false a) (toNat i1) []) 0 D.dead)))), I_ (i0 + cntS oneN (deS Bool (D.rows (getD (getD (enS false a) (toNat i1) []) 0 D.dead)))), B_ true, U_, U_, U_, U_, U_, U_, U_, U_, U_, U_, U_, U_, U_, U_, U_, U_, U_, U_, U_] []
def X30_3 (a : List Card) (i0 : Int) (i1 : Int) : St := St.mk [V_ [C.d (D.sl false 3 (enS false a))], I_ (i0 + cntS oneN (deS Bool (D.rows (getD (getD (enS false a) (toNat i1) []) 0 D.dead))) + cntS Member.n_ (deS Member (D.rows (getD (drop 1 (getD (enS false a) (toNat i1) [])) 0 D.dead)))), U_, U_, I_ (Int.negSucc 0), I_ i1, I_ i1, V_ [C.d (D.sl false 3 (enS false a))], I_ (ofNat (length (enS false a))), B_ true, U_, U_, V_ [C.d (D.sl false 3 (enS false a))], I_ i1, V_ [C.rptr (getD (enS false a) (toNat i1) [])], V_ [C.rptr (getD (enS false a) (toNat i1) [])], V_ [C.d (D.sl false 1 (D.rows (getD (getD (enS false a) (toNat i1) []) 0 D.dead)))], I_ i0, I_ (i0 + cntS oneN (deS Bool (D.rows (getD (getD (enS false a) (toNat i1) []) 0 D.dead)))), I_ (i0 + cntS oneN (deS Bool (D.rows (getD (getD (enS false a) (toNat i1) []) 0 D.dead)))), B_ false, V_ [C.d (D.sl false 3 (enS false a))], I_ i1, V_ [C.rptr (getD (enS false a) (toNat i1) [])], V_ [C.rptr (drop 1 (getD (enS false a) (toNat i1) []))], V_ [C.d (D.sl false 2 (D.rows (getD (drop 1 (getD (enS false a) (toNat i1) [])) 0 D.dead)))], I_ (i0 + cntS oneN (deS Bool (D.rows (getD (getD (enS false a) (toNat i1) []) 0 D.dead)))), I_ (i0 + cntS oneN (deS Bool (D.rows (getD (getD (enS false a) (toNat i1) []) 0 D.dead))) + cntS Member.n_ (deS Member (D.rows (getD (drop 1 (getD (enS false a) (toNat i1) [])) 0 D.dead)))), I_ (i0 + cntS oneN (deS Bool (D.rows (getD (getD (enS false a) (toNat i1) []) 0 D.dead))) + cntS Member.n_ (deS Member (D.rows (getD (drop 1 (getD (enS false a) (toNat i1) [])) 0 D.dead)))), B_ true, U_, U_, U_, U_, U_, U_, U_, U_, U_, U_] []
def X30_4 (a : List Card) (i0 : Int) (i1 : Int) : St := St.mk [V_ [C.d (D.sl false 3 (enS false a))], I_ (i0 + cntS oneN (deS Bool (D.rows (getD (getD (enS false a) (toNat i1) []) 0 D.dead))) + cntS Member.n_ (deS Member (D.rows (getD (drop 1 (getD (enS false a) (toNat i1) [])) 0 D.dead))) + cntS Heard.n_ (deS Heard (D.rows (getD (drop 2 (getD (enS false a) (toNat i1) [])) 0 D.dead)))), U_, U_, I_ (Int.negSucc 0), I_ i1, I_ i1, V_ [C.d (D.sl false 3 (enS false a))], I_ (ofNat (length (enS false a))), B_ true, U_, U_, V_ [C.d (D.sl false 3 (enS false a))], I_ i1, V_ [C.rptr (getD (enS false a) (toNat i1) [])], V_ [C.rptr (getD (enS false a) (toNat i1) [])], V_ [C.d (D.sl false 1 (D.rows (getD (getD (enS false a) (toNat i1) []) 0 D.dead)))], I_ i0, I_ (i0 + cntS oneN (deS Bool (D.rows (getD (getD (enS false a) (toNat i1) []) 0 D.dead)))), I_ (i0 + cntS oneN (deS Bool (D.rows (getD (getD (enS false a) (toNat i1) []) 0 D.dead)))), B_ false, V_ [C.d (D.sl false 3 (enS false a))], I_ i1, V_ [C.rptr (getD (enS false a) (toNat i1) [])], V_ [C.rptr (drop 1 (getD (enS false a) (toNat i1) []))], V_ [C.d (D.sl false 2 (D.rows (getD (drop 1 (getD (enS false a) (toNat i1) [])) 0 D.dead)))], I_ (i0 + cntS oneN (deS Bool (D.rows (getD (getD (enS false a) (toNat i1) []) 0 D.dead)))), I_ (i0 + cntS oneN (deS Bool (D.rows (getD (getD (enS false a) (toNat i1) []) 0 D.dead))) + cntS Member.n_ (deS Member (D.rows (getD (drop 1 (getD (enS false a) (toNat i1) [])) 0 D.dead)))), I_ (i0 + cntS oneN (deS Bool (D.rows (getD (getD (enS false a) (toNat i1) []) 0 D.dead))) + cntS Member.n_ (deS Member (D.rows (getD (drop 1 (getD (enS false a) (toNat i1) [])) 0 D.dead)))), B_ false, V_ [C.d (D.sl false 3 (enS false a))], I_ i1, V_ [C.rptr (getD (enS false a) (toNat i1) [])], V_ [C.rptr (drop 2 (getD (enS false a) (toNat i1) []))], V_ [C.d (D.sl false 4 (D.rows (getD (drop 2 (getD (enS false a) (toNat i1) [])) 0 D.dead)))], I_ (i0 + cntS oneN (deS Bool (D.rows (getD (getD (enS false a) (toNat i1) []) 0 D.dead))) + cntS Member.n_ (deS Member (D.rows (getD (drop 1 (getD (enS false a) (toNat i1) [])) 0 D.dead)))), I_ (i0 + cntS oneN (deS Bool (D.rows (getD (getD (enS false a) (toNat i1) []) 0 D.dead))) + cntS Member.n_ (deS Member (D.rows (getD (drop 1 (getD (enS false a) (toNat i1) [])) 0 D.dead))) + cntS Heard.n_ (deS Heard (D.rows (getD (drop 2 (getD (enS false a) (toNat i1) [])) 0 D.dead)))), I_ (i0 + cntS oneN (deS Bool (D.rows (getD (getD (enS false a) (toNat i1) []) 0 D.dead))) + cntS Member.n_ (deS Member (D.rows (getD (drop 1 (getD (enS false a) (toNat i1) [])) 0 D.dead))) + cntS Heard.n_ (deS Heard (D.rows (getD (drop 2 (getD (enS false a) (toNat i1) [])) 0 D.dead)))), B_ true, U_] []
def X30_5 (a : List Card) (i0 : Int) (i1 : Int) : St := St.mk [V_ [C.d (D.sl false 3 (enS false a))], I_ i0, U_, U_, U_, I_ i1, I_ i1, V_ [C.d (D.sl false 3 (enS false a))], I_ (ofNat (length (enS false a))), B_ false, U_, U_, U_, U_, U_, U_, U_, U_, U_, U_, U_, U_, U_, U_, U_, U_, U_, U_, U_, U_, U_, U_, U_, U_, U_, U_, U_, U_, U_, U_] []
theorem q30_0 (a : List Card) (n : Nat) (i0 : Int) (i1 : Int) (f : St → RR) (K : Ex → St → RR) : B30_0 n (S30_0 a i0 i1) (kThen (fun st ↦ f (St.head 0 35 549755813874 st)) K) = bif decide (i1 < ofNat (length (enS false a))) then bif decide (0 ≤ i1) && decide (i1 < ofNat (length (enS false a))) then bif Leaf.fit false (Leaf.sl 1 true) (getD (getD (enS false a) (toNat i1) []) 0 D.dead) && true then bif isS Bool false (D.rows (getD (getD (enS false a) (toNat i1) []) 0 D.dead)) && (sameB (markS boolMk oneN (deS Bool (D.rows (getD (getD (enS false a) (toNat i1) []) 0 D.dead))) i0) (deS Bool (D.rows (getD (getD (enS false a) (toNat i1) []) 0 D.dead))) && (decide (0 ≤ i0) && (decide (i0 + cntS oneN (deS Bool (D.rows (getD (getD (enS false a) (toNat i1) []) 0 D.dead))) ≤ 4611686018427387904) && decide (length (deS Bool (D.rows (getD (getD (enS false a) (toNat i1) []) 0 D.dead))) ≤ 1152921504606846976)))) then bif decide (i0 + cntS oneN (deS Bool (D.rows (getD (getD (enS false a) (toNat i1) []) 0 D.dead))) < 0) then K Ex.ret (X30_2 a i0 i1) else bif decide (0 ≤ i1) && decide (i1 < ofNat (length (enS false a))) then bif Leaf.fit false (Leaf.sl 2 false) (getD (drop 1 (getD (enS false a) (toNat i1) [])) 0 D.dead) && true then bif isS Member false (D.rows (getD (drop 1 (getD (enS false a) (toNat i1) [])) 0 D.dead)) && (sameB (markS Member.mk_ Member.n_ (deS Member (D.rows (getD (drop 1 (getD (enS false a) (toNat i1) [])) 0 D.dead))) (i0 + cntS oneN (deS Bool (D.rows (getD (getD (enS false a) (toNat i1) []) 0 D.dead))))) (deS Member (D.rows (getD (drop 1 (getD (enS false a) (toNat i1) [])) 0 D.dead))) && (decide (0 ≤ i0 + cntS oneN (deS Bool (D.rows (getD (getD (enS false a) (toNat i1) []) 0 D.dead)))) && (decide (i0 + cntS oneN (deS Bool (D.rows (getD (getD (enS false a) (toNat i1) []) 0 D.dead))) + cntS Member.n_ (deS Member (D.rows (getD (drop 1 (getD (enS false a) (toNat i1) [])) 0 D.dead))) ≤ 4611686018427387904) && (decide (length (deS Member (D.rows (getD (drop 1 (getD (enS false a) (toNat i1) [])) 0 D.dead))) ≤ 1152921504606846976) && all (deS Member (D.rows (getD (drop 1 (getD (enS false a) (toNat i1) [])) 0 D.dead))) fun x ↦ decide (length (Member.In x) ≤ 1152921504606846976))))) then bif decide (i0 + cntS oneN (deS Bool (D.rows (getD (getD (enS false a) (toNat i1) []) 0 D.dead))) + cntS Member.n_ (deS Member (D.rows (getD (drop 1 (getD (enS false a) (toNat i1) [])) 0 D.dead))) < 0) then K Ex.ret (X30_3 a i0 i1) else bif decide (0 ≤ i1) && decide (i1 < ofNat (length (enS false a))) then bif Leaf.fit false (Leaf.sl 4 true) (getD (drop 2 (getD (enS false a) (toNat i1) [])) 0 D.dead) && true then bif isS Heard false (D.rows (getD (drop 2 (getD (enS false a) (toNat i1) [])) 0 D.dead)) && (sameB (markS Heard.mk_ Heard.n_ (deS Heard (D.rows (getD (drop 2 (getD (enS false a) (toNat i1) [])) 0 D.dead))) (i0 + cntS oneN (deS Bool (D.rows (getD (getD (enS false a) (toNat i1) []) 0 D.dead))) + cntS Member.n_ (deS Member (D.rows (getD (drop 1 (getD (enS false a) (toNat i1) [])) 0 D.dead))))) (deS Heard (D.rows (getD (drop 2 (getD (enS false a) (toNat i1) [])) 0 D.dead))) && (decide (0 ≤ i0 + cntS oneN (deS Bool (D.rows (getD (getD (enS false a) (toNat i1) []) 0 D.dead))) + cntS Member.n_ (deS Member (D.rows (getD (drop 1 (getD (enS false a) (toNat i1) [])) 0 D.dead)))) && (decide (i0 + cntS oneN (deS Bool (D.rows (getD (getD (enS false a) (toNat i1) []) 0 D.dead))) + cntS Member.n_ (deS Member (D.rows (getD (drop 1 (getD (enS false a) (toNat i1) [])) 0 D.dead))) + cntS Heard.n_ (deS Heard (D.rows (getD (drop 2 (getD (enS false a) (toNat i1) [])) 0 D.dead))) ≤ 4611686018427387904) && decide (length (deS Heard (D.rows (getD (drop 2 (getD (enS false a) (toNat i1) [])) 0 D.dead))) ≤ 1152921504606846976)))) then bif decide (i0 + cntS oneN (deS Bool (D.rows (getD (getD (enS false a) (toNat i1) []) 0 D.dead))) + cntS Member.n_ (deS Member (D.rows (getD (drop 1 (getD (enS false a) (toNat i1) [])) 0 D.dead))) + cntS Heard.n_ (deS Heard (D.rows (getD (drop 2 (getD (enS false a) (toNat i1) [])) 0 D.dead))) < 0) then K Ex.ret (X30_4 a i0 i1) else f (S30_0 a (i0 + cntS oneN (deS Bool (D.rows (getD (getD (enS false a) (toNat i1) []) 0 D.dead))) + cntS Member.n_ (deS Member (D.rows (getD (drop 1 (getD (enS false a) (toNat i1) [])) 0 D.dead))) + cntS Heard.n_ (deS Heard (D.rows (getD (drop 2 (getD (enS false a) (toNat i1) [])) 0 D.dead)))) (wrap i64 (i1 + 1))) else none else none else none else none else none else none else none else none else none else K (Ex.exit 0) (X30_5 a i0 i1) := by kernel_rfl
theorem aX30_2 (a : List Card) (n : Nat) (i0 : Int) (i1 : Int) : k30_1 n Ex.ret (X30_2 a i0 i1) = some ([[D.int i64 (Int.negSucc 0)]], []) := by kernel_rfl
theorem aX30_3 (a : List Card) (n : Nat) (i0 : Int) (i1 : Int) : k30_1 n Ex.ret (X30_3 a i0 i1) = some ([[D.int i64 (Int.negSucc 0)]], []) := by kernel_rfl
theorem aX30_4 (a : List Card) (n : Nat) (i0 : Int) (i1 : Int) : k30_1 n Ex.ret (X30_4 a i0 i1) = some ([[D.int i64 (Int.negSucc 0)]], []) := by kernel_rfl
theorem aX30_5 (a : List Card) (n : Nat) (i0 : Int) (i1 : Int) : k30_1 n (Ex.exit 0) (X30_5 a i0 i1) = some ([[D.int i64 i0]], []) := by kernel_rfl
theorem r30 (a : List Card) (k : Int) (n : Nat) : evFn ⟨prog, Hx, 30⟩ T54.call n f30 [[.sl false 3 (enS false a)], [.int .i64 k]] = loopRun (B30_0 n) 0 35 549755813874 n (S30_0 a k (0)) (k30_1 n) := by kernel_rfl
theorem m30 (a : List Card) (k : Int) (hpre : (o30 a k).1 = true) : evFn ⟨Go.Proofs.Try.prog, Hx, 30⟩ T54.call (a.length + 1) f30 [[.sl false 3 (enS false a)], [.int .i64 k]] = some (o30 a k).2 := by
  refine (r30 a k _).trans ?_
  show _ = (some ([[.int .i64 (k + cntS Card.n_ a)]], []) : Option (List Row × List Row))
  replace hpre : (sameB (markS Card.mk_ Card.n_ a k) a && (decide (0 ≤ k) && (decide (k + cntS Card.n_ a ≤ 4611686018427387904) && (decide (a.length ≤ 1152921504606846976) && a.all (fun x => (decide (x.Open.length ≤ 1152921504606846976) && (decide (x.Members.length ≤ 1152921504606846976) && x.Members.all (fun x => decide (x.In.length ≤ 1152921504606846976))) && decide (x.Table.length ≤ 1152921504606846976))))))) = true := hpre
  rw [Bool.and_eq_true] at hpre
  obtain ⟨hsame, hpre⟩ := hpre
  have hsame := sameB_eq hsame
  simp only [Bool.and_eq_true] at hpre
  obtain ⟨h0, h1, h2, h3⟩ := hpre
  have h0 := of_decide_eq_true h0
  have h1 := of_decide_eq_true h1
  have h2 := of_decide_eq_true h2
  refine loop_list (xs := a) (fun i (k : Int) => S30_0 a k (Int.ofNat i)) (fun i k => 0 ≤ k ∧ k + cntS Card.n_ (a.drop i) ≤ 4611686018427387904 ∧ markS Card.mk_ Card.n_ (a.drop i) k = a.drop i) (fun _ k rest => some ([[D.int .i64 (k + cntS Card.n_ rest)]], [])) ?_ ?_ (a.length + 1) k (by omega) ⟨h0, h1, hsame⟩
  · rintro k ⟨hk0, hk1, _⟩ f
    refine (q30_0 a _ _ _ f _).trans ?_
    simp only [enS_length, dec_lt, Nat.lt_irrefl, decide_false, cond_false]
    refine (aX30_5 a _ _ _).trans ?_
    simp only [cntS, Int.add_zero]
  · rintro i k hi ⟨hk0, hk1, hk2⟩ f hf
    rw [List.drop_eq_getElem_cons hi] at hk1 hk2
    have hel := List.all_eq_true.1 h3 _ (List.getElem_mem hi)
    have hc := cntS_nonneg (n := Card.n_) Card.n_pos (a.drop (i + 1))
    try simp only [Bool.and_eq_true] at hel
    simp only [cntS, Card.n_] at hk1
    have p0 : 0 ≤ cntS oneN a[i].Open := cntS_nonneg oneN_pos a[i].Open
    have p1 : 0 ≤ cntS Member.n_ a[i].Members := cntS_nonneg Member.n_pos a[i].Members
    have p2 : 0 ≤ cntS Heard.n_ a[i].Table := cntS_nonneg Heard.n_pos a[i].Table
    have g0 : decide (0 ≤ k) = true := decide_eq_true (by omega)
    have f0 : decide (k + cntS oneN a[i].Open ≤ 4611686018427387904) = true := decide_eq_true (by omega)
    have d0 : decide (k + cntS oneN a[i].Open < 0) = false := decide_eq_false (by omega)
    have g1 : decide (0 ≤ k + cntS oneN a[i].Open) = true := decide_eq_true (by omega)
    have f1 : decide (k + cntS oneN a[i].Open + cntS Member.n_ a[i].Members ≤ 4611686018427387904) = true := decide_eq_true (by omega)
    have d1 : decide (k + cntS oneN a[i].Open + cntS Member.n_ a[i].Members < 0) = false := decide_eq_false (by omega)
    have g2 : decide (0 ≤ k + cntS oneN a[i].Open + cntS Member.n_ a[i].Members) = true := decide_eq_true (by omega)
    have f2 : decide (k + cntS oneN a[i].Open + cntS Member.n_ a[i].Members + cntS Heard.n_ a[i].Table ≤ 4611686018427387904) = true := decide_eq_true (by omega)
    have d2 : decide (k + cntS oneN a[i].Open + cntS Member.n_ a[i].Members + cntS Heard.n_ a[i].Table < 0) = false := decide_eq_false (by omega)
    have he : k + cntS oneN a[i].Open + cntS Member.n_ a[i].Members + cntS Heard.n_ a[i].Table = k + Card.n_ a[i] := by simp only [Card.n_]; omega
    simp only [markS, List.cons.injEq] at hk2
    obtain ⟨hk2, hk3⟩ := hk2
    have e0 : sameB (markS boolMk oneN a[i].Open (k)) a[i].Open = true := by rw [show markS boolMk oneN a[i].Open (k) = a[i].Open from congrArg (fun y : Card => y.Open) hk2]; exact sameB_self _
    have e1 : sameB (markS Member.mk_ Member.n_ a[i].Members (k + cntS oneN a[i].Open)) a[i].Members = true := by rw [show markS Member.mk_ Member.n_ a[i].Members (k + cntS oneN a[i].Open) = a[i].Members from congrArg (fun y : Card => y.Members) hk2]; exact sameB_self _
    have e2 : sameB (markS Heard.mk_ Heard.n_ a[i].Table (k + cntS oneN a[i].Open + cntS Member.n_ a[i].Members)) a[i].Table = true := by rw [show markS Heard.mk_ Heard.n_ a[i].Table (k + cntS oneN a[i].Open + cntS Member.n_ a[i].Members) = a[i].Table from congrArg (fun y : Card => y.Table) hk2]; exact sameB_self _
    refine (q30_0 a _ _ _ f _).trans ?_
    simp only [enS_length, toNat_of, dec_lt, dec_ge, enS_get _ hi, hi, wrap_succ (show i < 4611686018427387904 by omega), decide_true, cond_true, Bool.and_self, Bool.and_true, Bool.true_and, En.enc, List.append_eq, List.take_succ_cons, List.take_zero, List.drop_succ_cons, List.drop_zero, List.cons_append, List.nil_append, List.getD_cons_zero, List.getD_cons_succ, D.num, D.flag, D.text, D.rows, Leaf.fit, beq_self_eq_true, isS_enS, deS_enS, hel, g0, f0, d0, g1, f1, d1, g2, f2, d2]
    simp only [e0, e1, e2, bne_self_eq_false, cond_true, cond_false, hel, g0, f0, d0, g1, f1, d1, g2, f2, d2, Bool.and_self, Bool.and_true, Bool.true_and, enS_length]
    refine (hf (k + cntS oneN a[i].Open + cntS Member.n_ a[i].Members + cntS Heard.n_ a[i].Table) ⟨by omega, by omega, by rw [he]; exact hk3⟩).trans ?_
    show _ = some ([[D.int .i64 (k + (Card.n_ a[i] + cntS Card.n_ (a.drop (i + 1))))]], [])
    rw [he, Int.add_assoc]
theorem s30 : SoundAt Go.Proofs.Try.prog Hx 30 c30 := soundAt_of T54_sound mixed func30 (by kernel_rfl) (by
  intro rows r h
  unfold c30 at h
  split at h
  · rename_i a k
    obtain ⟨hp, hr⟩ := Prod.mk.inj (Option.some.inj h)
    subst hr
    simp only [Bool.and_eq_true] at hp
    obtain ⟨hs0, hp⟩ := hp
    obtain ⟨xs0, rfl⟩ := isS_ex hs0
    simp only [deS_enS] at hp ⊢
    exact ⟨_, m30 xs0 k hp⟩
  · cases h)
def T30 : Table := (30, c30) :: T54
theorem T30_sound : Table.Sound Go.Proofs.Try.prog Hx T30 := Table.sound_cons s30 T54_sound
def o51 (a : List Link) (k : Int) : Bool × List Row × List Row := (sameB (markS Link.mk_ Link.n_ a k) a && (decide (0 ≤ k) && (decide (k + cntS Link.n_ a ≤ 4611686018427387904) && decide (a.length ≤ 1152921504606846976))), [[.int .i64 (k + cntS Link.n_ a)]], [])
def c51 : Contract
  | [[.sl false 4 a], [.int .i64 k]] => some (isS Link false a && (o51 (deS Link a) k).1, (o51 (deS Link a) k).2.1, (o51 (deS Link a) k).2.2)
  | _ => none

def k51_0 (n : Nat) : Ex → St → RR := kThen (fun st ↦ runCode (Ctx.mk prog Hx (51)) (Table.call T30) n (codeAt [1, 1] (bodyOf f51)) (Lv.mk 16 [] 16) st (kLeave (Ctx.P (Ctx.mk prog Hx (51))) (List.zip (Array.toList (Go.Func.resultTypes f51)) (Array.toList (Go.Func.results f51))) [] [])) (kLeave (Ctx.P (Ctx.mk prog Hx (51))) (List.zip (Array.toList (Go.Func.resultTypes f51)) (Array.toList (Go.Func.results f51))) [] [])
def k51_1 (n : Nat) : Ex → St → RR := kBlock (0) (k51_0 n)
def S51_0 (a : List Link) (i0 : Int) (i1 : Int) : St := St.mk [V_ [C.d (D.sl false 4 (enS false a))], I_ i0, U_, U_, U_, I_ i1, U_, U_, U_, U_, U_, U_, U_, U_, U_, U_, U_, U_, U_, U_, U_, U_, U_, U_, U_, U_, U_, U_, U_, U_, U_, U_, U_, U_, U_, U_, U_, U_, U_, U_, U_, U_, U_, U_, U_, U_, U_, U_, U_] []
def B51_0 (n : Nat) : St → (Ex → St → RR) → RR := runCode (Ctx.mk prog Hx (51)) (Table.call T30) n (codeAt [1, 0, 1, 0, 0] (bodyOf f51)) (Lv.mk 35 [(0, 2)] 16)
def X51_2 (a : List Link) (i0 : Int) (i1 : Int) : St := St.mk [V_ [C.d (D.sl false 4 (enS false a))], I_ i0, U_, U_, I_ (Int.negSucc 0), I_ i1, I_ i1, V_ [C.d (D.sl false 4 (enS false a))], I_ (ofNat (length (enS false a))), B_ true, U_, U_, V_ [C.d (D.sl false 4 (enS false a))], I_ i1, V_ [C.rptr (getD (enS false a) (toNat i1) [])], V_ [C.rptr (getD (enS false a) (toNat i1) [])], I_ (D.num (getD (getD (enS false a) (toNat i1) []) 0 D.dead)), I_ i0, B_ true, U_, U_, U_, U_, U_, U_, U_, U_, U_, U_, U_, U_, U_, U_, U_, U_, U_, U_, U_, U_, U_, U_, U_, U_, U_, U_, U_, U_, U_, U_] []
def X51_3 (a : List Link) (i0 : Int) (i1 : Int) : St := St.mk [V_ [C.d (D.sl false 4 (enS false a))], I_ (wrap i64 (i0 + 1)), U_, U_, I_ (Int.negSucc 0), I_ i1, I_ i1, V_ [C.d (D.sl false 4 (enS false a))], I_ (ofNat (length (enS false a))), B_ true, U_, U_, V_ [C.d (D.sl false 4 (enS false a))], I_ i1, V_ [C.rptr (getD (enS false a) (toNat i1) [])], V_ [C.rptr (getD (enS false a) (toNat i1) [])], I_ (D.num (getD (getD (enS false a) (toNat i1) []) 0 D.dead)), I_ i0, B_ false, I_ i0, I_ (wrap i64 (i0 + 1)), V_ [C.d (D.sl false 4 (enS false a))], I_ i1, V_ [C.rptr (getD (enS false a) (toNat i1) [])], V_ [C.rptr (drop 1 (getD (enS false a) (toNat i1) []))], I_ (D.num (getD (drop 1 (getD (enS false a) (toNat i1) [])) 0 D.dead)), I_ (wrap i64 (i0 + 1)), B_ true, U_, U_, U_, U_, U_, U_, U_, U_, U_, U_, U_, U_, U_, U_, U_, U_, U_, U_, U_, U_, U_] []
def X51_4 (a : List Link) (i0 : Int) (i1 : Int) : St := St.mk [V_ [C.d (D.sl false 4 (enS false a))], I_ (wrap i64 (wrap i64 (i0 + 1) + 1)), U_, U_, I_ (Int.negSucc 0), I_ i1, I_ i1, V_ [C.d (D.sl false 4 (enS false a))], I_ (ofNat (length (enS false a))), B_ true, U_, U_, V_ [C.d (D.sl false 4 (enS false a))], I_ i1, V_ [C.rptr (getD (enS false a) (toNat i1) [])], V_ [C.rptr (getD (enS false a) (toNat i1) [])], I_ (D.num (getD (getD (enS false a) (toNat i1) []) 0 D.dead)), I_ i0, B_ false, I_ i0, I_ (wrap i64 (i0 + 1)), V_ [C.d (D.sl false 4 (enS false a))], I_ i1, V_ [C.rptr (getD (enS false a) (toNat i1) [])], V_ [C.rptr (drop 1 (getD (enS false a) (toNat i1) []))], I_ (D.num (getD (drop 1 (getD (enS false a) (toNat i1) [])) 0 D.dead)), I_ (wrap i64 (i0 + 1)), B_ false, I_ (wrap i64 (i0 + 1)), I_ (wrap i64 (wrap i64 (i0 + 1) + 1)), V_ [C.d (D.sl false 4 (enS false a))], I_ i1, V_ [C.rptr (getD (enS false a) (toNat i1) [])], V_ [C.rptr (drop 2 (getD (enS false a) (toNat i1) []))], I_ (D.num (getD (drop 2 (getD (enS false a) (toNat i1) [])) 0 D.dead)), I_ (wrap i64 (wrap i64 (i0 + 1) + 1)), B_ true, U_, U_, U_, U_, U_, U_, U_, U_, U_, U_, U_, U_] []
def X51_5 (a : List Link) (i0 : Int) (i1 : Int) : St := St.mk [V_ [C.d (D.sl false 4 (enS false a))], I_ (wrap i64 (wrap i64 (wrap i64 (i0 + 1) + 1) + 1)), U_, U_, I_ (Int.negSucc 0), I_ i1, I_ i1, V_ [C.d (D.sl false 4 (enS false a))], I_ (ofNat (length (enS false a))), B_ true, U_, U_, V_ [C.d (D.sl false 4 (enS false a))], I_ i1, V_ [C.rptr (getD (enS false a) (toNat i1) [])], V_ [C.rptr (getD (enS false a) (toNat i1) [])], I_ (D.num (getD (getD (enS false a) (toNat i1) []) 0 D.dead)), I_ i0, B_ false, I_ i0, I_ (wrap i64 (i0 + 1)), V_ [C.d (D.sl false 4 (enS false a))], I_ i1, V_ [C.rptr (getD (enS false a) (toNat i1) [])], V_ [C.rptr (drop 1 (getD (enS false a) (toNat i1) []))], I_ (D.num (getD (drop 1 (getD (enS false a) (toNat i1) [])) 0 D.dead)), I_ (wrap i64 (i0 + 1)), B_ false, I_ (wrap i64 (i0 + 1)), I_ (wrap i64 (wrap i64 (i0 + 1) + 1)), V_ [C.d (D.sl false 4 (enS false a))], I_ i1, V_ [C.rptr (getD (enS false a) (toNat i1) [])], V_ [C.rptr (drop 2 (getD (enS false a) (toNat i1) []))], I_ (D.num (getD (drop 2 (getD (enS false a) (toNat i1) [])) 0 D.dead)), I_ (wrap i64 (wrap i64 (i0 + 1) + 1)), B_ false, I_ (wrap i64 (wrap i64 (i0 + 1) + 1)), I_ (wrap i64 (wrap i64 (wrap i64 (i0 + 1) + 1) + 1)), V_ [C.d (D.sl false 4 (enS false a))], I_ i1, V_ [C.rptr (getD (enS false a) (toNat i1) [])], V_ [C.rptr (drop 3 (getD (enS false a) (toNat i1) []))], I_ (D.num (getD (drop 3 (getD (enS false a) (toNat i1) [])) 0 D.dead)), I_ (wrap i64 (wrap i64 (wrap i64 (i0 + 1) + 1) + 1)), B_ true, U_, U_, U_] []
def X51_6 (a : List Link) (i0 : Int) (i1 : Int) : St := St.mk [V_ [C.d (D.sl false 4 (enS false a))], I_ i0, U_, U_, U_, I_ i1, I_ i1, V_ [C.d (D.sl false 4 (enS false a))], I_ (ofNat (length (enS false a))), B_ false, U_, U_, U_, U_, U_, U_, U_, U_, U_, U_, U_, U_, U_, U_, U_, U_, U_, U_, U_, U_, U_, U_, U_, U_, U_, U_, U_, U_, U_, U_, U_, U_, U_, U_, U_, U_, U_, U_, U_] []
theorem q51_0 (a : List Link) (n : Nat) (i0 : Int) (i1 : Int) (f : St → RR) (K : Ex → St → RR) : B51_0 n (S51_0 a i0 i1) (kThen (fun st ↦ f (St.head 0 35 281474976710642 st)) K) = bif decide (i1 < ofNat (length (enS false a))) then bif decide (0 ≤ i1) && decide (i1 < ofNat (length (enS false a))) then bif Leaf.fit false (Leaf.int i64) (getD (getD (enS false a) (toNat i1) []) 0 D.dead) && true then bif D.num (getD (getD (enS false a) (toNat i1) []) 0 D.dead) != i0 then K Ex.ret (X51_2 a i0 i1) else bif decide (0 ≤ i1) && decide (i1 < ofNat (length (enS false a))) then bif Leaf.fit false (Leaf.int i64) (getD (drop 1 (getD (enS false a) (toNat i1) [])) 0 D.dead) && true then bif D.num (getD (drop 1 (getD (enS false a) (toNat i1) [])) 0 D.dead) != wrap i64 (i0 + 1) then K Ex.ret (X51_3 a i0 i1) else bif decide (0 ≤ i1) && decide (i1 < ofNat (length (enS false a))) then bif Leaf.fit false (Leaf.int i64) (getD (drop 2 (getD (enS false a) (toNat i1) [])) 0 D.dead) && true then bif D.num (getD (drop 2 (getD (enS false a) (toNat i1) [])) 0 D.dead) != wrap i64 (wrap i64 (i0 + 1) + 1) then K Ex.ret (X51_4 a i0 i1) else bif decide (0 ≤ i1) && decide (i1 < ofNat (length (enS false a))) then bif Leaf.fit false (Leaf.int i64) (getD (drop 3 (getD (enS false a) (toNat i1) [])) 0 D.dead) && true then bif D.num (getD (drop 3 (getD (enS false a) (toNat i1) [])) 0 D.dead) != wrap i64 (wrap i64 (wrap i64 (i0 + 1) + 1) + 1) then K Ex.ret (X51_5 a i0 i1) else f (S51_0 a (wrap i64 (wrap i64 (wrap i64 (wrap i64 (i0 + 1) + 1) + 1) + 1)) (wrap i64 (i1 + 1))) else none else none else none else none else none else none else none else none else K (Ex.exit 0) (X51_6 a i0 i1) := by kernel_rfl
theorem aX51_2 (a : List Link) (n : Nat) (i0 : Int) (i1 : Int) : k51_1 n Ex.ret (X51_2 a i0 i1) = some ([[D.int i64 (Int.negSucc 0)]], []) := by kernel_rfl
theorem aX51_3 (a : List Link) (n : Nat) (i0 : Int) (i1 : Int) : k51_1 n Ex.ret (X51_3 a i0 i1) = some ([[D.int i64 (Int.negSucc 0)]], []) := by kernel_rfl
theorem aX51_4 (a : List Link) (n : Nat) (i0 : Int) (i1 : Int) : k51_1 n Ex.ret (X51_4 a i0 i1) = some ([[D.int i64 (Int.negSucc 0)]], []) := by kernel_rfl
theorem aX51_5 (a : List Link) (n : Nat) (i0 : Int) (i1 : Int) : k51_1 n Ex.ret (X51_5 a i0 i1) = some ([[D.int i64 (Int.negSucc 0)]], []) := by kernel_rfl
theorem aX51_6 (a : List Link) (n : Nat) (i0 : Int) (i1 : Int) : k51_1 n (Ex.exit 0) (X51_6 a i0 i1) = some ([[D.int i64 i0]], []) := by kernel_rfl
theorem r51 (a : List Link) (k : Int) (n : Nat) : evFn ⟨prog, Hx, 51⟩ T30.call n f51 [[.sl false 4 (enS false a)], [.int .i64 k]] = loopRun (B51_0 n) 0 35 281474976710642 n (S51_0 a k (0)) (k51_1 n) := by kernel_rfl
theorem m51 (a : List Link) (k : Int) (hpre : (o51 a k).1 = true) : evFn ⟨Go.Proofs.Try.prog, Hx, 51⟩ T30.call (a.length + 1) f51 [[.sl false 4 (enS false a)], [.int .i64 k]] = some (o51 a k).2 := by
  refine (r51 a k _).trans ?_
  show _ = (some ([[.int .i64 (k + cntS Link.n_ a)]], []) : Option (List Row × List Row))
  replace hpre : (sameB (markS Link.mk_ Link.n_ a k) a && (decide (0 ≤ k) && (decide (k + cntS Link.n_ a ≤ 4611686018427387904) && decide (a.length ≤ 1152921504606846976)))) = true := hpre
  rw [Bool.and_eq_true] at hpre
  obtain ⟨hsame, hpre⟩ := hpre
  have hsame := sameB_eq hsame
  simp only [Bool.and_eq_true, decide_eq_true_eq] at hpre
  obtain ⟨h0, h1, h2⟩ := hpre
  refine loop_list (xs := a) (fun i (k : Int) => S51_0 a k (Int.ofNat i)) (fun i k => 0 ≤ k ∧ k + cntS Link.n_ (a.drop i) ≤ 4611686018427387904 ∧ markS Link.mk_ Link.n_ (a.drop i) k = a.drop i) (fun _ k rest => some ([[D.int .i64 (k + cntS Link.n_ rest)]], [])) ?_ ?_ (a.length + 1) k (by omega) ⟨h0, h1, hsame⟩
  · rintro k ⟨hk0, hk1, _⟩ f
    refine (q51_0 a _ _ _ f _).trans ?_
    simp only [enS_length, dec_lt, Nat.lt_irrefl, decide_false, cond_false]
    refine (aX51_6 a _ _ _).trans ?_
    simp only [cntS, Int.add_zero]
  · rintro i k hi ⟨hk0, hk1, hk2⟩ f hf
    rw [List.drop_eq_getElem_cons hi] at hk1 hk2
    have hc := cntS_nonneg (n := Link.n_) Link.n_pos (a.drop (i + 1))
    have hn : Link.n_ a[i] = 4 := rfl
    simp only [cntS, hn] at hk1
    have he : k + 1 + 1 + 1 + 1 = k + Link.n_ a[i] := by omega
    simp only [markS, List.cons.injEq] at hk2
    obtain ⟨hk2, hk3⟩ := hk2
    refine (q51_0 a _ _ _ f _).trans ?_
    simp only [enS_length, toNat_of, dec_lt, dec_ge, enS_get _ hi, hi, wrap_succ (show i < 4611686018427387904 by omega), decide_true, cond_true, Bool.and_self]
    have hw1 : IntKind.wrap IntKind.i64 (k + 1) = k + 1 := wrap_le (by omega) (by omega)
    have hw2 : IntKind.wrap IntKind.i64 (k + 1 + 1) = k + 1 + 1 := wrap_le (by omega) (by omega)
    have hw3 : IntKind.wrap IntKind.i64 (k + 1 + 1 + 1) = k + 1 + 1 + 1 := wrap_le (by omega) (by omega)
    have hw4 : IntKind.wrap IntKind.i64 (k + 1 + 1 + 1 + 1) = k + 1 + 1 + 1 + 1 := wrap_le (by omega) (by omega)
    simp only [hw1, hw2, hw3, hw4]
    rw [← hk2]
    refine Eq.trans (b := f (S51_0 a (k + 1 + 1 + 1 + 1) (Int.ofNat (i + 1)))) ?_ ((hf (k + 1 + 1 + 1 + 1) ⟨by omega, by omega, by rw [he]; exact hk3⟩).trans ?_)
    · simp only [En.enc, Link.mk_, Leaf.fit, List.drop_succ_cons, List.drop_zero, List.getD_cons_zero, List.getD_cons_succ, D.num, D.flag, D.text, bne_self_eq_false, Bool.and_self, cond_true, cond_false, decide_true]
    · show _ = some ([[D.int .i64 (k + (Link.n_ a[i] + cntS Link.n_ (a.drop (i + 1))))]], [])
      rw [he, Int.add_assoc]
theorem s51 : SoundAt Go.Proofs.Try.prog Hx 51 c51 := soundAt_of T30_sound mixed func51 (by kernel_rfl) (by
  intro rows r h
  unfold c51 at h
  split at h
  · rename_i a k
    obtain ⟨hp, hr⟩ := Prod.mk.inj (Option.some.inj h)
    subst hr
    simp only [Bool.and_eq_true] at hp
    obtain ⟨hs0, hp⟩ := hp
    obtain ⟨xs0, rfl⟩ := isS_ex hs0
    simp only [deS_enS] at hp ⊢
    exact ⟨_, m51 xs0 k hp⟩
  · cases h)
def T51 : Table := (51, c51) :: T30
theorem T51_sound : Table.Sound Go.Proofs.Try.prog Hx T51 := Table.sound_cons s51 T30_sound
def o29 (a : Net) (k : Int) : Bool × List Row × List Row := (sameB (Net.mkTop a k) a && (decide (0 ≤ k) && (decide (k + Net.nTop a ≤ 4611686018427387904) && ((decide (a.Bridges.length ≤ 1152921504606846976) && a.Bridges.all (fun x => decide (x.Ports.length ≤ 1152921504606846976))) && decide (a.Links.length ≤ 1152921504606846976)))), [[.int .i64 (k + Net.nTop a)]], [])
def c29 : Contract
  | [[.sl false 2 a_Bridges, .sl false 4 a_Links], [.int .i64 k]] => some (isS Bridge false a_Bridges && isS Link false a_Links && (o29 ⟨(deS Bridge a_Bridges), (deS Link a_Links)⟩ k).1, (o29 ⟨(deS Bridge a_Bridges), (deS Link a_Links)⟩ k).2.1, (o29 ⟨(deS Bridge a_Bridges), (deS Link a_Links)⟩ k).2.2)
  | _ => none

theorem r29 (a : Net) (k : Int) (n : Nat) : evFn ⟨prog, Hx, 29⟩ T51.call n f29 [[.sl false 2 (enS false a.Bridges), .sl false 4 (enS false a.Links)], [.int .i64 k]] = bif isS Bridge false (enS false (Net.Bridges a)) && (sameB (markS Bridge.mk_ Bridge.n_ (deS Bridge (enS false (Net.Bridges a))) k) (deS Bridge (enS false (Net.Bridges a))) && (decide (0 ≤ k) && (decide (k + cntS Bridge.n_ (deS Bridge (enS false (Net.Bridges a))) ≤ 4611686018427387904) && (decide (length (deS Bridge (enS false (Net.Bridges a))) ≤ 1152921504606846976) && all (deS Bridge (enS false (Net.Bridges a))) fun x ↦ decide (length (Bridge.Ports x) ≤ 1152921504606846976))))) then bif decide (k + cntS Bridge.n_ (deS Bridge (enS false (Net.Bridges a))) < 0) then some ([[D.int i64 (Int.negSucc 0)]], []) else bif isS Link false (enS false (Net.Links a)) && (sameB (markS Link.mk_ Link.n_ (deS Link (enS false (Net.Links a))) (k + cntS Bridge.n_ (deS Bridge (enS false (Net.Bridges a))))) (deS Link (enS false (Net.Links a))) && (decide (0 ≤ k + cntS Bridge.n_ (deS Bridge (enS false (Net.Bridges a)))) && (decide (k + cntS Bridge.n_ (deS Bridge (enS false (Net.Bridges a))) + cntS Link.n_ (deS Link (enS false (Net.Links a))) ≤ 4611686018427387904) && decide (length (deS Link (enS false (Net.Links a))) ≤ 1152921504606846976)))) then bif decide (k + cntS Bridge.n_ (deS Bridge (enS false (Net.Bridges a))) + cntS Link.n_ (deS Link (enS false (Net.Links a))) < 0) then some ([[D.int i64 (Int.negSucc 0)]], []) else some ([[D.int i64 (k + cntS Bridge.n_ (deS Bridge (enS false (Net.Bridges a))) + cntS Link.n_ (deS Link (enS false (Net.Links a))))]], []) else none else none := by kernel_rfl
theorem m29 (a : Net) (k : Int) (hpre : (o29 a k).1 = true) : evFn ⟨Go.Proofs.Try.prog, Hx, 29⟩ T51.call 0 f29 [[.sl false 2 (enS false a.Bridges), .sl false 4 (enS false a.Links)], [.int .i64 k]] = some (o29 a k).2 := by
  refine (r29 a k _).trans ?_
  show _ = (some ([[.int .i64 (k + Net.nTop a)]], []) : Option (List Row × List Row))
  replace hpre : (sameB (Net.mkTop a k) a && (decide (0 ≤ k) && (decide (k + Net.nTop a ≤ 4611686018427387904) && ((decide (a.Bridges.length ≤ 1152921504606846976) && a.Bridges.all (fun x => decide (x.Ports.length ≤ 1152921504606846976))) && decide (a.Links.length ≤ 1152921504606846976))))) = true := hpre
  rw [Bool.and_eq_true] at hpre
  obtain ⟨hsame, hpre⟩ := hpre
  have hsame := sameB_eq hsame
  unfold Net.mkTop at hsame
  simp only [Bool.and_eq_true] at hpre
  obtain ⟨h0, h1, h2⟩ := hpre
  have h0' := of_decide_eq_true h0
  have h1' := of_decide_eq_true h1
  unfold Net.nTop at h1'
  have p0 : 0 ≤ cntS Bridge.n_ a.Bridges := cntS_nonneg Bridge.n_pos a.Bridges
  have p1 : 0 ≤ cntS Link.n_ a.Links := cntS_nonneg Link.n_pos a.Links
  have g0 : decide (0 ≤ k) = true := decide_eq_true (by omega)
  have f0 : decide (k + cntS Bridge.n_ a.Bridges ≤ 4611686018427387904) = true := decide_eq_true (by omega)
  have d0 : decide (k + cntS Bridge.n_ a.Bridges < 0) = false := decide_eq_false (by omega)
  have g1 : decide (0 ≤ k + cntS Bridge.n_ a.Bridges) = true := decide_eq_true (by omega)
  have f1 : decide (k + cntS Bridge.n_ a.Bridges + cntS Link.n_ a.Links ≤ 4611686018427387904) = true := decide_eq_true (by omega)
  have d1 : decide (k + cntS Bridge.n_ a.Bridges + cntS Link.n_ a.Links < 0) = false := decide_eq_false (by omega)
  have s0 := congrArg Net.Bridges hsame
  simp only at s0
  have s1 := congrArg Net.Links hsame
  simp only at s1
  simp only [g0, f0, d0, g1, f1, d1, s0, s1, h2, isS_enS, deS_enS, sameB_self, cond_true, cond_false, Bool.and_self, Bool.and_true, Bool.true_and, Net.mkTop, Net.nTop]
  try rfl
  try simp only [Int.add_assoc]
theorem s29 : SoundAt Go.Proofs.Try.prog Hx 29 c29 := soundAt_of T51_sound mixed func29 (by kernel_rfl) (by
  intro rows r h
  unfold c29 at h
  split at h
  · rename_i a_Bridges a_Links k
    obtain ⟨hp, hr⟩ := Prod.mk.inj (Option.some.inj h)
    subst hr
    simp only [Bool.and_eq_true] at hp
    obtain ⟨⟨hs0, hs1⟩, hp⟩ := hp
    obtain ⟨xs0, rfl⟩ := isS_ex hs0
    obtain ⟨xs1, rfl⟩ := isS_ex hs1
    simp only [deS_enS] at hp ⊢
    exact ⟨_, m29 ⟨xs0, xs1⟩ k hp⟩
  · cases h)
def T29 : Table := (29, c29) :: T51
theorem T29_sound : Table.Sound Go.Proofs.Try.prog Hx T29 := Table.sound_cons s29 T51_sound
def o12 (a : Fabric) (k : Int) : Bool × List Row × List Row := (sameB (Fabric.mkTop a k) a && (decide (0 ≤ k) && (decide (k + Fabric.nTop a ≤ 4611686018427387904) && (((decide (a.Net.Bridges.length ≤ 1152921504606846976) && a.Net.Bridges.all (fun x => decide (x.Ports.length ≤ 1152921504606846976))) && decide (a.Net.Links.length ≤ 1152921504606846976)) && (decide (a.Cards.length ≤ 1152921504606846976) && a.Cards.all (fun x => (decide (x.Open.length ≤ 1152921504606846976) && (decide (x.Members.length ≤ 1152921504606846976) && x.Members.all (fun x => decide (x.In.length ≤ 1152921504606846976))) && decide (x.Table.length ≤ 1152921504606846976))))))), [[.int .i64 (k + Fabric.nTop a)]], [])
def c12 : Contract
  | [[.sl false 2 a_Net_Bridges, .sl false 4 a_Net_Links, .sl false 3 a_Cards], [.int .i64 k]] => some (isS Bridge false a_Net_Bridges && isS Link false a_Net_Links && isS Card false a_Cards && (o12 ⟨⟨(deS Bridge a_Net_Bridges), (deS Link a_Net_Links)⟩, (deS Card a_Cards)⟩ k).1, (o12 ⟨⟨(deS Bridge a_Net_Bridges), (deS Link a_Net_Links)⟩, (deS Card a_Cards)⟩ k).2.1, (o12 ⟨⟨(deS Bridge a_Net_Bridges), (deS Link a_Net_Links)⟩, (deS Card a_Cards)⟩ k).2.2)
  | _ => none

theorem r12 (a : Fabric) (k : Int) (n : Nat) : evFn ⟨prog, Hx, 12⟩ T29.call n f12 [[.sl false 2 (enS false a.Net.Bridges), .sl false 4 (enS false a.Net.Links), .sl false 3 (enS false a.Cards)], [.int .i64 k]] = bif isS Bridge false (enS false (Net.Bridges (Fabric.Net a))) && isS Link false (enS false (Net.Links (Fabric.Net a))) && (sameB (Net.mkTop (Net.mk (deS Bridge (enS false (Net.Bridges (Fabric.Net a)))) (deS Link (enS false (Net.Links (Fabric.Net a))))) k) (Net.mk (deS Bridge (enS false (Net.Bridges (Fabric.Net a)))) (deS Link (enS false (Net.Links (Fabric.Net a))))) && (decide (0 ≤ k) && (decide (k + Net.nTop (Net.mk (deS Bridge (enS false (Net.Bridges (Fabric.Net a)))) (deS Link (enS false (Net.Links (Fabric.Net a))))) ≤ 4611686018427387904) && ((decide (length (deS Bridge (enS false (Net.Bridges (Fabric.Net a)))) ≤ 1152921504606846976) && all (deS Bridge (enS false (Net.Bridges (Fabric.Net a)))) fun x ↦ decide (length (Bridge.Ports x) ≤ 1152921504606846976)) && decide (length (deS Link (enS false (Net.Links (Fabric.Net a)))) ≤ 1152921504606846976))))) then bif decide (k + Net.nTop (Net.mk (deS Bridge (enS false (Net.Bridges (Fabric.Net a)))) (deS Link (enS false (Net.Links (Fabric.Net a))))) < 0) then some ([[D.int i64 (Int.negSucc 0)]], []) else bif isS Card false (enS false (Fabric.Cards a)) && (sameB (markS Card.mk_ Card.n_ (deS Card (enS false (Fabric.Cards a))) (k + Net.nTop (Net.mk (deS Bridge (enS false (Net.Bridges (Fabric.Net a)))) (deS Link (enS false (Net.Links (Fabric.Net a))))))) (deS Card (enS false (Fabric.Cards a))) && (decide (0 ≤ k + Net.nTop (Net.mk (deS Bridge (enS false (Net.Bridges (Fabric.Net a)))) (deS Link (enS false (Net.Links (Fabric.Net a)))))) && (decide (k + Net.nTop (Net.mk (deS Bridge (enS false (Net.Bridges (Fabric.Net a)))) (deS Link (enS false (Net.Links (Fabric.Net a))))) + cntS Card.n_ (deS Card (enS false (Fabric.Cards a))) ≤ 4611686018427387904) && (decide (length (deS Card (enS false (Fabric.Cards a))) ≤ 1152921504606846976) && all (deS Card (enS false (Fabric.Cards a))) fun x ↦ decide (length (Card.Open x) ≤ 1152921504606846976) && (decide (length (Card.Members x) ≤ 1152921504606846976) && all (Card.Members x) fun x_1 ↦ decide (length (Member.In x_1) ≤ 1152921504606846976)) && decide (length (Card.Table x) ≤ 1152921504606846976))))) then bif decide (k + Net.nTop (Net.mk (deS Bridge (enS false (Net.Bridges (Fabric.Net a)))) (deS Link (enS false (Net.Links (Fabric.Net a))))) + cntS Card.n_ (deS Card (enS false (Fabric.Cards a))) < 0) then some ([[D.int i64 (Int.negSucc 0)]], []) else some ([[D.int i64 (k + Net.nTop (Net.mk (deS Bridge (enS false (Net.Bridges (Fabric.Net a)))) (deS Link (enS false (Net.Links (Fabric.Net a))))) + cntS Card.n_ (deS Card (enS false (Fabric.Cards a))))]], []) else none else none := by kernel_rfl
theorem m12 (a : Fabric) (k : Int) (hpre : (o12 a k).1 = true) : evFn ⟨Go.Proofs.Try.prog, Hx, 12⟩ T29.call 0 f12 [[.sl false 2 (enS false a.Net.Bridges), .sl false 4 (enS false a.Net.Links), .sl false 3 (enS false a.Cards)], [.int .i64 k]] = some (o12 a k).2 := by
  refine (r12 a k _).trans ?_
  show _ = (some ([[.int .i64 (k + Fabric.nTop a)]], []) : Option (List Row × List Row))
  replace hpre : (sameB (Fabric.mkTop a k) a && (decide (0 ≤ k) && (decide (k + Fabric.nTop a ≤ 4611686018427387904) && (((decide (a.Net.Bridges.length ≤ 1152921504606846976) && a.Net.Bridges.all (fun x => decide (x.Ports.length ≤ 1152921504606846976))) && decide (a.Net.Links.length ≤ 1152921504606846976)) && (decide (a.Cards.length ≤ 1152921504606846976) && a.Cards.all (fun x => (decide (x.Open.length ≤ 1152921504606846976) && (decide (x.Members.length ≤ 1152921504606846976) && x.Members.all (fun x => decide (x.In.length ≤ 1152921504606846976))) && decide (x.Table.length ≤ 1152921504606846976)))))))) = true := hpre
  rw [Bool.and_eq_true] at hpre
  obtain ⟨hsame, hpre⟩ := hpre
  have hsame := sameB_eq hsame
  unfold Fabric.mkTop at hsame
  simp only [Bool.and_eq_true] at hpre
  obtain ⟨h0, h1, h2⟩ := hpre
  have h0' := of_decide_eq_true h0
  have h1' := of_decide_eq_true h1
  unfold Fabric.nTop at h1'
  have p0 : 0 ≤ Net.nTop a.Net := Net.nTop_pos a.Net
  have p1 : 0 ≤ cntS Card.n_ a.Cards := cntS_nonneg Card.n_pos a.Cards
  have g0 : decide (0 ≤ k) = true := decide_eq_true (by omega)
  have f0 : decide (k + Net.nTop a.Net ≤ 4611686018427387904) = true := decide_eq_true (by omega)
  have d0 : decide (k + Net.nTop a.Net < 0) = false := decide_eq_false (by omega)
  have g1 : decide (0 ≤ k + Net.nTop a.Net) = true := decide_eq_true (by omega)
  have f1 : decide (k + Net.nTop a.Net + cntS Card.n_ a.Cards ≤ 4611686018427387904) = true := decide_eq_true (by omega)
  have d1 : decide (k + Net.nTop a.Net + cntS Card.n_ a.Cards < 0) = false := decide_eq_false (by omega)
  have s0 := congrArg Fabric.Net hsame
  simp only at s0
  have s1 := congrArg Fabric.Cards hsame
  simp only at s1
  simp only [g0, f0, d0, g1, f1, d1, s0, s1, h2, isS_enS, deS_enS, sameB_self, cond_true, cond_false, Bool.and_self, Bool.and_true, Bool.true_and, Fabric.mkTop, Fabric.nTop]
  try rfl
  try simp only [Int.add_assoc]
theorem s12 : SoundAt Go.Proofs.Try.prog Hx 12 c12 := soundAt_of T29_sound mixed func12 (by kernel_rfl) (by
  intro rows r h
  unfold c12 at h
  split at h
  · rename_i a_Net_Bridges a_Net_Links a_Cards k
    obtain ⟨hp, hr⟩ := Prod.mk.inj (Option.some.inj h)
    subst hr
    simp only [Bool.and_eq_true] at hp
    obtain ⟨⟨⟨hs0, hs1⟩, hs2⟩, hp⟩ := hp
    obtain ⟨xs0, rfl⟩ := isS_ex hs0
    obtain ⟨xs1, rfl⟩ := isS_ex hs1
    obtain ⟨xs2, rfl⟩ := isS_ex hs2
    simp only [deS_enS] at hp ⊢
    exact ⟨_, m12 ⟨⟨xs0, xs1⟩, xs2⟩ k hp⟩
  · cases h)
def T12 : Table := (12, c12) :: T29
theorem T12_sound : Table.Sound Go.Proofs.Try.prog Hx T12 := Table.sound_cons s12 T29_sound
def o47 (a : List Bool) (k : Int) : Bool × List Row × List Row := (decide (0 ≤ k) && (decide (k + cntS oneN a ≤ 4611686018427387904) && decide (a.length ≤ 1152921504606846976)), [[.int .i64 (k + cntS oneN a)]], [[.sl true 1 (enS true (markS boolMk oneN a k))]])
def c47 : Contract
  | [[.sl true 1 a], [.int .i64 k]] => some (isS Bool true a && (o47 (deS Bool a) k).1, (o47 (deS Bool a) k).2.1, (o47 (deS Bool a) k).2.2)
  | _ => none

def k47_0 (n : Nat) : Ex → St → RR := kThen (fun st ↦ runCode (Ctx.mk prog Hx (47)) (Table.call T12) n (codeAt [1, 1] (bodyOf f47)) (Lv.mk 16 [] 16) st (kLeave (Ctx.P (Ctx.mk prog Hx (47))) (List.zip (Array.toList (Go.Func.resultTypes f47)) (Array.toList (Go.Func.results f47))) [] [C.view 0 0 0 [] 1 none])) (kLeave (Ctx.P (Ctx.mk prog Hx (47))) (List.zip (Array.toList (Go.Func.resultTypes f47)) (Array.toList (Go.Func.results f47))) [] [C.view 0 0 0 [] 1 none])
def k47_1 (n : Nat) : Ex → St → RR := kBlock (0) (k47_0 n)
def S47_0 (i0 : Int) (i1 : Int) (es2 : List (List D)) : St := St.mk [V_ [C.view 0 0 0 [] 1 none], I_ i0, U_, U_, U_, I_ i1, U_, U_, U_, U_, U_, U_, U_, U_, U_, U_, U_, U_, U_, U_, U_] [Root.mk false 1 es2 0 0 true true false]
def B47_0 (n : Nat) : St → (Ex → St → RR) → RR := runCode (Ctx.mk prog Hx (47)) (Table.call T12) n (codeAt [1, 0, 1, 0, 0] (bodyOf f47)) (Lv.mk 35 [(0, 2)] 16)
def X47_2 (i0 : Int) (i1 : Int) (es2 : List (List D)) : St := St.mk [V_ [C.view 0 0 0 [] 1 none], I_ i0, U_, U_, U_, I_ i1, I_ i1, V_ [C.view 0 0 0 [] 1 none], I_ (ofNat (length es2)), B_ false, U_, U_, U_, U_, U_, U_, U_, U_, U_, U_, U_] [Root.mk false 1 es2 0 0 true true false]
theorem q47_0 (n : Nat) (i0 : Int) (i1 : Int) (es2 : List (List D)) (f : St → RR) (K : Ex → St → RR) : B47_0 n (S47_0 i0 i1 es2) (kThen (fun st ↦ f (St.head 1 35 1048546 st)) K) = bif decide (i1 < ofNat (length es2)) then bif decide (0 ≤ i1) && decide (i1 < ofNat (length es2)) then f (S47_0 (wrap i64 (i0 + 1)) (wrap i64 (i1 + 1)) (set es2 (0 + toNat i1) [D.bool (Int.tmod i0 (3) == 0)])) else none else K (Ex.exit 0) (X47_2 i0 i1 es2) := by kernel_rfl
theorem aX47_2 (n : Nat) (i0 : Int) (i1 : Int) (es2 : List (List D)) : k47_1 n (Ex.exit 0) (X47_2 i0 i1 es2) = some ([[D.int i64 i0]], [[D.sl true 1 es2]]) := by kernel_rfl
theorem r47 (a : List Bool) (k : Int) (n : Nat) : evFn ⟨prog, Hx, 47⟩ T12.call n f47 [[.sl true 1 (enS true a)], [.int .i64 k]] = loopRun (B47_0 n) 1 35 1048546 n (S47_0 k (0) (enS true a)) (k47_1 n) := by kernel_rfl
theorem m47 (a : List Bool) (k : Int) (hpre : (o47 a k).1 = true) : evFn ⟨Go.Proofs.Try.prog, Hx, 47⟩ T12.call (a.length + 1) f47 [[.sl true 1 (enS true a)], [.int .i64 k]] = some (o47 a k).2 := by
  refine (r47 a k _).trans ?_
  show _ = (some ([[.int .i64 (k + cntS oneN a)]], [[.sl true 1 (enS true (markS boolMk oneN a k))]]) : Option (List Row × List Row))
  replace hpre : (decide (0 ≤ k) && (decide (k + cntS oneN a ≤ 4611686018427387904) && decide (a.length ≤ 1152921504606846976))) = true := hpre
  simp only [Bool.and_eq_true, decide_eq_true_eq] at hpre
  obtain ⟨h0, h1, h2⟩ := hpre
  refine loop_list (xs := a) (fun i (v : List Bool × Int) => S47_0 v.2 (Int.ofNat i) (enS true (v.1 ++ a.drop i))) (fun i v => v.1.length = i ∧ 0 ≤ v.2 ∧ v.2 + cntS oneN (a.drop i) ≤ 4611686018427387904) (fun _ v rest => some ([[D.int .i64 (v.2 + cntS oneN rest)]], [[D.sl true 1 (enS true (v.1 ++ markS boolMk oneN rest v.2))]])) ?_ ?_ (a.length + 1) ([], k) (by omega) ⟨rfl, h0, h1⟩
  · rintro ⟨pre, k⟩ ⟨hl, hk0, hk1⟩ f
    refine (q47_0 _ _ _ _ f _).trans ?_
    simp only [enS_length, List.drop_length, List.append_nil, hl, dec_lt, Nat.lt_irrefl, decide_false, cond_false]
    refine (aX47_2 _ _ _ _).trans ?_
    simp only [List.append_nil, cntS, markS, Int.add_zero]
  · rintro i ⟨pre, k⟩ hi ⟨hl, hk0, hk1⟩ f hf
    simp only at hl hk0 hk1
    rw [List.drop_eq_getElem_cons hi] at hk1
    generalize hx : a[i] = x at hk1 ⊢
    have hc := cntS_nonneg (n := oneN) oneN_pos (a.drop (i + 1))
    have hn : oneN x = 1 := rfl
    simp only [cntS, hn] at hk1
    refine (q47_0 _ _ _ _ f _).trans ?_
    rw [List.drop_eq_getElem_cons hi, hx]
    have hm := mid_get pre x (a.drop (i + 1)) hl
    have hat := mid_at pre x (a.drop (i + 1)) hl hm
    have hs : ∀ R, ((enS true (pre ++ x :: a.drop (i + 1))).set i R).getD i [] = R := fun R => getD_set_same _ _ _ _ (by rw [enS_length]; exact hm)
    simp only [List.length_set, enS_length, toNat_of, Nat.zero_add, dec_lt, dec_ge, hm, hs, List.set_set, enS_get _ hm, hat, decide_true, cond_true, Bool.and_self, wrap_succ (show i < 4611686018427387904 by omega), En.enc, List.append_eq, List.take_succ_cons, List.take_zero, List.drop_succ_cons, List.drop_zero, List.cons_append, List.nil_append]
    have hw1 : IntKind.wrap IntKind.i64 (k + 1) = k + 1 := wrap_le (by omega) (by omega)
    simp only [hw1]
    have he : k + 1 = k + oneN x := by omega
    skip
    refine (congrArg f (congrArg (S47_0 _ _) ((enS_set true _ i (boolMk x k)).trans (congrArg (enS true) (mid_set pre x _ _ hl))))).trans ?_
    refine (hf (pre ++ [boolMk x k], k + 1) ⟨by simp [hl], by simp only; omega, by simp only; omega⟩).trans ?_
    show _ = some ([[D.int .i64 (k + (oneN x + cntS oneN (a.drop (i + 1))))]], [[D.sl true 1 (enS true (pre ++ (boolMk x k :: markS boolMk oneN (a.drop (i + 1)) (k + oneN x))))]])
    rw [he, List.append_assoc, List.singleton_append, Int.add_assoc]
theorem s47 : SoundAt Go.Proofs.Try.prog Hx 47 c47 := soundAt_of T12_sound mixed func47 (by kernel_rfl) (by
  intro rows r h
  unfold c47 at h
  split at h
  · rename_i a k
    obtain ⟨hp, hr⟩ := Prod.mk.inj (Option.some.inj h)
    subst hr
    simp only [Bool.and_eq_true] at hp
    obtain ⟨hs0, hp⟩ := hp
    obtain ⟨xs0, rfl⟩ := isS_ex hs0
    simp only [deS_enS] at hp ⊢
    exact ⟨_, m47 xs0 k hp⟩
  · cases h)
def T47 : Table := (47, c47) :: T12
theorem T47_sound : Table.Sound Go.Proofs.Try.prog Hx T47 := Table.sound_cons s47 T12_sound
def o46 (a : List Port) (k : Int) : Bool × List Row × List Row := (decide (0 ≤ k) && (decide (k + cntS Port.n_ a ≤ 4611686018427387904) && decide (a.length ≤ 1152921504606846976)), [[.int .i64 (k + cntS Port.n_ a)]], [[.sl true 11 (enS true (markS Port.mk_ Port.n_ a k))]])
def c46 : Contract
  | [[.sl true 11 a], [.int .i64 k]] => some (isS Port true a && (o46 (deS Port a) k).1, (o46 (deS Port a) k).2.1, (o46 (deS Port a) k).2.2)
  | _ => none

def k46_0 (n : Nat) : Ex → St → RR := kThen (fun st ↦ runCode (Ctx.mk prog Hx (46)) (Table.call T47) n (codeAt [1, 1] (bodyOf f46)) (Lv.mk 16 [] 16) st (kLeave (Ctx.P (Ctx.mk prog Hx (46))) (List.zip (Array.toList (Go.Func.resultTypes f46)) (Array.toList (Go.Func.results f46))) [] [C.view 0 0 0 [] 11 none])) (kLeave (Ctx.P (Ctx.mk prog Hx (46))) (List.zip (Array.toList (Go.Func.resultTypes f46)) (Array.toList (Go.Func.results f46))) [] [C.view 0 0 0 [] 11 none])
def k46_1 (n : Nat) : Ex → St → RR := kBlock (0) (k46_0 n)
def S46_0 (i0 : Int) (i1 : Int) (es2 : List (List D)) : St := St.mk [V_ [C.view 0 0 0 [] 11 none], I_ i0, U_, U_, U_, I_ i1, U_, U_, U_, U_, U_, U_, U_, U_, U_, U_, U_, U_, U_, U_, U_, U_, U_, U_, U_, U_, U_, U_, U_, U_, U_, U_, U_, U_, U_, U_, U_, U_, U_, U_, U_, U_, U_, U_, U_, U_, U_, U_, U_, U_, U_, U_, U_, U_, U_, U_, U_, U_, U_, U_, U_, U_, U_, U_, U_, U_, U_, U_, U_, U_, U_, U_, U_, U_, U_, U_, U_, U_, U_, U_, U_, U_, U_, U_, U_, U_, U_, U_, U_, U_, U_, U_, U_, U_, U_, U_, U_, U_, U_, U_] [Root.mk false 11 es2 0 0 true true false]
def B46_0 (n : Nat) : St → (Ex → St → RR) → RR := runCode (Ctx.mk prog Hx (46)) (Table.call T47) n (codeAt [1, 0, 1, 0, 0] (bodyOf f46)) (Lv.mk 35 [(0, 2)] 16)
def X46_2 (i0 : Int) (i1 : Int) (es2 : List (List D)) : St := St.mk [V_ [C.view 0 0 0 [] 11 none], I_ i0, U_, U_, U_, I_ i1, I_ i1, V_ [C.view 0 0 0 [] 11 none], I_ (ofNat (length es2)), B_ false, U_, U_, U_, U_, U_, U_, U_, U_, U_, U_, U_, U_, U_, U_, U_, U_, U_, U_, U_, U_, U_, U_, U_, U_, U_, U_, U_, U_, U_, U_, U_, U_, U_, U_, U_, U_, U_, U_, U_, U_, U_, U_, U_, U_, U_, U_, U_, U_, U_, U_, U_, U_, U_, U_, U_, U_, U_, U_, U_, U_, U_, U_, U_, U_, U_, U_, U_, U_, U_, U_, U_, U_, U_, U_, U_, U_, U_, U_, U_, U_, U_, U_, U_, U_, U_, U_, U_, U_, U_, U_] [Root.mk false 11 es2 0 0 true true false]
def w46_3 (i0 : Int) (i1 : Int) (es2 : List (List D)) : List (List D) := set es2 (0 + toNat i1) (D.bool (Int.tmod i0 (3) == 0) :: drop 1 (getD es2 (0 + toNat i1) []))
def w46_4 (i0 : Int) (i1 : Int) (es2 : List (List D)) : List (List D) := set (w46_3 i0 i1 es2) (0 + toNat i1) (append (append (take 1 (getD (w46_3 i0 i1 es2) (0 + toNat i1) [])) [D.bool (Int.tmod (wrap i64 (i0 + 1)) (3) == 0)]) (drop 2 (getD (w46_3 i0 i1 es2) (0 + toNat i1) [])))
def w46_5 (i0 : Int) (i1 : Int) (es2 : List (List D)) : List (List D) := set (w46_4 i0 i1 es2) (0 + toNat i1) (append (append (take 2 (getD (w46_4 i0 i1 es2) (0 + toNat i1) [])) [D.int i64 (wrap i64 (wrap i64 (i0 + 1) + 1))]) (drop 3 (getD (w46_4 i0 i1 es2) (0 + toNat i1) [])))
def w46_6 (i0 : Int) (i1 : Int) (es2 : List (List D)) : List (List D) := set (w46_5 i0 i1 es2) (0 + toNat i1) (append (append (take 3 (getD (w46_5 i0 i1 es2) (0 + toNat i1) [])) [D.int i64 (wrap i64 (wrap i64 (wrap i64 (i0 + 1) + 1) + 1))]) (drop 4 (getD (w46_5 i0 i1 es2) (0 + toNat i1) [])))
def w46_7 (i0 : Int) (i1 : Int) (es2 : List (List D)) : List (List D) := set (w46_6 i0 i1 es2) (0 + toNat i1) (append (append (take 4 (getD (w46_6 i0 i1 es2) (0 + toNat i1) [])) [D.int i64 (wrap i64 (wrap i64 (wrap i64 (wrap i64 (i0 + 1) + 1) + 1) + 1))]) (drop 5 (getD (w46_6 i0 i1 es2) (0 + toNat i1) [])))
def w46_8 (i0 : Int) (i1 : Int) (es2 : List (List D)) : List (List D) := set (w46_7 i0 i1 es2) (0 + toNat i1) (append (append (take 5 (getD (w46_7 i0 i1 es2) (0 + toNat i1) [])) [D.int i64 (wrap i64 (wrap i64 (wrap i64 (wrap i64 (wrap i64 (i0 + 1) + 1) + 1) + 1) + 1))]) (drop 6 (getD (w46_7 i0 i1 es2) (0 + toNat i1) [])))
def w46_9 (i0 : Int) (i1 : Int) (es2 : List (List D)) : List (List D) := set (w46_8 i0 i1 es2) (0 + toNat i1) (append (append (take 6 (getD (w46_8 i0 i1 es2) (0 + toNat i1) [])) [D.int i64 (wrap i64 (wrap i64 (wrap i64 (wrap i64 (wrap i64 (wrap i64 (i0 + 1) + 1) + 1) + 1) + 1) + 1))]) (drop 7 (getD (w46_8 i0 i1 es2) (0 + toNat i1) [])))
def w46_10 (i0 : Int) (i1 : Int) (es2 : List (List D)) : List (List D) := set (w46_9 i0 i1 es2) (0 + toNat i1) (append (append (take 7 (getD (w46_9 i0 i1 es2) (0 + toNat i1) [])) [D.int i64 (wrap i64 (wrap i64 (wrap i64 (wrap i64 (wrap i64 (wrap i64 (wrap i64 (i0 + 1) + 1) + 1) + 1) + 1) + 1) + 1))]) (drop 8 (getD (w46_9 i0 i1 es2) (0 + toNat i1) [])))
def w46_11 (i0 : Int) (i1 : Int) (es2 : List (List D)) : List (List D) := set (w46_10 i0 i1 es2) (0 + toNat i1) (append (append (take 8 (getD (w46_10 i0 i1 es2) (0 + toNat i1) [])) [D.int i64 (wrap i64 (wrap i64 (wrap i64 (wrap i64 (wrap i64 (wrap i64 (wrap i64 (wrap i64 (i0 + 1) + 1) + 1) + 1) + 1) + 1) + 1) + 1))]) (drop 9 (getD (w46_10 i0 i1 es2) (0 + toNat i1) [])))
def w46_12 (i0 : Int) (i1 : Int) (es2 : List (List D)) : List (List D) := set (w46_11 i0 i1 es2) (0 + toNat i1) (append (append (take 9 (getD (w46_11 i0 i1 es2) (0 + toNat i1) [])) [D.int i64 (wrap i64 (wrap i64 (wrap i64 (wrap i64 (wrap i64 (wrap i64 (wrap i64 (wrap i64 (wrap i64 (i0 + 1) + 1) + 1) + 1) + 1) + 1) + 1) + 1) + 1))]) (drop 10 (getD (w46_11 i0 i1 es2) (0 + toNat i1) [])))
theorem q46_0 (n : Nat) (i0 : Int) (i1 : Int) (es2 : List (List D)) (f : St → RR) (K : Ex → St → RR) : B46_0 n (S46_0 i0 i1 es2) (kThen (fun st ↦ f (St.head 1 35 633825300114114700748351602658 st)) K) = bif decide (i1 < ofNat (length es2)) then bif decide (0 ≤ i1) && decide (i1 < ofNat (length es2)) then bif decide (0 ≤ i1) && decide (i1 < ofNat (length (w46_3 i0 i1 es2))) then bif decide (0 ≤ i1) && decide (i1 < ofNat (length (w46_4 i0 i1 es2))) then bif decide (0 ≤ i1) && decide (i1 < ofNat (length (w46_5 i0 i1 es2))) then bif decide (0 ≤ i1) && decide (i1 < ofNat (length (w46_6 i0 i1 es2))) then bif decide (0 ≤ i1) && decide (i1 < ofNat (length (w46_7 i0 i1 es2))) then bif decide (0 ≤ i1) && decide (i1 < ofNat (length (w46_8 i0 i1 es2))) then bif decide (0 ≤ i1) && decide (i1 < ofNat (length (w46_9 i0 i1 es2))) then bif decide (0 ≤ i1) && decide (i1 < ofNat (length (w46_10 i0 i1 es2))) then bif decide (0 ≤ i1) && decide (i1 < ofNat (length (w46_11 i0 i1 es2))) then bif decide (0 ≤ i1) && decide (i1 < ofNat (length (w46_12 i0 i1 es2))) then f (S46_0 (wrap i64 (wrap i64 (wrap i64 (wrap i64 (wrap i64 (wrap i64 (wrap i64 (wrap i64 (wrap i64 (wrap i64 (wrap i64 (i0 + 1) + 1) + 1) + 1) + 1) + 1) + 1) + 1) + 1) + 1) + 1)) (wrap i64 (i1 + 1)) (set (w46_12 i0 i1 es2) (0 + toNat i1) (append (append (take 10 (getD (w46_12 i0 i1 es2) (0 + toNat i1) [])) [D.bool (Int.tmod (wrap i64 (wrap i64 (wrap i64 (wrap i64 (wrap i64 (wrap i64 (wrap i64 (wrap i64 (wrap i64 (wrap i64 (i0 + 1) + 1) + 1) + 1) + 1) + 1) + 1) + 1) + 1) + 1)) (3) == 0)]) (drop 11 (getD (w46_12 i0 i1 es2) (0 + toNat i1) []))))) else none else none else none else none else none else none else none else none else none else none else none else K (Ex.exit 0) (X46_2 i0 i1 es2) := by kernel_rfl
theorem aX46_2 (n : Nat) (i0 : Int) (i1 : Int) (es2 : List (List D)) : k46_1 n (Ex.exit 0) (X46_2 i0 i1 es2) = some ([[D.int i64 i0]], [[D.sl true 11 es2]]) := by kernel_rfl
theorem r46 (a : List Port) (k : Int) (n : Nat) : evFn ⟨prog, Hx, 46⟩ T47.call n f46 [[.sl true 11 (enS true a)], [.int .i64 k]] = loopRun (B46_0 n) 1 35 633825300114114700748351602658 n (S46_0 k (0) (enS true a)) (k46_1 n) := by kernel_rfl
theorem m46 (a : List Port) (k : Int) (hpre : (o46 a k).1 = true) : evFn ⟨Go.Proofs.Try.prog, Hx, 46⟩ T47.call (a.length + 1) f46 [[.sl true 11 (enS true a)], [.int .i64 k]] = some (o46 a k).2 := by
  refine (r46 a k _).trans ?_
  show _ = (some ([[.int .i64 (k + cntS Port.n_ a)]], [[.sl true 11 (enS true (markS Port.mk_ Port.n_ a k))]]) : Option (List Row × List Row))
  replace hpre : (decide (0 ≤ k) && (decide (k + cntS Port.n_ a ≤ 4611686018427387904) && decide (a.length ≤ 1152921504606846976))) = true := hpre
  simp only [Bool.and_eq_true, decide_eq_true_eq] at hpre
  obtain ⟨h0, h1, h2⟩ := hpre
  refine loop_list (xs := a) (fun i (v : List Port × Int) => S46_0 v.2 (Int.ofNat i) (enS true (v.1 ++ a.drop i))) (fun i v => v.1.length = i ∧ 0 ≤ v.2 ∧ v.2 + cntS Port.n_ (a.drop i) ≤ 4611686018427387904) (fun _ v rest => some ([[D.int .i64 (v.2 + cntS Port.n_ rest)]], [[D.sl true 11 (enS true (v.1 ++ markS Port.mk_ Port.n_ rest v.2))]])) ?_ ?_ (a.length + 1) ([], k) (by omega) ⟨rfl, h0, h1⟩
  · rintro ⟨pre, k⟩ ⟨hl, hk0, hk1⟩ f
    refine (q46_0 _ _ _ _ f _).trans ?_
    simp only [enS_length, List.drop_length, List.append_nil, hl, dec_lt, Nat.lt_irrefl, decide_false, cond_false]
    refine (aX46_2 _ _ _ _).trans ?_
    simp only [List.append_nil, cntS, markS, Int.add_zero]
  · rintro i ⟨pre, k⟩ hi ⟨hl, hk0, hk1⟩ f hf
    simp only at hl hk0 hk1
    rw [List.drop_eq_getElem_cons hi] at hk1
    generalize hx : a[i] = x at hk1 ⊢
    have hc := cntS_nonneg (n := Port.n_) Port.n_pos (a.drop (i + 1))
    have hn : Port.n_ x = 11 := rfl
    simp only [cntS, hn] at hk1
    refine (q46_0 _ _ _ _ f _).trans ?_
    rw [List.drop_eq_getElem_cons hi, hx]
    have hm := mid_get pre x (a.drop (i + 1)) hl
    have hat := mid_at pre x (a.drop (i + 1)) hl hm
    have hs : ∀ R, ((enS true (pre ++ x :: a.drop (i + 1))).set i R).getD i [] = R := fun R => getD_set_same _ _ _ _ (by rw [enS_length]; exact hm)
    simp only [w46_3, w46_4, w46_5, w46_6, w46_7, w46_8, w46_9, w46_10, w46_11, w46_12, List.length_set, enS_length, toNat_of, Nat.zero_add, dec_lt, dec_ge, hm, hs, List.set_set, enS_get _ hm, hat, decide_true, cond_true, Bool.and_self, wrap_succ (show i < 4611686018427387904 by omega), En.enc, List.append_eq, List.take_succ_cons, List.take_zero, List.drop_succ_cons, List.drop_zero, List.cons_append, List.nil_append]
    have hw1 : IntKind.wrap IntKind.i64 (k + 1) = k + 1 := wrap_le (by omega) (by omega)
    have hw2 : IntKind.wrap IntKind.i64 (k + 1 + 1) = k + 1 + 1 := wrap_le (by omega) (by omega)
    have hw3 : IntKind.wrap IntKind.i64 (k + 1 + 1 + 1) = k + 1 + 1 + 1 := wrap_le (by omega) (by omega)
    have hw4 : IntKind.wrap IntKind.i64 (k + 1 + 1 + 1 + 1) = k + 1 + 1 + 1 + 1 := wrap_le (by omega) (by omega)
    have hw5 : IntKind.wrap IntKind.i64 (k + 1 + 1 + 1 + 1 + 1) = k + 1 + 1 + 1 + 1 + 1 := wrap_le (by omega) (by omega)
    have hw6 : IntKind.wrap IntKind.i64 (k + 1 + 1 + 1 + 1 + 1 + 1) = k + 1 + 1 + 1 + 1 + 1 + 1 := wrap_le (by omega) (by omega)
    have hw7 : IntKind.wrap IntKind.i64 (k + 1 + 1 + 1 + 1 + 1 + 1 + 1) = k + 1 + 1 + 1 + 1 + 1 + 1 + 1 := wrap_le (by omega) (by omega)
    have hw8 : IntKind.wrap IntKind.i64 (k + 1 + 1 + 1 + 1 + 1 + 1 + 1 + 1) = k + 1 + 1 + 1 + 1 + 1 + 1 + 1 + 1 := wrap_le (by omega) (by omega)
    have hw9 : IntKind.wrap IntKind.i64 (k + 1 + 1 + 1 + 1 + 1 + 1 + 1 + 1 + 1) = k + 1 + 1 + 1 + 1 + 1 + 1 + 1 + 1 + 1 := wrap_le (by omega) (by omega)
    have hw10 : IntKind.wrap IntKind.i64 (k + 1 + 1 + 1 + 1 + 1 + 1 + 1 + 1 + 1 + 1) = k + 1 + 1 + 1 + 1 + 1 + 1 + 1 + 1 + 1 + 1 := wrap_le (by omega) (by omega)
    have hw11 : IntKind.wrap IntKind.i64 (k + 1 + 1 + 1 + 1 + 1 + 1 + 1 + 1 + 1 + 1 + 1) = k + 1 + 1 + 1 + 1 + 1 + 1 + 1 + 1 + 1 + 1 + 1 := wrap_le (by omega) (by omega)
    simp only [hw1, hw2, hw3, hw4, hw5, hw6, hw7, hw8, hw9, hw10, hw11]
    have he : k + 1 + 1 + 1 + 1 + 1 + 1 + 1 + 1 + 1 + 1 + 1 = k + Port.n_ x := by omega
    skip
    refine (congrArg f (congrArg (S46_0 _ _) ((enS_set true _ i (Port.mk_ x k)).trans (congrArg (enS true) (mid_set pre x _ _ hl))))).trans ?_
    refine (hf (pre ++ [Port.mk_ x k], k + 1 + 1 + 1 + 1 + 1 + 1 + 1 + 1 + 1 + 1 + 1) ⟨by simp [hl], by simp only; omega, by simp only; omega⟩).trans ?_
    show _ = some ([[D.int .i64 (k + (Port.n_ x + cntS Port.n_ (a.drop (i + 1))))]], [[D.sl true 11 (enS true (pre ++ (Port.mk_ x k :: markS Port.mk_ Port.n_ (a.drop (i + 1)) (k + Port.n_ x))))]])
    rw [he, List.append_assoc, List.singleton_append, Int.add_assoc]
theorem s46 : SoundAt Go.Proofs.Try.prog Hx 46 c46 := soundAt_of T47_sound mixed func46 (by kernel_rfl) (by
  intro rows r h
  unfold c46 at h
  split at h
  · rename_i a k
    obtain ⟨hp, hr⟩ := Prod.mk.inj (Option.some.inj h)
    subst hr
    simp only [Bool.and_eq_true] at hp
    obtain ⟨hs0, hp⟩ := hp
    obtain ⟨xs0, rfl⟩ := isS_ex hs0
    simp only [deS_enS] at hp ⊢
    exact ⟨_, m46 xs0 k hp⟩
  · cases h)
def T46 : Table := (46, c46) :: T47
theorem T46_sound : Table.Sound Go.Proofs.Try.prog Hx T46 := Table.sound_cons s46 T47_sound
def o26 (a : List Bridge) (k : Int) : Bool × List Row × List Row := (decide (0 ≤ k) && (decide (k + cntS Bridge.n_ a ≤ 4611686018427387904) && (decide (a.length ≤ 1152921504606846976) && a.all (fun x => decide (x.Ports.length ≤ 1152921504606846976)))), [[.int .i64 (k + cntS Bridge.n_ a)]], [[.sl true 2 (enS true (markS Bridge.mk_ Bridge.n_ a k))]])
def c26 : Contract
  | [[.sl true 2 a], [.int .i64 k]] => some (isS Bridge true a && (o26 (deS Bridge a) k).1, (o26 (deS Bridge a) k).2.1, (o26 (deS Bridge a) k).2.2)
  | _ => none

def k26_0 (n : Nat) : Ex → St → RR := kThen (fun st ↦ runCode (Ctx.mk prog Hx (26)) (Table.call T46) n (codeAt [1, 1] (bodyOf f26)) (Lv.mk 16 [] 16) st (kLeave (Ctx.P (Ctx.mk prog Hx (26))) (List.zip (Array.toList (Go.Func.resultTypes f26)) (Array.toList (Go.Func.results f26))) [] [C.view 0 0 0 [] 2 none])) (kLeave (Ctx.P (Ctx.mk prog Hx (26))) (List.zip (Array.toList (Go.Func.resultTypes f26)) (Array.toList (Go.Func.results f26))) [] [C.view 0 0 0 [] 2 none])
def k26_1 (n : Nat) : Ex → St → RR := kBlock (0) (k26_0 n)
def S26_0 (i0 : Int) (i1 : Int) (es2 : List (List D)) : St := St.mk [V_ [C.view 0 0 0 [] 2 none], I_ i0, U_, U_, U_, I_ i1, U_, U_, U_, U_, U_, U_, U_, U_, U_, U_, U_, U_, U_, U_, U_, U_, U_, U_, U_, U_, U_] [Root.mk false 2 es2 0 0 true true false]
def B26_0 (n : Nat) : St → (Ex → St → RR) → RR := runCode (Ctx.mk prog Hx (26)) (Table.call T46) n (codeAt [1, 0, 1, 0, 0] (bodyOf f26)) (Lv.mk 35 [(0, 2)] 16)
def X26_2 (i0 : Int) (i1 : Int) (es2 : List (List D)) : St := St.mk [V_ [C.view 0 0 0 [] 2 none], I_ i0, U_, U_, U_, I_ i1, I_ i1, V_ [C.view 0 0 0 [] 2 none], I_ (ofNat (length es2)), B_ false, U_, U_, U_, U_, U_, U_, U_, U_, U_, U_, U_, U_, U_, U_, U_, U_, U_] [Root.mk false 2 es2 0 0 true true false]
def w26_3 (i0 : Int) (i1 : Int) (es2 : List (List D)) : List (List D) := set es2 (0 + toNat i1) (D.int i64 i0 :: drop 1 (getD es2 (0 + toNat i1) []))
def w26_4 (i0 : Int) (i1 : Int) (es2 : List (List D)) : List (List D) := set (w26_3 i0 i1 es2) (0 + toNat i1) (set (getD (w26_3 i0 i1 es2) (0 + toNat i1) []) 1 D.dead)
theorem q26_0 (n : Nat) (i0 : Int) (i1 : Int) (es2 : List (List D)) (f : St → RR) (K : Ex → St → RR) : B26_0 n (S26_0 i0 i1 es2) (kThen (fun st ↦ f (St.head 1 35 67108834 st)) K) = bif decide (i1 < ofNat (length es2)) then bif decide (0 ≤ i1) && decide (i1 < ofNat (length es2)) then bif decide (0 ≤ i1) && decide (i1 < ofNat (length (w26_3 i0 i1 es2))) then bif Leaf.fit true (Leaf.sl 11 true) (getD (getD (w26_3 i0 i1 es2) (0 + toNat i1) []) 1 D.dead) && true then bif D.isOwn (getD (getD (w26_3 i0 i1 es2) (0 + toNat i1) []) 1 D.dead) && true && true && true then bif isS Port true (D.rows (getD (getD (w26_3 i0 i1 es2) (0 + toNat i1) []) 1 D.dead)) && (decide (0 ≤ wrap i64 (i0 + 1)) && (decide (wrap i64 (i0 + 1) + cntS Port.n_ (deS Port (D.rows (getD (getD (w26_3 i0 i1 es2) (0 + toNat i1) []) 1 D.dead))) ≤ 4611686018427387904) && decide (length (deS Port (D.rows (getD (getD (w26_3 i0 i1 es2) (0 + toNat i1) []) 1 D.dead))) ≤ 1152921504606846976))) then bif D.isOwn (getD (getD (w26_3 i0 i1 es2) (0 + toNat i1) []) 1 D.dead) && true && true && true then f (S26_0 (wrap i64 (i0 + 1) + cntS Port.n_ (deS Port (D.rows (getD (getD (w26_3 i0 i1 es2) (0 + toNat i1) []) 1 D.dead)))) (wrap i64 (i1 + 1)) (set (w26_4 i0 i1 es2) (0 + toNat i1) (set (getD (w26_4 i0 i1 es2) (0 + toNat i1) []) 1 (D.sl true 11 (enS true (markS Port.mk_ Port.n_ (deS Port (D.rows (getD (getD (w26_3 i0 i1 es2) (0 + toNat i1) []) 1 D.dead))) (wrap i64 (i0 + 1)))))))) else none else none else none else none else none else none else K (Ex.exit 0) (X26_2 i0 i1 es2) := by kernel_rfl
theorem aX26_2 (n : Nat) (i0 : Int) (i1 : Int) (es2 : List (List D)) : k26_1 n (Ex.exit 0) (X26_2 i0 i1 es2) = some ([[D.int i64 i0]], [[D.sl true 2 es2]]) := by kernel_rfl
theorem r26 (a : List Bridge) (k : Int) (n : Nat) : evFn ⟨prog, Hx, 26⟩ T46.call n f26 [[.sl true 2 (enS true a)], [.int .i64 k]] = loopRun (B26_0 n) 1 35 67108834 n (S26_0 k (0) (enS true a)) (k26_1 n) := by kernel_rfl
theorem m26 (a : List Bridge) (k : Int) (hpre : (o26 a k).1 = true) : evFn ⟨Go.Proofs.Try.prog, Hx, 26⟩ T46.call (a.length + 1) f26 [[.sl true 2 (enS true a)], [.int .i64 k]] = some (o26 a k).2 := by
  refine (r26 a k _).trans ?_
  show _ = (some ([[.int .i64 (k + cntS Bridge.n_ a)]], [[.sl true 2 (enS true (markS Bridge.mk_ Bridge.n_ a k))]]) : Option (List Row × List Row))
  replace hpre : (decide (0 ≤ k) && (decide (k + cntS Bridge.n_ a ≤ 4611686018427387904) && (decide (a.length ≤ 1152921504606846976) && a.all (fun x => decide (x.Ports.length ≤ 1152921504606846976))))) = true := hpre
  simp only [Bool.and_eq_true] at hpre
  obtain ⟨h0, h1, h2, h3⟩ := hpre
  have h0 := of_decide_eq_true h0
  have h1 := of_decide_eq_true h1
  have h2 := of_decide_eq_true h2
  refine loop_list (xs := a) (fun i (v : List Bridge × Int) => S26_0 v.2 (Int.ofNat i) (enS true (v.1 ++ a.drop i))) (fun i v => v.1.length = i ∧ 0 ≤ v.2 ∧ v.2 + cntS Bridge.n_ (a.drop i) ≤ 4611686018427387904) (fun _ v rest => some ([[D.int .i64 (v.2 + cntS Bridge.n_ rest)]], [[D.sl true 2 (enS true (v.1 ++ markS Bridge.mk_ Bridge.n_ rest v.2))]])) ?_ ?_ (a.length + 1) ([], k) (by omega) ⟨rfl, h0, h1⟩
  · rintro ⟨pre, k⟩ ⟨hl, hk0, hk1⟩ f
    refine (q26_0 _ _ _ _ f _).trans ?_
    simp only [enS_length, List.drop_length, List.append_nil, hl, dec_lt, Nat.lt_irrefl, decide_false, cond_false]
    refine (aX26_2 _ _ _ _).trans ?_
    simp only [List.append_nil, cntS, markS, Int.add_zero]
  · rintro i ⟨pre, k⟩ hi ⟨hl, hk0, hk1⟩ f hf
    simp only at hl hk0 hk1
    rw [List.drop_eq_getElem_cons hi] at hk1
    have hel := List.all_eq_true.1 h3 _ (List.getElem_mem hi)
    generalize hx : a[i] = x at hk1 hel ⊢
    have hc := cntS_nonneg (n := Bridge.n_) Bridge.n_pos (a.drop (i + 1))
    try simp only [Bool.and_eq_true] at hel
    simp only [cntS, Bridge.n_] at hk1
    have p1 : 0 ≤ cntS Port.n_ x.Ports := cntS_nonneg Port.n_pos x.Ports
    have w0 : IntKind.wrap IntKind.i64 (k + 1) = k + 1 := wrap_le (by omega) (by omega)
    have g1 : decide (0 ≤ k + 1) = true := decide_eq_true (by omega)
    have f1 : decide (k + 1 + cntS Port.n_ x.Ports ≤ 4611686018427387904) = true := decide_eq_true (by omega)
    refine (q26_0 _ _ _ _ f _).trans ?_
    rw [List.drop_eq_getElem_cons hi, hx]
    have hm := mid_get pre x (a.drop (i + 1)) hl
    have hat := mid_at pre x (a.drop (i + 1)) hl hm
    have hs : ∀ R, ((enS true (pre ++ x :: a.drop (i + 1))).set i R).getD i [] = R := fun R => getD_set_same _ _ _ _ (by rw [enS_length]; exact hm)
    simp only [w26_3, w26_4, List.length_set, enS_length, toNat_of, Nat.zero_add, dec_lt, dec_ge, hm, hs, List.set_set, enS_get _ hm, hat, decide_true, cond_true, Bool.and_self, Bool.and_true, Bool.true_and, wrap_succ (show i < 4611686018427387904 by omega), En.enc, List.append_eq, List.take_succ_cons, List.take_zero, List.drop_succ_cons, List.drop_zero, List.cons_append, List.nil_append, List.getD_cons_zero, List.getD_cons_succ, D.num, D.flag, D.text, D.rows, D.isOwn, pathOk, Leaf.fit, beq_self_eq_true, isS_enS, deS_enS, deepRows_enS, List.set_cons_zero, List.set_cons_succ, hel, w0, g1, f1]
    have he : k + 1 + cntS Port.n_ x.Ports = k + Bridge.n_ x := by simp only [Bridge.n_]; omega
    refine (congrArg f (congrArg (S26_0 _ _) ((enS_set true _ i (Bridge.mk_ x k)).trans (congrArg (enS true) (mid_set pre x _ _ hl))))).trans ?_
    refine (hf (pre ++ [Bridge.mk_ x k], k + 1 + cntS Port.n_ x.Ports) ⟨by simp [hl], by simp only; omega, by simp only; omega⟩).trans ?_
    show _ = some ([[D.int .i64 (k + (Bridge.n_ x + cntS Bridge.n_ (a.drop (i + 1))))]], [[D.sl true 2 (enS true (pre ++ (Bridge.mk_ x k :: markS Bridge.mk_ Bridge.n_ (a.drop (i + 1)) (k + Bridge.n_ x))))]])
    rw [he, List.append_assoc, List.singleton_append, Int.add_assoc]
theorem s26 : SoundAt Go.Proofs.Try.prog Hx 26 c26 := soundAt_of T46_sound mixed func26 (by kernel_rfl) (by
  intro rows r h
  unfold c26 at h
  split at h
  · rename_i a k
    obtain ⟨hp, hr⟩ := Prod.mk.inj (Option.some.inj h)
    subst hr
    simp only [Bool.and_eq_true] at hp
    obtain ⟨hs0, hp⟩ := hp
    obtain ⟨xs0, rfl⟩ := isS_ex hs0
    simp only [deS_enS] at hp ⊢
    exact ⟨_, m26 xs0 k hp⟩
  · cases h)
def T26 : Table := (26, c26) :: T46
theorem T26_sound : Table.Sound Go.Proofs.Try.prog Hx T26 := Table.sound_cons s26 T46_sound
def o66 (a : List Int) (k : Int) : Bool × List Row × List Row := (decide (0 ≤ k) && (decide (k + cntS oneN a ≤ 4611686018427387904) && decide (a.length ≤ 1152921504606846976)), [[.int .i64 (k + cntS oneN a)]], [[.sl true 1 (enS true (markS intMk oneN a k))]])
def c66 : Contract
  | [[.sl true 1 a], [.int .i64 k]] => some (isS Int true a && (o66 (deS Int a) k).1, (o66 (deS Int a) k).2.1, (o66 (deS Int a) k).2.2)
  | _ => none

def k66_0 (n : Nat) : Ex → St → RR := kThen (fun st ↦ runCode (Ctx.mk prog Hx (66)) (Table.call T26) n (codeAt [1, 1] (bodyOf f66)) (Lv.mk 16 [] 16) st (kLeave (Ctx.P (Ctx.mk prog Hx (66))) (List.zip (Array.toList (Go.Func.resultTypes f66)) (Array.toList (Go.Func.results f66))) [] [C.view 0 0 0 [] 1 none])) (kLeave (Ctx.P (Ctx.mk prog Hx (66))) (List.zip (Array.toList (Go.Func.resultTypes f66)) (Array.toList (Go.Func.results f66))) [] [C.view 0 0 0 [] 1 none])
def k66_1 (n : Nat) : Ex → St → RR := kBlock (0) (k66_0 n)
def S66_0 (i0 : Int) (i1 : Int) (es2 : List (List D)) : St := St.mk [V_ [C.view 0 0 0 [] 1 none], I_ i0, U_, U_, U_, I_ i1, U_, U_, U_, U_, U_, U_, U_, U_, U_, U_, U_, U_, U_] [Root.mk false 1 es2 0 0 true true false]
def B66_0 (n : Nat) : St → (Ex → St → RR) → RR := runCode (Ctx.mk prog Hx (66)) (Table.call T26) n (codeAt [1, 0, 1, 0, 0] (bodyOf f66)) (Lv.mk 35 [(0, 2)] 16)
def X66_2 (i0 : Int) (i1 : Int) (es2 : List (List D)) : St := St.mk [V_ [C.view 0 0 0 [] 1 none], I_ i0, U_, U_, U_, I_ i1, I_ i1, V_ [C.view 0 0 0 [] 1 none], I_ (ofNat (length es2)), B_ false, U_, U_, U_, U_, U_, U_, U_, U_, U_] [Root.mk false 1 es2 0 0 true true false]
theorem q66_0 (n : Nat) (i0 : Int) (i1 : Int) (es2 : List (List D)) (f : St → RR) (K : Ex → St → RR) : B66_0 n (S66_0 i0 i1 es2) (kThen (fun st ↦ f (St.head 1 35 262114 st)) K) = bif decide (i1 < ofNat (length es2)) then bif decide (0 ≤ i1) && decide (i1 < ofNat (length es2)) then f (S66_0 (wrap i64 (i0 + 1)) (wrap i64 (i1 + 1)) (set es2 (0 + toNat i1) [D.int i64 i0])) else none else K (Ex.exit 0) (X66_2 i0 i1 es2) := by kernel_rfl
theorem aX66_2 (n : Nat) (i0 : Int) (i1 : Int) (es2 : List (List D)) : k66_1 n (Ex.exit 0) (X66_2 i0 i1 es2) = some ([[D.int i64 i0]], [[D.sl true 1 es2]]) := by kernel_rfl
theorem r66 (a : List Int) (k : Int) (n : Nat) : evFn ⟨prog, Hx, 66⟩ T26.call n f66 [[.sl true 1 (enS true a)], [.int .i64 k]] = loopRun (B66_0 n) 1 35 262114 n (S66_0 k (0) (enS true a)) (k66_1 n) := by kernel_rfl
theorem m66 (a : List Int) (k : Int) (hpre : (o66 a k).1 = true) : evFn ⟨Go.Proofs.Try.prog, Hx, 66⟩ T26.call (a.length + 1) f66 [[.sl true 1 (enS true a)], [.int .i64 k]] = some (o66 a k).2 := by
  refine (r66 a k _).trans ?_
  show _ = (some ([[.int .i64 (k + cntS oneN a)]], [[.sl true 1 (enS true (markS intMk oneN a k))]]) : Option (List Row × List Row))
  replace hpre : (decide (0 ≤ k) && (decide (k + cntS oneN a ≤ 4611686018427387904) && decide (a.length ≤ 1152921504606846976))) = true := hpre
  simp only [Bool.and_eq_true, decide_eq_true_eq] at hpre
  obtain ⟨h0, h1, h2⟩ := hpre
  refine loop_list (xs := a) (fun i (v : List Int × Int) => S66_0 v.2 (Int.ofNat i) (enS true (v.1 ++ a.drop i))) (fun i v => v.1.length = i ∧ 0 ≤ v.2 ∧ v.2 + cntS oneN (a.drop i) ≤ 4611686018427387904) (fun _ v rest => some ([[D.int .i64 (v.2 + cntS oneN rest)]], [[D.sl true 1 (enS true (v.1 ++ markS intMk oneN rest v.2))]])) ?_ ?_ (a.length + 1) ([], k) (by omega) ⟨rfl, h0, h1⟩
  · rintro ⟨pre, k⟩ ⟨hl, hk0, hk1⟩ f
    refine (q66_0 _ _ _ _ f _).trans ?_
    simp only [enS_length, List.drop_length, List.append_nil, hl, dec_lt, Nat.lt_irrefl, decide_false, cond_false]
    refine (aX66_2 _ _ _ _).trans ?_
    simp only [List.append_nil, cntS, markS, Int.add_zero]
  · rintro i ⟨pre, k⟩ hi ⟨hl, hk0, hk1⟩ f hf
    simp only at hl hk0 hk1
    rw [List.drop_eq_getElem_cons hi] at hk1
    generalize hx : a[i] = x at hk1 ⊢
    have hc := cntS_nonneg (n := oneN) oneN_pos (a.drop (i + 1))
    have hn : oneN x = 1 := rfl
    simp only [cntS, hn] at hk1
    refine (q66_0 _ _ _ _ f _).trans ?_
    rw [List.drop_eq_getElem_cons hi, hx]
    have hm := mid_get pre x (a.drop (i + 1)) hl
    have hat := mid_at pre x (a.drop (i + 1)) hl hm
    have hs : ∀ R, ((enS true (pre ++ x :: a.drop (i + 1))).set i R).getD i [] = R := fun R => getD_set_same _ _ _ _ (by rw [enS_length]; exact hm)
    simp only [List.length_set, enS_length, toNat_of, Nat.zero_add, dec_lt, dec_ge, hm, hs, List.set_set, enS_get _ hm, hat, decide_true, cond_true, Bool.and_self, wrap_succ (show i < 4611686018427387904 by omega), En.enc, List.append_eq, List.take_succ_cons, List.take_zero, List.drop_succ_cons, List.drop_zero, List.cons_append, List.nil_append]
    have hw1 : IntKind.wrap IntKind.i64 (k + 1) = k + 1 := wrap_le (by omega) (by omega)
    simp only [hw1]
    have he : k + 1 = k + oneN x := by omega
    skip
    refine (congrArg f (congrArg (S66_0 _ _) ((enS_set true _ i (intMk x k)).trans (congrArg (enS true) (mid_set pre x _ _ hl))))).trans ?_
    refine (hf (pre ++ [intMk x k], k + 1) ⟨by simp [hl], by simp only; omega, by simp only; omega⟩).trans ?_
    show _ = some ([[D.int .i64 (k + (oneN x + cntS oneN (a.drop (i + 1))))]], [[D.sl true 1 (enS true (pre ++ (intMk x k :: markS intMk oneN (a.drop (i + 1)) (k + oneN x))))]])
    rw [he, List.append_assoc, List.singleton_append, Int.add_assoc]
theorem s66 : SoundAt Go.Proofs.Try.prog Hx 66 c66 := soundAt_of T26_sound mixed func66 (by kernel_rfl) (by
  intro rows r h
  unfold c66 at h
  split at h
  · rename_i a k
    obtain ⟨hp, hr⟩ := Prod.mk.inj (Option.some.inj h)
    subst hr
    simp only [Bool.and_eq_true] at hp
    obtain ⟨hs0, hp⟩ := hp
    obtain ⟨xs0, rfl⟩ := isS_ex hs0
    simp only [deS_enS] at hp ⊢
    exact ⟨_, m66 xs0 k hp⟩
  · cases h)
def T66 : Table := (66, c66) :: T26
theorem T66_sound : Table.Sound Go.Proofs.Try.prog Hx T66 := Table.sound_cons s66 T26_sound
def o48 (a : List Member) (k : Int) : Bool × List Row × List Row := (decide (0 ≤ k) && (decide (k + cntS Member.n_ a ≤ 4611686018427387904) && (decide (a.length ≤ 1152921504606846976) && a.all (fun x => decide (x.In.length ≤ 1152921504606846976)))), [[.int .i64 (k + cntS Member.n_ a)]], [[.sl true 2 (enS true (markS Member.mk_ Member.n_ a k))]])
def c48 : Contract
  | [[.sl true 2 a], [.int .i64 k]] => some (isS Member true a && (o48 (deS Member a) k).1, (o48 (deS Member a) k).2.1, (o48 (deS Member a) k).2.2)
  | _ => none

def k48_0 (n : Nat) : Ex → St → RR := kThen (fun st ↦ runCode (Ctx.mk prog Hx (48)) (Table.call T66) n (codeAt [1, 1] (bodyOf f48)) (Lv.mk 16 [] 16) st (kLeave (Ctx.P (Ctx.mk prog Hx (48))) (List.zip (Array.toList (Go.Func.resultTypes f48)) (Array.toList (Go.Func.results f48))) [] [C.view 0 0 0 [] 2 none])) (kLeave (Ctx.P (Ctx.mk prog Hx (48))) (List.zip (Array.toList (Go.Func.resultTypes f48)) (Array.toList (Go.Func.results f48))) [] [C.view 0 0 0 [] 2 none])
def k48_1 (n : Nat) : Ex → St → RR := kBlock (0) (k48_0 n)
def S48_0 (i0 : Int) (i1 : Int) (es2 : List (List D)) : St := St.mk [V_ [C.view 0 0 0 [] 2 none], I_ i0, U_, U_, U_, I_ i1, U_, U_, U_, U_, U_, U_, U_, U_, U_, U_, U_, U_, U_, U_, U_, U_, U_, U_, U_, U_, U_] [Root.mk false 2 es2 0 0 true true false]
def B48_0 (n : Nat) : St → (Ex → St → RR) → RR := runCode (Ctx.mk prog Hx (48)) (Table.call T66) n (codeAt [1, 0, 1, 0, 0] (bodyOf f48)) (Lv.mk 35 [(0, 2)] 16)
def X48_2 (i0 : Int) (i1 : Int) (es2 : List (List D)) : St := St.mk [V_ [C.view 0 0 0 [] 2 none], I_ i0, U_, U_, U_, I_ i1, I_ i1, V_ [C.view 0 0 0 [] 2 none], I_ (ofNat (length es2)), B_ false, U_, U_, U_, U_, U_, U_, U_, U_, U_, U_, U_, U_, U_, U_, U_, U_, U_] [Root.mk false 2 es2 0 0 true true false]
def w48_3 (i0 : Int) (i1 : Int) (es2 : List (List D)) : List (List D) := set es2 (0 + toNat i1) (D.int i64 i0 :: drop 1 (getD es2 (0 + toNat i1) []))
def w48_4 (i0 : Int) (i1 : Int) (es2 : List (List D)) : List (List D) := set (w48_3 i0 i1 es2) (0 + toNat i1) (set (getD (w48_3 i0 i1 es2) (0 + toNat i1) []) 1 D.dead)
theorem q48_0 (n : Nat) (i0 : Int) (i1 : Int) (es2 : List (List D)) (f : St → RR) (K : Ex → St → RR) : B48_0 n (S48_0 i0 i1 es2) (kThen (fun st ↦ f (St.head 1 35 67108834 st)) K) = bif decide (i1 < ofNat (length es2)) then bif decide (0 ≤ i1) && decide (i1 < ofNat (length es2)) then bif decide (0 ≤ i1) && decide (i1 < ofNat (length (w48_3 i0 i1 es2))) then bif Leaf.fit true (Leaf.sl 1 true) (getD (getD (w48_3 i0 i1 es2) (0 + toNat i1) []) 1 D.dead) && true then bif D.isOwn (getD (getD (w48_3 i0 i1 es2) (0 + toNat i1) []) 1 D.dead) && true && true && true then bif isS Int true (D.rows (getD (getD (w48_3 i0 i1 es2) (0 + toNat i1) []) 1 D.dead)) && (decide (0 ≤ wrap i64 (i0 + 1)) && (decide (wrap i64 (i0 + 1) + cntS oneN (deS Int (D.rows (getD (getD (w48_3 i0 i1 es2) (0 + toNat i1) []) 1 D.dead))) ≤ 4611686018427387904) && decide (length (deS Int (D.rows (getD (getD (w48_3 i0 i1 es2) (0 + toNat i1) []) 1 D.dead))) ≤ 1152921504606846976))) then bif D.isOwn (getD (getD (w48_3 i0 i1 es2) (0 + toNat i1) []) 1 D.dead) && true && true && true then f (S48_0 (wrap i64 (i0 + 1) + cntS oneN (deS Int (D.rows (getD (getD (w48_3 i0 i1 es2) (0 + toNat i1) []) 1 D.dead)))) (wrap i64 (i1 + 1)) (set (w48_4 i0 i1 es2) (0 + toNat i1) (set (getD (w48_4 i0 i1 es2) (0 + toNat i1) []) 1 (D.sl true 1 (enS true (markS intMk oneN (deS Int (D.rows (getD (getD (w48_3 i0 i1 es2) (0 + toNat i1) []) 1 D.dead))) (wrap i64 (i0 + 1)))))))) else none else none else none else none else none else none else K (Ex.exit 0) (X48_2 i0 i1 es2) := by kernel_rfl
theorem aX48_2 (n : Nat) (i0 : Int) (i1 : Int) (es2 : List (List D)) : k48_1 n (Ex.exit 0) (X48_2 i0 i1 es2) = some ([[D.int i64 i0]], [[D.sl true 2 es2]]) := by kernel_rfl
theorem r48 (a : List Member) (k : Int) (n : Nat) : evFn ⟨prog, Hx, 48⟩ T66.call n f48 [[.sl true 2 (enS true a)], [.int .i64 k]] = loopRun (B48_0 n) 1 35 67108834 n (S48_0 k (0) (enS true a)) (k48_1 n) := by kernel_rfl
theorem m48 (a : List Member) (k : Int) (hpre : (o48 a k).1 = true) : evFn ⟨Go.Proofs.Try.prog, Hx, 48⟩ T66.call (a.length + 1) f48 [[.sl true 2 (enS true a)], [.int .i64 k]] = some (o48 a k).2 := by
  refine (r48 a k _).trans ?_
  show _ = (some ([[.int .i64 (k + cntS Member.n_ a)]], [[.sl true 2 (enS true (markS Member.mk_ Member.n_ a k))]]) : Option (List Row × List Row))
  replace hpre : (decide (0 ≤ k) && (decide (k + cntS Member.n_ a ≤ 4611686018427387904) && (decide (a.length ≤ 1152921504606846976) && a.all (fun x => decide (x.In.length ≤ 1152921504606846976))))) = true := hpre
  simp only [Bool.and_eq_true] at hpre
  obtain ⟨h0, h1, h2, h3⟩ := hpre
  have h0 := of_decide_eq_true h0
  have h1 := of_decide_eq_true h1
  have h2 := of_decide_eq_true h2
  refine loop_list (xs := a) (fun i (v : List Member × Int) => S48_0 v.2 (Int.ofNat i) (enS true (v.1 ++ a.drop i))) (fun i v => v.1.length = i ∧ 0 ≤ v.2 ∧ v.2 + cntS Member.n_ (a.drop i) ≤ 4611686018427387904) (fun _ v rest => some ([[D.int .i64 (v.2 + cntS Member.n_ rest)]], [[D.sl true 2 (enS true (v.1 ++ markS Member.mk_ Member.n_ rest v.2))]])) ?_ ?_ (a.length + 1) ([], k) (by omega) ⟨rfl, h0, h1⟩
  · rintro ⟨pre, k⟩ ⟨hl, hk0, hk1⟩ f
    refine (q48_0 _ _ _ _ f _).trans ?_
    simp only [enS_length, List.drop_length, List.append_nil, hl, dec_lt, Nat.lt_irrefl, decide_false, cond_false]
    refine (aX48_2 _ _ _ _).trans ?_
    simp only [List.append_nil, cntS, markS, Int.add_zero]
  · rintro i ⟨pre, k⟩ hi ⟨hl, hk0, hk1⟩ f hf
    simp only at hl hk0 hk1
    rw [List.drop_eq_getElem_cons hi] at hk1
    have hel := List.all_eq_true.1 h3 _ (List.getElem_mem hi)
    generalize hx : a[i] = x at hk1 hel ⊢
    have hc := cntS_nonneg (n := Member.n_) Member.n_pos (a.drop (i + 1))
    try simp only [Bool.and_eq_true] at hel
    simp only [cntS, Member.n_] at hk1
    have p1 : 0 ≤ cntS oneN x.In := cntS_nonneg oneN_pos x.In
    have w0 : IntKind.wrap IntKind.i64 (k + 1) = k + 1 := wrap_le (by omega) (by omega)
    have g1 : decide (0 ≤ k + 1) = true := decide_eq_true (by omega)
    have f1 : decide (k + 1 + cntS oneN x.In ≤ 4611686018427387904) = true := decide_eq_true (by omega)
    refine (q48_0 _ _ _ _ f _).trans ?_
    rw [List.drop_eq_getElem_cons hi, hx]
    have hm := mid_get pre x (a.drop (i + 1)) hl
    have hat := mid_at pre x (a.drop (i + 1)) hl hm
    have hs : ∀ R, ((enS true (pre ++ x :: a.drop (i + 1))).set i R).getD i [] = R := fun R => getD_set_same _ _ _ _ (by rw [enS_length]; exact hm)
    simp only [w48_3, w48_4, List.length_set, enS_length, toNat_of, Nat.zero_add, dec_lt, dec_ge, hm, hs, List.set_set, enS_get _ hm, hat, decide_true, cond_true, Bool.and_self, Bool.and_true, Bool.true_and, wrap_succ (show i < 4611686018427387904 by omega), En.enc, List.append_eq, List.take_succ_cons, List.take_zero, List.drop_succ_cons, List.drop_zero, List.cons_append, List.nil_append, List.getD_cons_zero, List.getD_cons_succ, D.num, D.flag, D.text, D.rows, D.isOwn, pathOk, Leaf.fit, beq_self_eq_true, isS_enS, deS_enS, deepRows_enS, List.set_cons_zero, List.set_cons_succ, hel, w0, g1, f1]
    have he : k + 1 + cntS oneN x.In = k + Member.n_ x := by simp only [Member.n_]; omega
    refine (congrArg f (congrArg (S48_0 _ _) ((enS_set true _ i (Member.mk_ x k)).trans (congrArg (enS true) (mid_set pre x _ _ hl))))).trans ?_
    refine (hf (pre ++ [Member.mk_ x k], k + 1 + cntS oneN x.In) ⟨by simp [hl], by simp only; omega, by simp only; omega⟩).trans ?_
    show _ = some ([[D.int .i64 (k + (Member.n_ x + cntS Member.n_ (a.drop (i + 1))))]], [[D.sl true 2 (enS true (pre ++ (Member.mk_ x k :: markS Member.mk_ Member.n_ (a.drop (i + 1)) (k + Member.n_ x))))]])
    rw [he, List.append_assoc, List.singleton_append, Int.add_assoc]
theorem s48 : SoundAt Go.Proofs.Try.prog Hx 48 c48 := soundAt_of T66_sound mixed func48 (by kernel_rfl) (by
  intro rows r h
  unfold c48 at h
  split at h
  · rename_i a k
    obtain ⟨hp, hr⟩ := Prod.mk.inj (Option.some.inj h)
    subst hr
    simp only [Bool.and_eq_true] at hp
    obtain ⟨hs0, hp⟩ := hp
    obtain ⟨xs0, rfl⟩ := isS_ex hs0
    simp only [deS_enS] at hp ⊢
    exact ⟨_, m48 xs0 k hp⟩
  · cases h)
def T48 : Table := (48, c48) :: T66
theorem T48_sound : Table.Sound Go.Proofs.Try.prog Hx T48 := Table.sound_cons s48 T66_sound
def o49 (a : List Heard) (k : Int) : Bool × List Row × List Row := (decide (0 ≤ k) && (decide (k + cntS Heard.n_ a ≤ 4611686018427387904) && decide (a.length ≤ 1152921504606846976)), [[.int .i64 (k + cntS Heard.n_ a)]], [[.sl true 4 (enS true (markS Heard.mk_ Heard.n_ a k))]])
def c49 : Contract
  | [[.sl true 4 a], [.int .i64 k]] => some (isS Heard true a && (o49 (deS Heard a) k).1, (o49 (deS Heard a) k).2.1, (o49 (deS Heard a) k).2.2)
  | _ => none

def k49_0 (n : Nat) : Ex → St → RR := kThen (fun st ↦ runCode (Ctx.mk prog Hx (49)) (Table.call T48) n (codeAt [1, 1] (bodyOf f49)) (Lv.mk 16 [] 16) st (kLeave (Ctx.P (Ctx.mk prog Hx (49))) (List.zip (Array.toList (Go.Func.resultTypes f49)) (Array.toList (Go.Func.results f49))) [] [C.view 0 0 0 [] 4 none])) (kLeave (Ctx.P (Ctx.mk prog Hx (49))) (List.zip (Array.toList (Go.Func.resultTypes f49)) (Array.toList (Go.Func.results f49))) [] [C.view 0 0 0 [] 4 none])
def k49_1 (n : Nat) : Ex → St → RR := kBlock (0) (k49_0 n)
def S49_0 (i0 : Int) (i1 : Int) (es2 : List (List D)) : St := St.mk [V_ [C.view 0 0 0 [] 4 none], I_ i0, U_, U_, U_, I_ i1, U_, U_, U_, U_, U_, U_, U_, U_, U_, U_, U_, U_, U_, U_, U_, U_, U_, U_, U_, U_, U_, U_, U_, U_, U_, U_, U_, U_, U_, U_, U_, U_, U_, U_, U_] [Root.mk false 4 es2 0 0 true true false]
def B49_0 (n : Nat) : St → (Ex → St → RR) → RR := runCode (Ctx.mk prog Hx (49)) (Table.call T48) n (codeAt [1, 0, 1, 0, 0] (bodyOf f49)) (Lv.mk 35 [(0, 2)] 16)
def X49_2 (i0 : Int) (i1 : Int) (es2 : List (List D)) : St := St.mk [V_ [C.view 0 0 0 [] 4 none], I_ i0, U_, U_, U_, I_ i1, I_ i1, V_ [C.view 0 0 0 [] 4 none], I_ (ofNat (length es2)), B_ false, U_, U_, U_, U_, U_, U_, U_, U_, U_, U_, U_, U_, U_, U_, U_, U_, U_, U_, U_, U_, U_, U_, U_, U_, U_, U_, U_, U_, U_, U_, U_] [Root.mk false 4 es2 0 0 true true false]
def w49_3 (i0 : Int) (i1 : Int) (es2 : List (List D)) : List (List D) := set es2 (0 + toNat i1) (D.int i64 i0 :: drop 1 (getD es2 (0 + toNat i1) []))
def w49_4 (i0 : Int) (i1 : Int) (es2 : List (List D)) : List (List D) := set (w49_3 i0 i1 es2) (0 + toNat i1) (append (append (take 1 (getD (w49_3 i0 i1 es2) (0 + toNat i1) [])) [D.int i64 (wrap i64 (i0 + 1))]) (drop 2 (getD (w49_3 i0 i1 es2) (0 + toNat i1) [])))
def w49_5 (i0 : Int) (i1 : Int) (es2 : List (List D)) : List (List D) := set (w49_4 i0 i1 es2) (0 + toNat i1) (append (append (take 2 (getD (w49_4 i0 i1 es2) (0 + toNat i1) [])) [D.int i64 (wrap i64 (wrap i64 (i0 + 1) + 1))]) (drop 3 (getD (w49_4 i0 i1 es2) (0 + toNat i1) [])))
theorem q49_0 (n : Nat) (i0 : Int) (i1 : Int) (es2 : List (List D)) (f : St → RR) (K : Ex → St → RR) : B49_0 n (S49_0 i0 i1 es2) (kThen (fun st ↦ f (St.head 1 35 1099511627746 st)) K) = bif decide (i1 < ofNat (length es2)) then bif decide (0 ≤ i1) && decide (i1 < ofNat (length es2)) then bif decide (0 ≤ i1) && decide (i1 < ofNat (length (w49_3 i0 i1 es2))) then bif decide (0 ≤ i1) && decide (i1 < ofNat (length (w49_4 i0 i1 es2))) then bif decide (0 ≤ i1) && decide (i1 < ofNat (length (w49_5 i0 i1 es2))) then f (S49_0 (wrap i64 (wrap i64 (wrap i64 (wrap i64 (i0 + 1) + 1) + 1) + 1)) (wrap i64 (i1 + 1)) (set (w49_5 i0 i1 es2) (0 + toNat i1) (append (append (take 3 (getD (w49_5 i0 i1 es2) (0 + toNat i1) [])) [D.int i64 (wrap i64 (wrap i64 (wrap i64 (i0 + 1) + 1) + 1))]) (drop 4 (getD (w49_5 i0 i1 es2) (0 + toNat i1) []))))) else none else none else none else none else K (Ex.exit 0) (X49_2 i0 i1 es2) := by kernel_rfl
theorem aX49_2 (n : Nat) (i0 : Int) (i1 : Int) (es2 : List (List D)) : k49_1 n (Ex.exit 0) (X49_2 i0 i1 es2) = some ([[D.int i64 i0]], [[D.sl true 4 es2]]) := by kernel_rfl
theorem r49 (a : List Heard) (k : Int) (n : Nat) : evFn ⟨prog, Hx, 49⟩ T48.call n f49 [[.sl true 4 (enS true a)], [.int .i64 k]] = loopRun (B49_0 n) 1 35 1099511627746 n (S49_0 k (0) (enS true a)) (k49_1 n) := by kernel_rfl
theorem m49 (a : List Heard) (k : Int) (hpre : (o49 a k).1 = true) : evFn ⟨Go.Proofs.Try.prog, Hx, 49⟩ T48.call (a.length + 1) f49 [[.sl true 4 (enS true a)], [.int .i64 k]] = some (o49 a k).2 := by
  refine (r49 a k _).trans ?_
  show _ = (some ([[.int .i64 (k + cntS Heard.n_ a)]], [[.sl true 4 (enS true (markS Heard.mk_ Heard.n_ a k))]]) : Option (List Row × List Row))
  replace hpre : (decide (0 ≤ k) && (decide (k + cntS Heard.n_ a ≤ 4611686018427387904) && decide (a.length ≤ 1152921504606846976))) = true := hpre
  simp only [Bool.and_eq_true, decide_eq_true_eq] at hpre
  obtain ⟨h0, h1, h2⟩ := hpre
  refine loop_list (xs := a) (fun i (v : List Heard × Int) => S49_0 v.2 (Int.ofNat i) (enS true (v.1 ++ a.drop i))) (fun i v => v.1.length = i ∧ 0 ≤ v.2 ∧ v.2 + cntS Heard.n_ (a.drop i) ≤ 4611686018427387904) (fun _ v rest => some ([[D.int .i64 (v.2 + cntS Heard.n_ rest)]], [[D.sl true 4 (enS true (v.1 ++ markS Heard.mk_ Heard.n_ rest v.2))]])) ?_ ?_ (a.length + 1) ([], k) (by omega) ⟨rfl, h0, h1⟩
  · rintro ⟨pre, k⟩ ⟨hl, hk0, hk1⟩ f
    refine (q49_0 _ _ _ _ f _).trans ?_
    simp only [enS_length, List.drop_length, List.append_nil, hl, dec_lt, Nat.lt_irrefl, decide_false, cond_false]
    refine (aX49_2 _ _ _ _).trans ?_
    simp only [List.append_nil, cntS, markS, Int.add_zero]
  · rintro i ⟨pre, k⟩ hi ⟨hl, hk0, hk1⟩ f hf
    simp only at hl hk0 hk1
    rw [List.drop_eq_getElem_cons hi] at hk1
    generalize hx : a[i] = x at hk1 ⊢
    have hc := cntS_nonneg (n := Heard.n_) Heard.n_pos (a.drop (i + 1))
    have hn : Heard.n_ x = 4 := rfl
    simp only [cntS, hn] at hk1
    refine (q49_0 _ _ _ _ f _).trans ?_
    rw [List.drop_eq_getElem_cons hi, hx]
    have hm := mid_get pre x (a.drop (i + 1)) hl
    have hat := mid_at pre x (a.drop (i + 1)) hl hm
    have hs : ∀ R, ((enS true (pre ++ x :: a.drop (i + 1))).set i R).getD i [] = R := fun R => getD_set_same _ _ _ _ (by rw [enS_length]; exact hm)
    simp only [w49_3, w49_4, w49_5, List.length_set, enS_length, toNat_of, Nat.zero_add, dec_lt, dec_ge, hm, hs, List.set_set, enS_get _ hm, hat, decide_true, cond_true, Bool.and_self, wrap_succ (show i < 4611686018427387904 by omega), En.enc, List.append_eq, List.take_succ_cons, List.take_zero, List.drop_succ_cons, List.drop_zero, List.cons_append, List.nil_append]
    have hw1 : IntKind.wrap IntKind.i64 (k + 1) = k + 1 := wrap_le (by omega) (by omega)
    have hw2 : IntKind.wrap IntKind.i64 (k + 1 + 1) = k + 1 + 1 := wrap_le (by omega) (by omega)
    have hw3 : IntKind.wrap IntKind.i64 (k + 1 + 1 + 1) = k + 1 + 1 + 1 := wrap_le (by omega) (by omega)
    have hw4 : IntKind.wrap IntKind.i64 (k + 1 + 1 + 1 + 1) = k + 1 + 1 + 1 + 1 := wrap_le (by omega) (by omega)
    simp only [hw1, hw2, hw3, hw4]
    have he : k + 1 + 1 + 1 + 1 = k + Heard.n_ x := by omega
    skip
    refine (congrArg f (congrArg (S49_0 _ _) ((enS_set true _ i (Heard.mk_ x k)).trans (congrArg (enS true) (mid_set pre x _ _ hl))))).trans ?_
    refine (hf (pre ++ [Heard.mk_ x k], k + 1 + 1 + 1 + 1) ⟨by simp [hl], by simp only; omega, by simp only; omega⟩).trans ?_
    show _ = some ([[D.int .i64 (k + (Heard.n_ x + cntS Heard.n_ (a.drop (i + 1))))]], [[D.sl true 4 (enS true (pre ++ (Heard.mk_ x k :: markS Heard.mk_ Heard.n_ (a.drop (i + 1)) (k + Heard.n_ x))))]])
    rw [he, List.append_assoc, List.singleton_append, Int.add_assoc]
theorem s49 : SoundAt Go.Proofs.Try.prog Hx 49 c49 := soundAt_of T48_sound mixed func49 (by kernel_rfl) (by
  intro rows r h
  unfold c49 at h
  split at h
  · rename_i a k
    obtain ⟨hp, hr⟩ := Prod.mk.inj (Option.some.inj h)
    subst hr
    simp only [Bool.and_eq_true] at hp
    obtain ⟨hs0, hp⟩ := hp
    obtain ⟨xs0, rfl⟩ := isS_ex hs0
    simp only [deS_enS] at hp ⊢
    exact ⟨_, m49 xs0 k hp⟩
  · cases h)
def T49 : Table := (49, c49) :: T48
theorem T49_sound : Table.Sound Go.Proofs.Try.prog Hx T49 := Table.sound_cons s49 T48_sound
def o28 (a : List Card) (k : Int) : Bool × List Row × List Row := (decide (0 ≤ k) && (decide (k + cntS Card.n_ a ≤ 4611686018427387904) && (decide (a.length ≤ 1152921504606846976) && a.all (fun x => (decide (x.Open.length ≤ 1152921504606846976) && (decide (x.Members.length ≤ 1152921504606846976) && x.Members.all (fun x => decide (x.In.length ≤ 1152921504606846976))) && decide (x.Table.length ≤ 1152921504606846976))))), [[.int .i64 (k + cntS Card.n_ a)]], [[.sl true 3 (enS true (markS Card.mk_ Card.n_ a k))]])
def c28 : Contract
  | [[.sl true 3 a], [.int .i64 k]] => some (isS Card true a && (o28 (deS Card a) k).1, (o28 (deS Card a) k).2.1, (o28 (deS Card a) k).2.2)
  | _ => none

def k28_0 (n : Nat) : Ex → St → RR := kThen (fun st ↦ runCode (Ctx.mk prog Hx (28)) (Table.call T49) n (codeAt [1, 1] (bodyOf f28)) (Lv.mk 16 [] 16) st (kLeave (Ctx.P (Ctx.mk prog Hx (28))) (List.zip (Array.toList (Go.Func.resultTypes f28)) (Array.toList (Go.Func.results f28))) [] [C.view 0 0 0 [] 3 none])) (kLeave (Ctx.P (Ctx.mk prog Hx (28))) (List.zip (Array.toList (Go.Func.resultTypes f28)) (Array.toList (Go.Func.results f28))) [] [C.view 0 0 0 [] 3 none])
def k28_1 (n : Nat) : Ex → St → RR := kBlock (0) (k28_0 n)
def S28_0 (i0 : Int) (i1 : Int) (es2 : List (List D)) : St := St.mk [V_ [C.view 0 0 0 [] 3 none], I_ i0, U_, U_, U_, I_ i1, U_, U_, U_, U_, U_, U_, U_, U_, U_, U_, U_, U_, U_, U_, U_, U_, U_, U_, U_, U_, U_, U_, U_, U_, U_, U_, U_, U_] [Root.mk false 3 es2 0 0 true true false]
def B28_0 (n : Nat) : St → (Ex → St → RR) → RR := runCode (Ctx.mk prog Hx (28)) (Table.call T49) n (codeAt [1, 0, 1, 0, 0] (bodyOf f28)) (Lv.mk 35 [(0, 2)] 16)
def X28_2 (i0 : Int) (i1 : Int) (es2 : List (List D)) : St := St.mk [V_ [C.view 0 0 0 [] 3 none], I_ i0, U_, U_, U_, I_ i1, I_ i1, V_ [C.view 0 0 0 [] 3 none], I_ (ofNat (length es2)), B_ false, U_, U_, U_, U_, U_, U_, U_, U_, U_, U_, U_, U_, U_, U_, U_, U_, U_, U_, U_, U_, U_, U_, U_, U_] [Root.mk false 3 es2 0 0 true true false]
def w28_3 (i1 : Int) (es2 : List (List D)) : List (List D) := set es2 (0 + toNat i1) (set (getD es2 (0 + toNat i1) []) 0 D.dead)
def w28_4 (i0 : Int) (i1 : Int) (es2 : List (List D)) : List (List D) := set (w28_3 i1 es2) (0 + toNat i1) (set (getD (w28_3 i1 es2) (0 + toNat i1) []) 0 (D.sl true 1 (enS true (markS boolMk oneN (deS Bool (D.rows (getD (getD es2 (0 + toNat i1) []) 0 D.dead))) i0))))
def w28_5 (i0 : Int) (i1 : Int) (es2 : List (List D)) : List (List D) := set (w28_4 i0 i1 es2) (0 + toNat i1) (set (getD (w28_4 i0 i1 es2) (0 + toNat i1) []) 1 D.dead)
def w28_6 (i0 : Int) (i1 : Int) (es2 : List (List D)) : List (List D) := set (w28_5 i0 i1 es2) (0 + toNat i1) (set (getD (w28_5 i0 i1 es2) (0 + toNat i1) []) 1 (D.sl true 2 (enS true (markS Member.mk_ Member.n_ (deS Member (D.rows (getD (getD (w28_4 i0 i1 es2) (0 + toNat i1) []) 1 D.dead))) (i0 + cntS oneN (deS Bool (D.rows (getD (getD es2 (0 + toNat i1) []) 0 D.dead))))))))
def w28_7 (i0 : Int) (i1 : Int) (es2 : List (List D)) : List (List D) := set (w28_6 i0 i1 es2) (0 + toNat i1) (set (getD (w28_6 i0 i1 es2) (0 + toNat i1) []) 2 D.dead)
theorem q28_0 (n : Nat) (i0 : Int) (i1 : Int) (es2 : List (List D)) (f : St → RR) (K : Ex → St → RR) : B28_0 n (S28_0 i0 i1 es2) (kThen (fun st ↦ f (St.head 1 35 8589934562 st)) K) = bif decide (i1 < ofNat (length es2)) then bif decide (0 ≤ i1) && decide (i1 < ofNat (length es2)) then bif Leaf.fit true (Leaf.sl 1 true) (getD (getD es2 (0 + toNat i1) []) 0 D.dead) && true then bif D.isOwn (getD (getD es2 (0 + toNat i1) []) 0 D.dead) && true && true && true then bif isS Bool true (D.rows (getD (getD es2 (0 + toNat i1) []) 0 D.dead)) && (decide (0 ≤ i0) && (decide (i0 + cntS oneN (deS Bool (D.rows (getD (getD es2 (0 + toNat i1) []) 0 D.dead))) ≤ 4611686018427387904) && decide (length (deS Bool (D.rows (getD (getD es2 (0 + toNat i1) []) 0 D.dead))) ≤ 1152921504606846976))) then bif D.isOwn (getD (getD es2 (0 + toNat i1) []) 0 D.dead) && true && true && true then bif decide (0 ≤ i1) && decide (i1 < ofNat (length (w28_4 i0 i1 es2))) then bif Leaf.fit true (Leaf.sl 2 true) (getD (getD (w28_4 i0 i1 es2) (0 + toNat i1) []) 1 D.dead) && true then bif D.isOwn (getD (getD (w28_4 i0 i1 es2) (0 + toNat i1) []) 1 D.dead) && true && true && true then bif isS Member true (D.rows (getD (getD (w28_4 i0 i1 es2) (0 + toNat i1) []) 1 D.dead)) && (decide (0 ≤ i0 + cntS oneN (deS Bool (D.rows (getD (getD es2 (0 + toNat i1) []) 0 D.dead)))) && (decide (i0 + cntS oneN (deS Bool (D.rows (getD (getD es2 (0 + toNat i1) []) 0 D.dead))) + cntS Member.n_ (deS Member (D.rows (getD (getD (w28_4 i0 i1 es2) (0 + toNat i1) []) 1 D.dead))) ≤ 4611686018427387904) && (decide (length (deS Member (D.rows (getD (getD (w28_4 i0 i1 es2) (0 + toNat i1) []) 1 D.dead))) ≤ 1152921504606846976) && all (deS Member (D.rows (getD (getD (w28_4 i0 i1 es2) (0 + toNat i1) []) 1 D.dead))) fun x ↦ decide (length (Member.In x) ≤ 1152921504606846976)))) then bif D.isOwn (getD (getD (w28_4 i0 i1 es2) (0 + toNat i1) []) 1 D.dead) && true && true && true then bif decide (0 ≤ i1) && decide (i1 < ofNat (length (w28_6 i0 i1 es2))) then bif Leaf.fit true (Leaf.sl 4 true) (getD (getD (w28_6 i0 i1 es2) (0 + toNat i1) []) 2 D.dead) && true then bif D.isOwn (getD (getD (w28_6 i0 i1 es2) (0 + toNat i1) []) 2 D.dead) && true && true && true then bif isS Heard true (D.rows (getD (getD (w28_6 i0 i1 es2) (0 + toNat i1) []) 2 D.dead)) && (decide (0 ≤ i0 + cntS oneN (deS Bool (D.rows (getD (getD es2 (0 + toNat i1) []) 0 D.dead))) + cntS Member.n_ (deS Member (D.rows (getD (getD (w28_4 i0 i1 es2) (0 + toNat i1) []) 1 D.dead)))) && (decide (i0 + cntS oneN (deS Bool (D.rows (getD (getD es2 (0 + toNat i1) []) 0 D.dead))) + cntS Member.n_ (deS Member (D.rows (getD (getD (w28_4 i0 i1 es2) (0 + toNat i1) []) 1 D.dead))) + cntS Heard.n_ (deS Heard (D.rows (getD (getD (w28_6 i0 i1 es2) (0 + toNat i1) []) 2 D.dead))) ≤ 4611686018427387904) && decide (length (deS Heard (D.rows (getD (getD (w28_6 i0 i1 es2) (0 + toNat i1) []) 2 D.dead))) ≤ 1152921504606846976))) then bif D.isOwn (getD (getD (w28_6 i0 i1 es2) (0 + toNat i1) []) 2 D.dead) && true && true && true then f (S28_0 (i0 + cntS oneN (deS Bool (D.rows (getD (getD es2 (0 + toNat i1) []) 0 D.dead))) + cntS Member.n_ (deS Member (D.rows (getD (getD (w28_4 i0 i1 es2) (0 + toNat i1) []) 1 D.dead))) + cntS Heard.n_ (deS Heard (D.rows (getD (getD (w28_6 i0 i1 es2) (0 + toNat i1) []) 2 D.dead)))) (wrap i64 (i1 + 1)) (set (w28_7 i0 i1 es2) (0 + toNat i1) (set (getD (w28_7 i0 i1 es2) (0 + toNat i1) []) 2 (D.sl true 4 (enS true (markS Heard.mk_ Heard.n_ (deS Heard (D.rows (getD (getD (w28_6 i0 i1 es2) (0 + toNat i1) []) 2 D.dead))) (i0 + cntS oneN (deS Bool (D.rows (getD (getD es2 (0 + toNat i1) []) 0 D.dead))) + cntS Member.n_ (deS Member (D.rows (getD (getD (w28_4 i0 i1 es2) (0 + toNat i1) []) 1 D.dead)))))))))) else none else none else none else none else none else none else none else none else none else none else none else none else none else none else none else K (Ex.exit 0) (X28_2 i0 i1 es2) := by kernel_rfl
theorem aX28_2 (n : Nat) (i0 : Int) (i1 : Int) (es2 : List (List D)) : k28_1 n (Ex.exit 0) (X28_2 i0 i1 es2) = some ([[D.int i64 i0]], [[D.sl true 3 es2]]) := by kernel_rfl
theorem r28 (a : List Card) (k : Int) (n : Nat) : evFn ⟨prog, Hx, 28⟩ T49.call n f28 [[.sl true 3 (enS true a)], [.int .i64 k]] = loopRun (B28_0 n) 1 35 8589934562 n (S28_0 k (0) (enS true a)) (k28_1 n) := by kernel_rfl
theorem m28 (a : List Card) (k : Int) (hpre : (o28 a k).1 = true) : evFn ⟨Go.Proofs.Try.prog, Hx, 28⟩ T49.call (a.length + 1) f28 [[.sl true 3 (enS true a)], [.int .i64 k]] = some (o28 a k).2 := by
  refine (r28 a k _).trans ?_
  show _ = (some ([[.int .i64 (k + cntS Card.n_ a)]], [[.sl true 3 (enS true (markS Card.mk_ Card.n_ a k))]]) : Option (List Row × List Row))
  replace hpre : (decide (0 ≤ k) && (decide (k + cntS Card.n_ a ≤ 4611686018427387904) && (decide (a.length ≤ 1152921504606846976) && a.all (fun x => (decide (x.Open.length ≤ 1152921504606846976) && (decide (x.Members.length ≤ 1152921504606846976) && x.Members.all (fun x => decide (x.In.length ≤ 1152921504606846976))) && decide (x.Table.length ≤ 1152921504606846976)))))) = true := hpre
  simp only [Bool.and_eq_true] at hpre
  obtain ⟨h0, h1, h2, h3⟩ := hpre
  have h0 := of_decide_eq_true h0
  have h1 := of_decide_eq_true h1
  have h2 := of_decide_eq_true h2
  refine loop_list (xs := a) (fun i (v : List Card × Int) => S28_0 v.2 (Int.ofNat i) (enS true (v.1 ++ a.drop i))) (fun i v => v.1.length = i ∧ 0 ≤ v.2 ∧ v.2 + cntS Card.n_ (a.drop i) ≤ 4611686018427387904) (fun _ v rest => some ([[D.int .i64 (v.2 + cntS Card.n_ rest)]], [[D.sl true 3 (enS true (v.1 ++ markS Card.mk_ Card.n_ rest v.2))]])) ?_ ?_ (a.length + 1) ([], k) (by omega) ⟨rfl, h0, h1⟩
  · rintro ⟨pre, k⟩ ⟨hl, hk0, hk1⟩ f
    refine (q28_0 _ _ _ _ f _).trans ?_
    simp only [enS_length, List.drop_length, List.append_nil, hl, dec_lt, Nat.lt_irrefl, decide_false, cond_false]
    refine (aX28_2 _ _ _ _).trans ?_
    simp only [List.append_nil, cntS, markS, Int.add_zero]
  · rintro i ⟨pre, k⟩ hi ⟨hl, hk0, hk1⟩ f hf
    simp only at hl hk0 hk1
    rw [List.drop_eq_getElem_cons hi] at hk1
    have hel := List.all_eq_true.1 h3 _ (List.getElem_mem hi)
    generalize hx : a[i] = x at hk1 hel ⊢
    have hc := cntS_nonneg (n := Card.n_) Card.n_pos (a.drop (i + 1))
    try simp only [Bool.and_eq_true] at hel
    simp only [cntS, Card.n_] at hk1
    have p0 : 0 ≤ cntS oneN x.Open := cntS_nonneg oneN_pos x.Open
    have p1 : 0 ≤ cntS Member.n_ x.Members := cntS_nonneg Member.n_pos x.Members
    have p2 : 0 ≤ cntS Heard.n_ x.Table := cntS_nonneg Heard.n_pos x.Table
    have g0 : decide (0 ≤ k) = true := decide_eq_true (by omega)
    have f0 : decide (k + cntS oneN x.Open ≤ 4611686018427387904) = true := decide_eq_true (by omega)
    have g1 : decide (0 ≤ k + cntS oneN x.Open) = true := decide_eq_true (by omega)
    have f1 : decide (k + cntS oneN x.Open + cntS Member.n_ x.Members ≤ 4611686018427387904) = true := decide_eq_true (by omega)
    have g2 : decide (0 ≤ k + cntS oneN x.Open + cntS Member.n_ x.Members) = true := decide_eq_true (by omega)
    have f2 : decide (k + cntS oneN x.Open + cntS Member.n_ x.Members + cntS Heard.n_ x.Table ≤ 4611686018427387904) = true := decide_eq_true (by omega)
    refine (q28_0 _ _ _ _ f _).trans ?_
    rw [List.drop_eq_getElem_cons hi, hx]
    have hm := mid_get pre x (a.drop (i + 1)) hl
    have hat := mid_at pre x (a.drop (i + 1)) hl hm
    have hs : ∀ R, ((enS true (pre ++ x :: a.drop (i + 1))).set i R).getD i [] = R := fun R => getD_set_same _ _ _ _ (by rw [enS_length]; exact hm)
    simp only [w28_3, w28_4, w28_5, w28_6, w28_7, List.length_set, enS_length, toNat_of, Nat.zero_add, dec_lt, dec_ge, hm, hs, List.set_set, enS_get _ hm, hat, decide_true, cond_true, Bool.and_self, Bool.and_true, Bool.true_and, wrap_succ (show i < 4611686018427387904 by omega), En.enc, List.append_eq, List.take_succ_cons, List.take_zero, List.drop_succ_cons, List.drop_zero, List.cons_append, List.nil_append, List.getD_cons_zero, List.getD_cons_succ, D.num, D.flag, D.text, D.rows, D.isOwn, pathOk, Leaf.fit, beq_self_eq_true, isS_enS, deS_enS, deepRows_enS, List.set_cons_zero, List.set_cons_succ, hel, g0, f0, g1, f1, g2, f2]
    have he : k + cntS oneN x.Open + cntS Member.n_ x.Members + cntS Heard.n_ x.Table = k + Card.n_ x := by simp only [Card.n_]; omega
    refine (congrArg f (congrArg (S28_0 _ _) ((enS_set true _ i (Card.mk_ x k)).trans (congrArg (enS true) (mid_set pre x _ _ hl))))).trans ?_
    refine (hf (pre ++ [Card.mk_ x k], k + cntS oneN x.Open + cntS Member.n_ x.Members + cntS Heard.n_ x.Table) ⟨by simp [hl], by simp only; omega, by simp only; omega⟩).trans ?_
    show _ = some ([[D.int .i64 (k + (Card.n_ x + cntS Card.n_ (a.drop (i + 1))))]], [[D.sl true 3 (enS true (pre ++ (Card.mk_ x k :: markS Card.mk_ Card.n_ (a.drop (i + 1)) (k + Card.n_ x))))]])
    rw [he, List.append_assoc, List.singleton_append, Int.add_assoc]
theorem s28 : SoundAt Go.Proofs.Try.prog Hx 28 c28 := soundAt_of T49_sound mixed func28 (by kernel_rfl) (by
  intro rows r h
  unfold c28 at h
  split at h
  · rename_i a k
    obtain ⟨hp, hr⟩ := Prod.mk.inj (Option.some.inj h)
    subst hr
    simp only [Bool.and_eq_true] at hp
    obtain ⟨hs0, hp⟩ := hp
    obtain ⟨xs0, rfl⟩ := isS_ex hs0
    simp only [deS_enS] at hp ⊢
    exact ⟨_, m28 xs0 k hp⟩
  · cases h)
def T28 : Table := (28, c28) :: T49
theorem T28_sound : Table.Sound Go.Proofs.Try.prog Hx T28 := Table.sound_cons s28 T49_sound
def o27 (a : List Link) (k : Int) : Bool × List Row × List Row := (decide (0 ≤ k) && (decide (k + cntS Link.n_ a ≤ 4611686018427387904) && decide (a.length ≤ 1152921504606846976)), [[.int .i64 (k + cntS Link.n_ a)]], [[.sl true 4 (enS true (markS Link.mk_ Link.n_ a k))]])
def c27 : Contract
  | [[.sl true 4 a], [.int .i64 k]] => some (isS Link true a && (o27 (deS Link a) k).1, (o27 (deS Link a) k).2.1, (o27 (deS Link a) k).2.2)
  | _ => none

def k27_0 (n : Nat) : Ex → St → RR := kThen (fun st ↦ runCode (Ctx.mk prog Hx (27)) (Table.call T28) n (codeAt [1, 1] (bodyOf f27)) (Lv.mk 16 [] 16) st (kLeave (Ctx.P (Ctx.mk prog Hx (27))) (List.zip (Array.toList (Go.Func.resultTypes f27)) (Array.toList (Go.Func.results f27))) [] [C.view 0 0 0 [] 4 none])) (kLeave (Ctx.P (Ctx.mk prog Hx (27))) (List.zip (Array.toList (Go.Func.resultTypes f27)) (Array.toList (Go.Func.results f27))) [] [C.view 0 0 0 [] 4 none])
def k27_1 (n : Nat) : Ex → St → RR := kBlock (0) (k27_0 n)
def S27_0 (i0 : Int) (i1 : Int) (es2 : List (List D)) : St := St.mk [V_ [C.view 0 0 0 [] 4 none], I_ i0, U_, U_, U_, I_ i1, U_, U_, U_, U_, U_, U_, U_, U_, U_, U_, U_, U_, U_, U_, U_, U_, U_, U_, U_, U_, U_, U_, U_, U_, U_, U_, U_, U_, U_, U_, U_, U_, U_, U_, U_] [Root.mk false 4 es2 0 0 true true false]
def B27_0 (n : Nat) : St → (Ex → St → RR) → RR := runCode (Ctx.mk prog Hx (27)) (Table.call T28) n (codeAt [1, 0, 1, 0, 0] (bodyOf f27)) (Lv.mk 35 [(0, 2)] 16)
def X27_2 (i0 : Int) (i1 : Int) (es2 : List (List D)) : St := St.mk [V_ [C.view 0 0 0 [] 4 none], I_ i0, U_, U_, U_, I_ i1, I_ i1, V_ [C.view 0 0 0 [] 4 none], I_ (ofNat (length es2)), B_ false, U_, U_, U_, U_, U_, U_, U_, U_, U_, U_, U_, U_, U_, U_, U_, U_, U_, U_, U_, U_, U_, U_, U_, U_, U_, U_, U_, U_, U_, U_, U_] [Root.mk false 4 es2 0 0 true true false]
def w27_3 (i0 : Int) (i1 : Int) (es2 : List (List D)) : List (List D) := set es2 (0 + toNat i1) (D.int i64 i0 :: drop 1 (getD es2 (0 + toNat i1) []))
def w27_4 (i0 : Int) (i1 : Int) (es2 : List (List D)) : List (List D) := set (w27_3 i0 i1 es2) (0 + toNat i1) (append (append (take 1 (getD (w27_3 i0 i1 es2) (0 + toNat i1) [])) [D.int i64 (wrap i64 (i0 + 1))]) (drop 2 (getD (w27_3 i0 i1 es2) (0 + toNat i1) [])))
def w27_5 (i0 : Int) (i1 : Int) (es2 : List (List D)) : List (List D) := set (w27_4 i0 i1 es2) (0 + toNat i1) (append (append (take 2 (getD (w27_4 i0 i1 es2) (0 + toNat i1) [])) [D.int i64 (wrap i64 (wrap i64 (i0 + 1) + 1))]) (drop 3 (getD (w27_4 i0 i1 es2) (0 + toNat i1) [])))
theorem q27_0 (n : Nat) (i0 : Int) (i1 : Int) (es2 : List (List D)) (f : St → RR) (K : Ex → St → RR) : B27_0 n (S27_0 i0 i1 es2) (kThen (fun st ↦ f (St.head 1 35 1099511627746 st)) K) = bif decide (i1 < ofNat (length es2)) then bif decide (0 ≤ i1) && decide (i1 < ofNat (length es2)) then bif decide (0 ≤ i1) && decide (i1 < ofNat (length (w27_3 i0 i1 es2))) then bif decide (0 ≤ i1) && decide (i1 < ofNat (length (w27_4 i0 i1 es2))) then bif decide (0 ≤ i1) && decide (i1 < ofNat (length (w27_5 i0 i1 es2))) then f (S27_0 (wrap i64 (wrap i64 (wrap i64 (wrap i64 (i0 + 1) + 1) + 1) + 1)) (wrap i64 (i1 + 1)) (set (w27_5 i0 i1 es2) (0 + toNat i1) (append (append (take 3 (getD (w27_5 i0 i1 es2) (0 + toNat i1) [])) [D.int i64 (wrap i64 (wrap i64 (wrap i64 (i0 + 1) + 1) + 1))]) (drop 4 (getD (w27_5 i0 i1 es2) (0 + toNat i1) []))))) else none else none else none else none else K (Ex.exit 0) (X27_2 i0 i1 es2) := by kernel_rfl
theorem aX27_2 (n : Nat) (i0 : Int) (i1 : Int) (es2 : List (List D)) : k27_1 n (Ex.exit 0) (X27_2 i0 i1 es2) = some ([[D.int i64 i0]], [[D.sl true 4 es2]]) := by kernel_rfl
theorem r27 (a : List Link) (k : Int) (n : Nat) : evFn ⟨prog, Hx, 27⟩ T28.call n f27 [[.sl true 4 (enS true a)], [.int .i64 k]] = loopRun (B27_0 n) 1 35 1099511627746 n (S27_0 k (0) (enS true a)) (k27_1 n) := by kernel_rfl
theorem m27 (a : List Link) (k : Int) (hpre : (o27 a k).1 = true) : evFn ⟨Go.Proofs.Try.prog, Hx, 27⟩ T28.call (a.length + 1) f27 [[.sl true 4 (enS true a)], [.int .i64 k]] = some (o27 a k).2 := by
  refine (r27 a k _).trans ?_
  show _ = (some ([[.int .i64 (k + cntS Link.n_ a)]], [[.sl true 4 (enS true (markS Link.mk_ Link.n_ a k))]]) : Option (List Row × List Row))
  replace hpre : (decide (0 ≤ k) && (decide (k + cntS Link.n_ a ≤ 4611686018427387904) && decide (a.length ≤ 1152921504606846976))) = true := hpre
  simp only [Bool.and_eq_true, decide_eq_true_eq] at hpre
  obtain ⟨h0, h1, h2⟩ := hpre
  refine loop_list (xs := a) (fun i (v : List Link × Int) => S27_0 v.2 (Int.ofNat i) (enS true (v.1 ++ a.drop i))) (fun i v => v.1.length = i ∧ 0 ≤ v.2 ∧ v.2 + cntS Link.n_ (a.drop i) ≤ 4611686018427387904) (fun _ v rest => some ([[D.int .i64 (v.2 + cntS Link.n_ rest)]], [[D.sl true 4 (enS true (v.1 ++ markS Link.mk_ Link.n_ rest v.2))]])) ?_ ?_ (a.length + 1) ([], k) (by omega) ⟨rfl, h0, h1⟩
  · rintro ⟨pre, k⟩ ⟨hl, hk0, hk1⟩ f
    refine (q27_0 _ _ _ _ f _).trans ?_
    simp only [enS_length, List.drop_length, List.append_nil, hl, dec_lt, Nat.lt_irrefl, decide_false, cond_false]
    refine (aX27_2 _ _ _ _).trans ?_
    simp only [List.append_nil, cntS, markS, Int.add_zero]
  · rintro i ⟨pre, k⟩ hi ⟨hl, hk0, hk1⟩ f hf
    simp only at hl hk0 hk1
    rw [List.drop_eq_getElem_cons hi] at hk1
    generalize hx : a[i] = x at hk1 ⊢
    have hc := cntS_nonneg (n := Link.n_) Link.n_pos (a.drop (i + 1))
    have hn : Link.n_ x = 4 := rfl
    simp only [cntS, hn] at hk1
    refine (q27_0 _ _ _ _ f _).trans ?_
    rw [List.drop_eq_getElem_cons hi, hx]
    have hm := mid_get pre x (a.drop (i + 1)) hl
    have hat := mid_at pre x (a.drop (i + 1)) hl hm
    have hs : ∀ R, ((enS true (pre ++ x :: a.drop (i + 1))).set i R).getD i [] = R := fun R => getD_set_same _ _ _ _ (by rw [enS_length]; exact hm)
    simp only [w27_3, w27_4, w27_5, List.length_set, enS_length, toNat_of, Nat.zero_add, dec_lt, dec_ge, hm, hs, List.set_set, enS_get _ hm, hat, decide_true, cond_true, Bool.and_self, wrap_succ (show i < 4611686018427387904 by omega), En.enc, List.append_eq, List.take_succ_cons, List.take_zero, List.drop_succ_cons, List.drop_zero, List.cons_append, List.nil_append]
    have hw1 : IntKind.wrap IntKind.i64 (k + 1) = k + 1 := wrap_le (by omega) (by omega)
    have hw2 : IntKind.wrap IntKind.i64 (k + 1 + 1) = k + 1 + 1 := wrap_le (by omega) (by omega)
    have hw3 : IntKind.wrap IntKind.i64 (k + 1 + 1 + 1) = k + 1 + 1 + 1 := wrap_le (by omega) (by omega)
    have hw4 : IntKind.wrap IntKind.i64 (k + 1 + 1 + 1 + 1) = k + 1 + 1 + 1 + 1 := wrap_le (by omega) (by omega)
    simp only [hw1, hw2, hw3, hw4]
    have he : k + 1 + 1 + 1 + 1 = k + Link.n_ x := by omega
    skip
    refine (congrArg f (congrArg (S27_0 _ _) ((enS_set true _ i (Link.mk_ x k)).trans (congrArg (enS true) (mid_set pre x _ _ hl))))).trans ?_
    refine (hf (pre ++ [Link.mk_ x k], k + 1 + 1 + 1 + 1) ⟨by simp [hl], by simp only; omega, by simp only; omega⟩).trans ?_
    show _ = some ([[D.int .i64 (k + (Link.n_ x + cntS Link.n_ (a.drop (i + 1))))]], [[D.sl true 4 (enS true (pre ++ (Link.mk_ x k :: markS Link.mk_ Link.n_ (a.drop (i + 1)) (k + Link.n_ x))))]])
    rw [he, List.append_assoc, List.singleton_append, Int.add_assoc]
theorem s27 : SoundAt Go.Proofs.Try.prog Hx 27 c27 := soundAt_of T28_sound mixed func27 (by kernel_rfl) (by
  intro rows r h
  unfold c27 at h
  split at h
  · rename_i a k
    obtain ⟨hp, hr⟩ := Prod.mk.inj (Option.some.inj h)
    subst hr
    simp only [Bool.and_eq_true] at hp
    obtain ⟨hs0, hp⟩ := hp
    obtain ⟨xs0, rfl⟩ := isS_ex hs0
    simp only [deS_enS] at hp ⊢
    exact ⟨_, m27 xs0 k hp⟩
  · cases h)
def T27 : Table := (27, c27) :: T28
theorem T27_sound : Table.Sound Go.Proofs.Try.prog Hx T27 := Table.sound_cons s27 T28_sound
def o10 (a : Net) (k : Int) : Bool × List Row × List Row := (decide (0 ≤ k) && (decide (k + Net.nTop a ≤ 4611686018427387904) && ((decide (a.Bridges.length ≤ 1152921504606846976) && a.Bridges.all (fun x => decide (x.Ports.length ≤ 1152921504606846976))) && decide (a.Links.length ≤ 1152921504606846976))), [[.int .i64 (k + Net.nTop a)]], [[.sl true 2 (enS true (Net.mkTop a k).Bridges), .sl true 4 (enS true (Net.mkTop a k).Links)]])
def c10 : Contract
  | [[.sl true 2 a_Bridges, .sl true 4 a_Links], [.int .i64 k]] => some (isS Bridge true a_Bridges && isS Link true a_Links && (o10 ⟨(deS Bridge a_Bridges), (deS Link a_Links)⟩ k).1, (o10 ⟨(deS Bridge a_Bridges), (deS Link a_Links)⟩ k).2.1, (o10 ⟨(deS Bridge a_Bridges), (deS Link a_Links)⟩ k).2.2)
  | _ => none

theorem r10 (a : Net) (k : Int) (n : Nat) : evFn ⟨prog, Hx, 10⟩ T27.call n f10 [[.sl true 2 (enS true a.Bridges), .sl true 4 (enS true a.Links)], [.int .i64 k]] = bif isS Bridge true (enS true (Net.Bridges a)) && (decide (0 ≤ k) && (decide (k + cntS Bridge.n_ (deS Bridge (enS true (Net.Bridges a))) ≤ 4611686018427387904) && (decide (length (deS Bridge (enS true (Net.Bridges a))) ≤ 1152921504606846976) && all (deS Bridge (enS true (Net.Bridges a))) fun x ↦ decide (length (Bridge.Ports x) ≤ 1152921504606846976)))) then bif isS Link true (enS true (Net.Links a)) && (decide (0 ≤ k + cntS Bridge.n_ (deS Bridge (enS true (Net.Bridges a)))) && (decide (k + cntS Bridge.n_ (deS Bridge (enS true (Net.Bridges a))) + cntS Link.n_ (deS Link (enS true (Net.Links a))) ≤ 4611686018427387904) && decide (length (deS Link (enS true (Net.Links a))) ≤ 1152921504606846976))) then some ([[D.int i64 (k + cntS Bridge.n_ (deS Bridge (enS true (Net.Bridges a))) + cntS Link.n_ (deS Link (enS true (Net.Links a))))]], [[D.sl true 2 (enS true (markS Bridge.mk_ Bridge.n_ (deS Bridge (enS true (Net.Bridges a))) k)), D.sl true 4 (enS true (markS Link.mk_ Link.n_ (deS Link (enS true (Net.Links a))) (k + cntS Bridge.n_ (deS Bridge (enS true (Net.Bridges a))))))]]) else none else none := by kernel_rfl
theorem m10 (a : Net) (k : Int) (hpre : (o10 a k).1 = true) : evFn ⟨Go.Proofs.Try.prog, Hx, 10⟩ T27.call 0 f10 [[.sl true 2 (enS true a.Bridges), .sl true 4 (enS true a.Links)], [.int .i64 k]] = some (o10 a k).2 := by
  refine (r10 a k _).trans ?_
  show _ = (some ([[.int .i64 (k + Net.nTop a)]], [[.sl true 2 (enS true (Net.mkTop a k).Bridges), .sl true 4 (enS true (Net.mkTop a k).Links)]]) : Option (List Row × List Row))
  replace hpre : (decide (0 ≤ k) && (decide (k + Net.nTop a ≤ 4611686018427387904) && ((decide (a.Bridges.length ≤ 1152921504606846976) && a.Bridges.all (fun x => decide (x.Ports.length ≤ 1152921504606846976))) && decide (a.Links.length ≤ 1152921504606846976)))) = true := hpre
  simp only [Bool.and_eq_true] at hpre
  obtain ⟨h0, h1, h2⟩ := hpre
  have h0' := of_decide_eq_true h0
  have h1' := of_decide_eq_true h1
  unfold Net.nTop at h1'
  have p0 : 0 ≤ cntS Bridge.n_ a.Bridges := cntS_nonneg Bridge.n_pos a.Bridges
  have p1 : 0 ≤ cntS Link.n_ a.Links := cntS_nonneg Link.n_pos a.Links
  have g0 : decide (0 ≤ k) = true := decide_eq_true (by omega)
  have f0 : decide (k + cntS Bridge.n_ a.Bridges ≤ 4611686018427387904) = true := decide_eq_true (by omega)
  have d0 : decide (k + cntS Bridge.n_ a.Bridges < 0) = false := decide_eq_false (by omega)
  have g1 : decide (0 ≤ k + cntS Bridge.n_ a.Bridges) = true := decide_eq_true (by omega)
  have f1 : decide (k + cntS Bridge.n_ a.Bridges + cntS Link.n_ a.Links ≤ 4611686018427387904) = true := decide_eq_true (by omega)
  have d1 : decide (k + cntS Bridge.n_ a.Bridges + cntS Link.n_ a.Links < 0) = false := decide_eq_false (by omega)
  simp only [g0, f0, d0, g1, f1, d1, h2, isS_enS, deS_enS, sameB_self, cond_true, cond_false, Bool.and_self, Bool.and_true, Bool.true_and, Net.mkTop, Net.nTop]
  try rfl
  try simp only [Int.add_assoc]
theorem s10 : SoundAt Go.Proofs.Try.prog Hx 10 c10 := soundAt_of T27_sound mixed func10 (by kernel_rfl) (by
  intro rows r h
  unfold c10 at h
  split at h
  · rename_i a_Bridges a_Links k
    obtain ⟨hp, hr⟩ := Prod.mk.inj (Option.some.inj h)
    subst hr
    simp only [Bool.and_eq_true] at hp
    obtain ⟨⟨hs0, hs1⟩, hp⟩ := hp
    obtain ⟨xs0, rfl⟩ := isS_ex hs0
    obtain ⟨xs1, rfl⟩ := isS_ex hs1
    simp only [deS_enS] at hp ⊢
    exact ⟨_, m10 ⟨xs0, xs1⟩ k hp⟩
  · cases h)
def T10 : Table := (10, c10) :: T27
theorem T10_sound : Table.Sound Go.Proofs.Try.prog Hx T10 := Table.sound_cons s10 T27_sound
def o11 (a : Fabric) (k : Int) : Bool × List Row × List Row := (decide (0 ≤ k) && (decide (k + Fabric.nTop a ≤ 4611686018427387904) && (((decide (a.Net.Bridges.length ≤ 1152921504606846976) && a.Net.Bridges.all (fun x => decide (x.Ports.length ≤ 1152921504606846976))) && decide (a.Net.Links.length ≤ 1152921504606846976)) && (decide (a.Cards.length ≤ 1152921504606846976) && a.Cards.all (fun x => (decide (x.Open.length ≤ 1152921504606846976) && (decide (x.Members.length ≤ 1152921504606846976) && x.Members.all (fun x => decide (x.In.length ≤ 1152921504606846976))) && decide (x.Table.length ≤ 1152921504606846976)))))), [[.int .i64 (k + Fabric.nTop a)]], [[.sl true 2 (enS true (Fabric.mkTop a k).Net.Bridges), .sl true 4 (enS true (Fabric.mkTop a k).Net.Links), .sl true 3 (enS true (Fabric.mkTop a k).Cards)]])
def c11 : Contract
  | [[.sl true 2 a_Net_Bridges, .sl true 4 a_Net_Links, .sl true 3 a_Cards], [.int .i64 k]] => some (isS Bridge true a_Net_Bridges && isS Link true a_Net_Links && isS Card true a_Cards && (o11 ⟨⟨(deS Bridge a_Net_Bridges), (deS Link a_Net_Links)⟩, (deS Card a_Cards)⟩ k).1, (o11 ⟨⟨(deS Bridge a_Net_Bridges), (deS Link a_Net_Links)⟩, (deS Card a_Cards)⟩ k).2.1, (o11 ⟨⟨(deS Bridge a_Net_Bridges), (deS Link a_Net_Links)⟩, (deS Card a_Cards)⟩ k).2.2)
  | _ => none

theorem r11 (a : Fabric) (k : Int) (n : Nat) : evFn ⟨prog, Hx, 11⟩ T10.call n f11 [[.sl true 2 (enS true a.Net.Bridges), .sl true 4 (enS true a.Net.Links), .sl true 3 (enS true a.Cards)], [.int .i64 k]] = bif isS Bridge true (enS true (Net.Bridges (Fabric.Net a))) && isS Link true (enS true (Net.Links (Fabric.Net a))) && (decide (0 ≤ k) && (decide (k + Net.nTop (Net.mk (deS Bridge (enS true (Net.Bridges (Fabric.Net a)))) (deS Link (enS true (Net.Links (Fabric.Net a))))) ≤ 4611686018427387904) && ((decide (length (deS Bridge (enS true (Net.Bridges (Fabric.Net a)))) ≤ 1152921504606846976) && all (deS Bridge (enS true (Net.Bridges (Fabric.Net a)))) fun x ↦ decide (length (Bridge.Ports x) ≤ 1152921504606846976)) && decide (length (deS Link (enS true (Net.Links (Fabric.Net a)))) ≤ 1152921504606846976)))) then bif isS Card true (enS true (Fabric.Cards a)) && (decide (0 ≤ k + Net.nTop (Net.mk (deS Bridge (enS true (Net.Bridges (Fabric.Net a)))) (deS Link (enS true (Net.Links (Fabric.Net a)))))) && (decide (k + Net.nTop (Net.mk (deS Bridge (enS true (Net.Bridges (Fabric.Net a)))) (deS Link (enS true (Net.Links (Fabric.Net a))))) + cntS Card.n_ (deS Card (enS true (Fabric.Cards a))) ≤ 4611686018427387904) && (decide (length (deS Card (enS true (Fabric.Cards a))) ≤ 1152921504606846976) && all (deS Card (enS true (Fabric.Cards a))) fun x ↦ decide (length (Card.Open x) ≤ 1152921504606846976) && (decide (length (Card.Members x) ≤ 1152921504606846976) && all (Card.Members x) fun x_1 ↦ decide (length (Member.In x_1) ≤ 1152921504606846976)) && decide (length (Card.Table x) ≤ 1152921504606846976)))) then some ([[D.int i64 (k + Net.nTop (Net.mk (deS Bridge (enS true (Net.Bridges (Fabric.Net a)))) (deS Link (enS true (Net.Links (Fabric.Net a))))) + cntS Card.n_ (deS Card (enS true (Fabric.Cards a))))]], [[D.sl true 2 (enS true (Net.Bridges (Net.mkTop (Net.mk (deS Bridge (enS true (Net.Bridges (Fabric.Net a)))) (deS Link (enS true (Net.Links (Fabric.Net a))))) k))), D.sl true 4 (enS true (Net.Links (Net.mkTop (Net.mk (deS Bridge (enS true (Net.Bridges (Fabric.Net a)))) (deS Link (enS true (Net.Links (Fabric.Net a))))) k))), D.sl true 3 (enS true (markS Card.mk_ Card.n_ (deS Card (enS true (Fabric.Cards a))) (k + Net.nTop (Net.mk (deS Bridge (enS true (Net.Bridges (Fabric.Net a)))) (deS Link (enS true (Net.Links (Fabric.Net a))))))))]]) else none else none := by kernel_rfl
theorem m11 (a : Fabric) (k : Int) (hpre : (o11 a k).1 = true) : evFn ⟨Go.Proofs.Try.prog, Hx, 11⟩ T10.call 0 f11 [[.sl true 2 (enS true a.Net.Bridges), .sl true 4 (enS true a.Net.Links), .sl true 3 (enS true a.Cards)], [.int .i64 k]] = some (o11 a k).2 := by
  refine (r11 a k _).trans ?_
  show _ = (some ([[.int .i64 (k + Fabric.nTop a)]], [[.sl true 2 (enS true (Fabric.mkTop a k).Net.Bridges), .sl true 4 (enS true (Fabric.mkTop a k).Net.Links), .sl true 3 (enS true (Fabric.mkTop a k).Cards)]]) : Option (List Row × List Row))
  replace hpre : (decide (0 ≤ k) && (decide (k + Fabric.nTop a ≤ 4611686018427387904) && (((decide (a.Net.Bridges.length ≤ 1152921504606846976) && a.Net.Bridges.all (fun x => decide (x.Ports.length ≤ 1152921504606846976))) && decide (a.Net.Links.length ≤ 1152921504606846976)) && (decide (a.Cards.length ≤ 1152921504606846976) && a.Cards.all (fun x => (decide (x.Open.length ≤ 1152921504606846976) && (decide (x.Members.length ≤ 1152921504606846976) && x.Members.all (fun x => decide (x.In.length ≤ 1152921504606846976))) && decide (x.Table.length ≤ 1152921504606846976))))))) = true := hpre
  simp only [Bool.and_eq_true] at hpre
  obtain ⟨h0, h1, h2⟩ := hpre
  have h0' := of_decide_eq_true h0
  have h1' := of_decide_eq_true h1
  unfold Fabric.nTop at h1'
  have p0 : 0 ≤ Net.nTop a.Net := Net.nTop_pos a.Net
  have p1 : 0 ≤ cntS Card.n_ a.Cards := cntS_nonneg Card.n_pos a.Cards
  have g0 : decide (0 ≤ k) = true := decide_eq_true (by omega)
  have f0 : decide (k + Net.nTop a.Net ≤ 4611686018427387904) = true := decide_eq_true (by omega)
  have d0 : decide (k + Net.nTop a.Net < 0) = false := decide_eq_false (by omega)
  have g1 : decide (0 ≤ k + Net.nTop a.Net) = true := decide_eq_true (by omega)
  have f1 : decide (k + Net.nTop a.Net + cntS Card.n_ a.Cards ≤ 4611686018427387904) = true := decide_eq_true (by omega)
  have d1 : decide (k + Net.nTop a.Net + cntS Card.n_ a.Cards < 0) = false := decide_eq_false (by omega)
  simp only [g0, f0, d0, g1, f1, d1, h2, isS_enS, deS_enS, sameB_self, cond_true, cond_false, Bool.and_self, Bool.and_true, Bool.true_and, Fabric.mkTop, Fabric.nTop]
  try rfl
  try simp only [Int.add_assoc]
theorem s11 : SoundAt Go.Proofs.Try.prog Hx 11 c11 := soundAt_of T10_sound mixed func11 (by kernel_rfl) (by
  intro rows r h
  unfold c11 at h
  split at h
  · rename_i a_Net_Bridges a_Net_Links a_Cards k
    obtain ⟨hp, hr⟩ := Prod.mk.inj (Option.some.inj h)
    subst hr
    simp only [Bool.and_eq_true] at hp
    obtain ⟨⟨⟨hs0, hs1⟩, hs2⟩, hp⟩ := hp
    obtain ⟨xs0, rfl⟩ := isS_ex hs0
    obtain ⟨xs1, rfl⟩ := isS_ex hs1
    obtain ⟨xs2, rfl⟩ := isS_ex hs2
    simp only [deS_enS] at hp ⊢
    exact ⟨_, m11 ⟨⟨xs0, xs1⟩, xs2⟩ k hp⟩
  · cases h)
def T11 : Table := (11, c11) :: T10
theorem T11_sound : Table.Sound Go.Proofs.Try.prog Hx T11 := Table.sound_cons s11 T10_sound
end Go.Ev
end
