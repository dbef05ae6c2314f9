/- Contracts of functions, each by its evaluation. -/
import Derived.Test.YtfeaiokfklkhjaaEvMd
import Derived.Test.YtfeaiokfklkhjaaProg
import Derived.KernelRfl
import Derived.Test.YtfeaiokfklkhjaaFNet2
set_option linter.unusedVariables false
set_option linter.unusedSimpArgs false
set_option maxRecDepth 100000
noncomputable section
open List (getD length drop take set append replicate all isEmpty)
open Int (toNat ofNat)
open Go.IntKind (i64 wrap)
open Go.Proofs.Try (prog f12 f35 f43 f7 f83 f9 func12 func35 func43 func7 func83 func9)
namespace Go.Ev
open Go.RowKit Go.Md
end Go.Ev
namespace Go.Md
open Go Go.Ev
def hostsL (ls : List Link) : Bool := ls.all (fun l => !(l.P == 3) && !(l.Q == 3))
def hostsB (n : Net) : Bool := hostsL n.Links && netOk n
def fabL : List Card → List Bridge → Bool
  | [], _ => true
  | _ :: _, [] => false
  | c :: cs, b :: bs => cardOk c && (decide (c.Open = opensL b) && fabL cs bs)
def fabOk (f : Fabric) : Bool := hostsB f.Net && (decide (f.Cards.length = f.Net.Bridges.length) && fabL f.Cards f.Net.Bridges)
def fabN (n : Net) : Fabric := bif hostsB n then ⟨n, n.Bridges.map cardB⟩ else ⟨⟨[], []⟩, []⟩
theorem ids_ok : ∀ (u bs : List Bridge), idsB u bs = true → ∀ b ∈ bs, bridgeOk b = true
  | _, [], _, b, hb => by cases hb
  | u, c :: bs, h, b, hb => by
    rw [ids_cons] at h
    simp only [Bool.and_eq_true] at h
    rcases List.mem_cons.1 hb with h1 | h1
    · rw [h1]; exact h.1
    · exact ids_ok _ bs h.2.2 b h1
theorem ok_four {b : Bridge} (h : bridgeOk b = true) : b.Ports.length ≤ 4 := by
  unfold bridgeOk inR at h
  simp only [Bool.and_eq_true, decide_eq_true_eq] at h
  omega
theorem net_four {n : Net} (h : netOk n = true) : ∀ b ∈ n.Bridges, b.Ports.length ≤ 4 := by
  unfold netOk at h
  rw [Bool.and_eq_true] at h
  exact fun b hb => ok_four (ids_ok _ _ h.1 b hb)
theorem hosts_cons (l : Link) (ls : List Link) : hostsL (l :: ls) = ((!(l.P == 3) && !(l.Q == 3)) && hostsL ls) := rfl
theorem fabL_cons (c : Card) (cs : List Card) (b : Bridge) (bs : List Bridge) : fabL (c :: cs) (b :: bs) = (cardOk c && (decide (c.Open = opensL b) && fabL cs bs)) := rfl
theorem nsm {n : Net} (h : Net.small n = true) : (Go.Ev.isS Bridge false (Go.Ev.enS false n.Bridges) && Go.Ev.isS Link false (Go.Ev.enS false n.Links) && Net.small (Net.mk (Go.Ev.deS Bridge (Go.Ev.enS false n.Bridges)) (Go.Ev.deS Link (Go.Ev.enS false n.Links)))) = true := by
  rw [Go.Ev.isS_enS, Go.Ev.isS_enS, Go.Ev.deS_enS, Go.Ev.deS_enS]
  exact h
theorem netmk (n : Net) : Net.mk (Go.Ev.deS Bridge (Go.Ev.enS false n.Bridges)) (Go.Ev.deS Link (Go.Ev.enS false n.Links)) = n := by
  rw [Go.Ev.deS_enS, Go.Ev.deS_enS]
def fabT (n : Net) (cs : List Card) (o : Bool) : Go.Ev.RR := some ([[D.sl true 2 (Go.Ev.enS true n.Bridges), D.sl true 4 (Go.Ev.enS true n.Links), D.sl true 3 (Go.Ev.enS true cs)], [D.bool o]], [])
theorem fabN_no {n : Net} (h : hostsB n = false) : fabT (fabN n).Net (fabN n).Cards (hostsB n) = fabT ⟨[], []⟩ [] false := by unfold fabN; rw [h]; rfl
theorem fabN_yes {n : Net} (h : hostsB n = true) : fabT (fabN n).Net (fabN n).Cards (hostsB n) = fabT n (n.Bridges.map cardB) true := by unfold fabN; rw [h]; rfl
end Go.Md
namespace Go.Ev
open Go.Md
def o35 (n_ : Net) : Bool × List Row × List Row := (Net.small n_, [[.bool (hostsB n_)]], [])
def c35 : Contract
  | [[.sl false 2 n__Bridges, .sl false 4 n__Links]] => some (isS Bridge false n__Bridges && isS Link false n__Links && (o35 ⟨(deS Bridge n__Bridges), (deS Link n__Links)⟩).1, (o35 ⟨(deS Bridge n__Bridges), (deS Link n__Links)⟩).2.1, (o35 ⟨(deS Bridge n__Bridges), (deS Link n__Links)⟩).2.2)
  | _ => none

def k35_0 (n : Nat) : Ex → St → RR := kThen (fun st ↦ runCode (Ctx.mk prog Hx (35)) (Table.call T42) n (codeAt [1, 1] (bodyOf f35)) (Lv.mk 4 [] 4) st (kLeave (Ctx.P (Ctx.mk prog Hx (35))) (List.zip (Array.toList (Go.Func.resultTypes f35)) (Array.toList (Go.Func.results f35))) [] [])) (kLeave (Ctx.P (Ctx.mk prog Hx (35))) (List.zip (Array.toList (Go.Func.resultTypes f35)) (Array.toList (Go.Func.results f35))) [] [])
def k35_1 (n : Nat) : Ex → St → RR := kBlock (0) (k35_0 n)
def S35_0 (n_ : Net) (i0 : Int) : St := St.mk [U_, V_ [C.ptr 0 0 0 [] 2 0 0], U_, U_, U_, U_, V_ [C.d (D.sl false 4 (enS false (Net.Links n_)))], I_ (ofNat (length (enS false (Net.Links n_)))), I_ i0, U_, U_, U_, U_, U_, U_, U_, U_, U_, U_, U_, U_, U_, U_] [Root.mk true 2 [En.enc false n_] 0 0 true true false]
def B35_0 (n : Nat) : St → (Ex → St → RR) → RR := runCode (Ctx.mk prog Hx (35)) (Table.call T42) n (codeAt [1, 0, 1, 0, 0] (bodyOf f35)) (Lv.mk 450 [(0, 2)] 4)
def X35_2 (n_ : Net) (i0 : Int) : St := St.mk [U_, V_ [C.ptr 0 0 0 [] 2 0 0], B_ false, U_, V_ [C.ptr 1 0 0 [] 4 0 0], U_, V_ [C.d (D.sl false 4 (enS false (Net.Links n_)))], I_ (ofNat (length (enS false (Net.Links n_)))), I_ i0, B_ true, V_ [C.rptr (getD (enS false (Net.Links n_)) (toNat i0) [])], TV.v true [C.d (D.int i64 (D.num (getD (getD (enS false (Net.Links n_)) (toNat i0) []) 0 D.dead))), C.d (D.int i64 (D.num (getD (getD (enS false (Net.Links n_)) (toNat i0) []) 1 D.dead))), C.d (D.int i64 (D.num (getD (getD (enS false (Net.Links n_)) (toNat i0) []) 2 D.dead))), C.d (D.int i64 (D.num (getD (getD (enS false (Net.Links n_)) (toNat i0) []) 3 D.dead)))], V_ [C.ptr 1 0 0 [] 4 0 1], I_ (D.num (getD (getD (enS false (Net.Links n_)) (toNat i0) []) 1 D.dead)), B_ (D.num (getD (getD (enS false (Net.Links n_)) (toNat i0) []) 1 D.dead) == 3), B_ true, V_ [C.gone], V_ [C.gone], V_ [C.gone], B_ true, U_, U_, U_] [Root.mk true 2 [En.enc false n_] 0 0 true true false, Root.mk true 4 [[D.int i64 (D.num (getD (getD (enS false (Net.Links n_)) (toNat i0) []) 0 D.dead)), D.int i64 (D.num (getD (getD (enS false (Net.Links n_)) (toNat i0) []) 1 D.dead)), D.int i64 (D.num (getD (getD (enS false (Net.Links n_)) (toNat i0) []) 2 D.dead)), D.int i64 (D.num (getD (getD (enS false (Net.Links n_)) (toNat i0) []) 3 D.dead))]] 0 0 true true false]
def X35_3 (n_ : Net) (i0 : Int) : St := St.mk [U_, V_ [C.ptr 0 0 0 [] 2 0 0], B_ false, U_, V_ [C.ptr 1 0 0 [] 4 0 0], U_, V_ [C.d (D.sl false 4 (enS false (Net.Links n_)))], I_ (ofNat (length (enS false (Net.Links n_)))), I_ i0, B_ true, V_ [C.rptr (getD (enS false (Net.Links n_)) (toNat i0) [])], TV.v true [C.d (D.int i64 (D.num (getD (getD (enS false (Net.Links n_)) (toNat i0) []) 0 D.dead))), C.d (D.int i64 (D.num (getD (getD (enS false (Net.Links n_)) (toNat i0) []) 1 D.dead))), C.d (D.int i64 (D.num (getD (getD (enS false (Net.Links n_)) (toNat i0) []) 2 D.dead))), C.d (D.int i64 (D.num (getD (getD (enS false (Net.Links n_)) (toNat i0) []) 3 D.dead)))], V_ [C.ptr 1 0 0 [] 4 0 1], I_ (D.num (getD (getD (enS false (Net.Links n_)) (toNat i0) []) 1 D.dead)), B_ (D.num (getD (getD (enS false (Net.Links n_)) (toNat i0) []) 1 D.dead) == 3), B_ false, V_ [C.ptr 1 0 0 [] 4 0 3], I_ (D.num (getD (getD (enS false (Net.Links n_)) (toNat i0) []) 3 D.dead)), B_ (D.num (getD (getD (enS false (Net.Links n_)) (toNat i0) []) 3 D.dead) == 3), B_ true, U_, U_, U_] [Root.mk true 2 [En.enc false n_] 0 0 true true false, Root.mk true 4 [[D.int i64 (D.num (getD (getD (enS false (Net.Links n_)) (toNat i0) []) 0 D.dead)), D.int i64 (D.num (getD (getD (enS false (Net.Links n_)) (toNat i0) []) 1 D.dead)), D.int i64 (D.num (getD (getD (enS false (Net.Links n_)) (toNat i0) []) 2 D.dead)), D.int i64 (D.num (getD (getD (enS false (Net.Links n_)) (toNat i0) []) 3 D.dead))]] 0 0 true true false]
def X35_4 (n_ : Net) (i0 : Int) : St := St.mk [U_, V_ [C.ptr 0 0 0 [] 2 0 0], U_, U_, U_, U_, V_ [C.d (D.sl false 4 (enS false (Net.Links n_)))], I_ (ofNat (length (enS false (Net.Links n_)))), I_ i0, B_ false, U_, U_, U_, U_, U_, U_, U_, U_, U_, U_, U_, U_, U_] [Root.mk true 2 [En.enc false n_] 0 0 true true false]
theorem q35_0 (n_ : Net) (n : Nat) (i0 : Int) (f : St → RR) (K : Ex → St → RR) : B35_0 n (S35_0 n_ i0) (kThen (fun st ↦ f (St.head 1 450 2096916 st)) K) = bif decide (i0 < ofNat (length (enS false (Net.Links n_)))) then bif decide (0 ≤ i0) && decide (i0 < ofNat (length (enS false (Net.Links n_)))) then bif Leaf.fit false (Leaf.int i64) (getD (getD (enS false (Net.Links n_)) (toNat i0) []) 0 D.dead) && (Leaf.fit false (Leaf.int i64) (getD (getD (enS false (Net.Links n_)) (toNat i0) []) 1 D.dead) && (Leaf.fit false (Leaf.int i64) (getD (getD (enS false (Net.Links n_)) (toNat i0) []) 2 D.dead) && (Leaf.fit false (Leaf.int i64) (getD (getD (enS false (Net.Links n_)) (toNat i0) []) 3 D.dead) && true))) then bif D.num (getD (getD (enS false (Net.Links n_)) (toNat i0) []) 1 D.dead) == 3 then K Ex.ret (X35_2 n_ i0) else bif D.num (getD (getD (enS false (Net.Links n_)) (toNat i0) []) 3 D.dead) == 3 then K Ex.ret (X35_3 n_ i0) else f (S35_0 n_ (wrap i64 (i0 + 1))) else none else none else K (Ex.exit 0) (X35_4 n_ i0) := by kernel_rfl
theorem aX35_2 (n_ : Net) (n : Nat) (i0 : Int) : k35_1 n Ex.ret (X35_2 n_ i0) = some ([[D.bool false]], []) := by kernel_rfl
theorem aX35_3 (n_ : Net) (n : Nat) (i0 : Int) : k35_1 n Ex.ret (X35_3 n_ i0) = some ([[D.bool false]], []) := by kernel_rfl
theorem aX35_4 (n_ : Net) (n : Nat) (i0 : Int) : k35_1 n (Ex.exit 0) (X35_4 n_ i0) = bif isS Bridge false (enS false (Net.Bridges n_)) && isS Link false (enS false (Net.Links n_)) && Net.small (Net.mk (deS Bridge (enS false (Net.Bridges n_))) (deS Link (enS false (Net.Links n_)))) then some ([[D.bool (netOk (Net.mk (deS Bridge (enS false (Net.Bridges n_))) (deS Link (enS false (Net.Links n_)))))]], []) else none := by kernel_rfl
theorem r35 (n_ : Net) (n : Nat) : evFn ⟨prog, Hx, 35⟩ T42.call n f35 [[.sl false 2 (enS false n_.Bridges), .sl false 4 (enS false n_.Links)]] = loopRun (B35_0 n) 1 450 2096916 n (S35_0 n_ (0)) (k35_1 n) := by kernel_rfl
theorem m35 (n_ : Net) (hpre : (o35 n_).1 = true) : evFn ⟨Go.Proofs.Try.prog, Hx, 35⟩ T42.call (n_.Links.length + 1) f35 [[.sl false 2 (enS false n_.Bridges), .sl false 4 (enS false n_.Links)]] = some (o35 n_).2 := by
  refine (r35 n_ _).trans ?_
  show _ = (some ([[.bool (hostsB n_)]], []) : Option (List Row × List Row))
  replace hpre : (Net.small n_) = true := hpre
  obtain ⟨hs1, hs2, hs3⟩ := net_small hpre
  unfold hostsB
  refine loop_list (xs := n_.Links) (fun i (_ : Unit) => S35_0 n_ (Int.ofNat i)) (fun _ _ => True) (fun _ _ rest => some ([[D.bool (hostsL rest && netOk n_)]], [])) ?_ ?_ (n_.Links.length + 1) () (by omega) trivial
  · rintro _ _ f
    refine (q35_0 n_ _ _ f _).trans ?_
    rw [end_lt, cond_false]
    refine (aX35_4 n_ _ _).trans ?_
    refine bif_t (nsm hpre) ?_
    rw [netmk]
    rfl
  · rintro i _ hi _ f hf
    refine (q35_0 n_ _ _ f _).trans ?_
    refine bif_t (in_lt false hi) (bif_t (by rw [in_lt false hi, dec_ge]; rfl) (bif_t (by rw [toNat_of, enS_get false hi]; rfl) ?_))
    rw [toNat_of, enS_get false hi, wrap_succ (show i < 4611686018427387904 by omega), hosts_cons]
    cases h1 : n_.Links[i].P == 3
    case true =>
      refine bif_t h1 ?_
      exact aX35_2 n_ _ _
    refine bif_f h1 ?_
    cases h2 : n_.Links[i].Q == 3
    case true =>
      refine bif_t h2 ?_
      exact aX35_3 n_ _ _
    refine bif_f h2 ?_
    exact hf () trivial
theorem s35 : SoundAt Go.Proofs.Try.prog Hx 35 c35 := soundAt_of T42_sound mixed func35 (by kernel_rfl) (by
  intro rows r h
  unfold c35 at h
  split at h
  · rename_i n__Bridges n__Links
    obtain ⟨hp, hr⟩ := Prod.mk.inj (Option.some.inj h)
    subst hr
    simp only [Bool.and_eq_true] at hp
    obtain ⟨⟨hs0, hs1⟩, hp⟩ := hp
    obtain ⟨xs0, rfl⟩ := isS_ex hs0
    obtain ⟨xs1, rfl⟩ := isS_ex hs1
    simp only [deS_enS] at hp ⊢
    exact ⟨_, m35 ⟨xs0, xs1⟩ hp⟩
  · cases h)
def T35 : Table := (35, c35) :: T42
theorem T35_sound : Table.Sound Go.Proofs.Try.prog Hx T35 := Table.sound_cons s35 T42_sound
def o9 (f : Fabric) : Bool × List Row × List Row := (Fabric.small f, [[.bool (fabOk f)]], [])
def c9 : Contract
  | [[.sl false 2 f_Net_Bridges, .sl false 4 f_Net_Links, .sl false 3 f_Cards]] => some (isS Bridge false f_Net_Bridges && isS Link false f_Net_Links && isS Card false f_Cards && (o9 ⟨⟨(deS Bridge f_Net_Bridges), (deS Link f_Net_Links)⟩, (deS Card f_Cards)⟩).1, (o9 ⟨⟨(deS Bridge f_Net_Bridges), (deS Link f_Net_Links)⟩, (deS Card f_Cards)⟩).2.1, (o9 ⟨⟨(deS Bridge f_Net_Bridges), (deS Link f_Net_Links)⟩, (deS Card f_Cards)⟩).2.2)
  | _ => none

def k9_0 (n : Nat) : Ex → St → RR := kThen (fun st ↦ runCode (Ctx.mk prog Hx (9)) (Table.call T35) n (codeAt [1, 1, 1] (bodyOf f9)) (Lv.mk 4 [] 4) st (kLeave (Ctx.P (Ctx.mk prog Hx (9))) (List.zip (Array.toList (Go.Func.resultTypes f9)) (Array.toList (Go.Func.results f9))) [] [])) (kLeave (Ctx.P (Ctx.mk prog Hx (9))) (List.zip (Array.toList (Go.Func.resultTypes f9)) (Array.toList (Go.Func.results f9))) [] [])
def k9_1 (n : Nat) : Ex → St → RR := kBlock (0) (k9_0 n)
def S9_0 (f : Fabric) (i0 : Int) : St := St.mk [U_, V_ [C.ptr 0 0 0 [] 3 0 0], U_, U_, U_, U_, U_, U_, U_, U_, U_, U_, U_, U_, U_, U_, U_, U_, U_, U_, V_ [C.d (D.sl false 3 (enS false (Fabric.Cards f)))], I_ (ofNat (length (enS false (Fabric.Cards f)))), I_ i0, U_, U_, U_, U_, U_, U_, U_, U_, U_, U_, U_, U_, U_, U_, U_, U_, U_, U_, U_, U_, U_] [Root.mk true 3 [En.enc false f] 0 0 true true false]
def B9_0 (n : Nat) : St → (Ex → St → RR) → RR := runCode (Ctx.mk prog Hx (9)) (Table.call T35) n (codeAt [1, 1, 0, 1, 0, 0] (bodyOf f9)) (Lv.mk 7340034 [(0, 0)] 4)
def X9_2 (f : Fabric) (i0 : Int) : St := St.mk [U_, V_ [C.ptr 0 0 0 [] 3 0 0], B_ false, I_ i0, V_ [C.ptr 1 0 0 [] 3 0 0], U_, U_, U_, U_, U_, U_, U_, U_, U_, U_, U_, U_, U_, U_, U_, V_ [C.d (D.sl false 3 (enS false (Fabric.Cards f)))], I_ (ofNat (length (enS false (Fabric.Cards f)))), I_ i0, B_ true, I_ i0, V_ [C.rptr (getD (enS false (Fabric.Cards f)) (toNat i0) [])], TV.v true [C.d (D.sl false 1 (D.rows (getD (getD (enS false (Fabric.Cards f)) (toNat i0) []) 0 D.dead))), C.d (D.sl false 2 (D.rows (getD (getD (enS false (Fabric.Cards f)) (toNat i0) []) 1 D.dead))), C.d (D.sl false 4 (D.rows (getD (getD (enS false (Fabric.Cards f)) (toNat i0) []) 2 D.dead)))], TV.v true [C.d (D.sl false 1 (D.rows (getD (getD (enS false (Fabric.Cards f)) (toNat i0) []) 0 D.dead))), C.d (D.sl false 2 (D.rows (getD (getD (enS false (Fabric.Cards f)) (toNat i0) []) 1 D.dead))), C.d (D.sl false 4 (D.rows (getD (getD (enS false (Fabric.Cards f)) (toNat i0) []) 2 D.dead)))], B_ (cardOk (En.dec (getD (enS false (Fabric.Cards f)) (toNat i0) []))), V_ [C.d (D.bool !cardOk (En.dec (getD (enS false (Fabric.Cards f)) (toNat i0) [])))], B_ true, V_ [C.gone], V_ [C.gone], V_ [C.gone], V_ [C.gone], V_ [C.gone], V_ [C.gone], V_ [C.gone], V_ [C.gone], V_ [C.gone], V_ [C.gone], V_ [C.gone], B_ true, U_] [Root.mk true 3 [En.enc false f] 0 0 true true false, Root.mk true 3 [[D.sl false 1 (D.rows (getD (getD (enS false (Fabric.Cards f)) (toNat i0) []) 0 D.dead)), D.sl false 2 (D.rows (getD (getD (enS false (Fabric.Cards f)) (toNat i0) []) 1 D.dead)), D.sl false 4 (D.rows (getD (getD (enS false (Fabric.Cards f)) (toNat i0) []) 2 D.dead))]] 0 1 true true false]
def X9_3 (f : Fabric) (i0 : Int) : St := St.mk [U_, V_ [C.ptr 0 0 0 [] 3 0 0], B_ false, I_ i0, V_ [C.ptr 1 0 0 [] 3 0 0], U_, U_, U_, U_, U_, U_, U_, U_, U_, U_, U_, U_, U_, U_, U_, V_ [C.d (D.sl false 3 (enS false (Fabric.Cards f)))], I_ (ofNat (length (enS false (Fabric.Cards f)))), I_ i0, B_ true, I_ i0, V_ [C.rptr (getD (enS false (Fabric.Cards f)) (toNat i0) [])], TV.v true [C.d (D.sl false 1 (D.rows (getD (getD (enS false (Fabric.Cards f)) (toNat i0) []) 0 D.dead))), C.d (D.sl false 2 (D.rows (getD (getD (enS false (Fabric.Cards f)) (toNat i0) []) 1 D.dead))), C.d (D.sl false 4 (D.rows (getD (getD (enS false (Fabric.Cards f)) (toNat i0) []) 2 D.dead)))], TV.v true [C.d (D.sl false 1 (D.rows (getD (getD (enS false (Fabric.Cards f)) (toNat i0) []) 0 D.dead))), C.d (D.sl false 2 (D.rows (getD (getD (enS false (Fabric.Cards f)) (toNat i0) []) 1 D.dead))), C.d (D.sl false 4 (D.rows (getD (getD (enS false (Fabric.Cards f)) (toNat i0) []) 2 D.dead)))], B_ (cardOk (En.dec (getD (enS false (Fabric.Cards f)) (toNat i0) []))), V_ [C.d (D.bool !cardOk (En.dec (getD (enS false (Fabric.Cards f)) (toNat i0) [])))], B_ false, V_ [C.ptr 1 0 0 [] 3 0 0], V_ [C.d (D.sl false 1 (D.rows (getD (getD (enS false (Fabric.Cards f)) (toNat i0) []) 0 D.dead)))], V_ [C.ptr 0 0 0 [] 3 0 0], V_ [C.ptr 0 0 0 [] 3 0 0], V_ [C.d (D.sl false 2 (enS false (Net.Bridges (Fabric.Net f))))], I_ i0, V_ [C.rptr (getD (enS false (Net.Bridges (Fabric.Net f))) (toNat i0) [])], TV.v true [C.d (D.int i64 (D.num (getD (getD (enS false (Net.Bridges (Fabric.Net f))) (toNat i0) []) 0 D.dead))), C.d (D.sl false 11 (D.rows (getD (getD (enS false (Net.Bridges (Fabric.Net f))) (toNat i0) []) 1 D.dead)))], V_ [C.view 2 0 0 [] 1 none], B_ (decide (deS Bool (D.rows (getD (getD (enS false (Fabric.Cards f)) (toNat i0) []) 0 D.dead)) = deS Bool (lendRows (enS true (opensL (En.dec (getD (enS false (Net.Bridges (Fabric.Net f))) (toNat i0) []))))))), V_ [C.d (D.bool !decide (deS Bool (D.rows (getD (getD (enS false (Fabric.Cards f)) (toNat i0) []) 0 D.dead)) = deS Bool (lendRows (enS true (opensL (En.dec (getD (enS false (Net.Bridges (Fabric.Net f))) (toNat i0) [])))))))], B_ true, U_] [Root.mk true 3 [En.enc false f] 0 0 true true false, Root.mk true 3 [[D.sl false 1 (D.rows (getD (getD (enS false (Fabric.Cards f)) (toNat i0) []) 0 D.dead)), D.sl false 2 (D.rows (getD (getD (enS false (Fabric.Cards f)) (toNat i0) []) 1 D.dead)), D.sl false 4 (D.rows (getD (getD (enS false (Fabric.Cards f)) (toNat i0) []) 2 D.dead))]] 0 1 true true false, Root.mk false 1 (enS true (opensL (En.dec (getD (enS false (Net.Bridges (Fabric.Net f))) (toNat i0) [])))) 0 0 true true false]
def X9_4 (f : Fabric) (i0 : Int) : St := St.mk [U_, V_ [C.ptr 0 0 0 [] 3 0 0], U_, U_, U_, U_, U_, U_, U_, U_, U_, U_, U_, U_, U_, U_, U_, U_, U_, U_, V_ [C.d (D.sl false 3 (enS false (Fabric.Cards f)))], I_ (ofNat (length (enS false (Fabric.Cards f)))), I_ i0, B_ false, U_, U_, U_, U_, U_, U_, U_, U_, U_, U_, U_, U_, U_, U_, U_, U_, U_, U_, U_, U_] [Root.mk true 3 [En.enc false f] 0 0 true true false]
theorem q9_0 (f : Fabric) (n : Nat) (i0 : Int) (f_ : St → RR) (K : Ex → St → RR) : B9_0 n (S9_0 f i0) (kThen (fun st ↦ f_ (St.head 1 7340034 17592181850140 st)) K) = bif decide (i0 < ofNat (length (enS false (Fabric.Cards f)))) then bif decide (0 ≤ i0) && decide (i0 < ofNat (length (enS false (Fabric.Cards f)))) then bif Leaf.fit false (Leaf.sl 1 true) (getD (getD (enS false (Fabric.Cards f)) (toNat i0) []) 0 D.dead) && (Leaf.fit false (Leaf.sl 2 false) (getD (getD (enS false (Fabric.Cards f)) (toNat i0) []) 1 D.dead) && (Leaf.fit false (Leaf.sl 4 true) (getD (getD (enS false (Fabric.Cards f)) (toNat i0) []) 2 D.dead) && true)) then bif isS Bool false (D.rows (getD (getD (enS false (Fabric.Cards f)) (toNat i0) []) 0 D.dead)) && isS Member false (D.rows (getD (getD (enS false (Fabric.Cards f)) (toNat i0) []) 1 D.dead)) && isS Heard false (D.rows (getD (getD (enS false (Fabric.Cards f)) (toNat i0) []) 2 D.dead)) && Card.small (En.dec (getD (enS false (Fabric.Cards f)) (toNat i0) [])) then bif !cardOk (En.dec (getD (enS false (Fabric.Cards f)) (toNat i0) [])) then K Ex.ret (X9_2 f i0) else bif decide (0 ≤ i0) && decide (i0 < ofNat (length (enS false (Net.Bridges (Fabric.Net f))))) then bif Leaf.fit false (Leaf.int i64) (getD (getD (enS false (Net.Bridges (Fabric.Net f))) (toNat i0) []) 0 D.dead) && (Leaf.fit false (Leaf.sl 11 true) (getD (getD (enS false (Net.Bridges (Fabric.Net f))) (toNat i0) []) 1 D.dead) && true) then bif isS Port false (D.rows (getD (getD (enS false (Net.Bridges (Fabric.Net f))) (toNat i0) []) 1 D.dead)) && decide (length (deS Port (D.rows (getD (getD (enS false (Net.Bridges (Fabric.Net f))) (toNat i0) []) 1 D.dead))) ≤ 4) then bif isS Bool false (D.rows (getD (getD (enS false (Fabric.Cards f)) (toNat i0) []) 0 D.dead)) && isS Bool false (lendRows (enS true (opensL (En.dec (getD (enS false (Net.Bridges (Fabric.Net f))) (toNat i0) []))))) && decide (length (deS Bool (D.rows (getD (getD (enS false (Fabric.Cards f)) (toNat i0) []) 0 D.dead))) ≤ 1048576) then bif !decide (deS Bool (D.rows (getD (getD (enS false (Fabric.Cards f)) (toNat i0) []) 0 D.dead)) = deS Bool (lendRows (enS true (opensL (En.dec (getD (enS false (Net.Bridges (Fabric.Net f))) (toNat i0) [])))))) then K Ex.ret (X9_3 f i0) else f_ (S9_0 f (wrap i64 (i0 + 1))) else none else none else none else none else none else none else none else K (Ex.exit 0) (X9_4 f i0) := by kernel_rfl
theorem aX9_2 (f : Fabric) (n : Nat) (i0 : Int) : k9_1 n Ex.ret (X9_2 f i0) = some ([[D.bool false]], []) := by kernel_rfl
theorem aX9_3 (f : Fabric) (n : Nat) (i0 : Int) : k9_1 n Ex.ret (X9_3 f i0) = some ([[D.bool false]], []) := by kernel_rfl
theorem aX9_4 (f : Fabric) (n : Nat) (i0 : Int) : k9_1 n (Ex.exit 0) (X9_4 f i0) = some ([[D.bool true]], []) := by kernel_rfl
theorem r9 (f : Fabric) (n : Nat) : evFn ⟨prog, Hx, 9⟩ T35.call n f9 [[.sl false 2 (enS false f.Net.Bridges), .sl false 4 (enS false f.Net.Links), .sl false 3 (enS false f.Cards)]] = bif isS Bridge false (enS false (Net.Bridges (Fabric.Net f))) && isS Link false (enS false (Net.Links (Fabric.Net f))) && Net.small (Net.mk (deS Bridge (enS false (Net.Bridges (Fabric.Net f)))) (deS Link (enS false (Net.Links (Fabric.Net f))))) then bif !hostsB (Net.mk (deS Bridge (enS false (Net.Bridges (Fabric.Net f)))) (deS Link (enS false (Net.Links (Fabric.Net f))))) then some ([[D.bool false]], []) else bif ofNat (length (enS false (Fabric.Cards f))) != ofNat (length (enS false (Net.Bridges (Fabric.Net f)))) then some ([[D.bool false]], []) else loopRun (B9_0 n) 1 7340034 17592181850140 n (S9_0 f (0)) (k9_1 n) else none := by kernel_rfl
theorem m9 (f : Fabric) (hpre : (o9 f).1 = true) : evFn ⟨Go.Proofs.Try.prog, Hx, 9⟩ T35.call (f.Cards.length + 1) f9 [[.sl false 2 (enS false f.Net.Bridges), .sl false 4 (enS false f.Net.Links), .sl false 3 (enS false f.Cards)]] = some (o9 f).2 := by
  refine (r9 f _).trans ?_
  show _ = (some ([[.bool (fabOk f)]], []) : Option (List Row × List Row))
  replace hpre : (Fabric.small f) = true := hpre
  obtain ⟨hn, hc, hcs⟩ := fab_small hpre
  obtain ⟨hs1, hs2, hs3⟩ := net_small hn
  refine bif_t (nsm hn) ?_
  rw [netmk]
  show _ = some ([[D.bool (hostsB f.Net && (decide (f.Cards.length = f.Net.Bridges.length) && fabL f.Cards f.Net.Bridges))]], [])
  cases hh : hostsB f.Net
  · rfl
  simp only [enS_length, bne, nat_beq]
  cases hd : decide (f.Cards.length = f.Net.Bridges.length)
  · rfl
  have hl := of_decide_eq_true hd
  have h4 : ∀ b ∈ f.Net.Bridges, b.Ports.length ≤ 4 := net_four (by unfold hostsB at hh; rw [Bool.and_eq_true] at hh; exact hh.2)
  refine bif_f rfl (bif_f rfl ?_)
  refine loop_list (xs := f.Cards) (fun i (_ : Unit) => S9_0 f (Int.ofNat i)) (fun _ _ => True) (fun i _ rest => some ([[D.bool (fabL rest (f.Net.Bridges.drop i))]], [])) ?_ ?_ (f.Cards.length + 1) () (by omega) trivial
  · rintro _ _ f_
    refine (q9_0 f _ _ f_ _).trans ?_
    rw [end_lt, cond_false]
    exact aX9_4 f _ _
  · rintro i _ hi _ f_ hf
    have hj : i < f.Net.Bridges.length := by omega
    have hcm := hcs _ (List.getElem_mem hi)
    have hb4 := h4 _ (List.getElem_mem hj)
    have hco := (card_small hcm).1
    refine (q9_0 f _ _ f_ _).trans ?_
    rw [List.drop_eq_getElem_cons hj, fabL_cons]
    refine bif_t (in_lt false hi) (bif_t (by rw [in_lt false hi, dec_ge]; rfl) (bif_t (by rw [toNat_of, enS_get false hi]; rfl) (bif_t (by rw [toNat_of, enS_get false hi, En.dec_enc, hcm, Bool.and_true]; show (isS Bool false (enS false f.Cards[i].Open) && isS Member false (enS false f.Cards[i].Members) && isS Heard false (enS false f.Cards[i].Table)) = true; rw [isS_enS, isS_enS, isS_enS]; rfl) ?_)))
    rw [toNat_of, enS_get false hi, enS_get false hj, En.dec_enc, En.dec_enc, wrap_succ (show i < 4611686018427387904 by omega)]
    cases h1 : cardOk f.Cards[i]
    · refine bif_t rfl ?_
      exact aX9_2 f _ _
    refine bif_f rfl (bif_t (by rw [in_lt false hj, dec_ge]; rfl) (bif_t rfl (bif_t (by show (isS Port false (enS false f.Net.Bridges[i].Ports) && decide (List.length (deS Port (enS false f.Net.Bridges[i].Ports)) ≤ 4)) = true; rw [isS_enS, deS_enS, decide_eq_true hb4]; rfl) (bif_t (by show (isS Bool false (enS false f.Cards[i].Open) && isS Bool false (lendRows (enS true (opensL f.Net.Bridges[i]))) && decide (List.length (deS Bool (enS false f.Cards[i].Open)) ≤ 1048576)) = true; rw [isS_enS, lendRows_enS, isS_enS, deS_enS, decide_eq_true hco]; rfl) ?_))))
    have he : decide (deS Bool (D.rows (List.getD (En.enc false f.Cards[i]) 0 D.dead)) = deS Bool (lendRows (enS true (opensL f.Net.Bridges[i])))) = decide (f.Cards[i].Open = opensL f.Net.Bridges[i]) := by
      refine decide_eq_decide.2 ?_
      show deS Bool (enS false f.Cards[i].Open) = deS Bool (lendRows (enS true (opensL f.Net.Bridges[i]))) ↔ _
      rw [deS_enS, lendRows_enS, deS_enS]
    rw [he]
    cases h2 : decide (f.Cards[i].Open = opensL f.Net.Bridges[i])
    · refine bif_t rfl ?_
      exact aX9_3 f _ _
    · refine bif_f rfl ?_
      exact hf () trivial
theorem s9 : SoundAt Go.Proofs.Try.prog Hx 9 c9 := soundAt_of T35_sound mixed func9 (by kernel_rfl) (by
  intro rows r h
  unfold c9 at h
  split at h
  · rename_i f_Net_Bridges f_Net_Links f_Cards
    obtain ⟨hp, hr⟩ := Prod.mk.inj (Option.some.inj h)
    subst hr
    simp only [Bool.and_eq_true] at hp
    obtain ⟨⟨⟨hs0, hs1⟩, hs2⟩, hp⟩ := hp
    obtain ⟨xs0, rfl⟩ := isS_ex hs0
    obtain ⟨xs1, rfl⟩ := isS_ex hs1
    obtain ⟨xs2, rfl⟩ := isS_ex hs2
    simp only [deS_enS] at hp ⊢
    exact ⟨_, m9 ⟨⟨xs0, xs1⟩, xs2⟩ hp⟩
  · cases h)
def T9 : Table := (9, c9) :: T35
theorem T9_sound : Table.Sound Go.Proofs.Try.prog Hx T9 := Table.sound_cons s9 T35_sound
def o83 (b : Bridge) : Bool × List Row × List Row := (decide (b.Ports.length ≤ 1048576), [[.int .i64 (b).Id, .sl true 11 (enS true (b).Ports)]], [])
def c83 : Contract
  | [[.int .i64 b_Id, .sl false 11 b_Ports]] => some (isS Port false b_Ports && (o83 ⟨b_Id, (deS Port b_Ports)⟩).1, (o83 ⟨b_Id, (deS Port b_Ports)⟩).2.1, (o83 ⟨b_Id, (deS Port b_Ports)⟩).2.2)
  | _ => none

theorem r83 (b : Bridge) (n : Nat) : evFn ⟨prog, Hx, 83⟩ T9.call n f83 [[.int .i64 b.Id, .sl false 11 (enS false b.Ports)]] = bif decide ((0 + length (enS false (Bridge.Ports b))) * 80 ≤ 140737488355328) then some ([[D.int i64 (Bridge.Id b), D.sl true 11 (enS false (Bridge.Ports b))]], []) else none := by kernel_rfl
theorem m83 (b : Bridge) (hpre : (o83 b).1 = true) : evFn ⟨Go.Proofs.Try.prog, Hx, 83⟩ T9.call 0 f83 [[.int .i64 b.Id, .sl false 11 (enS false b.Ports)]] = some (o83 b).2 := by
  refine (r83 b _).trans ?_
  show _ = (some ([[.int .i64 (b).Id, .sl true 11 (enS true (b).Ports)]], []) : Option (List Row × List Row))
  replace hpre : (decide (b.Ports.length ≤ 1048576)) = true := hpre
  have hlen := of_decide_eq_true hpre
  have h1 : decide ((0 + b.Ports.length) * 80 ≤ 140737488355328) = true := decide_eq_true (by omega)
  simp only [enS_length, h1, cond_true]
  rfl
theorem s83 : SoundAt Go.Proofs.Try.prog Hx 83 c83 := soundAt_of T9_sound mixed func83 (by kernel_rfl) (by
  intro rows r h
  unfold c83 at h
  split at h
  · rename_i b_Id b_Ports
    obtain ⟨hp, hr⟩ := Prod.mk.inj (Option.some.inj h)
    subst hr
    simp only [Bool.and_eq_true] at hp
    obtain ⟨hs0, hp⟩ := hp
    obtain ⟨xs0, rfl⟩ := isS_ex hs0
    simp only [deS_enS] at hp ⊢
    exact ⟨_, m83 ⟨b_Id, xs0⟩ hp⟩
  · cases h)
def T83 : Table := (83, c83) :: T9
theorem T83_sound : Table.Sound Go.Proofs.Try.prog Hx T83 := Table.sound_cons s83 T9_sound
def o43 (n_ : Net) : Bool × List Row × List Row := (Net.small n_, [[.sl true 2 (enS true (n_).Bridges), .sl true 4 (enS true (n_).Links)]], [])
def c43 : Contract
  | [[.sl false 2 n__Bridges, .sl false 4 n__Links]] => some (isS Bridge false n__Bridges && isS Link false n__Links && (o43 ⟨(deS Bridge n__Bridges), (deS Link n__Links)⟩).1, (o43 ⟨(deS Bridge n__Bridges), (deS Link n__Links)⟩).2.1, (o43 ⟨(deS Bridge n__Bridges), (deS Link n__Links)⟩).2.2)
  | _ => none

def k43_0 (n : Nat) : Ex → St → RR := kThen (fun st ↦ runCode (Ctx.mk prog Hx (43)) (Table.call T83) n (codeAt [1, 1, 1] (bodyOf f43)) (Lv.mk 4 [] 4) st (kLeave (Ctx.P (Ctx.mk prog Hx (43))) (List.zip (Array.toList (Go.Func.resultTypes f43)) (Array.toList (Go.Func.results f43))) [] [])) (kLeave (Ctx.P (Ctx.mk prog Hx (43))) (List.zip (Array.toList (Go.Func.resultTypes f43)) (Array.toList (Go.Func.results f43))) [] [])
def k43_1 (n : Nat) : Ex → St → RR := kBlock (0) (k43_0 n)
def S43_0 (n_ : Net) (i0 : Int) (es1 : List (List D)) : St := St.mk [U_, V_ [C.ptr 0 0 0 [] 2 0 0], V_ [C.ptr 1 0 0 [] 2 0 0], V_ [C.ptr 4 0 0 [] 2 0 0], I_ i0, U_, U_, U_, U_, U_, U_, U_, U_, U_, U_, U_, U_, U_, U_, U_, U_, U_, U_, U_, U_, U_, U_, U_, U_] [Root.mk true 2 [En.enc false n_] 0 0 true true false, Root.mk true 2 [[D.sl true 2 [], D.sl true 4 []]] 0 0 true true false, Root.mk false 4 [] 0 0 false true false, Root.mk false 4 (enS false (Net.Links n_)) 0 0 false true false, Root.mk true 2 [[D.sl true 2 es1, D.sl true 4 (enS false (Net.Links n_))]] 0 0 true true false]
def B43_0 (n : Nat) : St → (Ex → St → RR) → RR := runCode (Ctx.mk prog Hx (43)) (Table.call T83) n (codeAt [1, 1, 0, 1, 0, 0] (bodyOf f43)) (Lv.mk 30 [(0, 12)] 4)
def X43_2 (n_ : Net) (i0 : Int) (es1 : List (List D)) : St := St.mk [U_, V_ [C.ptr 0 0 0 [] 2 0 0], V_ [C.ptr 1 0 0 [] 2 0 0], V_ [C.ptr 4 0 0 [] 2 0 0], I_ i0, U_, U_, U_, U_, U_, I_ i0, V_ [C.ptr 0 0 0 [] 2 0 0], V_ [C.d (D.sl false 2 (enS false (Net.Bridges n_)))], I_ (ofNat (length (enS false (Net.Bridges n_)))), B_ false, U_, U_, U_, U_, U_, U_, U_, U_, U_, U_, U_, U_, U_, U_] [Root.mk true 2 [En.enc false n_] 0 0 true true false, Root.mk true 2 [[D.sl true 2 [], D.sl true 4 []]] 0 0 true true false, Root.mk false 4 [] 0 0 false true false, Root.mk false 4 (enS false (Net.Links n_)) 0 0 false true false, Root.mk true 2 [[D.sl true 2 es1, D.sl true 4 (enS false (Net.Links n_))]] 0 0 true true false]
theorem q43_0 (n_ : Net) (n : Nat) (i0 : Int) (es1 : List (List D)) (f : St → RR) (K : Ex → St → RR) : B43_0 n (S43_0 n_ i0 es1) (kThen (fun st ↦ f (St.head 5 30 268434448 st)) K) = bif decide (i0 < ofNat (length (enS false (Net.Bridges n_)))) then bif decide (0 ≤ i0) && decide (i0 < ofNat (length (enS false (Net.Bridges n_)))) then bif Leaf.fit false (Leaf.int i64) (getD (getD (enS false (Net.Bridges n_)) (toNat i0) []) 0 D.dead) && (Leaf.fit false (Leaf.sl 11 true) (getD (getD (enS false (Net.Bridges n_)) (toNat i0) []) 1 D.dead) && true) then bif isS Port false (D.rows (getD (getD (enS false (Net.Bridges n_)) (toNat i0) []) 1 D.dead)) && decide (length (deS Port (D.rows (getD (getD (enS false (Net.Bridges n_)) (toNat i0) []) 1 D.dead))) ≤ 1048576) then bif decide ((length es1 + 1) * 32 ≤ 140737488355328) then f (S43_0 n_ (wrap i64 (i0 + 1)) (append es1 [[D.int i64 (D.num (getD (getD (enS false (Net.Bridges n_)) (toNat i0) []) 0 D.dead)), D.sl true 11 (enS true (deS Port (D.rows (getD (getD (enS false (Net.Bridges n_)) (toNat i0) []) 1 D.dead))))]])) else none else none else none else none else K (Ex.exit 0) (X43_2 n_ i0 es1) := by kernel_rfl
theorem aX43_2 (n_ : Net) (n : Nat) (i0 : Int) (es1 : List (List D)) : k43_1 n (Ex.exit 0) (X43_2 n_ i0 es1) = some ([[D.sl true 2 es1, D.sl true 4 (enS false (Net.Links n_))]], []) := by kernel_rfl
theorem r43 (n_ : Net) (n : Nat) : evFn ⟨prog, Hx, 43⟩ T83.call n f43 [[.sl false 2 (enS false n_.Bridges), .sl false 4 (enS false n_.Links)]] = bif decide ((0 + length (enS false (Net.Links n_))) * 32 ≤ 140737488355328) then loopRun (B43_0 n) 5 30 268434448 n (S43_0 n_ (0) []) (k43_1 n) else none := by kernel_rfl
theorem m43 (n_ : Net) (hpre : (o43 n_).1 = true) : evFn ⟨Go.Proofs.Try.prog, Hx, 43⟩ T83.call (n_.Bridges.length + 1) f43 [[.sl false 2 (enS false n_.Bridges), .sl false 4 (enS false n_.Links)]] = some (o43 n_).2 := by
  refine (r43 n_ _).trans ?_
  show _ = (some ([[.sl true 2 (enS true (n_).Bridges), .sl true 4 (enS true (n_).Links)]], []) : Option (List Row × List Row))
  replace hpre : (Net.small n_) = true := hpre
  obtain ⟨hs1, hs2, hs3⟩ := net_small hpre
  refine bif_t (decide_eq_true (by rw [enS_length]; omega)) ?_
  refine loop_list (xs := n_.Bridges) (fun i (bs : List Bridge) => S43_0 n_ (Int.ofNat i) (enS true bs)) (fun i bs => bs = n_.Bridges.take i) (fun _ _ _ => some ([[D.sl true 2 (enS true n_.Bridges), D.sl true 4 (enS true n_.Links)]], [])) ?_ ?_ (n_.Bridges.length + 1) [] (by omega) rfl
  · rintro bs rfl f
    refine (q43_0 n_ _ _ _ f _).trans ?_
    rw [end_lt, cond_false]
    refine (aX43_2 n_ _ _ _).trans ?_
    rw [List.take_length]
    rfl
  · rintro i bs hi hbs f hf
    have hpl := hs2 _ (List.getElem_mem hi)
    have hbl : bs.length ≤ i := by rw [hbs, List.length_take]; omega
    refine (q43_0 n_ _ _ _ f _).trans ?_
    refine bif_t (in_lt false hi) (bif_t (by rw [in_lt false hi, dec_ge]; rfl) (bif_t (by rw [toNat_of, enS_get false hi]; rfl) (bif_t (by rw [toNat_of, enS_get false hi]; show (isS Port false (enS false n_.Bridges[i].Ports) && decide (List.length (deS Port (enS false n_.Bridges[i].Ports)) ≤ 1048576)) = true; rw [isS_enS, deS_enS, decide_eq_true hpl]; rfl) (bif_t (decide_eq_true (by rw [enS_length]; omega)) ?_))))
    rw [toNat_of, enS_get false hi, wrap_succ (show i < 4611686018427387904 by omega)]
    have e : List.append (enS true bs) [[D.int .i64 (D.num (List.getD (En.enc false n_.Bridges[i]) 0 D.dead)), D.sl true 11 (enS true (deS Port (D.rows (List.getD (En.enc false n_.Bridges[i]) 1 D.dead))))]] = enS true (bs ++ [n_.Bridges[i]]) := by
      show List.append (enS true bs) [[D.int .i64 n_.Bridges[i].Id, D.sl true 11 (enS true (deS Port (enS false n_.Bridges[i].Ports)))]] = _
      rw [deS_enS]
      exact enS_snoc true bs n_.Bridges[i]
    rw [e]
    exact hf _ (by rw [hbs, List.take_append_getElem])
theorem s43 : SoundAt Go.Proofs.Try.prog Hx 43 c43 := soundAt_of T83_sound mixed func43 (by kernel_rfl) (by
  intro rows r h
  unfold c43 at h
  split at h
  · rename_i n__Bridges n__Links
    obtain ⟨hp, hr⟩ := Prod.mk.inj (Option.some.inj h)
    subst hr
    simp only [Bool.and_eq_true] at hp
    obtain ⟨⟨hs0, hs1⟩, hp⟩ := hp
    obtain ⟨xs0, rfl⟩ := isS_ex hs0
    obtain ⟨xs1, rfl⟩ := isS_ex hs1
    simp only [deS_enS] at hp ⊢
    exact ⟨_, m43 ⟨xs0, xs1⟩ hp⟩
  · cases h)
def T43 : Table := (43, c43) :: T83
theorem T43_sound : Table.Sound Go.Proofs.Try.prog Hx T43 := Table.sound_cons s43 T83_sound
def o12 (n_ : Net) : Bool × List Row × List Row := (Net.small n_, [[.sl true 2 (enS true (fabN n_).Net.Bridges), .sl true 4 (enS true (fabN n_).Net.Links), .sl true 3 (enS true (fabN n_).Cards)], [.bool (hostsB n_)]], [])
def c12 : Contract
  | [[.sl false 2 n__Bridges, .sl false 4 n__Links]] => some (isS Bridge false n__Bridges && isS Link false n__Links && (o12 ⟨(deS Bridge n__Bridges), (deS Link n__Links)⟩).1, (o12 ⟨(deS Bridge n__Bridges), (deS Link n__Links)⟩).2.1, (o12 ⟨(deS Bridge n__Bridges), (deS Link n__Links)⟩).2.2)
  | _ => none

def k12_0 (n : Nat) : Ex → St → RR := kThen (fun st ↦ runCode (Ctx.mk prog Hx (12)) (Table.call T43) n (codeAt [1, 1, 1, 1] (bodyOf f12)) (Lv.mk 12 [] 12) st (kLeave (Ctx.P (Ctx.mk prog Hx (12))) (List.zip (Array.toList (Go.Func.resultTypes f12)) (Array.toList (Go.Func.results f12))) [] [])) (kLeave (Ctx.P (Ctx.mk prog Hx (12))) (List.zip (Array.toList (Go.Func.resultTypes f12)) (Array.toList (Go.Func.results f12))) [] [])
def k12_1 (n : Nat) : Ex → St → RR := kBlock (0) (k12_0 n)
def S12_0 (n_ : Net) (i0 : Int) : St := St.mk [U_, V_ [C.ptr 0 0 0 [] 2 0 0], V_ [C.ptr 1 0 0 [] 3 0 0], U_, V_ [C.ptr 4 0 0 [] 3 0 0], I_ i0, U_, U_, U_, U_, U_, U_, U_, U_, U_, U_, U_, U_, U_, U_, U_, U_, U_, U_, U_, U_, U_, U_, U_, U_, U_, U_, U_, U_, U_, U_, U_, U_, U_, U_, U_, U_, U_, U_, U_, U_, U_, U_, U_, U_, U_, U_, U_, U_, U_, U_, U_] [Root.mk true 2 [En.enc false n_] 0 0 true true false, Root.mk true 3 [[D.sl true 2 [], D.sl true 4 [], D.sl true 3 []]] 0 0 true true false, Root.mk false 2 (enS true (deS Bridge (enS false (Net.Bridges n_)))) 0 0 false true false, Root.mk false 4 (enS true (deS Link (enS false (Net.Links n_)))) 0 0 false true false, Root.mk true 3 [[D.sl true 2 (enS true (deS Bridge (enS false (Net.Bridges n_)))), D.sl true 4 (enS true (deS Link (enS false (Net.Links n_)))), D.sl true 3 []]] 0 0 true true false]
def B12_0 (n : Nat) : St → (Ex → St → RR) → RR := runCode (Ctx.mk prog Hx (12)) (Table.call T43) n (codeAt [1, 1, 1, 0, 1, 0, 0] (bodyOf f12)) (Lv.mk 54 [(0, 22)] 12)
def X12_2 (n_ : Net) (i0 : Int) : St := St.mk [U_, V_ [C.ptr 0 0 0 [] 2 0 0], V_ [C.ptr 1 0 0 [] 3 0 0], B_ false, V_ [C.ptr 4 0 0 [] 3 0 0], I_ i0, U_, U_, U_, U_, U_, U_, U_, U_, I_ i0, V_ [C.ptr 0 0 0 [] 2 0 1], V_ [C.d (D.sl false 4 (enS false (Net.Links n_)))], I_ (ofNat (length (enS false (Net.Links n_)))), B_ true, U_, U_, V_ [C.ptr 0 0 0 [] 2 0 1], V_ [C.d (D.sl false 4 (enS false (Net.Links n_)))], I_ i0, V_ [C.rptr (getD (enS false (Net.Links n_)) (toNat i0) [])], V_ [C.rptr (drop 1 (getD (enS false (Net.Links n_)) (toNat i0) []))], I_ (D.num (getD (drop 1 (getD (enS false (Net.Links n_)) (toNat i0) [])) 0 D.dead)), B_ (D.num (getD (drop 1 (getD (enS false (Net.Links n_)) (toNat i0) [])) 0 D.dead) == 3), B_ true, V_ [C.gone], V_ [C.gone], V_ [C.gone], V_ [C.gone], V_ [C.gone], V_ [C.gone], V_ [C.gone], B_ true, TV.v true [C.nils 2, C.nils 4, C.nils 3], U_, U_, U_, U_, U_, U_, U_, U_, U_, U_, U_, U_, U_, U_, U_, U_, U_, U_, U_] [Root.mk true 2 [En.enc false n_] 0 0 true true false, Root.mk true 3 [[D.sl true 2 [], D.sl true 4 [], D.sl true 3 []]] 0 1 true true false, Root.mk false 2 (enS true (deS Bridge (enS false (Net.Bridges n_)))) 0 0 false true false, Root.mk false 4 (enS true (deS Link (enS false (Net.Links n_)))) 0 0 false true false, Root.mk true 3 [[D.sl true 2 (enS true (deS Bridge (enS false (Net.Bridges n_)))), D.sl true 4 (enS true (deS Link (enS false (Net.Links n_)))), D.sl true 3 []]] 0 0 true true false]
def X12_3 (n_ : Net) (i0 : Int) : St := St.mk [U_, V_ [C.ptr 0 0 0 [] 2 0 0], V_ [C.ptr 1 0 0 [] 3 0 0], B_ false, V_ [C.ptr 4 0 0 [] 3 0 0], I_ i0, U_, U_, U_, U_, U_, U_, U_, U_, I_ i0, V_ [C.ptr 0 0 0 [] 2 0 1], V_ [C.d (D.sl false 4 (enS false (Net.Links n_)))], I_ (ofNat (length (enS false (Net.Links n_)))), B_ true, U_, U_, V_ [C.ptr 0 0 0 [] 2 0 1], V_ [C.d (D.sl false 4 (enS false (Net.Links n_)))], I_ i0, V_ [C.rptr (getD (enS false (Net.Links n_)) (toNat i0) [])], V_ [C.rptr (drop 1 (getD (enS false (Net.Links n_)) (toNat i0) []))], I_ (D.num (getD (drop 1 (getD (enS false (Net.Links n_)) (toNat i0) [])) 0 D.dead)), B_ (D.num (getD (drop 1 (getD (enS false (Net.Links n_)) (toNat i0) [])) 0 D.dead) == 3), B_ false, V_ [C.ptr 0 0 0 [] 2 0 1], V_ [C.d (D.sl false 4 (enS false (Net.Links n_)))], I_ i0, V_ [C.rptr (getD (enS false (Net.Links n_)) (toNat i0) [])], V_ [C.rptr (drop 3 (getD (enS false (Net.Links n_)) (toNat i0) []))], I_ (D.num (getD (drop 3 (getD (enS false (Net.Links n_)) (toNat i0) [])) 0 D.dead)), B_ (D.num (getD (drop 3 (getD (enS false (Net.Links n_)) (toNat i0) [])) 0 D.dead) == 3), B_ true, TV.v true [C.nils 2, C.nils 4, C.nils 3], U_, U_, U_, U_, U_, U_, U_, U_, U_, U_, U_, U_, U_, U_, U_, U_, U_, U_, U_] [Root.mk true 2 [En.enc false n_] 0 0 true true false, Root.mk true 3 [[D.sl true 2 [], D.sl true 4 [], D.sl true 3 []]] 0 1 true true false, Root.mk false 2 (enS true (deS Bridge (enS false (Net.Bridges n_)))) 0 0 false true false, Root.mk false 4 (enS true (deS Link (enS false (Net.Links n_)))) 0 0 false true false, Root.mk true 3 [[D.sl true 2 (enS true (deS Bridge (enS false (Net.Bridges n_)))), D.sl true 4 (enS true (deS Link (enS false (Net.Links n_)))), D.sl true 3 []]] 0 0 true true false]
def X12_4 (n_ : Net) (i0 : Int) : St := St.mk [U_, V_ [C.ptr 0 0 0 [] 2 0 0], V_ [C.ptr 1 0 0 [] 3 0 0], U_, V_ [C.ptr 4 0 0 [] 3 0 0], I_ i0, U_, U_, U_, U_, U_, U_, U_, U_, I_ i0, V_ [C.ptr 0 0 0 [] 2 0 1], V_ [C.d (D.sl false 4 (enS false (Net.Links n_)))], I_ (ofNat (length (enS false (Net.Links n_)))), B_ false, U_, U_, U_, U_, U_, U_, U_, U_, U_, U_, U_, U_, U_, U_, U_, U_, U_, U_, U_, U_, U_, U_, U_, U_, U_, U_, U_, U_, U_, U_, U_, U_, U_, U_, U_, U_, U_, U_] [Root.mk true 2 [En.enc false n_] 0 0 true true false, Root.mk true 3 [[D.sl true 2 [], D.sl true 4 [], D.sl true 3 []]] 0 0 true true false, Root.mk false 2 (enS true (deS Bridge (enS false (Net.Bridges n_)))) 0 0 false true false, Root.mk false 4 (enS true (deS Link (enS false (Net.Links n_)))) 0 0 false true false, Root.mk true 3 [[D.sl true 2 (enS true (deS Bridge (enS false (Net.Bridges n_)))), D.sl true 4 (enS true (deS Link (enS false (Net.Links n_)))), D.sl true 3 []]] 0 0 true true false]
theorem q12_0 (n_ : Net) (n : Nat) (i0 : Int) (f : St → RR) (K : Ex → St → RR) : B12_0 n (S12_0 n_ i0) (kThen (fun st ↦ f (St.head 5 54 274877890600 st)) K) = bif decide (i0 < ofNat (length (enS false (Net.Links n_)))) then bif decide (0 ≤ i0) && decide (i0 < ofNat (length (enS false (Net.Links n_)))) then bif Leaf.fit false (Leaf.int i64) (getD (drop 1 (getD (enS false (Net.Links n_)) (toNat i0) [])) 0 D.dead) && true then bif D.num (getD (drop 1 (getD (enS false (Net.Links n_)) (toNat i0) [])) 0 D.dead) == 3 then K Ex.ret (X12_2 n_ i0) else bif decide (0 ≤ i0) && decide (i0 < ofNat (length (enS false (Net.Links n_)))) then bif Leaf.fit false (Leaf.int i64) (getD (drop 3 (getD (enS false (Net.Links n_)) (toNat i0) [])) 0 D.dead) && true then bif D.num (getD (drop 3 (getD (enS false (Net.Links n_)) (toNat i0) [])) 0 D.dead) == 3 then K Ex.ret (X12_3 n_ i0) else f (S12_0 n_ (wrap i64 (i0 + 1))) else none else none else none else none else K (Ex.exit 0) (X12_4 n_ i0) := by kernel_rfl
theorem aX12_2 (n_ : Net) (n : Nat) (i0 : Int) : k12_1 n Ex.ret (X12_2 n_ i0) = some ([[D.sl true 2 [], D.sl true 4 [], D.sl true 3 []], [D.bool false]], []) := by kernel_rfl
theorem aX12_3 (n_ : Net) (n : Nat) (i0 : Int) : k12_1 n Ex.ret (X12_3 n_ i0) = some ([[D.sl true 2 [], D.sl true 4 [], D.sl true 3 []], [D.bool false]], []) := by kernel_rfl
def k12_5 (n : Nat) : Ex → St → RR := kThen (fun st ↦ runCode (Ctx.mk prog Hx (12)) (Table.call T43) n (codeAt [1, 1, 1, 1, 1] (bodyOf f12)) (Lv.mk 12 [] 12) st (kLeave (Ctx.P (Ctx.mk prog Hx (12))) (List.zip (Array.toList (Go.Func.resultTypes f12)) (Array.toList (Go.Func.results f12))) [] [])) (kLeave (Ctx.P (Ctx.mk prog Hx (12))) (List.zip (Array.toList (Go.Func.resultTypes f12)) (Array.toList (Go.Func.results f12))) [] [])
def k12_6 (n : Nat) : Ex → St → RR := kBlock (2) (k12_5 n)
def S12_1 (n_ : Net) (i0_ : Int) (es1 : List (List D)) : St := St.mk [U_, V_ [C.ptr 0 0 0 [] 2 0 0], V_ [C.ptr 1 0 0 [] 3 0 0], U_, V_ [C.ptr 4 0 0 [] 3 0 0], U_, I_ i0_, U_, U_, U_, U_, U_, U_, U_, U_, U_, U_, U_, U_, U_, U_, U_, U_, U_, U_, U_, U_, U_, U_, U_, U_, U_, U_, U_, U_, U_, U_, U_, U_, U_, U_, U_, U_, U_, U_, U_, U_, U_, U_, U_, U_, U_, U_, U_, U_, U_, U_] [Root.mk true 2 [En.enc false n_] 0 0 true true false, Root.mk true 3 [[D.sl true 2 [], D.sl true 4 [], D.sl true 3 []]] 0 0 true true false, Root.mk false 2 (enS true (deS Bridge (enS false (Net.Bridges n_)))) 0 0 false true false, Root.mk false 4 (enS true (deS Link (enS false (Net.Links n_)))) 0 0 false true false, Root.mk true 3 [[D.sl true 2 (enS true (deS Bridge (enS false (Net.Bridges n_)))), D.sl true 4 (enS true (deS Link (enS false (Net.Links n_)))), D.sl true 3 es1]] 0 0 true true false]
def B12_1 (n : Nat) : St → (Ex → St → RR) → RR := runCode (Ctx.mk prog Hx (12)) (Table.call T43) n (codeAt [1, 1, 1, 1, 0, 1, 0, 0] (bodyOf f12)) (Lv.mk 86 [(2, 20)] 12)
def X12_7 (n_ : Net) (i0_ : Int) (es1 : List (List D)) : St := St.mk [U_, V_ [C.ptr 0 0 0 [] 2 0 0], V_ [C.ptr 1 0 0 [] 3 0 0], U_, V_ [C.ptr 4 0 0 [] 3 0 0], U_, I_ i0_, U_, U_, U_, U_, U_, U_, U_, U_, U_, U_, U_, U_, U_, U_, U_, U_, U_, U_, U_, U_, U_, U_, U_, U_, U_, U_, U_, U_, U_, U_, U_, I_ i0_, V_ [C.ptr 0 0 0 [] 2 0 0], V_ [C.d (D.sl false 2 (enS false (Net.Bridges n_)))], I_ (ofNat (length (enS false (Net.Bridges n_)))), B_ false, U_, U_, U_, U_, U_, U_, U_, U_, U_, U_, U_, U_, U_, U_] [Root.mk true 2 [En.enc false n_] 0 0 true true false, Root.mk true 3 [[D.sl true 2 [], D.sl true 4 [], D.sl true 3 []]] 0 0 true true false, Root.mk false 2 (enS true (deS Bridge (enS false (Net.Bridges n_)))) 0 0 false true false, Root.mk false 4 (enS true (deS Link (enS false (Net.Links n_)))) 0 0 false true false, Root.mk true 3 [[D.sl true 2 (enS true (deS Bridge (enS false (Net.Bridges n_)))), D.sl true 4 (enS true (deS Link (enS false (Net.Links n_)))), D.sl true 3 es1]] 0 0 true true false]
theorem q12_1 (n_ : Net) (n : Nat) (i0_ : Int) (es1 : List (List D)) (f : St → RR) (K : Ex → St → RR) : B12_1 n (S12_1 n_ i0_ es1) (kThen (fun st ↦ f (St.head 5 86 72057319160021056 st)) K) = bif decide (i0_ < ofNat (length (enS false (Net.Bridges n_)))) then bif decide (0 ≤ i0_) && decide (i0_ < ofNat (length (enS false (Net.Bridges n_)))) then bif Leaf.fit false (Leaf.int i64) (getD (getD (enS false (Net.Bridges n_)) (toNat i0_) []) 0 D.dead) && (Leaf.fit false (Leaf.sl 11 true) (getD (getD (enS false (Net.Bridges n_)) (toNat i0_) []) 1 D.dead) && true) then bif isS Port false (D.rows (getD (getD (enS false (Net.Bridges n_)) (toNat i0_) []) 1 D.dead)) && decide (length (deS Port (D.rows (getD (getD (enS false (Net.Bridges n_)) (toNat i0_) []) 1 D.dead))) ≤ 1048576) then bif decide ((length es1 + 1) * 72 ≤ 140737488355328) then f (S12_1 n_ (wrap i64 (i0_ + 1)) (append es1 [En.enc true (cardB (En.dec (getD (enS false (Net.Bridges n_)) (toNat i0_) [])))])) else none else none else none else none else K (Ex.exit 2) (X12_7 n_ i0_ es1) := by kernel_rfl
theorem aX12_7 (n_ : Net) (n : Nat) (i0_ : Int) (es1 : List (List D)) : k12_6 n (Ex.exit 2) (X12_7 n_ i0_ es1) = some ([[D.sl true 2 (enS true (deS Bridge (enS false (Net.Bridges n_)))), D.sl true 4 (enS true (deS Link (enS false (Net.Links n_)))), D.sl true 3 es1], [D.bool true]], []) := by kernel_rfl
theorem aX12_4 (n_ : Net) (n : Nat) (i0 : Int) : k12_1 n (Ex.exit 0) (X12_4 n_ i0) = loopRun (B12_1 n) 5 86 72057319160021056 n (S12_1 n_ (0) []) (k12_6 n) := by kernel_rfl
theorem r12 (n_ : Net) (n : Nat) : evFn ⟨prog, Hx, 12⟩ T43.call n f12 [[.sl false 2 (enS false n_.Bridges), .sl false 4 (enS false n_.Links)]] = bif isS Bridge false (enS false (Net.Bridges n_)) && isS Link false (enS false (Net.Links n_)) && Net.small (Net.mk (deS Bridge (enS false (Net.Bridges n_))) (deS Link (enS false (Net.Links n_)))) then bif !netOk (Net.mk (deS Bridge (enS false (Net.Bridges n_))) (deS Link (enS false (Net.Links n_)))) then some ([[D.sl true 2 [], D.sl true 4 [], D.sl true 3 []], [D.bool false]], []) else bif isS Bridge false (enS false (Net.Bridges n_)) && isS Link false (enS false (Net.Links n_)) && Net.small (Net.mk (deS Bridge (enS false (Net.Bridges n_))) (deS Link (enS false (Net.Links n_)))) then loopRun (B12_0 n) 5 54 274877890600 n (S12_0 n_ (0)) (k12_1 n) else none else none := by kernel_rfl
theorem m12 (n_ : Net) (hpre : (o12 n_).1 = true) : evFn ⟨Go.Proofs.Try.prog, Hx, 12⟩ T43.call (n_.Links.length + n_.Bridges.length + 1) f12 [[.sl false 2 (enS false n_.Bridges), .sl false 4 (enS false n_.Links)]] = some (o12 n_).2 := by
  refine (r12 n_ _).trans ?_
  show _ = (some ([[.sl true 2 (enS true (fabN n_).Net.Bridges), .sl true 4 (enS true (fabN n_).Net.Links), .sl true 3 (enS true (fabN n_).Cards)], [.bool (hostsB n_)]], []) : Option (List Row × List Row))
  replace hpre : (Net.small n_) = true := hpre
  obtain ⟨hs1, hs2, hs3⟩ := net_small hpre
  show _ = fabT (fabN n_).Net (fabN n_).Cards (hostsB n_)
  refine bif_t (nsm hpre) ?_
  rw [netmk]
  cases hk : netOk n_
  · rw [fabN_no (by unfold hostsB; rw [hk, Bool.and_false])]
    rfl
  refine bif_f rfl (bif_t (by have := nsm hpre; rw [netmk] at this; exact this) ?_)
  have hR : fabT (fabN n_).Net (fabN n_).Cards (hostsB n_) = bif hostsL n_.Links then fabT n_ (n_.Bridges.map cardB) true else fabT ⟨[], []⟩ [] false := by
    cases hl : hostsL n_.Links
    · exact fabN_no (by unfold hostsB; rw [hl, Bool.false_and])
    · exact fabN_yes (by unfold hostsB; rw [hl, hk]; rfl)
  rw [hR]
  refine loop_list (xs := n_.Links) (fun i (_ : Unit) => S12_0 n_ (Int.ofNat i)) (fun _ _ => True) (fun _ _ rest => bif hostsL rest then fabT n_ (n_.Bridges.map cardB) true else fabT ⟨[], []⟩ [] false) ?_ ?_ (n_.Links.length + n_.Bridges.length + 1) () (by omega) trivial
  · rintro _ _ f
    refine (q12_0 n_ _ _ f _).trans ?_
    rw [end_lt, cond_false]
    refine (aX12_4 n_ _ _).trans ?_
    refine loop_list (xs := n_.Bridges) (fun i (cs : List Card) => S12_1 n_ (Int.ofNat i) (enS true cs)) (fun i cs => cs = (n_.Bridges.take i).map cardB) (fun _ _ _ => fabT n_ (n_.Bridges.map cardB) true) ?_ ?_ (n_.Links.length + n_.Bridges.length + 1) [] (by omega) rfl
    · rintro cs rfl f_
      refine (q12_1 n_ _ _ _ f_ _).trans ?_
      rw [end_lt, cond_false]
      refine (aX12_7 n_ _ _ _).trans ?_
      rw [List.take_length, deS_enS, deS_enS]
      rfl
    · rintro i cs hi hcs f_ hf
      have hpl := hs2 _ (List.getElem_mem hi)
      have hcl : cs.length ≤ i := by rw [hcs, List.length_map, List.length_take]; omega
      refine (q12_1 n_ _ _ _ f_ _).trans ?_
      refine bif_t (in_lt false hi) (bif_t (by rw [in_lt false hi, dec_ge]; rfl) (bif_t (by rw [toNat_of, enS_get false hi]; rfl) (bif_t (by rw [toNat_of, enS_get false hi]; show (isS Port false (enS false n_.Bridges[i].Ports) && decide (List.length (deS Port (enS false n_.Bridges[i].Ports)) ≤ 1048576)) = true; rw [isS_enS, deS_enS, decide_eq_true hpl]; rfl) (bif_t (decide_eq_true (by rw [enS_length]; omega)) ?_))))
      rw [toNat_of, enS_get false hi, En.dec_enc, wrap_succ (show i < 4611686018427387904 by omega)]
      refine (congrArg f_ (congrArg (S12_1 n_ _) (enS_snoc true cs (cardB n_.Bridges[i])))).trans ?_
      exact hf _ (by rw [hcs, ← List.take_append_getElem hi, List.map_append]; rfl)
  · rintro i _ hi _ f hf
    refine (q12_0 n_ _ _ f _).trans ?_
    refine bif_t (in_lt false hi) (bif_t (by rw [in_lt false hi, dec_ge]; rfl) (bif_t (by rw [toNat_of, enS_get false hi]; rfl) ?_))
    rw [toNat_of, enS_get false hi, wrap_succ (show i < 4611686018427387904 by omega), hosts_cons]
    cases h1 : n_.Links[i].P == 3
    case true =>
      refine bif_t h1 ?_
      exact aX12_2 n_ _ _
    refine bif_f h1 (bif_t (by rw [in_lt false hi, dec_ge]; rfl) (bif_t rfl ?_))
    cases h2 : n_.Links[i].Q == 3
    case true =>
      refine bif_t h2 ?_
      exact aX12_3 n_ _ _
    refine bif_f h2 ?_
    exact hf () trivial
theorem s12 : SoundAt Go.Proofs.Try.prog Hx 12 c12 := soundAt_of T43_sound mixed func12 (by kernel_rfl) (by
  intro rows r h
  unfold c12 at h
  split at h
  · rename_i n__Bridges n__Links
    obtain ⟨hp, hr⟩ := Prod.mk.inj (Option.some.inj h)
    subst hr
    simp only [Bool.and_eq_true] at hp
    obtain ⟨⟨hs0, hs1⟩, hp⟩ := hp
    obtain ⟨xs0, rfl⟩ := isS_ex hs0
    obtain ⟨xs1, rfl⟩ := isS_ex hs1
    simp only [deS_enS] at hp ⊢
    exact ⟨_, m12 ⟨xs0, xs1⟩ hp⟩
  · cases h)
def T12 : Table := (12, c12) :: T43
theorem T12_sound : Table.Sound Go.Proofs.Try.prog Hx T12 := Table.sound_cons s12 T43_sound
def o7 (f : Fabric) : Bool × List Row × List Row := (Fabric.small f, [[.bool (fabOk f)]], [])
def c7 : Contract
  | [[.sl false 2 f_Net_Bridges, .sl false 4 f_Net_Links, .sl false 3 f_Cards]] => some (isS Bridge false f_Net_Bridges && isS Link false f_Net_Links && isS Card false f_Cards && (o7 ⟨⟨(deS Bridge f_Net_Bridges), (deS Link f_Net_Links)⟩, (deS Card f_Cards)⟩).1, (o7 ⟨⟨(deS Bridge f_Net_Bridges), (deS Link f_Net_Links)⟩, (deS Card f_Cards)⟩).2.1, (o7 ⟨⟨(deS Bridge f_Net_Bridges), (deS Link f_Net_Links)⟩, (deS Card f_Cards)⟩).2.2)
  | _ => none

def k7_0 (n : Nat) : Ex → St → RR := kThen (fun st ↦ runCode (Ctx.mk prog Hx (7)) (Table.call T12) n (codeAt [1, 1, 1, 1] (bodyOf f7)) (Lv.mk 4 [] 4) st (kLeave (Ctx.P (Ctx.mk prog Hx (7))) (List.zip (Array.toList (Go.Func.resultTypes f7)) (Array.toList (Go.Func.results f7))) [] [])) (kLeave (Ctx.P (Ctx.mk prog Hx (7))) (List.zip (Array.toList (Go.Func.resultTypes f7)) (Array.toList (Go.Func.results f7))) [] [])
def k7_1 (n : Nat) : Ex → St → RR := kBlock (0) (k7_0 n)
def S7_0 (f : Fabric) (i0 : Int) : St := St.mk [U_, V_ [C.ptr 0 0 0 [] 3 0 0], U_, V_ [C.ptr 4 0 0 [] 3 0 0], U_, I_ i0, U_, U_, U_, U_, U_, U_, U_, U_, U_, U_, U_, U_, U_, U_, U_, U_, U_, U_, U_, U_, U_, U_, U_, U_, U_, U_, U_, U_, U_, U_, U_, U_, U_, U_, U_, U_, U_, U_, U_, U_, U_, U_, U_, U_, U_, U_, U_, U_, U_, U_, U_, U_, U_, U_, U_, U_, U_, U_, U_] [Root.mk true 3 [En.enc false f] 0 0 true true false, Root.mk false 2 (enS true (Net.Bridges (Fabric.Net (fabN (Net.mk (deS Bridge (enS false (Net.Bridges (Fabric.Net f)))) (deS Link (enS false (Net.Links (Fabric.Net f))))))))) 0 0 false true false, Root.mk false 4 (enS true (Net.Links (Fabric.Net (fabN (Net.mk (deS Bridge (enS false (Net.Bridges (Fabric.Net f)))) (deS Link (enS false (Net.Links (Fabric.Net f))))))))) 0 0 false true false, Root.mk false 3 (enS true (Fabric.Cards (fabN (Net.mk (deS Bridge (enS false (Net.Bridges (Fabric.Net f)))) (deS Link (enS false (Net.Links (Fabric.Net f)))))))) 0 0 false true false, Root.mk true 3 [En.enc true (fabN (Net.mk (deS Bridge (enS false (Net.Bridges (Fabric.Net f)))) (deS Link (enS false (Net.Links (Fabric.Net f))))))] 0 0 true true false]
def B7_0 (n : Nat) : St → (Ex → St → RR) → RR := runCode (Ctx.mk prog Hx (7)) (Table.call T12) n (codeAt [1, 1, 1, 0, 1, 0, 0] (bodyOf f7)) (Lv.mk 42 [(0, 0)] 4)
def X7_2 (f : Fabric) (i0 : Int) : St := St.mk [U_, V_ [C.ptr 0 0 0 [] 3 0 0], B_ false, V_ [C.ptr 4 0 0 [] 3 0 0], U_, I_ i0, V_ [C.ptr 5 0 0 [] 3 0 0], U_, U_, U_, U_, U_, U_, U_, U_, U_, U_, U_, U_, U_, U_, U_, U_, U_, U_, I_ i0, V_ [C.ptr 0 0 0 [] 3 0 2], V_ [C.d (D.sl false 3 (enS false (Fabric.Cards f)))], I_ (ofNat (length (enS false (Fabric.Cards f)))), B_ true, U_, U_, V_ [C.ptr 0 0 0 [] 3 0 2], V_ [C.d (D.sl false 3 (enS false (Fabric.Cards f)))], I_ i0, V_ [C.rptr (getD (enS false (Fabric.Cards f)) (toNat i0) [])], TV.v true [C.d (D.sl false 1 (D.rows (getD (getD (enS false (Fabric.Cards f)) (toNat i0) []) 0 D.dead))), C.d (D.sl false 2 (D.rows (getD (getD (enS false (Fabric.Cards f)) (toNat i0) []) 1 D.dead))), C.d (D.sl false 4 (D.rows (getD (getD (enS false (Fabric.Cards f)) (toNat i0) []) 2 D.dead)))], TV.v true [C.d (D.sl false 1 (D.rows (getD (getD (enS false (Fabric.Cards f)) (toNat i0) []) 0 D.dead))), C.d (D.sl false 2 (D.rows (getD (getD (enS false (Fabric.Cards f)) (toNat i0) []) 1 D.dead))), C.d (D.sl false 4 (D.rows (getD (getD (enS false (Fabric.Cards f)) (toNat i0) []) 2 D.dead)))], B_ (cardOk (En.dec (getD (enS false (Fabric.Cards f)) (toNat i0) []))), V_ [C.d (D.bool !cardOk (En.dec (getD (enS false (Fabric.Cards f)) (toNat i0) [])))], B_ true, V_ [C.gone], V_ [C.gone], V_ [C.gone], V_ [C.gone], B_ true, U_, U_, U_, U_, U_, U_, U_, U_, U_, U_, U_, U_, U_, U_, U_, U_, U_, U_, U_] [Root.mk true 3 [En.enc false f] 0 0 true true false, Root.mk false 2 (enS true (Net.Bridges (Fabric.Net (fabN (Net.mk (deS Bridge (enS false (Net.Bridges (Fabric.Net f)))) (deS Link (enS false (Net.Links (Fabric.Net f))))))))) 0 0 false true false, Root.mk false 4 (enS true (Net.Links (Fabric.Net (fabN (Net.mk (deS Bridge (enS false (Net.Bridges (Fabric.Net f)))) (deS Link (enS false (Net.Links (Fabric.Net f))))))))) 0 0 false true false, Root.mk false 3 (enS true (Fabric.Cards (fabN (Net.mk (deS Bridge (enS false (Net.Bridges (Fabric.Net f)))) (deS Link (enS false (Net.Links (Fabric.Net f)))))))) 0 0 false true false, Root.mk true 3 [En.enc true (fabN (Net.mk (deS Bridge (enS false (Net.Bridges (Fabric.Net f)))) (deS Link (enS false (Net.Links (Fabric.Net f))))))] 0 0 true true false, Root.mk true 3 [[D.sl false 1 (D.rows (getD (getD (enS false (Fabric.Cards f)) (toNat i0) []) 0 D.dead)), D.sl false 2 (D.rows (getD (getD (enS false (Fabric.Cards f)) (toNat i0) []) 1 D.dead)), D.sl false 4 (D.rows (getD (getD (enS false (Fabric.Cards f)) (toNat i0) []) 2 D.dead))]] 0 1 true true false]
def X7_3 (f : Fabric) (i0 : Int) : St := St.mk [U_, V_ [C.ptr 0 0 0 [] 3 0 0], B_ false, V_ [C.ptr 4 0 0 [] 3 0 0], U_, I_ i0, V_ [C.ptr 5 0 0 [] 3 0 0], U_, U_, U_, U_, U_, U_, U_, U_, U_, U_, U_, U_, U_, U_, U_, U_, U_, U_, I_ i0, V_ [C.ptr 0 0 0 [] 3 0 2], V_ [C.d (D.sl false 3 (enS false (Fabric.Cards f)))], I_ (ofNat (length (enS false (Fabric.Cards f)))), B_ true, U_, U_, V_ [C.ptr 0 0 0 [] 3 0 2], V_ [C.d (D.sl false 3 (enS false (Fabric.Cards f)))], I_ i0, V_ [C.rptr (getD (enS false (Fabric.Cards f)) (toNat i0) [])], TV.v true [C.d (D.sl false 1 (D.rows (getD (getD (enS false (Fabric.Cards f)) (toNat i0) []) 0 D.dead))), C.d (D.sl false 2 (D.rows (getD (getD (enS false (Fabric.Cards f)) (toNat i0) []) 1 D.dead))), C.d (D.sl false 4 (D.rows (getD (getD (enS false (Fabric.Cards f)) (toNat i0) []) 2 D.dead)))], TV.v true [C.d (D.sl false 1 (D.rows (getD (getD (enS false (Fabric.Cards f)) (toNat i0) []) 0 D.dead))), C.d (D.sl false 2 (D.rows (getD (getD (enS false (Fabric.Cards f)) (toNat i0) []) 1 D.dead))), C.d (D.sl false 4 (D.rows (getD (getD (enS false (Fabric.Cards f)) (toNat i0) []) 2 D.dead)))], B_ (cardOk (En.dec (getD (enS false (Fabric.Cards f)) (toNat i0) []))), V_ [C.d (D.bool !cardOk (En.dec (getD (enS false (Fabric.Cards f)) (toNat i0) [])))], B_ false, V_ [C.ptr 5 0 0 [] 3 0 0], V_ [C.d (D.sl false 1 (D.rows (getD (getD (enS false (Fabric.Cards f)) (toNat i0) []) 0 D.dead)))], I_ (ofNat (length (D.rows (getD (getD (enS false (Fabric.Cards f)) (toNat i0) []) 0 D.dead)))), B_ (ofNat (length (D.rows (getD (getD (enS false (Fabric.Cards f)) (toNat i0) []) 0 D.dead))) != 4), B_ true, U_, U_, U_, U_, U_, U_, U_, U_, U_, U_, U_, U_, U_, U_, U_, U_, U_, U_, U_] [Root.mk true 3 [En.enc false f] 0 0 true true false, Root.mk false 2 (enS true (Net.Bridges (Fabric.Net (fabN (Net.mk (deS Bridge (enS false (Net.Bridges (Fabric.Net f)))) (deS Link (enS false (Net.Links (Fabric.Net f))))))))) 0 0 false true false, Root.mk false 4 (enS true (Net.Links (Fabric.Net (fabN (Net.mk (deS Bridge (enS false (Net.Bridges (Fabric.Net f)))) (deS Link (enS false (Net.Links (Fabric.Net f))))))))) 0 0 false true false, Root.mk false 3 (enS true (Fabric.Cards (fabN (Net.mk (deS Bridge (enS false (Net.Bridges (Fabric.Net f)))) (deS Link (enS false (Net.Links (Fabric.Net f)))))))) 0 0 false true false, Root.mk true 3 [En.enc true (fabN (Net.mk (deS Bridge (enS false (Net.Bridges (Fabric.Net f)))) (deS Link (enS false (Net.Links (Fabric.Net f))))))] 0 0 true true false, Root.mk true 3 [[D.sl false 1 (D.rows (getD (getD (enS false (Fabric.Cards f)) (toNat i0) []) 0 D.dead)), D.sl false 2 (D.rows (getD (getD (enS false (Fabric.Cards f)) (toNat i0) []) 1 D.dead)), D.sl false 4 (D.rows (getD (getD (enS false (Fabric.Cards f)) (toNat i0) []) 2 D.dead))]] 0 1 true true false]
def k7_4 (f_ : St → RR) (K : Ex → St → RR) : Ex → St → RR := kThen (fun st ↦ f_ (St.head 5 42 36893488147385549028 st)) K
def k7_5 (n : Nat) (f_ : St → RR) (K : Ex → St → RR) : Ex → St → RR := kThen (fun st ↦ runCode (Ctx.mk prog Hx (7)) (Table.call T12) n (codeAt [1, 1, 1, 0, 1, 0, 0, 1, 1] (bodyOf f7)) (Lv.mk 42 [(0, 0)] 4) st (k7_4 f_ K)) (k7_4 f_ K)
def k7_6 (n : Nat) (f_ : St → RR) (K : Ex → St → RR) : Ex → St → RR := kBlock (1) (k7_5 n f_ K)
def k7_7 (n : Nat) (f_ : St → RR) (K : Ex → St → RR) : Ex → St → RR := kBlock (2) (k7_6 n f_ K)
def S7_1 (f : Fabric) (i0 : Int) (i0_ : Int) : St := St.mk [U_, V_ [C.ptr 0 0 0 [] 3 0 0], U_, V_ [C.ptr 4 0 0 [] 3 0 0], U_, I_ i0, V_ [C.ptr 5 0 0 [] 3 0 0], I_ i0_, U_, U_, U_, U_, U_, U_, U_, U_, U_, U_, U_, U_, U_, U_, U_, U_, U_, U_, U_, U_, U_, U_, U_, U_, U_, U_, U_, U_, U_, U_, U_, U_, U_, U_, U_, U_, U_, U_, U_, U_, U_, U_, U_, U_, U_, U_, U_, U_, U_, U_, U_, U_, U_, U_, U_, U_, U_] [Root.mk true 3 [En.enc false f] 0 0 true true false, Root.mk false 2 (enS true (Net.Bridges (Fabric.Net (fabN (Net.mk (deS Bridge (enS false (Net.Bridges (Fabric.Net f)))) (deS Link (enS false (Net.Links (Fabric.Net f))))))))) 0 0 false true false, Root.mk false 4 (enS true (Net.Links (Fabric.Net (fabN (Net.mk (deS Bridge (enS false (Net.Bridges (Fabric.Net f)))) (deS Link (enS false (Net.Links (Fabric.Net f))))))))) 0 0 false true false, Root.mk false 3 (enS true (Fabric.Cards (fabN (Net.mk (deS Bridge (enS false (Net.Bridges (Fabric.Net f)))) (deS Link (enS false (Net.Links (Fabric.Net f)))))))) 0 0 false true false, Root.mk true 3 [En.enc true (fabN (Net.mk (deS Bridge (enS false (Net.Bridges (Fabric.Net f)))) (deS Link (enS false (Net.Links (Fabric.Net f))))))] 0 0 true true false, Root.mk true 3 [[D.sl false 1 (D.rows (getD (getD (enS false (Fabric.Cards f)) (toNat i0) []) 0 D.dead)), D.sl false 2 (D.rows (getD (getD (enS false (Fabric.Cards f)) (toNat i0) []) 1 D.dead)), D.sl false 4 (D.rows (getD (getD (enS false (Fabric.Cards f)) (toNat i0) []) 2 D.dead))]] 0 0 true true false]
def B7_1 (n : Nat) : St → (Ex → St → RR) → RR := runCode (Ctx.mk prog Hx (7)) (Table.call T12) n (codeAt [1, 1, 1, 0, 1, 0, 0, 1, 0, 0, 1, 1, 1, 0, 0] (bodyOf f7)) (Lv.mk 234 [(2, 42), (1, 42), (0, 0)] 4)
def X7_8 (f : Fabric) (i0 : Int) (i0_ : Int) : St := St.mk [U_, V_ [C.ptr 0 0 0 [] 3 0 0], B_ false, V_ [C.ptr 4 0 0 [] 3 0 0], U_, I_ i0, V_ [C.ptr 5 0 0 [] 3 0 0], I_ i0_, U_, U_, U_, U_, U_, U_, U_, U_, U_, U_, U_, U_, U_, U_, U_, U_, U_, U_, U_, U_, U_, U_, U_, U_, U_, U_, U_, U_, U_, U_, U_, U_, U_, U_, U_, U_, U_, U_, I_ i0_, B_ true, U_, U_, V_ [C.ptr 5 0 0 [] 3 0 0], V_ [C.d (D.sl false 1 (D.rows (getD (getD (enS false (Fabric.Cards f)) (toNat i0) []) 0 D.dead)))], I_ i0_, V_ [C.rptr (getD (D.rows (getD (getD (enS false (Fabric.Cards f)) (toNat i0) []) 0 D.dead)) (toNat i0_) [])], B_ (D.flag (getD (getD (D.rows (getD (getD (enS false (Fabric.Cards f)) (toNat i0) []) 0 D.dead)) (toNat i0_) []) 0 D.dead)), V_ [C.ptr 4 0 0 [] 3 0 2], V_ [C.view 4 0 0 [(0, 2)] 3 none], I_ i0, V_ [C.ptr 4 0 0 [(0, 2)] 3 (0 + toNat i0) 0], V_ [C.ptr 4 0 0 [(0, 2)] 3 (0 + toNat i0) 0], V_ [C.view 4 0 0 [(0, 2), (0 + toNat i0, 0)] 1 none], I_ i0_, V_ [C.ptr 4 0 0 [(0, 2), (0 + toNat i0, 0)] 1 (0 + toNat i0_) 0], B_ (D.flag (getD (getD (D.rows (getD (getD (enS true (Fabric.Cards (fabN (Net.mk (deS Bridge (enS false (Net.Bridges (Fabric.Net f)))) (deS Link (enS false (Net.Links (Fabric.Net f)))))))) (0 + toNat i0) []) 0 D.dead)) (0 + toNat i0_) []) 0 D.dead)), B_ true] [Root.mk true 3 [En.enc false f] 0 0 true true false, Root.mk false 2 (enS true (Net.Bridges (Fabric.Net (fabN (Net.mk (deS Bridge (enS false (Net.Bridges (Fabric.Net f)))) (deS Link (enS false (Net.Links (Fabric.Net f))))))))) 0 0 false true false, Root.mk false 4 (enS true (Net.Links (Fabric.Net (fabN (Net.mk (deS Bridge (enS false (Net.Bridges (Fabric.Net f)))) (deS Link (enS false (Net.Links (Fabric.Net f))))))))) 0 0 false true false, Root.mk false 3 (enS true (Fabric.Cards (fabN (Net.mk (deS Bridge (enS false (Net.Bridges (Fabric.Net f)))) (deS Link (enS false (Net.Links (Fabric.Net f)))))))) 0 0 false true false, Root.mk true 3 [En.enc true (fabN (Net.mk (deS Bridge (enS false (Net.Bridges (Fabric.Net f)))) (deS Link (enS false (Net.Links (Fabric.Net f))))))] 0 0 true true false, Root.mk true 3 [[D.sl false 1 (D.rows (getD (getD (enS false (Fabric.Cards f)) (toNat i0) []) 0 D.dead)), D.sl false 2 (D.rows (getD (getD (enS false (Fabric.Cards f)) (toNat i0) []) 1 D.dead)), D.sl false 4 (D.rows (getD (getD (enS false (Fabric.Cards f)) (toNat i0) []) 2 D.dead))]] 0 0 true true false]
def X7_9 (f : Fabric) (i0 : Int) (i0_ : Int) : St := St.mk [U_, V_ [C.ptr 0 0 0 [] 3 0 0], U_, V_ [C.ptr 4 0 0 [] 3 0 0], U_, I_ i0, V_ [C.ptr 5 0 0 [] 3 0 0], I_ i0_, U_, U_, U_, U_, U_, U_, U_, U_, U_, U_, U_, U_, U_, U_, U_, U_, U_, U_, U_, U_, U_, U_, U_, U_, U_, U_, U_, U_, U_, U_, U_, U_, U_, U_, U_, U_, U_, U_, I_ i0_, B_ false, U_, U_, U_, U_, U_, U_, U_, U_, U_, U_, U_, U_, U_, U_, U_, U_, U_] [Root.mk true 3 [En.enc false f] 0 0 true true false, Root.mk false 2 (enS true (Net.Bridges (Fabric.Net (fabN (Net.mk (deS Bridge (enS false (Net.Bridges (Fabric.Net f)))) (deS Link (enS false (Net.Links (Fabric.Net f))))))))) 0 0 false true false, Root.mk false 4 (enS true (Net.Links (Fabric.Net (fabN (Net.mk (deS Bridge (enS false (Net.Bridges (Fabric.Net f)))) (deS Link (enS false (Net.Links (Fabric.Net f))))))))) 0 0 false true false, Root.mk false 3 (enS true (Fabric.Cards (fabN (Net.mk (deS Bridge (enS false (Net.Bridges (Fabric.Net f)))) (deS Link (enS false (Net.Links (Fabric.Net f)))))))) 0 0 false true false, Root.mk true 3 [En.enc true (fabN (Net.mk (deS Bridge (enS false (Net.Bridges (Fabric.Net f)))) (deS Link (enS false (Net.Links (Fabric.Net f))))))] 0 0 true true false, Root.mk true 3 [[D.sl false 1 (D.rows (getD (getD (enS false (Fabric.Cards f)) (toNat i0) []) 0 D.dead)), D.sl false 2 (D.rows (getD (getD (enS false (Fabric.Cards f)) (toNat i0) []) 1 D.dead)), D.sl false 4 (D.rows (getD (getD (enS false (Fabric.Cards f)) (toNat i0) []) 2 D.dead))]] 0 0 true true false]
theorem q7_1 (f : Fabric) (n : Nat) (i0 : Int) (i0_ : Int) (f__ : St → RR) (K_ : Ex → St → RR) : B7_1 n (S7_1 f i0 i0_) (kThen (fun st ↦ f__ (St.head 6 234 36893417778674925700 st)) K_) = bif decide (i0_ < 4) then bif decide (0 ≤ i0_) && decide (i0_ < ofNat (length (D.rows (getD (getD (enS false (Fabric.Cards f)) (toNat i0) []) 0 D.dead)))) then bif Leaf.fit false Leaf.bool (getD (getD (D.rows (getD (getD (enS false (Fabric.Cards f)) (toNat i0) []) 0 D.dead)) (toNat i0_) []) 0 D.dead) && true then bif decide (0 ≤ i0) && decide (i0 < ofNat (length (enS true (Fabric.Cards (fabN (Net.mk (deS Bridge (enS false (Net.Bridges (Fabric.Net f)))) (deS Link (enS false (Net.Links (Fabric.Net f)))))))))) then bif Leaf.fit true (Leaf.sl 1 true) (getD (getD (enS true (Fabric.Cards (fabN (Net.mk (deS Bridge (enS false (Net.Bridges (Fabric.Net f)))) (deS Link (enS false (Net.Links (Fabric.Net f)))))))) (0 + toNat i0) []) 0 D.dead) && true then bif D.isOwn (getD (getD (enS true (Fabric.Cards (fabN (Net.mk (deS Bridge (enS false (Net.Bridges (Fabric.Net f)))) (deS Link (enS false (Net.Links (Fabric.Net f)))))))) (0 + toNat i0) []) 0 D.dead) && true && (decide (0 ≤ i0_) && decide (i0_ < ofNat (length (D.rows (getD (getD (enS true (Fabric.Cards (fabN (Net.mk (deS Bridge (enS false (Net.Bridges (Fabric.Net f)))) (deS Link (enS false (Net.Links (Fabric.Net f)))))))) (0 + toNat i0) []) 0 D.dead))))) then bif D.isOwn (getD (getD (enS true (Fabric.Cards (fabN (Net.mk (deS Bridge (enS false (Net.Bridges (Fabric.Net f)))) (deS Link (enS false (Net.Links (Fabric.Net f)))))))) (0 + toNat i0) []) 0 D.dead) && true && (Leaf.fit true Leaf.bool (getD (getD (D.rows (getD (getD (enS true (Fabric.Cards (fabN (Net.mk (deS Bridge (enS false (Net.Bridges (Fabric.Net f)))) (deS Link (enS false (Net.Links (Fabric.Net f)))))))) (0 + toNat i0) []) 0 D.dead)) (0 + toNat i0_) []) 0 D.dead) && true) then bif D.flag (getD (getD (D.rows (getD (getD (enS false (Fabric.Cards f)) (toNat i0) []) 0 D.dead)) (toNat i0_) []) 0 D.dead) != D.flag (getD (getD (D.rows (getD (getD (enS true (Fabric.Cards (fabN (Net.mk (deS Bridge (enS false (Net.Bridges (Fabric.Net f)))) (deS Link (enS false (Net.Links (Fabric.Net f)))))))) (0 + toNat i0) []) 0 D.dead)) (0 + toNat i0_) []) 0 D.dead) then K_ Ex.ret (X7_8 f i0 i0_) else f__ (S7_1 f i0 (wrap i64 (i0_ + 1))) else none else none else none else none else none else none else K_ (Ex.exit 2) (X7_9 f i0 i0_) := by kernel_rfl
def X7_10 (f : Fabric) (i0 : Int) (i0_ : Int) : St := St.mk [U_, V_ [C.ptr 0 0 0 [] 3 0 0], B_ false, V_ [C.ptr 4 0 0 [] 3 0 0], U_, I_ i0, V_ [C.ptr 5 0 0 [] 3 0 0], I_ i0_, U_, U_, U_, U_, U_, U_, U_, U_, U_, U_, U_, U_, U_, U_, U_, U_, U_, U_, U_, U_, U_, U_, U_, U_, U_, U_, U_, U_, U_, U_, U_, U_, U_, U_, U_, U_, U_, U_, I_ i0_, B_ true, U_, U_, V_ [C.ptr 5 0 0 [] 3 0 0], V_ [C.d (D.sl false 1 (D.rows (getD (getD (enS false (Fabric.Cards f)) (toNat i0) []) 0 D.dead)))], I_ i0_, V_ [C.rptr (getD (D.rows (getD (getD (enS false (Fabric.Cards f)) (toNat i0) []) 0 D.dead)) (toNat i0_) [])], B_ (D.flag (getD (getD (D.rows (getD (getD (enS false (Fabric.Cards f)) (toNat i0) []) 0 D.dead)) (toNat i0_) []) 0 D.dead)), V_ [C.ptr 4 0 0 [] 3 0 2], V_ [C.view 4 0 0 [(0, 2)] 3 none], I_ i0, V_ [C.ptr 4 0 0 [(0, 2)] 3 (0 + toNat i0) 0], V_ [C.ptr 4 0 0 [(0, 2)] 3 (0 + toNat i0) 0], V_ [C.view 4 0 0 [(0, 2), (0 + toNat i0, 0)] 1 none], I_ i0_, V_ [C.ptr 4 0 0 [(0, 2), (0 + toNat i0, 0)] 1 (0 + toNat i0_) 0], B_ (D.flag (getD (getD (D.rows (getD (getD (enS true (Fabric.Cards (fabN (Net.mk (deS Bridge (enS false (Net.Bridges (Fabric.Net f)))) (deS Link (enS false (Net.Links (Fabric.Net f)))))))) (0 + toNat i0) []) 0 D.dead)) (0 + toNat i0_) []) 0 D.dead)), B_ true] [Root.mk true 3 [En.enc false f] 0 0 true true false, Root.mk false 2 (enS true (Net.Bridges (Fabric.Net (fabN (Net.mk (deS Bridge (enS false (Net.Bridges (Fabric.Net f)))) (deS Link (enS false (Net.Links (Fabric.Net f))))))))) 0 0 false true false, Root.mk false 4 (enS true (Net.Links (Fabric.Net (fabN (Net.mk (deS Bridge (enS false (Net.Bridges (Fabric.Net f)))) (deS Link (enS false (Net.Links (Fabric.Net f))))))))) 0 0 false true false, Root.mk false 3 (enS true (Fabric.Cards (fabN (Net.mk (deS Bridge (enS false (Net.Bridges (Fabric.Net f)))) (deS Link (enS false (Net.Links (Fabric.Net f)))))))) 0 0 false true false, Root.mk true 3 [En.enc true (fabN (Net.mk (deS Bridge (enS false (Net.Bridges (Fabric.Net f)))) (deS Link (enS false (Net.Links (Fabric.Net f))))))] 0 0 true true false, Root.mk true 3 [[D.sl false 1 (D.rows (getD (getD (enS false (Fabric.Cards f)) (toNat i0) []) 0 D.dead)), D.sl false 2 (D.rows (getD (getD (enS false (Fabric.Cards f)) (toNat i0) []) 1 D.dead)), D.sl false 4 (D.rows (getD (getD (enS false (Fabric.Cards f)) (toNat i0) []) 2 D.dead))]] 0 0 true true false]
theorem aX7_10 (f : Fabric) (n : Nat) (i0 : Int) (i0_ : Int) : k7_1 n Ex.ret (X7_10 f i0 i0_) = some ([[D.bool false]], []) := by kernel_rfl
theorem aX7_8 (f : Fabric) (n : Nat) (i0 : Int) (f_ : St → RR) (K : Ex → St → RR) (i0_ : Int) : k7_7 n f_ K Ex.ret (X7_8 f i0 i0_) = K Ex.ret (X7_10 f i0 i0_) := by kernel_rfl
theorem aX7_9 (f : Fabric) (n : Nat) (i0 : Int) (f_ : St → RR) (K : Ex → St → RR) (i0_ : Int) : k7_7 n f_ K (Ex.exit 2) (X7_9 f i0 i0_) = f_ (S7_0 f (wrap i64 (i0 + 1))) := by kernel_rfl
def X7_11 (f : Fabric) (i0 : Int) : St := St.mk [U_, V_ [C.ptr 0 0 0 [] 3 0 0], U_, V_ [C.ptr 4 0 0 [] 3 0 0], U_, I_ i0, U_, U_, U_, U_, U_, U_, U_, U_, U_, U_, U_, U_, U_, U_, U_, U_, U_, U_, U_, I_ i0, V_ [C.ptr 0 0 0 [] 3 0 2], V_ [C.d (D.sl false 3 (enS false (Fabric.Cards f)))], I_ (ofNat (length (enS false (Fabric.Cards f)))), B_ false, U_, U_, U_, U_, U_, U_, U_, U_, U_, U_, U_, U_, U_, U_, U_, U_, U_, U_, U_, U_, U_, U_, U_, U_, U_, U_, U_, U_, U_, U_, U_, U_, U_, U_, U_] [Root.mk true 3 [En.enc false f] 0 0 true true false, Root.mk false 2 (enS true (Net.Bridges (Fabric.Net (fabN (Net.mk (deS Bridge (enS false (Net.Bridges (Fabric.Net f)))) (deS Link (enS false (Net.Links (Fabric.Net f))))))))) 0 0 false true false, Root.mk false 4 (enS true (Net.Links (Fabric.Net (fabN (Net.mk (deS Bridge (enS false (Net.Bridges (Fabric.Net f)))) (deS Link (enS false (Net.Links (Fabric.Net f))))))))) 0 0 false true false, Root.mk false 3 (enS true (Fabric.Cards (fabN (Net.mk (deS Bridge (enS false (Net.Bridges (Fabric.Net f)))) (deS Link (enS false (Net.Links (Fabric.Net f)))))))) 0 0 false true false, Root.mk true 3 [En.enc true (fabN (Net.mk (deS Bridge (enS false (Net.Bridges (Fabric.Net f)))) (deS Link (enS false (Net.Links (Fabric.Net f))))))] 0 0 true true false]
theorem q7_0 (f : Fabric) (n : Nat) (i0 : Int) (f_ : St → RR) (K : Ex → St → RR) : B7_0 n (S7_0 f i0) (kThen (fun st ↦ f_ (St.head 5 42 36893488147385549028 st)) K) = bif decide (i0 < ofNat (length (enS false (Fabric.Cards f)))) then bif decide (0 ≤ i0) && decide (i0 < ofNat (length (enS false (Fabric.Cards f)))) then bif Leaf.fit false (Leaf.sl 1 true) (getD (getD (enS false (Fabric.Cards f)) (toNat i0) []) 0 D.dead) && (Leaf.fit false (Leaf.sl 2 false) (getD (getD (enS false (Fabric.Cards f)) (toNat i0) []) 1 D.dead) && (Leaf.fit false (Leaf.sl 4 true) (getD (getD (enS false (Fabric.Cards f)) (toNat i0) []) 2 D.dead) && true)) then bif isS Bool false (D.rows (getD (getD (enS false (Fabric.Cards f)) (toNat i0) []) 0 D.dead)) && isS Member false (D.rows (getD (getD (enS false (Fabric.Cards f)) (toNat i0) []) 1 D.dead)) && isS Heard false (D.rows (getD (getD (enS false (Fabric.Cards f)) (toNat i0) []) 2 D.dead)) && Card.small (En.dec (getD (enS false (Fabric.Cards f)) (toNat i0) [])) then bif !cardOk (En.dec (getD (enS false (Fabric.Cards f)) (toNat i0) [])) then K Ex.ret (X7_2 f i0) else bif ofNat (length (D.rows (getD (getD (enS false (Fabric.Cards f)) (toNat i0) []) 0 D.dead))) != 4 then K Ex.ret (X7_3 f i0) else loopRun (B7_1 n) 6 234 36893417778674925700 n (S7_1 f i0 (0)) (k7_7 n f_ K) else none else none else none else K (Ex.exit 0) (X7_11 f i0) := by kernel_rfl
theorem aX7_2 (f : Fabric) (n : Nat) (i0 : Int) : k7_1 n Ex.ret (X7_2 f i0) = some ([[D.bool false]], []) := by kernel_rfl
theorem aX7_3 (f : Fabric) (n : Nat) (i0 : Int) : k7_1 n Ex.ret (X7_3 f i0) = some ([[D.bool false]], []) := by kernel_rfl
theorem aX7_11 (f : Fabric) (n : Nat) (i0 : Int) : k7_1 n (Ex.exit 0) (X7_11 f i0) = some ([[D.bool true]], []) := by kernel_rfl
theorem r7 (f : Fabric) (n : Nat) : evFn ⟨prog, Hx, 7⟩ T12.call n f7 [[.sl false 2 (enS false f.Net.Bridges), .sl false 4 (enS false f.Net.Links), .sl false 3 (enS false f.Cards)]] = bif isS Bridge false (enS false (Net.Bridges (Fabric.Net f))) && isS Link false (enS false (Net.Links (Fabric.Net f))) && Net.small (Net.mk (deS Bridge (enS false (Net.Bridges (Fabric.Net f)))) (deS Link (enS false (Net.Links (Fabric.Net f))))) then bif !hostsB (Net.mk (deS Bridge (enS false (Net.Bridges (Fabric.Net f)))) (deS Link (enS false (Net.Links (Fabric.Net f))))) then some ([[D.bool false]], []) else bif ofNat (length (enS true (Fabric.Cards (fabN (Net.mk (deS Bridge (enS false (Net.Bridges (Fabric.Net f)))) (deS Link (enS false (Net.Links (Fabric.Net f))))))))) != ofNat (length (enS false (Fabric.Cards f))) then some ([[D.bool false]], []) else loopRun (B7_0 n) 5 42 36893488147385549028 n (S7_0 f (0)) (k7_1 n) else none := by kernel_rfl
theorem l7_in (f : Fabric) (i : Nat) (hi : i < f.Cards.length) (hil : i < 4611686018427387904) (gs : List Card) (hG : (fabN (Net.mk (deS Bridge (enS false f.Net.Bridges)) (deS Link (enS false f.Net.Links)))).Cards = gs) (hg : i < gs.length) (o : List Bool) (ho : gs[i].Open = o) (h4 : f.Cards[i].Open.length = 4) (ho4 : o.length = 4) (n : Nat) (hn : 4 < n) (f_ : St → RR) (K : Ex → St → RR) (R1 R0 : RR) (hf : f_ (S7_0 f (Int.ofNat (i + 1))) = R1) (hK : ∀ z, K Ex.ret (X7_10 f (Int.ofNat i) z) = R0) :
    loopRun (B7_1 n) 6 234 36893417778674925700 n (S7_1 f (Int.ofNat i) 0) (k7_7 n f_ K) = bif decide (f.Cards[i].Open = o) then R1 else R0 := by
  refine loop_rule (V := Nat) (fun j => S7_1 f (Int.ofNat i) (Int.ofNat j)) (fun j => j ≤ 4 ∧ f.Cards[i].Open.take j = o.take j) (fun j => 4 - j) (fun _ => bif decide (f.Cards[i].Open = o) then R1 else R0) ?_ n 0 ⟨Nat.zero_le _, rfl⟩ (by omega)
  rintro j ⟨hj, ht⟩ F hF
  refine (q7_1 f n _ _ F _).trans ?_
  by_cases h : j < 4
  · have ha : j < f.Cards[i].Open.length := by omega
    have hb : j < o.length := by omega
    refine bif_t (decide_eq_true (show (j : Int) < 4 by omega)) (bif_t (by rw [toNat_of, enS_get false hi]; show (decide (0 ≤ Int.ofNat j) && decide (Int.ofNat j < Int.ofNat (enS false f.Cards[i].Open).length)) = true; rw [in_lt false ha, dec_ge]; rfl) (bif_t (by rw [toNat_of, toNat_of, enS_get false hi]; show (Leaf.fit false Leaf.bool (List.getD (List.getD (enS false f.Cards[i].Open) j []) 0 D.dead) && true) = true; rw [enS_get false ha]; rfl) (bif_t (by rw [hG, in_lt true hg, dec_ge]; rfl) (bif_t (by rw [hG, toNat_of, Nat.zero_add, enS_get true hg]; rfl) (bif_t (by rw [hG, toNat_of, Nat.zero_add, enS_get true hg]; show (true && true && (decide (0 ≤ Int.ofNat j) && decide (Int.ofNat j < Int.ofNat (enS true gs[i].Open).length))) = true; rw [ho, in_lt true hb, dec_ge]; rfl) (bif_t (by rw [hG, toNat_of, toNat_of, Nat.zero_add, Nat.zero_add, enS_get true hg]; show (true && true && (Leaf.fit true Leaf.bool (List.getD (List.getD (enS true gs[i].Open) j []) 0 D.dead) && true)) = true; rw [ho, enS_get true hb]; rfl) ?_))))))
    rw [hG, toNat_of, toNat_of, Nat.zero_add, Nat.zero_add, enS_get false hi, enS_get true hg]
    have hc : (D.flag (List.getD (List.getD (D.rows (List.getD (En.enc false f.Cards[i]) 0 D.dead)) j []) 0 D.dead) != D.flag (List.getD (List.getD (D.rows (List.getD (En.enc true gs[i]) 0 D.dead)) j []) 0 D.dead)) = (f.Cards[i].Open[j] != o[j]) := by
      show (D.flag (List.getD (List.getD (enS false f.Cards[i].Open) j []) 0 D.dead) != D.flag (List.getD (List.getD (enS true gs[i].Open) j []) 0 D.dead)) = _
      rw [ho, enS_get false ha, enS_get true hb]
      rfl
    cases he : f.Cards[i].Open[j] != o[j]
    · refine bif_f (hc.trans he) ?_
      rw [wrap_succ (show j < 4611686018427387904 by omega)]
      refine hF (j + 1) ⟨h, ?_⟩ (by omega)
      have he' : f.Cards[i].Open[j] = o[j] := by simpa using he
      rw [← List.take_append_getElem ha, ← List.take_append_getElem hb, ht, he']
    · refine bif_t (hc.trans he) ?_
      refine (aX7_8 f n _ f_ K _).trans ?_
      have he' : f.Cards[i].Open[j] ≠ o[j] := by simpa using he
      rw [hK, decide_eq_false (fun e => he' (by subst e; rfl))]
      rfl
  · obtain rfl : j = 4 := by omega
    refine bif_f rfl ?_
    refine (aX7_9 f n _ f_ K _).trans ?_
    rw [wrap_succ hil, hf]
    have e : f.Cards[i].Open = o := by
      rw [← h4, List.take_length, h4, ← ho4, List.take_length] at ht
      exact ht
    rw [decide_eq_true e]
    rfl
theorem m7 (f : Fabric) (hpre : (o7 f).1 = true) : evFn ⟨Go.Proofs.Try.prog, Hx, 7⟩ T12.call (f.Cards.length + 6) f7 [[.sl false 2 (enS false f.Net.Bridges), .sl false 4 (enS false f.Net.Links), .sl false 3 (enS false f.Cards)]] = some (o7 f).2 := by
  refine (r7 f _).trans ?_
  show _ = (some ([[.bool (fabOk f)]], []) : Option (List Row × List Row))
  replace hpre : (Fabric.small f) = true := hpre
  obtain ⟨hn, hc, hcs⟩ := fab_small hpre
  obtain ⟨hs1, hs2, hs3⟩ := net_small hn
  refine bif_t (nsm hn) ?_
  rw [netmk]
  show _ = some ([[D.bool (hostsB f.Net && (decide (f.Cards.length = f.Net.Bridges.length) && fabL f.Cards f.Net.Bridges))]], [])
  cases hh : hostsB f.Net
  · rfl
  have hfc : (fabN f.Net).Cards = f.Net.Bridges.map cardB := by unfold fabN; rw [hh]; rfl
  have hG : (fabN (Net.mk (deS Bridge (enS false f.Net.Bridges)) (deS Link (enS false f.Net.Links)))).Cards = f.Net.Bridges.map cardB := by rw [netmk]; exact hfc
  rw [hfc]
  simp only [enS_length, bne, nat_beq, List.length_map]
  have hsy : decide (f.Net.Bridges.length = f.Cards.length) = decide (f.Cards.length = f.Net.Bridges.length) := decide_eq_decide.2 eq_comm
  rw [hsy]
  cases hd : decide (f.Cards.length = f.Net.Bridges.length)
  · rfl
  have hl := of_decide_eq_true hd
  refine bif_f rfl (bif_f rfl ?_)
  refine loop_list (xs := f.Cards) (fun i (_ : Unit) => S7_0 f (Int.ofNat i)) (fun _ _ => True) (fun i _ rest => some ([[D.bool (fabL rest (f.Net.Bridges.drop i))]], [])) ?_ ?_ (f.Cards.length + 6) () (by omega) trivial
  · rintro _ _ f_
    refine (q7_0 f _ _ f_ _).trans ?_
    rw [end_lt, cond_false]
    exact aX7_11 f _ _
  · rintro i _ hi _ f_ hf
    have hj : i < f.Net.Bridges.length := by omega
    have hcm := hcs _ (List.getElem_mem hi)
    refine (q7_0 f _ _ f_ _).trans ?_
    rw [List.drop_eq_getElem_cons hj, fabL_cons]
    refine bif_t (in_lt false hi) (bif_t (by rw [in_lt false hi, dec_ge]; rfl) (bif_t (by rw [toNat_of, enS_get false hi]; rfl) (bif_t (by rw [toNat_of, enS_get false hi, En.dec_enc, hcm, Bool.and_true]; show (isS Bool false (enS false f.Cards[i].Open) && isS Member false (enS false f.Cards[i].Members) && isS Heard false (enS false f.Cards[i].Table)) = true; rw [isS_enS, isS_enS, isS_enS]; rfl) ?_)))
    rw [toNat_of, enS_get false hi, En.dec_enc]
    cases h1 : cardOk f.Cards[i]
    · refine bif_t rfl ?_
      exact aX7_2 f _ _
    refine bif_f rfl ?_
    have hlen : (Int.ofNat (List.length (D.rows (List.getD (En.enc false f.Cards[i]) 0 D.dead))) != 4) = !decide (f.Cards[i].Open.length = 4) := by
      show (Int.ofNat (enS false f.Cards[i].Open).length != 4) = _
      rw [enS_length, bne, show (4 : Int) = Int.ofNat 4 from rfl, nat_beq]
    cases h4 : decide (f.Cards[i].Open.length = 4)
    · refine bif_t (by rw [hlen, h4]; rfl) ?_
      refine (aX7_3 f _ _).trans ?_
      have hne : f.Cards[i].Open ≠ opensL f.Net.Bridges[i] := fun e => of_decide_eq_false h4 (by rw [e]; rfl)
      rw [decide_eq_false hne]
      rfl
    refine bif_f (by rw [hlen, h4]; rfl) ?_
    refine (l7_in f i hi (by omega) (f.Net.Bridges.map cardB) hG (by rw [List.length_map]; exact hj) (opensL f.Net.Bridges[i]) (by rw [List.getElem_map]; rfl) (of_decide_eq_true h4) rfl _ (by omega) f_ _ (some ([[D.bool (fabL (f.Cards.drop (i + 1)) (f.Net.Bridges.drop (i + 1)))]], [])) (some ([[D.bool false]], [])) (hf () trivial) (fun z => aX7_10 f _ _ z)).trans ?_
    cases decide (f.Cards[i].Open = opensL f.Net.Bridges[i]) <;> rfl
theorem s7 : SoundAt Go.Proofs.Try.prog Hx 7 c7 := soundAt_of T12_sound mixed func7 (by kernel_rfl) (by
  intro rows r h
  unfold c7 at h
  split at h
  · rename_i f_Net_Bridges f_Net_Links f_Cards
    obtain ⟨hp, hr⟩ := Prod.mk.inj (Option.some.inj h)
    subst hr
    simp only [Bool.and_eq_true] at hp
    obtain ⟨⟨⟨hs0, hs1⟩, hs2⟩, hp⟩ := hp
    obtain ⟨xs0, rfl⟩ := isS_ex hs0
    obtain ⟨xs1, rfl⟩ := isS_ex hs1
    obtain ⟨xs2, rfl⟩ := isS_ex hs2
    simp only [deS_enS] at hp ⊢
    exact ⟨_, m7 ⟨⟨xs0, xs1⟩, xs2⟩ hp⟩
  · cases h)
def T7 : Table := (7, c7) :: T12
theorem T7_sound : Table.Sound Go.Proofs.Try.prog Hx T7 := Table.sound_cons s7 T12_sound
end Go.Ev
end
