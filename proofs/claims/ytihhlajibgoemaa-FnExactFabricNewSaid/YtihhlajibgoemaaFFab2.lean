/- Contracts of functions, each by its evaluation. -/
import Derived.Test.YtihhlajibgoemaaEvMd
import Derived.Test.YtihhlajibgoemaaProg
import Derived.KernelRfl
import Derived.Test.YtihhlajibgoemaaFNet2
set_option linter.unusedVariables false
set_option linter.unusedSimpArgs false
set_option maxRecDepth 100000
noncomputable section
open List (getD length drop take set append replicate all isEmpty)
open Int (toNat ofNat)
open Go.IntKind (i64 wrap)
open Go.Proofs.Try (prog f16 f20 f37 f5 func16 func20 func37 func5)
namespace Go.Ev
open Go.RowKit Go.Md
end Go.Ev
namespace Go.Md
open Go Go.Ev
def hostsL (ls : List Link) : Bool := ls.all (fun l => !(l.P == 3) && !(l.Q == 3))
def hostsB (n : Net) : Bool := hostsL n.Links && netOk n
def fabL : List Card → List Bridge → Bool
  | [], _ => true
  | _ :: _, [] => false
  | c :: cs, b :: bs => cardOk c && (decide (c.Open = opensL b) && fabL cs bs)
def fabOk (f : Fabric) : Bool := hostsB f.Net && (decide (f.Cards.length = f.Net.Bridges.length) && fabL f.Cards f.Net.Bridges)
def fabN (n : Net) : Fabric := bif hostsB n then ⟨n, n.Bridges.map cardB⟩ else ⟨⟨[], []⟩, []⟩
theorem ids_ok : ∀ (u bs : List Bridge), idsB u bs = true → ∀ b ∈ bs, bridgeOk b = true
  | _, [], _, b, hb => by cases hb
  | u, c :: bs, h, b, hb => by
    rw [ids_cons] at h
    simp only [Bool.and_eq_true] at h
    rcases List.mem_cons.1 hb with h1 | h1
    · rw [h1]; exact h.1
    · exact ids_ok _ bs h.2.2 b h1
theorem ok_four {b : Bridge} (h : bridgeOk b = true) : b.Ports.length ≤ 4 := by
  unfold bridgeOk inR at h
  simp only [Bool.and_eq_true, decide_eq_true_eq] at h
  omega
theorem net_four {n : Net} (h : netOk n = true) : ∀ b ∈ n.Bridges, b.Ports.length ≤ 4 := by
  unfold netOk at h
  rw [Bool.and_eq_true] at h
  exact fun b hb => ok_four (ids_ok _ _ h.1 b hb)
theorem hosts_cons (l : Link) (ls : List Link) : hostsL (l :: ls) = ((!(l.P == 3) && !(l.Q == 3)) && hostsL ls) := rfl
theorem fabL_cons (c : Card) (cs : List Card) (b : Bridge) (bs : List Bridge) : fabL (c :: cs) (b :: bs) = (cardOk c && (decide (c.Open = opensL b) && fabL cs bs)) := rfl
theorem nsm {n : Net} (h : Net.small n = true) : (Go.Ev.isS Bridge false (Go.Ev.enS false n.Bridges) && Go.Ev.isS Link false (Go.Ev.enS false n.Links) && Net.small (Net.mk (Go.Ev.deS Bridge (Go.Ev.enS false n.Bridges)) (Go.Ev.deS Link (Go.Ev.enS false n.Links)))) = true := by
  rw [Go.Ev.isS_enS, Go.Ev.isS_enS, Go.Ev.deS_enS, Go.Ev.deS_enS]
  exact h
theorem netmk (n : Net) : Net.mk (Go.Ev.deS Bridge (Go.Ev.enS false n.Bridges)) (Go.Ev.deS Link (Go.Ev.enS false n.Links)) = n := by
  rw [Go.Ev.deS_enS, Go.Ev.deS_enS]
def fabT (n : Net) (cs : List Card) (o : Bool) : Go.Ev.RR := some ([[D.sl true 2 (Go.Ev.enS true n.Bridges), D.sl true 4 (Go.Ev.enS true n.Links), D.sl true 3 (Go.Ev.enS true cs)], [D.bool o]], [])
theorem fabN_no {n : Net} (h : hostsB n = false) : fabT (fabN n).Net (fabN n).Cards (hostsB n) = fabT ⟨[], []⟩ [] false := by unfold fabN; rw [h]; rfl
theorem fabN_yes {n : Net} (h : hostsB n = true) : fabT (fabN n).Net (fabN n).Cards (hostsB n) = fabT n (n.Bridges.map cardB) true := by unfold fabN; rw [h]; rfl
end Go.Md
namespace Go.Ev
open Go.Md
def o20 (n_ : Net) : Bool × List Row × List Row := (Net.small n_, [[.bool (hostsB n_)]], [])
def c20 : Contract
  | [[.sl false 2 n__Bridges, .sl false 4 n__Links]] => some (isS Bridge false n__Bridges && isS Link false n__Links && (o20 ⟨(deS Bridge n__Bridges), (deS Link n__Links)⟩).1, (o20 ⟨(deS Bridge n__Bridges), (deS Link n__Links)⟩).2.1, (o20 ⟨(deS Bridge n__Bridges), (deS Link n__Links)⟩).2.2)
  | _ => none

def k20_0 (n : Nat) : Ex → St → RR := kThen (fun st ↦ runCode (Ctx.mk prog Hx (20)) (Table.call T15) n (codeAt [1, 1] (bodyOf f20)) (Lv.mk 4 [] 4) st (kLeave (Ctx.P (Ctx.mk prog Hx (20))) (List.zip (Array.toList (Go.Func.resultTypes f20)) (Array.toList (Go.Func.results f20))) [] [])) (kLeave (Ctx.P (Ctx.mk prog Hx (20))) (List.zip (Array.toList (Go.Func.resultTypes f20)) (Array.toList (Go.Func.results f20))) [] [])
def k20_1 (n : Nat) : Ex → St → RR := kBlock (0) (k20_0 n)
def S20_0 (n_ : Net) (i0 : Int) : St := St.mk [U_, V_ [C.ptr 0 0 0 [] 2 0 0], U_, U_, U_, U_, V_ [C.d (D.sl false 4 (enS false (Net.Links n_)))], I_ (ofNat (length (enS false (Net.Links n_)))), I_ i0, U_, U_, U_, U_, U_, U_, U_, U_, U_, U_, U_, U_, U_, U_] [Root.mk true 2 [En.enc false n_] 0 0 true true false]
def B20_0 (n : Nat) : St → (Ex → St → RR) → RR := runCode (Ctx.mk prog Hx (20)) (Table.call T15) n (codeAt [1, 0, 1, 0, 0] (bodyOf f20)) (Lv.mk 450 [(0, 2)] 4)
def X20_2 (n_ : Net) (i0 : Int) : St := St.mk [U_, V_ [C.ptr 0 0 0 [] 2 0 0], B_ false, U_, V_ [C.ptr 1 0 0 [] 4 0 0], U_, V_ [C.d (D.sl false 4 (enS false (Net.Links n_)))], I_ (ofNat (length (enS false (Net.Links n_)))), I_ i0, B_ true, V_ [C.rptr (getD (enS false (Net.Links n_)) (toNat i0) [])], TV.v true [C.d (D.int i64 (D.num (getD (getD (enS false (Net.Links n_)) (toNat i0) []) 0 D.dead))), C.d (D.int i64 (D.num (getD (getD (enS false (Net.Links n_)) (toNat i0) []) 1 D.dead))), C.d (D.int i64 (D.num (getD (getD (enS false (Net.Links n_)) (toNat i0) []) 2 D.dead))), C.d (D.int i64 (D.num (getD (getD (enS false (Net.Links n_)) (toNat i0) []) 3 D.dead)))], V_ [C.ptr 1 0 0 [] 4 0 1], I_ (D.num (getD (getD (enS false (Net.Links n_)) (toNat i0) []) 1 D.dead)), B_ (D.num (getD (getD (enS false (Net.Links n_)) (toNat i0) []) 1 D.dead) == 3), B_ true, V_ [C.gone], V_ [C.gone], V_ [C.gone], B_ true, U_, U_, U_] [Root.mk true 2 [En.enc false n_] 0 0 true true false, Root.mk true 4 [[D.int i64 (D.num (getD (getD (enS false (Net.Links n_)) (toNat i0) []) 0 D.dead)), D.int i64 (D.num (getD (getD (enS false (Net.Links n_)) (toNat i0) []) 1 D.dead)), D.int i64 (D.num (getD (getD (enS false (Net.Links n_)) (toNat i0) []) 2 D.dead)), D.int i64 (D.num (getD (getD (enS false (Net.Links n_)) (toNat i0) []) 3 D.dead))]] 0 0 true true false]
def X20_3 (n_ : Net) (i0 : Int) : St := St.mk [U_, V_ [C.ptr 0 0 0 [] 2 0 0], B_ false, U_, V_ [C.ptr 1 0 0 [] 4 0 0], U_, V_ [C.d (D.sl false 4 (enS false (Net.Links n_)))], I_ (ofNat (length (enS false (Net.Links n_)))), I_ i0, B_ true, V_ [C.rptr (getD (enS false (Net.Links n_)) (toNat i0) [])], TV.v true [C.d (D.int i64 (D.num (getD (getD (enS false (Net.Links n_)) (toNat i0) []) 0 D.dead))), C.d (D.int i64 (D.num (getD (getD (enS false (Net.Links n_)) (toNat i0) []) 1 D.dead))), C.d (D.int i64 (D.num (getD (getD (enS false (Net.Links n_)) (toNat i0) []) 2 D.dead))), C.d (D.int i64 (D.num (getD (getD (enS false (Net.Links n_)) (toNat i0) []) 3 D.dead)))], V_ [C.ptr 1 0 0 [] 4 0 1], I_ (D.num (getD (getD (enS false (Net.Links n_)) (toNat i0) []) 1 D.dead)), B_ (D.num (getD (getD (enS false (Net.Links n_)) (toNat i0) []) 1 D.dead) == 3), B_ false, V_ [C.ptr 1 0 0 [] 4 0 3], I_ (D.num (getD (getD (enS false (Net.Links n_)) (toNat i0) []) 3 D.dead)), B_ (D.num (getD (getD (enS false (Net.Links n_)) (toNat i0) []) 3 D.dead) == 3), B_ true, U_, U_, U_] [Root.mk true 2 [En.enc false n_] 0 0 true true false, Root.mk true 4 [[D.int i64 (D.num (getD (getD (enS false (Net.Links n_)) (toNat i0) []) 0 D.dead)), D.int i64 (D.num (getD (getD (enS false (Net.Links n_)) (toNat i0) []) 1 D.dead)), D.int i64 (D.num (getD (getD (enS false (Net.Links n_)) (toNat i0) []) 2 D.dead)), D.int i64 (D.num (getD (getD (enS false (Net.Links n_)) (toNat i0) []) 3 D.dead))]] 0 0 true true false]
def X20_4 (n_ : Net) (i0 : Int) : St := St.mk [U_, V_ [C.ptr 0 0 0 [] 2 0 0], U_, U_, U_, U_, V_ [C.d (D.sl false 4 (enS false (Net.Links n_)))], I_ (ofNat (length (enS false (Net.Links n_)))), I_ i0, B_ false, U_, U_, U_, U_, U_, U_, U_, U_, U_, U_, U_, U_, U_] [Root.mk true 2 [En.enc false n_] 0 0 true true false]
theorem q20_0 (n_ : Net) (n : Nat) (i0 : Int) (f : St → RR) (K : Ex → St → RR) : B20_0 n (S20_0 n_ i0) (kThen (fun st ↦ f (St.head 1 450 2096916 st)) K) = bif decide (i0 < ofNat (length (enS false (Net.Links n_)))) then bif decide (0 ≤ i0) && decide (i0 < ofNat (length (enS false (Net.Links n_)))) then bif Leaf.fit false (Leaf.int i64) (getD (getD (enS false (Net.Links n_)) (toNat i0) []) 0 D.dead) && (Leaf.fit false (Leaf.int i64) (getD (getD (enS false (Net.Links n_)) (toNat i0) []) 1 D.dead) && (Leaf.fit false (Leaf.int i64) (getD (getD (enS false (Net.Links n_)) (toNat i0) []) 2 D.dead) && (Leaf.fit false (Leaf.int i64) (getD (getD (enS false (Net.Links n_)) (toNat i0) []) 3 D.dead) && true))) then bif D.num (getD (getD (enS false (Net.Links n_)) (toNat i0) []) 1 D.dead) == 3 then K Ex.ret (X20_2 n_ i0) else bif D.num (getD (getD (enS false (Net.Links n_)) (toNat i0) []) 3 D.dead) == 3 then K Ex.ret (X20_3 n_ i0) else f (S20_0 n_ (wrap i64 (i0 + 1))) else none else none else K (Ex.exit 0) (X20_4 n_ i0) := by kernel_rfl
theorem aX20_2 (n_ : Net) (n : Nat) (i0 : Int) : k20_1 n Ex.ret (X20_2 n_ i0) = some ([[D.bool false]], []) := by kernel_rfl
theorem aX20_3 (n_ : Net) (n : Nat) (i0 : Int) : k20_1 n Ex.ret (X20_3 n_ i0) = some ([[D.bool false]], []) := by kernel_rfl
theorem aX20_4 (n_ : Net) (n : Nat) (i0 : Int) : k20_1 n (Ex.exit 0) (X20_4 n_ i0) = bif isS Bridge false (enS false (Net.Bridges n_)) && isS Link false (enS false (Net.Links n_)) && Net.small (Net.mk (deS Bridge (enS false (Net.Bridges n_))) (deS Link (enS false (Net.Links n_)))) then some ([[D.bool (netOk (Net.mk (deS Bridge (enS false (Net.Bridges n_))) (deS Link (enS false (Net.Links n_)))))]], []) else none := by kernel_rfl
theorem r20 (n_ : Net) (n : Nat) : evFn ⟨prog, Hx, 20⟩ T15.call n f20 [[.sl false 2 (enS false n_.Bridges), .sl false 4 (enS false n_.Links)]] = loopRun (B20_0 n) 1 450 2096916 n (S20_0 n_ (0)) (k20_1 n) := by kernel_rfl
theorem m20 (n_ : Net) (hpre : (o20 n_).1 = true) : evFn ⟨Go.Proofs.Try.prog, Hx, 20⟩ T15.call (n_.Links.length + 1) f20 [[.sl false 2 (enS false n_.Bridges), .sl false 4 (enS false n_.Links)]] = some (o20 n_).2 := by
  refine (r20 n_ _).trans ?_
  show _ = (some ([[.bool (hostsB n_)]], []) : Option (List Row × List Row))
  replace hpre : (Net.small n_) = true := hpre
  obtain ⟨hs1, hs2, hs3⟩ := net_small hpre
  unfold hostsB
  refine loop_list (xs := n_.Links) (fun i (_ : Unit) => S20_0 n_ (Int.ofNat i)) (fun _ _ => True) (fun _ _ rest => some ([[D.bool (hostsL rest && netOk n_)]], [])) ?_ ?_ (n_.Links.length + 1) () (by omega) trivial
  · rintro _ _ f
    refine (q20_0 n_ _ _ f _).trans ?_
    rw [end_lt, cond_false]
    refine (aX20_4 n_ _ _).trans ?_
    refine bif_t (nsm hpre) ?_
    rw [netmk]
    rfl
  · rintro i _ hi _ f hf
    refine (q20_0 n_ _ _ f _).trans ?_
    refine bif_t (in_lt false hi) (bif_t (by rw [in_lt false hi, dec_ge]; rfl) (bif_t (by rw [toNat_of, enS_get false hi]; rfl) ?_))
    rw [toNat_of, enS_get false hi, wrap_succ (show i < 4611686018427387904 by omega), hosts_cons]
    cases h1 : n_.Links[i].P == 3
    case true =>
      refine bif_t h1 ?_
      exact aX20_2 n_ _ _
    refine bif_f h1 ?_
    cases h2 : n_.Links[i].Q == 3
    case true =>
      refine bif_t h2 ?_
      exact aX20_3 n_ _ _
    refine bif_f h2 ?_
    exact hf () trivial
theorem s20 : SoundAt Go.Proofs.Try.prog Hx 20 c20 := soundAt_of T15_sound mixed func20 (by kernel_rfl) (by
  intro rows r h
  unfold c20 at h
  split at h
  · rename_i n__Bridges n__Links
    obtain ⟨hp, hr⟩ := Prod.mk.inj (Option.some.inj h)
    subst hr
    simp only [Bool.and_eq_true] at hp
    obtain ⟨⟨hs0, hs1⟩, hp⟩ := hp
    obtain ⟨xs0, rfl⟩ := isS_ex hs0
    obtain ⟨xs1, rfl⟩ := isS_ex hs1
    simp only [deS_enS] at hp ⊢
    exact ⟨_, m20 ⟨xs0, xs1⟩ hp⟩
  · cases h)
def T20 : Table := (20, c20) :: T15
theorem T20_sound : Table.Sound Go.Proofs.Try.prog Hx T20 := Table.sound_cons s20 T15_sound
def o37 (b : Bridge) : Bool × List Row × List Row := (decide (b.Ports.length ≤ 1048576), [[.int .i64 (b).Id, .sl true 11 (enS true (b).Ports)]], [])
def c37 : Contract
  | [[.int .i64 b_Id, .sl false 11 b_Ports]] => some (isS Port false b_Ports && (o37 ⟨b_Id, (deS Port b_Ports)⟩).1, (o37 ⟨b_Id, (deS Port b_Ports)⟩).2.1, (o37 ⟨b_Id, (deS Port b_Ports)⟩).2.2)
  | _ => none

theorem r37 (b : Bridge) (n : Nat) : evFn ⟨prog, Hx, 37⟩ T20.call n f37 [[.int .i64 b.Id, .sl false 11 (enS false b.Ports)]] = bif decide ((0 + length (enS false (Bridge.Ports b))) * 80 ≤ 140737488355328) then some ([[D.int i64 (Bridge.Id b), D.sl true 11 (enS false (Bridge.Ports b))]], []) else none := by kernel_rfl
theorem m37 (b : Bridge) (hpre : (o37 b).1 = true) : evFn ⟨Go.Proofs.Try.prog, Hx, 37⟩ T20.call 0 f37 [[.int .i64 b.Id, .sl false 11 (enS false b.Ports)]] = some (o37 b).2 := by
  refine (r37 b _).trans ?_
  show _ = (some ([[.int .i64 (b).Id, .sl true 11 (enS true (b).Ports)]], []) : Option (List Row × List Row))
  replace hpre : (decide (b.Ports.length ≤ 1048576)) = true := hpre
  have hlen := of_decide_eq_true hpre
  have h1 : decide ((0 + b.Ports.length) * 80 ≤ 140737488355328) = true := decide_eq_true (by omega)
  simp only [enS_length, h1, cond_true]
  rfl
theorem s37 : SoundAt Go.Proofs.Try.prog Hx 37 c37 := soundAt_of T20_sound mixed func37 (by kernel_rfl) (by
  intro rows r h
  unfold c37 at h
  split at h
  · rename_i b_Id b_Ports
    obtain ⟨hp, hr⟩ := Prod.mk.inj (Option.some.inj h)
    subst hr
    simp only [Bool.and_eq_true] at hp
    obtain ⟨hs0, hp⟩ := hp
    obtain ⟨xs0, rfl⟩ := isS_ex hs0
    simp only [deS_enS] at hp ⊢
    exact ⟨_, m37 ⟨b_Id, xs0⟩ hp⟩
  · cases h)
def T37 : Table := (37, c37) :: T20
theorem T37_sound : Table.Sound Go.Proofs.Try.prog Hx T37 := Table.sound_cons s37 T20_sound
def o16 (n_ : Net) : Bool × List Row × List Row := (Net.small n_, [[.sl true 2 (enS true (n_).Bridges), .sl true 4 (enS true (n_).Links)]], [])
def c16 : Contract
  | [[.sl false 2 n__Bridges, .sl false 4 n__Links]] => some (isS Bridge false n__Bridges && isS Link false n__Links && (o16 ⟨(deS Bridge n__Bridges), (deS Link n__Links)⟩).1, (o16 ⟨(deS Bridge n__Bridges), (deS Link n__Links)⟩).2.1, (o16 ⟨(deS Bridge n__Bridges), (deS Link n__Links)⟩).2.2)
  | _ => none

def k16_0 (n : Nat) : Ex → St → RR := kThen (fun st ↦ runCode (Ctx.mk prog Hx (16)) (Table.call T37) n (codeAt [1, 1, 1] (bodyOf f16)) (Lv.mk 4 [] 4) st (kLeave (Ctx.P (Ctx.mk prog Hx (16))) (List.zip (Array.toList (Go.Func.resultTypes f16)) (Array.toList (Go.Func.results f16))) [] [])) (kLeave (Ctx.P (Ctx.mk prog Hx (16))) (List.zip (Array.toList (Go.Func.resultTypes f16)) (Array.toList (Go.Func.results f16))) [] [])
def k16_1 (n : Nat) : Ex → St → RR := kBlock (0) (k16_0 n)
def S16_0 (n_ : Net) (i0 : Int) (es1 : List (List D)) : St := St.mk [U_, V_ [C.ptr 0 0 0 [] 2 0 0], V_ [C.ptr 1 0 0 [] 2 0 0], V_ [C.ptr 4 0 0 [] 2 0 0], I_ i0, U_, U_, U_, U_, U_, U_, U_, U_, U_, U_, U_, U_, U_, U_, U_, U_, U_, U_, U_, U_, U_, U_, U_, U_] [Root.mk true 2 [En.enc false n_] 0 0 true true false, Root.mk true 2 [[D.sl true 2 [], D.sl true 4 []]] 0 0 true true false, Root.mk false 4 [] 0 0 false true false, Root.mk false 4 (enS false (Net.Links n_)) 0 0 false true false, Root.mk true 2 [[D.sl true 2 es1, D.sl true 4 (enS false (Net.Links n_))]] 0 0 true true false]
def B16_0 (n : Nat) : St → (Ex → St → RR) → RR := runCode (Ctx.mk prog Hx (16)) (Table.call T37) n (codeAt [1, 1, 0, 1, 0, 0] (bodyOf f16)) (Lv.mk 30 [(0, 12)] 4)
def X16_2 (n_ : Net) (i0 : Int) (es1 : List (List D)) : St := St.mk [U_, V_ [C.ptr 0 0 0 [] 2 0 0], V_ [C.ptr 1 0 0 [] 2 0 0], V_ [C.ptr 4 0 0 [] 2 0 0], I_ i0, U_, U_, U_, U_, U_, I_ i0, V_ [C.ptr 0 0 0 [] 2 0 0], V_ [C.d (D.sl false 2 (enS false (Net.Bridges n_)))], I_ (ofNat (length (enS false (Net.Bridges n_)))), B_ false, U_, U_, U_, U_, U_, U_, U_, U_, U_, U_, U_, U_, U_, U_] [Root.mk true 2 [En.enc false n_] 0 0 true true false, Root.mk true 2 [[D.sl true 2 [], D.sl true 4 []]] 0 0 true true false, Root.mk false 4 [] 0 0 false true false, Root.mk false 4 (enS false (Net.Links n_)) 0 0 false true false, Root.mk true 2 [[D.sl true 2 es1, D.sl true 4 (enS false (Net.Links n_))]] 0 0 true true false]
theorem q16_0 (n_ : Net) (n : Nat) (i0 : Int) (es1 : List (List D)) (f : St → RR) (K : Ex → St → RR) : B16_0 n (S16_0 n_ i0 es1) (kThen (fun st ↦ f (St.head 5 30 268434448 st)) K) = bif decide (i0 < ofNat (length (enS false (Net.Bridges n_)))) then bif decide (0 ≤ i0) && decide (i0 < ofNat (length (enS false (Net.Bridges n_)))) then bif Leaf.fit false (Leaf.int i64) (getD (getD (enS false (Net.Bridges n_)) (toNat i0) []) 0 D.dead) && (Leaf.fit false (Leaf.sl 11 true) (getD (getD (enS false (Net.Bridges n_)) (toNat i0) []) 1 D.dead) && true) then bif isS Port false (D.rows (getD (getD (enS false (Net.Bridges n_)) (toNat i0) []) 1 D.dead)) && decide (length (deS Port (D.rows (getD (getD (enS false (Net.Bridges n_)) (toNat i0) []) 1 D.dead))) ≤ 1048576) then bif decide ((length es1 + 1) * 32 ≤ 140737488355328) then f (S16_0 n_ (wrap i64 (i0 + 1)) (append es1 [[D.int i64 (D.num (getD (getD (enS false (Net.Bridges n_)) (toNat i0) []) 0 D.dead)), D.sl true 11 (enS true (deS Port (D.rows (getD (getD (enS false (Net.Bridges n_)) (toNat i0) []) 1 D.dead))))]])) else none else none else none else none else K (Ex.exit 0) (X16_2 n_ i0 es1) := by kernel_rfl
theorem aX16_2 (n_ : Net) (n : Nat) (i0 : Int) (es1 : List (List D)) : k16_1 n (Ex.exit 0) (X16_2 n_ i0 es1) = some ([[D.sl true 2 es1, D.sl true 4 (enS false (Net.Links n_))]], []) := by kernel_rfl
theorem r16 (n_ : Net) (n : Nat) : evFn ⟨prog, Hx, 16⟩ T37.call n f16 [[.sl false 2 (enS false n_.Bridges), .sl false 4 (enS false n_.Links)]] = bif decide ((0 + length (enS false (Net.Links n_))) * 32 ≤ 140737488355328) then loopRun (B16_0 n) 5 30 268434448 n (S16_0 n_ (0) []) (k16_1 n) else none := by kernel_rfl
theorem m16 (n_ : Net) (hpre : (o16 n_).1 = true) : evFn ⟨Go.Proofs.Try.prog, Hx, 16⟩ T37.call (n_.Bridges.length + 1) f16 [[.sl false 2 (enS false n_.Bridges), .sl false 4 (enS false n_.Links)]] = some (o16 n_).2 := by
  refine (r16 n_ _).trans ?_
  show _ = (some ([[.sl true 2 (enS true (n_).Bridges), .sl true 4 (enS true (n_).Links)]], []) : Option (List Row × List Row))
  replace hpre : (Net.small n_) = true := hpre
  obtain ⟨hs1, hs2, hs3⟩ := net_small hpre
  refine bif_t (decide_eq_true (by rw [enS_length]; omega)) ?_
  refine loop_list (xs := n_.Bridges) (fun i (bs : List Bridge) => S16_0 n_ (Int.ofNat i) (enS true bs)) (fun i bs => bs = n_.Bridges.take i) (fun _ _ _ => some ([[D.sl true 2 (enS true n_.Bridges), D.sl true 4 (enS true n_.Links)]], [])) ?_ ?_ (n_.Bridges.length + 1) [] (by omega) rfl
  · rintro bs rfl f
    refine (q16_0 n_ _ _ _ f _).trans ?_
    rw [end_lt, cond_false]
    refine (aX16_2 n_ _ _ _).trans ?_
    rw [List.take_length]
    rfl
  · rintro i bs hi hbs f hf
    have hpl := hs2 _ (List.getElem_mem hi)
    have hbl : bs.length ≤ i := by rw [hbs, List.length_take]; omega
    refine (q16_0 n_ _ _ _ f _).trans ?_
    refine bif_t (in_lt false hi) (bif_t (by rw [in_lt false hi, dec_ge]; rfl) (bif_t (by rw [toNat_of, enS_get false hi]; rfl) (bif_t (by rw [toNat_of, enS_get false hi]; show (isS Port false (enS false n_.Bridges[i].Ports) && decide (List.length (deS Port (enS false n_.Bridges[i].Ports)) ≤ 1048576)) = true; rw [isS_enS, deS_enS, decide_eq_true hpl]; rfl) (bif_t (decide_eq_true (by rw [enS_length]; omega)) ?_))))
    rw [toNat_of, enS_get false hi, wrap_succ (show i < 4611686018427387904 by omega)]
    have e : List.append (enS true bs) [[D.int .i64 (D.num (List.getD (En.enc false n_.Bridges[i]) 0 D.dead)), D.sl true 11 (enS true (deS Port (D.rows (List.getD (En.enc false n_.Bridges[i]) 1 D.dead))))]] = enS true (bs ++ [n_.Bridges[i]]) := by
      show List.append (enS true bs) [[D.int .i64 n_.Bridges[i].Id, D.sl true 11 (enS true (deS Port (enS false n_.Bridges[i].Ports)))]] = _
      rw [deS_enS]
      exact enS_snoc true bs n_.Bridges[i]
    rw [e]
    exact hf _ (by rw [hbs, List.take_append_getElem])
theorem s16 : SoundAt Go.Proofs.Try.prog Hx 16 c16 := soundAt_of T37_sound mixed func16 (by kernel_rfl) (by
  intro rows r h
  unfold c16 at h
  split at h
  · rename_i n__Bridges n__Links
    obtain ⟨hp, hr⟩ := Prod.mk.inj (Option.some.inj h)
    subst hr
    simp only [Bool.and_eq_true] at hp
    obtain ⟨⟨hs0, hs1⟩, hp⟩ := hp
    obtain ⟨xs0, rfl⟩ := isS_ex hs0
    obtain ⟨xs1, rfl⟩ := isS_ex hs1
    simp only [deS_enS] at hp ⊢
    exact ⟨_, m16 ⟨xs0, xs1⟩ hp⟩
  · cases h)
def T16 : Table := (16, c16) :: T37
theorem T16_sound : Table.Sound Go.Proofs.Try.prog Hx T16 := Table.sound_cons s16 T37_sound
def o5 (n_ : Net) : Bool × List Row × List Row := (Net.small n_, [[.sl true 2 (enS true (fabN n_).Net.Bridges), .sl true 4 (enS true (fabN n_).Net.Links), .sl true 3 (enS true (fabN n_).Cards)], [.bool (hostsB n_)]], [])
def c5 : Contract
  | [[.sl false 2 n__Bridges, .sl false 4 n__Links]] => some (isS Bridge false n__Bridges && isS Link false n__Links && (o5 ⟨(deS Bridge n__Bridges), (deS Link n__Links)⟩).1, (o5 ⟨(deS Bridge n__Bridges), (deS Link n__Links)⟩).2.1, (o5 ⟨(deS Bridge n__Bridges), (deS Link n__Links)⟩).2.2)
  | _ => none

def k5_0 (n : Nat) : Ex → St → RR := kThen (fun st ↦ runCode (Ctx.mk prog Hx (5)) (Table.call T16) n (codeAt [1, 1, 1, 1] (bodyOf f5)) (Lv.mk 12 [] 12) st (kLeave (Ctx.P (Ctx.mk prog Hx (5))) (List.zip (Array.toList (Go.Func.resultTypes f5)) (Array.toList (Go.Func.results f5))) [] [])) (kLeave (Ctx.P (Ctx.mk prog Hx (5))) (List.zip (Array.toList (Go.Func.resultTypes f5)) (Array.toList (Go.Func.results f5))) [] [])
def k5_1 (n : Nat) : Ex → St → RR := kBlock (0) (k5_0 n)
def S5_0 (n_ : Net) (i0 : Int) : St := St.mk [U_, V_ [C.ptr 0 0 0 [] 2 0 0], V_ [C.ptr 1 0 0 [] 3 0 0], U_, V_ [C.ptr 4 0 0 [] 3 0 0], I_ i0, U_, U_, U_, U_, U_, U_, U_, U_, U_, U_, U_, U_, U_, U_, U_, U_, U_, U_, U_, U_, U_, U_, U_, U_, U_, U_, U_, U_, U_, U_, U_, U_, U_, U_, U_, U_, U_, U_, U_, U_, U_, U_, U_, U_, U_, U_, U_, U_, U_, U_, U_] [Root.mk true 2 [En.enc false n_] 0 0 true true false, Root.mk true 3 [[D.sl true 2 [], D.sl true 4 [], D.sl true 3 []]] 0 0 true true false, Root.mk false 2 (enS true (deS Bridge (enS false (Net.Bridges n_)))) 0 0 false true false, Root.mk false 4 (enS true (deS Link (enS false (Net.Links n_)))) 0 0 false true false, Root.mk true 3 [[D.sl true 2 (enS true (deS Bridge (enS false (Net.Bridges n_)))), D.sl true 4 (enS true (deS Link (enS false (Net.Links n_)))), D.sl true 3 []]] 0 0 true true false]
def B5_0 (n : Nat) : St → (Ex → St → RR) → RR := runCode (Ctx.mk prog Hx (5)) (Table.call T16) n (codeAt [1, 1, 1, 0, 1, 0, 0] (bodyOf f5)) (Lv.mk 54 [(0, 22)] 12)
def X5_2 (n_ : Net) (i0 : Int) : St := St.mk [U_, V_ [C.ptr 0 0 0 [] 2 0 0], V_ [C.ptr 1 0 0 [] 3 0 0], B_ false, V_ [C.ptr 4 0 0 [] 3 0 0], I_ i0, U_, U_, U_, U_, U_, U_, U_, U_, I_ i0, V_ [C.ptr 0 0 0 [] 2 0 1], V_ [C.d (D.sl false 4 (enS false (Net.Links n_)))], I_ (ofNat (length (enS false (Net.Links n_)))), B_ true, U_, U_, V_ [C.ptr 0 0 0 [] 2 0 1], V_ [C.d (D.sl false 4 (enS false (Net.Links n_)))], I_ i0, V_ [C.rptr (getD (enS false (Net.Links n_)) (toNat i0) [])], V_ [C.rptr (drop 1 (getD (enS false (Net.Links n_)) (toNat i0) []))], I_ (D.num (getD (drop 1 (getD (enS false (Net.Links n_)) (toNat i0) [])) 0 D.dead)), B_ (D.num (getD (drop 1 (getD (enS false (Net.Links n_)) (toNat i0) [])) 0 D.dead) == 3), B_ true, V_ [C.gone], V_ [C.gone], V_ [C.gone], V_ [C.gone], V_ [C.gone], V_ [C.gone], V_ [C.gone], B_ true, TV.v true [C.nils 2, C.nils 4, C.nils 3], U_, U_, U_, U_, U_, U_, U_, U_, U_, U_, U_, U_, U_, U_, U_, U_, U_, U_, U_] [Root.mk true 2 [En.enc false n_] 0 0 true true false, Root.mk true 3 [[D.sl true 2 [], D.sl true 4 [], D.sl true 3 []]] 0 1 true true false, Root.mk false 2 (enS true (deS Bridge (enS false (Net.Bridges n_)))) 0 0 false true false, Root.mk false 4 (enS true (deS Link (enS false (Net.Links n_)))) 0 0 false true false, Root.mk true 3 [[D.sl true 2 (enS true (deS Bridge (enS false (Net.Bridges n_)))), D.sl true 4 (enS true (deS Link (enS false (Net.Links n_)))), D.sl true 3 []]] 0 0 true true false]
def X5_3 (n_ : Net) (i0 : Int) : St := St.mk [U_, V_ [C.ptr 0 0 0 [] 2 0 0], V_ [C.ptr 1 0 0 [] 3 0 0], B_ false, V_ [C.ptr 4 0 0 [] 3 0 0], I_ i0, U_, U_, U_, U_, U_, U_, U_, U_, I_ i0, V_ [C.ptr 0 0 0 [] 2 0 1], V_ [C.d (D.sl false 4 (enS false (Net.Links n_)))], I_ (ofNat (length (enS false (Net.Links n_)))), B_ true, U_, U_, V_ [C.ptr 0 0 0 [] 2 0 1], V_ [C.d (D.sl false 4 (enS false (Net.Links n_)))], I_ i0, V_ [C.rptr (getD (enS false (Net.Links n_)) (toNat i0) [])], V_ [C.rptr (drop 1 (getD (enS false (Net.Links n_)) (toNat i0) []))], I_ (D.num (getD (drop 1 (getD (enS false (Net.Links n_)) (toNat i0) [])) 0 D.dead)), B_ (D.num (getD (drop 1 (getD (enS false (Net.Links n_)) (toNat i0) [])) 0 D.dead) == 3), B_ false, V_ [C.ptr 0 0 0 [] 2 0 1], V_ [C.d (D.sl false 4 (enS false (Net.Links n_)))], I_ i0, V_ [C.rptr (getD (enS false (Net.Links n_)) (toNat i0) [])], V_ [C.rptr (drop 3 (getD (enS false (Net.Links n_)) (toNat i0) []))], I_ (D.num (getD (drop 3 (getD (enS false (Net.Links n_)) (toNat i0) [])) 0 D.dead)), B_ (D.num (getD (drop 3 (getD (enS false (Net.Links n_)) (toNat i0) [])) 0 D.dead) == 3), B_ true, TV.v true [C.nils 2, C.nils 4, C.nils 3], U_, U_, U_, U_, U_, U_, U_, U_, U_, U_, U_, U_, U_, U_, U_, U_, U_, U_, U_] [Root.mk true 2 [En.enc false n_] 0 0 true true false, Root.mk true 3 [[D.sl true 2 [], D.sl true 4 [], D.sl true 3 []]] 0 1 true true false, Root.mk false 2 (enS true (deS Bridge (enS false (Net.Bridges n_)))) 0 0 false true false, Root.mk false 4 (enS true (deS Link (enS false (Net.Links n_)))) 0 0 false true false, Root.mk true 3 [[D.sl true 2 (enS true (deS Bridge (enS false (Net.Bridges n_)))), D.sl true 4 (enS true (deS Link (enS false (Net.Links n_)))), D.sl true 3 []]] 0 0 true true false]
def X5_4 (n_ : Net) (i0 : Int) : St := St.mk [U_, V_ [C.ptr 0 0 0 [] 2 0 0], V_ [C.ptr 1 0 0 [] 3 0 0], U_, V_ [C.ptr 4 0 0 [] 3 0 0], I_ i0, U_, U_, U_, U_, U_, U_, U_, U_, I_ i0, V_ [C.ptr 0 0 0 [] 2 0 1], V_ [C.d (D.sl false 4 (enS false (Net.Links n_)))], I_ (ofNat (length (enS false (Net.Links n_)))), B_ false, U_, U_, U_, U_, U_, U_, U_, U_, U_, U_, U_, U_, U_, U_, U_, U_, U_, U_, U_, U_, U_, U_, U_, U_, U_, U_, U_, U_, U_, U_, U_, U_, U_, U_, U_, U_, U_, U_] [Root.mk true 2 [En.enc false n_] 0 0 true true false, Root.mk true 3 [[D.sl true 2 [], D.sl true 4 [], D.sl true 3 []]] 0 0 true true false, Root.mk false 2 (enS true (deS Bridge (enS false (Net.Bridges n_)))) 0 0 false true false, Root.mk false 4 (enS true (deS Link (enS false (Net.Links n_)))) 0 0 false true false, Root.mk true 3 [[D.sl true 2 (enS true (deS Bridge (enS false (Net.Bridges n_)))), D.sl true 4 (enS true (deS Link (enS false (Net.Links n_)))), D.sl true 3 []]] 0 0 true true false]
theorem q5_0 (n_ : Net) (n : Nat) (i0 : Int) (f : St → RR) (K : Ex → St → RR) : B5_0 n (S5_0 n_ i0) (kThen (fun st ↦ f (St.head 5 54 274877890600 st)) K) = bif decide (i0 < ofNat (length (enS false (Net.Links n_)))) then bif decide (0 ≤ i0) && decide (i0 < ofNat (length (enS false (Net.Links n_)))) then bif Leaf.fit false (Leaf.int i64) (getD (drop 1 (getD (enS false (Net.Links n_)) (toNat i0) [])) 0 D.dead) && true then bif D.num (getD (drop 1 (getD (enS false (Net.Links n_)) (toNat i0) [])) 0 D.dead) == 3 then K Ex.ret (X5_2 n_ i0) else bif decide (0 ≤ i0) && decide (i0 < ofNat (length (enS false (Net.Links n_)))) then bif Leaf.fit false (Leaf.int i64) (getD (drop 3 (getD (enS false (Net.Links n_)) (toNat i0) [])) 0 D.dead) && true then bif D.num (getD (drop 3 (getD (enS false (Net.Links n_)) (toNat i0) [])) 0 D.dead) == 3 then K Ex.ret (X5_3 n_ i0) else f (S5_0 n_ (wrap i64 (i0 + 1))) else none else none else none else none else K (Ex.exit 0) (X5_4 n_ i0) := by kernel_rfl
theorem aX5_2 (n_ : Net) (n : Nat) (i0 : Int) : k5_1 n Ex.ret (X5_2 n_ i0) = some ([[D.sl true 2 [], D.sl true 4 [], D.sl true 3 []], [D.bool false]], []) := by kernel_rfl
theorem aX5_3 (n_ : Net) (n : Nat) (i0 : Int) : k5_1 n Ex.ret (X5_3 n_ i0) = some ([[D.sl true 2 [], D.sl true 4 [], D.sl true 3 []], [D.bool false]], []) := by kernel_rfl
def k5_5 (n : Nat) : Ex → St → RR := kThen (fun st ↦ runCode (Ctx.mk prog Hx (5)) (Table.call T16) n (codeAt [1, 1, 1, 1, 1] (bodyOf f5)) (Lv.mk 12 [] 12) st (kLeave (Ctx.P (Ctx.mk prog Hx (5))) (List.zip (Array.toList (Go.Func.resultTypes f5)) (Array.toList (Go.Func.results f5))) [] [])) (kLeave (Ctx.P (Ctx.mk prog Hx (5))) (List.zip (Array.toList (Go.Func.resultTypes f5)) (Array.toList (Go.Func.results f5))) [] [])
def k5_6 (n : Nat) : Ex → St → RR := kBlock (2) (k5_5 n)
def S5_1 (n_ : Net) (i0_ : Int) (es1 : List (List D)) : St := St.mk [U_, V_ [C.ptr 0 0 0 [] 2 0 0], V_ [C.ptr 1 0 0 [] 3 0 0], U_, V_ [C.ptr 4 0 0 [] 3 0 0], U_, I_ i0_, U_, U_, U_, U_, U_, U_, U_, U_, U_, U_, U_, U_, U_, U_, U_, U_, U_, U_, U_, U_, U_, U_, U_, U_, U_, U_, U_, U_, U_, U_, U_, U_, U_, U_, U_, U_, U_, U_, U_, U_, U_, U_, U_, U_, U_, U_, U_, U_, U_, U_] [Root.mk true 2 [En.enc false n_] 0 0 true true false, Root.mk true 3 [[D.sl true 2 [], D.sl true 4 [], D.sl true 3 []]] 0 0 true true false, Root.mk false 2 (enS true (deS Bridge (enS false (Net.Bridges n_)))) 0 0 false true false, Root.mk false 4 (enS true (deS Link (enS false (Net.Links n_)))) 0 0 false true false, Root.mk true 3 [[D.sl true 2 (enS true (deS Bridge (enS false (Net.Bridges n_)))), D.sl true 4 (enS true (deS Link (enS false (Net.Links n_)))), D.sl true 3 es1]] 0 0 true true false]
def B5_1 (n : Nat) : St → (Ex → St → RR) → RR := runCode (Ctx.mk prog Hx (5)) (Table.call T16) n (codeAt [1, 1, 1, 1, 0, 1, 0, 0] (bodyOf f5)) (Lv.mk 86 [(2, 20)] 12)
def X5_7 (n_ : Net) (i0_ : Int) (es1 : List (List D)) : St := St.mk [U_, V_ [C.ptr 0 0 0 [] 2 0 0], V_ [C.ptr 1 0 0 [] 3 0 0], U_, V_ [C.ptr 4 0 0 [] 3 0 0], U_, I_ i0_, U_, U_, U_, U_, U_, U_, U_, U_, U_, U_, U_, U_, U_, U_, U_, U_, U_, U_, U_, U_, U_, U_, U_, U_, U_, U_, U_, U_, U_, U_, U_, I_ i0_, V_ [C.ptr 0 0 0 [] 2 0 0], V_ [C.d (D.sl false 2 (enS false (Net.Bridges n_)))], I_ (ofNat (length (enS false (Net.Bridges n_)))), B_ false, U_, U_, U_, U_, U_, U_, U_, U_, U_, U_, U_, U_, U_, U_] [Root.mk true 2 [En.enc false n_] 0 0 true true false, Root.mk true 3 [[D.sl true 2 [], D.sl true 4 [], D.sl true 3 []]] 0 0 true true false, Root.mk false 2 (enS true (deS Bridge (enS false (Net.Bridges n_)))) 0 0 false true false, Root.mk false 4 (enS true (deS Link (enS false (Net.Links n_)))) 0 0 false true false, Root.mk true 3 [[D.sl true 2 (enS true (deS Bridge (enS false (Net.Bridges n_)))), D.sl true 4 (enS true (deS Link (enS false (Net.Links n_)))), D.sl true 3 es1]] 0 0 true true false]
theorem q5_1 (n_ : Net) (n : Nat) (i0_ : Int) (es1 : List (List D)) (f : St → RR) (K : Ex → St → RR) : B5_1 n (S5_1 n_ i0_ es1) (kThen (fun st ↦ f (St.head 5 86 72057319160021056 st)) K) = bif decide (i0_ < ofNat (length (enS false (Net.Bridges n_)))) then bif decide (0 ≤ i0_) && decide (i0_ < ofNat (length (enS false (Net.Bridges n_)))) then bif Leaf.fit false (Leaf.int i64) (getD (getD (enS false (Net.Bridges n_)) (toNat i0_) []) 0 D.dead) && (Leaf.fit false (Leaf.sl 11 true) (getD (getD (enS false (Net.Bridges n_)) (toNat i0_) []) 1 D.dead) && true) then bif isS Port false (D.rows (getD (getD (enS false (Net.Bridges n_)) (toNat i0_) []) 1 D.dead)) && decide (length (deS Port (D.rows (getD (getD (enS false (Net.Bridges n_)) (toNat i0_) []) 1 D.dead))) ≤ 1048576) then bif decide ((length es1 + 1) * 72 ≤ 140737488355328) then f (S5_1 n_ (wrap i64 (i0_ + 1)) (append es1 [En.enc true (cardB (En.dec (getD (enS false (Net.Bridges n_)) (toNat i0_) [])))])) else none else none else none else none else K (Ex.exit 2) (X5_7 n_ i0_ es1) := by kernel_rfl
theorem aX5_7 (n_ : Net) (n : Nat) (i0_ : Int) (es1 : List (List D)) : k5_6 n (Ex.exit 2) (X5_7 n_ i0_ es1) = some ([[D.sl true 2 (enS true (deS Bridge (enS false (Net.Bridges n_)))), D.sl true 4 (enS true (deS Link (enS false (Net.Links n_)))), D.sl true 3 es1], [D.bool true]], []) := by kernel_rfl
theorem aX5_4 (n_ : Net) (n : Nat) (i0 : Int) : k5_1 n (Ex.exit 0) (X5_4 n_ i0) = loopRun (B5_1 n) 5 86 72057319160021056 n (S5_1 n_ (0) []) (k5_6 n) := by kernel_rfl
theorem r5 (n_ : Net) (n : Nat) : evFn ⟨prog, Hx, 5⟩ T16.call n f5 [[.sl false 2 (enS false n_.Bridges), .sl false 4 (enS false n_.Links)]] = bif isS Bridge false (enS false (Net.Bridges n_)) && isS Link false (enS false (Net.Links n_)) && Net.small (Net.mk (deS Bridge (enS false (Net.Bridges n_))) (deS Link (enS false (Net.Links n_)))) then bif !netOk (Net.mk (deS Bridge (enS false (Net.Bridges n_))) (deS Link (enS false (Net.Links n_)))) then some ([[D.sl true 2 [], D.sl true 4 [], D.sl true 3 []], [D.bool false]], []) else bif isS Bridge false (enS false (Net.Bridges n_)) && isS Link false (enS false (Net.Links n_)) && Net.small (Net.mk (deS Bridge (enS false (Net.Bridges n_))) (deS Link (enS false (Net.Links n_)))) then loopRun (B5_0 n) 5 54 274877890600 n (S5_0 n_ (0)) (k5_1 n) else none else none := by kernel_rfl
theorem m5 (n_ : Net) (hpre : (o5 n_).1 = true) : evFn ⟨Go.Proofs.Try.prog, Hx, 5⟩ T16.call (n_.Links.length + n_.Bridges.length + 1) f5 [[.sl false 2 (enS false n_.Bridges), .sl false 4 (enS false n_.Links)]] = some (o5 n_).2 := by
  refine (r5 n_ _).trans ?_
  show _ = (some ([[.sl true 2 (enS true (fabN n_).Net.Bridges), .sl true 4 (enS true (fabN n_).Net.Links), .sl true 3 (enS true (fabN n_).Cards)], [.bool (hostsB n_)]], []) : Option (List Row × List Row))
  replace hpre : (Net.small n_) = true := hpre
  obtain ⟨hs1, hs2, hs3⟩ := net_small hpre
  show _ = fabT (fabN n_).Net (fabN n_).Cards (hostsB n_)
  refine bif_t (nsm hpre) ?_
  rw [netmk]
  cases hk : netOk n_
  · rw [fabN_no (by unfold hostsB; rw [hk, Bool.and_false])]
    rfl
  refine bif_f rfl (bif_t (by have := nsm hpre; rw [netmk] at this; exact this) ?_)
  have hR : fabT (fabN n_).Net (fabN n_).Cards (hostsB n_) = bif hostsL n_.Links then fabT n_ (n_.Bridges.map cardB) true else fabT ⟨[], []⟩ [] false := by
    cases hl : hostsL n_.Links
    · exact fabN_no (by unfold hostsB; rw [hl, Bool.false_and])
    · exact fabN_yes (by unfold hostsB; rw [hl, hk]; rfl)
  rw [hR]
  refine loop_list (xs := n_.Links) (fun i (_ : Unit) => S5_0 n_ (Int.ofNat i)) (fun _ _ => True) (fun _ _ rest => bif hostsL rest then fabT n_ (n_.Bridges.map cardB) true else fabT ⟨[], []⟩ [] false) ?_ ?_ (n_.Links.length + n_.Bridges.length + 1) () (by omega) trivial
  · rintro _ _ f
    refine (q5_0 n_ _ _ f _).trans ?_
    rw [end_lt, cond_false]
    refine (aX5_4 n_ _ _).trans ?_
    refine loop_list (xs := n_.Bridges) (fun i (cs : List Card) => S5_1 n_ (Int.ofNat i) (enS true cs)) (fun i cs => cs = (n_.Bridges.take i).map cardB) (fun _ _ _ => fabT n_ (n_.Bridges.map cardB) true) ?_ ?_ (n_.Links.length + n_.Bridges.length + 1) [] (by omega) rfl
    · rintro cs rfl f_
      refine (q5_1 n_ _ _ _ f_ _).trans ?_
      rw [end_lt, cond_false]
      refine (aX5_7 n_ _ _ _).trans ?_
      rw [List.take_length, deS_enS, deS_enS]
      rfl
    · rintro i cs hi hcs f_ hf
      have hpl := hs2 _ (List.getElem_mem hi)
      have hcl : cs.length ≤ i := by rw [hcs, List.length_map, List.length_take]; omega
      refine (q5_1 n_ _ _ _ f_ _).trans ?_
      refine bif_t (in_lt false hi) (bif_t (by rw [in_lt false hi, dec_ge]; rfl) (bif_t (by rw [toNat_of, enS_get false hi]; rfl) (bif_t (by rw [toNat_of, enS_get false hi]; show (isS Port false (enS false n_.Bridges[i].Ports) && decide (List.length (deS Port (enS false n_.Bridges[i].Ports)) ≤ 1048576)) = true; rw [isS_enS, deS_enS, decide_eq_true hpl]; rfl) (bif_t (decide_eq_true (by rw [enS_length]; omega)) ?_))))
      rw [toNat_of, enS_get false hi, En.dec_enc, wrap_succ (show i < 4611686018427387904 by omega)]
      refine (congrArg f_ (congrArg (S5_1 n_ _) (enS_snoc true cs (cardB n_.Bridges[i])))).trans ?_
      exact hf _ (by rw [hcs, ← List.take_append_getElem hi, List.map_append]; rfl)
  · rintro i _ hi _ f hf
    refine (q5_0 n_ _ _ f _).trans ?_
    refine bif_t (in_lt false hi) (bif_t (by rw [in_lt false hi, dec_ge]; rfl) (bif_t (by rw [toNat_of, enS_get false hi]; rfl) ?_))
    rw [toNat_of, enS_get false hi, wrap_succ (show i < 4611686018427387904 by omega), hosts_cons]
    cases h1 : n_.Links[i].P == 3
    case true =>
      refine bif_t h1 ?_
      exact aX5_2 n_ _ _
    refine bif_f h1 (bif_t (by rw [in_lt false hi, dec_ge]; rfl) (bif_t rfl ?_))
    cases h2 : n_.Links[i].Q == 3
    case true =>
      refine bif_t h2 ?_
      exact aX5_3 n_ _ _
    refine bif_f h2 ?_
    exact hf () trivial
theorem s5 : SoundAt Go.Proofs.Try.prog Hx 5 c5 := soundAt_of T16_sound mixed func5 (by kernel_rfl) (by
  intro rows r h
  unfold c5 at h
  split at h
  · rename_i n__Bridges n__Links
    obtain ⟨hp, hr⟩ := Prod.mk.inj (Option.some.inj h)
    subst hr
    simp only [Bool.and_eq_true] at hp
    obtain ⟨⟨hs0, hs1⟩, hp⟩ := hp
    obtain ⟨xs0, rfl⟩ := isS_ex hs0
    obtain ⟨xs1, rfl⟩ := isS_ex hs1
    simp only [deS_enS] at hp ⊢
    exact ⟨_, m5 ⟨xs0, xs1⟩ hp⟩
  · cases h)
def T5 : Table := (5, c5) :: T16
theorem T5_sound : Table.Sound Go.Proofs.Try.prog Hx T5 := Table.sound_cons s5 T16_sound
end Go.Ev
end
