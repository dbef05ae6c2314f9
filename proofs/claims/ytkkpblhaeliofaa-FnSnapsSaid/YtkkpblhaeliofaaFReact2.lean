/- Contracts of functions, each by its evaluation. -/
import Derived.Test.YtkkpblhaeliofaaEvMd
import Derived.Test.YtkkpblhaeliofaaProg
import Derived.KernelRfl
import Derived.Test.YtkkpblhaeliofaaFReact3
set_option linter.unusedVariables false
set_option linter.unusedSimpArgs false
set_option maxRecDepth 100000
noncomputable section
open List (getD length drop take set append replicate all isEmpty)
open Int (toNat ofNat)
open Go.IntKind (i64 wrap)
open Go.Proofs.Try (prog f108 f109 f110 f46 f61 f88 f89 f90 func108 func109 func110 func46 func61 func88 func89 func90)
namespace Go.Ev
open Go.RowKit Go.Md
end Go.Ev
namespace Go.Md
open Go Go.Ev
def outRe (c : Bridge) (l : List Out) : Go.Ev.RR := some ([[D.int .i64 c.Id, D.sl true 11 (Go.Ev.enS true c.Ports)], [D.sl true 8 (Go.Ev.enS true l)]], [])
theorem react_no {b : Bridge} {x : In} (h : canB b x = false) : outRe (reactB b x) (reactO b x) = outRe b [] := by unfold reactB reactO; rw [h]; rfl
theorem react_yes {b : Bridge} {x : In} (h : canB b x = true) : outRe (reactB b x) (reactO b x) = outRe (newB b x) (saysM b x) := by unfold reactB reactO; rw [h]; rfl
theorem dec_stepS {R : Type} {b : Bridge} {i : Nat} {p : Port} {ys : List Port} {r : R} (F : List Port → R) (hkeep : decP b i p = p → F ys = r) (hput : ∀ x, decP b i p = x → F (ys.set i x) = r) :
    (bif Int.ofNat i == rootM b then (bif p.Up then F (ys.set i (turnM p 1)) else F ys) else bif p.Has then (bif betterB p.Vec (ownM b (Int.ofNat i)) then (bif p.Up then F (ys.set i (turnM p 3)) else F ys) else (bif p.Up then F (ys.set i (turnM p 2)) else F ys)) else (bif p.Up then F (ys.set i (turnM p 2)) else F ys)) = r := by
  unfold decP roleP at hkeep hput
  cases hu : p.Up
  · rw [hu] at hkeep
    have := hkeep rfl
    cases Int.ofNat i == rootM b <;> cases p.Has <;> cases betterB p.Vec (ownM b (Int.ofNat i)) <;> exact this
  rw [hu] at hput
  cases h1 : (i : Int) == rootM b
  case true =>
    rw [h1] at hput
    exact hput _ rfl
  rw [h1] at hput
  cases h2 : p.Has
  · rw [h2] at hput
    exact hput _ rfl
  rw [h2] at hput
  cases h3 : betterB p.Vec (ownM b (i : Int))
  · rw [h3] at hput
    exact hput _ rfl
  · rw [h3] at hput
    exact hput _ rfl
def portRR (x : Port) : Go.Ev.RR := some ([Go.Ev.En.enc true x], [])
def outB (c : Bridge) : Go.Ev.RR := some ([[D.int .i64 c.Id, D.sl true 11 (Go.Ev.enS true c.Ports)]], [])
theorem inR_idx {i n : Nat} (h : i < n) : inR (Int.ofNat i) 0 (Int.ofNat n - 1) = true := by
  unfold inR
  show (decide ((i : Int) ≥ 0) && decide ((i : Int) ≤ (n : Int) - 1)) = true
  rw [decide_eq_true (show (i : Int) ≥ 0 by omega), decide_eq_true (show (i : Int) ≤ (n : Int) - 1 by omega)]
  rfl
theorem claim_step2 {R : Type} {b : Bridge} {i : Nat} {q : Port} {rest : List Port} {ys : List Out} (F : List (List D) → R) (G : List Out → R) (hf : ∀ zs : List Out, zs.length ≤ ys.length + 1 → F (Go.Ev.enS true zs) = G (zs ++ claimsL b (i + 1) rest)) :
    (bif q.Role == 2 then F (List.append (Go.Ev.enS true ys) [[D.int .i64 1, D.int .i64 (Int.ofNat i), D.int .i64 (ownM b (Int.ofNat i)).Root, D.int .i64 (ownM b (Int.ofNat i)).Cost, D.int .i64 (ownM b (Int.ofNat i)).Bridge, D.int .i64 (ownM b (Int.ofNat i)).Port, D.int .i64 (hopsM b), D.bool false]]) else F (Go.Ev.enS true ys)) = G (ys ++ claimsL b i (q :: rest)) := by
  cases hq : q.Role == 2
  · rw [cond_false, hf ys (Nat.le_succ _)]
    conv => rhs; unfold claimsL
    rw [hq, cond_false]
  · rw [cond_true]
    refine (congrArg F (Go.Ev.enS_snoc true ys (⟨1, (i : Int), ownM b (i : Int), hopsM b, false⟩ : Out))).trans ?_
    rw [hf _ (by rw [List.length_append]; exact Nat.le_refl _), List.append_assoc]
    conv => rhs; unfold claimsL
    rw [hq, cond_true]
    rfl
theorem new_len (b : Bridge) (x : In) : (newB b x).Ports.length = b.Ports.length := by
  unfold newB inM
  cases stillB b x
  · cases x.Kind == 1
    · cases x.Kind == 2
      · show (decideM _).Ports.length = _
        rw [cond_false, cond_false, dec_len, List.length_set]
      · show (decideM _).Ports.length = _
        rw [cond_false, cond_true, dec_len]
        exact List.length_map ..
    · show (decideM _).Ports.length = _
      rw [cond_true, dec_len, List.length_set]
  · rfl
end Go.Md
namespace Go.Ev
open Go.Md
def o46 (b : Bridge) (x : In) : Bool × List Row × List Row := (decide (b.Ports.length ≤ 1048576), [[.int .i64 (reactB b x).Id, .sl true 11 (enS true (reactB b x).Ports)], [.sl true 8 (enS true (reactO b x))]], [])
def c46 : Contract
  | [[.int .i64 b_Id, .sl false 11 b_Ports], [.int .i64 x_Kind, .int .i64 x_Port, .int .i64 x_Vec_Root, .int .i64 x_Vec_Cost, .int .i64 x_Vec_Bridge, .int .i64 x_Vec_Port, .int .i64 x_Hops, .bool x_Up]] => some (isS Port false b_Ports && (o46 ⟨b_Id, (deS Port b_Ports)⟩ ⟨x_Kind, x_Port, ⟨x_Vec_Root, x_Vec_Cost, x_Vec_Bridge, x_Vec_Port⟩, x_Hops, x_Up⟩).1, (o46 ⟨b_Id, (deS Port b_Ports)⟩ ⟨x_Kind, x_Port, ⟨x_Vec_Root, x_Vec_Cost, x_Vec_Bridge, x_Vec_Port⟩, x_Hops, x_Up⟩).2.1, (o46 ⟨b_Id, (deS Port b_Ports)⟩ ⟨x_Kind, x_Port, ⟨x_Vec_Root, x_Vec_Cost, x_Vec_Bridge, x_Vec_Port⟩, x_Hops, x_Up⟩).2.2)
  | _ => none

theorem r46 (b : Bridge) (x : In) (n : Nat) : evFn ⟨prog, Hx, 46⟩ T77.call n f46 [[.int .i64 b.Id, .sl false 11 (enS false b.Ports)], [.int .i64 x.Kind, .int .i64 x.Port, .int .i64 x.Vec.Root, .int .i64 x.Vec.Cost, .int .i64 x.Vec.Bridge, .int .i64 x.Vec.Port, .int .i64 x.Hops, .bool x.Up]] = bif isS Port false (enS false (Bridge.Ports b)) && decide (length (deS Port (enS false (Bridge.Ports b))) ≤ 1048576) then bif !inOk x then some ([[D.int i64 (Bridge.Id b), D.sl true 11 (enS true (deS Port (enS false (Bridge.Ports b))))], [D.sl true 8 []]], []) else bif decide (In.Port x ≥ ofNat (length (enS false (Bridge.Ports b)))) then some ([[D.int i64 (Bridge.Id b), D.sl true 11 (enS true (deS Port (enS false (Bridge.Ports b))))], [D.sl true 8 []]], []) else bif isS Port false (enS false (Bridge.Ports b)) && decide (length (deS Port (enS false (Bridge.Ports b))) ≤ 1048576) then bif !bridgeOk (Bridge.mk (Bridge.Id b) (deS Port (enS false (Bridge.Ports b)))) then some ([[D.int i64 (Bridge.Id b), D.sl true 11 (enS true (deS Port (enS false (Bridge.Ports b))))], [D.sl true 8 []]], []) else bif isS Port true (enS true (deS Port (enS false (Bridge.Ports b)))) && canB (Bridge.mk (Bridge.Id b) (deS Port (enS true (deS Port (enS false (Bridge.Ports b)))))) x then some ([En.enc true (newB (Bridge.mk (Bridge.Id b) (deS Port (enS true (deS Port (enS false (Bridge.Ports b)))))) x), [D.sl true 8 (enS true (saysM (Bridge.mk (Bridge.Id b) (deS Port (enS true (deS Port (enS false (Bridge.Ports b)))))) x))]], []) else none else none else none := by kernel_rfl
theorem m46 (b : Bridge) (x : In) (hpre : (o46 b x).1 = true) : evFn ⟨Go.Proofs.Try.prog, Hx, 46⟩ T77.call 0 f46 [[.int .i64 b.Id, .sl false 11 (enS false b.Ports)], [.int .i64 x.Kind, .int .i64 x.Port, .int .i64 x.Vec.Root, .int .i64 x.Vec.Cost, .int .i64 x.Vec.Bridge, .int .i64 x.Vec.Port, .int .i64 x.Hops, .bool x.Up]] = some (o46 b x).2 := by
  refine (r46 b x _).trans ?_
  show _ = (some ([[.int .i64 (reactB b x).Id, .sl true 11 (enS true (reactB b x).Ports)], [.sl true 8 (enS true (reactO b x))]], []) : Option (List Row × List Row))
  replace hpre : (decide (b.Ports.length ≤ 1048576)) = true := hpre
  have hlen := of_decide_eq_true hpre
  show _ = outRe (reactB b x) (reactO b x)
  simp only [isS_enS, deS_enS, hpre, Bool.and_self, Bool.true_and, cond_true, enS_length, Bridge.eta]
  have e0 : decide (x.Port ≥ Int.ofNat b.Ports.length) = !decide (x.Port < (b.Ports.length : Int)) := ge_not _ _
  rw [e0]
  cases h1 : inOk x
  · rw [react_no (by unfold canB; rw [h1]; rfl)]
    rfl
  cases h2 : decide (x.Port < (b.Ports.length : Int))
  · rw [react_no (by unfold canB; rw [h1, h2]; rfl)]
    rfl
  cases h3 : bridgeOk b
  · rw [react_no (by unfold canB; rw [h1, h2, h3]; rfl)]
    rfl
  have hc : canB b x = true := by unfold canB; rw [h1, h2, h3]; rfl
  rw [react_yes hc, hc]
  rfl
theorem s46 : SoundAt Go.Proofs.Try.prog Hx 46 c46 := soundAt_of T77_sound mixed func46 (by kernel_rfl) (by
  intro rows r h
  unfold c46 at h
  split at h
  · rename_i b_Id b_Ports x_Kind x_Port x_Vec_Root x_Vec_Cost x_Vec_Bridge x_Vec_Port x_Hops x_Up
    obtain ⟨hp, hr⟩ := Prod.mk.inj (Option.some.inj h)
    subst hr
    simp only [Bool.and_eq_true] at hp
    obtain ⟨hs0, hp⟩ := hp
    obtain ⟨xs0, rfl⟩ := isS_ex hs0
    simp only [deS_enS] at hp ⊢
    exact ⟨_, m46 ⟨b_Id, xs0⟩ ⟨x_Kind, x_Port, ⟨x_Vec_Root, x_Vec_Cost, x_Vec_Bridge, x_Vec_Port⟩, x_Hops, x_Up⟩ hp⟩
  · cases h)
def T46 : Table := (46, c46) :: T77
theorem T46_sound : Table.Sound Go.Proofs.Try.prog Hx T46 := Table.sound_cons s46 T77_sound
def o110 (b : Bridge) : Bool × List Row × List Row := (decide (b.Ports.length ≤ 1048576), [[.int .i64 (bif bridgeOk b then rootM b else -1)], [.bool (bridgeOk b && decide (rootM b ≥ 0))]], [])
def c110 : Contract
  | [[.int .i64 b_Id, .sl false 11 b_Ports]] => some (isS Port false b_Ports && (o110 ⟨b_Id, (deS Port b_Ports)⟩).1, (o110 ⟨b_Id, (deS Port b_Ports)⟩).2.1, (o110 ⟨b_Id, (deS Port b_Ports)⟩).2.2)
  | _ => none

def k110_0 (n : Nat) : Ex → St → RR := kThen (fun st ↦ runCode (Ctx.mk prog Hx (110)) (Table.call T46) n (codeAt [1, 1, 1] (bodyOf f110)) (Lv.mk 12 [] 12) st (kLeave (Ctx.P (Ctx.mk prog Hx (110))) (List.zip (Array.toList (Go.Func.resultTypes f110)) (Array.toList (Go.Func.results f110))) [] [])) (kLeave (Ctx.P (Ctx.mk prog Hx (110))) (List.zip (Array.toList (Go.Func.resultTypes f110)) (Array.toList (Go.Func.results f110))) [] [])
def k110_1 (n : Nat) : Ex → St → RR := kBlock (0) (k110_0 n)
def S110_0 (b : Bridge) (i0 : Int) (i1 : Int) : St := St.mk (U_ :: V_ [C.ptr 0 0 0 [] 2 0 0] :: U_ :: U_ :: I_ i1 :: I_ i0 :: u_ 64 []) [Root.mk true 2 [En.enc false b] 0 0 true true false]
def B110_0 (n : Nat) : St → (Ex → St → RR) → RR := runCode (Ctx.mk prog Hx (110)) (Table.call T46) n (codeAt [1, 1, 0, 1, 0, 0] (bodyOf f110)) (Lv.mk 50 [(0, 16)] 12)
def X110_2 (b : Bridge) (i1 : Int) : St := St.mk (u_ 4 (I_ i1 :: u_ 65 [])) [Root.mk true 2 [En.enc false b] 0 0 true true false]
def X110_3 (b : Bridge) (i1 : Int) : St := St.mk (u_ 4 (I_ i1 :: u_ 65 [])) [Root.mk true 2 [En.enc false b] 0 0 true true false]
theorem q110_0 (b : Bridge) (n : Nat) (i0 : Int) (i1 : Int) (f : St → RR) (K : Ex → St → RR) : B110_0 n (S110_0 b i0 i1) (kThen (fun st ↦ f (St.head 1 50 147573952589676412912 st)) K) = bif decide (i0 < ofNat (length (enS false (Bridge.Ports b)))) then bif isS Port false (enS false (Bridge.Ports b)) && decide (length (deS Port (enS false (Bridge.Ports b))) ≤ 1048576) then bif bridgeOk (Bridge.mk (Bridge.Id b) (deS Port (enS false (Bridge.Ports b)))) then bif decide (0 ≤ i0) && decide (i0 < ofNat (length (enS false (Bridge.Ports b)))) then bif Leaf.fit false Leaf.bool (getD (getD (enS false (Bridge.Ports b)) (toNat i0) []) 0 D.dead) && (Leaf.fit false Leaf.bool (getD (getD (enS false (Bridge.Ports b)) (toNat i0) []) 1 D.dead) && (Leaf.fit false (Leaf.int i64) (getD (getD (enS false (Bridge.Ports b)) (toNat i0) []) 2 D.dead) && (Leaf.fit false (Leaf.int i64) (getD (getD (enS false (Bridge.Ports b)) (toNat i0) []) 3 D.dead) && (Leaf.fit false (Leaf.int i64) (getD (getD (enS false (Bridge.Ports b)) (toNat i0) []) 4 D.dead) && (Leaf.fit false (Leaf.int i64) (getD (getD (enS false (Bridge.Ports b)) (toNat i0) []) 5 D.dead) && (Leaf.fit false (Leaf.int i64) (getD (getD (enS false (Bridge.Ports b)) (toNat i0) []) 6 D.dead) && (Leaf.fit false (Leaf.int i64) (getD (getD (enS false (Bridge.Ports b)) (toNat i0) []) 7 D.dead) && (Leaf.fit false (Leaf.int i64) (getD (getD (enS false (Bridge.Ports b)) (toNat i0) []) 8 D.dead) && (Leaf.fit false (Leaf.int i64) (getD (getD (enS false (Bridge.Ports b)) (toNat i0) []) 9 D.dead) && (Leaf.fit false Leaf.bool (getD (getD (enS false (Bridge.Ports b)) (toNat i0) []) 10 D.dead) && true)))))))))) then bif !D.flag (getD (getD (enS false (Bridge.Ports b)) (toNat i0) []) 1 D.dead) then f (S110_0 b (wrap i64 (i0 + 1)) i1) else bif D.num (getD (getD (enS false (Bridge.Ports b)) (toNat i0) []) 4 D.dead) == Bridge.Id b then f (S110_0 b (wrap i64 (i0 + 1)) i1) else bif decide (D.num (getD (getD (enS false (Bridge.Ports b)) (toNat i0) []) 2 D.dead) ≥ Bridge.Id b) then f (S110_0 b (wrap i64 (i0 + 1)) i1) else bif decide (D.num (getD (getD (enS false (Bridge.Ports b)) (toNat i0) []) 3 D.dead) ≥ 20) then f (S110_0 b (wrap i64 (i0 + 1)) i1) else bif decide (D.num (getD (getD (enS false (Bridge.Ports b)) (toNat i0) []) 6 D.dead) ≥ 8) then f (S110_0 b (wrap i64 (i0 + 1)) i1) else bif decide (i1 < 0) then f (S110_0 b (wrap i64 (i0 + 1)) i0) else bif decide (0 ≤ i1) && decide (i1 < ofNat (length (enS false (Bridge.Ports b)))) then bif Leaf.fit false (Leaf.int i64) (getD (drop 2 (getD (enS false (Bridge.Ports b)) (toNat i1) [])) 0 D.dead) && (Leaf.fit false (Leaf.int i64) (getD (drop 2 (getD (enS false (Bridge.Ports b)) (toNat i1) [])) 1 D.dead) && (Leaf.fit false (Leaf.int i64) (getD (drop 2 (getD (enS false (Bridge.Ports b)) (toNat i1) [])) 2 D.dead) && (Leaf.fit false (Leaf.int i64) (getD (drop 2 (getD (enS false (Bridge.Ports b)) (toNat i1) [])) 3 D.dead) && true))) then bif betterB (Vec.mk (D.num (getD (getD (enS false (Bridge.Ports b)) (toNat i0) []) 2 D.dead)) (D.num (getD (getD (enS false (Bridge.Ports b)) (toNat i0) []) 3 D.dead)) (D.num (getD (getD (enS false (Bridge.Ports b)) (toNat i0) []) 4 D.dead)) (D.num (getD (getD (enS false (Bridge.Ports b)) (toNat i0) []) 5 D.dead))) (En.dec (drop 2 (getD (enS false (Bridge.Ports b)) (toNat i1) []))) then f (S110_0 b (wrap i64 (i0 + 1)) i0) else f (S110_0 b (wrap i64 (i0 + 1)) i1) else none else none else none else none else K (Ex.exit 0) (X110_2 b i1) else none else K (Ex.exit 0) (X110_3 b i1) := by kernel_rfl
theorem aX110_2 (b : Bridge) (n : Nat) (i1 : Int) : k110_1 n (Ex.exit 0) (X110_2 b i1) = some ([[D.int i64 i1], [D.bool (decide (i1 ≥ 0))]], []) := by kernel_rfl
theorem aX110_3 (b : Bridge) (n : Nat) (i1 : Int) : k110_1 n (Ex.exit 0) (X110_3 b i1) = some ([[D.int i64 i1], [D.bool (decide (i1 ≥ 0))]], []) := by kernel_rfl
theorem r110 (b : Bridge) (n : Nat) : evFn ⟨prog, Hx, 110⟩ T46.call n f110 [[.int .i64 b.Id, .sl false 11 (enS false b.Ports)]] = loopRun (B110_0 n) 1 50 147573952589676412912 n (S110_0 b (0) (Int.negSucc 0)) (k110_1 n) := by kernel_rfl
theorem l110_st (b : Bridge) (i : Nat) (best : Int) (hlen : b.Ports.length ≤ 1048576) (hk : bridgeOk b = true) (hi : i < b.Ports.length) (h0 : -1 ≤ best) (h1 : best < (b.Ports.length : Int)) (n : Nat) (f : St → RR) (K : Ex → St → RR) : B110_0 n (S110_0 b (Int.ofNat i) best) (kThen (fun st => f (St.head 1 50 147573952589676412912 st)) K) = f (S110_0 b (Int.ofNat (i + 1)) (rootS b.Id b.Ports i b.Ports[i] best)) := by
  have hl2 : decide (b.Ports.length ≤ 1048576) = true := decide_eq_true hlen
  refine (q110_0 b _ _ _ f _).trans ?_
  simp only [isS_enS, deS_enS, Bridge.eta, hl2, hk, enS_length, toNat_of, dec_lt, dec_ge, hi, decide_true, cond_true, Bool.and_self, Nat.zero_add, wrap_succ (show i < 4611686018427387904 by omega), enS_get false hi, ge_not]
  refine bif_t rfl ?_
  refine root_step (id := b.Id) (all := b.Ports) (i := i) (p := b.Ports[i]) (best := best) (fun z => f (S110_0 b (Int.ofNat (i + 1)) z)) ?_
  intro c6
  obtain ⟨k, rfl⟩ := Int.eq_ofNat_of_zero_le (show 0 ≤ best by have := of_decide_eq_false c6; omega)
  have hk : k < b.Ports.length := by omega
  have d1 : decide ((k : Int) < Int.ofNat b.Ports.length) = true := decide_eq_true h1
  rw [c6, Bool.not_false, d1, Int.toNat_natCast, enS_get false hk, bestAt_nat hk]
  rfl
theorem m110 (b : Bridge) (hpre : (o110 b).1 = true) : evFn ⟨Go.Proofs.Try.prog, Hx, 110⟩ T46.call (b.Ports.length + 1) f110 [[.int .i64 b.Id, .sl false 11 (enS false b.Ports)]] = some (o110 b).2 := by
  refine (r110 b _).trans ?_
  show _ = (some ([[.int .i64 (bif bridgeOk b then rootM b else -1)], [.bool (bridgeOk b && decide (rootM b ≥ 0))]], []) : Option (List Row × List Row))
  replace hpre : (decide (b.Ports.length ≤ 1048576)) = true := hpre
  have hlen := of_decide_eq_true hpre
  cases hk : bridgeOk b
  · refine loop_rule (V := Unit) (fun _ => S110_0 b 0 (Int.negSucc 0)) (fun _ => True) (fun _ => 0) (fun _ => _) ?_ (b.Ports.length + 1) () trivial (by omega)
    rintro _ _ f _
    refine (q110_0 b _ _ _ f _).trans ?_
    simp only [isS_enS, deS_enS, hpre, hk, Bool.and_self, cond_true, cond_false, Bridge.eta]
    cases decide (0 < Int.ofNat (enS false b.Ports).length)
    · exact aX110_3 _ _ _
    · exact aX110_2 _ _ _
  show _ = some ([[D.int .i64 (rootL b.Id b.Ports 0 b.Ports (Int.negSucc 0))], [D.bool (decide (rootL b.Id b.Ports 0 b.Ports (Int.negSucc 0) ≥ 0))]], [])
  refine loop_list (xs := b.Ports) (fun i (best : Int) => S110_0 b (Int.ofNat i) best) (fun _ best => -1 ≤ best ∧ best < (b.Ports.length : Int)) (fun i best rest => some ([[D.int .i64 (rootL b.Id b.Ports i rest best)], [D.bool (decide (rootL b.Id b.Ports i rest best ≥ 0))]], [])) ?_ ?_ (b.Ports.length + 1) (Int.negSucc 0) (by omega) ⟨Int.le_refl _, by omega⟩
  · rintro best _ f
    refine (q110_0 b _ _ _ f _).trans ?_
    rw [end_lt, cond_false]
    exact aX110_3 _ _ _
  · rintro i best hi ⟨h0, h1⟩ f hf
    refine (l110_st b i best hlen hk hi h0 h1 _ f _).trans ?_
    exact hf _ (rootS_b (id := b.Id) (p := b.Ports[i]) hi h0 h1)
theorem s110 : SoundAt Go.Proofs.Try.prog Hx 110 c110 := soundAt_of T46_sound mixed func110 (by kernel_rfl) (by
  intro rows r h
  unfold c110 at h
  split at h
  · rename_i b_Id b_Ports
    obtain ⟨hp, hr⟩ := Prod.mk.inj (Option.some.inj h)
    subst hr
    simp only [Bool.and_eq_true] at hp
    obtain ⟨hs0, hp⟩ := hp
    obtain ⟨xs0, rfl⟩ := isS_ex hs0
    simp only [deS_enS] at hp ⊢
    exact ⟨_, m110 ⟨b_Id, xs0⟩ hp⟩
  · cases h)
def T110 : Table := (110, c110) :: T46
theorem T110_sound : Table.Sound Go.Proofs.Try.prog Hx T110 := Table.sound_cons s110 T46_sound
def o89 (b : Bridge) (port : Int) : Bool × List Row × List Row := (decide (b.Ports.length ≤ 1048576), [[.int .i64 (bif bridgeOk b && inR port 0 ((b.Ports.length : Int) - 1) then ownM b port else noVec).Root, .int .i64 (bif bridgeOk b && inR port 0 ((b.Ports.length : Int) - 1) then ownM b port else noVec).Cost, .int .i64 (bif bridgeOk b && inR port 0 ((b.Ports.length : Int) - 1) then ownM b port else noVec).Bridge, .int .i64 (bif bridgeOk b && inR port 0 ((b.Ports.length : Int) - 1) then ownM b port else noVec).Port]], [])
def c89 : Contract
  | [[.int .i64 b_Id, .sl false 11 b_Ports], [.int .i64 port]] => some (isS Port false b_Ports && (o89 ⟨b_Id, (deS Port b_Ports)⟩ port).1, (o89 ⟨b_Id, (deS Port b_Ports)⟩ port).2.1, (o89 ⟨b_Id, (deS Port b_Ports)⟩ port).2.2)
  | _ => none

theorem r89 (b : Bridge) (port : Int) (n : Nat) : evFn ⟨prog, Hx, 89⟩ T110.call n f89 [[.int .i64 b.Id, .sl false 11 (enS false b.Ports)], [.int .i64 port]] = bif isS Port false (enS false (Bridge.Ports b)) && decide (length (deS Port (enS false (Bridge.Ports b))) ≤ 1048576) then bif !bridgeOk (Bridge.mk (Bridge.Id b) (deS Port (enS false (Bridge.Ports b)))) then some ([[D.int i64 (0), D.int i64 (0), D.int i64 (0), D.int i64 (0)]], []) else bif !inR port (0) (wrap i64 (ofNat (length (enS false (Bridge.Ports b))) - 1)) then some ([[D.int i64 (0), D.int i64 (0), D.int i64 (0), D.int i64 (0)]], []) else bif isS Port false (enS false (Bridge.Ports b)) && decide (length (deS Port (enS false (Bridge.Ports b))) ≤ 1048576) then bif !(bridgeOk (Bridge.mk (Bridge.Id b) (deS Port (enS false (Bridge.Ports b)))) && decide (rootM (Bridge.mk (Bridge.Id b) (deS Port (enS false (Bridge.Ports b)))) ≥ 0)) then some ([[D.int i64 (Bridge.Id b), D.int i64 (0), D.int i64 (Bridge.Id b), D.int i64 port]], []) else bif decide (0 ≤ bif bridgeOk (Bridge.mk (Bridge.Id b) (deS Port (enS false (Bridge.Ports b)))) then rootM (Bridge.mk (Bridge.Id b) (deS Port (enS false (Bridge.Ports b)))) else Int.negSucc 0) && decide ((bif bridgeOk (Bridge.mk (Bridge.Id b) (deS Port (enS false (Bridge.Ports b)))) then rootM (Bridge.mk (Bridge.Id b) (deS Port (enS false (Bridge.Ports b)))) else Int.negSucc 0) < ofNat (length (enS false (Bridge.Ports b)))) then bif Leaf.fit false (Leaf.int i64) (getD (drop 2 (getD (enS false (Bridge.Ports b)) (toNat (bif bridgeOk (Bridge.mk (Bridge.Id b) (deS Port (enS false (Bridge.Ports b)))) then rootM (Bridge.mk (Bridge.Id b) (deS Port (enS false (Bridge.Ports b)))) else Int.negSucc 0)) [])) 0 D.dead) && (Leaf.fit false (Leaf.int i64) (getD (drop 2 (getD (enS false (Bridge.Ports b)) (toNat (bif bridgeOk (Bridge.mk (Bridge.Id b) (deS Port (enS false (Bridge.Ports b)))) then rootM (Bridge.mk (Bridge.Id b) (deS Port (enS false (Bridge.Ports b)))) else Int.negSucc 0)) [])) 1 D.dead) && (Leaf.fit false (Leaf.int i64) (getD (drop 2 (getD (enS false (Bridge.Ports b)) (toNat (bif bridgeOk (Bridge.mk (Bridge.Id b) (deS Port (enS false (Bridge.Ports b)))) then rootM (Bridge.mk (Bridge.Id b) (deS Port (enS false (Bridge.Ports b)))) else Int.negSucc 0)) [])) 2 D.dead) && (Leaf.fit false (Leaf.int i64) (getD (drop 2 (getD (enS false (Bridge.Ports b)) (toNat (bif bridgeOk (Bridge.mk (Bridge.Id b) (deS Port (enS false (Bridge.Ports b)))) then rootM (Bridge.mk (Bridge.Id b) (deS Port (enS false (Bridge.Ports b)))) else Int.negSucc 0)) [])) 3 D.dead) && true))) then some ([[D.int i64 (D.num (getD (drop 2 (getD (enS false (Bridge.Ports b)) (toNat (bif bridgeOk (Bridge.mk (Bridge.Id b) (deS Port (enS false (Bridge.Ports b)))) then rootM (Bridge.mk (Bridge.Id b) (deS Port (enS false (Bridge.Ports b)))) else Int.negSucc 0)) [])) 0 D.dead)), D.int i64 (wrap i64 (D.num (getD (drop 2 (getD (enS false (Bridge.Ports b)) (toNat (bif bridgeOk (Bridge.mk (Bridge.Id b) (deS Port (enS false (Bridge.Ports b)))) then rootM (Bridge.mk (Bridge.Id b) (deS Port (enS false (Bridge.Ports b)))) else Int.negSucc 0)) [])) 1 D.dead) + 1)), D.int i64 (Bridge.Id b), D.int i64 port]], []) else none else none else none else none := by kernel_rfl
theorem m89 (b : Bridge) (port : Int) (hpre : (o89 b port).1 = true) : evFn ⟨Go.Proofs.Try.prog, Hx, 89⟩ T110.call 0 f89 [[.int .i64 b.Id, .sl false 11 (enS false b.Ports)], [.int .i64 port]] = some (o89 b port).2 := by
  refine (r89 b port _).trans ?_
  show _ = (some ([[.int .i64 (bif bridgeOk b && inR port 0 ((b.Ports.length : Int) - 1) then ownM b port else noVec).Root, .int .i64 (bif bridgeOk b && inR port 0 ((b.Ports.length : Int) - 1) then ownM b port else noVec).Cost, .int .i64 (bif bridgeOk b && inR port 0 ((b.Ports.length : Int) - 1) then ownM b port else noVec).Bridge, .int .i64 (bif bridgeOk b && inR port 0 ((b.Ports.length : Int) - 1) then ownM b port else noVec).Port]], []) : Option (List Row × List Row))
  replace hpre : (decide (b.Ports.length ≤ 1048576)) = true := hpre
  have hb := rootM_b b
  have hlen := of_decide_eq_true hpre
  simp only [isS_enS, deS_enS, hpre, Bool.and_self, cond_true, Bridge.eta, enS_length, ge_not]
  have hw : IntKind.wrap IntKind.i64 (Int.ofNat b.Ports.length - 1) = (b.Ports.length : Int) - 1 := wrap_sm (by show _ ≤ (b.Ports.length : Int) - 1; omega) (by show (b.Ports.length : Int) - 1 ≤ _; omega)
  rw [hw]
  cases hk : bridgeOk b
  · rfl
  cases hr : inR port 0 ((b.Ports.length : Int) - 1)
  · rfl
  simp only [Bool.not_true, Bool.true_and, Bool.and_self, cond_false, cond_true]
  unfold ownM
  cases c6 : decide (rootM b < 0)
  case true => rfl
  obtain ⟨k, hkk⟩ := Int.eq_ofNat_of_zero_le (show 0 ≤ rootM b by have := of_decide_eq_false c6; omega)
  have hkl : k < b.Ports.length := by omega
  have hv := bestAt_nat hkl
  have d1 : decide ((k : Int) < Int.ofNat b.Ports.length) = true := decide_eq_true (show (k : Int) < (b.Ports.length : Int) by omega)
  have d0 : decide (0 ≤ (k : Int)) = true := decide_eq_true (Int.natCast_nonneg k)
  simp only [hkk, d0, d1, Bool.not_false, Bool.not_true, Bool.and_self, cond_true, cond_false, Int.toNat_natCast, enS_get false hkl, hv]
  rfl
theorem s89 : SoundAt Go.Proofs.Try.prog Hx 89 c89 := soundAt_of T110_sound mixed func89 (by kernel_rfl) (by
  intro rows r h
  unfold c89 at h
  split at h
  · rename_i b_Id b_Ports port
    obtain ⟨hp, hr⟩ := Prod.mk.inj (Option.some.inj h)
    subst hr
    simp only [Bool.and_eq_true] at hp
    obtain ⟨hs0, hp⟩ := hp
    obtain ⟨xs0, rfl⟩ := isS_ex hs0
    simp only [deS_enS] at hp ⊢
    exact ⟨_, m89 ⟨b_Id, xs0⟩ port hp⟩
  · cases h)
def T89 : Table := (89, c89) :: T110
theorem T89_sound : Table.Sound Go.Proofs.Try.prog Hx T89 := Table.sound_cons s89 T110_sound
def o90 (b : Bridge) : Bool × List Row × List Row := (decide (b.Ports.length ≤ 1048576), [[.int .i64 (bif bridgeOk b then hopsM b else 0)]], [])
def c90 : Contract
  | [[.int .i64 b_Id, .sl false 11 b_Ports]] => some (isS Port false b_Ports && (o90 ⟨b_Id, (deS Port b_Ports)⟩).1, (o90 ⟨b_Id, (deS Port b_Ports)⟩).2.1, (o90 ⟨b_Id, (deS Port b_Ports)⟩).2.2)
  | _ => none

theorem r90 (b : Bridge) (n : Nat) : evFn ⟨prog, Hx, 90⟩ T89.call n f90 [[.int .i64 b.Id, .sl false 11 (enS false b.Ports)]] = bif isS Port false (enS false (Bridge.Ports b)) && decide (length (deS Port (enS false (Bridge.Ports b))) ≤ 1048576) then bif !(bridgeOk (Bridge.mk (Bridge.Id b) (deS Port (enS false (Bridge.Ports b)))) && decide (rootM (Bridge.mk (Bridge.Id b) (deS Port (enS false (Bridge.Ports b)))) ≥ 0)) then some ([[D.int i64 (0)]], []) else bif decide (0 ≤ bif bridgeOk (Bridge.mk (Bridge.Id b) (deS Port (enS false (Bridge.Ports b)))) then rootM (Bridge.mk (Bridge.Id b) (deS Port (enS false (Bridge.Ports b)))) else Int.negSucc 0) && decide ((bif bridgeOk (Bridge.mk (Bridge.Id b) (deS Port (enS false (Bridge.Ports b)))) then rootM (Bridge.mk (Bridge.Id b) (deS Port (enS false (Bridge.Ports b)))) else Int.negSucc 0) < ofNat (length (enS false (Bridge.Ports b)))) then bif Leaf.fit false (Leaf.int i64) (getD (drop 6 (getD (enS false (Bridge.Ports b)) (toNat (bif bridgeOk (Bridge.mk (Bridge.Id b) (deS Port (enS false (Bridge.Ports b)))) then rootM (Bridge.mk (Bridge.Id b) (deS Port (enS false (Bridge.Ports b)))) else Int.negSucc 0)) [])) 0 D.dead) && true then some ([[D.int i64 (wrap i64 (D.num (getD (drop 6 (getD (enS false (Bridge.Ports b)) (toNat (bif bridgeOk (Bridge.mk (Bridge.Id b) (deS Port (enS false (Bridge.Ports b)))) then rootM (Bridge.mk (Bridge.Id b) (deS Port (enS false (Bridge.Ports b)))) else Int.negSucc 0)) [])) 0 D.dead) + 1))]], []) else none else none else none := by kernel_rfl
theorem m90 (b : Bridge) (hpre : (o90 b).1 = true) : evFn ⟨Go.Proofs.Try.prog, Hx, 90⟩ T89.call 0 f90 [[.int .i64 b.Id, .sl false 11 (enS false b.Ports)]] = some (o90 b).2 := by
  refine (r90 b _).trans ?_
  show _ = (some ([[.int .i64 (bif bridgeOk b then hopsM b else 0)]], []) : Option (List Row × List Row))
  replace hpre : (decide (b.Ports.length ≤ 1048576)) = true := hpre
  have hb := rootM_b b
  simp only [isS_enS, deS_enS, hpre, Bool.and_self, cond_true, Bridge.eta, enS_length, ge_not]
  cases hk : bridgeOk b
  · rfl
  simp only [Bool.true_and, cond_true]
  unfold hopsM
  cases c6 : decide (rootM b < 0)
  case true => rfl
  obtain ⟨k, hkk⟩ := Int.eq_ofNat_of_zero_le (show 0 ≤ rootM b by have := of_decide_eq_false c6; omega)
  have hkl : k < b.Ports.length := by omega
  have hv : (b.Ports.getD k port0) = b.Ports[k] := by
    rw [List.getD_eq_getElem?_getD, List.getElem?_eq_getElem hkl]
    rfl
  have d1 : decide ((k : Int) < Int.ofNat b.Ports.length) = true := decide_eq_true (show (k : Int) < (b.Ports.length : Int) by omega)
  have d0 : decide (0 ≤ (k : Int)) = true := decide_eq_true (Int.natCast_nonneg k)
  simp only [hkk, d0, d1, Bool.not_false, Bool.not_true, Bool.and_self, cond_true, cond_false, Int.toNat_natCast, enS_get false hkl, hv]
  rfl
theorem s90 : SoundAt Go.Proofs.Try.prog Hx 90 c90 := soundAt_of T89_sound mixed func90 (by kernel_rfl) (by
  intro rows r h
  unfold c90 at h
  split at h
  · rename_i b_Id b_Ports
    obtain ⟨hp, hr⟩ := Prod.mk.inj (Option.some.inj h)
    subst hr
    simp only [Bool.and_eq_true] at hp
    obtain ⟨hs0, hp⟩ := hp
    obtain ⟨xs0, rfl⟩ := isS_ex hs0
    simp only [deS_enS] at hp ⊢
    exact ⟨_, m90 ⟨b_Id, xs0⟩ hp⟩
  · cases h)
def T90 : Table := (90, c90) :: T89
theorem T90_sound : Table.Sound Go.Proofs.Try.prog Hx T90 := Table.sound_cons s90 T89_sound
def o109 (b : Bridge) : Bool × List Row × List Row := (decide (b.Ports.length ≤ 1048576), [[.int .i64 (bif bridgeOk b then decideM b else b).Id, .sl true 11 (enS true (bif bridgeOk b then decideM b else b).Ports)]], [])
def c109 : Contract
  | [[.int .i64 b_Id, .sl false 11 b_Ports]] => some (isS Port false b_Ports && (o109 ⟨b_Id, (deS Port b_Ports)⟩).1, (o109 ⟨b_Id, (deS Port b_Ports)⟩).2.1, (o109 ⟨b_Id, (deS Port b_Ports)⟩).2.2)
  | _ => none

def k109_0 (n : Nat) : Ex → St → RR := kThen (fun st ↦ runCode (Ctx.mk prog Hx (109)) (Table.call T90) n (codeAt [1, 1, 1, 1, 1] (bodyOf f109)) (Lv.mk 4 [] 4) st (kLeave (Ctx.P (Ctx.mk prog Hx (109))) (List.zip (Array.toList (Go.Func.resultTypes f109)) (Array.toList (Go.Func.results f109))) [] [])) (kLeave (Ctx.P (Ctx.mk prog Hx (109))) (List.zip (Array.toList (Go.Func.resultTypes f109)) (Array.toList (Go.Func.results f109))) [] [])
def k109_1 (n : Nat) : Ex → St → RR := kBlock (0) (k109_0 n)
def S109_0 (b : Bridge) (i0 : Int) (es1 : List (List D)) : St := St.mk (U_ :: V_ [C.ptr 0 0 0 [] 2 0 0] :: V_ [C.ptr 1 0 0 [] 2 0 0] :: V_ [C.ptr 3 0 0 [] 2 0 0] :: I_ (bif bridgeOk (Bridge.mk (Bridge.Id b) (deS Port (enS false (Bridge.Ports b)))) then rootM (Bridge.mk (Bridge.Id b) (deS Port (enS false (Bridge.Ports b)))) else Int.negSucc 0) :: U_ :: I_ i0 :: u_ 48 []) [Root.mk true 2 [En.enc false b] 0 0 true true false, Root.mk true 2 [[D.int i64 (0), D.sl true 11 []]] 0 0 true true false, Root.mk false 11 (enS true (deS Port (enS false (Bridge.Ports b)))) 0 0 false true false, Root.mk true 2 [[D.int i64 (Bridge.Id b), D.sl true 11 es1]] 0 0 true true false]
def B109_0 (n : Nat) : St → (Ex → St → RR) → RR := runCode (Ctx.mk prog Hx (109)) (Table.call T90) n (codeAt [1, 1, 1, 1, 0, 1, 0, 0] (bodyOf f109)) (Lv.mk 94 [(0, 12)] 4)
def X109_2 (b : Bridge) (es1 : List (List D)) : St := St.mk (U_ :: U_ :: V_ [C.ptr 1 0 0 [] 2 0 0] :: V_ [C.ptr 3 0 0 [] 2 0 0] :: u_ 51 []) [Root.mk true 2 [En.enc false b] 0 0 true true false, Root.mk true 2 [[D.int i64 (0), D.sl true 11 []]] 0 0 true true false, Root.mk false 11 (enS true (deS Port (enS false (Bridge.Ports b)))) 0 0 false true false, Root.mk true 2 [[D.int i64 (Bridge.Id b), D.sl true 11 es1]] 0 0 true true false]
theorem q109_0 (b : Bridge) (n : Nat) (i0 : Int) (es1 : List (List D)) (f : St → RR) (K : Ex → St → RR) : B109_0 n (S109_0 b i0 es1) (kThen (fun st ↦ f (St.head 4 94 18014398508433856 st)) K) = bif decide (i0 < ofNat (length (enS false (Bridge.Ports b)))) then bif decide (0 ≤ i0) && decide (i0 < ofNat (length (enS false (Bridge.Ports b)))) then bif Leaf.fit false Leaf.bool (getD (getD (enS false (Bridge.Ports b)) (toNat i0) []) 0 D.dead) && (Leaf.fit false Leaf.bool (getD (getD (enS false (Bridge.Ports b)) (toNat i0) []) 1 D.dead) && (Leaf.fit false (Leaf.int i64) (getD (getD (enS false (Bridge.Ports b)) (toNat i0) []) 2 D.dead) && (Leaf.fit false (Leaf.int i64) (getD (getD (enS false (Bridge.Ports b)) (toNat i0) []) 3 D.dead) && (Leaf.fit false (Leaf.int i64) (getD (getD (enS false (Bridge.Ports b)) (toNat i0) []) 4 D.dead) && (Leaf.fit false (Leaf.int i64) (getD (getD (enS false (Bridge.Ports b)) (toNat i0) []) 5 D.dead) && (Leaf.fit false (Leaf.int i64) (getD (getD (enS false (Bridge.Ports b)) (toNat i0) []) 6 D.dead) && (Leaf.fit false (Leaf.int i64) (getD (getD (enS false (Bridge.Ports b)) (toNat i0) []) 7 D.dead) && (Leaf.fit false (Leaf.int i64) (getD (getD (enS false (Bridge.Ports b)) (toNat i0) []) 8 D.dead) && (Leaf.fit false (Leaf.int i64) (getD (getD (enS false (Bridge.Ports b)) (toNat i0) []) 9 D.dead) && (Leaf.fit false Leaf.bool (getD (getD (enS false (Bridge.Ports b)) (toNat i0) []) 10 D.dead) && true)))))))))) then bif i0 == bif bridgeOk (Bridge.mk (Bridge.Id b) (deS Port (enS false (Bridge.Ports b)))) then rootM (Bridge.mk (Bridge.Id b) (deS Port (enS false (Bridge.Ports b)))) else Int.negSucc 0 then bif D.flag (getD (getD (enS false (Bridge.Ports b)) (toNat i0) []) 0 D.dead) then bif decide (0 ≤ i0) && decide (i0 < ofNat (length es1)) then f (S109_0 b (wrap i64 (i0 + 1)) (set es1 (0 + toNat i0) (En.enc true (turnM (En.dec (getD (enS false (Bridge.Ports b)) (toNat i0) [])) (1))))) else none else f (S109_0 b (wrap i64 (i0 + 1)) es1) else bif D.flag (getD (getD (enS false (Bridge.Ports b)) (toNat i0) []) 1 D.dead) then bif isS Port false (enS false (Bridge.Ports b)) && decide (length (deS Port (enS false (Bridge.Ports b))) ≤ 1048576) then bif betterB (Vec.mk (D.num (getD (getD (enS false (Bridge.Ports b)) (toNat i0) []) 2 D.dead)) (D.num (getD (getD (enS false (Bridge.Ports b)) (toNat i0) []) 3 D.dead)) (D.num (getD (getD (enS false (Bridge.Ports b)) (toNat i0) []) 4 D.dead)) (D.num (getD (getD (enS false (Bridge.Ports b)) (toNat i0) []) 5 D.dead))) (bif bridgeOk (Bridge.mk (Bridge.Id b) (deS Port (enS false (Bridge.Ports b)))) && inR i0 (0) (ofNat (length (deS Port (enS false (Bridge.Ports b)))) - 1) then ownM (Bridge.mk (Bridge.Id b) (deS Port (enS false (Bridge.Ports b)))) i0 else noVec) then bif D.flag (getD (getD (enS false (Bridge.Ports b)) (toNat i0) []) 0 D.dead) then bif decide (0 ≤ i0) && decide (i0 < ofNat (length es1)) then f (S109_0 b (wrap i64 (i0 + 1)) (set es1 (0 + toNat i0) (En.enc true (turnM (En.dec (getD (enS false (Bridge.Ports b)) (toNat i0) [])) (3))))) else none else f (S109_0 b (wrap i64 (i0 + 1)) es1) else bif D.flag (getD (getD (enS false (Bridge.Ports b)) (toNat i0) []) 0 D.dead) then bif decide (0 ≤ i0) && decide (i0 < ofNat (length es1)) then f (S109_0 b (wrap i64 (i0 + 1)) (set es1 (0 + toNat i0) (En.enc true (turnM (En.dec (getD (enS false (Bridge.Ports b)) (toNat i0) [])) (2))))) else none else f (S109_0 b (wrap i64 (i0 + 1)) es1) else none else bif D.flag (getD (getD (enS false (Bridge.Ports b)) (toNat i0) []) 0 D.dead) then bif decide (0 ≤ i0) && decide (i0 < ofNat (length es1)) then f (S109_0 b (wrap i64 (i0 + 1)) (set es1 (0 + toNat i0) (En.enc true (turnM (En.dec (getD (enS false (Bridge.Ports b)) (toNat i0) [])) (2))))) else none else f (S109_0 b (wrap i64 (i0 + 1)) es1) else none else none else K (Ex.exit 0) (X109_2 b es1) := by kernel_rfl
theorem aX109_2 (b : Bridge) (n : Nat) (es1 : List (List D)) : k109_1 n (Ex.exit 0) (X109_2 b es1) = some ([[D.int i64 (Bridge.Id b), D.sl true 11 es1]], []) := by kernel_rfl
theorem r109 (b : Bridge) (n : Nat) : evFn ⟨prog, Hx, 109⟩ T90.call n f109 [[.int .i64 b.Id, .sl false 11 (enS false b.Ports)]] = bif isS Port false (enS false (Bridge.Ports b)) && decide (length (deS Port (enS false (Bridge.Ports b))) ≤ 1048576) then bif isS Port false (enS false (Bridge.Ports b)) && decide (length (deS Port (enS false (Bridge.Ports b))) ≤ 1048576) then bif !bridgeOk (Bridge.mk (Bridge.Id b) (deS Port (enS false (Bridge.Ports b)))) then some ([[D.int i64 (Bridge.Id b), D.sl true 11 (enS true (deS Port (enS false (Bridge.Ports b))))]], []) else bif isS Port false (enS false (Bridge.Ports b)) && decide (length (deS Port (enS false (Bridge.Ports b))) ≤ 1048576) then loopRun (B109_0 n) 4 94 18014398508433856 n (S109_0 b (0) (enS true (deS Port (enS false (Bridge.Ports b))))) (k109_1 n) else none else none else none := by kernel_rfl
theorem m109 (b : Bridge) (hpre : (o109 b).1 = true) : evFn ⟨Go.Proofs.Try.prog, Hx, 109⟩ T90.call (b.Ports.length + 1) f109 [[.int .i64 b.Id, .sl false 11 (enS false b.Ports)]] = some (o109 b).2 := by
  refine (r109 b _).trans ?_
  show _ = (some ([[.int .i64 (bif bridgeOk b then decideM b else b).Id, .sl true 11 (enS true (bif bridgeOk b then decideM b else b).Ports)]], []) : Option (List Row × List Row))
  replace hpre : (decide (b.Ports.length ≤ 1048576)) = true := hpre
  have hlen := of_decide_eq_true hpre
  simp only [isS_enS, deS_enS, hpre, Bool.and_self, cond_true, Bridge.eta]
  cases hk : bridgeOk b
  · rfl
  simp only [Bool.not_true, cond_false, cond_true]
  show _ = outB (decideM b)
  have hT : (decL b 0 b.Ports).length = b.Ports.length := decL_len b b.Ports 0
  refine loop_list (xs := b.Ports) (fun i (ys : List Port) => S109_0 b (Int.ofNat i) (enS true ys)) (fun i ys => ys = (decL b 0 b.Ports).take i ++ b.Ports.drop i) (fun _ _ _ => outB (decideM b)) ?_ ?_ (b.Ports.length + 1) b.Ports (by omega) (by simp)
  · rintro ys rfl f
    refine (q109_0 b _ _ _ f _).trans ?_
    rw [end_lt, cond_false]
    refine (aX109_2 _ _ _).trans ?_
    rw [List.drop_length, List.append_nil, ← hT, List.take_length]
    rfl
  · rintro i ys hi hys f hf
    have hyl : ys.length = b.Ports.length := by rw [hys]; exact mix_len hT i
    have hy : i < ys.length := by omega
    have hg := decL_get b b.Ports 0 i hi
    rw [Nat.zero_add] at hg
    refine (q109_0 b _ _ _ f _).trans ?_
    simp only [enS_length, toNat_of, dec_lt, dec_ge, hi, decide_true, cond_true, Bool.and_self, Nat.zero_add, wrap_succ (show i < 4611686018427387904 by omega), isS_enS, deS_enS, hpre, hk, hyl, enS_get false hi, En.dec_enc, enS_set, Bridge.eta, inR_idx hi]
    refine bif_t rfl ?_
    exact dec_stepS (b := b) (i := i) (p := b.Ports[i]) (ys := ys) (fun zs => f (S109_0 b (Int.ofNat (i + 1)) (enS true zs))) (fun e => hf ys (by rw [hys]; exact mix_keep hT hi (by rw [hg, e]))) (fun x e => hf (ys.set i x) (by rw [hys]; exact mix_set hT hi (by rw [hg, e])))
theorem s109 : SoundAt Go.Proofs.Try.prog Hx 109 c109 := soundAt_of T90_sound mixed func109 (by kernel_rfl) (by
  intro rows r h
  unfold c109 at h
  split at h
  · rename_i b_Id b_Ports
    obtain ⟨hp, hr⟩ := Prod.mk.inj (Option.some.inj h)
    subst hr
    simp only [Bool.and_eq_true] at hp
    obtain ⟨hs0, hp⟩ := hp
    obtain ⟨xs0, rfl⟩ := isS_ex hs0
    simp only [deS_enS] at hp ⊢
    exact ⟨_, m109 ⟨b_Id, xs0⟩ hp⟩
  · cases h)
def T109 : Table := (109, c109) :: T90
theorem T109_sound : Table.Sound Go.Proofs.Try.prog Hx T109 := Table.sound_cons s109 T90_sound
def o108 (p : Port) : Bool × List Row × List Row := (portOk p, [[.bool (l8tickP p).Up, .bool (l8tickP p).Has, .int .i64 (l8tickP p).Vec.Root, .int .i64 (l8tickP p).Vec.Cost, .int .i64 (l8tickP p).Vec.Bridge, .int .i64 (l8tickP p).Vec.Port, .int .i64 (l8tickP p).Hops, .int .i64 (l8tickP p).Left, .int .i64 (l8tickP p).Role, .int .i64 (l8tickP p).Wait, .bool (l8tickP p).Open]], [])
def c108 : Contract
  | [[.bool p_Up, .bool p_Has, .int .i64 p_Vec_Root, .int .i64 p_Vec_Cost, .int .i64 p_Vec_Bridge, .int .i64 p_Vec_Port, .int .i64 p_Hops, .int .i64 p_Left, .int .i64 p_Role, .int .i64 p_Wait, .bool p_Open]] => some ((o108 ⟨p_Up, p_Has, ⟨p_Vec_Root, p_Vec_Cost, p_Vec_Bridge, p_Vec_Port⟩, p_Hops, p_Left, p_Role, p_Wait, p_Open⟩).1, (o108 ⟨p_Up, p_Has, ⟨p_Vec_Root, p_Vec_Cost, p_Vec_Bridge, p_Vec_Port⟩, p_Hops, p_Left, p_Role, p_Wait, p_Open⟩).2.1, (o108 ⟨p_Up, p_Has, ⟨p_Vec_Root, p_Vec_Cost, p_Vec_Bridge, p_Vec_Port⟩, p_Hops, p_Left, p_Role, p_Wait, p_Open⟩).2.2)
  | _ => none

theorem r108 (p : Port) (n : Nat) : evFn ⟨prog, Hx, 108⟩ T109.call n f108 [[.bool p.Up, .bool p.Has, .int .i64 p.Vec.Root, .int .i64 p.Vec.Cost, .int .i64 p.Vec.Bridge, .int .i64 p.Vec.Port, .int .i64 p.Hops, .int .i64 p.Left, .int .i64 p.Role, .int .i64 p.Wait, .bool p.Open]] = bif Port.Role (fadeM p) == 1 then bif decide (Port.Wait (fadeM p) > 0) then some ([En.enc true (openP (Port.mk (Port.Up (fadeM p)) (Port.Has (fadeM p)) (Port.Vec (fadeM p)) (Port.Hops (fadeM p)) (Port.Left (fadeM p)) (Port.Role (fadeM p)) (wrap i64 (Port.Wait (fadeM p) - 1)) (Port.Open (fadeM p))))], []) else some ([En.enc true (openP (fadeM p))], []) else bif Port.Role (fadeM p) == 2 then bif decide (Port.Wait (fadeM p) > 0) then some ([En.enc true (openP (Port.mk (Port.Up (fadeM p)) (Port.Has (fadeM p)) (Port.Vec (fadeM p)) (Port.Hops (fadeM p)) (Port.Left (fadeM p)) (Port.Role (fadeM p)) (wrap i64 (Port.Wait (fadeM p) - 1)) (Port.Open (fadeM p))))], []) else some ([En.enc true (openP (fadeM p))], []) else some ([En.enc true (openP (fadeM p))], []) := by kernel_rfl
theorem m108 (p : Port) (hpre : (o108 p).1 = true) : evFn ⟨Go.Proofs.Try.prog, Hx, 108⟩ T109.call 0 f108 [[.bool p.Up, .bool p.Has, .int .i64 p.Vec.Root, .int .i64 p.Vec.Cost, .int .i64 p.Vec.Bridge, .int .i64 p.Vec.Port, .int .i64 p.Hops, .int .i64 p.Left, .int .i64 p.Role, .int .i64 p.Wait, .bool p.Open]] = some (o108 p).2 := by
  refine (r108 p _).trans ?_
  show _ = (some ([[.bool (l8tickP p).Up, .bool (l8tickP p).Has, .int .i64 (l8tickP p).Vec.Root, .int .i64 (l8tickP p).Vec.Cost, .int .i64 (l8tickP p).Vec.Bridge, .int .i64 (l8tickP p).Vec.Port, .int .i64 (l8tickP p).Hops, .int .i64 (l8tickP p).Left, .int .i64 (l8tickP p).Role, .int .i64 (l8tickP p).Wait, .bool (l8tickP p).Open]], []) : Option (List Row × List Row))
  replace hpre : (portOk p) = true := hpre
  have hw := wait_b (fade_ok hpre)
  show _ = portRR (l8tickP p)
  unfold l8tickP waitP
  have w : IntKind.wrap IntKind.i64 ((fadeM p).Wait - 1) = (fadeM p).Wait - 1 := wrap_sm (by omega) (by omega)
  rw [w]
  cases (fadeM p).Role == 1
  · cases (fadeM p).Role == 2
    · rfl
    · cases decide ((fadeM p).Wait > 0) <;> rfl
  · cases decide ((fadeM p).Wait > 0) <;> rfl
theorem s108 : SoundAt Go.Proofs.Try.prog Hx 108 c108 := soundAt_of T109_sound mixed func108 (by kernel_rfl) (by
  intro rows r h
  unfold c108 at h
  split at h
  · rename_i p_Up p_Has p_Vec_Root p_Vec_Cost p_Vec_Bridge p_Vec_Port p_Hops p_Left p_Role p_Wait p_Open
    obtain ⟨hp, hr⟩ := Prod.mk.inj (Option.some.inj h)
    subst hr
    exact ⟨_, m108 ⟨p_Up, p_Has, ⟨p_Vec_Root, p_Vec_Cost, p_Vec_Bridge, p_Vec_Port⟩, p_Hops, p_Left, p_Role, p_Wait, p_Open⟩ hp⟩
  · cases h)
def T108 : Table := (108, c108) :: T109
theorem T108_sound : Table.Sound Go.Proofs.Try.prog Hx T108 := Table.sound_cons s108 T109_sound
def o88 (b : Bridge) (x : In) : Bool × List Row × List Row := (canB b x, [[.int .i64 (newB b x).Id, .sl true 11 (enS true (newB b x).Ports)]], [])
def c88 : Contract
  | [[.int .i64 b_Id, .sl true 11 b_Ports], [.int .i64 x_Kind, .int .i64 x_Port, .int .i64 x_Vec_Root, .int .i64 x_Vec_Cost, .int .i64 x_Vec_Bridge, .int .i64 x_Vec_Port, .int .i64 x_Hops, .bool x_Up]] => some (isS Port true b_Ports && (o88 ⟨b_Id, (deS Port b_Ports)⟩ ⟨x_Kind, x_Port, ⟨x_Vec_Root, x_Vec_Cost, x_Vec_Bridge, x_Vec_Port⟩, x_Hops, x_Up⟩).1, (o88 ⟨b_Id, (deS Port b_Ports)⟩ ⟨x_Kind, x_Port, ⟨x_Vec_Root, x_Vec_Cost, x_Vec_Bridge, x_Vec_Port⟩, x_Hops, x_Up⟩).2.1, (o88 ⟨b_Id, (deS Port b_Ports)⟩ ⟨x_Kind, x_Port, ⟨x_Vec_Root, x_Vec_Cost, x_Vec_Bridge, x_Vec_Port⟩, x_Hops, x_Up⟩).2.2)
  | _ => none

def k88_0 (n : Nat) : Ex → St → RR := kThen (fun st ↦ runCode (Ctx.mk prog Hx (88)) (Table.call T108) n (codeAt [1, 1] (bodyOf f88)) (Lv.mk 16 [] 16) st (kLeave (Ctx.P (Ctx.mk prog Hx (88))) (List.zip (Array.toList (Go.Func.resultTypes f88)) (Array.toList (Go.Func.results f88))) [] [])) (kLeave (Ctx.P (Ctx.mk prog Hx (88))) (List.zip (Array.toList (Go.Func.resultTypes f88)) (Array.toList (Go.Func.results f88))) [] [])
def k88_1 (n : Nat) : Ex → St → RR := kBlock (0) (k88_0 n)
def k88_2 (n : Nat) : Ex → St → RR := kBlock (1) (k88_1 n)
def S88_0 (b : Bridge) (x : In) (i0 : Int) (es1 : List (List D)) : St := St.mk (U_ :: U_ :: V_ [C.ptr 1 0 0 [] 2 0 0] :: U_ :: V_ [C.ptr 3 0 0 [] 2 0 0] :: I_ i0 :: u_ 68 []) [Root.mk false 11 (enS true (Bridge.Ports b)) 0 0 false true false, Root.mk true 2 [[D.int i64 (Bridge.Id b), D.sl true 11 es1]] 0 0 true true false, Root.mk true 8 [En.enc true x] 0 0 true true false, Root.mk true 2 [[D.int i64 (0), D.sl true 11 []]] 0 0 true true false]
def B88_0 (n : Nat) : St → (Ex → St → RR) → RR := runCode (Ctx.mk prog Hx (88)) (Table.call T108) n (codeAt [1, 0, 1, 0, 1, 1, 1, 0, 1, 0, 0] (bodyOf f88)) (Lv.mk 52 [(1, 20), (0, 20)] 16)
def X88_3 (b : Bridge) (x : In) (es1 : List (List D)) : St := St.mk (U_ :: U_ :: V_ [C.ptr 1 0 0 [] 2 0 0] :: U_ :: V_ [C.ptr 3 0 0 [] 2 0 0] :: u_ 69 []) [Root.mk false 11 (enS true (Bridge.Ports b)) 0 0 false true false, Root.mk true 2 [[D.int i64 (Bridge.Id b), D.sl true 11 es1]] 0 0 true true false, Root.mk true 8 [En.enc true x] 0 0 true true false, Root.mk true 2 [[D.int i64 (0), D.sl true 11 []]] 0 0 true true false]
theorem q88_0 (b : Bridge) (x : In) (n : Nat) (i0 : Int) (es1 : List (List D)) (f : St → RR) (K : Ex → St → RR) : B88_0 n (S88_0 b x i0 es1) (kThen (fun st ↦ f (St.head 4 52 35184103653408 st)) K) = bif decide (i0 < ofNat (length es1)) then bif decide (0 ≤ i0) && decide (i0 < ofNat (length es1)) then bif Leaf.fit true Leaf.bool (getD (getD es1 (0 + toNat i0) []) 0 D.dead) && (Leaf.fit true Leaf.bool (getD (getD es1 (0 + toNat i0) []) 1 D.dead) && (Leaf.fit true (Leaf.int i64) (getD (getD es1 (0 + toNat i0) []) 2 D.dead) && (Leaf.fit true (Leaf.int i64) (getD (getD es1 (0 + toNat i0) []) 3 D.dead) && (Leaf.fit true (Leaf.int i64) (getD (getD es1 (0 + toNat i0) []) 4 D.dead) && (Leaf.fit true (Leaf.int i64) (getD (getD es1 (0 + toNat i0) []) 5 D.dead) && (Leaf.fit true (Leaf.int i64) (getD (getD es1 (0 + toNat i0) []) 6 D.dead) && (Leaf.fit true (Leaf.int i64) (getD (getD es1 (0 + toNat i0) []) 7 D.dead) && (Leaf.fit true (Leaf.int i64) (getD (getD es1 (0 + toNat i0) []) 8 D.dead) && (Leaf.fit true (Leaf.int i64) (getD (getD es1 (0 + toNat i0) []) 9 D.dead) && (Leaf.fit true Leaf.bool (getD (getD es1 (0 + toNat i0) []) 10 D.dead) && true)))))))))) then bif portOk (En.dec (getD es1 (0 + toNat i0) [])) then bif decide (0 ≤ i0) && decide (i0 < ofNat (length es1)) then f (S88_0 b x (wrap i64 (i0 + 1)) (set es1 (0 + toNat i0) (En.enc true (l8tickP (En.dec (getD es1 (0 + toNat i0) [])))))) else none else none else none else none else K (Ex.exit 1) (X88_3 b x es1) := by kernel_rfl
theorem aX88_3 (b : Bridge) (x : In) (n : Nat) (es1 : List (List D)) : k88_2 n (Ex.exit 1) (X88_3 b x es1) = bif isS Port false (lendRows es1) && decide (length (deS Port (lendRows es1)) ≤ 1048576) then bif deepRows (enS true (Bridge.Ports (bif bridgeOk (Bridge.mk (Bridge.Id b) (deS Port (lendRows es1))) then decideM (Bridge.mk (Bridge.Id b) (deS Port (lendRows es1))) else Bridge.mk (Bridge.Id b) (deS Port (lendRows es1))))) && true && true && true && true then some ([En.enc true (bif bridgeOk (Bridge.mk (Bridge.Id b) (deS Port (lendRows es1))) then decideM (Bridge.mk (Bridge.Id b) (deS Port (lendRows es1))) else Bridge.mk (Bridge.Id b) (deS Port (lendRows es1)))], []) else none else none := by kernel_rfl
def w88_4 (b : Bridge) (x : In) : List (List D) := set (enS true (Bridge.Ports b)) (0 + toNat (In.Port x)) [D.bool false, D.bool false, D.int i64 (0), D.int i64 (0), D.int i64 (0), D.int i64 (0), D.int i64 (0), D.int i64 (0), D.int i64 (0), D.int i64 (0), D.bool false]
def v88_5 (x : In) : Bool := decide (0 ≤ In.Port x)
def v88_6 (b : Bridge) : Int := ofNat (length (enS true (Bridge.Ports b)))
def v88_7 (b : Bridge) (x : In) : Bool := v88_5 x && decide (In.Port x < v88_6 b)
def v88_8 (b : Bridge) (x : In) : List D := getD (enS true (Bridge.Ports b)) (0 + toNat (In.Port x)) []
def v88_9 (b : Bridge) (x : In) : Bool := Leaf.fit true Leaf.bool (getD (v88_8 b x) 0 D.dead)
def v88_10 (b : Bridge) (x : In) : Bool := D.flag (getD (v88_8 b x) 0 D.dead)
def v88_11 (b : Bridge) (x : In) : List (List D) := lendRows (set (enS true (Bridge.Ports b)) (0 + toNat (In.Port x)) (En.enc true (claimM (Port.mk (v88_10 b x) (D.flag (getD (v88_8 b x) 1 D.dead)) (Vec.mk (D.num (getD (v88_8 b x) 2 D.dead)) (D.num (getD (v88_8 b x) 3 D.dead)) (D.num (getD (v88_8 b x) 4 D.dead)) (D.num (getD (v88_8 b x) 5 D.dead))) (D.num (getD (v88_8 b x) 6 D.dead)) (D.num (getD (v88_8 b x) 7 D.dead)) (D.num (getD (v88_8 b x) 8 D.dead)) (D.num (getD (v88_8 b x) 9 D.dead)) (D.flag (getD (v88_8 b x) 10 D.dead))) (In.Vec x) (In.Hops x))))
def v88_12 (b : Bridge) (x : In) : List Port := deS Port (v88_11 b x)
def v88_13 (b : Bridge) (x : In) : List (List D) := enS true (Bridge.Ports (bif bridgeOk (Bridge.mk (Bridge.Id b) (v88_12 b x)) then decideM (Bridge.mk (Bridge.Id b) (v88_12 b x)) else Bridge.mk (Bridge.Id b) (v88_12 b x)))
def v88_14 (b : Bridge) (x : In) : Int := ofNat (length (w88_4 b x))
def v88_15 (b : Bridge) (x : In) : List (List D) := lendRows (set (w88_4 b x) (0 + toNat (In.Port x)) [D.bool true, D.bool false, D.int i64 (0), D.int i64 (0), D.int i64 (0), D.int i64 (0), D.int i64 (0), D.int i64 (0), D.int i64 (3), D.int i64 (0), D.bool false])
def v88_16 (b : Bridge) (x : In) : List Port := deS Port (v88_15 b x)
def v88_17 (b : Bridge) (x : In) : List (List D) := enS true (Bridge.Ports (bif bridgeOk (Bridge.mk (Bridge.Id b) (v88_16 b x)) then decideM (Bridge.mk (Bridge.Id b) (v88_16 b x)) else Bridge.mk (Bridge.Id b) (v88_16 b x)))
def v88_18 (b : Bridge) (x : In) : List Port := deS Port (lendRows (w88_4 b x))
def v88_19 (b : Bridge) (x : In) : List (List D) := enS true (Bridge.Ports (bif bridgeOk (Bridge.mk (Bridge.Id b) (v88_18 b x)) then decideM (Bridge.mk (Bridge.Id b) (v88_18 b x)) else Bridge.mk (Bridge.Id b) (v88_18 b x)))
def v88_20 (b : Bridge) : List (List D) := lendRows (enS true (Bridge.Ports b))
def v88_21 (b : Bridge) : List Port := deS Port (v88_20 b)
def v88_22 (b : Bridge) : List (List D) := enS true (Bridge.Ports (bif bridgeOk (Bridge.mk (Bridge.Id b) (v88_21 b)) then decideM (Bridge.mk (Bridge.Id b) (v88_21 b)) else Bridge.mk (Bridge.Id b) (v88_21 b)))
theorem r88 (b : Bridge) (x : In) (n : Nat) : evFn ⟨prog, Hx, 88⟩ T108.call n f88 [[.int .i64 b.Id, .sl true 11 (enS true b.Ports)], [.int .i64 x.Kind, .int .i64 x.Port, .int .i64 x.Vec.Root, .int .i64 x.Vec.Cost, .int .i64 x.Vec.Bridge, .int .i64 x.Vec.Port, .int .i64 x.Hops, .bool x.Up]] = bif In.Kind x == 1 then bif v88_7 b x then bif v88_9 b x && (Leaf.fit true Leaf.bool (getD (v88_8 b x) 1 D.dead) && (Leaf.fit true (Leaf.int i64) (getD (v88_8 b x) 2 D.dead) && (Leaf.fit true (Leaf.int i64) (getD (v88_8 b x) 3 D.dead) && (Leaf.fit true (Leaf.int i64) (getD (v88_8 b x) 4 D.dead) && (Leaf.fit true (Leaf.int i64) (getD (v88_8 b x) 5 D.dead) && (Leaf.fit true (Leaf.int i64) (getD (v88_8 b x) 6 D.dead) && (Leaf.fit true (Leaf.int i64) (getD (v88_8 b x) 7 D.dead) && (Leaf.fit true (Leaf.int i64) (getD (v88_8 b x) 8 D.dead) && (Leaf.fit true (Leaf.int i64) (getD (v88_8 b x) 9 D.dead) && (Leaf.fit true Leaf.bool (getD (v88_8 b x) 10 D.dead) && true)))))))))) then bif v88_7 b x then bif isS Port false (v88_11 b x) && decide (length (v88_12 b x) ≤ 1048576) then bif deepRows (v88_13 b x) && true && true && true && true then some ([[D.int i64 (Bridge.Id (bif bridgeOk (Bridge.mk (Bridge.Id b) (v88_12 b x)) then decideM (Bridge.mk (Bridge.Id b) (v88_12 b x)) else Bridge.mk (Bridge.Id b) (v88_12 b x))), D.sl true 11 (v88_13 b x)]], []) else none else none else none else none else none else bif In.Kind x == 2 then loopRun (B88_0 n) 4 52 35184103653408 n (S88_0 b x (0) (enS true (Bridge.Ports b))) (k88_2 n) else bif In.Kind x == 3 then bif v88_7 b x then bif v88_9 b x && true then bif decide (v88_10 b x = In.Up x) then some ([En.enc true b], []) else bif v88_7 b x then bif In.Up x then bif v88_5 x && decide (In.Port x < v88_14 b x) then bif isS Port false (v88_15 b x) && decide (length (v88_16 b x) ≤ 1048576) then bif deepRows (v88_17 b x) && true && true && true && true then some ([[D.int i64 (Bridge.Id (bif bridgeOk (Bridge.mk (Bridge.Id b) (v88_16 b x)) then decideM (Bridge.mk (Bridge.Id b) (v88_16 b x)) else Bridge.mk (Bridge.Id b) (v88_16 b x))), D.sl true 11 (v88_17 b x)]], []) else none else none else none else bif isS Port false (lendRows (w88_4 b x)) && decide (length (v88_18 b x) ≤ 1048576) then bif deepRows (v88_19 b x) && true && true && true && true then some ([[D.int i64 (Bridge.Id (bif bridgeOk (Bridge.mk (Bridge.Id b) (v88_18 b x)) then decideM (Bridge.mk (Bridge.Id b) (v88_18 b x)) else Bridge.mk (Bridge.Id b) (v88_18 b x))), D.sl true 11 (v88_19 b x)]], []) else none else none else none else none else none else bif isS Port false (v88_20 b) && decide (length (v88_21 b) ≤ 1048576) then bif deepRows (v88_22 b) && true && true && true && true then some ([[D.int i64 (Bridge.Id (bif bridgeOk (Bridge.mk (Bridge.Id b) (v88_21 b)) then decideM (Bridge.mk (Bridge.Id b) (v88_21 b)) else Bridge.mk (Bridge.Id b) (v88_21 b))), D.sl true 11 (v88_22 b)]], []) else none else none := by kernel_rfl
theorem m88 (b : Bridge) (x : In) (hpre : (o88 b x).1 = true) : evFn ⟨Go.Proofs.Try.prog, Hx, 88⟩ T108.call (b.Ports.length + 1) f88 [[.int .i64 b.Id, .sl true 11 (enS true b.Ports)], [.int .i64 x.Kind, .int .i64 x.Port, .int .i64 x.Vec.Root, .int .i64 x.Vec.Cost, .int .i64 x.Vec.Bridge, .int .i64 x.Vec.Port, .int .i64 x.Hops, .bool x.Up]] = some (o88 b x).2 := by
  refine (r88 b x _).trans ?_
  show _ = (some ([[.int .i64 (newB b x).Id, .sl true 11 (enS true (newB b x).Ports)]], []) : Option (List Row × List Row))
  replace hpre : (canB b x) = true := hpre
  unfold canB at hpre
  simp only [Bool.and_eq_true, decide_eq_true_eq] at hpre
  obtain ⟨hin, hlt, hok⟩ := hpre
  have hpar := bridge_parts hok
  have h4 := bridge_le4 hok
  obtain ⟨k, hk⟩ := Int.eq_ofNat_of_zero_le (inOk_port hin).1
  have hkl : k < b.Ports.length := by omega
  have hk0 : 0 + Int.toNat x.Port = k := by rw [hk, Int.toNat_natCast, Nat.zero_add]
  have hat : atP b x = b.Ports[k] := by
    unfold atP
    rw [hk, Int.toNat_natCast, List.getD_eq_getElem?_getD, List.getElem?_eq_getElem hkl]
    rfl
  have hpk : x.Port.toNat = k := by rw [hk, Int.toNat_natCast]
  have hle : decide (b.Ports.length ≤ 1048576) = true := decide_eq_true (by omega)
  have hio := in_ok hok x
  show _ = outB (newB b x)
  have d5 : v88_5 x = true := by unfold v88_5; rw [hk]; exact decide_eq_true (Int.natCast_nonneg k)
  have d7 : v88_7 b x = true := by
    unfold v88_7 v88_6
    rw [d5, hk, enS_length, Bool.true_and]
    exact decide_eq_true (show (k : Int) < (b.Ports.length : Int) by omega)
  have e8 : v88_8 b x = En.enc true b.Ports[k] := by unfold v88_8; rw [hk0]; exact enS_get true hkl
  have e10 : v88_10 b x = b.Ports[k].Up := by unfold v88_10; rw [e8]; rfl
  have d9 : v88_9 b x = true := by unfold v88_9; rw [e8]; rfl
  cases h1 : x.Kind == 1
  case true =>
    have hnb : newB b x = decideM ⟨b.Id, b.Ports.set k (claimM b.Ports[k] x.Vec x.Hops)⟩ := by
      unfold newB inM
      rw [still_no (kind_ne h1 (by decide)), h1, hat, hpk]
      rfl
    have hc : bridgeOk ⟨b.Id, b.Ports.set k (claimM b.Ports[k] x.Vec x.Hops)⟩ = true := by
      have h := hio
      unfold inM at h
      rw [h1, hat, hpk] at h
      exact h
    have e11 : v88_11 b x = enS false (b.Ports.set k (claimM b.Ports[k] x.Vec x.Hops)) := by
      unfold v88_11 v88_10
      rw [e8, hk0]
      refine (congrArg lendRows (enS_set true b.Ports k (claimM b.Ports[k] x.Vec x.Hops))).trans ?_
      exact lendRows_enS true _
    have e12 : v88_12 b x = b.Ports.set k (claimM b.Ports[k] x.Vec x.Hops) := by unfold v88_12; rw [e11, deS_enS]
    refine bif_t rfl (bif_t d7 (bif_t (by rw [d9, e8]; rfl) (bif_t d7 (bif_t (by rw [e11, e12, isS_enS, List.length_set, hle]; rfl) (bif_t (by unfold v88_13; rw [deepRows_enS]; rfl) ?_)))))
    unfold v88_13
    rw [e12, hc, hnb]
    rfl
  cases h2 : x.Kind == 2
  case true =>
    have hnb : newB b x = decideM ⟨b.Id, b.Ports.map tickP⟩ := by
      unfold newB inM
      rw [still_no (kind_ne h2 (by decide)), h1, h2]
      rfl
    have hc : bridgeOk ⟨b.Id, b.Ports.map tickP⟩ = true := by
      have h := hio
      unfold inM at h
      rw [h1, h2] at h
      exact h
    have hTT : b.Ports.map l8tickP = b.Ports.map tickP := List.map_congr_left (fun p hp => l8tick_ok (List.all_eq_true.1 hpar.1 p hp))
    have hT : (b.Ports.map l8tickP).length = b.Ports.length := List.length_map ..
    refine bif_f rfl (bif_t rfl ?_)
    refine loop_list (xs := b.Ports) (fun i (ys : List Port) => S88_0 b x (Int.ofNat i) (enS true ys)) (fun i ys => ys = (b.Ports.map l8tickP).take i ++ b.Ports.drop i) (fun _ _ _ => outB (newB b x)) ?_ ?_ (b.Ports.length + 1) b.Ports (by omega) (by simp)
    · rintro ys hys f
      have hyl : ys.length = b.Ports.length := by rw [hys]; exact mix_len hT _
      have hye : ys = b.Ports.map tickP := by rw [hys, List.drop_length, List.append_nil, ← hT, List.take_length, hTT]
      refine (q88_0 b x _ _ _ f _).trans ?_
      rw [enS_length, hyl, dec_lt, decide_eq_false (Nat.lt_irrefl _), cond_false]
      refine (aX88_3 _ _ _ _).trans ?_
      rw [hye, hnb]
      simp only [lendRows_enS, isS_enS, deS_enS, List.length_map, hle, hc, deepRows_enS, Bool.and_self, cond_true]
      rfl
    · rintro i ys hi hys f hf
      have hyl : ys.length = b.Ports.length := by rw [hys]; exact mix_len hT i
      have hy : i < ys.length := by omega
      have hat : ys[i] = b.Ports[i] := by subst hys; exact mix_get hT hi _
      have hpo : portOk b.Ports[i] = true := List.all_eq_true.1 hpar.1 _ (List.getElem_mem hi)
      refine (q88_0 b x _ _ _ f _).trans ?_
      simp only [enS_length, toNat_of, dec_lt, dec_ge, hi, decide_true, cond_true, Bool.and_self, Nat.zero_add, wrap_succ (show i < 4611686018427387904 by omega), hyl, enS_get true hy, hat, hpo, En.dec_enc, enS_set]
      refine bif_t rfl ?_
      exact hf (ys.set i (l8tickP b.Ports[i])) (by rw [hys]; exact mix_set hT hi (by rw [List.getElem_map]))
  cases h3 : x.Kind == 3
  case false =>
    rw [inOk_kind hin h1 h3] at h2
    cases h2
  refine bif_f rfl (bif_f rfl (bif_t rfl (bif_t d7 (bif_t (by rw [d9]; rfl) ?_))))
  rw [e10]
  cases hs : decide (b.Ports[k].Up = x.Up)
  case true =>
    have hst : stillB b x = true := by unfold stillB; rw [h3, hat, of_decide_eq_true hs]; cases x.Up <;> rfl
    have hnb : newB b x = b := by unfold newB; rw [hst]; rfl
    rw [hnb]
    rfl
  have hst : stillB b x = false := by
    unfold stillB
    rw [h3, hat]
    have := of_decide_eq_false hs
    revert this
    cases b.Ports[k].Up <;> cases x.Up <;> simp
  have e4 : w88_4 b x = enS true (b.Ports.set k port0) := by unfold w88_4; rw [hk0]; exact enS_set true b.Ports k port0
  refine bif_f rfl (bif_t d7 ?_)
  have hnb : newB b x = decideM ⟨b.Id, b.Ports.set k (linkP x.Up)⟩ := by
    unfold newB inM
    rw [hst, h1, h2, hpk]
    rfl
  have hc : bridgeOk ⟨b.Id, b.Ports.set k (linkP x.Up)⟩ = true := by
    have h := hio
    unfold inM at h
    rw [h1, h2, hpk] at h
    exact h
  cases hu : x.Up
  · rw [hu] at hnb hc
    have e18 : v88_18 b x = b.Ports.set k port0 := by unfold v88_18; rw [e4, lendRows_enS, deS_enS]
    refine bif_f rfl (bif_t (by rw [e4, e18, lendRows_enS, isS_enS, List.length_set, hle]; rfl) (bif_t (by unfold v88_19; rw [deepRows_enS]; rfl) ?_))
    unfold v88_19
    rw [e18, show bridgeOk ⟨b.Id, b.Ports.set k port0⟩ = true from hc, hnb]
    rfl
  · rw [hu] at hnb hc
    have e14 : v88_14 b x = (b.Ports.length : Int) := by unfold v88_14; rw [e4, enS_length, List.length_set]; rfl
    have e15 : v88_15 b x = enS false (b.Ports.set k (linkP true)) := by
      unfold v88_15
      rw [e4, hk0]
      refine (congrArg lendRows (enS_set true (b.Ports.set k port0) k (linkP true))).trans ?_
      rw [List.set_set]
      exact lendRows_enS true _
    have e16 : v88_16 b x = b.Ports.set k (linkP true) := by unfold v88_16; rw [e15, deS_enS]
    refine bif_t rfl (bif_t (by rw [d5, e14, hk]; exact decide_eq_true (show (k : Int) < (b.Ports.length : Int) by omega)) (bif_t (by rw [e15, e16, isS_enS, List.length_set, hle]; rfl) (bif_t (by unfold v88_17; rw [deepRows_enS]; rfl) ?_)))
    unfold v88_17
    rw [e16, hc, hnb]
    rfl
theorem s88 : SoundAt Go.Proofs.Try.prog Hx 88 c88 := soundAt_of T108_sound mixed func88 (by kernel_rfl) (by
  intro rows r h
  unfold c88 at h
  split at h
  · rename_i b_Id b_Ports x_Kind x_Port x_Vec_Root x_Vec_Cost x_Vec_Bridge x_Vec_Port x_Hops x_Up
    obtain ⟨hp, hr⟩ := Prod.mk.inj (Option.some.inj h)
    subst hr
    simp only [Bool.and_eq_true] at hp
    obtain ⟨hs0, hp⟩ := hp
    obtain ⟨xs0, rfl⟩ := isS_ex hs0
    simp only [deS_enS] at hp ⊢
    exact ⟨_, m88 ⟨b_Id, xs0⟩ ⟨x_Kind, x_Port, ⟨x_Vec_Root, x_Vec_Cost, x_Vec_Bridge, x_Vec_Port⟩, x_Hops, x_Up⟩ hp⟩
  · cases h)
def T88 : Table := (88, c88) :: T108
theorem T88_sound : Table.Sound Go.Proofs.Try.prog Hx T88 := Table.sound_cons s88 T108_sound
def o61 (b : Bridge) (x : In) : Bool × List Row × List Row := (decide (b.Ports.length ≤ 1048576), [[.int .i64 (reactB b x).Id, .sl true 11 (enS true (reactB b x).Ports)], [.sl true 8 (enS true (reactO b x))]], [])
def c61 : Contract
  | [[.int .i64 b_Id, .sl false 11 b_Ports], [.int .i64 x_Kind, .int .i64 x_Port, .int .i64 x_Vec_Root, .int .i64 x_Vec_Cost, .int .i64 x_Vec_Bridge, .int .i64 x_Vec_Port, .int .i64 x_Hops, .bool x_Up]] => some (isS Port false b_Ports && (o61 ⟨b_Id, (deS Port b_Ports)⟩ ⟨x_Kind, x_Port, ⟨x_Vec_Root, x_Vec_Cost, x_Vec_Bridge, x_Vec_Port⟩, x_Hops, x_Up⟩).1, (o61 ⟨b_Id, (deS Port b_Ports)⟩ ⟨x_Kind, x_Port, ⟨x_Vec_Root, x_Vec_Cost, x_Vec_Bridge, x_Vec_Port⟩, x_Hops, x_Up⟩).2.1, (o61 ⟨b_Id, (deS Port b_Ports)⟩ ⟨x_Kind, x_Port, ⟨x_Vec_Root, x_Vec_Cost, x_Vec_Bridge, x_Vec_Port⟩, x_Hops, x_Up⟩).2.2)
  | _ => none

def k61_0 (n : Nat) : Ex → St → RR := kThen (fun st ↦ runCode (Ctx.mk prog Hx (61)) (Table.call T88) n (codeAt [1, 1, 1, 1, 1] (bodyOf f61)) (Lv.mk 48 [] 48) st (kLeave (Ctx.P (Ctx.mk prog Hx (61))) (List.zip (Array.toList (Go.Func.resultTypes f61)) (Array.toList (Go.Func.results f61))) [] [])) (kLeave (Ctx.P (Ctx.mk prog Hx (61))) (List.zip (Array.toList (Go.Func.resultTypes f61)) (Array.toList (Go.Func.results f61))) [] [])
def k61_1 (n : Nat) : Ex → St → RR := kBlock (0) (k61_0 n)
def S61_0 (b : Bridge) (x : In) (rs0 : List (List D)) (i2 : Int) (es3 : List (List D)) : St := St.mk (U_ :: U_ :: V_ [C.ptr 0 0 0 [] 2 0 0] :: V_ [C.ptr 1 0 0 [] 8 0 0] :: V_ [C.ptr 2 0 0 [] 2 0 0] :: U_ :: V_ [C.view 7 0 0 [] 8 none] :: V_ [C.ptr 6 0 0 [] 2 0 0] :: I_ i2 :: u_ 87 []) [Root.mk true 2 [[D.int i64 (Bridge.Id b), D.sl false 11 rs0]] 0 0 true true false, Root.mk true 8 [En.enc true x] 0 0 true true false, Root.mk true 2 [[D.int i64 (0), D.sl true 11 []]] 0 0 true true false, Root.mk false 8 [] 0 0 false true false, Root.mk false 11 (enS true (deS Port rs0)) 0 0 false true false, Root.mk false 11 (enS true (Bridge.Ports (newB (Bridge.mk (Bridge.Id b) (deS Port (enS true (deS Port rs0)))) x))) 0 0 false true false, Root.mk true 2 [En.enc true (newB (Bridge.mk (Bridge.Id b) (deS Port (enS true (deS Port rs0)))) x)] 0 0 true true false, Root.mk false 8 es3 0 0 true true false]
def B61_0 (n : Nat) : St → (Ex → St → RR) → RR := runCode (Ctx.mk prog Hx (61)) (Table.call T88) n (codeAt [1, 1, 1, 1, 0, 1, 0, 0] (bodyOf f61)) (Lv.mk 476 [(0, 216)] 48)
def X61_2 (b : Bridge) (x : In) (rs0 : List (List D)) (es3 : List (List D)) : St := St.mk (U_ :: U_ :: U_ :: V_ [C.ptr 1 0 0 [] 8 0 0] :: V_ [C.ptr 2 0 0 [] 2 0 0] :: U_ :: V_ [C.view 7 0 0 [] 8 none] :: V_ [C.ptr 6 0 0 [] 2 0 0] :: u_ 88 []) [Root.mk true 2 [[D.int i64 (Bridge.Id b), D.sl false 11 rs0]] 0 0 true true false, Root.mk true 8 [En.enc true x] 0 0 true true false, Root.mk true 2 [[D.int i64 (0), D.sl true 11 []]] 0 0 true true false, Root.mk false 8 [] 0 0 false true false, Root.mk false 11 (enS true (deS Port rs0)) 0 0 false true false, Root.mk false 11 (enS true (Bridge.Ports (newB (Bridge.mk (Bridge.Id b) (deS Port (enS true (deS Port rs0)))) x))) 0 0 false true false, Root.mk true 2 [En.enc true (newB (Bridge.mk (Bridge.Id b) (deS Port (enS true (deS Port rs0)))) x)] 0 0 true true false, Root.mk false 8 es3 0 0 true true false]
theorem q61_0 (b : Bridge) (x : In) (n : Nat) (rs0 : List (List D)) (i2 : Int) (es3 : List (List D)) (f : St → RR) (K : Ex → St → RR) : B61_0 n (S61_0 b x rs0 i2 es3) (kThen (fun st ↦ f (St.head 7 476 36893488130239234368 st)) K) = bif decide (i2 < ofNat (length rs0)) then bif decide (0 ≤ i2) && decide (i2 < ofNat (length (enS true (Bridge.Ports (newB (Bridge.mk (Bridge.Id b) (deS Port (enS true (deS Port rs0)))) x))))) then bif Leaf.fit true Leaf.bool (getD (getD (enS true (Bridge.Ports (newB (Bridge.mk (Bridge.Id b) (deS Port (enS true (deS Port rs0)))) x))) (0 + toNat i2) []) 10 D.dead) && true then bif decide (0 ≤ i2) && decide (i2 < ofNat (length rs0)) then bif Leaf.fit false Leaf.bool (getD (drop 10 (getD rs0 (toNat i2) [])) 0 D.dead) && true then bif D.flag (getD (getD (enS true (Bridge.Ports (newB (Bridge.mk (Bridge.Id b) (deS Port (enS true (deS Port rs0)))) x))) (0 + toNat i2) []) 10 D.dead) != D.flag (getD (drop 10 (getD rs0 (toNat i2) [])) 0 D.dead) then bif decide (0 ≤ i2) && decide (i2 < ofNat (length (enS true (Bridge.Ports (newB (Bridge.mk (Bridge.Id b) (deS Port (enS true (deS Port rs0)))) x))))) then bif Leaf.fit true Leaf.bool (getD (getD (enS true (Bridge.Ports (newB (Bridge.mk (Bridge.Id b) (deS Port (enS true (deS Port rs0)))) x))) (0 + toNat i2) []) 10 D.dead) && true then bif decide ((length es3 + 1) * 64 ≤ 140737488355328) then f (S61_0 b x rs0 (wrap i64 (i2 + 1)) (append es3 [[D.int i64 (2), D.int i64 i2, D.int i64 (0), D.int i64 (0), D.int i64 (0), D.int i64 (0), D.int i64 (0), D.bool (D.flag (getD (getD (enS true (Bridge.Ports (newB (Bridge.mk (Bridge.Id b) (deS Port (enS true (deS Port rs0)))) x))) (0 + toNat i2) []) 10 D.dead))]])) else none else none else none else f (S61_0 b x rs0 (wrap i64 (i2 + 1)) es3) else none else none else none else none else K (Ex.exit 0) (X61_2 b x rs0 es3) := by kernel_rfl
def k61_3 (n : Nat) : Ex → St → RR := kThen (fun st ↦ runCode (Ctx.mk prog Hx (61)) (Table.call T88) n (codeAt [1, 1, 1, 1, 1, 1] (bodyOf f61)) (Lv.mk 48 [] 48) st (kLeave (Ctx.P (Ctx.mk prog Hx (61))) (List.zip (Array.toList (Go.Func.resultTypes f61)) (Array.toList (Go.Func.results f61))) [] [])) (kLeave (Ctx.P (Ctx.mk prog Hx (61))) (List.zip (Array.toList (Go.Func.resultTypes f61)) (Array.toList (Go.Func.results f61))) [] [])
def k61_4 (n : Nat) : Ex → St → RR := kBlock (2) (k61_3 n)
def S61_1 (b : Bridge) (x : In) (rs0 : List (List D)) (es3 : List (List D)) (rs0_ : List (List D)) (i1 : Int) (es2 : List (List D)) : St := St.mk (U_ :: U_ :: U_ :: V_ [C.ptr 1 0 0 [] 8 0 0] :: V_ [C.ptr 2 0 0 [] 2 0 0] :: U_ :: V_ [C.view 8 0 0 [] 8 none] :: V_ [C.ptr 6 0 0 [] 2 0 0] :: U_ :: I_ i1 :: u_ 86 []) [Root.mk true 2 [[D.int i64 (Bridge.Id b), D.sl false 11 rs0]] 0 0 true true false, Root.mk true 8 [En.enc true x] 0 0 true true false, Root.mk true 2 [[D.int i64 (0), D.sl true 11 []]] 0 0 true true false, Root.mk false 8 [] 0 0 false true false, Root.mk false 11 (enS true (deS Port rs0)) 0 0 false true false, Root.mk false 11 rs0_ 0 0 false true false, Root.mk true 2 [[D.int i64 (Bridge.Id (newB (Bridge.mk (Bridge.Id b) (deS Port (enS true (deS Port rs0)))) x)), D.sl true 11 rs0_]] 0 0 true true false, Root.mk false 8 es3 0 0 false true false, Root.mk false 8 es2 0 0 true true false]
def B61_1 (n : Nat) : St → (Ex → St → RR) → RR := runCode (Ctx.mk prog Hx (61)) (Table.call T88) n (codeAt [1, 1, 1, 1, 1, 0, 1, 0, 0] (bodyOf f61)) (Lv.mk 728 [(2, 208)] 48)
def X61_5 (b : Bridge) (x : In) (rs0 : List (List D)) (es3 : List (List D)) (rs0_ : List (List D)) (es2 : List (List D)) : St := St.mk (u_ 4 (V_ [C.ptr 2 0 0 [] 2 0 0] :: U_ :: V_ [C.view 8 0 0 [] 8 none] :: V_ [C.ptr 6 0 0 [] 2 0 0] :: u_ 88 [])) [Root.mk true 2 [[D.int i64 (Bridge.Id b), D.sl false 11 rs0]] 0 0 true true false, Root.mk true 8 [En.enc true x] 0 0 true true false, Root.mk true 2 [[D.int i64 (0), D.sl true 11 []]] 0 0 true true false, Root.mk false 8 [] 0 0 false true false, Root.mk false 11 (enS true (deS Port rs0)) 0 0 false true false, Root.mk false 11 rs0_ 0 0 false true false, Root.mk true 2 [[D.int i64 (Bridge.Id (newB (Bridge.mk (Bridge.Id b) (deS Port (enS true (deS Port rs0)))) x)), D.sl true 11 rs0_]] 0 0 true true false, Root.mk false 8 es3 0 0 false true false, Root.mk false 8 es2 0 0 true true false]
def X61_6 (b : Bridge) (x : In) (rs0 : List (List D)) (es3 : List (List D)) (rs0_ : List (List D)) (es2 : List (List D)) : St := St.mk (u_ 4 (V_ [C.ptr 2 0 0 [] 2 0 0] :: U_ :: V_ [C.view 8 0 0 [] 8 none] :: V_ [C.ptr 6 0 0 [] 2 0 0] :: u_ 88 [])) [Root.mk true 2 [[D.int i64 (Bridge.Id b), D.sl false 11 rs0]] 0 0 true true false, Root.mk true 8 [En.enc true x] 0 0 true true false, Root.mk true 2 [[D.int i64 (0), D.sl true 11 []]] 0 0 true true false, Root.mk false 8 [] 0 0 false true false, Root.mk false 11 (enS true (deS Port rs0)) 0 0 false true false, Root.mk false 11 rs0_ 0 0 false true false, Root.mk true 2 [[D.int i64 (Bridge.Id (newB (Bridge.mk (Bridge.Id b) (deS Port (enS true (deS Port rs0)))) x)), D.sl true 11 rs0_]] 0 0 true true false, Root.mk false 8 es3 0 0 false true false, Root.mk false 8 es2 0 0 true true false]
theorem q61_1 (b : Bridge) (x : In) (n : Nat) (rs0 : List (List D)) (es3 : List (List D)) (rs0_ : List (List D)) (i1 : Int) (es2 : List (List D)) (f : St → RR) (K : Ex → St → RR) : B61_1 n (S61_1 b x rs0 es3 rs0_ i1 es2) (kThen (fun st ↦ f (St.head 8 728 19807040591672596250966884928 st)) K) = bif decide (i1 < ofNat (length rs0_)) then bif In.Kind x == 2 then bif decide (0 ≤ i1) && decide (i1 < ofNat (length rs0_)) then bif Leaf.fit true (Leaf.int i64) (getD (getD rs0_ (0 + toNat i1) []) 8 D.dead) && true then bif D.num (getD (getD rs0_ (0 + toNat i1) []) 8 D.dead) == 2 then bif isS Port false (lendRows rs0_) && decide (length (deS Port (lendRows rs0_)) ≤ 1048576) then bif isS Port false (lendRows rs0_) && decide (length (deS Port (lendRows rs0_)) ≤ 1048576) then bif decide ((length es2 + 1) * 64 ≤ 140737488355328) then f (S61_1 b x rs0 es3 rs0_ (wrap i64 (i1 + 1)) (append es2 [[D.int i64 (1), D.int i64 i1, D.int i64 (Vec.Root (bif bridgeOk (Bridge.mk (Bridge.Id (newB (Bridge.mk (Bridge.Id b) (deS Port (enS true (deS Port rs0)))) x)) (deS Port (lendRows rs0_))) && inR i1 (0) (ofNat (length (deS Port (lendRows rs0_))) - 1) then ownM (Bridge.mk (Bridge.Id (newB (Bridge.mk (Bridge.Id b) (deS Port (enS true (deS Port rs0)))) x)) (deS Port (lendRows rs0_))) i1 else noVec)), D.int i64 (Vec.Cost (bif bridgeOk (Bridge.mk (Bridge.Id (newB (Bridge.mk (Bridge.Id b) (deS Port (enS true (deS Port rs0)))) x)) (deS Port (lendRows rs0_))) && inR i1 (0) (ofNat (length (deS Port (lendRows rs0_))) - 1) then ownM (Bridge.mk (Bridge.Id (newB (Bridge.mk (Bridge.Id b) (deS Port (enS true (deS Port rs0)))) x)) (deS Port (lendRows rs0_))) i1 else noVec)), D.int i64 (Vec.Bridge (bif bridgeOk (Bridge.mk (Bridge.Id (newB (Bridge.mk (Bridge.Id b) (deS Port (enS true (deS Port rs0)))) x)) (deS Port (lendRows rs0_))) && inR i1 (0) (ofNat (length (deS Port (lendRows rs0_))) - 1) then ownM (Bridge.mk (Bridge.Id (newB (Bridge.mk (Bridge.Id b) (deS Port (enS true (deS Port rs0)))) x)) (deS Port (lendRows rs0_))) i1 else noVec)), D.int i64 (Vec.Port (bif bridgeOk (Bridge.mk (Bridge.Id (newB (Bridge.mk (Bridge.Id b) (deS Port (enS true (deS Port rs0)))) x)) (deS Port (lendRows rs0_))) && inR i1 (0) (ofNat (length (deS Port (lendRows rs0_))) - 1) then ownM (Bridge.mk (Bridge.Id (newB (Bridge.mk (Bridge.Id b) (deS Port (enS true (deS Port rs0)))) x)) (deS Port (lendRows rs0_))) i1 else noVec)), D.int i64 (bif bridgeOk (Bridge.mk (Bridge.Id (newB (Bridge.mk (Bridge.Id b) (deS Port (enS true (deS Port rs0)))) x)) (deS Port (lendRows rs0_))) then hopsM (Bridge.mk (Bridge.Id (newB (Bridge.mk (Bridge.Id b) (deS Port (enS true (deS Port rs0)))) x)) (deS Port (lendRows rs0_))) else 0), D.bool false]])) else none else none else none else f (S61_1 b x rs0 es3 rs0_ (wrap i64 (i1 + 1)) es2) else none else none else K (Ex.exit 2) (X61_5 b x rs0 es3 rs0_ es2) else K (Ex.exit 2) (X61_6 b x rs0 es3 rs0_ es2) := by kernel_rfl
theorem aX61_5 (b : Bridge) (x : In) (n : Nat) (rs0 : List (List D)) (es3 : List (List D)) (rs0_ : List (List D)) (es2 : List (List D)) : k61_4 n (Ex.exit 2) (X61_5 b x rs0 es3 rs0_ es2) = some ([[D.int i64 (Bridge.Id (newB (Bridge.mk (Bridge.Id b) (deS Port (enS true (deS Port rs0)))) x)), D.sl true 11 rs0_], [D.sl true 8 es2]], []) := by kernel_rfl
theorem aX61_6 (b : Bridge) (x : In) (n : Nat) (rs0 : List (List D)) (es3 : List (List D)) (rs0_ : List (List D)) (es2 : List (List D)) : k61_4 n (Ex.exit 2) (X61_6 b x rs0 es3 rs0_ es2) = some ([[D.int i64 (Bridge.Id (newB (Bridge.mk (Bridge.Id b) (deS Port (enS true (deS Port rs0)))) x)), D.sl true 11 rs0_], [D.sl true 8 es2]], []) := by kernel_rfl
theorem aX61_2 (b : Bridge) (x : In) (n : Nat) (rs0 : List (List D)) (es3 : List (List D)) : k61_1 n (Ex.exit 0) (X61_2 b x rs0 es3) = loopRun (B61_1 n) 8 728 19807040591672596250966884928 n (S61_1 b x rs0 es3 (enS true (Bridge.Ports (newB (Bridge.mk (Bridge.Id b) (deS Port (enS true (deS Port rs0)))) x))) (0) es3) (k61_4 n) := by kernel_rfl
theorem r61 (b : Bridge) (x : In) (n : Nat) : evFn ⟨prog, Hx, 61⟩ T88.call n f61 [[.int .i64 b.Id, .sl false 11 (enS false b.Ports)], [.int .i64 x.Kind, .int .i64 x.Port, .int .i64 x.Vec.Root, .int .i64 x.Vec.Cost, .int .i64 x.Vec.Bridge, .int .i64 x.Vec.Port, .int .i64 x.Hops, .bool x.Up]] = bif isS Port false (enS false (Bridge.Ports b)) && decide (length (deS Port (enS false (Bridge.Ports b))) ≤ 1048576) then bif !bridgeOk (Bridge.mk (Bridge.Id b) (deS Port (enS false (Bridge.Ports b)))) then bif isS Port false (enS false (Bridge.Ports b)) && decide (length (deS Port (enS false (Bridge.Ports b))) ≤ 1048576) then some ([[D.int i64 (Bridge.Id b), D.sl true 11 (enS true (deS Port (enS false (Bridge.Ports b))))], [D.sl true 8 []]], []) else none else bif !inOk x then bif isS Port false (enS false (Bridge.Ports b)) && decide (length (deS Port (enS false (Bridge.Ports b))) ≤ 1048576) then some ([[D.int i64 (Bridge.Id b), D.sl true 11 (enS true (deS Port (enS false (Bridge.Ports b))))], [D.sl true 8 []]], []) else none else bif decide (In.Port x ≥ ofNat (length (enS false (Bridge.Ports b)))) then bif isS Port false (enS false (Bridge.Ports b)) && decide (length (deS Port (enS false (Bridge.Ports b))) ≤ 1048576) then some ([[D.int i64 (Bridge.Id b), D.sl true 11 (enS true (deS Port (enS false (Bridge.Ports b))))], [D.sl true 8 []]], []) else none else bif isS Port false (enS false (Bridge.Ports b)) && decide (length (deS Port (enS false (Bridge.Ports b))) ≤ 1048576) then bif isS Port true (enS true (deS Port (enS false (Bridge.Ports b)))) && canB (Bridge.mk (Bridge.Id b) (deS Port (enS true (deS Port (enS false (Bridge.Ports b)))))) x then loopRun (B61_0 n) 7 476 36893488130239234368 n (S61_0 b x (enS false (Bridge.Ports b)) (0) []) (k61_1 n) else none else none else none := by kernel_rfl
theorem l61_x (b : Bridge) (x : In) (c : Bridge) (hc : newB (Bridge.mk b.Id (deS Port (enS true (deS Port (enS false b.Ports))))) x = c) (es3 : List (List D)) (n : Nat) (ys : List Out) : k61_4 n (Ex.exit 2) (X61_6 b x (enS false b.Ports) es3 (enS true c.Ports) (enS true ys)) = outRe c ys := by
  refine (aX61_6 _ _ _ _ _ _ _).trans ?_
  rw [hc]
  rfl
theorem l61_y (b : Bridge) (x : In) (c : Bridge) (hc : newB (Bridge.mk b.Id (deS Port (enS true (deS Port (enS false b.Ports))))) x = c) (es3 : List (List D)) (n : Nat) (ys : List Out) : k61_4 n (Ex.exit 2) (X61_5 b x (enS false b.Ports) es3 (enS true c.Ports) (enS true ys)) = outRe c ys := by
  refine (aX61_5 _ _ _ _ _ _ _).trans ?_
  rw [hc]
  rfl
theorem l61_z (b : Bridge) (x : In) (c : Bridge) (hc : newB (Bridge.mk b.Id (deS Port (enS true (deS Port (enS false b.Ports))))) x = c) (es3 : List (List D)) (n : Nat) (hok : bridgeOk c = true) (h4 : c.Ports.length ≤ 4) (h2 : (x.Kind == 2) = true) (i : Nat) (ys : List Out) (hi : i < c.Ports.length) (hys : ys.length ≤ 100 + i) (f : St → RR) (K : Ex → St → RR)
    (hf : ∀ zs : List Out, zs.length ≤ 100 + (i + 1) → f (S61_1 b x (enS false b.Ports) es3 (enS true c.Ports) (Int.ofNat (i + 1)) (enS true zs)) = outRe c (zs ++ claimsL c (i + 1) (c.Ports.drop (i + 1)))) :
    B61_1 n (S61_1 b x (enS false b.Ports) es3 (enS true c.Ports) (Int.ofNat i) (enS true ys)) (kThen (fun st => f (St.head 8 728 19807040591672596250966884928 st)) K) = outRe c (ys ++ claimsL c i (c.Ports[i] :: c.Ports.drop (i + 1))) := by
  have hcl : decide (c.Ports.length ≤ 1048576) = true := decide_eq_true (by omega)
  have hr : decide ((ys.length + 1) * 64 ≤ 140737488355328) = true := decide_eq_true (by omega)
  refine (q61_1 b x n _ _ _ _ _ f _).trans ?_
  rw [hc]
  simp only [enS_length, toNat_of, dec_lt, dec_ge, hi, decide_true, cond_true, Bool.and_self, Nat.zero_add, wrap_succ (show i < 4611686018427387904 by omega), h2, isS_enS, lendRows_enS, deS_enS, enS_get true hi, hcl, hr, hok, inR_idx hi, Bridge.eta]
  refine bif_t rfl ?_
  exact claim_step2 (b := c) (i := i) (q := c.Ports[i]) (rest := c.Ports.drop (i + 1)) (ys := ys) (fun es => f (S61_1 b x (enS false b.Ports) es3 (enS true c.Ports) (Int.ofNat (i + 1)) es)) (outRe c) (fun zs hz => hf zs (by omega))
theorem l61_c (b : Bridge) (x : In) (c : Bridge) (hc : newB (Bridge.mk b.Id (deS Port (enS true (deS Port (enS false b.Ports))))) x = c) (es3 : List (List D)) (n : Nat) (hok : bridgeOk c = true) (h4 : c.Ports.length ≤ 4) (hn : c.Ports.length < n) (acc : List Out) (ha : acc.length ≤ 100) :
    loopRun (B61_1 n) 8 728 19807040591672596250966884928 n (S61_1 b x (enS false b.Ports) es3 (enS true c.Ports) 0 (enS true acc)) (k61_4 n) = outRe c (acc ++ bif x.Kind == 2 then claimsL c 0 c.Ports else []) := by
  cases h2 : x.Kind == 2
  · refine loop_rule (V := Unit) (fun _ => S61_1 b x (enS false b.Ports) es3 (enS true c.Ports) 0 (enS true acc)) (fun _ => True) (fun _ => 0) (fun _ => _) ?_ n () trivial (by omega)
    rintro _ _ f _
    refine (q61_1 b x n _ _ _ _ _ f _).trans ?_
    rw [cond_false, List.append_nil]
    cases hd : decide ((0 : Int) < Int.ofNat (enS true c.Ports).length)
    · refine bif_f rfl ?_
      exact l61_x b x c hc _ _ _
    · refine bif_t rfl (bif_f h2 ?_)
      exact l61_y b x c hc _ _ _
  rw [cond_true]
  refine loop_list (xs := c.Ports) (fun i (ys : List Out) => S61_1 b x (enS false b.Ports) es3 (enS true c.Ports) (Int.ofNat i) (enS true ys)) (fun i ys => ys.length ≤ 100 + i) (fun i ys rest => outRe c (ys ++ claimsL c i rest)) ?_ ?_ n acc hn (by omega)
  · rintro ys _ f
    refine (q61_1 b x n _ _ _ _ _ f _).trans ?_
    rw [end_lt, cond_false]
    refine (l61_x b x c hc _ _ _).trans ?_
    rw [show claimsL c c.Ports.length [] = ([] : List Out) by unfold claimsL; rfl, List.append_nil]
  · rintro i ys hi hys f hf
    exact l61_z b x c hc es3 n hok h4 h2 i ys hi hys f _ hf
theorem l61_g (b : Bridge) (x : In) (c : Bridge) (hc : newB (Bridge.mk b.Id (deS Port (enS true (deS Port (enS false b.Ports))))) x = c) (hl : c.Ports.length = b.Ports.length) (n : Nat) (hok : bridgeOk c = true) (h4 : b.Ports.length ≤ 4) (hn : b.Ports.length < n) :
    loopRun (B61_0 n) 7 476 36893488130239234368 n (S61_0 b x (enS false b.Ports) 0 []) (k61_1 n) = outRe c (gatesL 0 b.Ports c.Ports ++ bif x.Kind == 2 then claimsL c 0 c.Ports else []) := by
  refine loop_list (xs := b.Ports) (fun i (ys : List Out) => S61_0 b x (enS false b.Ports) (Int.ofNat i) (enS true ys)) (fun i ys => ys.length ≤ i) (fun i ys rest => outRe c ((ys ++ gatesL i rest (c.Ports.drop i)) ++ bif x.Kind == 2 then claimsL c 0 c.Ports else [])) ?_ ?_ n [] hn (Nat.le_refl _)
  · rintro ys hys f
    refine (q61_0 b x n _ _ _ f _).trans ?_
    rw [end_lt, cond_false]
    refine (aX61_2 _ _ _ _ _).trans ?_
    rw [hc]
    refine (l61_c b x c hc _ n hok (by omega) (by omega) ys (by omega)).trans ?_
    rw [show gatesL b.Ports.length [] (c.Ports.drop b.Ports.length) = [] from rfl, List.append_nil]
  · rintro i ys hi hys f hf
    have hic : i < c.Ports.length := by omega
    have hr : decide ((ys.length + 1) * 64 ≤ 140737488355328) = true := decide_eq_true (by omega)
    refine (q61_0 b x n _ _ _ f _).trans ?_
    rw [hc]
    simp only [enS_length, toNat_of, dec_lt, dec_ge, hi, decide_true, cond_true, Bool.and_self, Nat.zero_add, wrap_succ (show i < 4611686018427387904 by omega), hic, enS_get true hic, enS_get false hi, hr]
    refine bif_t rfl (bif_t rfl ?_)
    rw [List.drop_eq_getElem_cons hic]
    refine Eq.trans ?_ (gate_step (i := i) (p := b.Ports[i]) (q := c.Ports[i]) (ps := b.Ports.drop (i + 1)) (qs := c.Ports.drop (i + 1)) (ys := ys) (fun es => f (S61_0 b x (enS false b.Ports) (Int.ofNat (i + 1)) es)) (fun l => outRe c (l ++ bif x.Kind == 2 then claimsL c 0 c.Ports else [])) (fun zs hz => hf zs (by omega)))
    rfl
theorem m61 (b : Bridge) (x : In) (hpre : (o61 b x).1 = true) : evFn ⟨Go.Proofs.Try.prog, Hx, 61⟩ T88.call (b.Ports.length + 1) f61 [[.int .i64 b.Id, .sl false 11 (enS false b.Ports)], [.int .i64 x.Kind, .int .i64 x.Port, .int .i64 x.Vec.Root, .int .i64 x.Vec.Cost, .int .i64 x.Vec.Bridge, .int .i64 x.Vec.Port, .int .i64 x.Hops, .bool x.Up]] = some (o61 b x).2 := by
  refine (r61 b x _).trans ?_
  show _ = (some ([[.int .i64 (reactB b x).Id, .sl true 11 (enS true (reactB b x).Ports)], [.sl true 8 (enS true (reactO b x))]], []) : Option (List Row × List Row))
  replace hpre : (decide (b.Ports.length ≤ 1048576)) = true := hpre
  have hlen := of_decide_eq_true hpre
  show _ = outRe (reactB b x) (reactO b x)
  simp only [isS_enS, deS_enS, hpre, Bool.and_self, Bool.true_and, cond_true, enS_length, Bridge.eta]
  have e0 : decide (x.Port ≥ Int.ofNat b.Ports.length) = !decide (x.Port < (b.Ports.length : Int)) := ge_not _ _
  rw [e0]
  cases h3 : bridgeOk b
  · rw [react_no (by unfold canB; rw [h3]; simp)]
    rfl
  cases h1 : inOk x
  · rw [react_no (by unfold canB; rw [h1]; rfl)]
    rfl
  cases h2 : decide (x.Port < (b.Ports.length : Int))
  · rw [react_no (by unfold canB; rw [h1, h2]; rfl)]
    rfl
  have hc : canB b x = true := by unfold canB; rw [h1, h2, h3]; rfl
  rw [react_yes hc, hc]
  exact l61_g b x (newB b x) (by rw [deS_enS, deS_enS]) (new_len b x) _ (new_bok h3 x) (bridge_le4 h3) (by omega)
theorem s61 : SoundAt Go.Proofs.Try.prog Hx 61 c61 := soundAt_of T88_sound mixed func61 (by kernel_rfl) (by
  intro rows r h
  unfold c61 at h
  split at h
  · rename_i b_Id b_Ports x_Kind x_Port x_Vec_Root x_Vec_Cost x_Vec_Bridge x_Vec_Port x_Hops x_Up
    obtain ⟨hp, hr⟩ := Prod.mk.inj (Option.some.inj h)
    subst hr
    simp only [Bool.and_eq_true] at hp
    obtain ⟨hs0, hp⟩ := hp
    obtain ⟨xs0, rfl⟩ := isS_ex hs0
    simp only [deS_enS] at hp ⊢
    exact ⟨_, m61 ⟨b_Id, xs0⟩ ⟨x_Kind, x_Port, ⟨x_Vec_Root, x_Vec_Cost, x_Vec_Bridge, x_Vec_Port⟩, x_Hops, x_Up⟩ hp⟩
  · cases h)
def T61 : Table := (61, c61) :: T88
theorem T61_sound : Table.Sound Go.Proofs.Try.prog Hx T61 := Table.sound_cons s61 T88_sound
end Go.Ev
end
