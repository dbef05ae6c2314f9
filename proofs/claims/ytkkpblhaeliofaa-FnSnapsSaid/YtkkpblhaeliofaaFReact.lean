/- Contracts of functions, each by its evaluation. -/
import Derived.Test.YtkkpblhaeliofaaEvMd
import Derived.Test.YtkkpblhaeliofaaProg
import Derived.KernelRfl
import Derived.Test.YtkkpblhaeliofaaFC3
set_option linter.unusedVariables false
set_option linter.unusedSimpArgs false
set_option maxRecDepth 100000
noncomputable section
open List (getD length drop take set append replicate all isEmpty)
open Int (toNat ofNat)
open Go.IntKind (i64 wrap)
open Go.Proofs.Try (prog f100 f101 f102 f104 f105 f106 f107 f111 f112 f113 f114 f115 f116 f117 f118 f75 f87 f96 f98 f99 func100 func101 func102 func104 func105 func106 func107 func111 func112 func113 func114 func115 func116 func117 func118 func75 func87 func96 func98 func99)
namespace Go.Ev
open Go.RowKit Go.Md
end Go.Ev
namespace Go.Md
open Go Go.Ev
def betterB (a b : Vec) : Bool := bif a.Root != b.Root then decide (a.Root < b.Root) else bif a.Cost != b.Cost then decide (a.Cost < b.Cost) else bif a.Bridge != b.Bridge then decide (a.Bridge < b.Bridge) else decide (a.Port < b.Port)
def cmpI (x y : Int) : Int := bif decide (x < y) then -1 else bif decide (x > y) then 1 else 0
def orL : List Int → Int
  | [] => 0
  | x :: xs => bif x != 0 then x else orL xs
theorem cmp_ne (x y : Int) : (cmpI x y != 0) = (x != y) := by
  unfold cmpI
  rcases Int.lt_trichotomy x y with h | h | h
  · rw [decide_eq_true h, cond_true, show (x != y) = true by simp; omega]; rfl
  · subst h; simp
  · rw [decide_eq_false (by omega), cond_false, decide_eq_true h, cond_true, show (x != y) = true by simp; omega]; rfl
theorem cmp_lt (x y : Int) : decide (cmpI x y < 0) = decide (x < y) := by
  unfold cmpI
  rcases Int.lt_trichotomy x y with h | h | h
  · rw [decide_eq_true h, cond_true]; rfl
  · subst h; simp
  · rw [decide_eq_false (show ¬ x < y by omega), cond_false, decide_eq_true h, cond_true]; rfl
theorem orL_cons (x : Int) (xs : List Int) : orL (x :: xs) = bif x != 0 then x else orL xs := rfl
theorem or_last (x : Int) : orL [x] = x := by
  rw [orL_cons]
  cases h : x != 0
  · have : x = 0 := by simpa using h
    rw [this]; rfl
  · rfl
theorem or_lt (x : Int) (xs : List Int) : decide (orL (x :: xs) < 0) = bif x != 0 then decide (x < 0) else decide (orL xs < 0) := by
  rw [orL_cons]
  cases x != 0 <;> rfl
theorem better_or (a b : Vec) : decide (orL [cmpI a.Root b.Root, cmpI a.Cost b.Cost, cmpI a.Bridge b.Bridge, cmpI a.Port b.Port] < 0) = betterB a b := by
  rw [or_lt, or_lt, or_lt, or_last, cmp_ne, cmp_ne, cmp_ne, cmp_lt, cmp_lt, cmp_lt, cmp_lt]
  rfl
def noVec : Vec := ⟨0, 0, 0, 0⟩
def claimT (p : Port) (v : Vec) (h : Int) : Bool := p.Up && (isHopsB h && (vecOk v && (portOk p && !(p.Has && (betterB p.Vec v && !(v.Bridge == p.Vec.Bridge && v.Port == p.Vec.Port))))))
def claimM (p : Port) (v : Vec) (h : Int) : Port := bif claimT p v h then ⟨p.Up, true, v, h, 3, p.Role, p.Wait, p.Open⟩ else p
def fadeM (p : Port) : Port := bif p.Has && portOk p then (bif p.Left - 1 == 0 then ⟨p.Up, false, noVec, 0, 0, p.Role, p.Wait, p.Open⟩ else ⟨p.Up, p.Has, p.Vec, p.Hops, p.Left - 1, p.Role, p.Wait, p.Open⟩) else p
def turnW (p : Port) (r : Int) : Int := bif r == 3 then 0 else bif p.Role == 3 then 4 else p.Wait
def openRW (r w : Int) : Bool := (r == 1 || r == 2) && w == 0
def turnM (p : Port) (r : Int) : Port := bif p.Up && (inR r 1 3 && portOk p) then ⟨p.Up, p.Has, p.Vec, p.Hops, p.Left, r, turnW p r, openRW r (turnW p r)⟩ else p
def candB (id : Int) (p : Port) : Bool := p.Has && (!(p.Vec.Bridge == id) && (decide (p.Vec.Root < id) && (decide (p.Vec.Cost < 20) && decide (p.Hops < 8))))
def bestAt (all : List Port) (best : Int) : Vec := (all.getD best.toNat port0).Vec
def rootS (id : Int) (all : List Port) (i : Nat) (p : Port) (best : Int) : Int := bif candB id p && (decide (best < 0) || betterB p.Vec (bestAt all best)) then (i : Int) else best
def rootL (id : Int) (all : List Port) : Nat → List Port → Int → Int
  | _, [], best => best
  | i, p :: ps, best => rootL id all (i + 1) ps (rootS id all i p best)
def rootM (b : Bridge) : Int := rootL b.Id b.Ports 0 b.Ports (Int.negSucc 0)
def ownM (b : Bridge) (port : Int) : Vec := bif decide (rootM b < 0) then ⟨b.Id, 0, b.Id, port⟩ else ⟨(bestAt b.Ports (rootM b)).Root, IntKind.wrap IntKind.i64 ((bestAt b.Ports (rootM b)).Cost + 1), b.Id, port⟩
def hopsM (b : Bridge) : Int := bif decide (rootM b < 0) then 0 else IntKind.wrap IntKind.i64 ((b.Ports.getD (rootM b).toNat port0).Hops + 1)
def roleP (b : Bridge) (i : Nat) (p : Port) : Int := bif (i : Int) == rootM b then 1 else bif p.Has && betterB p.Vec (ownM b (i : Int)) then 3 else 2
def decP (b : Bridge) (i : Nat) (p : Port) : Port := bif p.Up then turnM p (roleP b i p) else p
def decL (b : Bridge) : Nat → List Port → List Port
  | _, [] => []
  | i, p :: ps => decP b i p :: decL b (i + 1) ps
def decideM (b : Bridge) : Bridge := ⟨b.Id, decL b 0 b.Ports⟩
def waitP (q : Port) : Port := bif (q.Role == 1 || q.Role == 2) && decide (q.Wait > 0) then ⟨q.Up, q.Has, q.Vec, q.Hops, q.Left, q.Role, q.Wait - 1, openRW q.Role (q.Wait - 1)⟩ else q
def tickP (p : Port) : Port := waitP (fadeM p)
def tickM (b : Bridge) : Bridge := ⟨b.Id, b.Ports.map tickP⟩
def atP (b : Bridge) (x : In) : Port := b.Ports.getD x.Port.toNat port0
def linkP (up : Bool) : Port := bif up then ⟨true, false, noVec, 0, 0, 3, 0, false⟩ else port0
def inM (b : Bridge) (x : In) : Bridge := bif x.Kind == 1 then ⟨b.Id, b.Ports.set x.Port.toNat (claimM (atP b x) x.Vec x.Hops)⟩ else bif x.Kind == 2 then tickM b else ⟨b.Id, b.Ports.set x.Port.toNat (linkP x.Up)⟩
def stillB (b : Bridge) (x : In) : Bool := x.Kind == 3 && (atP b x).Up == x.Up
def gatesL : Nat → List Port → List Port → List Out
  | _, [], _ => []
  | _, _ :: _, [] => []
  | i, p :: ps, q :: qs => bif q.Open != p.Open then ⟨2, (i : Int), noVec, 0, q.Open⟩ :: gatesL (i + 1) ps qs else gatesL (i + 1) ps qs
def claimsL (b : Bridge) : Nat → List Port → List Out
  | i, q :: qs => bif q.Role == 2 then ⟨1, (i : Int), ownM b (i : Int), hopsM b, false⟩ :: claimsL b (i + 1) qs else claimsL b (i + 1) qs
  | _, [] => []
def canB (b : Bridge) (x : In) : Bool := inOk x && (decide (x.Port < (b.Ports.length : Int)) && bridgeOk b)
def newB (b : Bridge) (x : In) : Bridge := bif stillB b x then b else decideM (inM b x)
def saysM (b : Bridge) (x : In) : List Out := gatesL 0 b.Ports (newB b x).Ports ++ (bif x.Kind == 2 then claimsL (newB b x) 0 (newB b x).Ports else [])
def reactB (b : Bridge) (x : In) : Bridge := bif canB b x then newB b x else b
def reactO (b : Bridge) (x : In) : List Out := bif canB b x then saysM b x else []
theorem rootS_b {id : Int} {all : List Port} {i : Nat} {p : Port} {best : Int} (hi : i < all.length) (h0 : -1 ≤ best) (h1 : best < (all.length : Int)) : -1 ≤ rootS id all i p best ∧ rootS id all i p best < (all.length : Int) := by
  unfold rootS
  cases candB id p && (decide (best < 0) || betterB p.Vec (bestAt all best))
  · exact ⟨h0, h1⟩
  · rw [cond_true]; omega
theorem rootL_b (id : Int) (all : List Port) : ∀ (ps : List Port) (i : Nat) (best : Int), i + ps.length = all.length → -1 ≤ best → best < (all.length : Int) → -1 ≤ rootL id all i ps best ∧ rootL id all i ps best < (all.length : Int)
  | [], _, _, _, h0, h1 => ⟨h0, h1⟩
  | p :: ps, i, best, hl, h0, h1 => by
    rw [List.length_cons] at hl
    have := rootS_b (id := id) (p := p) (show i < all.length by omega) h0 h1
    exact rootL_b id all ps (i + 1) _ (by omega) this.1 this.2
theorem rootM_b (b : Bridge) : -1 ≤ rootM b ∧ rootM b < (b.Ports.length : Int) := by
  refine rootL_b b.Id b.Ports b.Ports 0 (Int.negSucc 0) (by omega) (Int.le_refl _) (by omega)
def coreP (p : Port) : Bool × Vec × Int := (p.Has, p.Vec, p.Hops)
theorem core_bestAt {a c : List Port} (h : a.map coreP = c.map coreP) (k : Int) : bestAt a k = bestAt c k := by
  unfold bestAt
  have h2 : (a.getD k.toNat port0).Vec = ((a.map coreP).getD k.toNat (coreP port0)).2.1 := by
    simp only [List.getD_eq_getElem?_getD, List.getElem?_map]
    cases a[k.toNat]? <;> rfl
  have h3 : (c.getD k.toNat port0).Vec = ((c.map coreP).getD k.toNat (coreP port0)).2.1 := by
    simp only [List.getD_eq_getElem?_getD, List.getElem?_map]
    cases c[k.toNat]? <;> rfl
  rw [h2, h3, h]
theorem core_hops {a c : List Port} (h : a.map coreP = c.map coreP) (k : Nat) : (a.getD k port0).Hops = (c.getD k port0).Hops := by
  have h2 : (a.getD k port0).Hops = ((a.map coreP).getD k (coreP port0)).2.2 := by
    simp only [List.getD_eq_getElem?_getD, List.getElem?_map]
    cases a[k]? <;> rfl
  have h3 : (c.getD k port0).Hops = ((c.map coreP).getD k (coreP port0)).2.2 := by
    simp only [List.getD_eq_getElem?_getD, List.getElem?_map]
    cases c[k]? <;> rfl
  rw [h2, h3, h]
theorem core_rootL {id : Int} {a c : List Port} (h : a.map coreP = c.map coreP) : ∀ (ps qs : List Port) (i : Nat) (best : Int), ps.map coreP = qs.map coreP → rootL id a i ps best = rootL id c i qs best
  | [], [], _, _, _ => rfl
  | [], q :: qs, _, _, h2 => by cases h2
  | p :: ps, [], _, _, h2 => by cases h2
  | p :: ps, q :: qs, i, best, h2 => by
    rw [List.map_cons, List.map_cons, List.cons.injEq] at h2
    have h3 : p.Has = q.Has ∧ p.Vec = q.Vec ∧ p.Hops = q.Hops := by
      have := h2.1
      unfold coreP at this
      rw [Prod.mk.injEq, Prod.mk.injEq] at this
      exact this
    have h4 : rootS id a i p best = rootS id c i q best := by
      unfold rootS candB
      rw [h3.1, h3.2.1, h3.2.2, core_bestAt h]
    show rootL id a (i + 1) ps (rootS id a i p best) = rootL id c (i + 1) qs (rootS id c i q best)
    rw [h4]
    exact core_rootL h ps qs (i + 1) _ h2.2
theorem core_rootM {b c : Bridge} (hi : b.Id = c.Id) (h : b.Ports.map coreP = c.Ports.map coreP) : rootM b = rootM c := by
  unfold rootM
  rw [hi]
  exact core_rootL h _ _ _ _ h
theorem core_ownM {b c : Bridge} (hi : b.Id = c.Id) (h : b.Ports.map coreP = c.Ports.map coreP) (k : Int) : ownM b k = ownM c k := by
  unfold ownM
  rw [core_rootM hi h, core_bestAt h, hi]
theorem turn_core (p : Port) (r : Int) : coreP (turnM p r) = coreP p := by
  unfold turnM
  cases p.Up && (inR r 1 3 && portOk p) <;> rfl
theorem decP_core (b : Bridge) (i : Nat) (p : Port) : coreP (decP b i p) = coreP p := by
  unfold decP
  cases p.Up
  · rfl
  · exact turn_core _ _
theorem decL_core (b : Bridge) : ∀ (ps : List Port) (i : Nat), (decL b i ps).map coreP = ps.map coreP
  | [], _ => rfl
  | p :: ps, i => by
    show coreP (decP b i p) :: (decL b (i + 1) ps).map coreP = _
    rw [decP_core, decL_core b ps (i + 1)]
    rfl
theorem decL_len (b : Bridge) : ∀ (ps : List Port) (i : Nat), (decL b i ps).length = ps.length
  | [], _ => rfl
  | p :: ps, i => by
    show (decL b (i + 1) ps).length + 1 = ps.length + 1
    rw [decL_len b ps (i + 1)]
theorem claim_ok {p : Port} {v : Vec} {h : Int} (hp : portOk p = true) : portOk (claimM p v h) = true := by
  unfold claimM
  cases hc : claimT p v h
  · exact hp
  · rw [cond_true]
    unfold claimT at hc
    unfold portOk openB at hp ⊢
    simp only [Bool.and_eq_true] at hc
    obtain ⟨h1, h2, h3, h4⟩ := hc
    simp only [h1, h2, h3, cond_true, Bool.and_eq_true, Bool.true_and] at hp ⊢
    refine ⟨rfl, hp.2⟩
theorem fade_ok {p : Port} (hp : portOk p = true) : portOk (fadeM p) = true := by
  unfold fadeM
  cases hc : p.Has && portOk p
  · exact hp
  · rw [cond_true]
    rw [Bool.and_eq_true] at hc
    have hh := hc.1
    unfold portOk openB inR at hp
    simp only [hh, cond_true, Bool.and_eq_true, decide_eq_true_eq] at hp
    cases hl : p.Left - 1 == 0
    · have hl' : p.Left - 1 ≠ 0 := by simpa using hl
      rw [cond_false]
      unfold portOk openB inR
      simp only [hh, cond_true, Bool.and_eq_true, decide_eq_true_eq]
      refine ⟨⟨hp.1.1, hp.1.2.1, hp.1.2.2.1, by omega, by omega⟩, hp.2⟩
    · rw [cond_true]
      unfold portOk openB inR
      simp only [cond_false, Bool.and_eq_true, decide_eq_true_eq]
      exact ⟨by decide, hp.2⟩
theorem wait_ok {p : Port} (hp : portOk p = true) : portOk (waitP p) = true := by
  unfold waitP
  cases hc : (p.Role == 1 || p.Role == 2) && decide (p.Wait > 0)
  · exact hp
  · rw [cond_true]
    rw [Bool.and_eq_true, decide_eq_true_eq] at hc
    unfold portOk openB inR at hp ⊢
    simp only [Bool.and_eq_true, decide_eq_true_eq] at hp ⊢
    obtain ⟨h1, ⟨⟨h2, h3⟩, h4⟩, h5⟩ := hp
    refine ⟨h1, ⟨⟨h2, h3⟩, by omega, by omega⟩, ?_⟩
    unfold openRW
    simp
theorem tick_ok {p : Port} (hp : portOk p = true) : portOk (tickP p) = true := wait_ok (fade_ok hp)
theorem turn_ok {p : Port} {r : Int} (hp : portOk p = true) : portOk (turnM p r) = true := by
  unfold turnM
  cases hc : p.Up && (inR r 1 3 && portOk p)
  · exact hp
  · rw [cond_true]
    simp only [Bool.and_eq_true] at hc
    obtain ⟨hu, hr, _⟩ := hc
    have hr' := in_b hr
    unfold portOk openB inR at hp ⊢
    simp only [Bool.and_eq_true, decide_eq_true_eq] at hp ⊢
    obtain ⟨h1, ⟨⟨h2, h3⟩, h4⟩, h5⟩ := hp
    refine ⟨h1, ⟨⟨⟨by omega, by omega⟩, ?_⟩, ?_⟩, ?_⟩
    · rw [hu]
      simp
      omega
    · unfold turnW
      cases r == 3 <;> cases p.Role == 3 <;> simp only [cond_true, cond_false] <;> omega
    · unfold openRW
      simp
theorem link_ok (up : Bool) : portOk (linkP up) = true := by cases up <;> rfl
theorem decP_ok {b : Bridge} {i : Nat} {p : Port} (hp : portOk p = true) : portOk (decP b i p) = true := by
  unfold decP
  cases p.Up
  · exact hp
  · exact turn_ok hp
theorem decL_ok (b : Bridge) : ∀ (ps : List Port) (i : Nat), ps.all portOk = true → (decL b i ps).all portOk = true
  | [], _, _ => rfl
  | p :: ps, i, h => by
    rw [List.all_cons, Bool.and_eq_true] at h
    show (portOk (decP b i p) && (decL b (i + 1) ps).all portOk) = true
    rw [decP_ok h.1, decL_ok b ps (i + 1) h.2]
    rfl
theorem bridge_parts {b : Bridge} (h : bridgeOk b = true) : b.Ports.all portOk = true ∧ inR b.Id 1 9 = true ∧ inR (b.Ports.length : Int) 1 4 = true := by
  unfold bridgeOk at h
  simp only [Bool.and_eq_true] at h
  exact h
theorem bridge_mk {b : Bridge} {ps : List Port} (h : bridgeOk b = true) (hp : ps.all portOk = true) (hl : ps.length = b.Ports.length) : bridgeOk ⟨b.Id, ps⟩ = true := by
  obtain ⟨_, h2, h3⟩ := bridge_parts h
  unfold bridgeOk
  simp only [hp, h2, hl, h3, Bool.and_self]
theorem decide_ok {b : Bridge} (h : bridgeOk b = true) : bridgeOk (decideM b) = true := bridge_mk h (decL_ok b b.Ports 0 (bridge_parts h).1) (decL_len b b.Ports 0)
theorem all_set {ps : List Port} {p : Port} (h : ps.all portOk = true) (hp : portOk p = true) (k : Nat) : (ps.set k p).all portOk = true := by
  rw [List.all_eq_true] at h ⊢
  intro x hx
  rcases List.mem_or_eq_of_mem_set hx with h1 | h1
  · exact h x h1
  · rw [h1]; exact hp
theorem at_ok {b : Bridge} (h : bridgeOk b = true) (x : In) : portOk (atP b x) = true := by
  unfold atP
  rw [List.getD_eq_getElem?_getD]
  cases hk : b.Ports[x.Port.toNat]?
  · rfl
  · exact List.all_eq_true.1 (bridge_parts h).1 _ (List.mem_of_getElem? hk)
theorem in_ok {b : Bridge} (h : bridgeOk b = true) (x : In) : bridgeOk (inM b x) = true := by
  have hp := (bridge_parts h).1
  unfold inM
  cases x.Kind == 1
  · cases x.Kind == 2
    · exact bridge_mk h (all_set hp (link_ok _) _) (List.length_set ..)
    · refine bridge_mk h ?_ (List.length_map ..)
      rw [List.all_eq_true] at hp ⊢
      intro y hy
      obtain ⟨z, hz, rfl⟩ := List.mem_map.1 hy
      exact tick_ok (hp z hz)
  · exact bridge_mk h (all_set hp (claim_ok (at_ok h x)) _) (List.length_set ..)
theorem new_bok {b : Bridge} (h : bridgeOk b = true) (x : In) : bridgeOk (newB b x) = true := by
  unfold newB
  cases stillB b x
  · exact decide_ok (in_ok h x)
  · exact h
theorem react_ok {b : Bridge} (h : bridgeOk b = true) (x : In) : bridgeOk (reactB b x) = true := by
  unfold reactB
  cases canB b x
  · exact h
  · exact new_bok h x
def openP (q : Port) : Port := ⟨q.Up, q.Has, q.Vec, q.Hops, q.Left, q.Role, q.Wait, openRW q.Role q.Wait⟩
def l8tickP (p : Port) : Port := openP (waitP (fadeM p))
theorem open_id {p : Port} (h : portOk p = true) : openP p = p := by
  unfold portOk openB at h
  simp only [Bool.and_eq_true, beq_iff_eq] at h
  obtain ⟨_, _, h5⟩ := h
  unfold openP openRW
  cases p
  simp only at h5 ⊢
  rw [h5]
theorem l8tick_ok {p : Port} (h : portOk p = true) : l8tickP p = tickP p := open_id (tick_ok h)
theorem gatesL_same : ∀ (ps : List Port) (i : Nat), gatesL i ps ps = []
  | [], _ => rfl
  | p :: ps, i => by
    unfold gatesL
    rw [bne_self_eq_false, cond_false]
    exact gatesL_same ps (i + 1)
theorem ge_not (a b : Int) : decide (a ≥ b) = !decide (a < b) := by
  by_cases h : a < b
  · rw [decide_eq_true h, decide_eq_false (by omega)]; rfl
  · rw [decide_eq_false h, decide_eq_true (by omega)]; rfl
theorem fade_left {p : Port} (hh : p.Has = true) (hp : portOk p = true) : 1 ≤ p.Left ∧ p.Left ≤ 3 := by
  unfold portOk inR at hp
  simp only [hh, cond_true, Bool.and_eq_true, decide_eq_true_eq] at hp
  exact hp.1.2.2.2
theorem wait_b {p : Port} (hp : portOk p = true) : 0 ≤ p.Wait ∧ p.Wait ≤ 4 := by
  unfold portOk inR at hp
  simp only [Bool.and_eq_true, decide_eq_true_eq] at hp
  exact hp.2.1.2
theorem mix_len {α : Type} {T P : List α} (h : T.length = P.length) (i : Nat) : (T.take i ++ P.drop i).length = P.length := by
  rw [List.length_append, List.length_take, List.length_drop]
  omega
theorem mix_get {α : Type} {T P : List α} {i : Nat} (hl : T.length = P.length) (hi : i < P.length) (h : i < (T.take i ++ P.drop i).length) : (T.take i ++ P.drop i)[i] = P[i] := by
  have h1 : (T.take i).length = i := by rw [List.length_take]; omega
  rw [List.getElem_append_right (by omega), List.getElem_drop]
  congr 1
  omega
theorem mix_set {α : Type} {T P : List α} {i : Nat} {x : α} (hl : T.length = P.length) (hi : i < P.length) (hx : T[i]'(by omega) = x) : (T.take i ++ P.drop i).set i x = T.take (i + 1) ++ P.drop (i + 1) := by
  rw [List.drop_eq_getElem_cons hi, mid_set (T.take i) P[i] x (P.drop (i + 1)) (by rw [List.length_take]; omega), ← hx, List.take_append_getElem]
theorem mix_keep {α : Type} {T P : List α} {i : Nat} (hl : T.length = P.length) (hi : i < P.length) (hx : T[i]'(by omega) = P[i]) : T.take i ++ P.drop i = T.take (i + 1) ++ P.drop (i + 1) := by
  rw [List.drop_eq_getElem_cons hi, ← List.take_append_getElem (show i < T.length by omega), hx, List.append_assoc]
  rfl
theorem mix_map {α β : Type} {g : α → β} {T P : List α} (h : T.map g = P.map g) (i : Nat) : (T.take i ++ P.drop i).map g = P.map g := by
  rw [List.map_append, List.map_take, List.map_drop, h, List.take_append_drop]
theorem decL_get (b : Bridge) : ∀ (ps : List Port) (i k : Nat) (h : k < ps.length), (decL b i ps)[k]'(by rw [decL_len]; exact h) = decP b (i + k) ps[k]
  | p :: ps, i, 0, _ => rfl
  | p :: ps, i, k + 1, h => by
    have hk : k < ps.length := by rw [List.length_cons] at h; omega
    have := decL_get b ps (i + 1) k hk
    refine Eq.trans (b := decP b (i + 1 + k) ps[k]) this ?_
    rw [show i + 1 + k = i + (k + 1) by omega]
    rfl
theorem ne_sym (x y : Int) : (x != y) = !(y == x) := by
  by_cases h : x = y
  · subst h; simp
  · have h2 : y ≠ x := fun e => h e.symm
    rw [bne, beq_eq_false_iff_ne.2 h, beq_eq_false_iff_ne.2 h2]
theorem bridge_le4 {b : Bridge} (h : bridgeOk b = true) : b.Ports.length ≤ 4 := by
  have := (bridge_parts h).2.2
  unfold inR at this
  simp only [Bool.and_eq_true, decide_eq_true_eq] at this
  omega
theorem root_step {R : Type} {id : Int} {all : List Port} {i : Nat} {p : Port} {best : Int} {X : R} (F : Int → R) (hX : decide (best < 0) = false → X = bif betterB p.Vec (bestAt all best) then F (Int.ofNat i) else F best) :
    (bif !p.Has then F best else bif p.Vec.Bridge == id then F best else bif !decide (p.Vec.Root < id) then F best else bif !decide (p.Vec.Cost < 20) then F best else bif !decide (p.Hops < 8) then F best else bif decide (best < 0) then F (Int.ofNat i) else X) = F (rootS id all i p best) := by
  unfold rootS candB
  cases p.Has
  · rfl
  cases p.Vec.Bridge == id
  case true => rfl
  cases decide (p.Vec.Root < id)
  · rfl
  cases decide (p.Vec.Cost < 20)
  · rfl
  cases decide (p.Hops < 8)
  · rfl
  cases c6 : decide (best < 0)
  case true => rfl
  rw [cond_false, hX c6]
  cases betterB p.Vec (bestAt all best) <;> rfl
theorem bestAt_nat {all : List Port} {k : Nat} (hk : k < all.length) : bestAt all (k : Int) = all[k].Vec := by
  unfold bestAt
  rw [Int.toNat_natCast, List.getD_eq_getElem?_getD, List.getElem?_eq_getElem hk]
  rfl
theorem dec_step {R : Type} {b : Bridge} {i : Nat} {p : Port} {ys : List Port} {r : R} (F : List Port → R) (hkeep : decP b i p = p → F ys = r) (hput : ∀ x, decP b i p = x → F (ys.set i x) = r) :
    (bif !p.Up then F ys else bif Int.ofNat i == rootM b then F (ys.set i (turnM p 1)) else bif p.Has then bif betterB p.Vec (ownM b (Int.ofNat i)) then F (ys.set i (turnM p 3)) else F (ys.set i (turnM p 2)) else F (ys.set i (turnM p 2))) = r := by
  unfold decP roleP at hkeep hput
  cases hu : p.Up
  · rw [hu] at hkeep
    exact hkeep rfl
  rw [hu] at hput
  cases h1 : (i : Int) == rootM b
  case true =>
    rw [h1] at hput
    exact hput _ rfl
  rw [h1] at hput
  cases h2 : p.Has
  · rw [h2] at hput
    exact hput _ rfl
  rw [h2] at hput
  cases h3 : betterB p.Vec (ownM b (i : Int))
  · rw [h3] at hput
    exact hput _ rfl
  · rw [h3] at hput
    exact hput _ rfl
theorem wait_step {R : Type} {q : Port} (hw : IntKind.wrap IntKind.i64 (q.Wait - 1) = q.Wait - 1) (F : List D → R) :
    (bif q.Role == 1 then bif decide (q.Wait > 0) then F [D.bool q.Up, D.bool q.Has, D.int .i64 q.Vec.Root, D.int .i64 q.Vec.Cost, D.int .i64 q.Vec.Bridge, D.int .i64 q.Vec.Port, D.int .i64 q.Hops, D.int .i64 q.Left, D.int .i64 q.Role, D.int .i64 (IntKind.wrap IntKind.i64 (q.Wait - 1)), D.bool (openB ⟨q.Up, q.Has, q.Vec, q.Hops, q.Left, q.Role, IntKind.wrap IntKind.i64 (q.Wait - 1), q.Open⟩)] else F (Go.Ev.En.enc true q)
     else bif q.Role == 2 then bif decide (q.Wait > 0) then F [D.bool q.Up, D.bool q.Has, D.int .i64 q.Vec.Root, D.int .i64 q.Vec.Cost, D.int .i64 q.Vec.Bridge, D.int .i64 q.Vec.Port, D.int .i64 q.Hops, D.int .i64 q.Left, D.int .i64 q.Role, D.int .i64 (IntKind.wrap IntKind.i64 (q.Wait - 1)), D.bool (openB ⟨q.Up, q.Has, q.Vec, q.Hops, q.Left, q.Role, IntKind.wrap IntKind.i64 (q.Wait - 1), q.Open⟩)] else F (Go.Ev.En.enc true q) else F (Go.Ev.En.enc true q)) = F (Go.Ev.En.enc true (waitP q)) := by
  rw [hw]
  unfold waitP
  cases q.Role == 1
  · cases q.Role == 2
    · rfl
    · cases decide (q.Wait > 0) <;> rfl
  · cases decide (q.Wait > 0) <;> rfl
def portR (x : Port) : Go.Ev.RR := some ([Go.Ev.En.enc true x], [])
end Go.Md
namespace Go.Ev
open Go.Md
def o118 (x : Int) : Bool × List Row × List Row := (true, [[.bool (false)]], [])
def c118 : Contract
  | [[.int .i64 x]] => some ((o118 x).1, (o118 x).2.1, (o118 x).2.2)
  | _ => none

theorem r118 (x : Int) (n : Nat) : evFn ⟨prog, Hx, 118⟩ T86.call n f118 [[.int .i64 x]] = some ([[D.bool (x != x)]], []) := by kernel_rfl
theorem m118 (x : Int) (hpre : (o118 x).1 = true) : evFn ⟨Go.Proofs.Try.prog, Hx, 118⟩ T86.call 0 f118 [[.int .i64 x]] = some (o118 x).2 := by
  refine (r118 x _).trans ?_
  show _ = (some ([[.bool (false)]], []) : Option (List Row × List Row))
  replace hpre : (true) = true := hpre
  simp only [bne_self_eq_false]
theorem s118 : SoundAt Go.Proofs.Try.prog Hx 118 c118 := soundAt_of T86_sound mixed func118 (by kernel_rfl) (by
  intro rows r h
  unfold c118 at h
  split at h
  · rename_i x
    obtain ⟨hp, hr⟩ := Prod.mk.inj (Option.some.inj h)
    subst hr
    exact ⟨_, m118 x hp⟩
  · cases h)
def T118 : Table := (118, c118) :: T86
theorem T118_sound : Table.Sound Go.Proofs.Try.prog Hx T118 := Table.sound_cons s118 T86_sound
def o117 (x : Int) (y : Int) : Bool × List Row × List Row := (true, [[.int .i64 (cmpI x y)]], [])
def c117 : Contract
  | [[.int .i64 x], [.int .i64 y]] => some ((o117 x y).1, (o117 x y).2.1, (o117 x y).2.2)
  | _ => none

theorem r117 (x : Int) (y : Int) (n : Nat) : evFn ⟨prog, Hx, 117⟩ T118.call n f117 [[.int .i64 x], [.int .i64 y]] = bif decide (x < y) then some ([[D.int i64 (Int.negSucc 0)]], []) else bif decide (x > y) then some ([[D.int i64 (1)]], []) else some ([[D.int i64 (0)]], []) := by kernel_rfl
theorem m117 (x : Int) (y : Int) (hpre : (o117 x y).1 = true) : evFn ⟨Go.Proofs.Try.prog, Hx, 117⟩ T118.call 0 f117 [[.int .i64 x], [.int .i64 y]] = some (o117 x y).2 := by
  refine (r117 x y _).trans ?_
  show _ = (some ([[.int .i64 (cmpI x y)]], []) : Option (List Row × List Row))
  replace hpre : (true) = true := hpre
  unfold cmpI
  cases decide (x < y) <;> cases decide (x > y) <;> rfl
theorem s117 : SoundAt Go.Proofs.Try.prog Hx 117 c117 := soundAt_of T118_sound mixed func117 (by kernel_rfl) (by
  intro rows r h
  unfold c117 at h
  split at h
  · rename_i x y
    obtain ⟨hp, hr⟩ := Prod.mk.inj (Option.some.inj h)
    subst hr
    exact ⟨_, m117 x y hp⟩
  · cases h)
def T117 : Table := (117, c117) :: T118
theorem T117_sound : Table.Sound Go.Proofs.Try.prog Hx T117 := Table.sound_cons s117 T118_sound
def o116 (vals : List Int) : Bool × List Row × List Row := (decide (vals.length ≤ 1048576), [[.int .i64 (orL vals)]], [])
def c116 : Contract
  | [[.sl false 1 vals]] => some (isS Int false vals && (o116 (deS Int vals)).1, (o116 (deS Int vals)).2.1, (o116 (deS Int vals)).2.2)
  | _ => none

def k116_0 (n : Nat) : Ex → St → RR := kThen (fun st ↦ runCode (Ctx.mk prog Hx (116)) (Table.call T117) n (codeAt [1, 1, 1] (bodyOf f116)) (Lv.mk 4 [] 4) st (kLeave (Ctx.P (Ctx.mk prog Hx (116))) (List.zip (Array.toList (Go.Func.resultTypes f116)) (Array.toList (Go.Func.results f116))) [] [])) (kLeave (Ctx.P (Ctx.mk prog Hx (116))) (List.zip (Array.toList (Go.Func.resultTypes f116)) (Array.toList (Go.Func.results f116))) [] [])
def k116_1 (n : Nat) : Ex → St → RR := kBlock (0) (k116_0 n)
def S116_0 (vals : List Int) (i0 : Int) : St := St.mk (U_ :: U_ :: U_ :: I_ (0) :: U_ :: U_ :: V_ [C.d (D.sl false 1 (enS false vals))] :: I_ (ofNat (length (enS false vals))) :: I_ i0 :: u_ 9 []) []
def B116_0 (n : Nat) : St → (Ex → St → RR) → RR := runCode (Ctx.mk prog Hx (116)) (Table.call T117) n (codeAt [1, 1, 0, 1, 0, 0] (bodyOf f116)) (Lv.mk 456 [(0, 8)] 4)
def X116_2 (vals : List Int) (i0 : Int) : St := St.mk (U_ :: U_ :: I_ (D.num (getD (getD (enS false vals) (toNat i0) []) 0 D.dead)) :: u_ 15 []) []
def X116_3 : St := St.mk (U_ :: U_ :: U_ :: I_ (0) :: u_ 14 []) []
theorem q116_0 (vals : List Int) (n : Nat) (i0 : Int) (f : St → RR) (K : Ex → St → RR) : B116_0 n (S116_0 vals i0) (kThen (fun st ↦ f (St.head 0 456 130852 st)) K) = bif decide (i0 < ofNat (length (enS false vals))) then bif decide (0 ≤ i0) && decide (i0 < ofNat (length (enS false vals))) then bif Leaf.fit false (Leaf.int i64) (getD (getD (enS false vals) (toNat i0) []) 0 D.dead) && true then bif D.num (getD (getD (enS false vals) (toNat i0) []) 0 D.dead) != 0 then K Ex.ret (X116_2 vals i0) else f (S116_0 vals (wrap i64 (i0 + 1))) else none else none else K (Ex.exit 0) X116_3 := by kernel_rfl
theorem aX116_2 (vals : List Int) (n : Nat) (i0 : Int) : k116_1 n Ex.ret (X116_2 vals i0) = some ([[D.int i64 (D.num (getD (getD (enS false vals) (toNat i0) []) 0 D.dead))]], []) := by kernel_rfl
theorem aX116_3 (n : Nat) : k116_1 n (Ex.exit 0) X116_3 = some ([[D.int i64 (0)]], []) := by kernel_rfl
theorem r116 (vals : List Int) (n : Nat) : evFn ⟨prog, Hx, 116⟩ T117.call n f116 [[.sl false 1 (enS false vals)]] = loopRun (B116_0 n) 0 456 130852 n (S116_0 vals (0)) (k116_1 n) := by kernel_rfl
theorem m116 (vals : List Int) (hpre : (o116 vals).1 = true) : evFn ⟨Go.Proofs.Try.prog, Hx, 116⟩ T117.call (vals.length + 1) f116 [[.sl false 1 (enS false vals)]] = some (o116 vals).2 := by
  refine (r116 vals _).trans ?_
  show _ = (some ([[.int .i64 (orL vals)]], []) : Option (List Row × List Row))
  replace hpre : (decide (vals.length ≤ 1048576)) = true := hpre
  have hlen := of_decide_eq_true hpre
  refine loop_list (xs := vals) (fun i (_ : Unit) => S116_0 vals (Int.ofNat i)) (fun _ _ => True) (fun _ _ rest => some ([[D.int .i64 (orL rest)]], [])) ?_ ?_ (vals.length + 1) () (by omega) trivial
  · rintro _ _ f
    refine (q116_0 vals _ _ f _).trans ?_
    rw [end_lt, cond_false]
    exact aX116_3 _
  · rintro i _ hi _ f hf
    refine (q116_0 vals _ _ f _).trans ?_
    rw [orL_cons]
    simp only [gos, En.enc, D.num, D.flag, D.text, D.rows, Leaf.fit, etas, enS_get _ hi, hi, wrap_succ (show i < 4611686018427387904 by omega)]
    cases h : vals[i] != 0
    · simp only [gos, En.enc, D.num, D.flag, D.text, D.rows, Leaf.fit, etas]
      exact hf () trivial
    · simp only [gos, En.enc, D.num, D.flag, D.text, D.rows, Leaf.fit, etas]
      refine (aX116_2 _ _ _).trans ?_
      simp only [gos, En.enc, D.num, D.flag, D.text, D.rows, Leaf.fit, etas, enS_get _ hi, hi, wrap_succ (show i < 4611686018427387904 by omega)]
theorem s116 : SoundAt Go.Proofs.Try.prog Hx 116 c116 := soundAt_of T117_sound mixed func116 (by kernel_rfl) (by
  intro rows r h
  unfold c116 at h
  split at h
  · rename_i vals
    obtain ⟨hp, hr⟩ := Prod.mk.inj (Option.some.inj h)
    subst hr
    simp only [Bool.and_eq_true] at hp
    obtain ⟨hs0, hp⟩ := hp
    obtain ⟨xs0, rfl⟩ := isS_ex hs0
    simp only [deS_enS] at hp ⊢
    exact ⟨_, m116 xs0 hp⟩
  · cases h)
def T116 : Table := (116, c116) :: T117
theorem T116_sound : Table.Sound Go.Proofs.Try.prog Hx T116 := Table.sound_cons s116 T117_sound
def o111 (a : Vec) (b : Vec) : Bool × List Row × List Row := (true, [[.bool (betterB a b)]], [])
def c111 : Contract
  | [[.int .i64 a_Root, .int .i64 a_Cost, .int .i64 a_Bridge, .int .i64 a_Port], [.int .i64 b_Root, .int .i64 b_Cost, .int .i64 b_Bridge, .int .i64 b_Port]] => some ((o111 ⟨a_Root, a_Cost, a_Bridge, a_Port⟩ ⟨b_Root, b_Cost, b_Bridge, b_Port⟩).1, (o111 ⟨a_Root, a_Cost, a_Bridge, a_Port⟩ ⟨b_Root, b_Cost, b_Bridge, b_Port⟩).2.1, (o111 ⟨a_Root, a_Cost, a_Bridge, a_Port⟩ ⟨b_Root, b_Cost, b_Bridge, b_Port⟩).2.2)
  | _ => none

theorem r111 (a : Vec) (b : Vec) (n : Nat) : evFn ⟨prog, Hx, 111⟩ T116.call n f111 [[.int .i64 a.Root, .int .i64 a.Cost, .int .i64 a.Bridge, .int .i64 a.Port], [.int .i64 b.Root, .int .i64 b.Cost, .int .i64 b.Bridge, .int .i64 b.Port]] = bif isS Int false [[D.int i64 (cmpI (Vec.Root a) (Vec.Root b))], [D.int i64 (cmpI (Vec.Cost a) (Vec.Cost b))], [D.int i64 (cmpI (Vec.Bridge a) (Vec.Bridge b))], [D.int i64 (cmpI (Vec.Port a) (Vec.Port b))]] && decide (length (deS Int [[D.int i64 (cmpI (Vec.Root a) (Vec.Root b))], [D.int i64 (cmpI (Vec.Cost a) (Vec.Cost b))], [D.int i64 (cmpI (Vec.Bridge a) (Vec.Bridge b))], [D.int i64 (cmpI (Vec.Port a) (Vec.Port b))]]) ≤ 1048576) then some ([[D.bool (decide (orL (deS Int [[D.int i64 (cmpI (Vec.Root a) (Vec.Root b))], [D.int i64 (cmpI (Vec.Cost a) (Vec.Cost b))], [D.int i64 (cmpI (Vec.Bridge a) (Vec.Bridge b))], [D.int i64 (cmpI (Vec.Port a) (Vec.Port b))]]) < 0))]], []) else none := by kernel_rfl
theorem m111 (a : Vec) (b : Vec) (hpre : (o111 a b).1 = true) : evFn ⟨Go.Proofs.Try.prog, Hx, 111⟩ T116.call 0 f111 [[.int .i64 a.Root, .int .i64 a.Cost, .int .i64 a.Bridge, .int .i64 a.Port], [.int .i64 b.Root, .int .i64 b.Cost, .int .i64 b.Bridge, .int .i64 b.Port]] = some (o111 a b).2 := by
  refine (r111 a b _).trans ?_
  show _ = (some ([[.bool (betterB a b)]], []) : Option (List Row × List Row))
  replace hpre : (true) = true := hpre
  refine (congrArg (fun z => (bif isS Int false z && decide (List.length (deS Int z) ≤ 1048576) then some ([[D.bool (decide (orL (deS Int z) < 0))]], []) else none : RR)) (show _ = enS false [cmpI a.Root b.Root, cmpI a.Cost b.Cost, cmpI a.Bridge b.Bridge, cmpI a.Port b.Port] from rfl)).trans ?_
  simp only [isS_enS, deS_enS, better_or]
  rfl
theorem s111 : SoundAt Go.Proofs.Try.prog Hx 111 c111 := soundAt_of T116_sound mixed func111 (by kernel_rfl) (by
  intro rows r h
  unfold c111 at h
  split at h
  · rename_i a_Root a_Cost a_Bridge a_Port b_Root b_Cost b_Bridge b_Port
    obtain ⟨hp, hr⟩ := Prod.mk.inj (Option.some.inj h)
    subst hr
    exact ⟨_, m111 ⟨a_Root, a_Cost, a_Bridge, a_Port⟩ ⟨b_Root, b_Cost, b_Bridge, b_Port⟩ hp⟩
  · cases h)
def T111 : Table := (111, c111) :: T116
theorem T111_sound : Table.Sound Go.Proofs.Try.prog Hx T111 := Table.sound_cons s111 T116_sound
def o115 (a : Vec) (b : Vec) : Bool × List Row × List Row := (true, [[.bool (betterB a b)]], [])
def c115 : Contract
  | [[.int .i64 a_Root, .int .i64 a_Cost, .int .i64 a_Bridge, .int .i64 a_Port], [.int .i64 b_Root, .int .i64 b_Cost, .int .i64 b_Bridge, .int .i64 b_Port]] => some ((o115 ⟨a_Root, a_Cost, a_Bridge, a_Port⟩ ⟨b_Root, b_Cost, b_Bridge, b_Port⟩).1, (o115 ⟨a_Root, a_Cost, a_Bridge, a_Port⟩ ⟨b_Root, b_Cost, b_Bridge, b_Port⟩).2.1, (o115 ⟨a_Root, a_Cost, a_Bridge, a_Port⟩ ⟨b_Root, b_Cost, b_Bridge, b_Port⟩).2.2)
  | _ => none

theorem r115 (a : Vec) (b : Vec) (n : Nat) : evFn ⟨prog, Hx, 115⟩ T111.call n f115 [[.int .i64 a.Root, .int .i64 a.Cost, .int .i64 a.Bridge, .int .i64 a.Port], [.int .i64 b.Root, .int .i64 b.Cost, .int .i64 b.Bridge, .int .i64 b.Port]] = bif Vec.Root a != Vec.Root b then some ([[D.bool (decide (Vec.Root a < Vec.Root b))]], []) else bif Vec.Cost a != Vec.Cost b then some ([[D.bool (decide (Vec.Cost a < Vec.Cost b))]], []) else bif Vec.Bridge a != Vec.Bridge b then some ([[D.bool (decide (Vec.Bridge a < Vec.Bridge b))]], []) else some ([[D.bool (decide (Vec.Port a < Vec.Port b))]], []) := by kernel_rfl
theorem m115 (a : Vec) (b : Vec) (hpre : (o115 a b).1 = true) : evFn ⟨Go.Proofs.Try.prog, Hx, 115⟩ T111.call 0 f115 [[.int .i64 a.Root, .int .i64 a.Cost, .int .i64 a.Bridge, .int .i64 a.Port], [.int .i64 b.Root, .int .i64 b.Cost, .int .i64 b.Bridge, .int .i64 b.Port]] = some (o115 a b).2 := by
  refine (r115 a b _).trans ?_
  show _ = (some ([[.bool (betterB a b)]], []) : Option (List Row × List Row))
  replace hpre : (true) = true := hpre
  unfold betterB
  cases a.Root != b.Root <;> cases a.Cost != b.Cost <;> cases a.Bridge != b.Bridge <;> rfl
theorem s115 : SoundAt Go.Proofs.Try.prog Hx 115 c115 := soundAt_of T111_sound mixed func115 (by kernel_rfl) (by
  intro rows r h
  unfold c115 at h
  split at h
  · rename_i a_Root a_Cost a_Bridge a_Port b_Root b_Cost b_Bridge b_Port
    obtain ⟨hp, hr⟩ := Prod.mk.inj (Option.some.inj h)
    subst hr
    exact ⟨_, m115 ⟨a_Root, a_Cost, a_Bridge, a_Port⟩ ⟨b_Root, b_Cost, b_Bridge, b_Port⟩ hp⟩
  · cases h)
def T115 : Table := (115, c115) :: T111
theorem T115_sound : Table.Sound Go.Proofs.Try.prog Hx T115 := Table.sound_cons s115 T111_sound
def o98 (p : Port) (v : Vec) (hops : Int) : Bool × List Row × List Row := (true, [[.bool (claimM p v hops).Up, .bool (claimM p v hops).Has, .int .i64 (claimM p v hops).Vec.Root, .int .i64 (claimM p v hops).Vec.Cost, .int .i64 (claimM p v hops).Vec.Bridge, .int .i64 (claimM p v hops).Vec.Port, .int .i64 (claimM p v hops).Hops, .int .i64 (claimM p v hops).Left, .int .i64 (claimM p v hops).Role, .int .i64 (claimM p v hops).Wait, .bool (claimM p v hops).Open]], [])
def c98 : Contract
  | [[.bool p_Up, .bool p_Has, .int .i64 p_Vec_Root, .int .i64 p_Vec_Cost, .int .i64 p_Vec_Bridge, .int .i64 p_Vec_Port, .int .i64 p_Hops, .int .i64 p_Left, .int .i64 p_Role, .int .i64 p_Wait, .bool p_Open], [.int .i64 v_Root, .int .i64 v_Cost, .int .i64 v_Bridge, .int .i64 v_Port], [.int .i64 hops]] => some ((o98 ⟨p_Up, p_Has, ⟨p_Vec_Root, p_Vec_Cost, p_Vec_Bridge, p_Vec_Port⟩, p_Hops, p_Left, p_Role, p_Wait, p_Open⟩ ⟨v_Root, v_Cost, v_Bridge, v_Port⟩ hops).1, (o98 ⟨p_Up, p_Has, ⟨p_Vec_Root, p_Vec_Cost, p_Vec_Bridge, p_Vec_Port⟩, p_Hops, p_Left, p_Role, p_Wait, p_Open⟩ ⟨v_Root, v_Cost, v_Bridge, v_Port⟩ hops).2.1, (o98 ⟨p_Up, p_Has, ⟨p_Vec_Root, p_Vec_Cost, p_Vec_Bridge, p_Vec_Port⟩, p_Hops, p_Left, p_Role, p_Wait, p_Open⟩ ⟨v_Root, v_Cost, v_Bridge, v_Port⟩ hops).2.2)
  | _ => none

theorem r98 (p : Port) (v : Vec) (hops : Int) (n : Nat) : evFn ⟨prog, Hx, 98⟩ T115.call n f98 [[.bool p.Up, .bool p.Has, .int .i64 p.Vec.Root, .int .i64 p.Vec.Cost, .int .i64 p.Vec.Bridge, .int .i64 p.Vec.Port, .int .i64 p.Hops, .int .i64 p.Left, .int .i64 p.Role, .int .i64 p.Wait, .bool p.Open], [.int .i64 v.Root, .int .i64 v.Cost, .int .i64 v.Bridge, .int .i64 v.Port], [.int .i64 hops]] = bif !Port.Up p then some ([En.enc true p], []) else bif !isHopsB hops then some ([En.enc true p], []) else bif !vecOk v then some ([En.enc true p], []) else bif !portOk p then some ([En.enc true p], []) else bif Vec.Bridge v == Vec.Bridge (Port.Vec p) then bif Port.Has p then bif betterB (Port.Vec p) v then bif !Vec.Port v == Vec.Port (Port.Vec p) then some ([En.enc true p], []) else some ([[D.bool (Port.Up p), D.bool true, D.int i64 (Vec.Root v), D.int i64 (Vec.Cost v), D.int i64 (Vec.Bridge v), D.int i64 (Vec.Port v), D.int i64 hops, D.int i64 (3), D.int i64 (Port.Role p), D.int i64 (Port.Wait p), D.bool (Port.Open p)]], []) else some ([[D.bool (Port.Up p), D.bool true, D.int i64 (Vec.Root v), D.int i64 (Vec.Cost v), D.int i64 (Vec.Bridge v), D.int i64 (Vec.Port v), D.int i64 hops, D.int i64 (3), D.int i64 (Port.Role p), D.int i64 (Port.Wait p), D.bool (Port.Open p)]], []) else some ([[D.bool (Port.Up p), D.bool true, D.int i64 (Vec.Root v), D.int i64 (Vec.Cost v), D.int i64 (Vec.Bridge v), D.int i64 (Vec.Port v), D.int i64 hops, D.int i64 (3), D.int i64 (Port.Role p), D.int i64 (Port.Wait p), D.bool (Port.Open p)]], []) else bif Port.Has p then bif betterB (Port.Vec p) v then some ([En.enc true p], []) else some ([[D.bool (Port.Up p), D.bool true, D.int i64 (Vec.Root v), D.int i64 (Vec.Cost v), D.int i64 (Vec.Bridge v), D.int i64 (Vec.Port v), D.int i64 hops, D.int i64 (3), D.int i64 (Port.Role p), D.int i64 (Port.Wait p), D.bool (Port.Open p)]], []) else some ([[D.bool (Port.Up p), D.bool true, D.int i64 (Vec.Root v), D.int i64 (Vec.Cost v), D.int i64 (Vec.Bridge v), D.int i64 (Vec.Port v), D.int i64 hops, D.int i64 (3), D.int i64 (Port.Role p), D.int i64 (Port.Wait p), D.bool (Port.Open p)]], []) := by kernel_rfl
theorem m98 (p : Port) (v : Vec) (hops : Int) (hpre : (o98 p v hops).1 = true) : evFn ⟨Go.Proofs.Try.prog, Hx, 98⟩ T115.call 0 f98 [[.bool p.Up, .bool p.Has, .int .i64 p.Vec.Root, .int .i64 p.Vec.Cost, .int .i64 p.Vec.Bridge, .int .i64 p.Vec.Port, .int .i64 p.Hops, .int .i64 p.Left, .int .i64 p.Role, .int .i64 p.Wait, .bool p.Open], [.int .i64 v.Root, .int .i64 v.Cost, .int .i64 v.Bridge, .int .i64 v.Port], [.int .i64 hops]] = some (o98 p v hops).2 := by
  refine (r98 p v hops _).trans ?_
  show _ = (some ([[.bool (claimM p v hops).Up, .bool (claimM p v hops).Has, .int .i64 (claimM p v hops).Vec.Root, .int .i64 (claimM p v hops).Vec.Cost, .int .i64 (claimM p v hops).Vec.Bridge, .int .i64 (claimM p v hops).Vec.Port, .int .i64 (claimM p v hops).Hops, .int .i64 (claimM p v hops).Left, .int .i64 (claimM p v hops).Role, .int .i64 (claimM p v hops).Wait, .bool (claimM p v hops).Open]], []) : Option (List Row × List Row))
  replace hpre : (true) = true := hpre
  show _ = portR (claimM p v hops)
  unfold claimM claimT
  cases p.Up
  · rfl
  cases isHopsB hops
  · rfl
  cases vecOk v
  · rfl
  cases portOk p
  · rfl
  cases p.Has <;> cases betterB p.Vec v <;> cases v.Bridge == p.Vec.Bridge <;> cases v.Port == p.Vec.Port <;> rfl
theorem s98 : SoundAt Go.Proofs.Try.prog Hx 98 c98 := soundAt_of T115_sound mixed func98 (by kernel_rfl) (by
  intro rows r h
  unfold c98 at h
  split at h
  · rename_i p_Up p_Has p_Vec_Root p_Vec_Cost p_Vec_Bridge p_Vec_Port p_Hops p_Left p_Role p_Wait p_Open v_Root v_Cost v_Bridge v_Port hops
    obtain ⟨hp, hr⟩ := Prod.mk.inj (Option.some.inj h)
    subst hr
    exact ⟨_, m98 ⟨p_Up, p_Has, ⟨p_Vec_Root, p_Vec_Cost, p_Vec_Bridge, p_Vec_Port⟩, p_Hops, p_Left, p_Role, p_Wait, p_Open⟩ ⟨v_Root, v_Cost, v_Bridge, v_Port⟩ hops hp⟩
  · cases h)
def T98 : Table := (98, c98) :: T115
theorem T98_sound : Table.Sound Go.Proofs.Try.prog Hx T98 := Table.sound_cons s98 T115_sound
def o104 (p : Port) (v : Vec) (hops : Int) : Bool × List Row × List Row := (true, [[.bool (claimM p v hops).Up, .bool (claimM p v hops).Has, .int .i64 (claimM p v hops).Vec.Root, .int .i64 (claimM p v hops).Vec.Cost, .int .i64 (claimM p v hops).Vec.Bridge, .int .i64 (claimM p v hops).Vec.Port, .int .i64 (claimM p v hops).Hops, .int .i64 (claimM p v hops).Left, .int .i64 (claimM p v hops).Role, .int .i64 (claimM p v hops).Wait, .bool (claimM p v hops).Open]], [])
def c104 : Contract
  | [[.bool p_Up, .bool p_Has, .int .i64 p_Vec_Root, .int .i64 p_Vec_Cost, .int .i64 p_Vec_Bridge, .int .i64 p_Vec_Port, .int .i64 p_Hops, .int .i64 p_Left, .int .i64 p_Role, .int .i64 p_Wait, .bool p_Open], [.int .i64 v_Root, .int .i64 v_Cost, .int .i64 v_Bridge, .int .i64 v_Port], [.int .i64 hops]] => some ((o104 ⟨p_Up, p_Has, ⟨p_Vec_Root, p_Vec_Cost, p_Vec_Bridge, p_Vec_Port⟩, p_Hops, p_Left, p_Role, p_Wait, p_Open⟩ ⟨v_Root, v_Cost, v_Bridge, v_Port⟩ hops).1, (o104 ⟨p_Up, p_Has, ⟨p_Vec_Root, p_Vec_Cost, p_Vec_Bridge, p_Vec_Port⟩, p_Hops, p_Left, p_Role, p_Wait, p_Open⟩ ⟨v_Root, v_Cost, v_Bridge, v_Port⟩ hops).2.1, (o104 ⟨p_Up, p_Has, ⟨p_Vec_Root, p_Vec_Cost, p_Vec_Bridge, p_Vec_Port⟩, p_Hops, p_Left, p_Role, p_Wait, p_Open⟩ ⟨v_Root, v_Cost, v_Bridge, v_Port⟩ hops).2.2)
  | _ => none

theorem r104 (p : Port) (v : Vec) (hops : Int) (n : Nat) : evFn ⟨prog, Hx, 104⟩ T98.call n f104 [[.bool p.Up, .bool p.Has, .int .i64 p.Vec.Root, .int .i64 p.Vec.Cost, .int .i64 p.Vec.Bridge, .int .i64 p.Vec.Port, .int .i64 p.Hops, .int .i64 p.Left, .int .i64 p.Role, .int .i64 p.Wait, .bool p.Open], [.int .i64 v.Root, .int .i64 v.Cost, .int .i64 v.Bridge, .int .i64 v.Port], [.int .i64 hops]] = bif !portOk p then some ([En.enc true p], []) else bif !Port.Up p then some ([En.enc true p], []) else bif !vecOk v then some ([En.enc true p], []) else bif !inR hops (0) (8) then some ([En.enc true p], []) else bif Port.Has p then bif betterB (Port.Vec p) v then bif Vec.Bridge (Port.Vec p) != Vec.Bridge v then some ([En.enc true p], []) else bif Vec.Port (Port.Vec p) != Vec.Port v then some ([En.enc true p], []) else some ([[D.bool (Port.Up p), D.bool true, D.int i64 (Vec.Root v), D.int i64 (Vec.Cost v), D.int i64 (Vec.Bridge v), D.int i64 (Vec.Port v), D.int i64 hops, D.int i64 (3), D.int i64 (Port.Role p), D.int i64 (Port.Wait p), D.bool (Port.Open p)]], []) else some ([[D.bool (Port.Up p), D.bool true, D.int i64 (Vec.Root v), D.int i64 (Vec.Cost v), D.int i64 (Vec.Bridge v), D.int i64 (Vec.Port v), D.int i64 hops, D.int i64 (3), D.int i64 (Port.Role p), D.int i64 (Port.Wait p), D.bool (Port.Open p)]], []) else some ([[D.bool (Port.Up p), D.bool true, D.int i64 (Vec.Root v), D.int i64 (Vec.Cost v), D.int i64 (Vec.Bridge v), D.int i64 (Vec.Port v), D.int i64 hops, D.int i64 (3), D.int i64 (Port.Role p), D.int i64 (Port.Wait p), D.bool (Port.Open p)]], []) := by kernel_rfl
theorem m104 (p : Port) (v : Vec) (hops : Int) (hpre : (o104 p v hops).1 = true) : evFn ⟨Go.Proofs.Try.prog, Hx, 104⟩ T98.call 0 f104 [[.bool p.Up, .bool p.Has, .int .i64 p.Vec.Root, .int .i64 p.Vec.Cost, .int .i64 p.Vec.Bridge, .int .i64 p.Vec.Port, .int .i64 p.Hops, .int .i64 p.Left, .int .i64 p.Role, .int .i64 p.Wait, .bool p.Open], [.int .i64 v.Root, .int .i64 v.Cost, .int .i64 v.Bridge, .int .i64 v.Port], [.int .i64 hops]] = some (o104 p v hops).2 := by
  refine (r104 p v hops _).trans ?_
  show _ = (some ([[.bool (claimM p v hops).Up, .bool (claimM p v hops).Has, .int .i64 (claimM p v hops).Vec.Root, .int .i64 (claimM p v hops).Vec.Cost, .int .i64 (claimM p v hops).Vec.Bridge, .int .i64 (claimM p v hops).Vec.Port, .int .i64 (claimM p v hops).Hops, .int .i64 (claimM p v hops).Left, .int .i64 (claimM p v hops).Role, .int .i64 (claimM p v hops).Wait, .bool (claimM p v hops).Open]], []) : Option (List Row × List Row))
  replace hpre : (true) = true := hpre
  show _ = portR (claimM p v hops)
  have b1 := ne_sym p.Vec.Bridge v.Bridge
  have b2 := ne_sym p.Vec.Port v.Port
  unfold claimM claimT isHopsB
  rw [b1, b2]
  cases p.Up
  · cases portOk p <;> rfl
  cases inR hops 0 8
  · cases portOk p <;> cases vecOk v <;> rfl
  cases vecOk v
  · cases portOk p <;> rfl
  cases portOk p
  · rfl
  cases p.Has <;> cases betterB p.Vec v <;> cases v.Bridge == p.Vec.Bridge <;> cases v.Port == p.Vec.Port <;> rfl
theorem s104 : SoundAt Go.Proofs.Try.prog Hx 104 c104 := soundAt_of T98_sound mixed func104 (by kernel_rfl) (by
  intro rows r h
  unfold c104 at h
  split at h
  · rename_i p_Up p_Has p_Vec_Root p_Vec_Cost p_Vec_Bridge p_Vec_Port p_Hops p_Left p_Role p_Wait p_Open v_Root v_Cost v_Bridge v_Port hops
    obtain ⟨hp, hr⟩ := Prod.mk.inj (Option.some.inj h)
    subst hr
    exact ⟨_, m104 ⟨p_Up, p_Has, ⟨p_Vec_Root, p_Vec_Cost, p_Vec_Bridge, p_Vec_Port⟩, p_Hops, p_Left, p_Role, p_Wait, p_Open⟩ ⟨v_Root, v_Cost, v_Bridge, v_Port⟩ hops hp⟩
  · cases h)
def T104 : Table := (104, c104) :: T98
theorem T104_sound : Table.Sound Go.Proofs.Try.prog Hx T104 := Table.sound_cons s104 T98_sound
def o112 (p : Port) : Bool × List Row × List Row := (true, [[.bool (fadeM p).Up, .bool (fadeM p).Has, .int .i64 (fadeM p).Vec.Root, .int .i64 (fadeM p).Vec.Cost, .int .i64 (fadeM p).Vec.Bridge, .int .i64 (fadeM p).Vec.Port, .int .i64 (fadeM p).Hops, .int .i64 (fadeM p).Left, .int .i64 (fadeM p).Role, .int .i64 (fadeM p).Wait, .bool (fadeM p).Open]], [])
def c112 : Contract
  | [[.bool p_Up, .bool p_Has, .int .i64 p_Vec_Root, .int .i64 p_Vec_Cost, .int .i64 p_Vec_Bridge, .int .i64 p_Vec_Port, .int .i64 p_Hops, .int .i64 p_Left, .int .i64 p_Role, .int .i64 p_Wait, .bool p_Open]] => some ((o112 ⟨p_Up, p_Has, ⟨p_Vec_Root, p_Vec_Cost, p_Vec_Bridge, p_Vec_Port⟩, p_Hops, p_Left, p_Role, p_Wait, p_Open⟩).1, (o112 ⟨p_Up, p_Has, ⟨p_Vec_Root, p_Vec_Cost, p_Vec_Bridge, p_Vec_Port⟩, p_Hops, p_Left, p_Role, p_Wait, p_Open⟩).2.1, (o112 ⟨p_Up, p_Has, ⟨p_Vec_Root, p_Vec_Cost, p_Vec_Bridge, p_Vec_Port⟩, p_Hops, p_Left, p_Role, p_Wait, p_Open⟩).2.2)
  | _ => none

theorem r112 (p : Port) (n : Nat) : evFn ⟨prog, Hx, 112⟩ T104.call n f112 [[.bool p.Up, .bool p.Has, .int .i64 p.Vec.Root, .int .i64 p.Vec.Cost, .int .i64 p.Vec.Bridge, .int .i64 p.Vec.Port, .int .i64 p.Hops, .int .i64 p.Left, .int .i64 p.Role, .int .i64 p.Wait, .bool p.Open]] = bif !Port.Has p then some ([En.enc true p], []) else bif !portOk p then some ([En.enc true p], []) else bif wrap i64 (Port.Left p - 1) == 0 then some ([[D.bool (Port.Up p), D.bool false, D.int i64 (0), D.int i64 (0), D.int i64 (0), D.int i64 (0), D.int i64 (0), D.int i64 (wrap i64 (Port.Left p - 1)), D.int i64 (Port.Role p), D.int i64 (Port.Wait p), D.bool (Port.Open p)]], []) else some ([[D.bool (Port.Up p), D.bool (Port.Has p), D.int i64 (Vec.Root (Port.Vec p)), D.int i64 (Vec.Cost (Port.Vec p)), D.int i64 (Vec.Bridge (Port.Vec p)), D.int i64 (Vec.Port (Port.Vec p)), D.int i64 (Port.Hops p), D.int i64 (wrap i64 (Port.Left p - 1)), D.int i64 (Port.Role p), D.int i64 (Port.Wait p), D.bool (Port.Open p)]], []) := by kernel_rfl
theorem m112 (p : Port) (hpre : (o112 p).1 = true) : evFn ⟨Go.Proofs.Try.prog, Hx, 112⟩ T104.call 0 f112 [[.bool p.Up, .bool p.Has, .int .i64 p.Vec.Root, .int .i64 p.Vec.Cost, .int .i64 p.Vec.Bridge, .int .i64 p.Vec.Port, .int .i64 p.Hops, .int .i64 p.Left, .int .i64 p.Role, .int .i64 p.Wait, .bool p.Open]] = some (o112 p).2 := by
  refine (r112 p _).trans ?_
  show _ = (some ([[.bool (fadeM p).Up, .bool (fadeM p).Has, .int .i64 (fadeM p).Vec.Root, .int .i64 (fadeM p).Vec.Cost, .int .i64 (fadeM p).Vec.Bridge, .int .i64 (fadeM p).Vec.Port, .int .i64 (fadeM p).Hops, .int .i64 (fadeM p).Left, .int .i64 (fadeM p).Role, .int .i64 (fadeM p).Wait, .bool (fadeM p).Open]], []) : Option (List Row × List Row))
  replace hpre : (true) = true := hpre
  show _ = portR (fadeM p)
  unfold fadeM
  cases hH : p.Has
  · rfl
  cases hP : portOk p
  · rfl
  have hb := fade_left hH hP
  have w : IntKind.wrap IntKind.i64 (p.Left - 1) = p.Left - 1 := wrap_sm (by omega) (by omega)
  rw [w]
  cases hl : p.Left - 1 == 0
  · rfl
  · have e : p.Left - 1 = 0 := by simpa using hl
    rw [e]
    rfl
theorem s112 : SoundAt Go.Proofs.Try.prog Hx 112 c112 := soundAt_of T104_sound mixed func112 (by kernel_rfl) (by
  intro rows r h
  unfold c112 at h
  split at h
  · rename_i p_Up p_Has p_Vec_Root p_Vec_Cost p_Vec_Bridge p_Vec_Port p_Hops p_Left p_Role p_Wait p_Open
    obtain ⟨hp, hr⟩ := Prod.mk.inj (Option.some.inj h)
    subst hr
    exact ⟨_, m112 ⟨p_Up, p_Has, ⟨p_Vec_Root, p_Vec_Cost, p_Vec_Bridge, p_Vec_Port⟩, p_Hops, p_Left, p_Role, p_Wait, p_Open⟩ hp⟩
  · cases h)
def T112 : Table := (112, c112) :: T104
theorem T112_sound : Table.Sound Go.Proofs.Try.prog Hx T112 := Table.sound_cons s112 T104_sound
def o106 (p : Port) : Bool × List Row × List Row := (true, [[.bool (fadeM p).Up, .bool (fadeM p).Has, .int .i64 (fadeM p).Vec.Root, .int .i64 (fadeM p).Vec.Cost, .int .i64 (fadeM p).Vec.Bridge, .int .i64 (fadeM p).Vec.Port, .int .i64 (fadeM p).Hops, .int .i64 (fadeM p).Left, .int .i64 (fadeM p).Role, .int .i64 (fadeM p).Wait, .bool (fadeM p).Open]], [])
def c106 : Contract
  | [[.bool p_Up, .bool p_Has, .int .i64 p_Vec_Root, .int .i64 p_Vec_Cost, .int .i64 p_Vec_Bridge, .int .i64 p_Vec_Port, .int .i64 p_Hops, .int .i64 p_Left, .int .i64 p_Role, .int .i64 p_Wait, .bool p_Open]] => some ((o106 ⟨p_Up, p_Has, ⟨p_Vec_Root, p_Vec_Cost, p_Vec_Bridge, p_Vec_Port⟩, p_Hops, p_Left, p_Role, p_Wait, p_Open⟩).1, (o106 ⟨p_Up, p_Has, ⟨p_Vec_Root, p_Vec_Cost, p_Vec_Bridge, p_Vec_Port⟩, p_Hops, p_Left, p_Role, p_Wait, p_Open⟩).2.1, (o106 ⟨p_Up, p_Has, ⟨p_Vec_Root, p_Vec_Cost, p_Vec_Bridge, p_Vec_Port⟩, p_Hops, p_Left, p_Role, p_Wait, p_Open⟩).2.2)
  | _ => none

theorem r106 (p : Port) (n : Nat) : evFn ⟨prog, Hx, 106⟩ T112.call n f106 [[.bool p.Up, .bool p.Has, .int .i64 p.Vec.Root, .int .i64 p.Vec.Cost, .int .i64 p.Vec.Bridge, .int .i64 p.Vec.Port, .int .i64 p.Hops, .int .i64 p.Left, .int .i64 p.Role, .int .i64 p.Wait, .bool p.Open]] = bif !portOk p then some ([En.enc true p], []) else bif !Port.Has p then some ([En.enc true p], []) else bif wrap i64 (Port.Left p - 1) == 0 then some ([[D.bool (Port.Up p), D.bool false, D.int i64 (0), D.int i64 (0), D.int i64 (0), D.int i64 (0), D.int i64 (0), D.int i64 (wrap i64 (Port.Left p - 1)), D.int i64 (Port.Role p), D.int i64 (Port.Wait p), D.bool (Port.Open p)]], []) else some ([[D.bool (Port.Up p), D.bool (Port.Has p), D.int i64 (Vec.Root (Port.Vec p)), D.int i64 (Vec.Cost (Port.Vec p)), D.int i64 (Vec.Bridge (Port.Vec p)), D.int i64 (Vec.Port (Port.Vec p)), D.int i64 (Port.Hops p), D.int i64 (wrap i64 (Port.Left p - 1)), D.int i64 (Port.Role p), D.int i64 (Port.Wait p), D.bool (Port.Open p)]], []) := by kernel_rfl
theorem m106 (p : Port) (hpre : (o106 p).1 = true) : evFn ⟨Go.Proofs.Try.prog, Hx, 106⟩ T112.call 0 f106 [[.bool p.Up, .bool p.Has, .int .i64 p.Vec.Root, .int .i64 p.Vec.Cost, .int .i64 p.Vec.Bridge, .int .i64 p.Vec.Port, .int .i64 p.Hops, .int .i64 p.Left, .int .i64 p.Role, .int .i64 p.Wait, .bool p.Open]] = some (o106 p).2 := by
  refine (r106 p _).trans ?_
  show _ = (some ([[.bool (fadeM p).Up, .bool (fadeM p).Has, .int .i64 (fadeM p).Vec.Root, .int .i64 (fadeM p).Vec.Cost, .int .i64 (fadeM p).Vec.Bridge, .int .i64 (fadeM p).Vec.Port, .int .i64 (fadeM p).Hops, .int .i64 (fadeM p).Left, .int .i64 (fadeM p).Role, .int .i64 (fadeM p).Wait, .bool (fadeM p).Open]], []) : Option (List Row × List Row))
  replace hpre : (true) = true := hpre
  show _ = portR (fadeM p)
  unfold fadeM
  cases hP : portOk p
  · cases p.Has <;> rfl
  cases hH : p.Has
  · rfl
  have hb := fade_left hH hP
  have w : IntKind.wrap IntKind.i64 (p.Left - 1) = p.Left - 1 := wrap_sm (by omega) (by omega)
  rw [w]
  cases hl : p.Left - 1 == 0
  · rfl
  · have e : p.Left - 1 = 0 := by simpa using hl
    rw [e]
    rfl
theorem s106 : SoundAt Go.Proofs.Try.prog Hx 106 c106 := soundAt_of T112_sound mixed func106 (by kernel_rfl) (by
  intro rows r h
  unfold c106 at h
  split at h
  · rename_i p_Up p_Has p_Vec_Root p_Vec_Cost p_Vec_Bridge p_Vec_Port p_Hops p_Left p_Role p_Wait p_Open
    obtain ⟨hp, hr⟩ := Prod.mk.inj (Option.some.inj h)
    subst hr
    exact ⟨_, m106 ⟨p_Up, p_Has, ⟨p_Vec_Root, p_Vec_Cost, p_Vec_Bridge, p_Vec_Port⟩, p_Hops, p_Left, p_Role, p_Wait, p_Open⟩ hp⟩
  · cases h)
def T106 : Table := (106, c106) :: T112
theorem T106_sound : Table.Sound Go.Proofs.Try.prog Hx T106 := Table.sound_cons s106 T112_sound
def o105 (p : Port) : Bool × List Row × List Row := (true, [[.bool (openP p).Up, .bool (openP p).Has, .int .i64 (openP p).Vec.Root, .int .i64 (openP p).Vec.Cost, .int .i64 (openP p).Vec.Bridge, .int .i64 (openP p).Vec.Port, .int .i64 (openP p).Hops, .int .i64 (openP p).Left, .int .i64 (openP p).Role, .int .i64 (openP p).Wait, .bool (openP p).Open]], [])
def c105 : Contract
  | [[.bool p_Up, .bool p_Has, .int .i64 p_Vec_Root, .int .i64 p_Vec_Cost, .int .i64 p_Vec_Bridge, .int .i64 p_Vec_Port, .int .i64 p_Hops, .int .i64 p_Left, .int .i64 p_Role, .int .i64 p_Wait, .bool p_Open]] => some ((o105 ⟨p_Up, p_Has, ⟨p_Vec_Root, p_Vec_Cost, p_Vec_Bridge, p_Vec_Port⟩, p_Hops, p_Left, p_Role, p_Wait, p_Open⟩).1, (o105 ⟨p_Up, p_Has, ⟨p_Vec_Root, p_Vec_Cost, p_Vec_Bridge, p_Vec_Port⟩, p_Hops, p_Left, p_Role, p_Wait, p_Open⟩).2.1, (o105 ⟨p_Up, p_Has, ⟨p_Vec_Root, p_Vec_Cost, p_Vec_Bridge, p_Vec_Port⟩, p_Hops, p_Left, p_Role, p_Wait, p_Open⟩).2.2)
  | _ => none

theorem r105 (p : Port) (n : Nat) : evFn ⟨prog, Hx, 105⟩ T106.call n f105 [[.bool p.Up, .bool p.Has, .int .i64 p.Vec.Root, .int .i64 p.Vec.Cost, .int .i64 p.Vec.Bridge, .int .i64 p.Vec.Port, .int .i64 p.Hops, .int .i64 p.Left, .int .i64 p.Role, .int .i64 p.Wait, .bool p.Open]] = bif Port.Role p == 1 then some ([[D.bool (Port.Up p), D.bool (Port.Has p), D.int i64 (Vec.Root (Port.Vec p)), D.int i64 (Vec.Cost (Port.Vec p)), D.int i64 (Vec.Bridge (Port.Vec p)), D.int i64 (Vec.Port (Port.Vec p)), D.int i64 (Port.Hops p), D.int i64 (Port.Left p), D.int i64 (Port.Role p), D.int i64 (Port.Wait p), D.bool (Port.Wait p == 0)]], []) else bif Port.Role p == 2 then some ([[D.bool (Port.Up p), D.bool (Port.Has p), D.int i64 (Vec.Root (Port.Vec p)), D.int i64 (Vec.Cost (Port.Vec p)), D.int i64 (Vec.Bridge (Port.Vec p)), D.int i64 (Vec.Port (Port.Vec p)), D.int i64 (Port.Hops p), D.int i64 (Port.Left p), D.int i64 (Port.Role p), D.int i64 (Port.Wait p), D.bool (Port.Wait p == 0)]], []) else some ([[D.bool (Port.Up p), D.bool (Port.Has p), D.int i64 (Vec.Root (Port.Vec p)), D.int i64 (Vec.Cost (Port.Vec p)), D.int i64 (Vec.Bridge (Port.Vec p)), D.int i64 (Vec.Port (Port.Vec p)), D.int i64 (Port.Hops p), D.int i64 (Port.Left p), D.int i64 (Port.Role p), D.int i64 (Port.Wait p), D.bool false]], []) := by kernel_rfl
theorem m105 (p : Port) (hpre : (o105 p).1 = true) : evFn ⟨Go.Proofs.Try.prog, Hx, 105⟩ T106.call 0 f105 [[.bool p.Up, .bool p.Has, .int .i64 p.Vec.Root, .int .i64 p.Vec.Cost, .int .i64 p.Vec.Bridge, .int .i64 p.Vec.Port, .int .i64 p.Hops, .int .i64 p.Left, .int .i64 p.Role, .int .i64 p.Wait, .bool p.Open]] = some (o105 p).2 := by
  refine (r105 p _).trans ?_
  show _ = (some ([[.bool (openP p).Up, .bool (openP p).Has, .int .i64 (openP p).Vec.Root, .int .i64 (openP p).Vec.Cost, .int .i64 (openP p).Vec.Bridge, .int .i64 (openP p).Vec.Port, .int .i64 (openP p).Hops, .int .i64 (openP p).Left, .int .i64 (openP p).Role, .int .i64 (openP p).Wait, .bool (openP p).Open]], []) : Option (List Row × List Row))
  replace hpre : (true) = true := hpre
  show _ = portR (openP p)
  unfold openP openRW
  cases p.Role == 1 <;> cases p.Role == 2 <;> rfl
theorem s105 : SoundAt Go.Proofs.Try.prog Hx 105 c105 := soundAt_of T106_sound mixed func105 (by kernel_rfl) (by
  intro rows r h
  unfold c105 at h
  split at h
  · rename_i p_Up p_Has p_Vec_Root p_Vec_Cost p_Vec_Bridge p_Vec_Port p_Hops p_Left p_Role p_Wait p_Open
    obtain ⟨hp, hr⟩ := Prod.mk.inj (Option.some.inj h)
    subst hr
    exact ⟨_, m105 ⟨p_Up, p_Has, ⟨p_Vec_Root, p_Vec_Cost, p_Vec_Bridge, p_Vec_Port⟩, p_Hops, p_Left, p_Role, p_Wait, p_Open⟩ hp⟩
  · cases h)
def T105 : Table := (105, c105) :: T106
theorem T105_sound : Table.Sound Go.Proofs.Try.prog Hx T105 := Table.sound_cons s105 T106_sound
def o114 (p : Port) (role : Int) : Bool × List Row × List Row := (true, [[.bool (turnM p role).Up, .bool (turnM p role).Has, .int .i64 (turnM p role).Vec.Root, .int .i64 (turnM p role).Vec.Cost, .int .i64 (turnM p role).Vec.Bridge, .int .i64 (turnM p role).Vec.Port, .int .i64 (turnM p role).Hops, .int .i64 (turnM p role).Left, .int .i64 (turnM p role).Role, .int .i64 (turnM p role).Wait, .bool (turnM p role).Open]], [])
def c114 : Contract
  | [[.bool p_Up, .bool p_Has, .int .i64 p_Vec_Root, .int .i64 p_Vec_Cost, .int .i64 p_Vec_Bridge, .int .i64 p_Vec_Port, .int .i64 p_Hops, .int .i64 p_Left, .int .i64 p_Role, .int .i64 p_Wait, .bool p_Open], [.int .i64 role]] => some ((o114 ⟨p_Up, p_Has, ⟨p_Vec_Root, p_Vec_Cost, p_Vec_Bridge, p_Vec_Port⟩, p_Hops, p_Left, p_Role, p_Wait, p_Open⟩ role).1, (o114 ⟨p_Up, p_Has, ⟨p_Vec_Root, p_Vec_Cost, p_Vec_Bridge, p_Vec_Port⟩, p_Hops, p_Left, p_Role, p_Wait, p_Open⟩ role).2.1, (o114 ⟨p_Up, p_Has, ⟨p_Vec_Root, p_Vec_Cost, p_Vec_Bridge, p_Vec_Port⟩, p_Hops, p_Left, p_Role, p_Wait, p_Open⟩ role).2.2)
  | _ => none

theorem r114 (p : Port) (role : Int) (n : Nat) : evFn ⟨prog, Hx, 114⟩ T105.call n f114 [[.bool p.Up, .bool p.Has, .int .i64 p.Vec.Root, .int .i64 p.Vec.Cost, .int .i64 p.Vec.Bridge, .int .i64 p.Vec.Port, .int .i64 p.Hops, .int .i64 p.Left, .int .i64 p.Role, .int .i64 p.Wait, .bool p.Open], [.int .i64 role]] = bif !Port.Up p then some ([En.enc true p], []) else bif !inR role (1) (3) then some ([En.enc true p], []) else bif !portOk p then some ([En.enc true p], []) else bif role == 3 then some ([[D.bool (Port.Up p), D.bool (Port.Has p), D.int i64 (Vec.Root (Port.Vec p)), D.int i64 (Vec.Cost (Port.Vec p)), D.int i64 (Vec.Bridge (Port.Vec p)), D.int i64 (Vec.Port (Port.Vec p)), D.int i64 (Port.Hops p), D.int i64 (Port.Left p), D.int i64 role, D.int i64 (0), D.bool (openB (Port.mk (Port.Up p) (Port.Has p) (Port.Vec p) (Port.Hops p) (Port.Left p) role (0) (Port.Open p)))]], []) else bif Port.Role p == 3 then some ([[D.bool (Port.Up p), D.bool (Port.Has p), D.int i64 (Vec.Root (Port.Vec p)), D.int i64 (Vec.Cost (Port.Vec p)), D.int i64 (Vec.Bridge (Port.Vec p)), D.int i64 (Vec.Port (Port.Vec p)), D.int i64 (Port.Hops p), D.int i64 (Port.Left p), D.int i64 role, D.int i64 (4), D.bool (openB (Port.mk (Port.Up p) (Port.Has p) (Port.Vec p) (Port.Hops p) (Port.Left p) role (4) (Port.Open p)))]], []) else some ([[D.bool (Port.Up p), D.bool (Port.Has p), D.int i64 (Vec.Root (Port.Vec p)), D.int i64 (Vec.Cost (Port.Vec p)), D.int i64 (Vec.Bridge (Port.Vec p)), D.int i64 (Vec.Port (Port.Vec p)), D.int i64 (Port.Hops p), D.int i64 (Port.Left p), D.int i64 role, D.int i64 (Port.Wait p), D.bool (openB (Port.mk (Port.Up p) (Port.Has p) (Port.Vec p) (Port.Hops p) (Port.Left p) role (Port.Wait p) (Port.Open p)))]], []) := by kernel_rfl
theorem m114 (p : Port) (role : Int) (hpre : (o114 p role).1 = true) : evFn ⟨Go.Proofs.Try.prog, Hx, 114⟩ T105.call 0 f114 [[.bool p.Up, .bool p.Has, .int .i64 p.Vec.Root, .int .i64 p.Vec.Cost, .int .i64 p.Vec.Bridge, .int .i64 p.Vec.Port, .int .i64 p.Hops, .int .i64 p.Left, .int .i64 p.Role, .int .i64 p.Wait, .bool p.Open], [.int .i64 role]] = some (o114 p role).2 := by
  refine (r114 p role _).trans ?_
  show _ = (some ([[.bool (turnM p role).Up, .bool (turnM p role).Has, .int .i64 (turnM p role).Vec.Root, .int .i64 (turnM p role).Vec.Cost, .int .i64 (turnM p role).Vec.Bridge, .int .i64 (turnM p role).Vec.Port, .int .i64 (turnM p role).Hops, .int .i64 (turnM p role).Left, .int .i64 (turnM p role).Role, .int .i64 (turnM p role).Wait, .bool (turnM p role).Open]], []) : Option (List Row × List Row))
  replace hpre : (true) = true := hpre
  show _ = portR (turnM p role)
  unfold turnM
  cases p.Up
  · rfl
  cases inR role 1 3
  · rfl
  cases portOk p
  · rfl
  unfold turnW
  cases role == 3
  · cases p.Role == 3 <;> rfl
  · rfl
theorem s114 : SoundAt Go.Proofs.Try.prog Hx 114 c114 := soundAt_of T105_sound mixed func114 (by kernel_rfl) (by
  intro rows r h
  unfold c114 at h
  split at h
  · rename_i p_Up p_Has p_Vec_Root p_Vec_Cost p_Vec_Bridge p_Vec_Port p_Hops p_Left p_Role p_Wait p_Open role
    obtain ⟨hp, hr⟩ := Prod.mk.inj (Option.some.inj h)
    subst hr
    exact ⟨_, m114 ⟨p_Up, p_Has, ⟨p_Vec_Root, p_Vec_Cost, p_Vec_Bridge, p_Vec_Port⟩, p_Hops, p_Left, p_Role, p_Wait, p_Open⟩ role hp⟩
  · cases h)
def T114 : Table := (114, c114) :: T105
theorem T114_sound : Table.Sound Go.Proofs.Try.prog Hx T114 := Table.sound_cons s114 T105_sound
def o107 (p : Port) (role : Int) : Bool × List Row × List Row := (true, [[.bool (turnM p role).Up, .bool (turnM p role).Has, .int .i64 (turnM p role).Vec.Root, .int .i64 (turnM p role).Vec.Cost, .int .i64 (turnM p role).Vec.Bridge, .int .i64 (turnM p role).Vec.Port, .int .i64 (turnM p role).Hops, .int .i64 (turnM p role).Left, .int .i64 (turnM p role).Role, .int .i64 (turnM p role).Wait, .bool (turnM p role).Open]], [])
def c107 : Contract
  | [[.bool p_Up, .bool p_Has, .int .i64 p_Vec_Root, .int .i64 p_Vec_Cost, .int .i64 p_Vec_Bridge, .int .i64 p_Vec_Port, .int .i64 p_Hops, .int .i64 p_Left, .int .i64 p_Role, .int .i64 p_Wait, .bool p_Open], [.int .i64 role]] => some ((o107 ⟨p_Up, p_Has, ⟨p_Vec_Root, p_Vec_Cost, p_Vec_Bridge, p_Vec_Port⟩, p_Hops, p_Left, p_Role, p_Wait, p_Open⟩ role).1, (o107 ⟨p_Up, p_Has, ⟨p_Vec_Root, p_Vec_Cost, p_Vec_Bridge, p_Vec_Port⟩, p_Hops, p_Left, p_Role, p_Wait, p_Open⟩ role).2.1, (o107 ⟨p_Up, p_Has, ⟨p_Vec_Root, p_Vec_Cost, p_Vec_Bridge, p_Vec_Port⟩, p_Hops, p_Left, p_Role, p_Wait, p_Open⟩ role).2.2)
  | _ => none

theorem r107 (p : Port) (role : Int) (n : Nat) : evFn ⟨prog, Hx, 107⟩ T114.call n f107 [[.bool p.Up, .bool p.Has, .int .i64 p.Vec.Root, .int .i64 p.Vec.Cost, .int .i64 p.Vec.Bridge, .int .i64 p.Vec.Port, .int .i64 p.Hops, .int .i64 p.Left, .int .i64 p.Role, .int .i64 p.Wait, .bool p.Open], [.int .i64 role]] = bif !portOk p then some ([En.enc true p], []) else bif !Port.Up p then some ([En.enc true p], []) else bif !inR role (1) (3) then some ([En.enc true p], []) else bif Port.Role p == 3 then bif role != 3 then bif role == 3 then some ([En.enc true (openP (Port.mk (Port.Up p) (Port.Has p) (Port.Vec p) (Port.Hops p) (Port.Left p) role (0) (Port.Open p)))], []) else some ([En.enc true (openP (Port.mk (Port.Up p) (Port.Has p) (Port.Vec p) (Port.Hops p) (Port.Left p) role (4) (Port.Open p)))], []) else bif role == 3 then some ([En.enc true (openP (Port.mk (Port.Up p) (Port.Has p) (Port.Vec p) (Port.Hops p) (Port.Left p) role (0) (Port.Open p)))], []) else some ([En.enc true (openP (Port.mk (Port.Up p) (Port.Has p) (Port.Vec p) (Port.Hops p) (Port.Left p) role (Port.Wait p) (Port.Open p)))], []) else bif role == 3 then some ([En.enc true (openP (Port.mk (Port.Up p) (Port.Has p) (Port.Vec p) (Port.Hops p) (Port.Left p) role (0) (Port.Open p)))], []) else some ([En.enc true (openP (Port.mk (Port.Up p) (Port.Has p) (Port.Vec p) (Port.Hops p) (Port.Left p) role (Port.Wait p) (Port.Open p)))], []) := by kernel_rfl
theorem m107 (p : Port) (role : Int) (hpre : (o107 p role).1 = true) : evFn ⟨Go.Proofs.Try.prog, Hx, 107⟩ T114.call 0 f107 [[.bool p.Up, .bool p.Has, .int .i64 p.Vec.Root, .int .i64 p.Vec.Cost, .int .i64 p.Vec.Bridge, .int .i64 p.Vec.Port, .int .i64 p.Hops, .int .i64 p.Left, .int .i64 p.Role, .int .i64 p.Wait, .bool p.Open], [.int .i64 role]] = some (o107 p role).2 := by
  refine (r107 p role _).trans ?_
  show _ = (some ([[.bool (turnM p role).Up, .bool (turnM p role).Has, .int .i64 (turnM p role).Vec.Root, .int .i64 (turnM p role).Vec.Cost, .int .i64 (turnM p role).Vec.Bridge, .int .i64 (turnM p role).Vec.Port, .int .i64 (turnM p role).Hops, .int .i64 (turnM p role).Left, .int .i64 (turnM p role).Role, .int .i64 (turnM p role).Wait, .bool (turnM p role).Open]], []) : Option (List Row × List Row))
  replace hpre : (true) = true := hpre
  show _ = portR (turnM p role)
  have b1 : (role != 3) = !(role == 3) := rfl
  unfold turnM
  rw [b1]
  cases p.Up
  · cases portOk p <;> rfl
  cases inR role 1 3
  · cases portOk p <;> rfl
  cases portOk p
  · rfl
  unfold turnW
  cases role == 3 <;> cases p.Role == 3 <;> rfl
theorem s107 : SoundAt Go.Proofs.Try.prog Hx 107 c107 := soundAt_of T114_sound mixed func107 (by kernel_rfl) (by
  intro rows r h
  unfold c107 at h
  split at h
  · rename_i p_Up p_Has p_Vec_Root p_Vec_Cost p_Vec_Bridge p_Vec_Port p_Hops p_Left p_Role p_Wait p_Open role
    obtain ⟨hp, hr⟩ := Prod.mk.inj (Option.some.inj h)
    subst hr
    exact ⟨_, m107 ⟨p_Up, p_Has, ⟨p_Vec_Root, p_Vec_Cost, p_Vec_Bridge, p_Vec_Port⟩, p_Hops, p_Left, p_Role, p_Wait, p_Open⟩ role hp⟩
  · cases h)
def T107 : Table := (107, c107) :: T114
theorem T107_sound : Table.Sound Go.Proofs.Try.prog Hx T107 := Table.sound_cons s107 T114_sound
def o96 (s : List Port) : Bool × List Row × List Row := (decide (s.length ≤ 1048576), [[.sl true 11 (enS true (s))]], [])
def c96 : Contract
  | [[.sl false 11 s]] => some (isS Port false s && (o96 (deS Port s)).1, (o96 (deS Port s)).2.1, (o96 (deS Port s)).2.2)
  | _ => none

theorem r96 (s : List Port) (n : Nat) : evFn ⟨prog, Hx, 96⟩ T107.call n f96 [[.sl false 11 (enS false s)]] = bif isEmpty (enS false s) then both (some ([[D.sl true 11 []]], [])) (bif decide ((0 + length (enS false s)) * 80 ≤ 140737488355328) then some ([[D.sl true 11 (enS false s)]], []) else none) else bif decide ((0 + length (enS false s)) * 80 ≤ 140737488355328) then some ([[D.sl true 11 (enS false s)]], []) else none := by kernel_rfl
theorem m96 (s : List Port) (hpre : (o96 s).1 = true) : evFn ⟨Go.Proofs.Try.prog, Hx, 96⟩ T107.call 0 f96 [[.sl false 11 (enS false s)]] = some (o96 s).2 := by
  refine (r96 s _).trans ?_
  show _ = (some ([[.sl true 11 (enS true (s))]], []) : Option (List Row × List Row))
  replace hpre : (decide (s.length ≤ 1048576)) = true := hpre
  have hlen := of_decide_eq_true hpre
  have h1 : decide ((0 + s.length) * 80 ≤ 140737488355328) = true := decide_eq_true (by omega)
  simp only [enS_length, h1, cond_true]
  cases s with
  | nil =>
    rw [show List.isEmpty (enS false ([] : List Port)) = true from rfl, cond_true]
    exact both_same _
  | cons x xs => rfl
theorem s96 : SoundAt Go.Proofs.Try.prog Hx 96 c96 := soundAt_of T107_sound mixed func96 (by kernel_rfl) (by
  intro rows r h
  unfold c96 at h
  split at h
  · rename_i s
    obtain ⟨hp, hr⟩ := Prod.mk.inj (Option.some.inj h)
    subst hr
    simp only [Bool.and_eq_true] at hp
    obtain ⟨hs0, hp⟩ := hp
    obtain ⟨xs0, rfl⟩ := isS_ex hs0
    simp only [deS_enS] at hp ⊢
    exact ⟨_, m96 xs0 hp⟩
  · cases h)
def T96 : Table := (96, c96) :: T107
theorem T96_sound : Table.Sound Go.Proofs.Try.prog Hx T96 := Table.sound_cons s96 T107_sound
def o75 (b : Bridge) : Bool × List Row × List Row := (decide (b.Ports.length ≤ 1048576), [[.int .i64 (b).Id, .sl true 11 (enS true (b).Ports)]], [])
def c75 : Contract
  | [[.int .i64 b_Id, .sl false 11 b_Ports]] => some (isS Port false b_Ports && (o75 ⟨b_Id, (deS Port b_Ports)⟩).1, (o75 ⟨b_Id, (deS Port b_Ports)⟩).2.1, (o75 ⟨b_Id, (deS Port b_Ports)⟩).2.2)
  | _ => none

theorem r75 (b : Bridge) (n : Nat) : evFn ⟨prog, Hx, 75⟩ T96.call n f75 [[.int .i64 b.Id, .sl false 11 (enS false b.Ports)]] = bif isS Port false (enS false (Bridge.Ports b)) && decide (length (deS Port (enS false (Bridge.Ports b))) ≤ 1048576) then some ([[D.int i64 (Bridge.Id b), D.sl true 11 (enS true (deS Port (enS false (Bridge.Ports b))))]], []) else none := by kernel_rfl
theorem m75 (b : Bridge) (hpre : (o75 b).1 = true) : evFn ⟨Go.Proofs.Try.prog, Hx, 75⟩ T96.call 0 f75 [[.int .i64 b.Id, .sl false 11 (enS false b.Ports)]] = some (o75 b).2 := by
  refine (r75 b _).trans ?_
  show _ = (some ([[.int .i64 (b).Id, .sl true 11 (enS true (b).Ports)]], []) : Option (List Row × List Row))
  replace hpre : (decide (b.Ports.length ≤ 1048576)) = true := hpre
  simp only [isS_enS, deS_enS, hpre, Bool.and_self, cond_true]
theorem s75 : SoundAt Go.Proofs.Try.prog Hx 75 c75 := soundAt_of T96_sound mixed func75 (by kernel_rfl) (by
  intro rows r h
  unfold c75 at h
  split at h
  · rename_i b_Id b_Ports
    obtain ⟨hp, hr⟩ := Prod.mk.inj (Option.some.inj h)
    subst hr
    simp only [Bool.and_eq_true] at hp
    obtain ⟨hs0, hp⟩ := hp
    obtain ⟨xs0, rfl⟩ := isS_ex hs0
    simp only [deS_enS] at hp ⊢
    exact ⟨_, m75 ⟨b_Id, xs0⟩ hp⟩
  · cases h)
def T75 : Table := (75, c75) :: T96
theorem T75_sound : Table.Sound Go.Proofs.Try.prog Hx T75 := Table.sound_cons s75 T96_sound
def o87 (b : Bridge) : Bool × List Row × List Row := (decide (b.Ports.length ≤ 1048576), [[.int .i64 (b).Id, .sl true 11 (enS true (b).Ports)]], [])
def c87 : Contract
  | [[.int .i64 b_Id, .sl false 11 b_Ports]] => some (isS Port false b_Ports && (o87 ⟨b_Id, (deS Port b_Ports)⟩).1, (o87 ⟨b_Id, (deS Port b_Ports)⟩).2.1, (o87 ⟨b_Id, (deS Port b_Ports)⟩).2.2)
  | _ => none

theorem r87 (b : Bridge) (n : Nat) : evFn ⟨prog, Hx, 87⟩ T75.call n f87 [[.int .i64 b.Id, .sl false 11 (enS false b.Ports)]] = bif decide ((0 + length (enS false (Bridge.Ports b))) * 80 ≤ 140737488355328) then some ([[D.int i64 (Bridge.Id b), D.sl true 11 (enS false (Bridge.Ports b))]], []) else none := by kernel_rfl
theorem m87 (b : Bridge) (hpre : (o87 b).1 = true) : evFn ⟨Go.Proofs.Try.prog, Hx, 87⟩ T75.call 0 f87 [[.int .i64 b.Id, .sl false 11 (enS false b.Ports)]] = some (o87 b).2 := by
  refine (r87 b _).trans ?_
  show _ = (some ([[.int .i64 (b).Id, .sl true 11 (enS true (b).Ports)]], []) : Option (List Row × List Row))
  replace hpre : (decide (b.Ports.length ≤ 1048576)) = true := hpre
  have hlen := of_decide_eq_true hpre
  have h1 : decide ((0 + b.Ports.length) * 80 ≤ 140737488355328) = true := decide_eq_true (by omega)
  simp only [enS_length, h1, cond_true]
  rfl
theorem s87 : SoundAt Go.Proofs.Try.prog Hx 87 c87 := soundAt_of T75_sound mixed func87 (by kernel_rfl) (by
  intro rows r h
  unfold c87 at h
  split at h
  · rename_i b_Id b_Ports
    obtain ⟨hp, hr⟩ := Prod.mk.inj (Option.some.inj h)
    subst hr
    simp only [Bool.and_eq_true] at hp
    obtain ⟨hs0, hp⟩ := hp
    obtain ⟨xs0, rfl⟩ := isS_ex hs0
    simp only [deS_enS] at hp ⊢
    exact ⟨_, m87 ⟨b_Id, xs0⟩ hp⟩
  · cases h)
def T87 : Table := (87, c87) :: T75
theorem T87_sound : Table.Sound Go.Proofs.Try.prog Hx T87 := Table.sound_cons s87 T75_sound
def o113 (b : Bridge) : Bool × List Row × List Row := (decide (b.Ports.length ≤ 1048576), [[.int .i64 (rootM b)]], [])
def c113 : Contract
  | [[.int .i64 b_Id, .sl false 11 b_Ports]] => some (isS Port false b_Ports && (o113 ⟨b_Id, (deS Port b_Ports)⟩).1, (o113 ⟨b_Id, (deS Port b_Ports)⟩).2.1, (o113 ⟨b_Id, (deS Port b_Ports)⟩).2.2)
  | _ => none

def k113_0 (n : Nat) : Ex → St → RR := kThen (fun st ↦ runCode (Ctx.mk prog Hx (113)) (Table.call T87) n (codeAt [1, 1, 1] (bodyOf f113)) (Lv.mk 4 [] 4) st (kLeave (Ctx.P (Ctx.mk prog Hx (113))) (List.zip (Array.toList (Go.Func.resultTypes f113)) (Array.toList (Go.Func.results f113))) [] [])) (kLeave (Ctx.P (Ctx.mk prog Hx (113))) (List.zip (Array.toList (Go.Func.resultTypes f113)) (Array.toList (Go.Func.results f113))) [] [])
def k113_1 (n : Nat) : Ex → St → RR := kBlock (0) (k113_0 n)
def S113_0 (b : Bridge) (i0 : Int) (i1 : Int) : St := St.mk (V_ [C.rptr (En.enc false b)] :: U_ :: U_ :: I_ i1 :: u_ 5 (V_ [C.d (D.sl false 11 (enS false (Bridge.Ports b)))] :: I_ (ofNat (length (enS false (Bridge.Ports b)))) :: I_ i0 :: u_ 56 [])) []
def B113_0 (n : Nat) : St → (Ex → St → RR) → RR := runCode (Ctx.mk prog Hx (113)) (Table.call T87) n (codeAt [1, 1, 0, 1, 0, 0] (bodyOf f113)) (Lv.mk 3593 [(0, 8)] 4)
def X113_2 (i1 : Int) : St := St.mk (U_ :: U_ :: U_ :: I_ i1 :: u_ 64 []) []
theorem q113_0 (b : Bridge) (n : Nat) (i0 : Int) (i1 : Int) (f : St → RR) (K : Ex → St → RR) : B113_0 n (S113_0 b i0 i1) (kThen (fun st ↦ f (St.head 0 3593 147573952589676410936 st)) K) = bif decide (i0 < ofNat (length (enS false (Bridge.Ports b)))) then bif decide (0 ≤ i0) && decide (i0 < ofNat (length (enS false (Bridge.Ports b)))) then bif Leaf.fit false Leaf.bool (getD (getD (enS false (Bridge.Ports b)) (toNat i0) []) 0 D.dead) && (Leaf.fit false Leaf.bool (getD (getD (enS false (Bridge.Ports b)) (toNat i0) []) 1 D.dead) && (Leaf.fit false (Leaf.int i64) (getD (getD (enS false (Bridge.Ports b)) (toNat i0) []) 2 D.dead) && (Leaf.fit false (Leaf.int i64) (getD (getD (enS false (Bridge.Ports b)) (toNat i0) []) 3 D.dead) && (Leaf.fit false (Leaf.int i64) (getD (getD (enS false (Bridge.Ports b)) (toNat i0) []) 4 D.dead) && (Leaf.fit false (Leaf.int i64) (getD (getD (enS false (Bridge.Ports b)) (toNat i0) []) 5 D.dead) && (Leaf.fit false (Leaf.int i64) (getD (getD (enS false (Bridge.Ports b)) (toNat i0) []) 6 D.dead) && (Leaf.fit false (Leaf.int i64) (getD (getD (enS false (Bridge.Ports b)) (toNat i0) []) 7 D.dead) && (Leaf.fit false (Leaf.int i64) (getD (getD (enS false (Bridge.Ports b)) (toNat i0) []) 8 D.dead) && (Leaf.fit false (Leaf.int i64) (getD (getD (enS false (Bridge.Ports b)) (toNat i0) []) 9 D.dead) && (Leaf.fit false Leaf.bool (getD (getD (enS false (Bridge.Ports b)) (toNat i0) []) 10 D.dead) && true)))))))))) then bif !D.flag (getD (getD (enS false (Bridge.Ports b)) (toNat i0) []) 1 D.dead) then f (S113_0 b (wrap i64 (i0 + 1)) i1) else bif D.num (getD (getD (enS false (Bridge.Ports b)) (toNat i0) []) 4 D.dead) == Bridge.Id b then f (S113_0 b (wrap i64 (i0 + 1)) i1) else bif decide (D.num (getD (getD (enS false (Bridge.Ports b)) (toNat i0) []) 2 D.dead) ≥ Bridge.Id b) then f (S113_0 b (wrap i64 (i0 + 1)) i1) else bif decide (D.num (getD (getD (enS false (Bridge.Ports b)) (toNat i0) []) 3 D.dead) ≥ 20) then f (S113_0 b (wrap i64 (i0 + 1)) i1) else bif decide (D.num (getD (getD (enS false (Bridge.Ports b)) (toNat i0) []) 6 D.dead) ≥ 8) then f (S113_0 b (wrap i64 (i0 + 1)) i1) else bif decide (i1 < 0) then f (S113_0 b (wrap i64 (i0 + 1)) i0) else bif decide (0 ≤ i1) && decide (i1 < ofNat (length (enS false (Bridge.Ports b)))) then bif Leaf.fit false (Leaf.int i64) (getD (drop 2 (getD (enS false (Bridge.Ports b)) (toNat i1) [])) 0 D.dead) && (Leaf.fit false (Leaf.int i64) (getD (drop 2 (getD (enS false (Bridge.Ports b)) (toNat i1) [])) 1 D.dead) && (Leaf.fit false (Leaf.int i64) (getD (drop 2 (getD (enS false (Bridge.Ports b)) (toNat i1) [])) 2 D.dead) && (Leaf.fit false (Leaf.int i64) (getD (drop 2 (getD (enS false (Bridge.Ports b)) (toNat i1) [])) 3 D.dead) && true))) then bif betterB (Vec.mk (D.num (getD (getD (enS false (Bridge.Ports b)) (toNat i0) []) 2 D.dead)) (D.num (getD (getD (enS false (Bridge.Ports b)) (toNat i0) []) 3 D.dead)) (D.num (getD (getD (enS false (Bridge.Ports b)) (toNat i0) []) 4 D.dead)) (D.num (getD (getD (enS false (Bridge.Ports b)) (toNat i0) []) 5 D.dead))) (En.dec (drop 2 (getD (enS false (Bridge.Ports b)) (toNat i1) []))) then f (S113_0 b (wrap i64 (i0 + 1)) i0) else f (S113_0 b (wrap i64 (i0 + 1)) i1) else none else none else none else none else K (Ex.exit 0) (X113_2 i1) := by kernel_rfl
theorem aX113_2 (n : Nat) (i1 : Int) : k113_1 n (Ex.exit 0) (X113_2 i1) = some ([[D.int i64 i1]], []) := by kernel_rfl
theorem r113 (b : Bridge) (n : Nat) : evFn ⟨prog, Hx, 113⟩ T87.call n f113 [[.int .i64 b.Id, .sl false 11 (enS false b.Ports)]] = loopRun (B113_0 n) 0 3593 147573952589676410936 n (S113_0 b (0) (Int.negSucc 0)) (k113_1 n) := by kernel_rfl
theorem l113_st (b : Bridge) (i : Nat) (best : Int) (hlen : b.Ports.length ≤ 1048576) (hi : i < b.Ports.length) (h0 : -1 ≤ best) (h1 : best < (b.Ports.length : Int)) (n : Nat) (f : St → RR) (K : Ex → St → RR) : B113_0 n (S113_0 b (Int.ofNat i) best) (kThen (fun st => f (St.head 0 3593 147573952589676410936 st)) K) = f (S113_0 b (Int.ofNat (i + 1)) (rootS b.Id b.Ports i b.Ports[i] best)) := by
  refine (q113_0 b _ _ _ f _).trans ?_
  simp only [enS_length, toNat_of, dec_lt, dec_ge, hi, decide_true, cond_true, Bool.and_self, Nat.zero_add, wrap_succ (show i < 4611686018427387904 by omega), enS_get false hi, ge_not]
  refine bif_t rfl ?_
  refine root_step (id := b.Id) (all := b.Ports) (i := i) (p := b.Ports[i]) (best := best) (fun z => f (S113_0 b (Int.ofNat (i + 1)) z)) ?_
  intro c6
  obtain ⟨k, rfl⟩ := Int.eq_ofNat_of_zero_le (show 0 ≤ best by have := of_decide_eq_false c6; omega)
  have hk : k < b.Ports.length := by omega
  have d1 : decide ((k : Int) < Int.ofNat b.Ports.length) = true := decide_eq_true h1
  rw [c6, Bool.not_false, d1, Int.toNat_natCast, enS_get false hk, bestAt_nat hk]
  rfl
theorem m113 (b : Bridge) (hpre : (o113 b).1 = true) : evFn ⟨Go.Proofs.Try.prog, Hx, 113⟩ T87.call (b.Ports.length + 1) f113 [[.int .i64 b.Id, .sl false 11 (enS false b.Ports)]] = some (o113 b).2 := by
  refine (r113 b _).trans ?_
  show _ = (some ([[.int .i64 (rootM b)]], []) : Option (List Row × List Row))
  replace hpre : (decide (b.Ports.length ≤ 1048576)) = true := hpre
  have hlen := of_decide_eq_true hpre
  show _ = some ([[D.int .i64 (rootL b.Id b.Ports 0 b.Ports (Int.negSucc 0))]], [])
  refine loop_list (xs := b.Ports) (fun i (best : Int) => S113_0 b (Int.ofNat i) best) (fun _ best => -1 ≤ best ∧ best < (b.Ports.length : Int)) (fun i best rest => some ([[D.int .i64 (rootL b.Id b.Ports i rest best)]], [])) ?_ ?_ (b.Ports.length + 1) (Int.negSucc 0) (by omega) ⟨Int.le_refl _, by omega⟩
  · rintro best _ f
    refine (q113_0 b _ _ _ f _).trans ?_
    rw [end_lt, cond_false]
    exact aX113_2 _ _
  · rintro i best hi ⟨h0, h1⟩ f hf
    refine (l113_st b i best hlen hi h0 h1 _ f _).trans ?_
    exact hf _ (rootS_b (id := b.Id) (p := b.Ports[i]) hi h0 h1)
theorem s113 : SoundAt Go.Proofs.Try.prog Hx 113 c113 := soundAt_of T87_sound mixed func113 (by kernel_rfl) (by
  intro rows r h
  unfold c113 at h
  split at h
  · rename_i b_Id b_Ports
    obtain ⟨hp, hr⟩ := Prod.mk.inj (Option.some.inj h)
    subst hr
    simp only [Bool.and_eq_true] at hp
    obtain ⟨hs0, hp⟩ := hp
    obtain ⟨xs0, rfl⟩ := isS_ex hs0
    simp only [deS_enS] at hp ⊢
    exact ⟨_, m113 ⟨b_Id, xs0⟩ hp⟩
  · cases h)
def T113 : Table := (113, c113) :: T87
theorem T113_sound : Table.Sound Go.Proofs.Try.prog Hx T113 := Table.sound_cons s113 T87_sound
def o101 (b : Bridge) (port : Int) : Bool × List Row × List Row := (decide (b.Ports.length ≤ 1048576), [[.int .i64 (ownM b port).Root, .int .i64 (ownM b port).Cost, .int .i64 (ownM b port).Bridge, .int .i64 (ownM b port).Port]], [])
def c101 : Contract
  | [[.int .i64 b_Id, .sl false 11 b_Ports], [.int .i64 port]] => some (isS Port false b_Ports && (o101 ⟨b_Id, (deS Port b_Ports)⟩ port).1, (o101 ⟨b_Id, (deS Port b_Ports)⟩ port).2.1, (o101 ⟨b_Id, (deS Port b_Ports)⟩ port).2.2)
  | _ => none

theorem r101 (b : Bridge) (port : Int) (n : Nat) : evFn ⟨prog, Hx, 101⟩ T113.call n f101 [[.int .i64 b.Id, .sl false 11 (enS false b.Ports)], [.int .i64 port]] = bif isS Port false (enS false (Bridge.Ports b)) && decide (length (deS Port (enS false (Bridge.Ports b))) ≤ 1048576) then bif decide (rootM (Bridge.mk (Bridge.Id b) (deS Port (enS false (Bridge.Ports b)))) ≥ 0) then bif decide (0 ≤ rootM (Bridge.mk (Bridge.Id b) (deS Port (enS false (Bridge.Ports b))))) && decide (rootM (Bridge.mk (Bridge.Id b) (deS Port (enS false (Bridge.Ports b)))) < ofNat (length (enS false (Bridge.Ports b)))) then bif Leaf.fit false (Leaf.int i64) (getD (drop 2 (getD (enS false (Bridge.Ports b)) (toNat (rootM (Bridge.mk (Bridge.Id b) (deS Port (enS false (Bridge.Ports b)))))) [])) 0 D.dead) && true then bif decide (0 ≤ rootM (Bridge.mk (Bridge.Id b) (deS Port (enS false (Bridge.Ports b))))) && decide (rootM (Bridge.mk (Bridge.Id b) (deS Port (enS false (Bridge.Ports b)))) < ofNat (length (enS false (Bridge.Ports b)))) then bif Leaf.fit false (Leaf.int i64) (getD (drop 1 (drop 2 (getD (enS false (Bridge.Ports b)) (toNat (rootM (Bridge.mk (Bridge.Id b) (deS Port (enS false (Bridge.Ports b)))))) []))) 0 D.dead) && true then some ([[D.int i64 (D.num (getD (drop 2 (getD (enS false (Bridge.Ports b)) (toNat (rootM (Bridge.mk (Bridge.Id b) (deS Port (enS false (Bridge.Ports b)))))) [])) 0 D.dead)), D.int i64 (wrap i64 (D.num (getD (drop 1 (drop 2 (getD (enS false (Bridge.Ports b)) (toNat (rootM (Bridge.mk (Bridge.Id b) (deS Port (enS false (Bridge.Ports b)))))) []))) 0 D.dead) + 1)), D.int i64 (Bridge.Id b), D.int i64 port]], []) else none else none else none else none else some ([[D.int i64 (Bridge.Id b), D.int i64 (0), D.int i64 (Bridge.Id b), D.int i64 port]], []) else none := by kernel_rfl
theorem m101 (b : Bridge) (port : Int) (hpre : (o101 b port).1 = true) : evFn ⟨Go.Proofs.Try.prog, Hx, 101⟩ T113.call 0 f101 [[.int .i64 b.Id, .sl false 11 (enS false b.Ports)], [.int .i64 port]] = some (o101 b port).2 := by
  refine (r101 b port _).trans ?_
  show _ = (some ([[.int .i64 (ownM b port).Root, .int .i64 (ownM b port).Cost, .int .i64 (ownM b port).Bridge, .int .i64 (ownM b port).Port]], []) : Option (List Row × List Row))
  replace hpre : (decide (b.Ports.length ≤ 1048576)) = true := hpre
  have hb := rootM_b b
  simp only [isS_enS, deS_enS, hpre, Bool.and_self, cond_true, Bridge.eta, enS_length, ge_not]
  unfold ownM
  cases c6 : decide (rootM b < 0)
  case true => rfl
  obtain ⟨k, hk⟩ := Int.eq_ofNat_of_zero_le (show 0 ≤ rootM b by have := of_decide_eq_false c6; omega)
  have hkl : k < b.Ports.length := by omega
  have hv := bestAt_nat hkl
  have d1 : decide ((k : Int) < Int.ofNat b.Ports.length) = true := decide_eq_true (show (k : Int) < (b.Ports.length : Int) by omega)
  simp only [hk, d1, Bool.not_false, cond_true, cond_false, Int.toNat_natCast, enS_get false hkl, hv]
  rfl
theorem s101 : SoundAt Go.Proofs.Try.prog Hx 101 c101 := soundAt_of T113_sound mixed func101 (by kernel_rfl) (by
  intro rows r h
  unfold c101 at h
  split at h
  · rename_i b_Id b_Ports port
    obtain ⟨hp, hr⟩ := Prod.mk.inj (Option.some.inj h)
    subst hr
    simp only [Bool.and_eq_true] at hp
    obtain ⟨hs0, hp⟩ := hp
    obtain ⟨xs0, rfl⟩ := isS_ex hs0
    simp only [deS_enS] at hp ⊢
    exact ⟨_, m101 ⟨b_Id, xs0⟩ port hp⟩
  · cases h)
def T101 : Table := (101, c101) :: T113
theorem T101_sound : Table.Sound Go.Proofs.Try.prog Hx T101 := Table.sound_cons s101 T113_sound
def o102 (b : Bridge) : Bool × List Row × List Row := (decide (b.Ports.length ≤ 1048576), [[.int .i64 (hopsM b)]], [])
def c102 : Contract
  | [[.int .i64 b_Id, .sl false 11 b_Ports]] => some (isS Port false b_Ports && (o102 ⟨b_Id, (deS Port b_Ports)⟩).1, (o102 ⟨b_Id, (deS Port b_Ports)⟩).2.1, (o102 ⟨b_Id, (deS Port b_Ports)⟩).2.2)
  | _ => none

theorem r102 (b : Bridge) (n : Nat) : evFn ⟨prog, Hx, 102⟩ T101.call n f102 [[.int .i64 b.Id, .sl false 11 (enS false b.Ports)]] = bif isS Port false (enS false (Bridge.Ports b)) && decide (length (deS Port (enS false (Bridge.Ports b))) ≤ 1048576) then bif decide (rootM (Bridge.mk (Bridge.Id b) (deS Port (enS false (Bridge.Ports b)))) ≥ 0) then bif decide (0 ≤ rootM (Bridge.mk (Bridge.Id b) (deS Port (enS false (Bridge.Ports b))))) && decide (rootM (Bridge.mk (Bridge.Id b) (deS Port (enS false (Bridge.Ports b)))) < ofNat (length (enS false (Bridge.Ports b)))) then bif Leaf.fit false (Leaf.int i64) (getD (drop 6 (getD (enS false (Bridge.Ports b)) (toNat (rootM (Bridge.mk (Bridge.Id b) (deS Port (enS false (Bridge.Ports b)))))) [])) 0 D.dead) && true then some ([[D.int i64 (wrap i64 (D.num (getD (drop 6 (getD (enS false (Bridge.Ports b)) (toNat (rootM (Bridge.mk (Bridge.Id b) (deS Port (enS false (Bridge.Ports b)))))) [])) 0 D.dead) + 1))]], []) else none else none else some ([[D.int i64 (0)]], []) else none := by kernel_rfl
theorem m102 (b : Bridge) (hpre : (o102 b).1 = true) : evFn ⟨Go.Proofs.Try.prog, Hx, 102⟩ T101.call 0 f102 [[.int .i64 b.Id, .sl false 11 (enS false b.Ports)]] = some (o102 b).2 := by
  refine (r102 b _).trans ?_
  show _ = (some ([[.int .i64 (hopsM b)]], []) : Option (List Row × List Row))
  replace hpre : (decide (b.Ports.length ≤ 1048576)) = true := hpre
  have hb := rootM_b b
  simp only [isS_enS, deS_enS, hpre, Bool.and_self, cond_true, Bridge.eta, enS_length, ge_not]
  unfold hopsM
  cases c6 : decide (rootM b < 0)
  case true => rfl
  obtain ⟨k, hk⟩ := Int.eq_ofNat_of_zero_le (show 0 ≤ rootM b by have := of_decide_eq_false c6; omega)
  have hkl : k < b.Ports.length := by omega
  have hv : (b.Ports.getD k port0) = b.Ports[k] := by
    rw [List.getD_eq_getElem?_getD, List.getElem?_eq_getElem hkl]
    rfl
  have d1 : decide ((k : Int) < Int.ofNat b.Ports.length) = true := decide_eq_true (show (k : Int) < (b.Ports.length : Int) by omega)
  simp only [hk, d1, Bool.not_false, cond_true, cond_false, Int.toNat_natCast, enS_get false hkl, hv]
  rfl
theorem s102 : SoundAt Go.Proofs.Try.prog Hx 102 c102 := soundAt_of T101_sound mixed func102 (by kernel_rfl) (by
  intro rows r h
  unfold c102 at h
  split at h
  · rename_i b_Id b_Ports
    obtain ⟨hp, hr⟩ := Prod.mk.inj (Option.some.inj h)
    subst hr
    simp only [Bool.and_eq_true] at hp
    obtain ⟨hs0, hp⟩ := hp
    obtain ⟨xs0, rfl⟩ := isS_ex hs0
    simp only [deS_enS] at hp ⊢
    exact ⟨_, m102 ⟨b_Id, xs0⟩ hp⟩
  · cases h)
def T102 : Table := (102, c102) :: T101
theorem T102_sound : Table.Sound Go.Proofs.Try.prog Hx T102 := Table.sound_cons s102 T101_sound
def o100 (b : Bridge) : Bool × List Row × List Row := (decide (b.Ports.length ≤ 1048576), [], [[.int .i64 (decideM b).Id, .sl true 11 (enS true (decideM b).Ports)]])
def c100 : Contract
  | [[.int .i64 b_Id, .sl true 11 b_Ports]] => some (isS Port true b_Ports && (o100 ⟨b_Id, (deS Port b_Ports)⟩).1, (o100 ⟨b_Id, (deS Port b_Ports)⟩).2.1, (o100 ⟨b_Id, (deS Port b_Ports)⟩).2.2)
  | _ => none

def k100_0 : Ex → St → RR := kBlock (0) (kLeave (Ctx.P (Ctx.mk prog Hx (100))) (List.zip (Array.toList (Go.Func.resultTypes f100)) (Array.toList (Go.Func.results f100))) [0] [])
def S100_0 (b : Bridge) (i0 : Int) (es1 : List (List D)) : St := St.mk (V_ [C.ptr 0 0 0 [] 2 0 0] :: U_ :: I_ (rootM (Bridge.mk (Bridge.Id b) (deS Port (lendRows (enS true (Bridge.Ports b)))))) :: u_ 7 (V_ [C.view 0 0 0 [(0, 1)] 11 none] :: I_ (ofNat (length (enS true (Bridge.Ports b)))) :: I_ i0 :: u_ 48 [])) [Root.mk true 2 [[D.int i64 (Bridge.Id b), D.sl true 11 es1]] 0 0 true true false]
def B100_0 (n : Nat) : St → (Ex → St → RR) → RR := runCode (Ctx.mk prog Hx (100)) (Table.call T102) n (codeAt [1, 1, 0, 0] (bodyOf f100)) (Lv.mk 7173 [(0, 0)] 0)
def X100_1 (b : Bridge) (es1 : List (List D)) : St := St.mk (u_ 61 []) [Root.mk true 2 [[D.int i64 (Bridge.Id b), D.sl true 11 es1]] 0 0 true true false]
theorem q100_0 (b : Bridge) (n : Nat) (i0 : Int) (es1 : List (List D)) (f : St → RR) (K : Ex → St → RR) : B100_0 n (S100_0 b i0 es1) (kThen (fun st ↦ f (St.head 1 7173 2305843009213689880 st)) K) = bif decide (i0 < ofNat (length (enS true (Bridge.Ports b)))) then bif decide (0 ≤ i0) && decide (i0 < ofNat (length es1)) then bif Leaf.fit true Leaf.bool (getD (getD es1 (0 + toNat i0) []) 0 D.dead) && (Leaf.fit true Leaf.bool (getD (getD es1 (0 + toNat i0) []) 1 D.dead) && (Leaf.fit true (Leaf.int i64) (getD (getD es1 (0 + toNat i0) []) 2 D.dead) && (Leaf.fit true (Leaf.int i64) (getD (getD es1 (0 + toNat i0) []) 3 D.dead) && (Leaf.fit true (Leaf.int i64) (getD (getD es1 (0 + toNat i0) []) 4 D.dead) && (Leaf.fit true (Leaf.int i64) (getD (getD es1 (0 + toNat i0) []) 5 D.dead) && (Leaf.fit true (Leaf.int i64) (getD (getD es1 (0 + toNat i0) []) 6 D.dead) && (Leaf.fit true (Leaf.int i64) (getD (getD es1 (0 + toNat i0) []) 7 D.dead) && (Leaf.fit true (Leaf.int i64) (getD (getD es1 (0 + toNat i0) []) 8 D.dead) && (Leaf.fit true (Leaf.int i64) (getD (getD es1 (0 + toNat i0) []) 9 D.dead) && (Leaf.fit true Leaf.bool (getD (getD es1 (0 + toNat i0) []) 10 D.dead) && true)))))))))) then bif !D.flag (getD (getD es1 (0 + toNat i0) []) 0 D.dead) then f (S100_0 b (wrap i64 (i0 + 1)) es1) else bif i0 == rootM (Bridge.mk (Bridge.Id b) (deS Port (lendRows (enS true (Bridge.Ports b))))) then bif decide (0 ≤ i0) && decide (i0 < ofNat (length es1)) then f (S100_0 b (wrap i64 (i0 + 1)) (set es1 (0 + toNat i0) (En.enc true (turnM (En.dec (getD es1 (0 + toNat i0) [])) (1))))) else none else bif D.flag (getD (getD es1 (0 + toNat i0) []) 1 D.dead) then bif isS Port false (lendRows es1) && decide (length (deS Port (lendRows es1)) ≤ 1048576) then bif betterB (Vec.mk (D.num (getD (getD es1 (0 + toNat i0) []) 2 D.dead)) (D.num (getD (getD es1 (0 + toNat i0) []) 3 D.dead)) (D.num (getD (getD es1 (0 + toNat i0) []) 4 D.dead)) (D.num (getD (getD es1 (0 + toNat i0) []) 5 D.dead))) (ownM (Bridge.mk (Bridge.Id b) (deS Port (lendRows es1))) i0) then bif decide (0 ≤ i0) && decide (i0 < ofNat (length es1)) then f (S100_0 b (wrap i64 (i0 + 1)) (set es1 (0 + toNat i0) (En.enc true (turnM (En.dec (getD es1 (0 + toNat i0) [])) (3))))) else none else bif decide (0 ≤ i0) && decide (i0 < ofNat (length es1)) then f (S100_0 b (wrap i64 (i0 + 1)) (set es1 (0 + toNat i0) (En.enc true (turnM (En.dec (getD es1 (0 + toNat i0) [])) (2))))) else none else none else bif decide (0 ≤ i0) && decide (i0 < ofNat (length es1)) then f (S100_0 b (wrap i64 (i0 + 1)) (set es1 (0 + toNat i0) (En.enc true (turnM (En.dec (getD es1 (0 + toNat i0) [])) (2))))) else none else none else none else K (Ex.exit 0) (X100_1 b es1) := by kernel_rfl
theorem aX100_1 (b : Bridge) (es1 : List (List D)) : k100_0 (Ex.exit 0) (X100_1 b es1) = some ([], [[D.int i64 (Bridge.Id b), D.sl true 11 es1]]) := by kernel_rfl
theorem r100 (b : Bridge) (n : Nat) : evFn ⟨prog, Hx, 100⟩ T102.call n f100 [[.int .i64 b.Id, .sl true 11 (enS true b.Ports)]] = bif isS Port false (lendRows (enS true (Bridge.Ports b))) && decide (length (deS Port (lendRows (enS true (Bridge.Ports b)))) ≤ 1048576) then loopRun (B100_0 n) 1 7173 2305843009213689880 n (S100_0 b (0) (enS true (Bridge.Ports b))) k100_0 else none := by kernel_rfl
theorem m100 (b : Bridge) (hpre : (o100 b).1 = true) : evFn ⟨Go.Proofs.Try.prog, Hx, 100⟩ T102.call (b.Ports.length + 1) f100 [[.int .i64 b.Id, .sl true 11 (enS true b.Ports)]] = some (o100 b).2 := by
  refine (r100 b _).trans ?_
  show _ = (some ([], [[.int .i64 (decideM b).Id, .sl true 11 (enS true (decideM b).Ports)]]) : Option (List Row × List Row))
  replace hpre : (decide (b.Ports.length ≤ 1048576)) = true := hpre
  have hlen := of_decide_eq_true hpre
  simp only [lendRows_enS, isS_enS, deS_enS, hpre, Bool.and_self, cond_true]
  have hT : (decL b 0 b.Ports).length = b.Ports.length := decL_len b b.Ports 0
  have hcore := decL_core b b.Ports 0
  refine loop_list (xs := b.Ports) (fun i (ys : List Port) => S100_0 b (Int.ofNat i) (enS true ys)) (fun i ys => ys = (decL b 0 b.Ports).take i ++ b.Ports.drop i) (fun _ _ _ => some ([], [[D.int .i64 b.Id, D.sl true 11 (enS true (decL b 0 b.Ports))]])) ?_ ?_ (b.Ports.length + 1) b.Ports (by omega) (by simp)
  · rintro ys rfl f
    refine (q100_0 b _ _ _ f _).trans ?_
    rw [end_lt, cond_false]
    refine (aX100_1 _ _).trans ?_
    rw [List.drop_length, List.append_nil, ← hT, List.take_length]
  · rintro i ys hi hys f hf
    have hyl : ys.length = b.Ports.length := by rw [hys]; exact mix_len hT i
    have hy : i < ys.length := by omega
    have hat : ys[i] = b.Ports[i] := by subst hys; exact mix_get hT hi _
    have hym : (⟨b.Id, ys⟩ : Bridge).Ports.map coreP = b.Ports.map coreP := by subst hys; exact mix_map hcore i
    have hown := core_ownM (b := ⟨b.Id, ys⟩) (c := b) rfl hym
    have hg := decL_get b b.Ports 0 i hi
    rw [Nat.zero_add] at hg
    refine (q100_0 b _ _ _ f _).trans ?_
    have hys1 : decide (ys.length ≤ 1048576) = true := decide_eq_true (by omega)
    simp only [enS_length, toNat_of, dec_lt, dec_ge, hi, decide_true, cond_true, Bool.and_self, Nat.zero_add, wrap_succ (show i < 4611686018427387904 by omega), lendRows_enS, isS_enS, deS_enS, hyl, enS_get true hy, hat, hown, hpre, En.dec_enc, enS_set, Bridge.eta]
    refine bif_t rfl ?_
    exact dec_step (b := b) (i := i) (p := b.Ports[i]) (ys := ys) (fun zs => f (S100_0 b (Int.ofNat (i + 1)) (enS true zs))) (fun e => hf ys (by rw [hys]; exact mix_keep hT hi (by rw [hg, e]))) (fun x e => hf (ys.set i x) (by rw [hys]; exact mix_set hT hi (by rw [hg, e])))
theorem s100 : SoundAt Go.Proofs.Try.prog Hx 100 c100 := soundAt_of T102_sound mixed func100 (by kernel_rfl) (by
  intro rows r h
  unfold c100 at h
  split at h
  · rename_i b_Id b_Ports
    obtain ⟨hp, hr⟩ := Prod.mk.inj (Option.some.inj h)
    subst hr
    simp only [Bool.and_eq_true] at hp
    obtain ⟨hs0, hp⟩ := hp
    obtain ⟨xs0, rfl⟩ := isS_ex hs0
    simp only [deS_enS] at hp ⊢
    exact ⟨_, m100 ⟨b_Id, xs0⟩ hp⟩
  · cases h)
def T100 : Table := (100, c100) :: T102
theorem T100_sound : Table.Sound Go.Proofs.Try.prog Hx T100 := Table.sound_cons s100 T102_sound
def o99 (b : Bridge) : Bool × List Row × List Row := (bridgeOk b, [], [[.int .i64 (tickM b).Id, .sl true 11 (enS true (tickM b).Ports)]])
def c99 : Contract
  | [[.int .i64 b_Id, .sl true 11 b_Ports]] => some (isS Port true b_Ports && (o99 ⟨b_Id, (deS Port b_Ports)⟩).1, (o99 ⟨b_Id, (deS Port b_Ports)⟩).2.1, (o99 ⟨b_Id, (deS Port b_Ports)⟩).2.2)
  | _ => none

def k99_0 : Ex → St → RR := kBlock (0) (kLeave (Ctx.P (Ctx.mk prog Hx (99))) (List.zip (Array.toList (Go.Func.resultTypes f99)) (Array.toList (Go.Func.results f99))) [0] [])
def S99_0 (b : Bridge) (i0 : Int) (es1 : List (List D)) : St := St.mk (V_ [C.ptr 0 0 0 [] 2 0 0] :: u_ 7 (I_ (ofNat (length (enS true (Bridge.Ports b)))) :: I_ i0 :: u_ 38 [])) [Root.mk true 2 [[D.int i64 (Bridge.Id b), D.sl true 11 es1]] 0 0 true true false]
def B99_0 (n : Nat) : St → (Ex → St → RR) → RR := runCode (Ctx.mk prog Hx (99)) (Table.call T100) n (codeAt [1, 0, 0] (bodyOf f99)) (Lv.mk 769 [(0, 0)] 0)
def X99_1 (b : Bridge) (es1 : List (List D)) : St := St.mk (u_ 48 []) [Root.mk true 2 [[D.int i64 (Bridge.Id b), D.sl true 11 es1]] 0 0 true true false]
theorem q99_0 (b : Bridge) (n : Nat) (i0 : Int) (es1 : List (List D)) (f : St → RR) (K : Ex → St → RR) : B99_0 n (S99_0 b i0 es1) (kThen (fun st ↦ f (St.head 1 769 281474976710156 st)) K) = bif decide (i0 < ofNat (length (enS true (Bridge.Ports b)))) then bif decide (0 ≤ i0) && decide (i0 < ofNat (length es1)) then bif Leaf.fit true Leaf.bool (getD (getD es1 (0 + toNat i0) []) 0 D.dead) && (Leaf.fit true Leaf.bool (getD (getD es1 (0 + toNat i0) []) 1 D.dead) && (Leaf.fit true (Leaf.int i64) (getD (getD es1 (0 + toNat i0) []) 2 D.dead) && (Leaf.fit true (Leaf.int i64) (getD (getD es1 (0 + toNat i0) []) 3 D.dead) && (Leaf.fit true (Leaf.int i64) (getD (getD es1 (0 + toNat i0) []) 4 D.dead) && (Leaf.fit true (Leaf.int i64) (getD (getD es1 (0 + toNat i0) []) 5 D.dead) && (Leaf.fit true (Leaf.int i64) (getD (getD es1 (0 + toNat i0) []) 6 D.dead) && (Leaf.fit true (Leaf.int i64) (getD (getD es1 (0 + toNat i0) []) 7 D.dead) && (Leaf.fit true (Leaf.int i64) (getD (getD es1 (0 + toNat i0) []) 8 D.dead) && (Leaf.fit true (Leaf.int i64) (getD (getD es1 (0 + toNat i0) []) 9 D.dead) && (Leaf.fit true Leaf.bool (getD (getD es1 (0 + toNat i0) []) 10 D.dead) && true)))))))))) then bif Port.Role (fadeM (En.dec (getD es1 (0 + toNat i0) []))) == 1 then bif decide (Port.Wait (fadeM (En.dec (getD es1 (0 + toNat i0) []))) > 0) then bif decide (0 ≤ i0) && decide (i0 < ofNat (length es1)) then f (S99_0 b (wrap i64 (i0 + 1)) (set es1 (0 + toNat i0) [D.bool (Port.Up (fadeM (En.dec (getD es1 (0 + toNat i0) [])))), D.bool (Port.Has (fadeM (En.dec (getD es1 (0 + toNat i0) [])))), D.int i64 (Vec.Root (Port.Vec (fadeM (En.dec (getD es1 (0 + toNat i0) []))))), D.int i64 (Vec.Cost (Port.Vec (fadeM (En.dec (getD es1 (0 + toNat i0) []))))), D.int i64 (Vec.Bridge (Port.Vec (fadeM (En.dec (getD es1 (0 + toNat i0) []))))), D.int i64 (Vec.Port (Port.Vec (fadeM (En.dec (getD es1 (0 + toNat i0) []))))), D.int i64 (Port.Hops (fadeM (En.dec (getD es1 (0 + toNat i0) [])))), D.int i64 (Port.Left (fadeM (En.dec (getD es1 (0 + toNat i0) [])))), D.int i64 (Port.Role (fadeM (En.dec (getD es1 (0 + toNat i0) [])))), D.int i64 (wrap i64 (Port.Wait (fadeM (En.dec (getD es1 (0 + toNat i0) []))) - 1)), D.bool (openB (Port.mk (Port.Up (fadeM (En.dec (getD es1 (0 + toNat i0) [])))) (Port.Has (fadeM (En.dec (getD es1 (0 + toNat i0) [])))) (Port.Vec (fadeM (En.dec (getD es1 (0 + toNat i0) [])))) (Port.Hops (fadeM (En.dec (getD es1 (0 + toNat i0) [])))) (Port.Left (fadeM (En.dec (getD es1 (0 + toNat i0) [])))) (Port.Role (fadeM (En.dec (getD es1 (0 + toNat i0) [])))) (wrap i64 (Port.Wait (fadeM (En.dec (getD es1 (0 + toNat i0) []))) - 1)) (Port.Open (fadeM (En.dec (getD es1 (0 + toNat i0) []))))))])) else none else bif decide (0 ≤ i0) && decide (i0 < ofNat (length es1)) then f (S99_0 b (wrap i64 (i0 + 1)) (set es1 (0 + toNat i0) (En.enc true (fadeM (En.dec (getD es1 (0 + toNat i0) [])))))) else none else bif Port.Role (fadeM (En.dec (getD es1 (0 + toNat i0) []))) == 2 then bif decide (Port.Wait (fadeM (En.dec (getD es1 (0 + toNat i0) []))) > 0) then bif decide (0 ≤ i0) && decide (i0 < ofNat (length es1)) then f (S99_0 b (wrap i64 (i0 + 1)) (set es1 (0 + toNat i0) [D.bool (Port.Up (fadeM (En.dec (getD es1 (0 + toNat i0) [])))), D.bool (Port.Has (fadeM (En.dec (getD es1 (0 + toNat i0) [])))), D.int i64 (Vec.Root (Port.Vec (fadeM (En.dec (getD es1 (0 + toNat i0) []))))), D.int i64 (Vec.Cost (Port.Vec (fadeM (En.dec (getD es1 (0 + toNat i0) []))))), D.int i64 (Vec.Bridge (Port.Vec (fadeM (En.dec (getD es1 (0 + toNat i0) []))))), D.int i64 (Vec.Port (Port.Vec (fadeM (En.dec (getD es1 (0 + toNat i0) []))))), D.int i64 (Port.Hops (fadeM (En.dec (getD es1 (0 + toNat i0) [])))), D.int i64 (Port.Left (fadeM (En.dec (getD es1 (0 + toNat i0) [])))), D.int i64 (Port.Role (fadeM (En.dec (getD es1 (0 + toNat i0) [])))), D.int i64 (wrap i64 (Port.Wait (fadeM (En.dec (getD es1 (0 + toNat i0) []))) - 1)), D.bool (openB (Port.mk (Port.Up (fadeM (En.dec (getD es1 (0 + toNat i0) [])))) (Port.Has (fadeM (En.dec (getD es1 (0 + toNat i0) [])))) (Port.Vec (fadeM (En.dec (getD es1 (0 + toNat i0) [])))) (Port.Hops (fadeM (En.dec (getD es1 (0 + toNat i0) [])))) (Port.Left (fadeM (En.dec (getD es1 (0 + toNat i0) [])))) (Port.Role (fadeM (En.dec (getD es1 (0 + toNat i0) [])))) (wrap i64 (Port.Wait (fadeM (En.dec (getD es1 (0 + toNat i0) []))) - 1)) (Port.Open (fadeM (En.dec (getD es1 (0 + toNat i0) []))))))])) else none else bif decide (0 ≤ i0) && decide (i0 < ofNat (length es1)) then f (S99_0 b (wrap i64 (i0 + 1)) (set es1 (0 + toNat i0) (En.enc true (fadeM (En.dec (getD es1 (0 + toNat i0) [])))))) else none else bif decide (0 ≤ i0) && decide (i0 < ofNat (length es1)) then f (S99_0 b (wrap i64 (i0 + 1)) (set es1 (0 + toNat i0) (En.enc true (fadeM (En.dec (getD es1 (0 + toNat i0) [])))))) else none else none else none else K (Ex.exit 0) (X99_1 b es1) := by kernel_rfl
theorem aX99_1 (b : Bridge) (es1 : List (List D)) : k99_0 (Ex.exit 0) (X99_1 b es1) = some ([], [[D.int i64 (Bridge.Id b), D.sl true 11 es1]]) := by kernel_rfl
theorem r99 (b : Bridge) (n : Nat) : evFn ⟨prog, Hx, 99⟩ T100.call n f99 [[.int .i64 b.Id, .sl true 11 (enS true b.Ports)]] = loopRun (B99_0 n) 1 769 281474976710156 n (S99_0 b (0) (enS true (Bridge.Ports b))) k99_0 := by kernel_rfl
theorem m99 (b : Bridge) (hpre : (o99 b).1 = true) : evFn ⟨Go.Proofs.Try.prog, Hx, 99⟩ T100.call (b.Ports.length + 1) f99 [[.int .i64 b.Id, .sl true 11 (enS true b.Ports)]] = some (o99 b).2 := by
  refine (r99 b _).trans ?_
  show _ = (some ([], [[.int .i64 (tickM b).Id, .sl true 11 (enS true (tickM b).Ports)]]) : Option (List Row × List Row))
  replace hpre : (bridgeOk b) = true := hpre
  have hpar := bridge_parts hpre
  have hlen : b.Ports.length ≤ 4 := bridge_le4 hpre
  have hT : (b.Ports.map tickP).length = b.Ports.length := List.length_map ..
  refine loop_list (xs := b.Ports) (fun i (ys : List Port) => S99_0 b (Int.ofNat i) (enS true ys)) (fun i ys => ys = (b.Ports.map tickP).take i ++ b.Ports.drop i) (fun _ _ _ => some ([], [[D.int .i64 b.Id, D.sl true 11 (enS true (b.Ports.map tickP))]])) ?_ ?_ (b.Ports.length + 1) b.Ports (by omega) (by simp)
  · rintro ys rfl f
    refine (q99_0 b _ _ _ f _).trans ?_
    rw [end_lt, cond_false]
    refine (aX99_1 _ _).trans ?_
    rw [List.drop_length, List.append_nil, ← hT, List.take_length]
  · rintro i ys hi hys f hf
    have hyl : ys.length = b.Ports.length := by rw [hys]; exact mix_len hT i
    have hy : i < ys.length := by omega
    have hat : ys[i] = b.Ports[i] := by subst hys; exact mix_get hT hi _
    have hpo : portOk b.Ports[i] = true := List.all_eq_true.1 hpar.1 _ (List.getElem_mem hi)
    refine (q99_0 b _ _ _ f _).trans ?_
    simp only [enS_length, toNat_of, dec_lt, dec_ge, hi, decide_true, cond_true, Bool.and_self, Nat.zero_add, wrap_succ (show i < 4611686018427387904 by omega), hyl, enS_get true hy, hat, En.dec_enc]
    refine bif_t rfl ?_
    have hw := wait_b (fade_ok hpo)
    refine (wait_step (q := fadeM b.Ports[i]) (wrap_sm (by omega) (by omega)) (fun r => f (S99_0 b (Int.ofNat (i + 1)) ((enS true ys).set i r)))).trans ?_
    rw [enS_set]
    exact hf (ys.set i (tickP b.Ports[i])) (by rw [hys]; exact mix_set hT hi (by rw [List.getElem_map]))
theorem s99 : SoundAt Go.Proofs.Try.prog Hx 99 c99 := soundAt_of T100_sound mixed func99 (by kernel_rfl) (by
  intro rows r h
  unfold c99 at h
  split at h
  · rename_i b_Id b_Ports
    obtain ⟨hp, hr⟩ := Prod.mk.inj (Option.some.inj h)
    subst hr
    simp only [Bool.and_eq_true] at hp
    obtain ⟨hs0, hp⟩ := hp
    obtain ⟨xs0, rfl⟩ := isS_ex hs0
    simp only [deS_enS] at hp ⊢
    exact ⟨_, m99 ⟨b_Id, xs0⟩ hp⟩
  · cases h)
def T99 : Table := (99, c99) :: T100
theorem T99_sound : Table.Sound Go.Proofs.Try.prog Hx T99 := Table.sound_cons s99 T100_sound
end Go.Ev
end
