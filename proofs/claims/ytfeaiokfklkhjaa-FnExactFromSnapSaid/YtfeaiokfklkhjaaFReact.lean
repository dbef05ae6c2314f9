/- Contracts of functions, each by its evaluation. -/
import Derived.Test.YtfeaiokfklkhjaaEvMd
import Derived.Test.YtfeaiokfklkhjaaProg
import Derived.KernelRfl
import Derived.Test.YtfeaiokfklkhjaaFBox
set_option linter.unusedVariables false
set_option linter.unusedSimpArgs false
set_option maxRecDepth 100000
noncomputable section
open List (getD length drop take set append replicate all isEmpty)
open Int (toNat ofNat)
open Go.IntKind (i64 wrap)
open Go.Proofs.Try (prog f135 f144 f156 f157 f158 f159 f160 f172 f173 f174 f175 f180 f181 f182 f183 f188 f189 f190 f83 f87 func135 func144 func156 func157 func158 func159 func160 func172 func173 func174 func175 func180 func181 func182 func183 func188 func189 func190 func83 func87)
namespace Go.Ev
open Go.RowKit Go.Md
end Go.Ev
namespace Go.Md
open Go Go.Ev
def betterB (a b : Vec) : Bool := bif a.Root != b.Root then decide (a.Root < b.Root) else bif a.Cost != b.Cost then decide (a.Cost < b.Cost) else bif a.Bridge != b.Bridge then decide (a.Bridge < b.Bridge) else decide (a.Port < b.Port)
def cmpI (x y : Int) : Int := bif decide (x < y) then -1 else bif decide (x > y) then 1 else 0
def orL : List Int → Int
  | [] => 0
  | x :: xs => bif x != 0 then x else orL xs
theorem cmp_ne (x y : Int) : (cmpI x y != 0) = (x != y) := by
  unfold cmpI
  rcases Int.lt_trichotomy x y with h | h | h
  · rw [decide_eq_true h, cond_true, show (x != y) = true by simp; omega]; rfl
  · subst h; simp
  · rw [decide_eq_false (by omega), cond_false, decide_eq_true h, cond_true, show (x != y) = true by simp; omega]; rfl
theorem cmp_lt (x y : Int) : decide (cmpI x y < 0) = decide (x < y) := by
  unfold cmpI
  rcases Int.lt_trichotomy x y with h | h | h
  · rw [decide_eq_true h, cond_true]; rfl
  · subst h; simp
  · rw [decide_eq_false (show ¬ x < y by omega), cond_false, decide_eq_true h, cond_true]; rfl
theorem orL_cons (x : Int) (xs : List Int) : orL (x :: xs) = bif x != 0 then x else orL xs := rfl
theorem or_last (x : Int) : orL [x] = x := by
  rw [orL_cons]
  cases h : x != 0
  · have : x = 0 := by simpa using h
    rw [this]; rfl
  · rfl
theorem or_lt (x : Int) (xs : List Int) : decide (orL (x :: xs) < 0) = bif x != 0 then decide (x < 0) else decide (orL xs < 0) := by
  rw [orL_cons]
  cases x != 0 <;> rfl
theorem better_or (a b : Vec) : decide (orL [cmpI a.Root b.Root, cmpI a.Cost b.Cost, cmpI a.Bridge b.Bridge, cmpI a.Port b.Port] < 0) = betterB a b := by
  rw [or_lt, or_lt, or_lt, or_last, cmp_ne, cmp_ne, cmp_ne, cmp_lt, cmp_lt, cmp_lt, cmp_lt]
  rfl
def noVec : Vec := ⟨0, 0, 0, 0⟩
def claimT (p : Port) (v : Vec) (h : Int) : Bool := p.Up && (isHopsB h && (vecOk v && (portOk p && !(p.Has && (betterB p.Vec v && !(v.Bridge == p.Vec.Bridge && v.Port == p.Vec.Port))))))
def claimM (p : Port) (v : Vec) (h : Int) : Port := bif claimT p v h then ⟨p.Up, true, v, h, 3, p.Role, p.Wait, p.Open⟩ else p
def fadeM (p : Port) : Port := bif p.Has && portOk p then (bif p.Left - 1 == 0 then ⟨p.Up, false, noVec, 0, 0, p.Role, p.Wait, p.Open⟩ else ⟨p.Up, p.Has, p.Vec, p.Hops, p.Left - 1, p.Role, p.Wait, p.Open⟩) else p
def turnW (p : Port) (r : Int) : Int := bif r == 3 then 0 else bif p.Role == 3 then 4 else p.Wait
def openRW (r w : Int) : Bool := (r == 1 || r == 2) && w == 0
def turnM (p : Port) (r : Int) : Port := bif p.Up && (inR r 1 3 && portOk p) then ⟨p.Up, p.Has, p.Vec, p.Hops, p.Left, r, turnW p r, openRW r (turnW p r)⟩ else p
def candB (id : Int) (p : Port) : Bool := p.Has && (!(p.Vec.Bridge == id) && (decide (p.Vec.Root < id) && (decide (p.Vec.Cost < 20) && decide (p.Hops < 8))))
def bestAt (all : List Port) (best : Int) : Vec := (all.getD best.toNat port0).Vec
def rootS (id : Int) (all : List Port) (i : Nat) (p : Port) (best : Int) : Int := bif candB id p && (decide (best < 0) || betterB p.Vec (bestAt all best)) then (i : Int) else best
def rootL (id : Int) (all : List Port) : Nat → List Port → Int → Int
  | _, [], best => best
  | i, p :: ps, best => rootL id all (i + 1) ps (rootS id all i p best)
def rootM (b : Bridge) : Int := rootL b.Id b.Ports 0 b.Ports (Int.negSucc 0)
def ownM (b : Bridge) (port : Int) : Vec := bif decide (rootM b < 0) then ⟨b.Id, 0, b.Id, port⟩ else ⟨(bestAt b.Ports (rootM b)).Root, IntKind.wrap IntKind.i64 ((bestAt b.Ports (rootM b)).Cost + 1), b.Id, port⟩
def hopsM (b : Bridge) : Int := bif decide (rootM b < 0) then 0 else IntKind.wrap IntKind.i64 ((b.Ports.getD (rootM b).toNat port0).Hops + 1)
def roleP (b : Bridge) (i : Nat) (p : Port) : Int := bif (i : Int) == rootM b then 1 else bif p.Has && betterB p.Vec (ownM b (i : Int)) then 3 else 2
def decP (b : Bridge) (i : Nat) (p : Port) : Port := bif p.Up then turnM p (roleP b i p) else p
def decL (b : Bridge) : Nat → List Port → List Port
  | _, [] => []
  | i, p :: ps => decP b i p :: decL b (i + 1) ps
def decideM (b : Bridge) : Bridge := ⟨b.Id, decL b 0 b.Ports⟩
def waitP (q : Port) : Port := bif (q.Role == 1 || q.Role == 2) && decide (q.Wait > 0) then ⟨q.Up, q.Has, q.Vec, q.Hops, q.Left, q.Role, q.Wait - 1, openRW q.Role (q.Wait - 1)⟩ else q
def tickP (p : Port) : Port := waitP (fadeM p)
def tickM (b : Bridge) : Bridge := ⟨b.Id, b.Ports.map tickP⟩
def atP (b : Bridge) (x : In) : Port := b.Ports.getD x.Port.toNat port0
def linkP (up : Bool) : Port := bif up then ⟨true, false, noVec, 0, 0, 3, 0, false⟩ else port0
def inM (b : Bridge) (x : In) : Bridge := bif x.Kind == 1 then ⟨b.Id, b.Ports.set x.Port.toNat (claimM (atP b x) x.Vec x.Hops)⟩ else bif x.Kind == 2 then tickM b else ⟨b.Id, b.Ports.set x.Port.toNat (linkP x.Up)⟩
def stillB (b : Bridge) (x : In) : Bool := x.Kind == 3 && (atP b x).Up == x.Up
def gatesL : Nat → List Port → List Port → List Out
  | _, [], _ => []
  | _, _ :: _, [] => []
  | i, p :: ps, q :: qs => bif q.Open != p.Open then ⟨2, (i : Int), noVec, 0, q.Open⟩ :: gatesL (i + 1) ps qs else gatesL (i + 1) ps qs
def claimsL (b : Bridge) : Nat → List Port → List Out
  | i, q :: qs => bif q.Role == 2 then ⟨1, (i : Int), ownM b (i : Int), hopsM b, false⟩ :: claimsL b (i + 1) qs else claimsL b (i + 1) qs
  | _, [] => []
def canB (b : Bridge) (x : In) : Bool := inOk x && (decide (x.Port < (b.Ports.length : Int)) && bridgeOk b)
def newB (b : Bridge) (x : In) : Bridge := bif stillB b x then b else decideM (inM b x)
def saysM (b : Bridge) (x : In) : List Out := gatesL 0 b.Ports (newB b x).Ports ++ (bif x.Kind == 2 then claimsL (newB b x) 0 (newB b x).Ports else [])
def reactB (b : Bridge) (x : In) : Bridge := bif canB b x then newB b x else b
def reactO (b : Bridge) (x : In) : List Out := bif canB b x then saysM b x else []
theorem rootS_b {id : Int} {all : List Port} {i : Nat} {p : Port} {best : Int} (hi : i < all.length) (h0 : -1 ≤ best) (h1 : best < (all.length : Int)) : -1 ≤ rootS id all i p best ∧ rootS id all i p best < (all.length : Int) := by
  unfold rootS
  cases candB id p && (decide (best < 0) || betterB p.Vec (bestAt all best))
  · exact ⟨h0, h1⟩
  · rw [cond_true]; omega
theorem rootL_b (id : Int) (all : List Port) : ∀ (ps : List Port) (i : Nat) (best : Int), i + ps.length = all.length → -1 ≤ best → best < (all.length : Int) → -1 ≤ rootL id all i ps best ∧ rootL id all i ps best < (all.length : Int)
  | [], _, _, _, h0, h1 => ⟨h0, h1⟩
  | p :: ps, i, best, hl, h0, h1 => by
    rw [List.length_cons] at hl
    have := rootS_b (id := id) (p := p) (show i < all.length by omega) h0 h1
    exact rootL_b id all ps (i + 1) _ (by omega) this.1 this.2
theorem rootM_b (b : Bridge) : -1 ≤ rootM b ∧ rootM b < (b.Ports.length : Int) := by
  refine rootL_b b.Id b.Ports b.Ports 0 (Int.negSucc 0) (by omega) (Int.le_refl _) (by omega)
def coreP (p : Port) : Bool × Vec × Int := (p.Has, p.Vec, p.Hops)
theorem core_bestAt {a c : List Port} (h : a.map coreP = c.map coreP) (k : Int) : bestAt a k = bestAt c k := by
  unfold bestAt
  have h2 : (a.getD k.toNat port0).Vec = ((a.map coreP).getD k.toNat (coreP port0)).2.1 := by
    simp only [List.getD_eq_getElem?_getD, List.getElem?_map]
    cases a[k.toNat]? <;> rfl
  have h3 : (c.getD k.toNat port0).Vec = ((c.map coreP).getD k.toNat (coreP port0)).2.1 := by
    simp only [List.getD_eq_getElem?_getD, List.getElem?_map]
    cases c[k.toNat]? <;> rfl
  rw [h2, h3, h]
theorem core_hops {a c : List Port} (h : a.map coreP = c.map coreP) (k : Nat) : (a.getD k port0).Hops = (c.getD k port0).Hops := by
  have h2 : (a.getD k port0).Hops = ((a.map coreP).getD k (coreP port0)).2.2 := by
    simp only [List.getD_eq_getElem?_getD, List.getElem?_map]
    cases a[k]? <;> rfl
  have h3 : (c.getD k port0).Hops = ((c.map coreP).getD k (coreP port0)).2.2 := by
    simp only [List.getD_eq_getElem?_getD, List.getElem?_map]
    cases c[k]? <;> rfl
  rw [h2, h3, h]
theorem core_rootL {id : Int} {a c : List Port} (h : a.map coreP = c.map coreP) : ∀ (ps qs : List Port) (i : Nat) (best : Int), ps.map coreP = qs.map coreP → rootL id a i ps best = rootL id c i qs best
  | [], [], _, _, _ => rfl
  | [], q :: qs, _, _, h2 => by cases h2
  | p :: ps, [], _, _, h2 => by cases h2
  | p :: ps, q :: qs, i, best, h2 => by
    rw [List.map_cons, List.map_cons, List.cons.injEq] at h2
    have h3 : p.Has = q.Has ∧ p.Vec = q.Vec ∧ p.Hops = q.Hops := by
      have := h2.1
      unfold coreP at this
      rw [Prod.mk.injEq, Prod.mk.injEq] at this
      exact this
    have h4 : rootS id a i p best = rootS id c i q best := by
      unfold rootS candB
      rw [h3.1, h3.2.1, h3.2.2, core_bestAt h]
    show rootL id a (i + 1) ps (rootS id a i p best) = rootL id c (i + 1) qs (rootS id c i q best)
    rw [h4]
    exact core_rootL h ps qs (i + 1) _ h2.2
theorem core_rootM {b c : Bridge} (hi : b.Id = c.Id) (h : b.Ports.map coreP = c.Ports.map coreP) : rootM b = rootM c := by
  unfold rootM
  rw [hi]
  exact core_rootL h _ _ _ _ h
theorem core_ownM {b c : Bridge} (hi : b.Id = c.Id) (h : b.Ports.map coreP = c.Ports.map coreP) (k : Int) : ownM b k = ownM c k := by
  unfold ownM
  rw [core_rootM hi h, core_bestAt h, hi]
theorem turn_core (p : Port) (r : Int) : coreP (turnM p r) = coreP p := by
  unfold turnM
  cases p.Up && (inR r 1 3 && portOk p) <;> rfl
theorem decP_core (b : Bridge) (i : Nat) (p : Port) : coreP (decP b i p) = coreP p := by
  unfold decP
  cases p.Up
  · rfl
  · exact turn_core _ _
theorem decL_core (b : Bridge) : ∀ (ps : List Port) (i : Nat), (decL b i ps).map coreP = ps.map coreP
  | [], _ => rfl
  | p :: ps, i => by
    show coreP (decP b i p) :: (decL b (i + 1) ps).map coreP = _
    rw [decP_core, decL_core b ps (i + 1)]
    rfl
theorem decL_len (b : Bridge) : ∀ (ps : List Port) (i : Nat), (decL b i ps).length = ps.length
  | [], _ => rfl
  | p :: ps, i => by
    show (decL b (i + 1) ps).length + 1 = ps.length + 1
    rw [decL_len b ps (i + 1)]
theorem claim_ok {p : Port} {v : Vec} {h : Int} (hp : portOk p = true) : portOk (claimM p v h) = true := by
  unfold claimM
  cases hc : claimT p v h
  · exact hp
  · rw [cond_true]
    unfold claimT at hc
    unfold portOk openB at hp ⊢
    simp only [Bool.and_eq_true] at hc
    obtain ⟨h1, h2, h3, h4⟩ := hc
    simp only [h1, h2, h3, cond_true, Bool.and_eq_true, Bool.true_and] at hp ⊢
    refine ⟨rfl, hp.2⟩
theorem fade_ok {p : Port} (hp : portOk p = true) : portOk (fadeM p) = true := by
  unfold fadeM
  cases hc : p.Has && portOk p
  · exact hp
  · rw [cond_true]
    rw [Bool.and_eq_true] at hc
    have hh := hc.1
    unfold portOk openB inR at hp
    simp only [hh, cond_true, Bool.and_eq_true, decide_eq_true_eq] at hp
    cases hl : p.Left - 1 == 0
    · have hl' : p.Left - 1 ≠ 0 := by simpa using hl
      rw [cond_false]
      unfold portOk openB inR
      simp only [hh, cond_true, Bool.and_eq_true, decide_eq_true_eq]
      refine ⟨⟨hp.1.1, hp.1.2.1, hp.1.2.2.1, by omega, by omega⟩, hp.2⟩
    · rw [cond_true]
      unfold portOk openB inR
      simp only [cond_false, Bool.and_eq_true, decide_eq_true_eq]
      exact ⟨by decide, hp.2⟩
theorem wait_ok {p : Port} (hp : portOk p = true) : portOk (waitP p) = true := by
  unfold waitP
  cases hc : (p.Role == 1 || p.Role == 2) && decide (p.Wait > 0)
  · exact hp
  · rw [cond_true]
    rw [Bool.and_eq_true, decide_eq_true_eq] at hc
    unfold portOk openB inR at hp ⊢
    simp only [Bool.and_eq_true, decide_eq_true_eq] at hp ⊢
    obtain ⟨h1, ⟨⟨h2, h3⟩, h4⟩, h5⟩ := hp
    refine ⟨h1, ⟨⟨h2, h3⟩, by omega, by omega⟩, ?_⟩
    unfold openRW
    simp
theorem tick_ok {p : Port} (hp : portOk p = true) : portOk (tickP p) = true := wait_ok (fade_ok hp)
theorem turn_ok {p : Port} {r : Int} (hp : portOk p = true) : portOk (turnM p r) = true := by
  unfold turnM
  cases hc : p.Up && (inR r 1 3 && portOk p)
  · exact hp
  · rw [cond_true]
    simp only [Bool.and_eq_true] at hc
    obtain ⟨hu, hr, _⟩ := hc
    have hr' := in_b hr
    unfold portOk openB inR at hp ⊢
    simp only [Bool.and_eq_true, decide_eq_true_eq] at hp ⊢
    obtain ⟨h1, ⟨⟨h2, h3⟩, h4⟩, h5⟩ := hp
    refine ⟨h1, ⟨⟨⟨by omega, by omega⟩, ?_⟩, ?_⟩, ?_⟩
    · rw [hu]
      simp
      omega
    · unfold turnW
      cases r == 3 <;> cases p.Role == 3 <;> simp only [cond_true, cond_false] <;> omega
    · unfold openRW
      simp
theorem link_ok (up : Bool) : portOk (linkP up) = true := by cases up <;> rfl
theorem decP_ok {b : Bridge} {i : Nat} {p : Port} (hp : portOk p = true) : portOk (decP b i p) = true := by
  unfold decP
  cases p.Up
  · exact hp
  · exact turn_ok hp
theorem decL_ok (b : Bridge) : ∀ (ps : List Port) (i : Nat), ps.all portOk = true → (decL b i ps).all portOk = true
  | [], _, _ => rfl
  | p :: ps, i, h => by
    rw [List.all_cons, Bool.and_eq_true] at h
    show (portOk (decP b i p) && (decL b (i + 1) ps).all portOk) = true
    rw [decP_ok h.1, decL_ok b ps (i + 1) h.2]
    rfl
theorem bridge_parts {b : Bridge} (h : bridgeOk b = true) : b.Ports.all portOk = true ∧ inR b.Id 1 9 = true ∧ inR (b.Ports.length : Int) 1 4 = true := by
  unfold bridgeOk at h
  simp only [Bool.and_eq_true] at h
  exact h
theorem bridge_mk {b : Bridge} {ps : List Port} (h : bridgeOk b = true) (hp : ps.all portOk = true) (hl : ps.length = b.Ports.length) : bridgeOk ⟨b.Id, ps⟩ = true := by
  obtain ⟨_, h2, h3⟩ := bridge_parts h
  unfold bridgeOk
  simp only [hp, h2, hl, h3, Bool.and_self]
theorem decide_ok {b : Bridge} (h : bridgeOk b = true) : bridgeOk (decideM b) = true := bridge_mk h (decL_ok b b.Ports 0 (bridge_parts h).1) (decL_len b b.Ports 0)
theorem all_set {ps : List Port} {p : Port} (h : ps.all portOk = true) (hp : portOk p = true) (k : Nat) : (ps.set k p).all portOk = true := by
  rw [List.all_eq_true] at h ⊢
  intro x hx
  rcases List.mem_or_eq_of_mem_set hx with h1 | h1
  · exact h x h1
  · rw [h1]; exact hp
theorem at_ok {b : Bridge} (h : bridgeOk b = true) (x : In) : portOk (atP b x) = true := by
  unfold atP
  rw [List.getD_eq_getElem?_getD]
  cases hk : b.Ports[x.Port.toNat]?
  · rfl
  · exact List.all_eq_true.1 (bridge_parts h).1 _ (List.mem_of_getElem? hk)
theorem in_ok {b : Bridge} (h : bridgeOk b = true) (x : In) : bridgeOk (inM b x) = true := by
  have hp := (bridge_parts h).1
  unfold inM
  cases x.Kind == 1
  · cases x.Kind == 2
    · exact bridge_mk h (all_set hp (link_ok _) _) (List.length_set ..)
    · refine bridge_mk h ?_ (List.length_map ..)
      rw [List.all_eq_true] at hp ⊢
      intro y hy
      obtain ⟨z, hz, rfl⟩ := List.mem_map.1 hy
      exact tick_ok (hp z hz)
  · exact bridge_mk h (all_set hp (claim_ok (at_ok h x)) _) (List.length_set ..)
theorem new_bok {b : Bridge} (h : bridgeOk b = true) (x : In) : bridgeOk (newB b x) = true := by
  unfold newB
  cases stillB b x
  · exact decide_ok (in_ok h x)
  · exact h
theorem react_ok {b : Bridge} (h : bridgeOk b = true) (x : In) : bridgeOk (reactB b x) = true := by
  unfold reactB
  cases canB b x
  · exact h
  · exact new_bok h x
def openP (q : Port) : Port := ⟨q.Up, q.Has, q.Vec, q.Hops, q.Left, q.Role, q.Wait, openRW q.Role q.Wait⟩
def l8tickP (p : Port) : Port := openP (waitP (fadeM p))
theorem open_id {p : Port} (h : portOk p = true) : openP p = p := by
  unfold portOk openB at h
  simp only [Bool.and_eq_true, beq_iff_eq] at h
  obtain ⟨_, _, h5⟩ := h
  unfold openP openRW
  cases p
  simp only at h5 ⊢
  rw [h5]
theorem l8tick_ok {p : Port} (h : portOk p = true) : l8tickP p = tickP p := open_id (tick_ok h)
theorem gatesL_same : ∀ (ps : List Port) (i : Nat), gatesL i ps ps = []
  | [], _ => rfl
  | p :: ps, i => by
    unfold gatesL
    rw [bne_self_eq_false, cond_false]
    exact gatesL_same ps (i + 1)
theorem ge_not (a b : Int) : decide (a ≥ b) = !decide (a < b) := by
  by_cases h : a < b
  · rw [decide_eq_true h, decide_eq_false (by omega)]; rfl
  · rw [decide_eq_false h, decide_eq_true (by omega)]; rfl
theorem fade_left {p : Port} (hh : p.Has = true) (hp : portOk p = true) : 1 ≤ p.Left ∧ p.Left ≤ 3 := by
  unfold portOk inR at hp
  simp only [hh, cond_true, Bool.and_eq_true, decide_eq_true_eq] at hp
  exact hp.1.2.2.2
theorem wait_b {p : Port} (hp : portOk p = true) : 0 ≤ p.Wait ∧ p.Wait ≤ 4 := by
  unfold portOk inR at hp
  simp only [Bool.and_eq_true, decide_eq_true_eq] at hp
  exact hp.2.1.2
theorem mix_len {α : Type} {T P : List α} (h : T.length = P.length) (i : Nat) : (T.take i ++ P.drop i).length = P.length := by
  rw [List.length_append, List.length_take, List.length_drop]
  omega
theorem mix_get {α : Type} {T P : List α} {i : Nat} (hl : T.length = P.length) (hi : i < P.length) (h : i < (T.take i ++ P.drop i).length) : (T.take i ++ P.drop i)[i] = P[i] := by
  have h1 : (T.take i).length = i := by rw [List.length_take]; omega
  rw [List.getElem_append_right (by omega), List.getElem_drop]
  congr 1
  omega
theorem mix_set {α : Type} {T P : List α} {i : Nat} {x : α} (hl : T.length = P.length) (hi : i < P.length) (hx : T[i]'(by omega) = x) : (T.take i ++ P.drop i).set i x = T.take (i + 1) ++ P.drop (i + 1) := by
  rw [List.drop_eq_getElem_cons hi, mid_set (T.take i) P[i] x (P.drop (i + 1)) (by rw [List.length_take]; omega), ← hx, List.take_append_getElem]
theorem mix_keep {α : Type} {T P : List α} {i : Nat} (hl : T.length = P.length) (hi : i < P.length) (hx : T[i]'(by omega) = P[i]) : T.take i ++ P.drop i = T.take (i + 1) ++ P.drop (i + 1) := by
  rw [List.drop_eq_getElem_cons hi, ← List.take_append_getElem (show i < T.length by omega), hx, List.append_assoc]
  rfl
theorem mix_map {α β : Type} {g : α → β} {T P : List α} (h : T.map g = P.map g) (i : Nat) : (T.take i ++ P.drop i).map g = P.map g := by
  rw [List.map_append, List.map_take, List.map_drop, h, List.take_append_drop]
theorem decL_get (b : Bridge) : ∀ (ps : List Port) (i k : Nat) (h : k < ps.length), (decL b i ps)[k]'(by rw [decL_len]; exact h) = decP b (i + k) ps[k]
  | p :: ps, i, 0, _ => rfl
  | p :: ps, i, k + 1, h => by
    have hk : k < ps.length := by rw [List.length_cons] at h; omega
    have := decL_get b ps (i + 1) k hk
    refine Eq.trans (b := decP b (i + 1 + k) ps[k]) this ?_
    rw [show i + 1 + k = i + (k + 1) by omega]
    rfl
theorem ne_sym (x y : Int) : (x != y) = !(y == x) := by
  by_cases h : x = y
  · subst h; simp
  · have h2 : y ≠ x := fun e => h e.symm
    rw [bne, beq_eq_false_iff_ne.2 h, beq_eq_false_iff_ne.2 h2]
theorem bridge_le4 {b : Bridge} (h : bridgeOk b = true) : b.Ports.length ≤ 4 := by
  have := (bridge_parts h).2.2
  unfold inR at this
  simp only [Bool.and_eq_true, decide_eq_true_eq] at this
  omega
theorem root_step {R : Type} {id : Int} {all : List Port} {i : Nat} {p : Port} {best : Int} {X : R} (F : Int → R) (hX : decide (best < 0) = false → X = bif betterB p.Vec (bestAt all best) then F (Int.ofNat i) else F best) :
    (bif !p.Has then F best else bif p.Vec.Bridge == id then F best else bif !decide (p.Vec.Root < id) then F best else bif !decide (p.Vec.Cost < 20) then F best else bif !decide (p.Hops < 8) then F best else bif decide (best < 0) then F (Int.ofNat i) else X) = F (rootS id all i p best) := by
  unfold rootS candB
  cases p.Has
  · rfl
  cases p.Vec.Bridge == id
  case true => rfl
  cases decide (p.Vec.Root < id)
  · rfl
  cases decide (p.Vec.Cost < 20)
  · rfl
  cases decide (p.Hops < 8)
  · rfl
  cases c6 : decide (best < 0)
  case true => rfl
  rw [cond_false, hX c6]
  cases betterB p.Vec (bestAt all best) <;> rfl
theorem bestAt_nat {all : List Port} {k : Nat} (hk : k < all.length) : bestAt all (k : Int) = all[k].Vec := by
  unfold bestAt
  rw [Int.toNat_natCast, List.getD_eq_getElem?_getD, List.getElem?_eq_getElem hk]
  rfl
theorem dec_step {R : Type} {b : Bridge} {i : Nat} {p : Port} {ys : List Port} {r : R} (F : List Port → R) (hkeep : decP b i p = p → F ys = r) (hput : ∀ x, decP b i p = x → F (ys.set i x) = r) :
    (bif !p.Up then F ys else bif Int.ofNat i == rootM b then F (ys.set i (turnM p 1)) else bif p.Has then bif betterB p.Vec (ownM b (Int.ofNat i)) then F (ys.set i (turnM p 3)) else F (ys.set i (turnM p 2)) else F (ys.set i (turnM p 2))) = r := by
  unfold decP roleP at hkeep hput
  cases hu : p.Up
  · rw [hu] at hkeep
    exact hkeep rfl
  rw [hu] at hput
  cases h1 : (i : Int) == rootM b
  case true =>
    rw [h1] at hput
    exact hput _ rfl
  rw [h1] at hput
  cases h2 : p.Has
  · rw [h2] at hput
    exact hput _ rfl
  rw [h2] at hput
  cases h3 : betterB p.Vec (ownM b (i : Int))
  · rw [h3] at hput
    exact hput _ rfl
  · rw [h3] at hput
    exact hput _ rfl
theorem wait_step {R : Type} {q : Port} (hw : IntKind.wrap IntKind.i64 (q.Wait - 1) = q.Wait - 1) (F : List D → R) :
    (bif q.Role == 1 then bif decide (q.Wait > 0) then F [D.bool q.Up, D.bool q.Has, D.int .i64 q.Vec.Root, D.int .i64 q.Vec.Cost, D.int .i64 q.Vec.Bridge, D.int .i64 q.Vec.Port, D.int .i64 q.Hops, D.int .i64 q.Left, D.int .i64 q.Role, D.int .i64 (IntKind.wrap IntKind.i64 (q.Wait - 1)), D.bool (openB ⟨q.Up, q.Has, q.Vec, q.Hops, q.Left, q.Role, IntKind.wrap IntKind.i64 (q.Wait - 1), q.Open⟩)] else F (Go.Ev.En.enc true q)
     else bif q.Role == 2 then bif decide (q.Wait > 0) then F [D.bool q.Up, D.bool q.Has, D.int .i64 q.Vec.Root, D.int .i64 q.Vec.Cost, D.int .i64 q.Vec.Bridge, D.int .i64 q.Vec.Port, D.int .i64 q.Hops, D.int .i64 q.Left, D.int .i64 q.Role, D.int .i64 (IntKind.wrap IntKind.i64 (q.Wait - 1)), D.bool (openB ⟨q.Up, q.Has, q.Vec, q.Hops, q.Left, q.Role, IntKind.wrap IntKind.i64 (q.Wait - 1), q.Open⟩)] else F (Go.Ev.En.enc true q) else F (Go.Ev.En.enc true q)) = F (Go.Ev.En.enc true (waitP q)) := by
  rw [hw]
  unfold waitP
  cases q.Role == 1
  · cases q.Role == 2
    · rfl
    · cases decide (q.Wait > 0) <;> rfl
  · cases decide (q.Wait > 0) <;> rfl
def portR (x : Port) : Go.Ev.RR := some ([Go.Ev.En.enc true x], [])
end Go.Md
namespace Go.Ev
open Go.Md
def o190 (x : Int) : Bool × List Row × List Row := (true, [[.bool (false)]], [])
def c190 : Contract
  | [[.int .i64 x]] => some ((o190 x).1, (o190 x).2.1, (o190 x).2.2)
  | _ => none
theorem r190 (x : Int) (n : Nat) : evFn ⟨prog, Hx, 190⟩ T101.call n f190 [[.int .i64 x]] = some ([[D.bool (x != x)]], []) := by kernel_rfl
theorem m190 (x : Int) (hpre : (o190 x).1 = true) : evFn ⟨Go.Proofs.Try.prog, Hx, 190⟩ T101.call 0 f190 [[.int .i64 x]] = some (o190 x).2 := by
  refine (r190 x _).trans ?_
  show _ = (some ([[.bool (false)]], []) : Option (List Row × List Row))
  replace hpre : (true) = true := hpre
  simp only [bne_self_eq_false]
theorem s190 : SoundAt Go.Proofs.Try.prog Hx 190 c190 := soundAt_of T101_sound mixed func190 (by kernel_rfl) (by
  intro rows r h
  unfold c190 at h
  split at h
  · rename_i x
    obtain ⟨hp, hr⟩ := Prod.mk.inj (Option.some.inj h)
    subst hr
    exact ⟨_, m190 x hp⟩
  · cases h)
def T190 : Table := (190, c190) :: T101
theorem T190_sound : Table.Sound Go.Proofs.Try.prog Hx T190 := Table.sound_cons s190 T101_sound
def o189 (x : Int) (y : Int) : Bool × List Row × List Row := (true, [[.int .i64 (cmpI x y)]], [])
def c189 : Contract
  | [[.int .i64 x], [.int .i64 y]] => some ((o189 x y).1, (o189 x y).2.1, (o189 x y).2.2)
  | _ => none
theorem r189 (x : Int) (y : Int) (n : Nat) : evFn ⟨prog, Hx, 189⟩ T190.call n f189 [[.int .i64 x], [.int .i64 y]] = bif decide (x < y) then some ([[D.int i64 (Int.negSucc 0)]], []) else bif decide (x > y) then some ([[D.int i64 (1)]], []) else some ([[D.int i64 (0)]], []) := by kernel_rfl
theorem m189 (x : Int) (y : Int) (hpre : (o189 x y).1 = true) : evFn ⟨Go.Proofs.Try.prog, Hx, 189⟩ T190.call 0 f189 [[.int .i64 x], [.int .i64 y]] = some (o189 x y).2 := by
  refine (r189 x y _).trans ?_
  show _ = (some ([[.int .i64 (cmpI x y)]], []) : Option (List Row × List Row))
  replace hpre : (true) = true := hpre
  unfold cmpI
  cases decide (x < y) <;> cases decide (x > y) <;> rfl
theorem s189 : SoundAt Go.Proofs.Try.prog Hx 189 c189 := soundAt_of T190_sound mixed func189 (by kernel_rfl) (by
  intro rows r h
  unfold c189 at h
  split at h
  · rename_i x y
    obtain ⟨hp, hr⟩ := Prod.mk.inj (Option.some.inj h)
    subst hr
    exact ⟨_, m189 x y hp⟩
  · cases h)
def T189 : Table := (189, c189) :: T190
theorem T189_sound : Table.Sound Go.Proofs.Try.prog Hx T189 := Table.sound_cons s189 T190_sound
def o188 (vals : List Int) : Bool × List Row × List Row := (decide (vals.length ≤ 1048576), [[.int .i64 (orL vals)]], [])
def c188 : Contract
  | [[.sl false 1 vals]] => some (isS Int false vals && (o188 (deS Int vals)).1, (o188 (deS Int vals)).2.1, (o188 (deS Int vals)).2.2)
  | _ => none
def k188_0 (n : Nat) : Ex → St → RR := kThen (fun st ↦ runCode (Ctx.mk prog Hx (188)) (Table.call T189) n (codeAt [1, 1, 1] (bodyOf f188)) (Lv.mk 4 [] 4) st (kLeave (Ctx.P (Ctx.mk prog Hx (188))) (List.zip (Array.toList (Go.Func.resultTypes f188)) (Array.toList (Go.Func.results f188))) [] [])) (kLeave (Ctx.P (Ctx.mk prog Hx (188))) (List.zip (Array.toList (Go.Func.resultTypes f188)) (Array.toList (Go.Func.results f188))) [] [])
def k188_1 (n : Nat) : Ex → St → RR := kBlock (0) (k188_0 n)
def S188_0 (vals : List Int) (i0 : Int) : St := St.mk [U, U, U, I_ (0), U, U, V_ [C.d (D.sl false 1 (enS false vals))], I_ (ofNat (length (enS false vals))), I_ i0, U, U, U, U, U, U, U, U, U] []
def B188_0 (n : Nat) : St → (Ex → St → RR) → RR := runCode (Ctx.mk prog Hx (188)) (Table.call T189) n (codeAt [1, 1, 0, 1, 0, 0] (bodyOf f188)) (Lv.mk 456 [(0, 8)] 4)
def X188_2 (vals : List Int) (i0 : Int) : St := St.mk [U, U, I_ (D.num (getD (getD (enS false vals) (toNat i0) []) 0 D.dead)), I_ (0), U, I_ (D.num (getD (getD (enS false vals) (toNat i0) []) 0 D.dead)), V_ [C.d (D.sl false 1 (enS false vals))], I_ (ofNat (length (enS false vals))), I_ i0, B_ true, V_ [C.rptr (getD (enS false vals) (toNat i0) [])], I_ (D.num (getD (getD (enS false vals) (toNat i0) []) 0 D.dead)), I_ (D.num (getD (getD (enS false vals) (toNat i0) []) 0 D.dead)), I_ (0), B_ true, I_ (D.num (getD (getD (enS false vals) (toNat i0) []) 0 D.dead)), U, U] []
def X188_3 (vals : List Int) (i0 : Int) : St := St.mk [U, U, U, I_ (0), U, U, V_ [C.d (D.sl false 1 (enS false vals))], I_ (ofNat (length (enS false vals))), I_ i0, B_ false, U, U, U, U, U, U, U, U] []
theorem q188_0 (vals : List Int) (n : Nat) (i0 : Int) (f : St → RR) (K : Ex → St → RR) : B188_0 n (S188_0 vals i0) (kThen (fun st ↦ f (St.head 0 456 130852 st)) K) = bif decide (i0 < ofNat (length (enS false vals))) then bif decide (0 ≤ i0) && decide (i0 < ofNat (length (enS false vals))) then bif Leaf.fit false (Leaf.int i64) (getD (getD (enS false vals) (toNat i0) []) 0 D.dead) && true then bif D.num (getD (getD (enS false vals) (toNat i0) []) 0 D.dead) != 0 then K Ex.ret (X188_2 vals i0) else f (S188_0 vals (wrap i64 (i0 + 1))) else none else none else K (Ex.exit 0) (X188_3 vals i0) := by kernel_rfl
theorem aX188_2 (vals : List Int) (n : Nat) (i0 : Int) : k188_1 n Ex.ret (X188_2 vals i0) = some ([[D.int i64 (D.num (getD (getD (enS false vals) (toNat i0) []) 0 D.dead))]], []) := by kernel_rfl
theorem aX188_3 (vals : List Int) (n : Nat) (i0 : Int) : k188_1 n (Ex.exit 0) (X188_3 vals i0) = some ([[D.int i64 (0)]], []) := by kernel_rfl
theorem r188 (vals : List Int) (n : Nat) : evFn ⟨prog, Hx, 188⟩ T189.call n f188 [[.sl false 1 (enS false vals)]] = loopRun (B188_0 n) 0 456 130852 n (S188_0 vals (0)) (k188_1 n) := by kernel_rfl
theorem m188 (vals : List Int) (hpre : (o188 vals).1 = true) : evFn ⟨Go.Proofs.Try.prog, Hx, 188⟩ T189.call (vals.length + 1) f188 [[.sl false 1 (enS false vals)]] = some (o188 vals).2 := by
  refine (r188 vals _).trans ?_
  show _ = (some ([[.int .i64 (orL vals)]], []) : Option (List Row × List Row))
  replace hpre : (decide (vals.length ≤ 1048576)) = true := hpre
  have hlen := of_decide_eq_true hpre
  refine loop_list (xs := vals) (fun i (_ : Unit) => S188_0 vals (Int.ofNat i)) (fun _ _ => True) (fun _ _ rest => some ([[D.int .i64 (orL rest)]], [])) ?_ ?_ (vals.length + 1) () (by omega) trivial
  · rintro _ _ f
    refine (q188_0 vals _ _ f _).trans ?_
    rw [end_lt, cond_false]
    exact aX188_3 vals _ _
  · rintro i _ hi _ f hf
    refine (q188_0 vals _ _ f _).trans ?_
    rw [orL_cons]
    simp only [enS_length, toNat_of, dec_lt, dec_ge, decide_true, decide_false, cond_true, cond_false, Bool.and_self, Bool.and_true, Bool.true_and, Bool.not_true, Bool.not_false, Nat.lt_irrefl, Nat.zero_add, isS_enS, deS_enS, isS_nil, deS_nil, List.nil_append, lendRows_enS, deepRows_enS, noSl_u8, En.enc, List.getD_cons_zero, List.getD_cons_succ, D.num, D.flag, D.text, D.rows, Leaf.fit, List.append_eq, TReader.eta, Frame.eta, Heard.eta, Member.eta, Card.eta, Out1.eta, Vec.eta, Port.eta, Bridge.eta, In.eta, Out.eta, Link.eta, Net.eta, TEnd.eta, Minder.eta, Reg.eta, Wire.eta, Box.eta, Deed.eta, Bpdu.eta, Visit.eta, Fabric.eta, Got.eta, TRide.eta, Up.eta, Copy.eta, Bucket.eta, Snap.eta, TL9Cur.eta, TL21In.eta, enS_get _ hi, hi, wrap_succ (show i < 4611686018427387904 by omega)]
    cases h : vals[i] != 0
    · simp only [enS_length, toNat_of, dec_lt, dec_ge, decide_true, decide_false, cond_true, cond_false, Bool.and_self, Bool.and_true, Bool.true_and, Bool.not_true, Bool.not_false, Nat.lt_irrefl, Nat.zero_add, isS_enS, deS_enS, isS_nil, deS_nil, List.nil_append, lendRows_enS, deepRows_enS, noSl_u8, En.enc, List.getD_cons_zero, List.getD_cons_succ, D.num, D.flag, D.text, D.rows, Leaf.fit, List.append_eq, TReader.eta, Frame.eta, Heard.eta, Member.eta, Card.eta, Out1.eta, Vec.eta, Port.eta, Bridge.eta, In.eta, Out.eta, Link.eta, Net.eta, TEnd.eta, Minder.eta, Reg.eta, Wire.eta, Box.eta, Deed.eta, Bpdu.eta, Visit.eta, Fabric.eta, Got.eta, TRide.eta, Up.eta, Copy.eta, Bucket.eta, Snap.eta, TL9Cur.eta, TL21In.eta]
      exact hf () trivial
    · simp only [enS_length, toNat_of, dec_lt, dec_ge, decide_true, decide_false, cond_true, cond_false, Bool.and_self, Bool.and_true, Bool.true_and, Bool.not_true, Bool.not_false, Nat.lt_irrefl, Nat.zero_add, isS_enS, deS_enS, isS_nil, deS_nil, List.nil_append, lendRows_enS, deepRows_enS, noSl_u8, En.enc, List.getD_cons_zero, List.getD_cons_succ, D.num, D.flag, D.text, D.rows, Leaf.fit, List.append_eq, TReader.eta, Frame.eta, Heard.eta, Member.eta, Card.eta, Out1.eta, Vec.eta, Port.eta, Bridge.eta, In.eta, Out.eta, Link.eta, Net.eta, TEnd.eta, Minder.eta, Reg.eta, Wire.eta, Box.eta, Deed.eta, Bpdu.eta, Visit.eta, Fabric.eta, Got.eta, TRide.eta, Up.eta, Copy.eta, Bucket.eta, Snap.eta, TL9Cur.eta, TL21In.eta]
      refine (aX188_2 vals _ _).trans ?_
      simp only [enS_length, toNat_of, dec_lt, dec_ge, decide_true, decide_false, cond_true, cond_false, Bool.and_self, Bool.and_true, Bool.true_and, Bool.not_true, Bool.not_false, Nat.lt_irrefl, Nat.zero_add, isS_enS, deS_enS, isS_nil, deS_nil, List.nil_append, lendRows_enS, deepRows_enS, noSl_u8, En.enc, List.getD_cons_zero, List.getD_cons_succ, D.num, D.flag, D.text, D.rows, Leaf.fit, List.append_eq, TReader.eta, Frame.eta, Heard.eta, Member.eta, Card.eta, Out1.eta, Vec.eta, Port.eta, Bridge.eta, In.eta, Out.eta, Link.eta, Net.eta, TEnd.eta, Minder.eta, Reg.eta, Wire.eta, Box.eta, Deed.eta, Bpdu.eta, Visit.eta, Fabric.eta, Got.eta, TRide.eta, Up.eta, Copy.eta, Bucket.eta, Snap.eta, TL9Cur.eta, TL21In.eta, enS_get _ hi, hi, wrap_succ (show i < 4611686018427387904 by omega)]
theorem s188 : SoundAt Go.Proofs.Try.prog Hx 188 c188 := soundAt_of T189_sound mixed func188 (by kernel_rfl) (by
  intro rows r h
  unfold c188 at h
  split at h
  · rename_i vals
    obtain ⟨hp, hr⟩ := Prod.mk.inj (Option.some.inj h)
    subst hr
    simp only [Bool.and_eq_true] at hp
    obtain ⟨hs0, hp⟩ := hp
    obtain ⟨xs0, rfl⟩ := isS_ex hs0
    simp only [deS_enS] at hp ⊢
    exact ⟨_, m188 xs0 hp⟩
  · cases h)
def T188 : Table := (188, c188) :: T189
theorem T188_sound : Table.Sound Go.Proofs.Try.prog Hx T188 := Table.sound_cons s188 T189_sound
def o180 (a : Vec) (b : Vec) : Bool × List Row × List Row := (true, [[.bool (betterB a b)]], [])
def c180 : Contract
  | [[.int .i64 a_Root, .int .i64 a_Cost, .int .i64 a_Bridge, .int .i64 a_Port], [.int .i64 b_Root, .int .i64 b_Cost, .int .i64 b_Bridge, .int .i64 b_Port]] => some ((o180 ⟨a_Root, a_Cost, a_Bridge, a_Port⟩ ⟨b_Root, b_Cost, b_Bridge, b_Port⟩).1, (o180 ⟨a_Root, a_Cost, a_Bridge, a_Port⟩ ⟨b_Root, b_Cost, b_Bridge, b_Port⟩).2.1, (o180 ⟨a_Root, a_Cost, a_Bridge, a_Port⟩ ⟨b_Root, b_Cost, b_Bridge, b_Port⟩).2.2)
  | _ => none
theorem r180 (a : Vec) (b : Vec) (n : Nat) : evFn ⟨prog, Hx, 180⟩ T188.call n f180 [[.int .i64 a.Root, .int .i64 a.Cost, .int .i64 a.Bridge, .int .i64 a.Port], [.int .i64 b.Root, .int .i64 b.Cost, .int .i64 b.Bridge, .int .i64 b.Port]] = bif isS Int false [[D.int i64 (cmpI (Vec.Root a) (Vec.Root b))], [D.int i64 (cmpI (Vec.Cost a) (Vec.Cost b))], [D.int i64 (cmpI (Vec.Bridge a) (Vec.Bridge b))], [D.int i64 (cmpI (Vec.Port a) (Vec.Port b))]] && decide (length (deS Int [[D.int i64 (cmpI (Vec.Root a) (Vec.Root b))], [D.int i64 (cmpI (Vec.Cost a) (Vec.Cost b))], [D.int i64 (cmpI (Vec.Bridge a) (Vec.Bridge b))], [D.int i64 (cmpI (Vec.Port a) (Vec.Port b))]]) ≤ 1048576) then some ([[D.bool (decide (orL (deS Int [[D.int i64 (cmpI (Vec.Root a) (Vec.Root b))], [D.int i64 (cmpI (Vec.Cost a) (Vec.Cost b))], [D.int i64 (cmpI (Vec.Bridge a) (Vec.Bridge b))], [D.int i64 (cmpI (Vec.Port a) (Vec.Port b))]]) < 0))]], []) else none := by kernel_rfl
theorem m180 (a : Vec) (b : Vec) (hpre : (o180 a b).1 = true) : evFn ⟨Go.Proofs.Try.prog, Hx, 180⟩ T188.call 0 f180 [[.int .i64 a.Root, .int .i64 a.Cost, .int .i64 a.Bridge, .int .i64 a.Port], [.int .i64 b.Root, .int .i64 b.Cost, .int .i64 b.Bridge, .int .i64 b.Port]] = some (o180 a b).2 := by
  refine (r180 a b _).trans ?_
  show _ = (some ([[.bool (betterB a b)]], []) : Option (List Row × List Row))
  replace hpre : (true) = true := hpre
  refine (congrArg (fun z => (bif isS Int false z && decide (List.length (deS Int z) ≤ 1048576) then some ([[D.bool (decide (orL (deS Int z) < 0))]], []) else none : RR)) (show _ = enS false [cmpI a.Root b.Root, cmpI a.Cost b.Cost, cmpI a.Bridge b.Bridge, cmpI a.Port b.Port] from rfl)).trans ?_
  simp only [isS_enS, deS_enS, better_or]
  rfl
theorem s180 : SoundAt Go.Proofs.Try.prog Hx 180 c180 := soundAt_of T188_sound mixed func180 (by kernel_rfl) (by
  intro rows r h
  unfold c180 at h
  split at h
  · rename_i a_Root a_Cost a_Bridge a_Port b_Root b_Cost b_Bridge b_Port
    obtain ⟨hp, hr⟩ := Prod.mk.inj (Option.some.inj h)
    subst hr
    exact ⟨_, m180 ⟨a_Root, a_Cost, a_Bridge, a_Port⟩ ⟨b_Root, b_Cost, b_Bridge, b_Port⟩ hp⟩
  · cases h)
def T180 : Table := (180, c180) :: T188
theorem T180_sound : Table.Sound Go.Proofs.Try.prog Hx T180 := Table.sound_cons s180 T188_sound
def o172 (a : Vec) (b : Vec) : Bool × List Row × List Row := (true, [[.bool (betterB a b)]], [])
def c172 : Contract
  | [[.int .i64 a_Root, .int .i64 a_Cost, .int .i64 a_Bridge, .int .i64 a_Port], [.int .i64 b_Root, .int .i64 b_Cost, .int .i64 b_Bridge, .int .i64 b_Port]] => some ((o172 ⟨a_Root, a_Cost, a_Bridge, a_Port⟩ ⟨b_Root, b_Cost, b_Bridge, b_Port⟩).1, (o172 ⟨a_Root, a_Cost, a_Bridge, a_Port⟩ ⟨b_Root, b_Cost, b_Bridge, b_Port⟩).2.1, (o172 ⟨a_Root, a_Cost, a_Bridge, a_Port⟩ ⟨b_Root, b_Cost, b_Bridge, b_Port⟩).2.2)
  | _ => none
theorem r172 (a : Vec) (b : Vec) (n : Nat) : evFn ⟨prog, Hx, 172⟩ T180.call n f172 [[.int .i64 a.Root, .int .i64 a.Cost, .int .i64 a.Bridge, .int .i64 a.Port], [.int .i64 b.Root, .int .i64 b.Cost, .int .i64 b.Bridge, .int .i64 b.Port]] = bif Vec.Root a != Vec.Root b then some ([[D.bool (decide (Vec.Root a < Vec.Root b))]], []) else bif Vec.Cost a != Vec.Cost b then some ([[D.bool (decide (Vec.Cost a < Vec.Cost b))]], []) else bif Vec.Bridge a != Vec.Bridge b then some ([[D.bool (decide (Vec.Bridge a < Vec.Bridge b))]], []) else some ([[D.bool (decide (Vec.Port a < Vec.Port b))]], []) := by kernel_rfl
theorem m172 (a : Vec) (b : Vec) (hpre : (o172 a b).1 = true) : evFn ⟨Go.Proofs.Try.prog, Hx, 172⟩ T180.call 0 f172 [[.int .i64 a.Root, .int .i64 a.Cost, .int .i64 a.Bridge, .int .i64 a.Port], [.int .i64 b.Root, .int .i64 b.Cost, .int .i64 b.Bridge, .int .i64 b.Port]] = some (o172 a b).2 := by
  refine (r172 a b _).trans ?_
  show _ = (some ([[.bool (betterB a b)]], []) : Option (List Row × List Row))
  replace hpre : (true) = true := hpre
  unfold betterB
  cases a.Root != b.Root <;> cases a.Cost != b.Cost <;> cases a.Bridge != b.Bridge <;> rfl
theorem s172 : SoundAt Go.Proofs.Try.prog Hx 172 c172 := soundAt_of T180_sound mixed func172 (by kernel_rfl) (by
  intro rows r h
  unfold c172 at h
  split at h
  · rename_i a_Root a_Cost a_Bridge a_Port b_Root b_Cost b_Bridge b_Port
    obtain ⟨hp, hr⟩ := Prod.mk.inj (Option.some.inj h)
    subst hr
    exact ⟨_, m172 ⟨a_Root, a_Cost, a_Bridge, a_Port⟩ ⟨b_Root, b_Cost, b_Bridge, b_Port⟩ hp⟩
  · cases h)
def T172 : Table := (172, c172) :: T180
theorem T172_sound : Table.Sound Go.Proofs.Try.prog Hx T172 := Table.sound_cons s172 T180_sound
def o156 (p : Port) (v : Vec) (hops : Int) : Bool × List Row × List Row := (true, [[.bool (claimM p v hops).Up, .bool (claimM p v hops).Has, .int .i64 (claimM p v hops).Vec.Root, .int .i64 (claimM p v hops).Vec.Cost, .int .i64 (claimM p v hops).Vec.Bridge, .int .i64 (claimM p v hops).Vec.Port, .int .i64 (claimM p v hops).Hops, .int .i64 (claimM p v hops).Left, .int .i64 (claimM p v hops).Role, .int .i64 (claimM p v hops).Wait, .bool (claimM p v hops).Open]], [])
def c156 : Contract
  | [[.bool p_Up, .bool p_Has, .int .i64 p_Vec_Root, .int .i64 p_Vec_Cost, .int .i64 p_Vec_Bridge, .int .i64 p_Vec_Port, .int .i64 p_Hops, .int .i64 p_Left, .int .i64 p_Role, .int .i64 p_Wait, .bool p_Open], [.int .i64 v_Root, .int .i64 v_Cost, .int .i64 v_Bridge, .int .i64 v_Port], [.int .i64 hops]] => some ((o156 ⟨p_Up, p_Has, ⟨p_Vec_Root, p_Vec_Cost, p_Vec_Bridge, p_Vec_Port⟩, p_Hops, p_Left, p_Role, p_Wait, p_Open⟩ ⟨v_Root, v_Cost, v_Bridge, v_Port⟩ hops).1, (o156 ⟨p_Up, p_Has, ⟨p_Vec_Root, p_Vec_Cost, p_Vec_Bridge, p_Vec_Port⟩, p_Hops, p_Left, p_Role, p_Wait, p_Open⟩ ⟨v_Root, v_Cost, v_Bridge, v_Port⟩ hops).2.1, (o156 ⟨p_Up, p_Has, ⟨p_Vec_Root, p_Vec_Cost, p_Vec_Bridge, p_Vec_Port⟩, p_Hops, p_Left, p_Role, p_Wait, p_Open⟩ ⟨v_Root, v_Cost, v_Bridge, v_Port⟩ hops).2.2)
  | _ => none
theorem r156 (p : Port) (v : Vec) (hops : Int) (n : Nat) : evFn ⟨prog, Hx, 156⟩ T172.call n f156 [[.bool p.Up, .bool p.Has, .int .i64 p.Vec.Root, .int .i64 p.Vec.Cost, .int .i64 p.Vec.Bridge, .int .i64 p.Vec.Port, .int .i64 p.Hops, .int .i64 p.Left, .int .i64 p.Role, .int .i64 p.Wait, .bool p.Open], [.int .i64 v.Root, .int .i64 v.Cost, .int .i64 v.Bridge, .int .i64 v.Port], [.int .i64 hops]] = bif !Port.Up p then some ([En.enc true p], []) else bif !isHopsB hops then some ([En.enc true p], []) else bif !vecOk v then some ([En.enc true p], []) else bif !portOk p then some ([En.enc true p], []) else bif Vec.Bridge v == Vec.Bridge (Port.Vec p) then bif Port.Has p then bif betterB (Port.Vec p) v then bif !Vec.Port v == Vec.Port (Port.Vec p) then some ([En.enc true p], []) else some ([[D.bool (Port.Up p), D.bool true, D.int i64 (Vec.Root v), D.int i64 (Vec.Cost v), D.int i64 (Vec.Bridge v), D.int i64 (Vec.Port v), D.int i64 hops, D.int i64 (3), D.int i64 (Port.Role p), D.int i64 (Port.Wait p), D.bool (Port.Open p)]], []) else some ([[D.bool (Port.Up p), D.bool true, D.int i64 (Vec.Root v), D.int i64 (Vec.Cost v), D.int i64 (Vec.Bridge v), D.int i64 (Vec.Port v), D.int i64 hops, D.int i64 (3), D.int i64 (Port.Role p), D.int i64 (Port.Wait p), D.bool (Port.Open p)]], []) else some ([[D.bool (Port.Up p), D.bool true, D.int i64 (Vec.Root v), D.int i64 (Vec.Cost v), D.int i64 (Vec.Bridge v), D.int i64 (Vec.Port v), D.int i64 hops, D.int i64 (3), D.int i64 (Port.Role p), D.int i64 (Port.Wait p), D.bool (Port.Open p)]], []) else bif Port.Has p then bif betterB (Port.Vec p) v then some ([En.enc true p], []) else some ([[D.bool (Port.Up p), D.bool true, D.int i64 (Vec.Root v), D.int i64 (Vec.Cost v), D.int i64 (Vec.Bridge v), D.int i64 (Vec.Port v), D.int i64 hops, D.int i64 (3), D.int i64 (Port.Role p), D.int i64 (Port.Wait p), D.bool (Port.Open p)]], []) else some ([[D.bool (Port.Up p), D.bool true, D.int i64 (Vec.Root v), D.int i64 (Vec.Cost v), D.int i64 (Vec.Bridge v), D.int i64 (Vec.Port v), D.int i64 hops, D.int i64 (3), D.int i64 (Port.Role p), D.int i64 (Port.Wait p), D.bool (Port.Open p)]], []) := by kernel_rfl
theorem m156 (p : Port) (v : Vec) (hops : Int) (hpre : (o156 p v hops).1 = true) : evFn ⟨Go.Proofs.Try.prog, Hx, 156⟩ T172.call 0 f156 [[.bool p.Up, .bool p.Has, .int .i64 p.Vec.Root, .int .i64 p.Vec.Cost, .int .i64 p.Vec.Bridge, .int .i64 p.Vec.Port, .int .i64 p.Hops, .int .i64 p.Left, .int .i64 p.Role, .int .i64 p.Wait, .bool p.Open], [.int .i64 v.Root, .int .i64 v.Cost, .int .i64 v.Bridge, .int .i64 v.Port], [.int .i64 hops]] = some (o156 p v hops).2 := by
  refine (r156 p v hops _).trans ?_
  show _ = (some ([[.bool (claimM p v hops).Up, .bool (claimM p v hops).Has, .int .i64 (claimM p v hops).Vec.Root, .int .i64 (claimM p v hops).Vec.Cost, .int .i64 (claimM p v hops).Vec.Bridge, .int .i64 (claimM p v hops).Vec.Port, .int .i64 (claimM p v hops).Hops, .int .i64 (claimM p v hops).Left, .int .i64 (claimM p v hops).Role, .int .i64 (claimM p v hops).Wait, .bool (claimM p v hops).Open]], []) : Option (List Row × List Row))
  replace hpre : (true) = true := hpre
  show _ = portR (claimM p v hops)
  unfold claimM claimT
  cases p.Up
  · rfl
  cases isHopsB hops
  · rfl
  cases vecOk v
  · rfl
  cases portOk p
  · rfl
  cases p.Has <;> cases betterB p.Vec v <;> cases v.Bridge == p.Vec.Bridge <;> cases v.Port == p.Vec.Port <;> rfl
theorem s156 : SoundAt Go.Proofs.Try.prog Hx 156 c156 := soundAt_of T172_sound mixed func156 (by kernel_rfl) (by
  intro rows r h
  unfold c156 at h
  split at h
  · rename_i p_Up p_Has p_Vec_Root p_Vec_Cost p_Vec_Bridge p_Vec_Port p_Hops p_Left p_Role p_Wait p_Open v_Root v_Cost v_Bridge v_Port hops
    obtain ⟨hp, hr⟩ := Prod.mk.inj (Option.some.inj h)
    subst hr
    exact ⟨_, m156 ⟨p_Up, p_Has, ⟨p_Vec_Root, p_Vec_Cost, p_Vec_Bridge, p_Vec_Port⟩, p_Hops, p_Left, p_Role, p_Wait, p_Open⟩ ⟨v_Root, v_Cost, v_Bridge, v_Port⟩ hops hp⟩
  · cases h)
def T156 : Table := (156, c156) :: T172
theorem T156_sound : Table.Sound Go.Proofs.Try.prog Hx T156 := Table.sound_cons s156 T172_sound
def o144 (p : Port) (v : Vec) (hops : Int) : Bool × List Row × List Row := (true, [[.bool (claimM p v hops).Up, .bool (claimM p v hops).Has, .int .i64 (claimM p v hops).Vec.Root, .int .i64 (claimM p v hops).Vec.Cost, .int .i64 (claimM p v hops).Vec.Bridge, .int .i64 (claimM p v hops).Vec.Port, .int .i64 (claimM p v hops).Hops, .int .i64 (claimM p v hops).Left, .int .i64 (claimM p v hops).Role, .int .i64 (claimM p v hops).Wait, .bool (claimM p v hops).Open]], [])
def c144 : Contract
  | [[.bool p_Up, .bool p_Has, .int .i64 p_Vec_Root, .int .i64 p_Vec_Cost, .int .i64 p_Vec_Bridge, .int .i64 p_Vec_Port, .int .i64 p_Hops, .int .i64 p_Left, .int .i64 p_Role, .int .i64 p_Wait, .bool p_Open], [.int .i64 v_Root, .int .i64 v_Cost, .int .i64 v_Bridge, .int .i64 v_Port], [.int .i64 hops]] => some ((o144 ⟨p_Up, p_Has, ⟨p_Vec_Root, p_Vec_Cost, p_Vec_Bridge, p_Vec_Port⟩, p_Hops, p_Left, p_Role, p_Wait, p_Open⟩ ⟨v_Root, v_Cost, v_Bridge, v_Port⟩ hops).1, (o144 ⟨p_Up, p_Has, ⟨p_Vec_Root, p_Vec_Cost, p_Vec_Bridge, p_Vec_Port⟩, p_Hops, p_Left, p_Role, p_Wait, p_Open⟩ ⟨v_Root, v_Cost, v_Bridge, v_Port⟩ hops).2.1, (o144 ⟨p_Up, p_Has, ⟨p_Vec_Root, p_Vec_Cost, p_Vec_Bridge, p_Vec_Port⟩, p_Hops, p_Left, p_Role, p_Wait, p_Open⟩ ⟨v_Root, v_Cost, v_Bridge, v_Port⟩ hops).2.2)
  | _ => none
theorem r144 (p : Port) (v : Vec) (hops : Int) (n : Nat) : evFn ⟨prog, Hx, 144⟩ T156.call n f144 [[.bool p.Up, .bool p.Has, .int .i64 p.Vec.Root, .int .i64 p.Vec.Cost, .int .i64 p.Vec.Bridge, .int .i64 p.Vec.Port, .int .i64 p.Hops, .int .i64 p.Left, .int .i64 p.Role, .int .i64 p.Wait, .bool p.Open], [.int .i64 v.Root, .int .i64 v.Cost, .int .i64 v.Bridge, .int .i64 v.Port], [.int .i64 hops]] = bif !portOk p then some ([En.enc true p], []) else bif !Port.Up p then some ([En.enc true p], []) else bif !vecOk v then some ([En.enc true p], []) else bif !inR hops (0) (8) then some ([En.enc true p], []) else bif Port.Has p then bif betterB (Port.Vec p) v then bif Vec.Bridge (Port.Vec p) != Vec.Bridge v then some ([En.enc true p], []) else bif Vec.Port (Port.Vec p) != Vec.Port v then some ([En.enc true p], []) else some ([[D.bool (Port.Up p), D.bool true, D.int i64 (Vec.Root v), D.int i64 (Vec.Cost v), D.int i64 (Vec.Bridge v), D.int i64 (Vec.Port v), D.int i64 hops, D.int i64 (3), D.int i64 (Port.Role p), D.int i64 (Port.Wait p), D.bool (Port.Open p)]], []) else some ([[D.bool (Port.Up p), D.bool true, D.int i64 (Vec.Root v), D.int i64 (Vec.Cost v), D.int i64 (Vec.Bridge v), D.int i64 (Vec.Port v), D.int i64 hops, D.int i64 (3), D.int i64 (Port.Role p), D.int i64 (Port.Wait p), D.bool (Port.Open p)]], []) else some ([[D.bool (Port.Up p), D.bool true, D.int i64 (Vec.Root v), D.int i64 (Vec.Cost v), D.int i64 (Vec.Bridge v), D.int i64 (Vec.Port v), D.int i64 hops, D.int i64 (3), D.int i64 (Port.Role p), D.int i64 (Port.Wait p), D.bool (Port.Open p)]], []) := by kernel_rfl
theorem m144 (p : Port) (v : Vec) (hops : Int) (hpre : (o144 p v hops).1 = true) : evFn ⟨Go.Proofs.Try.prog, Hx, 144⟩ T156.call 0 f144 [[.bool p.Up, .bool p.Has, .int .i64 p.Vec.Root, .int .i64 p.Vec.Cost, .int .i64 p.Vec.Bridge, .int .i64 p.Vec.Port, .int .i64 p.Hops, .int .i64 p.Left, .int .i64 p.Role, .int .i64 p.Wait, .bool p.Open], [.int .i64 v.Root, .int .i64 v.Cost, .int .i64 v.Bridge, .int .i64 v.Port], [.int .i64 hops]] = some (o144 p v hops).2 := by
  refine (r144 p v hops _).trans ?_
  show _ = (some ([[.bool (claimM p v hops).Up, .bool (claimM p v hops).Has, .int .i64 (claimM p v hops).Vec.Root, .int .i64 (claimM p v hops).Vec.Cost, .int .i64 (claimM p v hops).Vec.Bridge, .int .i64 (claimM p v hops).Vec.Port, .int .i64 (claimM p v hops).Hops, .int .i64 (claimM p v hops).Left, .int .i64 (claimM p v hops).Role, .int .i64 (claimM p v hops).Wait, .bool (claimM p v hops).Open]], []) : Option (List Row × List Row))
  replace hpre : (true) = true := hpre
  show _ = portR (claimM p v hops)
  have b1 := ne_sym p.Vec.Bridge v.Bridge
  have b2 := ne_sym p.Vec.Port v.Port
  unfold claimM claimT isHopsB
  rw [b1, b2]
  cases p.Up
  · cases portOk p <;> rfl
  cases inR hops 0 8
  · cases portOk p <;> cases vecOk v <;> rfl
  cases vecOk v
  · cases portOk p <;> rfl
  cases portOk p
  · rfl
  cases p.Has <;> cases betterB p.Vec v <;> cases v.Bridge == p.Vec.Bridge <;> cases v.Port == p.Vec.Port <;> rfl
theorem s144 : SoundAt Go.Proofs.Try.prog Hx 144 c144 := soundAt_of T156_sound mixed func144 (by kernel_rfl) (by
  intro rows r h
  unfold c144 at h
  split at h
  · rename_i p_Up p_Has p_Vec_Root p_Vec_Cost p_Vec_Bridge p_Vec_Port p_Hops p_Left p_Role p_Wait p_Open v_Root v_Cost v_Bridge v_Port hops
    obtain ⟨hp, hr⟩ := Prod.mk.inj (Option.some.inj h)
    subst hr
    exact ⟨_, m144 ⟨p_Up, p_Has, ⟨p_Vec_Root, p_Vec_Cost, p_Vec_Bridge, p_Vec_Port⟩, p_Hops, p_Left, p_Role, p_Wait, p_Open⟩ ⟨v_Root, v_Cost, v_Bridge, v_Port⟩ hops hp⟩
  · cases h)
def T144 : Table := (144, c144) :: T156
theorem T144_sound : Table.Sound Go.Proofs.Try.prog Hx T144 := Table.sound_cons s144 T156_sound
def o181 (p : Port) : Bool × List Row × List Row := (true, [[.bool (fadeM p).Up, .bool (fadeM p).Has, .int .i64 (fadeM p).Vec.Root, .int .i64 (fadeM p).Vec.Cost, .int .i64 (fadeM p).Vec.Bridge, .int .i64 (fadeM p).Vec.Port, .int .i64 (fadeM p).Hops, .int .i64 (fadeM p).Left, .int .i64 (fadeM p).Role, .int .i64 (fadeM p).Wait, .bool (fadeM p).Open]], [])
def c181 : Contract
  | [[.bool p_Up, .bool p_Has, .int .i64 p_Vec_Root, .int .i64 p_Vec_Cost, .int .i64 p_Vec_Bridge, .int .i64 p_Vec_Port, .int .i64 p_Hops, .int .i64 p_Left, .int .i64 p_Role, .int .i64 p_Wait, .bool p_Open]] => some ((o181 ⟨p_Up, p_Has, ⟨p_Vec_Root, p_Vec_Cost, p_Vec_Bridge, p_Vec_Port⟩, p_Hops, p_Left, p_Role, p_Wait, p_Open⟩).1, (o181 ⟨p_Up, p_Has, ⟨p_Vec_Root, p_Vec_Cost, p_Vec_Bridge, p_Vec_Port⟩, p_Hops, p_Left, p_Role, p_Wait, p_Open⟩).2.1, (o181 ⟨p_Up, p_Has, ⟨p_Vec_Root, p_Vec_Cost, p_Vec_Bridge, p_Vec_Port⟩, p_Hops, p_Left, p_Role, p_Wait, p_Open⟩).2.2)
  | _ => none
theorem r181 (p : Port) (n : Nat) : evFn ⟨prog, Hx, 181⟩ T144.call n f181 [[.bool p.Up, .bool p.Has, .int .i64 p.Vec.Root, .int .i64 p.Vec.Cost, .int .i64 p.Vec.Bridge, .int .i64 p.Vec.Port, .int .i64 p.Hops, .int .i64 p.Left, .int .i64 p.Role, .int .i64 p.Wait, .bool p.Open]] = bif !Port.Has p then some ([En.enc true p], []) else bif !portOk p then some ([En.enc true p], []) else bif wrap i64 (Port.Left p - 1) == 0 then some ([[D.bool (Port.Up p), D.bool false, D.int i64 (0), D.int i64 (0), D.int i64 (0), D.int i64 (0), D.int i64 (0), D.int i64 (wrap i64 (Port.Left p - 1)), D.int i64 (Port.Role p), D.int i64 (Port.Wait p), D.bool (Port.Open p)]], []) else some ([[D.bool (Port.Up p), D.bool (Port.Has p), D.int i64 (Vec.Root (Port.Vec p)), D.int i64 (Vec.Cost (Port.Vec p)), D.int i64 (Vec.Bridge (Port.Vec p)), D.int i64 (Vec.Port (Port.Vec p)), D.int i64 (Port.Hops p), D.int i64 (wrap i64 (Port.Left p - 1)), D.int i64 (Port.Role p), D.int i64 (Port.Wait p), D.bool (Port.Open p)]], []) := by kernel_rfl
theorem m181 (p : Port) (hpre : (o181 p).1 = true) : evFn ⟨Go.Proofs.Try.prog, Hx, 181⟩ T144.call 0 f181 [[.bool p.Up, .bool p.Has, .int .i64 p.Vec.Root, .int .i64 p.Vec.Cost, .int .i64 p.Vec.Bridge, .int .i64 p.Vec.Port, .int .i64 p.Hops, .int .i64 p.Left, .int .i64 p.Role, .int .i64 p.Wait, .bool p.Open]] = some (o181 p).2 := by
  refine (r181 p _).trans ?_
  show _ = (some ([[.bool (fadeM p).Up, .bool (fadeM p).Has, .int .i64 (fadeM p).Vec.Root, .int .i64 (fadeM p).Vec.Cost, .int .i64 (fadeM p).Vec.Bridge, .int .i64 (fadeM p).Vec.Port, .int .i64 (fadeM p).Hops, .int .i64 (fadeM p).Left, .int .i64 (fadeM p).Role, .int .i64 (fadeM p).Wait, .bool (fadeM p).Open]], []) : Option (List Row × List Row))
  replace hpre : (true) = true := hpre
  show _ = portR (fadeM p)
  unfold fadeM
  cases hH : p.Has
  · rfl
  cases hP : portOk p
  · rfl
  have hb := fade_left hH hP
  have w : IntKind.wrap IntKind.i64 (p.Left - 1) = p.Left - 1 := wrap_sm (by omega) (by omega)
  rw [w]
  cases hl : p.Left - 1 == 0
  · rfl
  · have e : p.Left - 1 = 0 := by simpa using hl
    rw [e]
    rfl
theorem s181 : SoundAt Go.Proofs.Try.prog Hx 181 c181 := soundAt_of T144_sound mixed func181 (by kernel_rfl) (by
  intro rows r h
  unfold c181 at h
  split at h
  · rename_i p_Up p_Has p_Vec_Root p_Vec_Cost p_Vec_Bridge p_Vec_Port p_Hops p_Left p_Role p_Wait p_Open
    obtain ⟨hp, hr⟩ := Prod.mk.inj (Option.some.inj h)
    subst hr
    exact ⟨_, m181 ⟨p_Up, p_Has, ⟨p_Vec_Root, p_Vec_Cost, p_Vec_Bridge, p_Vec_Port⟩, p_Hops, p_Left, p_Role, p_Wait, p_Open⟩ hp⟩
  · cases h)
def T181 : Table := (181, c181) :: T144
theorem T181_sound : Table.Sound Go.Proofs.Try.prog Hx T181 := Table.sound_cons s181 T144_sound
def o173 (p : Port) : Bool × List Row × List Row := (true, [[.bool (fadeM p).Up, .bool (fadeM p).Has, .int .i64 (fadeM p).Vec.Root, .int .i64 (fadeM p).Vec.Cost, .int .i64 (fadeM p).Vec.Bridge, .int .i64 (fadeM p).Vec.Port, .int .i64 (fadeM p).Hops, .int .i64 (fadeM p).Left, .int .i64 (fadeM p).Role, .int .i64 (fadeM p).Wait, .bool (fadeM p).Open]], [])
def c173 : Contract
  | [[.bool p_Up, .bool p_Has, .int .i64 p_Vec_Root, .int .i64 p_Vec_Cost, .int .i64 p_Vec_Bridge, .int .i64 p_Vec_Port, .int .i64 p_Hops, .int .i64 p_Left, .int .i64 p_Role, .int .i64 p_Wait, .bool p_Open]] => some ((o173 ⟨p_Up, p_Has, ⟨p_Vec_Root, p_Vec_Cost, p_Vec_Bridge, p_Vec_Port⟩, p_Hops, p_Left, p_Role, p_Wait, p_Open⟩).1, (o173 ⟨p_Up, p_Has, ⟨p_Vec_Root, p_Vec_Cost, p_Vec_Bridge, p_Vec_Port⟩, p_Hops, p_Left, p_Role, p_Wait, p_Open⟩).2.1, (o173 ⟨p_Up, p_Has, ⟨p_Vec_Root, p_Vec_Cost, p_Vec_Bridge, p_Vec_Port⟩, p_Hops, p_Left, p_Role, p_Wait, p_Open⟩).2.2)
  | _ => none
theorem r173 (p : Port) (n : Nat) : evFn ⟨prog, Hx, 173⟩ T181.call n f173 [[.bool p.Up, .bool p.Has, .int .i64 p.Vec.Root, .int .i64 p.Vec.Cost, .int .i64 p.Vec.Bridge, .int .i64 p.Vec.Port, .int .i64 p.Hops, .int .i64 p.Left, .int .i64 p.Role, .int .i64 p.Wait, .bool p.Open]] = bif !portOk p then some ([En.enc true p], []) else bif !Port.Has p then some ([En.enc true p], []) else bif wrap i64 (Port.Left p - 1) == 0 then some ([[D.bool (Port.Up p), D.bool false, D.int i64 (0), D.int i64 (0), D.int i64 (0), D.int i64 (0), D.int i64 (0), D.int i64 (wrap i64 (Port.Left p - 1)), D.int i64 (Port.Role p), D.int i64 (Port.Wait p), D.bool (Port.Open p)]], []) else some ([[D.bool (Port.Up p), D.bool (Port.Has p), D.int i64 (Vec.Root (Port.Vec p)), D.int i64 (Vec.Cost (Port.Vec p)), D.int i64 (Vec.Bridge (Port.Vec p)), D.int i64 (Vec.Port (Port.Vec p)), D.int i64 (Port.Hops p), D.int i64 (wrap i64 (Port.Left p - 1)), D.int i64 (Port.Role p), D.int i64 (Port.Wait p), D.bool (Port.Open p)]], []) := by kernel_rfl
theorem m173 (p : Port) (hpre : (o173 p).1 = true) : evFn ⟨Go.Proofs.Try.prog, Hx, 173⟩ T181.call 0 f173 [[.bool p.Up, .bool p.Has, .int .i64 p.Vec.Root, .int .i64 p.Vec.Cost, .int .i64 p.Vec.Bridge, .int .i64 p.Vec.Port, .int .i64 p.Hops, .int .i64 p.Left, .int .i64 p.Role, .int .i64 p.Wait, .bool p.Open]] = some (o173 p).2 := by
  refine (r173 p _).trans ?_
  show _ = (some ([[.bool (fadeM p).Up, .bool (fadeM p).Has, .int .i64 (fadeM p).Vec.Root, .int .i64 (fadeM p).Vec.Cost, .int .i64 (fadeM p).Vec.Bridge, .int .i64 (fadeM p).Vec.Port, .int .i64 (fadeM p).Hops, .int .i64 (fadeM p).Left, .int .i64 (fadeM p).Role, .int .i64 (fadeM p).Wait, .bool (fadeM p).Open]], []) : Option (List Row × List Row))
  replace hpre : (true) = true := hpre
  show _ = portR (fadeM p)
  unfold fadeM
  cases hP : portOk p
  · cases p.Has <;> rfl
  cases hH : p.Has
  · rfl
  have hb := fade_left hH hP
  have w : IntKind.wrap IntKind.i64 (p.Left - 1) = p.Left - 1 := wrap_sm (by omega) (by omega)
  rw [w]
  cases hl : p.Left - 1 == 0
  · rfl
  · have e : p.Left - 1 = 0 := by simpa using hl
    rw [e]
    rfl
theorem s173 : SoundAt Go.Proofs.Try.prog Hx 173 c173 := soundAt_of T181_sound mixed func173 (by kernel_rfl) (by
  intro rows r h
  unfold c173 at h
  split at h
  · rename_i p_Up p_Has p_Vec_Root p_Vec_Cost p_Vec_Bridge p_Vec_Port p_Hops p_Left p_Role p_Wait p_Open
    obtain ⟨hp, hr⟩ := Prod.mk.inj (Option.some.inj h)
    subst hr
    exact ⟨_, m173 ⟨p_Up, p_Has, ⟨p_Vec_Root, p_Vec_Cost, p_Vec_Bridge, p_Vec_Port⟩, p_Hops, p_Left, p_Role, p_Wait, p_Open⟩ hp⟩
  · cases h)
def T173 : Table := (173, c173) :: T181
theorem T173_sound : Table.Sound Go.Proofs.Try.prog Hx T173 := Table.sound_cons s173 T181_sound
def o174 (p : Port) : Bool × List Row × List Row := (true, [[.bool (openP p).Up, .bool (openP p).Has, .int .i64 (openP p).Vec.Root, .int .i64 (openP p).Vec.Cost, .int .i64 (openP p).Vec.Bridge, .int .i64 (openP p).Vec.Port, .int .i64 (openP p).Hops, .int .i64 (openP p).Left, .int .i64 (openP p).Role, .int .i64 (openP p).Wait, .bool (openP p).Open]], [])
def c174 : Contract
  | [[.bool p_Up, .bool p_Has, .int .i64 p_Vec_Root, .int .i64 p_Vec_Cost, .int .i64 p_Vec_Bridge, .int .i64 p_Vec_Port, .int .i64 p_Hops, .int .i64 p_Left, .int .i64 p_Role, .int .i64 p_Wait, .bool p_Open]] => some ((o174 ⟨p_Up, p_Has, ⟨p_Vec_Root, p_Vec_Cost, p_Vec_Bridge, p_Vec_Port⟩, p_Hops, p_Left, p_Role, p_Wait, p_Open⟩).1, (o174 ⟨p_Up, p_Has, ⟨p_Vec_Root, p_Vec_Cost, p_Vec_Bridge, p_Vec_Port⟩, p_Hops, p_Left, p_Role, p_Wait, p_Open⟩).2.1, (o174 ⟨p_Up, p_Has, ⟨p_Vec_Root, p_Vec_Cost, p_Vec_Bridge, p_Vec_Port⟩, p_Hops, p_Left, p_Role, p_Wait, p_Open⟩).2.2)
  | _ => none
theorem r174 (p : Port) (n : Nat) : evFn ⟨prog, Hx, 174⟩ T173.call n f174 [[.bool p.Up, .bool p.Has, .int .i64 p.Vec.Root, .int .i64 p.Vec.Cost, .int .i64 p.Vec.Bridge, .int .i64 p.Vec.Port, .int .i64 p.Hops, .int .i64 p.Left, .int .i64 p.Role, .int .i64 p.Wait, .bool p.Open]] = bif Port.Role p == 1 then some ([[D.bool (Port.Up p), D.bool (Port.Has p), D.int i64 (Vec.Root (Port.Vec p)), D.int i64 (Vec.Cost (Port.Vec p)), D.int i64 (Vec.Bridge (Port.Vec p)), D.int i64 (Vec.Port (Port.Vec p)), D.int i64 (Port.Hops p), D.int i64 (Port.Left p), D.int i64 (Port.Role p), D.int i64 (Port.Wait p), D.bool (Port.Wait p == 0)]], []) else bif Port.Role p == 2 then some ([[D.bool (Port.Up p), D.bool (Port.Has p), D.int i64 (Vec.Root (Port.Vec p)), D.int i64 (Vec.Cost (Port.Vec p)), D.int i64 (Vec.Bridge (Port.Vec p)), D.int i64 (Vec.Port (Port.Vec p)), D.int i64 (Port.Hops p), D.int i64 (Port.Left p), D.int i64 (Port.Role p), D.int i64 (Port.Wait p), D.bool (Port.Wait p == 0)]], []) else some ([[D.bool (Port.Up p), D.bool (Port.Has p), D.int i64 (Vec.Root (Port.Vec p)), D.int i64 (Vec.Cost (Port.Vec p)), D.int i64 (Vec.Bridge (Port.Vec p)), D.int i64 (Vec.Port (Port.Vec p)), D.int i64 (Port.Hops p), D.int i64 (Port.Left p), D.int i64 (Port.Role p), D.int i64 (Port.Wait p), D.bool false]], []) := by kernel_rfl
theorem m174 (p : Port) (hpre : (o174 p).1 = true) : evFn ⟨Go.Proofs.Try.prog, Hx, 174⟩ T173.call 0 f174 [[.bool p.Up, .bool p.Has, .int .i64 p.Vec.Root, .int .i64 p.Vec.Cost, .int .i64 p.Vec.Bridge, .int .i64 p.Vec.Port, .int .i64 p.Hops, .int .i64 p.Left, .int .i64 p.Role, .int .i64 p.Wait, .bool p.Open]] = some (o174 p).2 := by
  refine (r174 p _).trans ?_
  show _ = (some ([[.bool (openP p).Up, .bool (openP p).Has, .int .i64 (openP p).Vec.Root, .int .i64 (openP p).Vec.Cost, .int .i64 (openP p).Vec.Bridge, .int .i64 (openP p).Vec.Port, .int .i64 (openP p).Hops, .int .i64 (openP p).Left, .int .i64 (openP p).Role, .int .i64 (openP p).Wait, .bool (openP p).Open]], []) : Option (List Row × List Row))
  replace hpre : (true) = true := hpre
  show _ = portR (openP p)
  unfold openP openRW
  cases p.Role == 1 <;> cases p.Role == 2 <;> rfl
theorem s174 : SoundAt Go.Proofs.Try.prog Hx 174 c174 := soundAt_of T173_sound mixed func174 (by kernel_rfl) (by
  intro rows r h
  unfold c174 at h
  split at h
  · rename_i p_Up p_Has p_Vec_Root p_Vec_Cost p_Vec_Bridge p_Vec_Port p_Hops p_Left p_Role p_Wait p_Open
    obtain ⟨hp, hr⟩ := Prod.mk.inj (Option.some.inj h)
    subst hr
    exact ⟨_, m174 ⟨p_Up, p_Has, ⟨p_Vec_Root, p_Vec_Cost, p_Vec_Bridge, p_Vec_Port⟩, p_Hops, p_Left, p_Role, p_Wait, p_Open⟩ hp⟩
  · cases h)
def T174 : Table := (174, c174) :: T173
theorem T174_sound : Table.Sound Go.Proofs.Try.prog Hx T174 := Table.sound_cons s174 T173_sound
def o183 (p : Port) (role : Int) : Bool × List Row × List Row := (true, [[.bool (turnM p role).Up, .bool (turnM p role).Has, .int .i64 (turnM p role).Vec.Root, .int .i64 (turnM p role).Vec.Cost, .int .i64 (turnM p role).Vec.Bridge, .int .i64 (turnM p role).Vec.Port, .int .i64 (turnM p role).Hops, .int .i64 (turnM p role).Left, .int .i64 (turnM p role).Role, .int .i64 (turnM p role).Wait, .bool (turnM p role).Open]], [])
def c183 : Contract
  | [[.bool p_Up, .bool p_Has, .int .i64 p_Vec_Root, .int .i64 p_Vec_Cost, .int .i64 p_Vec_Bridge, .int .i64 p_Vec_Port, .int .i64 p_Hops, .int .i64 p_Left, .int .i64 p_Role, .int .i64 p_Wait, .bool p_Open], [.int .i64 role]] => some ((o183 ⟨p_Up, p_Has, ⟨p_Vec_Root, p_Vec_Cost, p_Vec_Bridge, p_Vec_Port⟩, p_Hops, p_Left, p_Role, p_Wait, p_Open⟩ role).1, (o183 ⟨p_Up, p_Has, ⟨p_Vec_Root, p_Vec_Cost, p_Vec_Bridge, p_Vec_Port⟩, p_Hops, p_Left, p_Role, p_Wait, p_Open⟩ role).2.1, (o183 ⟨p_Up, p_Has, ⟨p_Vec_Root, p_Vec_Cost, p_Vec_Bridge, p_Vec_Port⟩, p_Hops, p_Left, p_Role, p_Wait, p_Open⟩ role).2.2)
  | _ => none
theorem r183 (p : Port) (role : Int) (n : Nat) : evFn ⟨prog, Hx, 183⟩ T174.call n f183 [[.bool p.Up, .bool p.Has, .int .i64 p.Vec.Root, .int .i64 p.Vec.Cost, .int .i64 p.Vec.Bridge, .int .i64 p.Vec.Port, .int .i64 p.Hops, .int .i64 p.Left, .int .i64 p.Role, .int .i64 p.Wait, .bool p.Open], [.int .i64 role]] = bif !Port.Up p then some ([En.enc true p], []) else bif !inR role (1) (3) then some ([En.enc true p], []) else bif !portOk p then some ([En.enc true p], []) else bif role == 3 then some ([[D.bool (Port.Up p), D.bool (Port.Has p), D.int i64 (Vec.Root (Port.Vec p)), D.int i64 (Vec.Cost (Port.Vec p)), D.int i64 (Vec.Bridge (Port.Vec p)), D.int i64 (Vec.Port (Port.Vec p)), D.int i64 (Port.Hops p), D.int i64 (Port.Left p), D.int i64 role, D.int i64 (0), D.bool (openB (Port.mk (Port.Up p) (Port.Has p) (Port.Vec p) (Port.Hops p) (Port.Left p) role (0) (Port.Open p)))]], []) else bif Port.Role p == 3 then some ([[D.bool (Port.Up p), D.bool (Port.Has p), D.int i64 (Vec.Root (Port.Vec p)), D.int i64 (Vec.Cost (Port.Vec p)), D.int i64 (Vec.Bridge (Port.Vec p)), D.int i64 (Vec.Port (Port.Vec p)), D.int i64 (Port.Hops p), D.int i64 (Port.Left p), D.int i64 role, D.int i64 (4), D.bool (openB (Port.mk (Port.Up p) (Port.Has p) (Port.Vec p) (Port.Hops p) (Port.Left p) role (4) (Port.Open p)))]], []) else some ([[D.bool (Port.Up p), D.bool (Port.Has p), D.int i64 (Vec.Root (Port.Vec p)), D.int i64 (Vec.Cost (Port.Vec p)), D.int i64 (Vec.Bridge (Port.Vec p)), D.int i64 (Vec.Port (Port.Vec p)), D.int i64 (Port.Hops p), D.int i64 (Port.Left p), D.int i64 role, D.int i64 (Port.Wait p), D.bool (openB (Port.mk (Port.Up p) (Port.Has p) (Port.Vec p) (Port.Hops p) (Port.Left p) role (Port.Wait p) (Port.Open p)))]], []) := by kernel_rfl
theorem m183 (p : Port) (role : Int) (hpre : (o183 p role).1 = true) : evFn ⟨Go.Proofs.Try.prog, Hx, 183⟩ T174.call 0 f183 [[.bool p.Up, .bool p.Has, .int .i64 p.Vec.Root, .int .i64 p.Vec.Cost, .int .i64 p.Vec.Bridge, .int .i64 p.Vec.Port, .int .i64 p.Hops, .int .i64 p.Left, .int .i64 p.Role, .int .i64 p.Wait, .bool p.Open], [.int .i64 role]] = some (o183 p role).2 := by
  refine (r183 p role _).trans ?_
  show _ = (some ([[.bool (turnM p role).Up, .bool (turnM p role).Has, .int .i64 (turnM p role).Vec.Root, .int .i64 (turnM p role).Vec.Cost, .int .i64 (turnM p role).Vec.Bridge, .int .i64 (turnM p role).Vec.Port, .int .i64 (turnM p role).Hops, .int .i64 (turnM p role).Left, .int .i64 (turnM p role).Role, .int .i64 (turnM p role).Wait, .bool (turnM p role).Open]], []) : Option (List Row × List Row))
  replace hpre : (true) = true := hpre
  show _ = portR (turnM p role)
  unfold turnM
  cases p.Up
  · rfl
  cases inR role 1 3
  · rfl
  cases portOk p
  · rfl
  unfold turnW
  cases role == 3
  · cases p.Role == 3 <;> rfl
  · rfl
theorem s183 : SoundAt Go.Proofs.Try.prog Hx 183 c183 := soundAt_of T174_sound mixed func183 (by kernel_rfl) (by
  intro rows r h
  unfold c183 at h
  split at h
  · rename_i p_Up p_Has p_Vec_Root p_Vec_Cost p_Vec_Bridge p_Vec_Port p_Hops p_Left p_Role p_Wait p_Open role
    obtain ⟨hp, hr⟩ := Prod.mk.inj (Option.some.inj h)
    subst hr
    exact ⟨_, m183 ⟨p_Up, p_Has, ⟨p_Vec_Root, p_Vec_Cost, p_Vec_Bridge, p_Vec_Port⟩, p_Hops, p_Left, p_Role, p_Wait, p_Open⟩ role hp⟩
  · cases h)
def T183 : Table := (183, c183) :: T174
theorem T183_sound : Table.Sound Go.Proofs.Try.prog Hx T183 := Table.sound_cons s183 T174_sound
def o175 (p : Port) (role : Int) : Bool × List Row × List Row := (true, [[.bool (turnM p role).Up, .bool (turnM p role).Has, .int .i64 (turnM p role).Vec.Root, .int .i64 (turnM p role).Vec.Cost, .int .i64 (turnM p role).Vec.Bridge, .int .i64 (turnM p role).Vec.Port, .int .i64 (turnM p role).Hops, .int .i64 (turnM p role).Left, .int .i64 (turnM p role).Role, .int .i64 (turnM p role).Wait, .bool (turnM p role).Open]], [])
def c175 : Contract
  | [[.bool p_Up, .bool p_Has, .int .i64 p_Vec_Root, .int .i64 p_Vec_Cost, .int .i64 p_Vec_Bridge, .int .i64 p_Vec_Port, .int .i64 p_Hops, .int .i64 p_Left, .int .i64 p_Role, .int .i64 p_Wait, .bool p_Open], [.int .i64 role]] => some ((o175 ⟨p_Up, p_Has, ⟨p_Vec_Root, p_Vec_Cost, p_Vec_Bridge, p_Vec_Port⟩, p_Hops, p_Left, p_Role, p_Wait, p_Open⟩ role).1, (o175 ⟨p_Up, p_Has, ⟨p_Vec_Root, p_Vec_Cost, p_Vec_Bridge, p_Vec_Port⟩, p_Hops, p_Left, p_Role, p_Wait, p_Open⟩ role).2.1, (o175 ⟨p_Up, p_Has, ⟨p_Vec_Root, p_Vec_Cost, p_Vec_Bridge, p_Vec_Port⟩, p_Hops, p_Left, p_Role, p_Wait, p_Open⟩ role).2.2)
  | _ => none
theorem r175 (p : Port) (role : Int) (n : Nat) : evFn ⟨prog, Hx, 175⟩ T183.call n f175 [[.bool p.Up, .bool p.Has, .int .i64 p.Vec.Root, .int .i64 p.Vec.Cost, .int .i64 p.Vec.Bridge, .int .i64 p.Vec.Port, .int .i64 p.Hops, .int .i64 p.Left, .int .i64 p.Role, .int .i64 p.Wait, .bool p.Open], [.int .i64 role]] = bif !portOk p then some ([En.enc true p], []) else bif !Port.Up p then some ([En.enc true p], []) else bif !inR role (1) (3) then some ([En.enc true p], []) else bif Port.Role p == 3 then bif role != 3 then bif role == 3 then some ([En.enc true (openP (Port.mk (Port.Up p) (Port.Has p) (Port.Vec p) (Port.Hops p) (Port.Left p) role (0) (Port.Open p)))], []) else some ([En.enc true (openP (Port.mk (Port.Up p) (Port.Has p) (Port.Vec p) (Port.Hops p) (Port.Left p) role (4) (Port.Open p)))], []) else bif role == 3 then some ([En.enc true (openP (Port.mk (Port.Up p) (Port.Has p) (Port.Vec p) (Port.Hops p) (Port.Left p) role (0) (Port.Open p)))], []) else some ([En.enc true (openP (Port.mk (Port.Up p) (Port.Has p) (Port.Vec p) (Port.Hops p) (Port.Left p) role (Port.Wait p) (Port.Open p)))], []) else bif role == 3 then some ([En.enc true (openP (Port.mk (Port.Up p) (Port.Has p) (Port.Vec p) (Port.Hops p) (Port.Left p) role (0) (Port.Open p)))], []) else some ([En.enc true (openP (Port.mk (Port.Up p) (Port.Has p) (Port.Vec p) (Port.Hops p) (Port.Left p) role (Port.Wait p) (Port.Open p)))], []) := by kernel_rfl
theorem m175 (p : Port) (role : Int) (hpre : (o175 p role).1 = true) : evFn ⟨Go.Proofs.Try.prog, Hx, 175⟩ T183.call 0 f175 [[.bool p.Up, .bool p.Has, .int .i64 p.Vec.Root, .int .i64 p.Vec.Cost, .int .i64 p.Vec.Bridge, .int .i64 p.Vec.Port, .int .i64 p.Hops, .int .i64 p.Left, .int .i64 p.Role, .int .i64 p.Wait, .bool p.Open], [.int .i64 role]] = some (o175 p role).2 := by
  refine (r175 p role _).trans ?_
  show _ = (some ([[.bool (turnM p role).Up, .bool (turnM p role).Has, .int .i64 (turnM p role).Vec.Root, .int .i64 (turnM p role).Vec.Cost, .int .i64 (turnM p role).Vec.Bridge, .int .i64 (turnM p role).Vec.Port, .int .i64 (turnM p role).Hops, .int .i64 (turnM p role).Left, .int .i64 (turnM p role).Role, .int .i64 (turnM p role).Wait, .bool (turnM p role).Open]], []) : Option (List Row × List Row))
  replace hpre : (true) = true := hpre
  show _ = portR (turnM p role)
  have b1 : (role != 3) = !(role == 3) := rfl
  unfold turnM
  rw [b1]
  cases p.Up
  · cases portOk p <;> rfl
  cases inR role 1 3
  · cases portOk p <;> rfl
  cases portOk p
  · rfl
  unfold turnW
  cases role == 3 <;> cases p.Role == 3 <;> rfl
theorem s175 : SoundAt Go.Proofs.Try.prog Hx 175 c175 := soundAt_of T183_sound mixed func175 (by kernel_rfl) (by
  intro rows r h
  unfold c175 at h
  split at h
  · rename_i p_Up p_Has p_Vec_Root p_Vec_Cost p_Vec_Bridge p_Vec_Port p_Hops p_Left p_Role p_Wait p_Open role
    obtain ⟨hp, hr⟩ := Prod.mk.inj (Option.some.inj h)
    subst hr
    exact ⟨_, m175 ⟨p_Up, p_Has, ⟨p_Vec_Root, p_Vec_Cost, p_Vec_Bridge, p_Vec_Port⟩, p_Hops, p_Left, p_Role, p_Wait, p_Open⟩ role hp⟩
  · cases h)
def T175 : Table := (175, c175) :: T183
theorem T175_sound : Table.Sound Go.Proofs.Try.prog Hx T175 := Table.sound_cons s175 T183_sound
def o135 (s : List Port) : Bool × List Row × List Row := (decide (s.length ≤ 1048576), [[.sl true 11 (enS true (s))]], [])
def c135 : Contract
  | [[.sl false 11 s]] => some (isS Port false s && (o135 (deS Port s)).1, (o135 (deS Port s)).2.1, (o135 (deS Port s)).2.2)
  | _ => none
theorem r135 (s : List Port) (n : Nat) : evFn ⟨prog, Hx, 135⟩ T175.call n f135 [[.sl false 11 (enS false s)]] = bif isEmpty (enS false s) then both (some ([[D.sl true 11 []]], [])) (bif decide ((0 + length (enS false s)) * 80 ≤ 140737488355328) then some ([[D.sl true 11 (enS false s)]], []) else none) else bif decide ((0 + length (enS false s)) * 80 ≤ 140737488355328) then some ([[D.sl true 11 (enS false s)]], []) else none := by kernel_rfl
theorem m135 (s : List Port) (hpre : (o135 s).1 = true) : evFn ⟨Go.Proofs.Try.prog, Hx, 135⟩ T175.call 0 f135 [[.sl false 11 (enS false s)]] = some (o135 s).2 := by
  refine (r135 s _).trans ?_
  show _ = (some ([[.sl true 11 (enS true (s))]], []) : Option (List Row × List Row))
  replace hpre : (decide (s.length ≤ 1048576)) = true := hpre
  have hlen := of_decide_eq_true hpre
  have h1 : decide ((0 + s.length) * 80 ≤ 140737488355328) = true := decide_eq_true (by omega)
  simp only [enS_length, h1, cond_true]
  cases s with
  | nil =>
    rw [show List.isEmpty (enS false ([] : List Port)) = true from rfl, cond_true]
    exact both_same _
  | cons x xs => rfl
theorem s135 : SoundAt Go.Proofs.Try.prog Hx 135 c135 := soundAt_of T175_sound mixed func135 (by kernel_rfl) (by
  intro rows r h
  unfold c135 at h
  split at h
  · rename_i s
    obtain ⟨hp, hr⟩ := Prod.mk.inj (Option.some.inj h)
    subst hr
    simp only [Bool.and_eq_true] at hp
    obtain ⟨hs0, hp⟩ := hp
    obtain ⟨xs0, rfl⟩ := isS_ex hs0
    simp only [deS_enS] at hp ⊢
    exact ⟨_, m135 xs0 hp⟩
  · cases h)
def T135 : Table := (135, c135) :: T175
theorem T135_sound : Table.Sound Go.Proofs.Try.prog Hx T135 := Table.sound_cons s135 T175_sound
def o87 (b : Bridge) : Bool × List Row × List Row := (decide (b.Ports.length ≤ 1048576), [[.int .i64 (b).Id, .sl true 11 (enS true (b).Ports)]], [])
def c87 : Contract
  | [[.int .i64 b_Id, .sl false 11 b_Ports]] => some (isS Port false b_Ports && (o87 ⟨b_Id, (deS Port b_Ports)⟩).1, (o87 ⟨b_Id, (deS Port b_Ports)⟩).2.1, (o87 ⟨b_Id, (deS Port b_Ports)⟩).2.2)
  | _ => none
theorem r87 (b : Bridge) (n : Nat) : evFn ⟨prog, Hx, 87⟩ T135.call n f87 [[.int .i64 b.Id, .sl false 11 (enS false b.Ports)]] = bif isS Port false (enS false (Bridge.Ports b)) && decide (length (deS Port (enS false (Bridge.Ports b))) ≤ 1048576) then some ([[D.int i64 (Bridge.Id b), D.sl true 11 (enS true (deS Port (enS false (Bridge.Ports b))))]], []) else none := by kernel_rfl
theorem m87 (b : Bridge) (hpre : (o87 b).1 = true) : evFn ⟨Go.Proofs.Try.prog, Hx, 87⟩ T135.call 0 f87 [[.int .i64 b.Id, .sl false 11 (enS false b.Ports)]] = some (o87 b).2 := by
  refine (r87 b _).trans ?_
  show _ = (some ([[.int .i64 (b).Id, .sl true 11 (enS true (b).Ports)]], []) : Option (List Row × List Row))
  replace hpre : (decide (b.Ports.length ≤ 1048576)) = true := hpre
  simp only [isS_enS, deS_enS, hpre, Bool.and_self, cond_true]
theorem s87 : SoundAt Go.Proofs.Try.prog Hx 87 c87 := soundAt_of T135_sound mixed func87 (by kernel_rfl) (by
  intro rows r h
  unfold c87 at h
  split at h
  · rename_i b_Id b_Ports
    obtain ⟨hp, hr⟩ := Prod.mk.inj (Option.some.inj h)
    subst hr
    simp only [Bool.and_eq_true] at hp
    obtain ⟨hs0, hp⟩ := hp
    obtain ⟨xs0, rfl⟩ := isS_ex hs0
    simp only [deS_enS] at hp ⊢
    exact ⟨_, m87 ⟨b_Id, xs0⟩ hp⟩
  · cases h)
def T87 : Table := (87, c87) :: T135
theorem T87_sound : Table.Sound Go.Proofs.Try.prog Hx T87 := Table.sound_cons s87 T135_sound
def o83 (b : Bridge) : Bool × List Row × List Row := (decide (b.Ports.length ≤ 1048576), [[.int .i64 (b).Id, .sl true 11 (enS true (b).Ports)]], [])
def c83 : Contract
  | [[.int .i64 b_Id, .sl false 11 b_Ports]] => some (isS Port false b_Ports && (o83 ⟨b_Id, (deS Port b_Ports)⟩).1, (o83 ⟨b_Id, (deS Port b_Ports)⟩).2.1, (o83 ⟨b_Id, (deS Port b_Ports)⟩).2.2)
  | _ => none
theorem r83 (b : Bridge) (n : Nat) : evFn ⟨prog, Hx, 83⟩ T87.call n f83 [[.int .i64 b.Id, .sl false 11 (enS false b.Ports)]] = bif decide ((0 + length (enS false (Bridge.Ports b))) * 80 ≤ 140737488355328) then some ([[D.int i64 (Bridge.Id b), D.sl true 11 (enS false (Bridge.Ports b))]], []) else none := by kernel_rfl
theorem m83 (b : Bridge) (hpre : (o83 b).1 = true) : evFn ⟨Go.Proofs.Try.prog, Hx, 83⟩ T87.call 0 f83 [[.int .i64 b.Id, .sl false 11 (enS false b.Ports)]] = some (o83 b).2 := by
  refine (r83 b _).trans ?_
  show _ = (some ([[.int .i64 (b).Id, .sl true 11 (enS true (b).Ports)]], []) : Option (List Row × List Row))
  replace hpre : (decide (b.Ports.length ≤ 1048576)) = true := hpre
  have hlen := of_decide_eq_true hpre
  have h1 : decide ((0 + b.Ports.length) * 80 ≤ 140737488355328) = true := decide_eq_true (by omega)
  simp only [enS_length, h1, cond_true]
  rfl
theorem s83 : SoundAt Go.Proofs.Try.prog Hx 83 c83 := soundAt_of T87_sound mixed func83 (by kernel_rfl) (by
  intro rows r h
  unfold c83 at h
  split at h
  · rename_i b_Id b_Ports
    obtain ⟨hp, hr⟩ := Prod.mk.inj (Option.some.inj h)
    subst hr
    simp only [Bool.and_eq_true] at hp
    obtain ⟨hs0, hp⟩ := hp
    obtain ⟨xs0, rfl⟩ := isS_ex hs0
    simp only [deS_enS] at hp ⊢
    exact ⟨_, m83 ⟨b_Id, xs0⟩ hp⟩
  · cases h)
def T83 : Table := (83, c83) :: T87
theorem T83_sound : Table.Sound Go.Proofs.Try.prog Hx T83 := Table.sound_cons s83 T87_sound
def o182 (b : Bridge) : Bool × List Row × List Row := (decide (b.Ports.length ≤ 1048576), [[.int .i64 (rootM b)]], [])
def c182 : Contract
  | [[.int .i64 b_Id, .sl false 11 b_Ports]] => some (isS Port false b_Ports && (o182 ⟨b_Id, (deS Port b_Ports)⟩).1, (o182 ⟨b_Id, (deS Port b_Ports)⟩).2.1, (o182 ⟨b_Id, (deS Port b_Ports)⟩).2.2)
  | _ => none
def k182_0 (n : Nat) : Ex → St → RR := kThen (fun st ↦ runCode (Ctx.mk prog Hx (182)) (Table.call T83) n (codeAt [1, 1, 1] (bodyOf f182)) (Lv.mk 4 [] 4) st (kLeave (Ctx.P (Ctx.mk prog Hx (182))) (List.zip (Array.toList (Go.Func.resultTypes f182)) (Array.toList (Go.Func.results f182))) [] [])) (kLeave (Ctx.P (Ctx.mk prog Hx (182))) (List.zip (Array.toList (Go.Func.resultTypes f182)) (Array.toList (Go.Func.results f182))) [] [])
def k182_1 (n : Nat) : Ex → St → RR := kBlock (0) (k182_0 n)
def S182_0 (b : Bridge) (i0 : Int) (i1 : Int) : St := St.mk [V_ [C.rptr (En.enc false b)], U, U, I_ i1, U, U, U, U, U, V_ [C.d (D.sl false 11 (enS false (Bridge.Ports b)))], I_ (ofNat (length (enS false (Bridge.Ports b)))), I_ i0, U, U, U, U, U, U, U, U, U, U, U, U, U, U, U, U, U, U, U, U, U, U, U, U, U, U, U, U, U, U, U, U, U, U, U, U, U, U, U, U, U, U, U, U, U, U, U, U, U, U, U, U, U, U, U, U] []
def B182_0 (n : Nat) : St → (Ex → St → RR) → RR := runCode (Ctx.mk prog Hx (182)) (Table.call T83) n (codeAt [1, 1, 0, 1, 0, 0] (bodyOf f182)) (Lv.mk 3593 [(0, 8)] 4)
def X182_2 (b : Bridge) (i0 : Int) (i1 : Int) : St := St.mk [V_ [C.rptr (En.enc false b)], U, U, I_ i1, U, U, U, U, U, V_ [C.d (D.sl false 11 (enS false (Bridge.Ports b)))], I_ (ofNat (length (enS false (Bridge.Ports b)))), I_ i0, B_ false, U, U, U, U, U, U, U, U, U, U, U, U, U, U, U, U, U, U, U, U, U, U, U, U, U, U, U, U, U, U, U, U, U, U, U, U, U, U, U, U, U, U, U, U, U, U, U, U, U, U, U, U, U, U, U] []
theorem q182_0 (b : Bridge) (n : Nat) (i0 : Int) (i1 : Int) (f : St → RR) (K : Ex → St → RR) : B182_0 n (S182_0 b i0 i1) (kThen (fun st ↦ f (St.head 0 3593 147573952589676410936 st)) K) = bif decide (i0 < ofNat (length (enS false (Bridge.Ports b)))) then bif decide (0 ≤ i0) && decide (i0 < ofNat (length (enS false (Bridge.Ports b)))) then bif Leaf.fit false Leaf.bool (getD (getD (enS false (Bridge.Ports b)) (toNat i0) []) 0 D.dead) && (Leaf.fit false Leaf.bool (getD (getD (enS false (Bridge.Ports b)) (toNat i0) []) 1 D.dead) && (Leaf.fit false (Leaf.int i64) (getD (getD (enS false (Bridge.Ports b)) (toNat i0) []) 2 D.dead) && (Leaf.fit false (Leaf.int i64) (getD (getD (enS false (Bridge.Ports b)) (toNat i0) []) 3 D.dead) && (Leaf.fit false (Leaf.int i64) (getD (getD (enS false (Bridge.Ports b)) (toNat i0) []) 4 D.dead) && (Leaf.fit false (Leaf.int i64) (getD (getD (enS false (Bridge.Ports b)) (toNat i0) []) 5 D.dead) && (Leaf.fit false (Leaf.int i64) (getD (getD (enS false (Bridge.Ports b)) (toNat i0) []) 6 D.dead) && (Leaf.fit false (Leaf.int i64) (getD (getD (enS false (Bridge.Ports b)) (toNat i0) []) 7 D.dead) && (Leaf.fit false (Leaf.int i64) (getD (getD (enS false (Bridge.Ports b)) (toNat i0) []) 8 D.dead) && (Leaf.fit false (Leaf.int i64) (getD (getD (enS false (Bridge.Ports b)) (toNat i0) []) 9 D.dead) && (Leaf.fit false Leaf.bool (getD (getD (enS false (Bridge.Ports b)) (toNat i0) []) 10 D.dead) && true)))))))))) then bif !D.flag (getD (getD (enS false (Bridge.Ports b)) (toNat i0) []) 1 D.dead) then f (S182_0 b (wrap i64 (i0 + 1)) i1) else bif D.num (getD (getD (enS false (Bridge.Ports b)) (toNat i0) []) 4 D.dead) == Bridge.Id b then f (S182_0 b (wrap i64 (i0 + 1)) i1) else bif decide (D.num (getD (getD (enS false (Bridge.Ports b)) (toNat i0) []) 2 D.dead) ≥ Bridge.Id b) then f (S182_0 b (wrap i64 (i0 + 1)) i1) else bif decide (D.num (getD (getD (enS false (Bridge.Ports b)) (toNat i0) []) 3 D.dead) ≥ 20) then f (S182_0 b (wrap i64 (i0 + 1)) i1) else bif decide (D.num (getD (getD (enS false (Bridge.Ports b)) (toNat i0) []) 6 D.dead) ≥ 8) then f (S182_0 b (wrap i64 (i0 + 1)) i1) else bif decide (i1 < 0) then f (S182_0 b (wrap i64 (i0 + 1)) i0) else bif decide (0 ≤ i1) && decide (i1 < ofNat (length (enS false (Bridge.Ports b)))) then bif Leaf.fit false (Leaf.int i64) (getD (drop 2 (getD (enS false (Bridge.Ports b)) (toNat i1) [])) 0 D.dead) && (Leaf.fit false (Leaf.int i64) (getD (drop 2 (getD (enS false (Bridge.Ports b)) (toNat i1) [])) 1 D.dead) && (Leaf.fit false (Leaf.int i64) (getD (drop 2 (getD (enS false (Bridge.Ports b)) (toNat i1) [])) 2 D.dead) && (Leaf.fit false (Leaf.int i64) (getD (drop 2 (getD (enS false (Bridge.Ports b)) (toNat i1) [])) 3 D.dead) && true))) then bif betterB (Vec.mk (D.num (getD (getD (enS false (Bridge.Ports b)) (toNat i0) []) 2 D.dead)) (D.num (getD (getD (enS false (Bridge.Ports b)) (toNat i0) []) 3 D.dead)) (D.num (getD (getD (enS false (Bridge.Ports b)) (toNat i0) []) 4 D.dead)) (D.num (getD (getD (enS false (Bridge.Ports b)) (toNat i0) []) 5 D.dead))) (En.dec (drop 2 (getD (enS false (Bridge.Ports b)) (toNat i1) []))) then f (S182_0 b (wrap i64 (i0 + 1)) i0) else f (S182_0 b (wrap i64 (i0 + 1)) i1) else none else none else none else none else K (Ex.exit 0) (X182_2 b i0 i1) := by kernel_rfl
theorem aX182_2 (b : Bridge) (n : Nat) (i0 : Int) (i1 : Int) : k182_1 n (Ex.exit 0) (X182_2 b i0 i1) = some ([[D.int i64 i1]], []) := by kernel_rfl
theorem r182 (b : Bridge) (n : Nat) : evFn ⟨prog, Hx, 182⟩ T83.call n f182 [[.int .i64 b.Id, .sl false 11 (enS false b.Ports)]] = loopRun (B182_0 n) 0 3593 147573952589676410936 n (S182_0 b (0) (Int.negSucc 0)) (k182_1 n) := by kernel_rfl
theorem l182_st (b : Bridge) (i : Nat) (best : Int) (hlen : b.Ports.length ≤ 1048576) (hi : i < b.Ports.length) (h0 : -1 ≤ best) (h1 : best < (b.Ports.length : Int)) (n : Nat) (f : St → RR) (K : Ex → St → RR) : B182_0 n (S182_0 b (Int.ofNat i) best) (kThen (fun st => f (St.head 0 3593 147573952589676410936 st)) K) = f (S182_0 b (Int.ofNat (i + 1)) (rootS b.Id b.Ports i b.Ports[i] best)) := by
  refine (q182_0 b _ _ _ f _).trans ?_
  simp only [enS_length, toNat_of, dec_lt, dec_ge, hi, decide_true, cond_true, Bool.and_self, Nat.zero_add, wrap_succ (show i < 4611686018427387904 by omega), enS_get false hi, ge_not]
  refine bif_t rfl ?_
  refine root_step (id := b.Id) (all := b.Ports) (i := i) (p := b.Ports[i]) (best := best) (fun z => f (S182_0 b (Int.ofNat (i + 1)) z)) ?_
  intro c6
  obtain ⟨k, rfl⟩ := Int.eq_ofNat_of_zero_le (show 0 ≤ best by have := of_decide_eq_false c6; omega)
  have hk : k < b.Ports.length := by omega
  have d1 : decide ((k : Int) < Int.ofNat b.Ports.length) = true := decide_eq_true h1
  rw [c6, Bool.not_false, d1, Int.toNat_natCast, enS_get false hk, bestAt_nat hk]
  rfl
theorem m182 (b : Bridge) (hpre : (o182 b).1 = true) : evFn ⟨Go.Proofs.Try.prog, Hx, 182⟩ T83.call (b.Ports.length + 1) f182 [[.int .i64 b.Id, .sl false 11 (enS false b.Ports)]] = some (o182 b).2 := by
  refine (r182 b _).trans ?_
  show _ = (some ([[.int .i64 (rootM b)]], []) : Option (List Row × List Row))
  replace hpre : (decide (b.Ports.length ≤ 1048576)) = true := hpre
  have hlen := of_decide_eq_true hpre
  show _ = some ([[D.int .i64 (rootL b.Id b.Ports 0 b.Ports (Int.negSucc 0))]], [])
  refine loop_list (xs := b.Ports) (fun i (best : Int) => S182_0 b (Int.ofNat i) best) (fun _ best => -1 ≤ best ∧ best < (b.Ports.length : Int)) (fun i best rest => some ([[D.int .i64 (rootL b.Id b.Ports i rest best)]], [])) ?_ ?_ (b.Ports.length + 1) (Int.negSucc 0) (by omega) ⟨Int.le_refl _, by omega⟩
  · rintro best _ f
    refine (q182_0 b _ _ _ f _).trans ?_
    rw [end_lt, cond_false]
    exact aX182_2 b _ _ _
  · rintro i best hi ⟨h0, h1⟩ f hf
    refine (l182_st b i best hlen hi h0 h1 _ f _).trans ?_
    exact hf _ (rootS_b (id := b.Id) (p := b.Ports[i]) hi h0 h1)
theorem s182 : SoundAt Go.Proofs.Try.prog Hx 182 c182 := soundAt_of T83_sound mixed func182 (by kernel_rfl) (by
  intro rows r h
  unfold c182 at h
  split at h
  · rename_i b_Id b_Ports
    obtain ⟨hp, hr⟩ := Prod.mk.inj (Option.some.inj h)
    subst hr
    simp only [Bool.and_eq_true] at hp
    obtain ⟨hs0, hp⟩ := hp
    obtain ⟨xs0, rfl⟩ := isS_ex hs0
    simp only [deS_enS] at hp ⊢
    exact ⟨_, m182 ⟨b_Id, xs0⟩ hp⟩
  · cases h)
def T182 : Table := (182, c182) :: T83
theorem T182_sound : Table.Sound Go.Proofs.Try.prog Hx T182 := Table.sound_cons s182 T83_sound
def o159 (b : Bridge) (port : Int) : Bool × List Row × List Row := (decide (b.Ports.length ≤ 1048576), [[.int .i64 (ownM b port).Root, .int .i64 (ownM b port).Cost, .int .i64 (ownM b port).Bridge, .int .i64 (ownM b port).Port]], [])
def c159 : Contract
  | [[.int .i64 b_Id, .sl false 11 b_Ports], [.int .i64 port]] => some (isS Port false b_Ports && (o159 ⟨b_Id, (deS Port b_Ports)⟩ port).1, (o159 ⟨b_Id, (deS Port b_Ports)⟩ port).2.1, (o159 ⟨b_Id, (deS Port b_Ports)⟩ port).2.2)
  | _ => none
theorem r159 (b : Bridge) (port : Int) (n : Nat) : evFn ⟨prog, Hx, 159⟩ T182.call n f159 [[.int .i64 b.Id, .sl false 11 (enS false b.Ports)], [.int .i64 port]] = bif isS Port false (enS false (Bridge.Ports b)) && decide (length (deS Port (enS false (Bridge.Ports b))) ≤ 1048576) then bif decide (rootM (Bridge.mk (Bridge.Id b) (deS Port (enS false (Bridge.Ports b)))) ≥ 0) then bif decide (0 ≤ rootM (Bridge.mk (Bridge.Id b) (deS Port (enS false (Bridge.Ports b))))) && decide (rootM (Bridge.mk (Bridge.Id b) (deS Port (enS false (Bridge.Ports b)))) < ofNat (length (enS false (Bridge.Ports b)))) then bif Leaf.fit false (Leaf.int i64) (getD (drop 2 (getD (enS false (Bridge.Ports b)) (toNat (rootM (Bridge.mk (Bridge.Id b) (deS Port (enS false (Bridge.Ports b)))))) [])) 0 D.dead) && true then bif decide (0 ≤ rootM (Bridge.mk (Bridge.Id b) (deS Port (enS false (Bridge.Ports b))))) && decide (rootM (Bridge.mk (Bridge.Id b) (deS Port (enS false (Bridge.Ports b)))) < ofNat (length (enS false (Bridge.Ports b)))) then bif Leaf.fit false (Leaf.int i64) (getD (drop 1 (drop 2 (getD (enS false (Bridge.Ports b)) (toNat (rootM (Bridge.mk (Bridge.Id b) (deS Port (enS false (Bridge.Ports b)))))) []))) 0 D.dead) && true then some ([[D.int i64 (D.num (getD (drop 2 (getD (enS false (Bridge.Ports b)) (toNat (rootM (Bridge.mk (Bridge.Id b) (deS Port (enS false (Bridge.Ports b)))))) [])) 0 D.dead)), D.int i64 (wrap i64 (D.num (getD (drop 1 (drop 2 (getD (enS false (Bridge.Ports b)) (toNat (rootM (Bridge.mk (Bridge.Id b) (deS Port (enS false (Bridge.Ports b)))))) []))) 0 D.dead) + 1)), D.int i64 (Bridge.Id b), D.int i64 port]], []) else none else none else none else none else some ([[D.int i64 (Bridge.Id b), D.int i64 (0), D.int i64 (Bridge.Id b), D.int i64 port]], []) else none := by kernel_rfl
theorem m159 (b : Bridge) (port : Int) (hpre : (o159 b port).1 = true) : evFn ⟨Go.Proofs.Try.prog, Hx, 159⟩ T182.call 0 f159 [[.int .i64 b.Id, .sl false 11 (enS false b.Ports)], [.int .i64 port]] = some (o159 b port).2 := by
  refine (r159 b port _).trans ?_
  show _ = (some ([[.int .i64 (ownM b port).Root, .int .i64 (ownM b port).Cost, .int .i64 (ownM b port).Bridge, .int .i64 (ownM b port).Port]], []) : Option (List Row × List Row))
  replace hpre : (decide (b.Ports.length ≤ 1048576)) = true := hpre
  have hb := rootM_b b
  simp only [isS_enS, deS_enS, hpre, Bool.and_self, cond_true, Bridge.eta, enS_length, ge_not]
  unfold ownM
  cases c6 : decide (rootM b < 0)
  case true => rfl
  obtain ⟨k, hk⟩ := Int.eq_ofNat_of_zero_le (show 0 ≤ rootM b by have := of_decide_eq_false c6; omega)
  have hkl : k < b.Ports.length := by omega
  have hv := bestAt_nat hkl
  have d1 : decide ((k : Int) < Int.ofNat b.Ports.length) = true := decide_eq_true (show (k : Int) < (b.Ports.length : Int) by omega)
  simp only [hk, d1, Bool.not_false, cond_true, cond_false, Int.toNat_natCast, enS_get false hkl, hv]
  rfl
theorem s159 : SoundAt Go.Proofs.Try.prog Hx 159 c159 := soundAt_of T182_sound mixed func159 (by kernel_rfl) (by
  intro rows r h
  unfold c159 at h
  split at h
  · rename_i b_Id b_Ports port
    obtain ⟨hp, hr⟩ := Prod.mk.inj (Option.some.inj h)
    subst hr
    simp only [Bool.and_eq_true] at hp
    obtain ⟨hs0, hp⟩ := hp
    obtain ⟨xs0, rfl⟩ := isS_ex hs0
    simp only [deS_enS] at hp ⊢
    exact ⟨_, m159 ⟨b_Id, xs0⟩ port hp⟩
  · cases h)
def T159 : Table := (159, c159) :: T182
theorem T159_sound : Table.Sound Go.Proofs.Try.prog Hx T159 := Table.sound_cons s159 T182_sound
def o160 (b : Bridge) : Bool × List Row × List Row := (decide (b.Ports.length ≤ 1048576), [[.int .i64 (hopsM b)]], [])
def c160 : Contract
  | [[.int .i64 b_Id, .sl false 11 b_Ports]] => some (isS Port false b_Ports && (o160 ⟨b_Id, (deS Port b_Ports)⟩).1, (o160 ⟨b_Id, (deS Port b_Ports)⟩).2.1, (o160 ⟨b_Id, (deS Port b_Ports)⟩).2.2)
  | _ => none
theorem r160 (b : Bridge) (n : Nat) : evFn ⟨prog, Hx, 160⟩ T159.call n f160 [[.int .i64 b.Id, .sl false 11 (enS false b.Ports)]] = bif isS Port false (enS false (Bridge.Ports b)) && decide (length (deS Port (enS false (Bridge.Ports b))) ≤ 1048576) then bif decide (rootM (Bridge.mk (Bridge.Id b) (deS Port (enS false (Bridge.Ports b)))) ≥ 0) then bif decide (0 ≤ rootM (Bridge.mk (Bridge.Id b) (deS Port (enS false (Bridge.Ports b))))) && decide (rootM (Bridge.mk (Bridge.Id b) (deS Port (enS false (Bridge.Ports b)))) < ofNat (length (enS false (Bridge.Ports b)))) then bif Leaf.fit false (Leaf.int i64) (getD (drop 6 (getD (enS false (Bridge.Ports b)) (toNat (rootM (Bridge.mk (Bridge.Id b) (deS Port (enS false (Bridge.Ports b)))))) [])) 0 D.dead) && true then some ([[D.int i64 (wrap i64 (D.num (getD (drop 6 (getD (enS false (Bridge.Ports b)) (toNat (rootM (Bridge.mk (Bridge.Id b) (deS Port (enS false (Bridge.Ports b)))))) [])) 0 D.dead) + 1))]], []) else none else none else some ([[D.int i64 (0)]], []) else none := by kernel_rfl
theorem m160 (b : Bridge) (hpre : (o160 b).1 = true) : evFn ⟨Go.Proofs.Try.prog, Hx, 160⟩ T159.call 0 f160 [[.int .i64 b.Id, .sl false 11 (enS false b.Ports)]] = some (o160 b).2 := by
  refine (r160 b _).trans ?_
  show _ = (some ([[.int .i64 (hopsM b)]], []) : Option (List Row × List Row))
  replace hpre : (decide (b.Ports.length ≤ 1048576)) = true := hpre
  have hb := rootM_b b
  simp only [isS_enS, deS_enS, hpre, Bool.and_self, cond_true, Bridge.eta, enS_length, ge_not]
  unfold hopsM
  cases c6 : decide (rootM b < 0)
  case true => rfl
  obtain ⟨k, hk⟩ := Int.eq_ofNat_of_zero_le (show 0 ≤ rootM b by have := of_decide_eq_false c6; omega)
  have hkl : k < b.Ports.length := by omega
  have hv : (b.Ports.getD k port0) = b.Ports[k] := by
    rw [List.getD_eq_getElem?_getD, List.getElem?_eq_getElem hkl]
    rfl
  have d1 : decide ((k : Int) < Int.ofNat b.Ports.length) = true := decide_eq_true (show (k : Int) < (b.Ports.length : Int) by omega)
  simp only [hk, d1, Bool.not_false, cond_true, cond_false, Int.toNat_natCast, enS_get false hkl, hv]
  rfl
theorem s160 : SoundAt Go.Proofs.Try.prog Hx 160 c160 := soundAt_of T159_sound mixed func160 (by kernel_rfl) (by
  intro rows r h
  unfold c160 at h
  split at h
  · rename_i b_Id b_Ports
    obtain ⟨hp, hr⟩ := Prod.mk.inj (Option.some.inj h)
    subst hr
    simp only [Bool.and_eq_true] at hp
    obtain ⟨hs0, hp⟩ := hp
    obtain ⟨xs0, rfl⟩ := isS_ex hs0
    simp only [deS_enS] at hp ⊢
    exact ⟨_, m160 ⟨b_Id, xs0⟩ hp⟩
  · cases h)
def T160 : Table := (160, c160) :: T159
theorem T160_sound : Table.Sound Go.Proofs.Try.prog Hx T160 := Table.sound_cons s160 T159_sound
def o158 (b : Bridge) : Bool × List Row × List Row := (decide (b.Ports.length ≤ 1048576), [], [[.int .i64 (decideM b).Id, .sl true 11 (enS true (decideM b).Ports)]])
def c158 : Contract
  | [[.int .i64 b_Id, .sl true 11 b_Ports]] => some (isS Port true b_Ports && (o158 ⟨b_Id, (deS Port b_Ports)⟩).1, (o158 ⟨b_Id, (deS Port b_Ports)⟩).2.1, (o158 ⟨b_Id, (deS Port b_Ports)⟩).2.2)
  | _ => none
def k158_0 : Ex → St → RR := kBlock (0) (kLeave (Ctx.P (Ctx.mk prog Hx (158))) (List.zip (Array.toList (Go.Func.resultTypes f158)) (Array.toList (Go.Func.results f158))) [0] [])
def S158_0 (b : Bridge) (i0 : Int) (es1 : List (List D)) : St := St.mk [V_ [C.ptr 0 0 0 [] 2 0 0], U, I_ (rootM (Bridge.mk (Bridge.Id b) (deS Port (lendRows (enS true (Bridge.Ports b)))))), U, U, U, U, U, U, U, V_ [C.view 0 0 0 [(0, 1)] 11 none], I_ (ofNat (length (enS true (Bridge.Ports b)))), I_ i0, U, U, U, U, U, U, U, U, U, U, U, U, U, U, U, U, U, U, U, U, U, U, U, U, U, U, U, U, U, U, U, U, U, U, U, U, U, U, U, U, U, U, U, U, U, U, U, U] [Root.mk true 2 [[D.int i64 (Bridge.Id b), D.sl true 11 es1]] 0 0 true true false]
def B158_0 (n : Nat) : St → (Ex → St → RR) → RR := runCode (Ctx.mk prog Hx (158)) (Table.call T160) n (codeAt [1, 1, 0, 0] (bodyOf f158)) (Lv.mk 7173 [(0, 0)] 0)
def X158_1 (b : Bridge) (i0 : Int) (es1 : List (List D)) : St := St.mk [V_ [C.ptr 0 0 0 [] 2 0 0], U, I_ (rootM (Bridge.mk (Bridge.Id b) (deS Port (lendRows (enS true (Bridge.Ports b)))))), U, U, U, U, U, U, U, V_ [C.view 0 0 0 [(0, 1)] 11 none], I_ (ofNat (length (enS true (Bridge.Ports b)))), I_ i0, B_ false, U, U, U, U, U, U, U, U, U, U, U, U, U, U, U, U, U, U, U, U, U, U, U, U, U, U, U, U, U, U, U, U, U, U, U, U, U, U, U, U, U, U, U, U, U, U, U] [Root.mk true 2 [[D.int i64 (Bridge.Id b), D.sl true 11 es1]] 0 0 true true false]
theorem q158_0 (b : Bridge) (n : Nat) (i0 : Int) (es1 : List (List D)) (f : St → RR) (K : Ex → St → RR) : B158_0 n (S158_0 b i0 es1) (kThen (fun st ↦ f (St.head 1 7173 2305843009213689880 st)) K) = bif decide (i0 < ofNat (length (enS true (Bridge.Ports b)))) then bif decide (0 ≤ i0) && decide (i0 < ofNat (length es1)) then bif Leaf.fit true Leaf.bool (getD (getD es1 (0 + toNat i0) []) 0 D.dead) && (Leaf.fit true Leaf.bool (getD (getD es1 (0 + toNat i0) []) 1 D.dead) && (Leaf.fit true (Leaf.int i64) (getD (getD es1 (0 + toNat i0) []) 2 D.dead) && (Leaf.fit true (Leaf.int i64) (getD (getD es1 (0 + toNat i0) []) 3 D.dead) && (Leaf.fit true (Leaf.int i64) (getD (getD es1 (0 + toNat i0) []) 4 D.dead) && (Leaf.fit true (Leaf.int i64) (getD (getD es1 (0 + toNat i0) []) 5 D.dead) && (Leaf.fit true (Leaf.int i64) (getD (getD es1 (0 + toNat i0) []) 6 D.dead) && (Leaf.fit true (Leaf.int i64) (getD (getD es1 (0 + toNat i0) []) 7 D.dead) && (Leaf.fit true (Leaf.int i64) (getD (getD es1 (0 + toNat i0) []) 8 D.dead) && (Leaf.fit true (Leaf.int i64) (getD (getD es1 (0 + toNat i0) []) 9 D.dead) && (Leaf.fit true Leaf.bool (getD (getD es1 (0 + toNat i0) []) 10 D.dead) && true)))))))))) then bif !D.flag (getD (getD es1 (0 + toNat i0) []) 0 D.dead) then f (S158_0 b (wrap i64 (i0 + 1)) es1) else bif i0 == rootM (Bridge.mk (Bridge.Id b) (deS Port (lendRows (enS true (Bridge.Ports b))))) then bif decide (0 ≤ i0) && decide (i0 < ofNat (length es1)) then f (S158_0 b (wrap i64 (i0 + 1)) (set es1 (0 + toNat i0) (En.enc true (turnM (En.dec (getD es1 (0 + toNat i0) [])) (1))))) else none else bif D.flag (getD (getD es1 (0 + toNat i0) []) 1 D.dead) then bif isS Port false (lendRows es1) && decide (length (deS Port (lendRows es1)) ≤ 1048576) then bif betterB (Vec.mk (D.num (getD (getD es1 (0 + toNat i0) []) 2 D.dead)) (D.num (getD (getD es1 (0 + toNat i0) []) 3 D.dead)) (D.num (getD (getD es1 (0 + toNat i0) []) 4 D.dead)) (D.num (getD (getD es1 (0 + toNat i0) []) 5 D.dead))) (ownM (Bridge.mk (Bridge.Id b) (deS Port (lendRows es1))) i0) then bif decide (0 ≤ i0) && decide (i0 < ofNat (length es1)) then f (S158_0 b (wrap i64 (i0 + 1)) (set es1 (0 + toNat i0) (En.enc true (turnM (En.dec (getD es1 (0 + toNat i0) [])) (3))))) else none else bif decide (0 ≤ i0) && decide (i0 < ofNat (length es1)) then f (S158_0 b (wrap i64 (i0 + 1)) (set es1 (0 + toNat i0) (En.enc true (turnM (En.dec (getD es1 (0 + toNat i0) [])) (2))))) else none else none else bif decide (0 ≤ i0) && decide (i0 < ofNat (length es1)) then f (S158_0 b (wrap i64 (i0 + 1)) (set es1 (0 + toNat i0) (En.enc true (turnM (En.dec (getD es1 (0 + toNat i0) [])) (2))))) else none else none else none else K (Ex.exit 0) (X158_1 b i0 es1) := by kernel_rfl
theorem aX158_1 (b : Bridge) (i0 : Int) (es1 : List (List D)) : k158_0 (Ex.exit 0) (X158_1 b i0 es1) = some ([], [[D.int i64 (Bridge.Id b), D.sl true 11 es1]]) := by kernel_rfl
theorem r158 (b : Bridge) (n : Nat) : evFn ⟨prog, Hx, 158⟩ T160.call n f158 [[.int .i64 b.Id, .sl true 11 (enS true b.Ports)]] = bif isS Port false (lendRows (enS true (Bridge.Ports b))) && decide (length (deS Port (lendRows (enS true (Bridge.Ports b)))) ≤ 1048576) then loopRun (B158_0 n) 1 7173 2305843009213689880 n (S158_0 b (0) (enS true (Bridge.Ports b))) k158_0 else none := by kernel_rfl
theorem m158 (b : Bridge) (hpre : (o158 b).1 = true) : evFn ⟨Go.Proofs.Try.prog, Hx, 158⟩ T160.call (b.Ports.length + 1) f158 [[.int .i64 b.Id, .sl true 11 (enS true b.Ports)]] = some (o158 b).2 := by
  refine (r158 b _).trans ?_
  show _ = (some ([], [[.int .i64 (decideM b).Id, .sl true 11 (enS true (decideM b).Ports)]]) : Option (List Row × List Row))
  replace hpre : (decide (b.Ports.length ≤ 1048576)) = true := hpre
  have hlen := of_decide_eq_true hpre
  simp only [lendRows_enS, isS_enS, deS_enS, hpre, Bool.and_self, cond_true]
  have hT : (decL b 0 b.Ports).length = b.Ports.length := decL_len b b.Ports 0
  have hcore := decL_core b b.Ports 0
  refine loop_list (xs := b.Ports) (fun i (ys : List Port) => S158_0 b (Int.ofNat i) (enS true ys)) (fun i ys => ys = (decL b 0 b.Ports).take i ++ b.Ports.drop i) (fun _ _ _ => some ([], [[D.int .i64 b.Id, D.sl true 11 (enS true (decL b 0 b.Ports))]])) ?_ ?_ (b.Ports.length + 1) b.Ports (by omega) (by simp)
  · rintro ys rfl f
    refine (q158_0 b _ _ _ f _).trans ?_
    rw [end_lt, cond_false]
    refine (aX158_1 b _ _).trans ?_
    rw [List.drop_length, List.append_nil, ← hT, List.take_length]
  · rintro i ys hi hys f hf
    have hyl : ys.length = b.Ports.length := by rw [hys]; exact mix_len hT i
    have hy : i < ys.length := by omega
    have hat : ys[i] = b.Ports[i] := by subst hys; exact mix_get hT hi _
    have hym : (⟨b.Id, ys⟩ : Bridge).Ports.map coreP = b.Ports.map coreP := by subst hys; exact mix_map hcore i
    have hown := core_ownM (b := ⟨b.Id, ys⟩) (c := b) rfl hym
    have hg := decL_get b b.Ports 0 i hi
    rw [Nat.zero_add] at hg
    refine (q158_0 b _ _ _ f _).trans ?_
    have hys1 : decide (ys.length ≤ 1048576) = true := decide_eq_true (by omega)
    simp only [enS_length, toNat_of, dec_lt, dec_ge, hi, decide_true, cond_true, Bool.and_self, Nat.zero_add, wrap_succ (show i < 4611686018427387904 by omega), lendRows_enS, isS_enS, deS_enS, hyl, enS_get true hy, hat, hown, hpre, En.dec_enc, enS_set, Bridge.eta]
    refine bif_t rfl ?_
    exact dec_step (b := b) (i := i) (p := b.Ports[i]) (ys := ys) (fun zs => f (S158_0 b (Int.ofNat (i + 1)) (enS true zs))) (fun e => hf ys (by rw [hys]; exact mix_keep hT hi (by rw [hg, e]))) (fun x e => hf (ys.set i x) (by rw [hys]; exact mix_set hT hi (by rw [hg, e])))
theorem s158 : SoundAt Go.Proofs.Try.prog Hx 158 c158 := soundAt_of T160_sound mixed func158 (by kernel_rfl) (by
  intro rows r h
  unfold c158 at h
  split at h
  · rename_i b_Id b_Ports
    obtain ⟨hp, hr⟩ := Prod.mk.inj (Option.some.inj h)
    subst hr
    simp only [Bool.and_eq_true] at hp
    obtain ⟨hs0, hp⟩ := hp
    obtain ⟨xs0, rfl⟩ := isS_ex hs0
    simp only [deS_enS] at hp ⊢
    exact ⟨_, m158 ⟨b_Id, xs0⟩ hp⟩
  · cases h)
def T158 : Table := (158, c158) :: T160
theorem T158_sound : Table.Sound Go.Proofs.Try.prog Hx T158 := Table.sound_cons s158 T160_sound
def o157 (b : Bridge) : Bool × List Row × List Row := (bridgeOk b, [], [[.int .i64 (tickM b).Id, .sl true 11 (enS true (tickM b).Ports)]])
def c157 : Contract
  | [[.int .i64 b_Id, .sl true 11 b_Ports]] => some (isS Port true b_Ports && (o157 ⟨b_Id, (deS Port b_Ports)⟩).1, (o157 ⟨b_Id, (deS Port b_Ports)⟩).2.1, (o157 ⟨b_Id, (deS Port b_Ports)⟩).2.2)
  | _ => none
def k157_0 : Ex → St → RR := kBlock (0) (kLeave (Ctx.P (Ctx.mk prog Hx (157))) (List.zip (Array.toList (Go.Func.resultTypes f157)) (Array.toList (Go.Func.results f157))) [0] [])
def S157_0 (b : Bridge) (i0 : Int) (es1 : List (List D)) : St := St.mk [V_ [C.ptr 0 0 0 [] 2 0 0], U, U, U, U, U, U, U, I_ (ofNat (length (enS true (Bridge.Ports b)))), I_ i0, U, U, U, U, U, U, U, U, U, U, U, U, U, U, U, U, U, U, U, U, U, U, U, U, U, U, U, U, U, U, U, U, U, U, U, U, U, U] [Root.mk true 2 [[D.int i64 (Bridge.Id b), D.sl true 11 es1]] 0 0 true true false]
def B157_0 (n : Nat) : St → (Ex → St → RR) → RR := runCode (Ctx.mk prog Hx (157)) (Table.call T158) n (codeAt [1, 0, 0] (bodyOf f157)) (Lv.mk 769 [(0, 0)] 0)
def X157_1 (b : Bridge) (i0 : Int) (es1 : List (List D)) : St := St.mk [V_ [C.ptr 0 0 0 [] 2 0 0], U, U, U, U, U, U, U, I_ (ofNat (length (enS true (Bridge.Ports b)))), I_ i0, B_ false, U, U, U, U, U, U, U, U, U, U, U, U, U, U, U, U, U, U, U, U, U, U, U, U, U, U, U, U, U, U, U, U, U, U, U, U, U] [Root.mk true 2 [[D.int i64 (Bridge.Id b), D.sl true 11 es1]] 0 0 true true false]
theorem q157_0 (b : Bridge) (n : Nat) (i0 : Int) (es1 : List (List D)) (f : St → RR) (K : Ex → St → RR) : B157_0 n (S157_0 b i0 es1) (kThen (fun st ↦ f (St.head 1 769 281474976710156 st)) K) = bif decide (i0 < ofNat (length (enS true (Bridge.Ports b)))) then bif decide (0 ≤ i0) && decide (i0 < ofNat (length es1)) then bif Leaf.fit true Leaf.bool (getD (getD es1 (0 + toNat i0) []) 0 D.dead) && (Leaf.fit true Leaf.bool (getD (getD es1 (0 + toNat i0) []) 1 D.dead) && (Leaf.fit true (Leaf.int i64) (getD (getD es1 (0 + toNat i0) []) 2 D.dead) && (Leaf.fit true (Leaf.int i64) (getD (getD es1 (0 + toNat i0) []) 3 D.dead) && (Leaf.fit true (Leaf.int i64) (getD (getD es1 (0 + toNat i0) []) 4 D.dead) && (Leaf.fit true (Leaf.int i64) (getD (getD es1 (0 + toNat i0) []) 5 D.dead) && (Leaf.fit true (Leaf.int i64) (getD (getD es1 (0 + toNat i0) []) 6 D.dead) && (Leaf.fit true (Leaf.int i64) (getD (getD es1 (0 + toNat i0) []) 7 D.dead) && (Leaf.fit true (Leaf.int i64) (getD (getD es1 (0 + toNat i0) []) 8 D.dead) && (Leaf.fit true (Leaf.int i64) (getD (getD es1 (0 + toNat i0) []) 9 D.dead) && (Leaf.fit true Leaf.bool (getD (getD es1 (0 + toNat i0) []) 10 D.dead) && true)))))))))) then bif Port.Role (fadeM (En.dec (getD es1 (0 + toNat i0) []))) == 1 then bif decide (Port.Wait (fadeM (En.dec (getD es1 (0 + toNat i0) []))) > 0) then bif decide (0 ≤ i0) && decide (i0 < ofNat (length es1)) then f (S157_0 b (wrap i64 (i0 + 1)) (set es1 (0 + toNat i0) [D.bool (Port.Up (fadeM (En.dec (getD es1 (0 + toNat i0) [])))), D.bool (Port.Has (fadeM (En.dec (getD es1 (0 + toNat i0) [])))), D.int i64 (Vec.Root (Port.Vec (fadeM (En.dec (getD es1 (0 + toNat i0) []))))), D.int i64 (Vec.Cost (Port.Vec (fadeM (En.dec (getD es1 (0 + toNat i0) []))))), D.int i64 (Vec.Bridge (Port.Vec (fadeM (En.dec (getD es1 (0 + toNat i0) []))))), D.int i64 (Vec.Port (Port.Vec (fadeM (En.dec (getD es1 (0 + toNat i0) []))))), D.int i64 (Port.Hops (fadeM (En.dec (getD es1 (0 + toNat i0) [])))), D.int i64 (Port.Left (fadeM (En.dec (getD es1 (0 + toNat i0) [])))), D.int i64 (Port.Role (fadeM (En.dec (getD es1 (0 + toNat i0) [])))), D.int i64 (wrap i64 (Port.Wait (fadeM (En.dec (getD es1 (0 + toNat i0) []))) - 1)), D.bool (openB (Port.mk (Port.Up (fadeM (En.dec (getD es1 (0 + toNat i0) [])))) (Port.Has (fadeM (En.dec (getD es1 (0 + toNat i0) [])))) (Port.Vec (fadeM (En.dec (getD es1 (0 + toNat i0) [])))) (Port.Hops (fadeM (En.dec (getD es1 (0 + toNat i0) [])))) (Port.Left (fadeM (En.dec (getD es1 (0 + toNat i0) [])))) (Port.Role (fadeM (En.dec (getD es1 (0 + toNat i0) [])))) (wrap i64 (Port.Wait (fadeM (En.dec (getD es1 (0 + toNat i0) []))) - 1)) (Port.Open (fadeM (En.dec (getD es1 (0 + toNat i0) []))))))])) else none else bif decide (0 ≤ i0) && decide (i0 < ofNat (length es1)) then f (S157_0 b (wrap i64 (i0 + 1)) (set es1 (0 + toNat i0) (En.enc true (fadeM (En.dec (getD es1 (0 + toNat i0) [])))))) else none else bif Port.Role (fadeM (En.dec (getD es1 (0 + toNat i0) []))) == 2 then bif decide (Port.Wait (fadeM (En.dec (getD es1 (0 + toNat i0) []))) > 0) then bif decide (0 ≤ i0) && decide (i0 < ofNat (length es1)) then f (S157_0 b (wrap i64 (i0 + 1)) (set es1 (0 + toNat i0) [D.bool (Port.Up (fadeM (En.dec (getD es1 (0 + toNat i0) [])))), D.bool (Port.Has (fadeM (En.dec (getD es1 (0 + toNat i0) [])))), D.int i64 (Vec.Root (Port.Vec (fadeM (En.dec (getD es1 (0 + toNat i0) []))))), D.int i64 (Vec.Cost (Port.Vec (fadeM (En.dec (getD es1 (0 + toNat i0) []))))), D.int i64 (Vec.Bridge (Port.Vec (fadeM (En.dec (getD es1 (0 + toNat i0) []))))), D.int i64 (Vec.Port (Port.Vec (fadeM (En.dec (getD es1 (0 + toNat i0) []))))), D.int i64 (Port.Hops (fadeM (En.dec (getD es1 (0 + toNat i0) [])))), D.int i64 (Port.Left (fadeM (En.dec (getD es1 (0 + toNat i0) [])))), D.int i64 (Port.Role (fadeM (En.dec (getD es1 (0 + toNat i0) [])))), D.int i64 (wrap i64 (Port.Wait (fadeM (En.dec (getD es1 (0 + toNat i0) []))) - 1)), D.bool (openB (Port.mk (Port.Up (fadeM (En.dec (getD es1 (0 + toNat i0) [])))) (Port.Has (fadeM (En.dec (getD es1 (0 + toNat i0) [])))) (Port.Vec (fadeM (En.dec (getD es1 (0 + toNat i0) [])))) (Port.Hops (fadeM (En.dec (getD es1 (0 + toNat i0) [])))) (Port.Left (fadeM (En.dec (getD es1 (0 + toNat i0) [])))) (Port.Role (fadeM (En.dec (getD es1 (0 + toNat i0) [])))) (wrap i64 (Port.Wait (fadeM (En.dec (getD es1 (0 + toNat i0) []))) - 1)) (Port.Open (fadeM (En.dec (getD es1 (0 + toNat i0) []))))))])) else none else bif decide (0 ≤ i0) && decide (i0 < ofNat (length es1)) then f (S157_0 b (wrap i64 (i0 + 1)) (set es1 (0 + toNat i0) (En.enc true (fadeM (En.dec (getD es1 (0 + toNat i0) [])))))) else none else bif decide (0 ≤ i0) && decide (i0 < ofNat (length es1)) then f (S157_0 b (wrap i64 (i0 + 1)) (set es1 (0 + toNat i0) (En.enc true (fadeM (En.dec (getD es1 (0 + toNat i0) [])))))) else none else none else none else K (Ex.exit 0) (X157_1 b i0 es1) := by kernel_rfl
theorem aX157_1 (b : Bridge) (i0 : Int) (es1 : List (List D)) : k157_0 (Ex.exit 0) (X157_1 b i0 es1) = some ([], [[D.int i64 (Bridge.Id b), D.sl true 11 es1]]) := by kernel_rfl
theorem r157 (b : Bridge) (n : Nat) : evFn ⟨prog, Hx, 157⟩ T158.call n f157 [[.int .i64 b.Id, .sl true 11 (enS true b.Ports)]] = loopRun (B157_0 n) 1 769 281474976710156 n (S157_0 b (0) (enS true (Bridge.Ports b))) k157_0 := by kernel_rfl
theorem m157 (b : Bridge) (hpre : (o157 b).1 = true) : evFn ⟨Go.Proofs.Try.prog, Hx, 157⟩ T158.call (b.Ports.length + 1) f157 [[.int .i64 b.Id, .sl true 11 (enS true b.Ports)]] = some (o157 b).2 := by
  refine (r157 b _).trans ?_
  show _ = (some ([], [[.int .i64 (tickM b).Id, .sl true 11 (enS true (tickM b).Ports)]]) : Option (List Row × List Row))
  replace hpre : (bridgeOk b) = true := hpre
  have hpar := bridge_parts hpre
  have hlen : b.Ports.length ≤ 4 := bridge_le4 hpre
  have hT : (b.Ports.map tickP).length = b.Ports.length := List.length_map ..
  refine loop_list (xs := b.Ports) (fun i (ys : List Port) => S157_0 b (Int.ofNat i) (enS true ys)) (fun i ys => ys = (b.Ports.map tickP).take i ++ b.Ports.drop i) (fun _ _ _ => some ([], [[D.int .i64 b.Id, D.sl true 11 (enS true (b.Ports.map tickP))]])) ?_ ?_ (b.Ports.length + 1) b.Ports (by omega) (by simp)
  · rintro ys rfl f
    refine (q157_0 b _ _ _ f _).trans ?_
    rw [end_lt, cond_false]
    refine (aX157_1 b _ _).trans ?_
    rw [List.drop_length, List.append_nil, ← hT, List.take_length]
  · rintro i ys hi hys f hf
    have hyl : ys.length = b.Ports.length := by rw [hys]; exact mix_len hT i
    have hy : i < ys.length := by omega
    have hat : ys[i] = b.Ports[i] := by subst hys; exact mix_get hT hi _
    have hpo : portOk b.Ports[i] = true := List.all_eq_true.1 hpar.1 _ (List.getElem_mem hi)
    refine (q157_0 b _ _ _ f _).trans ?_
    simp only [enS_length, toNat_of, dec_lt, dec_ge, hi, decide_true, cond_true, Bool.and_self, Nat.zero_add, wrap_succ (show i < 4611686018427387904 by omega), hyl, enS_get true hy, hat, En.dec_enc]
    refine bif_t rfl ?_
    have hw := wait_b (fade_ok hpo)
    refine (wait_step (q := fadeM b.Ports[i]) (wrap_sm (by omega) (by omega)) (fun r => f (S157_0 b (Int.ofNat (i + 1)) ((enS true ys).set i r)))).trans ?_
    rw [enS_set]
    exact hf (ys.set i (tickP b.Ports[i])) (by rw [hys]; exact mix_set hT hi (by rw [List.getElem_map]))
theorem s157 : SoundAt Go.Proofs.Try.prog Hx 157 c157 := soundAt_of T158_sound mixed func157 (by kernel_rfl) (by
  intro rows r h
  unfold c157 at h
  split at h
  · rename_i b_Id b_Ports
    obtain ⟨hp, hr⟩ := Prod.mk.inj (Option.some.inj h)
    subst hr
    simp only [Bool.and_eq_true] at hp
    obtain ⟨hs0, hp⟩ := hp
    obtain ⟨xs0, rfl⟩ := isS_ex hs0
    simp only [deS_enS] at hp ⊢
    exact ⟨_, m157 ⟨b_Id, xs0⟩ hp⟩
  · cases h)
def T157 : Table := (157, c157) :: T158
theorem T157_sound : Table.Sound Go.Proofs.Try.prog Hx T157 := Table.sound_cons s157 T158_sound
end Go.Ev
end
