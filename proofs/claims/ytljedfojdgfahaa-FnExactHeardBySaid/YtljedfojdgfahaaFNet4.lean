/- Contracts of functions, each by its evaluation. -/
import Derived.Test.YtljedfojdgfahaaEvMd
import Derived.Test.YtljedfojdgfahaaProg
import Derived.KernelRfl
import Derived.Test.YtljedfojdgfahaaFNet3
set_option linter.unusedVariables false
set_option linter.unusedSimpArgs false
set_option maxRecDepth 100000
noncomputable section
open List (getD length drop take set append replicate all isEmpty)
open Int (toNat ofNat)
open Go.IntKind (i64 wrap)
open Go.Proofs.Try (prog)
namespace Go.Ev
open Go.RowKit Go.Md
end Go.Ev
namespace Go.Md
open Go Go.Ev
def outV (n : Net) (b but far : Int) : Int → List Port → List Visit
  | _, [] => []
  | k, _ :: ps => (bif k == but then [] else bif (acrossB n ⟨b, k⟩).2 then [⟨(acrossB n ⟨b, k⟩).1.bridge, (acrossB n ⟨b, k⟩).1.port, far⟩] else []) ++ outV n b but far (k + 1) ps
def outOf (n : Net) (v : Visit) : List Visit := outV n v.Bridge v.Port (v.Far + 1) 0 (portsAt n v.Bridge)
/-- What is handed on, by turns. -/
def fl (n : Net) : Nat → Nat → Int → Visit → List Visit → List Int → List Visit × List Int
  | 0, _, _, _, l, b => (l, b)
  | f + 1, k, i, v, l, b =>
    bif decide ((l ++ (outOf n v).take (60 - l.length)).length ≤ k) || decide ((l ++ (outOf n v).take (60 - l.length)).length = 60) then (l ++ (outOf n v).take (60 - l.length), b ++ List.replicate ((outOf n v).take (60 - l.length)).length i)
    else fl n f (k + 1) (Int.ofNat k) ((l ++ (outOf n v).take (60 - l.length)).getD k ⟨0, 0, 0⟩) (l ++ (outOf n v).take (60 - l.length)) (b ++ List.replicate ((outOf n v).take (60 - l.length)).length i)
def floodL (n : Net) (from_ : Int) : List Visit × List Int := fl n 61 0 (-1) ⟨from_, -1, 0⟩ [] []
def fs (n : Net) : Nat → Nat → List Visit → List Visit
  | 0, _, l => l
  | f + 1, k, l => bif decide (k < l.length) then fs n f (k + 1) (l ++ outOf n (l.getD k ⟨0, 0, 0⟩)) else l
theorem fs_long (n : Net) : ∀ (f k : Nat) (l : List Visit), 60 ≤ l.length → (fs n f k l).take 60 = l.take 60
  | 0, k, l, _ => rfl
  | f + 1, k, l, h => by
    unfold fs
    cases decide (k < l.length)
    · rfl
    · rw [cond_true, fs_long n f (k + 1) _ (by rw [List.length_append]; omega), List.take_append_of_le_length (by omega)]
theorem fl_fs (n : Net) : ∀ (f k : Nat) (i : Int) (v : Visit) (l out : List Visit) (b : List Int), l = out.take 60 → k + f = 60 → k ≤ l.length → (fl n (f + 1) k i v l b).1 = (fs n f k (out ++ outOf n v)).take 60 := by
  intro f
  have key : ∀ {l out : List Visit} {v : Visit}, l = out.take 60 → l ++ (outOf n v).take (60 - l.length) = (out ++ outOf n v).take 60 := by
    intro l out v hl
    subst hl
    rw [List.take_append, List.length_take]
    by_cases h : out.length ≤ 60
    · rw [Nat.min_eq_right h]
    · rw [show 60 - min 60 out.length = 0 by omega, show 60 - out.length = 0 by omega]
  induction f with
  | zero =>
    intro k i v l out b hl hk hle
    have e := key (v := v) hl
    have h1 : l.length ≤ out.length := by rw [hl, List.length_take]; omega
    unfold fl fs
    rw [e]
    have hlen : ((out ++ outOf n v).take 60).length = 60 := by rw [List.length_take, List.length_append]; omega
    rw [show decide (((out ++ outOf n v).take 60).length = 60) = true from decide_eq_true hlen, Bool.or_true, cond_true]
  | succ f ih =>
    intro k i v l out b hl hk hle
    have e := key (v := v) hl
    generalize hL : out ++ outOf n v = o at e
    unfold fl
    rw [e]
    unfold fs
    have hlen : (o.take 60).length = min 60 o.length := List.length_take
    by_cases h60 : 60 ≤ o.length
    · rw [show decide ((o.take 60).length = 60) = true from decide_eq_true (by omega), Bool.or_true, cond_true]
      cases decide (k < o.length)
      · rfl
      · rw [cond_true, fs_long n f (k + 1) _ (by rw [List.length_append]; omega), List.take_append_of_le_length (by omega)]
    · have ho : o.take 60 = o := List.take_of_length_le (by omega)
      rw [ho]
      rw [show decide (o.length = 60) = false from decide_eq_false (by omega), Bool.or_false]
      by_cases hk2 : o.length ≤ k
      · rw [decide_eq_true hk2, show decide (k < o.length) = false from decide_eq_false (by omega), cond_true, cond_false, ho]
      · rw [decide_eq_false hk2, show decide (k < o.length) = true from decide_eq_true (by omega), cond_false, cond_true]
        exact ih (k + 1) _ _ o o _ ho.symm (by omega) (by omega)
theorem floodL_fs (n : Net) (from_ : Int) : (floodL n from_).1 = (fs n 60 0 (outOf n ⟨from_, -1, 0⟩)).take 60 := by
  unfold floodL
  rw [fl_fs n 60 0 (-1) ⟨from_, -1, 0⟩ [] [] [] rfl (by omega) (by simp), List.nil_append]
/-! ### what is visited is there -/
theorem vis_end (e : TEnd) : ∀ (ls : List Link) (k : Int), 0 ≤ k → (visL e ls k).2 = -1 ∨ ∃ l ∈ ls, (visL e ls k).1 = endA l ∨ (visL e ls k).1 = endB l
  | [], k, _ => .inl rfl
  | l :: ls, k, hk => by
    simp only [visL]
    cases sameE (endA l) e
    · cases sameE (endB l) e
      · simp only [cond_false]
        rcases vis_end e ls (k + 1) (by omega) with h | ⟨l', h1, h2⟩
        · exact .inl h
        · exact .inr ⟨l', by simp [h1], h2⟩
      · exact .inr ⟨l, by simp, .inl (by simp)⟩
    · exact .inr ⟨l, by simp, .inr (by simp)⟩
theorem across_end {n : Net} (hn : netIn n = true) {e : TEnd} (h : (acrossB n e).2 = true) : isEndB n (acrossB n e).1 = true := by
  unfold acrossB at h ⊢
  simp only [Bool.and_eq_true] at h
  have h1 := of_decide_eq_true h.1
  unfold otherB at h1 ⊢
  unfold netIn at hn
  simp only [Bool.and_eq_true, List.all_eq_true] at hn
  rcases vis_end e n.Links 0 (by omega) with h2 | ⟨l, h2, h3⟩
  · omega
  · have := hn.2 l h2
    unfold linkIn at this
    rw [Bool.and_eq_true] at this
    rcases h3 with h3 | h3 <;> rw [h3]
    · exact this.1
    · exact this.2
/-- A visit that is there, so far at most. -/
def vOk (n : Net) (m : Int) (v : Visit) : Prop := inR v.Bridge 0 ((n.Bridges.length : Int) - 1) = true ∧ 0 ≤ v.Far ∧ v.Far ≤ m
theorem outV_ok {n : Net} (hn : netIn n = true) {b but far : Int} (hf : 0 ≤ far) : ∀ (ps : List Port) (k : Int), ∀ v ∈ outV n b but far k ps, vOk n far v
  | [], k, v, h => by cases h
  | p :: ps, k, v, h => by
    unfold outV at h
    rcases List.mem_append.1 h with h | h
    · cases hk : k == but
      · rw [hk, cond_false] at h
        cases ha : (acrossB n ⟨b, k⟩).2
        · rw [ha, cond_false] at h; cases h
        · rw [ha, cond_true] at h
          rw [List.mem_singleton] at h
          subst h
          have he := across_end hn ha
          unfold isEndB at he
          rw [Bool.and_eq_true] at he
          exact ⟨he.1, hf, Int.le_refl _⟩
      · rw [hk, cond_true] at h; cases h
    · exact outV_ok hn hf ps (k + 1) v h
theorem outV_len (n : Net) (b but far : Int) : ∀ (ps : List Port) (k : Int), (outV n b but far k ps).length ≤ ps.length
  | [], k => Nat.le_refl _
  | p :: ps, k => by
    unfold outV
    have := outV_len n b but far ps (k + 1)
    rw [List.length_append, List.length_cons]
    cases k == but
    · cases (acrossB n ⟨b, k⟩).2 <;> simp <;> omega
    · simp; omega
theorem ports_small {n : Net} (hs : Net.small n = true) (b : Int) : (portsAt n b).length ≤ 1048576 := by
  obtain ⟨_, h2, _⟩ := net_small hs
  unfold portsAt
  by_cases h : b.toNat < n.Bridges.length
  · rw [List.getD_eq_getElem?_getD, List.getElem?_eq_getElem h]
    exact h2 _ (List.getElem_mem h)
  · rw [List.getD_eq_getElem?_getD, List.getElem?_eq_none (by omega)]
    simp
theorem fl_ok {n : Net} (hn : netIn n = true) : ∀ (f k : Nat) (i : Int) (v : Visit) (l : List Visit) (b : List Int), vOk n (Int.ofNat k) v → (∀ x ∈ l, vOk n (Int.ofNat k) x) → ∀ x ∈ (fl n f k i v l b).1, vOk n (Int.ofNat k + Int.ofNat f) x := by
  intro f
  have up : ∀ {m m' : Int} {x : Visit}, m ≤ m' → vOk n m x → vOk n m' x := fun h hx => ⟨hx.1, hx.2.1, by have := hx.2.2; omega⟩
  induction f with
  | zero => intro k i v l b hv hl x hx; exact up (by show (k : Int) ≤ (k : Int) + 0; omega) (hl x hx)
  | succ f ih =>
    intro k i v l b hv hl x hx
    have hl' : ∀ x ∈ l ++ (outOf n v).take (60 - l.length), vOk n (Int.ofNat (k + 1)) x := by
      intro x hx
      rcases List.mem_append.1 hx with hx | hx
      · exact up (by show (k : Int) ≤ ((k + 1 : Nat) : Int); omega) (hl x hx)
      · have := outV_ok hn (b := v.Bridge) (but := v.Port) (far := v.Far + 1) (by have := hv.2.1; omega) _ _ x (List.mem_of_mem_take hx)
        exact up (by have := hv.2.2; show v.Far + 1 ≤ ((k + 1 : Nat) : Int); have h2 : v.Far ≤ (k : Int) := this; omega) this
    unfold fl at hx
    by_cases hc : (decide ((l ++ (outOf n v).take (60 - l.length)).length ≤ k) || decide ((l ++ (outOf n v).take (60 - l.length)).length = 60)) = true
    · rw [hc, cond_true] at hx
      exact up (by show ((k + 1 : Nat) : Int) ≤ (k : Int) + ((f + 1 : Nat) : Int); omega) (hl' x hx)
    · have hc' := Bool.eq_false_iff.2 hc
      rw [hc', cond_false] at hx
      simp only [Bool.or_eq_true, decide_eq_true_eq, not_or] at hc
      refine up ?_ (ih (k + 1) _ _ _ _ (hl' _ ?_) hl' x hx)
      · show ((k + 1 : Nat) : Int) + (f : Int) ≤ (k : Int) + ((f + 1 : Nat) : Int); omega
      · rw [List.getD_eq_getElem?_getD, List.getElem?_eq_getElem (by omega)]
        exact List.getElem_mem _
theorem floodL_ok {n : Net} (hn : netIn n = true) {from_ : Int} (hf : inR from_ 0 ((n.Bridges.length : Int) - 1) = true) : ∀ v ∈ (floodL n from_).1, vOk n 61 v := by
  intro v hv
  exact fl_ok hn 61 0 (-1) ⟨from_, -1, 0⟩ [] [] ⟨hf, Int.le_refl 0, Int.le_refl 0⟩ (fun x hx => by cases hx) v hv
theorem floodL_len (n : Net) (from_ : Int) : (floodL n from_).1.length ≤ 60 := by
  rw [floodL_fs, List.length_take]
  omega
theorem in_nat {n : Net} {b : Int} (h : inR b 0 ((n.Bridges.length : Int) - 1) = true) : ∃ a : Nat, a < n.Bridges.length ∧ b = Int.ofNat a := by
  have := net_in h
  obtain ⟨k, rfl⟩ := Int.eq_ofNat_of_zero_le this.1
  exact ⟨k, by omega, rfl⟩
theorem noSl_visits (l : List Visit) : ((enS true l).all fun r => r.all D.noSl) = true := noSl_enS (fun _ _ => rfl) true l
theorem take_cons_lt {α : Type} (x : α) (xs : List α) {c : Nat} (h : c < 60) : (x :: xs).take (60 - c) = x :: xs.take (60 - (c + 1)) := by
  rw [show 60 - c = (60 - (c + 1)) + 1 by omega, List.take_succ_cons]
end Go.Md
namespace Go.Ev
open Go.Md
/- l1Min -/
def o42 (a : Int) (b : Int) : Bool × List Row × List Row := (true, [[.int .i64 (bif decide (a < b) then a else b)]], [])
def c42 : Contract
  | [[.int .i64 a], [.int .i64 b]] => some ((o42 a b).1, (o42 a b).2.1, (o42 a b).2.2)
  | _ => none

theorem r42 (a : Int) (b : Int) (n : Nat) : evFn ⟨prog, Hx, 42⟩ T8.call n Go.Proofs.Try.f42 [[.int .i64 a], [.int .i64 b]] = bif decide (a < b) then some ([[D.int i64 a]], []) else some ([[D.int i64 b]], []) := by kernel_rfl
theorem m42 (a : Int) (b : Int) (hpre : (o42 a b).1 = true) : evFn ⟨Go.Proofs.Try.prog, Hx, 42⟩ T8.call 0 Go.Proofs.Try.f42 [[.int .i64 a], [.int .i64 b]] = some (o42 a b).2 := by
  refine (r42 a b _).trans ?_
  show _ = (some ([[.int .i64 (bif decide (a < b) then a else b)]], []) : Option (List Row × List Row))
  replace hpre : (true) = true := hpre
  cases decide (a < b) <;> rfl
theorem s42 : SoundAt Go.Proofs.Try.prog Hx 42 c42 := soundAt_of T8_sound mixed Go.Proofs.Try.func42 (by kernel_rfl) (by
  intro rows r h
  unfold c42 at h
  split at h
  · rename_i a b
    obtain ⟨hp, hr⟩ := Prod.mk.inj (Option.some.inj h)
    subst hr
    exact ⟨_, m42 a b hp⟩
  · cases h)
def T42 : Table := (42, c42) :: T8
theorem T42_sound : Table.Sound Go.Proofs.Try.prog Hx T42 := Table.sound_cons s42 T8_sound
/- l20Out -/
def o58 (n_ : Net) (b : Int) (but : Int) (far : Int) : Bool × List Row × List Row := (Net.small n_ && (netOk n_ && inR b 0 ((n_.Bridges.length : Int) - 1)), [[.sl true 3 (enS true (outV n_ b but far 0 (portsAt n_ b)))]], [])
def c58 : Contract
  | [[.sl false 2 n__Bridges, .sl false 4 n__Links], [.int .i64 b], [.int .i64 but], [.int .i64 far]] => some (isS Bridge false n__Bridges && isS Link false n__Links && (o58 ⟨(deS Bridge n__Bridges), (deS Link n__Links)⟩ b but far).1, (o58 ⟨(deS Bridge n__Bridges), (deS Link n__Links)⟩ b but far).2.1, (o58 ⟨(deS Bridge n__Bridges), (deS Link n__Links)⟩ b but far).2.2)
  | _ => none

def k58_0 (n : Nat) : Ex → St → RR := kThen (fun st ↦ runCode (Ctx.mk prog Hx (58)) (Table.call T42) n (codeAt [1, 1, 1] (bodyOf Go.Proofs.Try.f58)) (Lv.mk 256 [] 256) st (kLeave (Ctx.P (Ctx.mk prog Hx (58))) (List.zip (Array.toList (Go.Func.resultTypes Go.Proofs.Try.f58)) (Array.toList (Go.Func.results Go.Proofs.Try.f58))) [] [])) (kLeave (Ctx.P (Ctx.mk prog Hx (58))) (List.zip (Array.toList (Go.Func.resultTypes Go.Proofs.Try.f58)) (Array.toList (Go.Func.results Go.Proofs.Try.f58))) [] [])
def k58_1 (n : Nat) : Ex → St → RR := kBlock (0) (k58_0 n)
def S58_0 (n_ : Net) (b : Int) (but : Int) (far : Int) (i0 : Int) (es1 : List (List D)) : St := St.mk [U_, I_ b, I_ but, I_ far, TV.v false [C.ptr 0 0 0 [] 2 0 0], U_, U_, U_, U_, TV.v false [C.view 2 0 0 [] 3 none], I_ i0, U_, U_, U_, U_, U_, U_, U_, U_, U_, U_, U_, U_, U_, U_, U_, U_, U_, U_, U_, U_, U_, U_, U_, U_, U_, U_, U_, U_, U_, U_, U_, U_, U_, U_, U_, U_, U_] [Root.mk true 2 [[D.sl false 2 (enS false (Net.Bridges n_)), D.sl false 4 (enS false (Net.Links n_))]] 0 0 true true false, Root.mk false 3 [] 0 0 false true false, Root.mk false 3 es1 0 0 true true false]
def B58_0 (n : Nat) : St → (Ex → St → RR) → RR := runCode (Ctx.mk prog Hx (58)) (Table.call T42) n (codeAt [1, 1, 0, 1, 0, 0] (bodyOf Go.Proofs.Try.f58)) (Lv.mk 1566 [(0, 512)] 256)
def X58_2 (n_ : Net) (b : Int) (but : Int) (far : Int) (i0 : Int) (es1 : List (List D)) : St := St.mk [U_, I_ b, I_ but, I_ far, TV.v false [C.ptr 0 0 0 [] 2 0 0], U_, U_, U_, U_, TV.v false [C.view 2 0 0 [] 3 none], I_ i0, U_, U_, U_, U_, I_ i0, TV.v false [C.ptr 0 0 0 [] 2 0 0], TV.v false [C.d (D.sl false 2 (enS false (Net.Bridges n_)))], I_ b, TV.v false [C.rptr (getD (enS false (Net.Bridges n_)) (toNat b) [])], TV.v false [C.rptr (drop 1 (getD (enS false (Net.Bridges n_)) (toNat b) []))], TV.v false [C.d (D.sl false 11 (D.rows (getD (drop 1 (getD (enS false (Net.Bridges n_)) (toNat b) [])) 0 D.dead)))], I_ (ofNat (length (D.rows (getD (drop 1 (getD (enS false (Net.Bridges n_)) (toNat b) [])) 0 D.dead)))), B_ false, U_, U_, U_, U_, U_, U_, U_, U_, U_, U_, U_, U_, U_, U_, U_, U_, U_, U_, U_, U_, U_, U_, U_, U_] [Root.mk true 2 [[D.sl false 2 (enS false (Net.Bridges n_)), D.sl false 4 (enS false (Net.Links n_))]] 0 0 true true false, Root.mk false 3 [] 0 0 false true false, Root.mk false 3 es1 0 0 true true false]
theorem q58_0 (n_ : Net) (b : Int) (but : Int) (far : Int) (n : Nat) (i0 : Int) (es1 : List (List D)) (f : St → RR) (K : Ex → St → RR) : B58_0 n (S58_0 n_ b but far i0 es1) (kThen (fun st ↦ f (St.head 2 1566 140737488338432 st)) K) = bif decide (0 ≤ b) && decide (b < ofNat (length (enS false (Net.Bridges n_)))) then bif Leaf.fit false (Leaf.sl 11 true) (getD (drop 1 (getD (enS false (Net.Bridges n_)) (toNat b) [])) 0 D.dead) && true then bif decide (i0 < ofNat (length (D.rows (getD (drop 1 (getD (enS false (Net.Bridges n_)) (toNat b) [])) 0 D.dead)))) then bif isS Bridge false (enS false (Net.Bridges n_)) && isS Link false (enS false (Net.Links n_)) && netIn (Net.mk (deS Bridge (enS false (Net.Bridges n_))) (deS Link (enS false (Net.Links n_)))) then bif Prod.snd (acrS (Net.mk (deS Bridge (enS false (Net.Bridges n_))) (deS Link (enS false (Net.Links n_)))) (TEnd.mk b i0) (deS Link (enS false (Net.Links n_)))) then bif i0 != but then bif decide ((length es1 + 1) * 24 ≤ 140737488355328) then f (S58_0 n_ b but far (wrap i64 (i0 + 1)) (append es1 [[D.int i64 (TEnd.bridge (Prod.fst (acrS (Net.mk (deS Bridge (enS false (Net.Bridges n_))) (deS Link (enS false (Net.Links n_)))) (TEnd.mk b i0) (deS Link (enS false (Net.Links n_)))))), D.int i64 (TEnd.port (Prod.fst (acrS (Net.mk (deS Bridge (enS false (Net.Bridges n_))) (deS Link (enS false (Net.Links n_)))) (TEnd.mk b i0) (deS Link (enS false (Net.Links n_)))))), D.int i64 far]])) else none else f (S58_0 n_ b but far (wrap i64 (i0 + 1)) es1) else f (S58_0 n_ b but far (wrap i64 (i0 + 1)) es1) else none else K (Ex.exit 0) (X58_2 n_ b but far i0 es1) else none else none := by kernel_rfl
theorem aX58_2 (n_ : Net) (b : Int) (but : Int) (far : Int) (n : Nat) (i0 : Int) (es1 : List (List D)) : k58_1 n (Ex.exit 0) (X58_2 n_ b but far i0 es1) = some ([[D.sl true 3 es1]], []) := by kernel_rfl
theorem r58 (n_ : Net) (b : Int) (but : Int) (far : Int) (n : Nat) : evFn ⟨prog, Hx, 58⟩ T42.call n Go.Proofs.Try.f58 [[.sl false 2 (enS false n_.Bridges), .sl false 4 (enS false n_.Links)], [.int .i64 b], [.int .i64 but], [.int .i64 far]] = loopRun (B58_0 n) 2 1566 140737488338432 n (S58_0 n_ b but far (0) []) (k58_1 n) := by kernel_rfl
theorem m58 (n_ : Net) (b : Int) (but : Int) (far : Int) (hpre : (o58 n_ b but far).1 = true) : evFn ⟨Go.Proofs.Try.prog, Hx, 58⟩ T42.call 1048577 Go.Proofs.Try.f58 [[.sl false 2 (enS false n_.Bridges), .sl false 4 (enS false n_.Links)], [.int .i64 b], [.int .i64 but], [.int .i64 far]] = some (o58 n_ b but far).2 := by
  refine (r58 n_ b but far _).trans ?_
  show _ = (some ([[.sl true 3 (enS true (outV n_ b but far 0 (portsAt n_ b)))]], []) : Option (List Row × List Row))
  replace hpre : (Net.small n_ && (netOk n_ && inR b 0 ((n_.Bridges.length : Int) - 1))) = true := hpre
  rw [Bool.and_eq_true, Bool.and_eq_true] at hpre
  obtain ⟨hs, hok, hb⟩ := hpre
  obtain ⟨a, ha, rfl⟩ := in_nat hb
  have hni := netOk_in hs hok
  obtain ⟨hs1, hs2, hs3⟩ := net_small hs
  have hl := hs2 _ (List.getElem_mem ha)
  have hpt : portsAt n_ (Int.ofNat a) = n_.Bridges[a].Ports := portsAt_nat n_ a ha
  rw [hpt]
  refine loop_list (xs := n_.Bridges[a].Ports) (fun i (acc : List Visit) => S58_0 n_ (Int.ofNat a) but far (Int.ofNat i) (enS true acc)) (fun i acc => acc.length ≤ i) (fun i acc rest => some ([[D.sl true 3 (enS true (acc ++ outV n_ (Int.ofNat a) but far (Int.ofNat i) rest))]], [])) ?_ ?_ 1048577 [] (by omega) (Nat.le_refl _)
  · rintro acc hacc f
    refine (q58_0 n_ _ _ _ _ _ _ f _).trans ?_
    simp only [enS_length, toNat_of, dec_lt, dec_ge, decide_true, decide_false, cond_true, cond_false, Bool.and_self, Bool.and_true, Bool.true_and, Bool.not_true, Bool.not_false, Nat.lt_irrefl, Nat.zero_add, isS_enS, deS_enS, isS_nil, deS_nil, List.nil_append, lendRows_enS, deepRows_enS, noSl_u8, En.enc, List.getD_cons_zero, List.getD_cons_succ, D.num, D.flag, D.text, D.rows, Leaf.fit, List.append_eq, TReader.eta, Frame.eta, Heard.eta, Member.eta, Card.eta, Out1.eta, Vec.eta, Port.eta, Bridge.eta, In.eta, Out.eta, Link.eta, Net.eta, TEnd.eta, Minder.eta, Reg.eta, Wire.eta, Box.eta, Deed.eta, Bpdu.eta, Visit.eta, Fabric.eta, Got.eta, TRide.eta, Up.eta, Copy.eta, Bucket.eta, Snap.eta, TL9Cur.eta, TL21In.eta, enS_get _ ha, ha, List.drop_succ_cons, List.drop_zero, beq_self_eq_true]
    refine (aX58_2 n_ _ _ _ _ _ _).trans ?_
    rw [show outV n_ (Int.ofNat a) but far (Int.ofNat n_.Bridges[a].Ports.length) [] = [] from rfl, List.append_nil]
  · rintro i acc hi hacc f hf
    refine (q58_0 n_ _ _ _ _ _ _ f _).trans ?_
    have hr : decide ((acc.length + 1) * 24 ≤ 140737488355328) = true := decide_eq_true (by omega)
    have hc : Int.ofNat i + 1 = Int.ofNat (i + 1) := rfl
    simp only [enS_length, toNat_of, dec_lt, dec_ge, decide_true, decide_false, cond_true, cond_false, Bool.and_self, Bool.and_true, Bool.true_and, Bool.not_true, Bool.not_false, Nat.lt_irrefl, Nat.zero_add, isS_enS, deS_enS, isS_nil, deS_nil, List.nil_append, lendRows_enS, deepRows_enS, noSl_u8, En.enc, List.getD_cons_zero, List.getD_cons_succ, D.num, D.flag, D.text, D.rows, Leaf.fit, List.append_eq, TReader.eta, Frame.eta, Heard.eta, Member.eta, Card.eta, Out1.eta, Vec.eta, Port.eta, Bridge.eta, In.eta, Out.eta, Link.eta, Net.eta, TEnd.eta, Minder.eta, Reg.eta, Wire.eta, Box.eta, Deed.eta, Bpdu.eta, Visit.eta, Fabric.eta, Got.eta, TRide.eta, Up.eta, Copy.eta, Bucket.eta, Snap.eta, TL9Cur.eta, TL21In.eta, enS_get _ hi, hi, wrap_succ (show i < 4611686018427387904 by omega), enS_get _ ha, ha, List.drop_succ_cons, List.drop_zero, beq_self_eq_true, hni, hr, acr_across hok]
    simp only [outV]
    rw [hc]
    have hx : (Int.ofNat i != but) = !(Int.ofNat i == but) := rfl
    simp only [hx]
    cases h1 : (acrossB n_ ⟨Int.ofNat a, Int.ofNat i⟩).2
    · simp only [cond_false]
      refine (hf acc (by omega)).trans ?_
      cases Int.ofNat i == but <;> rfl
    · simp only [cond_true, h1]
      cases h2 : Int.ofNat i == but
      · simp only [Bool.not_false, cond_true, cond_false]
        refine (congrArg f (congrArg (S58_0 n_ _ _ _ _) ?_)).trans ((hf (acc ++ [⟨(acrossB n_ ⟨Int.ofNat a, Int.ofNat i⟩).1.bridge, (acrossB n_ ⟨Int.ofNat a, Int.ofNat i⟩).1.port, far⟩]) (by simp; omega)).trans ?_)
        · exact (enS_append true acc [⟨(acrossB n_ ⟨Int.ofNat a, Int.ofNat i⟩).1.bridge, (acrossB n_ ⟨Int.ofNat a, Int.ofNat i⟩).1.port, far⟩]).symm
        · rw [List.append_assoc]
      · simp only [Bool.not_true, cond_false, cond_true, List.nil_append]
        exact hf acc (by omega)
theorem s58 : SoundAt Go.Proofs.Try.prog Hx 58 c58 := soundAt_of T42_sound mixed Go.Proofs.Try.func58 (by kernel_rfl) (by
  intro rows r h
  unfold c58 at h
  split at h
  · rename_i n__Bridges n__Links b but far
    obtain ⟨hp, hr⟩ := Prod.mk.inj (Option.some.inj h)
    subst hr
    simp only [Bool.and_eq_true] at hp
    obtain ⟨⟨hs0, hs1⟩, hp⟩ := hp
    obtain ⟨xs0, rfl⟩ := isS_ex hs0
    obtain ⟨xs1, rfl⟩ := isS_ex hs1
    simp only [deS_enS] at hp ⊢
    exact ⟨_, m58 ⟨xs0, xs1⟩ b but far hp⟩
  · cases h)
def T58 : Table := (58, c58) :: T42
theorem T58_sound : Table.Sound Go.Proofs.Try.prog Hx T58 := Table.sound_cons s58 T42_sound
end Go.Ev
end
