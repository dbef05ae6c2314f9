/- A call's return, on the caller's side: roots that were out come back. -/
import Derived.Test.YtkkpblhaeliofaaEvArgs
import Derived.Test.YtkkpblhaeliofaaEvOpEff
namespace Go.Ev
open Go.RowKit
set_option linter.unusedVariables false
set_option linter.unusedSimpArgs false
section
variable {w w' : World} {S : FP}
theorem revive {M : Mem} {L : Lay} {r : Nat} {x : Root} {hd : Value} {F : FP} (hm : MemRep w S M L) (hdead : (M r).live = false) (hb : x.born = true) (hr : repD w S (rootD x) hd F)
    (hF : ∀ b, F b → b < w.heap.size ∧ ¬ S b) (hd2 : ∀ k, (M k).live = true → ∀ b, F b → ¬ L.fp k b) :
    MemRep w S (fun k => if k = r then x else M k) ⟨fun k => if k = r then hd else L.hd k, fun k => if k = r then F else L.fp k⟩ := by
  refine ⟨fun k hk => ?_, fun k hk => ?_, fun k hk b hb => ?_, fun k k' hk hk' hne b hb hb' => ?_, hm.lent⟩
  · by_cases hkn : k = r
    · subst hkn; simp only [if_true]; exact hr
    · simp only [if_neg hkn] at hk ⊢; exact hm.rep k hk
  · by_cases hkn : k = r
    · subst hkn; simp only [if_true]; exact hb
    · simp only [if_neg hkn] at hk ⊢; exact hm.born k hk
  · by_cases hkn : k = r
    · subst hkn; simp only [if_true] at hb; exact hF b hb
    · simp only [if_neg hkn] at hk hb; exact hm.own k hk b hb
  · by_cases hkn : k = r
    · by_cases hkn' : k' = r
      · exact hne (hkn.trans hkn'.symm)
      · subst hkn
        simp only [if_true] at hb
        simp only [if_neg hkn'] at hk' hb'
        exact hd2 k' hk' b hb hb'
    · simp only [if_neg hkn] at hk hb
      by_cases hkn' : k' = r
      · subst hkn'
        simp only [if_true] at hb'
        exact hd2 k hk b hb' hb
      · simp only [if_neg hkn'] at hk' hb'
        exact hm.apart k k' hk hk' hne b hb hb'
def holes (M : Mem) (X : List Nat) : Mem := fun r => if r ∈ X then { M r with live := false } else M r
theorem holes_live {M : Mem} {X : List Nat} {r : Nat} (h : (holes M X r).live = true) : r ∉ X ∧ (M r).live = true ∧ holes M X r = M r := by
  unfold holes at h ⊢
  by_cases hr : r ∈ X
  · rw [if_pos hr] at h; cases h
  · rw [if_neg hr] at h ⊢; exact ⟨hr, h, rfl⟩
theorem holes_rep {M : Mem} {L : Lay} {X : List Nat} (hm : MemRep w S M L) (hsz : w.heap.size ≤ w'.heap.size) (hS : ∀ b, S b → w'.heap[b]? = w.heap[b]?) (hR : ∀ r, r ∉ X → (M r).live = true → ∀ b, L.fp r b → w'.heap[b]? = w.heap[b]?) :
    MemRep w' S (holes M X) L := by
  refine ⟨fun r hr => ?_, fun r hr => ?_, fun r hr b hb => ?_, fun r r' hr hr' hne => ?_, fun b hb => Nat.lt_of_lt_of_le (hm.lent b hb) hsz⟩
  · obtain ⟨h1, h2, h3⟩ := holes_live hr
    rw [h3]
    exact repD_stay (fun b hb => ⟨hb, hS b hb⟩) (hm.rep r h2) (hR r h1 h2)
  · obtain ⟨h1, h2, h3⟩ := holes_live hr
    rw [h3]; exact hm.born r h2
  · obtain ⟨h1, h2, h3⟩ := holes_live hr
    have := hm.own r h2 b hb
    exact ⟨Nat.lt_of_lt_of_le this.1 hsz, this.2⟩
  · obtain ⟨h1, h2, h3⟩ := holes_live hr
    obtain ⟨h1', h2', h3'⟩ := holes_live hr'
    exact hm.apart r r' h2 h2' hne
def Handed (P : Program) (w : World) (S Sc : FP) (M1 : Mem) (L1 : Lay) (t : TypeId) (o : Bool) (tv : TV) (row : List D) (v : Value) (F : FP) : Prop :=
  ∃ (r ga gh : Nat) (q : Path) (n i j B c : Nat) (Go Ro : FP), tv = .v false [.ptr r ga gh q n i j] ∧ okView (M1 r) ga gh q = true ∧ v = .pointer (some ⟨B, c, none⟩) ∧ row.length = P.cellsOf (elemOf P t) ∧ argRep P w Sc t (.inout o) row v F ∧
    (∀ b, F b ↔ b = B ∨ Go b) ∧ (∀ b, L1.fp r b ↔ F b ∨ Ro b) ∧ (∀ b, F b → ¬ Ro b) ∧ ((leaves P 9 (elemOf P t)).any Leaf.isSl = true ∨ ∀ b, ¬ Go b) ∧
    ∀ {w' : World} {ds : List D} {G : FP}, ds.length = row.length → (∀ b, S b → w'.heap[b]? = w.heap[b]?) → (∀ b, Ro b → w'.heap[b]? = w.heap[b]?) → Within w w' (.slice (some ⟨B, c, none⟩) 1 1) row.length →
        repRow w' S ds B c G → (∀ b, G b → b ≠ B ∧ ¬ Ro b) →
        repD w' S (rootD (putRoot (M1 r) q i j n ds)) (L1.hd r) (fun b => b = B ∨ G b ∨ Ro b) ∧ (putRoot (M1 r) q i j n ds).es.length = (M1 r).es.length ∧
        ((ds.all D.noSl = true → ∀ b, L1.fp r b → b ≠ B → w'.heap[b]? = w.heap[b]?) → Keeps w w' (M1 r) (putRoot (M1 r) q i j n ds) (L1.hd r) (L1.hd r)) ∧
        Within w w' (L1.hd r) ((M1 r).es.length * (M1 r).sz)
theorem noSl_rep : ∀ {ds : List D} {B off : Nat} {F : FP}, repRow w S ds B off F → ds.all D.noSl = true → ∀ b, ¬ F b := by
  intro ds B off F h hn
  obtain ⟨vs, h1, _⟩ := row_dat h
  exact datRep_plain h1 hn
theorem handed {P : Program} {Sc : FP} {M1 : Mem} {L1 : Lay} {t : TypeId} {o : Bool} {tv : TV} {row : List D} {v : Value} {G : FP} (hm : MemRep w S M1 L1) (hS : ∀ b, S b → Sc b) (h : argDone P w S Sc M1 L1 t (.inout o) tv row v G) : ∃ F, Handed P w S Sc M1 L1 t o tv row v F := by
  obtain ⟨_, r, ga, gh, q, n, i, j, es, B, off, cap, rfl, hok, hh, hi, hj, hrow, rfl, hfl⟩ := h
  have hl := okView_live hok
  obtain ⟨Go, Ro, k1, k2, k3, k4, k5, k6, k7, back⟩ := put_root (hm.rep r hl) hh hi hj (fun b hb => (hm.own r hl b hb).2) (okView_frz hok)
  subst hrow
  refine ⟨fun b => b = B ∨ Go b, r, ga, gh, q, n, i, j, B, off + i * n + j, Go, Ro, rfl, hok, rfl, k7, ⟨B, _, Go, rfl, repRow_stay (fun b hb => ⟨hS b hb, rfl⟩) k1 (fun b _ => rfl) rfl, k3, fun b => Iff.rfl, by rw [k7]; exact k2⟩, fun b => Iff.rfl, fun b => ?_, fun b hb => ?_, hfl.imp id (fun h => noSl_rep k1 h), ?_⟩
  · rw [k5 b]; exact or_assoc.symm
  · rcases hb with rfl | hb
    · exact k4
    · exact k6 b hb
  · intro w' ds G hlen h1 h2 h3 h4 h5
    exact back (by rw [hlen, k7]) h1 h2 (by rw [k7] at h3; exact h3) h4 h5
def inRoots : List (Mode × TypeId) → List TV → List Nat
  | (.inout _, _) :: ms, v :: vs => v.roots ++ inRoots ms vs
  | _ :: ms, _ :: vs => inRoots ms vs
  | _, _ => []
def inApart : List (Mode × TypeId) → List TV → Prop
  | (.inout _, _) :: ms, v :: vs => (∀ r ∈ v.roots, r ∉ inRoots ms vs) ∧ inApart ms vs
  | _ :: ms, _ :: vs => inApart ms vs
  | _, _ => True
def argsOut (P : Program) (w : World) (S Sc : FP) (M1 : Mem) (L1 : Lay) : List (Mode × TypeId) → List TV → List (List D) → List Value → FP → Prop
  | [], [], [], [], F => ∀ b, ¬ F b
  | (.inout o, t) :: ms, tv :: tvs, row :: rows, v :: vs, F => ∃ F1 F2, Handed P w S Sc M1 L1 t o tv row v F1 ∧ argsOut P w S Sc M1 L1 ms tvs rows vs F2 ∧ (∀ b, F b ↔ F1 b ∨ F2 b) ∧ ∀ b, F1 b → ¬ F2 b
  | (m, t) :: ms, tv :: tvs, row :: rows, v :: vs, F => ∃ F1 F2, argDone P w S Sc M1 L1 t m tv row v F1 ∧ argsOut P w S Sc M1 L1 ms tvs rows vs F2 ∧ (∀ b, F b ↔ F1 b ∨ F2 b) ∧ ∀ b, F1 b → ¬ F2 b
  | _, _, _, _, _ => False
theorem args_ready {P : Program} {Sc : FP} {M1 : Mem} {L1 : Lay} (hm : MemRep w S M1 L1) (hS : ∀ b, S b → Sc b) : ∀ {mts : List (Mode × TypeId)} {tvs : List TV} {rows : List (List D)} {vs : List Value} {G : FP}, inApart mts tvs → argsDone P w S Sc M1 L1 mts tvs rows vs G →
    (∀ b, G b → b < w.heap.size ∧ ¬ S b ∧ ∀ r, (M1 r).live = true → ¬ L1.fp r b) →
    ∃ F, argsOut P w S Sc M1 L1 mts tvs rows vs F ∧ argsRep P w Sc mts rows vs F ∧ ∀ b, F b → G b ∨ ∃ r, r ∈ inRoots mts tvs ∧ (M1 r).live = true ∧ L1.fp r b
  | [], [], [], [], G, _, h, _ => ⟨fun _ => False, fun _ h => h, fun _ h => h, fun _ h => h.elim⟩
  | (.inout o, t) :: ms, tv :: tvs, row :: rows, v :: vs, G, hap, h, hG => by
    obtain ⟨G1, G2, h1, h2, h3, h4⟩ := h
    obtain ⟨F2, a1, a2, a3⟩ := args_ready hm hS hap.2 h2 (fun b hb => hG b ((h3 b).2 (.inr hb)))
    obtain ⟨F1, hh⟩ := handed hm hS h1
    have hh' := hh
    obtain ⟨r, ga, gh, q, n, i, j, B, c, Go, Ro, rfl, hok, rfl, _, harg, hFB, hfp, _⟩ := hh'
    have hl := okView_live hok
    have hr : r ∈ (TV.v false [C.ptr r ga gh q n i j]).roots := by simp [TV.roots, C.roots]
    have hdis : ∀ b, F1 b → ¬ F2 b := fun b hb hb2 => by
      have hf : L1.fp r b := (hfp b).2 (.inl hb)
      rcases a3 b hb2 with hg | ⟨r', hr', hl', hf'⟩
      · exact (hG b ((h3 b).2 (.inr hg))).2.2 r hl hf
      · exact hm.apart r r' hl hl' (fun he => hap.1 r hr (he ▸ hr')) b hf hf'
    refine ⟨fun b => F1 b ∨ F2 b, ⟨F1, F2, hh, a1, fun b => Iff.rfl, hdis⟩, ⟨F1, F2, harg, a2, fun b => Iff.rfl, hdis⟩, fun b hb => ?_⟩
    rcases hb with hb | hb
    · exact .inr ⟨r, by unfold inRoots; exact List.mem_append_left _ hr, hl, (hfp b).2 (.inl hb)⟩
    · rcases a3 b hb with hg | ⟨r', hr', hl', hf'⟩
      · exact .inl ((h3 b).2 (.inr hg))
      · exact .inr ⟨r', by unfold inRoots; exact List.mem_append_right _ hr', hl', hf'⟩
  | (.lend, t) :: ms, tv :: tvs, row :: rows, v :: vs, G, hap, h, hG => by
    obtain ⟨G1, G2, h1, h2, h3, h4⟩ := h
    obtain ⟨F2, a1, a2, a3⟩ := args_ready hm hS (mts := ms) (tvs := tvs) hap h2 (fun b hb => hG b ((h3 b).2 (.inr hb)))
    refine ⟨fun b => G1 b ∨ F2 b, ⟨G1, F2, h1, a1, fun b => Iff.rfl, fun b hb => absurd hb (h1.1 b)⟩, ⟨G1, F2, h1, a2, fun b => Iff.rfl, fun b hb => absurd hb (h1.1 b)⟩, fun b hb => ?_⟩
    rcases hb with hb | hb
    · exact absurd hb (h1.1 b)
    · exact (a3 b hb).imp (fun hg => (h3 b).2 (.inr hg)) id
  | (.ro, t) :: ms, tv :: tvs, row :: rows, v :: vs, G, hap, h, hG => by
    obtain ⟨G1, G2, h1, h2, h3, h4⟩ := h
    obtain ⟨F2, a1, a2, a3⟩ := args_ready hm hS (mts := ms) (tvs := tvs) hap h2 (fun b hb => hG b ((h3 b).2 (.inr hb)))
    refine ⟨fun b => G1 b ∨ F2 b, ⟨G1, F2, h1, a1, fun b => Iff.rfl, fun b hb => absurd hb (h1.1 b)⟩, ⟨G1, F2, h1, a2, fun b => Iff.rfl, fun b hb => absurd hb (h1.1 b)⟩, fun b hb => ?_⟩
    rcases hb with hb | hb
    · exact absurd hb (h1.1 b)
    · exact (a3 b hb).imp (fun hg => (h3 b).2 (.inr hg)) id
  | (.give, t) :: ms, tv :: tvs, row :: rows, v :: vs, G, hap, h, hG => by
    obtain ⟨G1, G2, h1, h2, h3, h4⟩ := h
    obtain ⟨F2, a1, a2, a3⟩ := args_ready hm hS (mts := ms) (tvs := tvs) hap h2 (fun b hb => hG b ((h3 b).2 (.inr hb)))
    have hdis : ∀ b, G1 b → ¬ F2 b := fun b hb hb2 => by
      rcases a3 b hb2 with hg | ⟨r', hr', hl', hf'⟩
      · exact h4 b hb hg
      · exact (hG b ((h3 b).2 (.inl hb))).2.2 r' hl' hf'
    have hsc : datRep w Sc row v.cells.toList G1 := by
      have : ∀ {ds : List D} {us : List Value} {F : FP}, datRep w S ds us F → datRep w Sc ds us F := by
        intro ds
        induction ds with
        | nil => intro us F h; cases us <;> exact h
        | cons d ds ih =>
          intro us F h
          cases us with
          | nil => exact h
          | cons u us =>
            obtain ⟨A1, A2, b1, b2, b3, b4⟩ := h
            exact ⟨A1, A2, repD_stay (fun b hb => ⟨hS b hb, rfl⟩) b1 (fun b _ => rfl), ih b2, b3, b4⟩
      exact this h1.2.1
    refine ⟨fun b => G1 b ∨ F2 b, ⟨G1, F2, h1, a1, fun b => Iff.rfl, hdis⟩, ⟨G1, F2, ⟨h1.1, hsc⟩, a2, fun b => Iff.rfl, hdis⟩, fun b hb => ?_⟩
    rcases hb with hb | hb
    · exact .inl ((h3 b).2 (.inl hb))
    · exact (a3 b hb).imp (fun hg => (h3 b).2 (.inr hg)) id
  | [], _ :: _, _, _, _, _, h, _ => h.elim
  | [], [], _ :: _, _, _, _, h, _ => h.elim
  | [], [], [], _ :: _, _, _, h, _ => h.elim
  | _ :: _, [], _, _, _, _, h, _ => h.elim
  | _ :: _, _ :: _, [], _, _, _, h, _ => h.elim
  | _ :: _, _ :: _, _ :: _, [], _, _, h, _ => h.elim
end
end Go.Ev
