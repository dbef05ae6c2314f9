/- A row of a root, some cells of which are written anew by somebody. -/
import Derived.Test.YtkkpblhaeliofaaEvEffAll
namespace Go.Ev
open Go.RowKit
set_option linter.unusedVariables false
set_option linter.unusedSimpArgs false
def putRoot (x : Root) (q : Path) (i j n : Nat) (ds : List D) : Root :=
  { x with es := modAt (fun rows => rows.set i (newRow rows i j n ds)) x.es q, gh := bif ds.all D.noSl then x.gh else x.gh + 1 }
theorem focus_top {w : World} {S : FP} {n0 : Nat} {es0 : List (List D)} {B0 off0 len0 cap0 : Nat} {q : Path} {d' : D} {v' : Value} {R : FP}
    (hh : HeadAt w (.sl true n0 es0) (.slice (some ⟨B0, off0, none⟩) len0 cap0) q d' v') (hq : q ≠ []) (hv : v'.oneCell' = true)
    (back : ∀ {w' : World} {S' : FP} {d2 : D} {G' : FP}, (∀ b, S b → S' b ∧ w'.heap[b]? = w.heap[b]?) → (∀ b, R b → w'.heap[b]? = w.heap[b]?) → repD w' S' d2 v' G' → (∀ b, G' b → ¬ R b) →
        repD w' S' (putD (.sl true n0 es0) q d2) (.slice (some ⟨B0, off0, none⟩) len0 cap0) (fun b => G' b ∨ R b) ∧ HeadAt w' (putD (.sl true n0 es0) q d2) (.slice (some ⟨B0, off0, none⟩) len0 cap0) q d2 v') : R B0 := by
  obtain ⟨h, _⟩ := back (w' := w) (S' := S) (d2 := .dead) (G' := fun _ => False) (fun b hb => ⟨hb, rfl⟩) (fun b hb => rfl) ⟨hv, fun _ h => h⟩ (fun b hb => hb.elim)
  rw [killAt_put hh hq rfl] at h
  obtain ⟨F', _, _, _, _, hF, _⟩ := rep_some h
  exact ((hF B0).2 (.inl rfl)).resolve_left (fun h => h)
theorem put_root {w : World} {S F : FP} {x : Root} {hd : Value} {q : Path} {n i j m : Nat} {es : List (List D)} {B off cap : Nat} (hrep : repD w S (rootD x) hd F)
    (hh : HeadAt w (rootD x) hd q (.sl true n es) (.slice (some ⟨B, off, none⟩) es.length cap)) (hi : i < es.length) (hj : j + m ≤ n) (hSF : ∀ b, F b → ¬ S b) (hz : x.frz = false) :
    ∃ Go Ro : FP, repRow w S (((es.getD i []).drop j).take m) B (off + i * n + j) Go ∧ ownBlk w B (off + i * n + j + m) ∧ ¬ Go B ∧ ¬ Ro B ∧ (∀ b, F b ↔ b = B ∨ Go b ∨ Ro b) ∧ (∀ b, Go b → ¬ Ro b) ∧ (((es.getD i []).drop j).take m).length = m ∧
      ∀ {w' : World} {ds : List D} {G : FP}, ds.length = m → (∀ b, S b → w'.heap[b]? = w.heap[b]?) → (∀ b, Ro b → w'.heap[b]? = w.heap[b]?) → Within w w' (.slice (some ⟨B, off + i * n + j, none⟩) 1 1) m →
        repRow w' S ds B (off + i * n + j) G → (∀ b, G b → b ≠ B ∧ ¬ Ro b) →
        repD w' S (rootD (putRoot x q i j n ds)) hd (fun b => b = B ∨ G b ∨ Ro b) ∧ (putRoot x q i j n ds).es.length = x.es.length ∧
        ((ds.all D.noSl = true → ∀ b, F b → b ≠ B → w'.heap[b]? = w.heap[b]?) → Keeps w w' x (putRoot x q i j n ds) hd hd) ∧
        Within w w' hd (x.es.length * x.sz) := by
  obtain ⟨G0, R0, hG0, hF0, hd0, back0⟩ := focusPath hh hrep
  obtain ⟨F', _, hcap, hrows, hnB, hGB, ⟨cs, t, hblk, hsize⟩, hc63⟩ := rep_some hG0
  obtain ⟨Gr, Rr, hrl, hrow, hFr, hdr, back1⟩ := focusRows i hrows hi
  obtain ⟨Go, Ro, hold, hFo, hdo, back2⟩ := focusSplice (j := j) (n := m) hrow (by omega)
  have hmul : i * n + n ≤ es.length * n := by
    have := Nat.mul_le_mul_right n (show i + 1 ≤ es.length from hi)
    rw [Nat.add_mul] at this
    omega
  have hmul2 : es.length * n ≤ cap * n := Nat.mul_le_mul_right n hcap
  have hRB : ∀ b, (Ro b ∨ Rr b ∨ R0 b) → b ≠ B := by
    rintro b (hb | hb | hb) rfl
    · exact hnB ((hFr _).2 (.inl ((hFo _).2 (.inr hb))))
    · exact hnB ((hFr _).2 (.inr hb))
    · exact hd0 _ ((hGB _).2 (.inl rfl)) hb
  refine ⟨Go, fun b => Ro b ∨ Rr b ∨ R0 b, hold, ⟨cs, t, hblk, by omega⟩, fun hb => hnB ((hFr B).2 (.inl ((hFo B).2 (.inl hb)))), fun hb => hRB B hb rfl, fun b => ?_, fun b hb hb' => ?_, by rw [List.length_take, List.length_drop, hrl]; omega, ?_⟩
  · rw [hF0 b, hGB b, hFr b, hFo b]
    constructor
    · rintro ((h | (h | h) | h) | h) <;> simp [h]
    · rintro (h | h | h | h | h) <;> simp [h]
  · rcases hb' with hb' | hb' | hb'
    · exact hdo b hb hb'
    · exact hdr b ((hFo b).2 (.inl hb)) hb'
    · exact hd0 b ((hGB b).2 (.inr ((hFr b).2 (.inl ((hFo b).2 (.inl hb)))))) hb'
  · intro w' ds G hlen hS0 hR hW hnew hG
    have hS : ∀ b, S b → S b ∧ w'.heap[b]? = w.heap[b]? := fun b hb => ⟨hb, hS0 b hb⟩
    obtain ⟨cs', hc4, hc5, hc6⟩ := hW B _ 1 1 rfl cs t _ hblk
    have hc2 : ∀ k, ¬ (off + i * n + j ≤ k ∧ k < off + i * n + j + m) → w'.cell? ⟨B, k, none⟩ = w.cell? ⟨B, k, none⟩ := by
      intro k hk
      unfold World.cell?
      simp only [hc4, hblk]
      exact hc6 k hk
    have hrow' := back2 (w' := w') (S' := S) (ds := ds) (G' := G) hlen hS (fun b hb => hR b (.inl hb)) (fun k hk hnk => hc2 _ (fun h => hnk ⟨by omega, by omega⟩)) hnew (fun b hb hb' => (hG b hb).2 (.inl hb'))
    have hrows' := back1 (w' := w') (S' := S) hS (fun b hb => hR b (.inr (.inl hb))) (fun k hk hnk => hc2 _ (fun h => hnk ⟨by omega, by omega⟩)) (by rw [splice_length _ _ _ (by omega), hrl]) hrow'
      (fun b hb hb' => by
        rcases hb with hb | hb
        · exact (hG b hb).2 (.inr (.inl hb'))
        · exact hdr b ((hFo b).2 (.inr hb)) hb')
    have hnr : newRow es i j n ds = splice (es.getD i []) j ds := newRow_splice hrl
    rw [← hnr] at hrows'
    have hrepN : repD w' S (.sl true n (es.set i (newRow es i j n ds))) (.slice (some ⟨B, off, none⟩) es.length cap) (fun b => b = B ∨ ((G b ∨ Ro b) ∨ Rr b)) := by
      refine ⟨some ⟨B, off, none⟩, cap, by rw [List.length_set], by rw [List.length_set]; exact hcap, .inr ⟨B, off, _, rfl, hrows', .inl ⟨rfl, ?_, fun b => Iff.rfl, ⟨cs', t, hc4, by omega⟩, hc63⟩⟩⟩
      rintro ((hb | hb) | hb)
      · exact (hG B hb).1 rfl
      · exact hRB B (.inl hb) rfl
      · exact hRB B (.inr (.inl hb)) rfl
    obtain ⟨hrepR, _⟩ := back0 (w' := w') hS (fun b hb => hR b (.inr (.inr hb))) hrepN (fun b hb hb' => by
      rcases hb with rfl | ((hb | hb) | hb)
      · exact hd0 _ ((hGB _).2 (.inl rfl)) hb'
      · exact (hG b hb).2 (.inr (.inr hb'))
      · exact hd0 b ((hGB b).2 (.inr ((hFr b).2 (.inl ((hFo b).2 (.inr hb)))))) hb'
      · exact hd0 b ((hGB b).2 (.inr ((hFr b).2 (.inr hb)))) hb')
    have hput := modAt_put hh (fun rows => rows.set i (newRow rows i j n ds)) rfl (rfl : rootD x = .sl true x.sz x.es)
    rw [hput] at hrepR
    have hmodl : (modAt (fun rows => rows.set i (newRow rows i j n ds)) x.es q).length = x.es.length := modAt_length _ (fun xs => List.length_set ..) _ _
    refine ⟨repD_fp hrepR (fun b => ?_), hmodl, fun hsame => ?_, ?_⟩
    · constructor
      · rintro ((h | (h | h) | h) | h) <;> simp [h]
      · rintro (h | h | h | h | h) <;> simp [h]
    · intro hb
      refine ⟨⟨hb, ?_⟩, fun ga gh q' hg ho hp => ?_, KeepF.no hz⟩
      · show x.gh ≤ (bif ds.all D.noSl then x.gh else x.gh + 1)
        cases ds.all D.noSl <;> simp
      cases hall : ds.all D.noSl with
      | true =>
        have ho' : okView x ga gh q' = true := by
          unfold okView putRoot at ho
          simp only [hall, cond_true] at ho
          exact ho
        obtain ⟨k1, k2⟩ := headAt_store (w := w) (w' := w') (S := S) (n1 := n) (j0 := j) hall hi (by omega) (fun k' hk' => hc2 k' (by rw [← hlen]; exact hk')) hh rfl rfl (rfl : rootD x = _) hrep (hsame hall) hp
        exact ⟨ho', k1, fun sz es2 u hh2 => k2 hh2⟩
      | false =>
        have hq : q' = [] := by
          unfold okView putRoot at ho
          simp only [hall, cond_false, Bool.and_eq_true, Bool.or_eq_true, beq_iff_eq, List.isEmpty_iff] at ho
          rcases ho.2 with h | h
          · exact h
          · omega
        subst hq
        refine ⟨?_, rfl, fun sz es2 u hh2 => ?_⟩
        · unfold okView putRoot at ho
          unfold okView
          simp only [Bool.and_eq_true, Bool.or_eq_true, beq_iff_eq, List.isEmpty_nil, true_or, and_true] at ho ⊢
          exact ho
        · obtain ⟨a1, a2⟩ := headAt_nil hh2
          injection a1 with _ a3 a4
          subst a3 a4 a2
          exact ⟨_, hmodl, .nil _ _⟩
    · intro B' off' len' cap' he cs0 t0 f0 hc0
      cases q with
      | nil =>
        obtain ⟨a1, a2⟩ := headAt_nil hh
        rw [he] at a2
        injection a2 with a2
        injection a2 with a2
        injection a2 with a4 a5
        injection a1 with _ a6 a7
        subst a4
        rw [hblk] at hc0
        injection hc0 with hc0
        injection hc0 with g1 g2 g3
        subst g1 g2 g3
        refine ⟨cs', hc4, hc5, fun y hy => hc6 y (fun hin => hy ?_)⟩
        rw [← a7, ← a6, ← a5]
        omega
      | cons y q =>
        have hh' := hh
        unfold rootD at hh' back0
        rw [he] at hh' back0
        have hRB' := focus_top hh' (by simp) rfl back0
        exact ⟨cs0, (hR B' (.inr (.inr hRB'))).trans hc0, rfl, fun _ _ => rfl⟩
end Go.Ev
