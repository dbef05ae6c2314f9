/- What an operation makes of memory, and storing. -/
import Derived.Test.YtkkpblhaeliofaaEvStore
namespace Go.Ev
open Go.RowKit
set_option linter.unusedVariables false
set_option linter.unusedSimpArgs false
def Within (w w' : World) (h : Value) (n : Nat) : Prop := ∀ B off len cap, h = .slice (some ⟨B, off, none⟩) len cap → ∀ cs t f, w.heap[B]? = some (.cells cs t f) →
  ∃ cs' : Array Value, w'.heap[B]? = some (.cells cs' t f) ∧ cs'.size = cs.size ∧ ∀ k, ¬ (off ≤ k ∧ k < off + n) → cs'[k]? = cs[k]?
theorem Within.refl {w w' : World} {h : Value} {n : Nat} (hh : ∀ B off len cap, h = .slice (some ⟨B, off, none⟩) len cap → w'.heap[B]? = w.heap[B]?) : Within w w' h n :=
  fun B off len cap he cs t f hc => ⟨cs, (hh B off len cap he).trans hc, rfl, fun _ _ => rfl⟩
theorem Within.trans {w w1 w2 : World} {h : Value} {n : Nat} (a : Within w w1 h n) (b : Within w1 w2 h n) : Within w w2 h n := by
  intro B off len cap he cs t f hc
  obtain ⟨c1, h1, s1, k1⟩ := a B off len cap he cs t f hc
  obtain ⟨c2, h2, s2, k2⟩ := b B off len cap he c1 t f h1
  exact ⟨c2, h2, s2.trans s1, fun k hk => (k2 k hk).trans (k1 k hk)⟩
structure Turns (w w' : World) (S S' : FP) (M M' : Mem) (L L' : Lay) (R : List Nat) (N : Nat → Prop) : Prop where
  rep : MemRep w' S' M' L'
  below : Below 0 w w'
  lent : ∀ b, S b → S' b
  frame : ∀ b, b < w.heap.size → (∀ r, r ∈ R → (M r).live = true → ¬ L.fp r b) → w'.heap[b]? = w.heap[b]?
  keeps : ∀ r, ¬ N r → Keeps w w' (M r) (M' r) (L.hd r) (L'.hd r)
  live : ∀ r, ¬ N r → (M' r).live = true → (M r).live = true
  same : ∀ r, r ∉ R → ¬ N r → M' r = M r ∧ L'.hd r = L.hd r ∧ ((M' r).live = true → ∀ b, L'.fp r b → L.fp r b)
  fp : ∀ r, (M' r).live = true → ∀ b, L'.fp r b → (∃ r', (M r').live = true ∧ L.fp r' b) ∨ w.heap.size ≤ b
  out : ∀ b, S' b → S b ∨ (∃ r, (M r).live = true ∧ L.fp r b) ∨ w.heap.size ≤ b
  within : ∀ r, ¬ N r → (M r).live = true → (M' r).live = true → L'.hd r = L.hd r ∧ (M' r).box = (M r).box ∧ (M' r).sz = (M r).sz ∧ (M' r).es.length = (M r).es.length ∧ ((M r).box = true → Within w w' (L.hd r) ((M r).es.length * (M r).sz))
  box : ∀ r, ¬ N r → (M r).live = true → (M r).box = true → (M' r).live = true
section
variable {w w' : World} {S S' : FP} {M M' : Mem} {L L' : Lay} {R : List Nat} {N : Nat → Prop}
theorem Turns.heapS (h : Turns w w' S S' M M' L L' R N) (hm : MemRep w S M L) : ∀ b, S b → S' b ∧ w'.heap[b]? = w.heap[b]? := fun b hb =>
  ⟨h.lent b hb, h.frame b (hm.lent b hb) (fun r _ hl hf => (hm.own r hl b hf).2 hb)⟩
theorem Turns.f (h : Turns w w' S S' M M' L L' R N) (hN : ∀ r, N r → (M r).born = false) : ∀ r, (M r).born = true → (M' r).born = true ∧ KeepF w w' (M r) (M' r) (L.hd r) (L'.hd r) := fun r hb => by
  by_cases hr : N r
  · rw [hN r hr] at hb; cases hb
  · exact ⟨(h.keeps r hr hb).1.1, (h.keeps r hr hb).2.2⟩
theorem Turns.cRep (h : Turns w w' S S' M M' L L' R N) (hm : MemRep w S M L) (hN : ∀ r, N r → (M r).born = false) {c : C} {v : Value} (hc : cRep w S M L c v) : cRep w' S' M' L' c v := by
  refine cRep_stay (h.heapS hm) (fun r => ?_) hc
  by_cases hr : N r
  · intro hb
    rw [hN r hr] at hb
    cases hb
  · exact h.keeps r hr
end
theorem datRep_row {w w' : World} {S S' : FP} (hS : ∀ b, S b → S' b ∧ w'.heap[b]? = w.heap[b]?) {B : Nat} : ∀ {ds : List D} {vs : List Value} {G : FP} {off : Nat}, datRep w S ds vs G → (∀ b, G b → w'.heap[b]? = w.heap[b]?) →
    (∀ (k : Nat) (v : Value), vs[k]? = some v → w'.cell? ⟨B, off + k, none⟩ = some v) → repRow w' S' ds B off G
  | [], [], G, off, h, _, _ => h
  | d :: ds, v :: vs, G, off, h, hG, hc => by
    obtain ⟨F1, F2, h1, h2, h3, h4⟩ := h
    refine ⟨v, F1, F2, hc 0 v rfl, repD_stay hS h1 (fun b hb => hG b ((h3 b).2 (.inl hb))), datRep_row hS h2 (fun b hb => hG b ((h3 b).2 (.inr hb))) (fun k u hk => ?_), h3, h4⟩
    rw [show off + 1 + k = off + (k + 1) by omega]
    exact hc (k + 1) u (by simpa using hk)
  | [], _ :: _, _, _, h, _, _ => h.elim
  | _ :: _, [], _, _, h, _, _ => h.elim
theorem move_solid {rs : Look} {c : C} {x : Bool × D × Look} (h : c.move rs = some x) : c.solid = true := by cases c <;> first | rfl | cases h
theorem moveAll_one {w : World} {S : FP} {M : Mem} {L : Lay} : ∀ {cs : List C} {vs : List Value} {rs : Look} {x : Bool × List D × Look}, cellsRep w S M L cs vs → moveAll cs rs = some x → ∀ v ∈ vs, v.oneCell' = true
  | [], [], rs, x, _, _, v, hv => by cases hv
  | c :: cs, u :: vs, rs, x, h, he, v, hv => by
    simp only [moveAll] at he
    split at he
    · rename_i b d rs1 h1
      split at he
      · rename_i b' ds rs2 h2
        rcases List.mem_cons.1 hv with rfl | hv
        · exact cRep_one h.1 (move_solid h1)
        · exact moveAll_one h.2 h2 v hv
      · cases he
    · cases he
  | [], _ :: _, _, _, h, _, _, _ => h.elim
  | _ :: _, [], _, _, h, _, _, _ => h.elim
theorem setRow_cell {w : World} {B : Nat} {cs : Array Value} {t : TypeId} {f : Nat × Nat} {o : Nat} {vs : List Value} (hB : w.heap[B]? = some (.cells cs t f)) (hle : o + vs.length ≤ cs.size) :
    (∀ (k : Nat) (v : Value), vs[k]? = some v → (w.setRow B (cs.toList.take o ++ vs ++ cs.toList.drop (o + vs.length)).toArray).cell? ⟨B, o + k, none⟩ = some v) ∧
    (∀ k, ¬ (o ≤ k ∧ k < o + vs.length) → (w.setRow B (cs.toList.take o ++ vs ++ cs.toList.drop (o + vs.length)).toArray).cell? ⟨B, k, none⟩ = w.cell? ⟨B, k, none⟩) ∧
    (∀ b, b ≠ B → (w.setRow B (cs.toList.take o ++ vs ++ cs.toList.drop (o + vs.length)).toArray).heap[b]? = w.heap[b]?) ∧
    ∃ cs' : Array Value, (w.setRow B (cs.toList.take o ++ vs ++ cs.toList.drop (o + vs.length)).toArray).heap[B]? = some (.cells cs' t f) ∧ cs'.size = cs.size ∧ ∀ k, ¬ (o ≤ k ∧ k < o + vs.length) → cs'[k]? = cs[k]? := by
  have hl : (cs.toList.take o).length = o := by rw [List.length_take]; simp; omega
  have hl2 : (cs.toList.take o ++ vs).length = o + vs.length := by rw [List.length_append, hl]
  have hget : ∀ k, ¬ (o ≤ k ∧ k < o + vs.length) → (cs.toList.take o ++ vs ++ cs.toList.drop (o + vs.length))[k]? = cs.toList[k]? := by
    intro k hk
    by_cases h1 : k < o
    · rw [List.append_assoc, List.getElem?_append_left (by omega), List.getElem?_take_of_lt h1]
    · rw [List.getElem?_append_right (by omega), List.getElem?_drop, hl2, show o + vs.length + (k - (o + vs.length)) = k by omega]
  refine ⟨fun k v hk => ?_, fun k hk => ?_, fun b hb => setRow_other w B b _ hb, _, setRow_heap w B cs _ t f hB, ?_, fun k hk => ?_⟩
  · rw [cell_setRow_same w B (o + k) cs _ t f hB]
    have hlt : k < vs.length := (List.getElem?_eq_some_iff.1 hk).1
    rw [List.getElem?_toArray, List.getElem?_append_left (by omega), List.getElem?_append_right (by omega), hl, show o + k - o = k by omega]
    exact hk
  · rw [cell_setRow_same w B k cs _ t f hB, List.getElem?_toArray, hget k hk]
    simp [World.cell?, hB]
  · simp; omega
  · rw [List.getElem?_toArray, hget k hk]; simp
theorem head_nested {w : World} {S : FP} {n0 : Nat} {es0 : List (List D)} {B0 off0 len0 cap0 : Nat} {a : Nat × Nat} {q : Path} {n : Nat} {es : List (List D)} {B off len cap : Nat} {F : FP}
    (hh : HeadAt w (.sl true n0 es0) (.slice (some ⟨B0, off0, none⟩) len0 cap0) (a :: q) (.sl true n es) (.slice (some ⟨B, off, none⟩) len cap)) (h : repD w S (.sl true n0 es0) (.slice (some ⟨B0, off0, none⟩) len0 cap0) F) : B ≠ B0 := by
  obtain ⟨F', _, _, hrows, hnB, hF, _⟩ := rep_some h
  cases hh with
  | cons ha hb hc hp =>
    obtain ⟨Gr, hrl, hrow, hGr⟩ := rows_row _ hrows ha
    obtain ⟨u', G', hu', hd', hG'⟩ := repRow_at hrow _ hb
    rw [hc] at hu'
    injection hu' with hu'
    subst hu'
    intro he
    subst he
    exact hnB (hGr _ (hG' _ (head_owned hp hd')))
theorem store_sound {P : Program} {w : World} {S : FP} {M M1 : Mem} {L L1 : Lay} {R1 R : List Nat} {G : FP} {ds : List D} {vs : List Value} {r : Nat} {q : Path} {n i j : Nat} {es : List (List D)} {B off cap : Nat}
    (hm : MemRep w S M L) (mv : Moves w S M M1 L L1 R1 G) (hds : datRep w S ds vs G) (hone : ∀ v ∈ vs, v.oneCell' = true) (hlive : (M1 r).live = true)
    (hh : HeadAt w (rootD (M1 r)) (L1.hd r) q (.sl true n es) (.slice (some ⟨B, off, none⟩) es.length cap)) (hi : i < es.length) (hj : j + ds.length ≤ n) (hr : r ∈ R) (hR : ∀ k ∈ R1, k ∈ R) (hz : (M1 r).frz = false) :
    ∃ w' L', (storeCells ⟨B, off + i * n + j, none⟩ vs).run P w = .ok () w' ∧
      Turns w w' S S M (fun k => if k = r then { M1 r with es := modAt (fun rows => rows.set i (newRow rows i j n ds)) (M1 r).es q, gh := bif ds.all D.noSl then (M1 r).gh else (M1 r).gh + 1 } else M1 k) L L' R (fun _ => False) := by
  have hrep := mv.rep.rep r hlive
  obtain ⟨G0, R0, hG0, hF0, hd0, back0⟩ := focusPath hh hrep
  obtain ⟨F', _, hcap, hrows, hnB, hGB, ⟨cs, t, hblk, hsize⟩, hc63⟩ := rep_some hG0
  obtain ⟨Gr, Rr, hrl, hrow, hFr, hdr, back1⟩ := focusRows i hrows hi
  obtain ⟨Go, Ro, hold, hFo, hdo, back2⟩ := focusSplice (j := j) (n := ds.length) hrow (by omega)
  have hvl : vs.length = ds.length := (datRep_length hds).symm
  have hmul : i * n + n ≤ es.length * n := by
    have := Nat.mul_le_mul_right n (show i + 1 ≤ es.length from hi)
    rw [Nat.add_mul] at this
    omega
  have hmul2 : es.length * n ≤ cap * n := Nat.mul_le_mul_right n hcap
  have hle : off + i * n + j + vs.length ≤ cs.size := by omega
  obtain ⟨hc1, hc2, hc3, cs', hc4, hc5, hc6⟩ := setRow_cell (o := off + i * n + j) (vs := vs) hblk hle
  have hrun := run_storeCells_at (P := P) B (off + i * n + j) t vs 0 cs w hblk (by simpa using hle) hone
  simp only [Nat.add_zero] at hrun
  generalize hw' : w.setRow B (cs.toList.take (off + i * n + j) ++ vs ++ cs.toList.drop (off + i * n + j + vs.length)).toArray = w' at hrun hc1 hc2 hc3 hc4
  have hbelow : Below 0 w w' := by rw [← hw']; exact ⟨rfl, rfl, rfl, by simp, fun k hk => absurd hk (Nat.not_lt_zero k)⟩
  have hsz : w'.heap.size = w.heap.size := by rw [← hw']; simp
  have hfpB : L1.fp r B := (hF0 B).2 (.inl ((hGB B).2 (.inl rfl)))
  have hSB : ¬ S B := (mv.rep.own r hlive B hfpB).2
  have hS : ∀ b, S b → S b ∧ w'.heap[b]? = w.heap[b]? := fun b hb => ⟨hb, hc3 b (fun he => by subst he; exact hSB hb)⟩
  have hGap : ∀ b, G b → ¬ L1.fp r b := mv.apart r hlive
  have hGne : ∀ b, G b → b ≠ B := fun b hb he => by subst he; exact hGap _ hb hfpB
  have hsubr : ∀ b, Gr b → L1.fp r b := fun b hb => (hF0 b).2 (.inl ((hGB b).2 (.inr ((hFr b).2 (.inl hb)))))
  have hsubRr : ∀ b, Rr b → L1.fp r b := fun b hb => (hF0 b).2 (.inl ((hGB b).2 (.inr ((hFr b).2 (.inr hb)))))
  have hneF : ∀ b, F' b → b ≠ B := fun b hb he => by subst he; exact hnB hb
  have hnew := datRep_row (w' := w') hS hds (fun b hb => hc3 b (hGne b hb)) hc1
  have hrow' := back2 (w' := w') (S' := S) (ds := ds) (G' := G) rfl hS (fun b hb => hc3 b (hneF b ((hFr b).2 (.inl ((hFo b).2 (.inr hb))))))
    (fun k hk hnk => hc2 _ (fun h => hnk ⟨by omega, by omega⟩)) hnew (fun b hb hb' => hGap b hb (hsubr b ((hFo b).2 (.inr hb'))))
  have hrows' := back1 (w' := w') (S' := S) hS (fun b hb => hc3 b (hneF b ((hFr b).2 (.inr hb)))) (fun k hk hnk => hc2 _ (fun h => hnk ⟨by omega, by omega⟩)) (by rw [splice_length _ _ _ (by omega), hrl]) hrow'
    (fun b hb hb' => by
      rcases hb with hb | hb
      · exact hGap b hb (hsubRr b hb')
      · exact hdr b ((hFo b).2 (.inr hb)) hb')
  have hnr : newRow es i j n ds = splice (es.getD i []) j ds := newRow_splice hrl
  rw [← hnr] at hrows'
  have hrepN : repD w' S (.sl true n (es.set i (newRow es i j n ds))) (.slice (some ⟨B, off, none⟩) es.length cap) (fun b => b = B ∨ ((G b ∨ Ro b) ∨ Rr b)) := by
    refine ⟨some ⟨B, off, none⟩, cap, by rw [List.length_set], by rw [List.length_set]; exact hcap, .inr ⟨B, off, _, rfl, hrows', .inl ⟨rfl, ?_, fun b => Iff.rfl, ⟨cs', t, hc4, by omega⟩, hc63⟩⟩⟩
    rintro ((hb | hb) | hb)
    · exact hGne B hb rfl
    · exact hnB ((hFr B).2 (.inl ((hFo B).2 (.inr hb))))
    · exact hnB ((hFr B).2 (.inr hb))
  obtain ⟨hrepR, _⟩ := back0 (w' := w') hS (fun b hb => hc3 b (fun he => by subst he; exact hd0 _ ((hGB _).2 (.inl rfl)) hb)) hrepN (fun b hb hb' => by
    rcases hb with rfl | ((hb | hb) | hb)
    · exact hd0 _ ((hGB _).2 (.inl rfl)) hb'
    · exact hGap b hb ((hF0 b).2 (.inr hb'))
    · exact hd0 b ((hGB b).2 (.inr ((hFr b).2 (.inl ((hFo b).2 (.inr hb)))))) hb'
    · exact hd0 b ((hGB b).2 (.inr ((hFr b).2 (.inr hb)))) hb')
  have hput := modAt_put hh (fun rows => rows.set i (newRow rows i j n ds)) rfl (rfl : rootD (M1 r) = .sl true (M1 r).sz (M1 r).es)
  rw [hput] at hrepR
  let x' : Root := { M1 r with es := modAt (fun rows => rows.set i (newRow rows i j n ds)) (M1 r).es q, gh := bif ds.all D.noSl then (M1 r).gh else (M1 r).gh + 1 }
  let fpr : FP := fun b => (b = B ∨ ((G b ∨ Ro b) ∨ Rr b)) ∨ R0 b
  let L' : Lay := ⟨L1.hd, fun k => if k = r then fpr else L1.fp k⟩
  have hfpr : ∀ b, fpr b → G b ∨ L1.fp r b := by
    rintro b ((rfl | ((hb | hb) | hb)) | hb)
    · exact .inr hfpB
    · exact .inl hb
    · exact .inr (hsubr b ((hFo b).2 (.inr hb)))
    · exact .inr (hsubRr b hb)
    · exact .inr ((hF0 b).2 (.inr hb))
  have hL' : ∀ k b, (M1 k).live = true → L'.fp k b → (k = r ∧ G b) ∨ L1.fp k b := by
    intro k b hk hb
    by_cases hkr : k = r
    · subst hkr
      have : fpr b := by simpa [L'] using hb
      rcases hfpr b this with h | h
      · exact .inl ⟨rfl, h⟩
      · exact .inr h
    · exact .inr (by simpa [L', hkr] using hb)
  have hlv : ∀ k, ((if k = r then x' else M1 k) : Root).live = true → (M1 k).live = true := by
    intro k hk
    by_cases hkr : k = r
    · subst hkr; exact hlive
    · rw [if_neg hkr] at hk; exact hk
  have hmodl : (modAt (fun rows => rows.set i (newRow rows i j n ds)) (M1 r).es q).length = (M1 r).es.length := modAt_length _ (fun xs => List.length_set ..) _ _
  have hGout : ∀ b, G b → ∃ k, (M k).live = true ∧ L.fp k b := fun b hb => by obtain ⟨k, _, h1, h2⟩ := mv.out b hb; exact ⟨k, h1, h2⟩
  have hGown : ∀ b, G b → b < w.heap.size ∧ ¬ S b := fun b hb => by obtain ⟨k, h1, h2⟩ := hGout b hb; exact hm.own k h1 b h2
  refine ⟨w', L', hrun, ⟨⟨fun k hk => ?_, fun k hk => ?_, fun k hk b hb => ?_, fun k k' hk hk' hne b hb hb' => ?_, fun b hb => by rw [hsz]; exact hm.lent b hb⟩, hbelow, fun b hb => hb, fun b hb hnr2 => ?_, fun k _ => ?_, fun k _ hk => mv.live k (hlv k hk), fun k hk _ => ?_, fun k hk b hb => ?_, fun b hb => .inl hb, fun k _ hk hk' => ?_, fun k _ hk hb => ?_⟩⟩
  · -- rep
    by_cases hkr : k = r
    · subst hkr
      simp only [if_true, L']
      exact hrepR
    · simp only [if_neg hkr, L']
      have hk1 := hlv k hk
      exact repD_stay hS (mv.rep.rep k hk1) (fun b hb => hc3 b (fun he => by subst he; exact mv.rep.apart r k hlive hk1 (Ne.symm hkr) _ hfpB hb))
  · by_cases hkr : k = r
    · subst hkr; simp only [if_true]; exact mv.rep.born k hlive
    · simp only [if_neg hkr]; exact mv.rep.born k (hlv k hk)
  · rw [hsz]
    rcases hL' k b (hlv k hk) hb with ⟨_, hg⟩ | hf
    · exact hGown b hg
    · exact mv.rep.own k (hlv k hk) b hf
  · rcases hL' k b (hlv k hk) hb with ⟨rfl, hg⟩ | hf
    · rcases hL' k' b (hlv k' hk') hb' with ⟨rfl, _⟩ | hf'
      · exact hne rfl
      · exact mv.apart k' (hlv k' hk') b hg hf'
    · rcases hL' k' b (hlv k' hk') hb' with ⟨rfl, hg⟩ | hf'
      · exact mv.apart k (hlv k hk) b hg hf
      · exact mv.rep.apart k k' (hlv k hk) (hlv k' hk') hne b hf hf'
  · -- frame
    refine hc3 b (fun he => ?_)
    subst he
    exact hnr2 r hr (mv.live r hlive) (mv.fp r hlive _ hfpB)
  · -- keeps
    by_cases hkr : k = r
    · subst hkr
      simp only [if_true, L']
      refine keeps_trans (mv.keeps k) ?_
      intro hb
      refine ⟨⟨hb, ?_⟩, fun ga gh q' hg ho hp => ?_, KeepF.no hz⟩
      · cases ds.all D.noSl <;> simp
      cases hall : ds.all D.noSl with
      | true =>
        simp only [hall, cond_true] at ho
        obtain ⟨k1, k2⟩ := headAt_store (w := w) (w' := w') (S := S) (n1 := n) (j0 := j) hall hi hj (fun k' hk' => hc2 k' (by rw [hvl]; exact hk')) hh rfl rfl (rfl : rootD (M1 k) = _) hrep (fun b _ hb => hc3 b hb) hp
        exact ⟨ho, k1, fun sz es2 u hh2 => k2 hh2⟩
      | false =>
        simp only [hall, cond_false] at ho
        have hq : q' = [] := by
          unfold okView at ho
          simp only [Bool.and_eq_true, Bool.or_eq_true, beq_iff_eq, List.isEmpty_iff] at ho
          rcases ho.2 with h | h
          · exact h
          · omega
        subst hq
        refine ⟨?_, rfl, fun sz es2 u hh2 => ?_⟩
        · unfold okView at ho ⊢
          simp only [Bool.and_eq_true, Bool.or_eq_true, beq_iff_eq, List.isEmpty_nil, true_or, and_true] at ho ⊢
          exact ho
        · obtain ⟨a1, a2⟩ := headAt_nil hh2
          injection a1 with _ a3 a4
          subst a3 a4 a2
          exact ⟨_, hmodl, .nil _ _⟩
    · simp only [if_neg hkr, L']
      refine keeps_trans (mv.keeps k) (keeps_same (F := L1.fp k) (fun hl => ⟨mv.rep.rep k hl, fun b hb => hc3 b (fun he => by subst he; exact mv.rep.apart r k hlive hl (Ne.symm hkr) _ hfpB hb)⟩))
  · -- same
    have hkr : k ≠ r := fun h => hk (h ▸ hr)
    have hk1 : k ∉ R1 := fun h => hk (hR k h)
    simp only [if_neg hkr, L']
    exact ⟨mv.same k hk1, mv.hd k, fun hl b hb => mv.fp k hl b hb⟩
  · -- fp
    rcases hL' k b (hlv k hk) hb with ⟨_, hg⟩ | hf
    · exact .inl (hGout b hg)
    · exact .inl ⟨k, mv.live k (hlv k hk), mv.fp k (hlv k hk) b hf⟩
  · -- within
    have hk1 : (M1 k).live = true := hlv k hk'
    obtain ⟨e1, e2, e3⟩ := mv.keep k
    refine ⟨mv.hd k, ?_, ?_, ?_, ?_⟩
    · by_cases hkr : k = r
      · subst hkr; simp only [if_true]; exact e1
      · simp only [if_neg hkr]; exact e1
    · by_cases hkr : k = r
      · subst hkr; simp only [if_true]; exact e2
      · simp only [if_neg hkr]; exact e2
    · by_cases hkr : k = r
      · subst hkr; simp only [if_true]; rw [hmodl]; exact e3
      · simp only [if_neg hkr]; exact e3
    · intro _ B' off' len' cap' he cs0 t0 f0 hc0
      rw [← mv.hd k] at he
      by_cases hBB : B' = B
      · subst hBB
        have hrk := mv.rep.rep k hk1
        rw [he] at hrk
        obtain ⟨Fk, hlk, _, _, hnk, hGk, _⟩ := rep_some hrk
        have hkr : k = r := by
          by_cases hkr : k = r
          · exact hkr
          · exact absurd hfpB (mv.rep.apart k r hk1 hlive hkr _ ((hGk B').2 (.inl rfl)))
        subst hkr
        rw [hblk] at hc0
        injection hc0 with hc0
        injection hc0 with g1 g2 g3
        subst g1 g2 g3
        refine ⟨cs', hc4, hc5, fun x hx => hc6 x (fun hin => hx ?_)⟩
        cases q with
        | nil =>
          obtain ⟨a1, a2⟩ := headAt_nil hh
          rw [he] at a2
          injection a2 with a2
          injection a2 with a2
          injection a2 with a4 a5
          injection a1 with _ a6 a7
          have e2' := e2
          have e3' := e3
          rw [← a7] at e3'
          rw [← a6] at e2'
          rw [← e3', ← e2', ← a5]
          omega
        | cons x q =>
          rw [he] at hh
          have hx2 := mv.rep.rep k hk1
          rw [he] at hx2
          exact absurd rfl (head_nested hh hx2)
      · exact ⟨cs0, (hc3 B' hBB).trans hc0, rfl, fun _ _ => rfl⟩
  · have := mv.box k hk hb
    by_cases hkr : k = r
    · subst hkr; simp only [if_true]; exact hlive
    · simp only [if_neg hkr]; exact this
end Go.Ev
