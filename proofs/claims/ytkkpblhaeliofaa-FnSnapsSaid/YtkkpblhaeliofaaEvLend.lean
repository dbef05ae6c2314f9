/- Lending; what is owned to the bottom. -/
import Derived.Test.YtkkpblhaeliofaaEvSpec
namespace Go.Ev
open Go.RowKit
set_option linter.unusedVariables false
set_option linter.unusedSimpArgs false
theorem lendRow_length : ∀ ds : List D, (lendRow ds).length = ds.length
  | [] => rfl
  | d :: ds => by simp [lendRow, lendRow_length ds]
theorem lendRows_length : ∀ es : List (List D), (lendRows es).length = es.length
  | [] => rfl
  | e :: es => by simp [lendRows, lendRows_length es]
section
variable {w : World} {S Sc : FP}
mutual
theorem lend_rep (hS : ∀ b, S b → Sc b) : ∀ {d : D} {v : Value} {F : FP}, repD w S d v F → (∀ b, F b → Sc b) → repD w Sc d.lend v (fun _ => False)
  | .int k n, v, F, h, _ => ⟨h.1, fun _ h => h⟩
  | .bool x, v, F, h, _ => ⟨h.1, fun _ h => h⟩
  | .str s, v, F, h, _ => ⟨h.1, fun _ h => h⟩
  | .dead, v, F, h, _ => ⟨h.1, fun _ h => h⟩
  | .sl own sz es, v, F, h, hF => by
    obtain ⟨A, cap, rfl, hc, h⟩ := h
    refine ⟨A, cap, by rw [lendRows_length], by rw [lendRows_length]; exact hc, ?_⟩
    rcases h with ⟨h1, h2, h3, _⟩ | ⟨B, off, F', rfl, hr, h⟩
    · exact .inl ⟨.inr rfl, by rw [h2]; rfl, h3, fun _ h => h⟩
    · refine .inr ⟨B, off, fun _ => False, rfl, ?_, .inr ⟨rfl, fun _ h => h, fun _ h => h, ?_⟩⟩
      · refine lendRows_rep hS hr (fun b hb => ?_)
        rcases h with ⟨_, _, h3, _⟩ | ⟨_, _, h3, _⟩
        · exact hF b ((h3 b).2 (.inr hb))
        · exact absurd hb (h3 b)
      · rcases h with ⟨_, _, h3, _⟩ | ⟨_, _, _, h4⟩
        · exact .inr (hF B ((h3 B).2 (.inl rfl)))
        · rcases h4 with h4 | h4
          · exact .inl (by rw [h4]; rfl)
          · exact .inr (hS B h4)
theorem lendRow_rep (hS : ∀ b, S b → Sc b) : ∀ {ds : List D} {B off : Nat} {F : FP}, repRow w S ds B off F → (∀ b, F b → Sc b) → repRow w Sc (lendRow ds) B off (fun _ => False)
  | [], _, _, _, _, _ => fun _ h => h
  | d :: ds, B, off, F, h, hF => by
    obtain ⟨v, F1, F2, h1, h2, h3, h4, h5⟩ := h
    exact ⟨v, fun _ => False, fun _ => False, h1, lend_rep hS h2 (fun b hb => hF b ((h4 b).2 (.inl hb))), lendRow_rep hS h3 (fun b hb => hF b ((h4 b).2 (.inr hb))), fun b => by simp, fun _ h => h.elim⟩
theorem lendRows_rep (hS : ∀ b, S b → Sc b) : ∀ {es : List (List D)} {B off sz : Nat} {F : FP}, repRows w S es B off sz F → (∀ b, F b → Sc b) → repRows w Sc (lendRows es) B off sz (fun _ => False)
  | [], _, _, _, _, _, _ => fun _ h => h
  | e :: es, B, off, sz, F, h, hF => by
    obtain ⟨F1, F2, h1, h2, h3, h4, h5⟩ := h
    exact ⟨fun _ => False, fun _ => False, by rw [lendRow_length]; exact h1, lendRow_rep hS h2 (fun b hb => hF b ((h4 b).2 (.inl hb))), lendRows_rep hS h3 (fun b hb => hF b ((h4 b).2 (.inr hb))), fun b => by simp, fun _ h => h.elim⟩
end
mutual
theorem deep_rep : ∀ {d : D} {v : Value} {F : FP}, repD w Sc d v F → d.deep = true → repD w S d v F
  | .int k n, v, F, h, _ => h
  | .bool x, v, F, h, _ => h
  | .str s, v, F, h, _ => h
  | .dead, v, F, h, _ => h
  | .sl own sz es, v, F, h, hd => by
    simp only [D.deep, Bool.and_eq_true] at hd
    obtain ⟨A, cap, rfl, hc, h⟩ := h
    refine ⟨A, cap, rfl, hc, ?_⟩
    rcases h with h | ⟨B, off, F', rfl, hr, h⟩
    · exact .inl h
    · rcases h with h | ⟨ho, _⟩
      · exact .inr ⟨B, off, F', rfl, deepRows_rep hr hd.2, .inl h⟩
      · rw [hd.1] at ho; cases ho
theorem deepRow_rep : ∀ {ds : List D} {B off : Nat} {F : FP}, repRow w Sc ds B off F → deepRow ds = true → repRow w S ds B off F
  | [], _, _, _, h, _ => h
  | d :: ds, B, off, F, h, hd => by
    simp only [deepRow, Bool.and_eq_true] at hd
    obtain ⟨v, F1, F2, h1, h2, h3, h4, h5⟩ := h
    exact ⟨v, F1, F2, h1, deep_rep h2 hd.1, deepRow_rep h3 hd.2, h4, h5⟩
theorem deepRows_rep : ∀ {es : List (List D)} {B off sz : Nat} {F : FP}, repRows w Sc es B off sz F → deepRows es = true → repRows w S es B off sz F
  | [], _, _, _, _, h, _ => h
  | e :: es, B, off, sz, F, h, hd => by
    simp only [deepRows, Bool.and_eq_true] at hd
    obtain ⟨F1, F2, h1, h2, h3, h4, h5⟩ := h
    exact ⟨F1, F2, h1, deepRow_rep h2 hd.1, deepRows_rep h3 hd.2, h4, h5⟩
end
theorem deepDat_rep : ∀ {ds : List D} {vs : List Value} {F : FP}, datRep w Sc ds vs F → deepRow ds = true → datRep w S ds vs F
  | [], [], _, h, _ => h
  | d :: ds, v :: vs, F, ⟨F1, F2, h1, h2, h3, h4⟩, hd => by
    simp only [deepRow, Bool.and_eq_true] at hd
    exact ⟨F1, F2, deep_rep h1 hd.1, deepDat_rep h2 hd.2, h3, h4⟩
  | [], _ :: _, _, h, _ => h.elim
  | _ :: _, [], _, h, _ => h.elim
theorem outRep_deep {P : Program} : ∀ {ts : List TypeId} {rows : List (List D)} {vs : List Value} {F : FP}, outRep P w Sc ts rows vs F → deepRows rows = true → outRep P w S ts rows vs F
  | [], [], [], _, h, _ => h
  | t :: ts, row :: rows, v :: vs, F, ⟨F1, F2, h1, h2, h3, h4⟩, hd => by
    simp only [deepRows, Bool.and_eq_true] at hd
    refine ⟨F1, F2, ?_, outRep_deep h2 hd.2, h3, h4⟩
    unfold outOne at h1 ⊢
    split at h1
    · rename_i hp
      rw [if_pos hp]
      obtain ⟨B, off, F', k1, k2, k3⟩ := h1
      exact ⟨B, off, F', k1, deepRow_rep k2 hd.1, k3⟩
    · rename_i hp
      rw [if_neg hp]
      exact ⟨h1.1, deepDat_rep h1.2 hd.1⟩
  | [], [], _ :: _, _, h, _ => h.elim
  | [], _ :: _, _, _, h, _ => h.elim
  | _ :: _, [], _, _, h, _ => h.elim
  | _ :: _, _ :: _, [], _, h, _ => h.elim
theorem lendCell_sound {M : Mem} {L : Lay} {rs : Look} {c : C} {v : Value} {d : D} (hm : MemRep w S (over M rs) L) (hc : cRep w S (over M rs) L c v) (hS : ∀ b, S b → Sc b) (hR : ∀ r ∈ c.roots, (over M rs r).live = true → ∀ b, L.fp r b → Sc b)
    (he : lendCell rs c = some d) (hg : goodC rs c = true) : repD w Sc d v (fun _ => False) ∧ v.oneCell' = true := by
  cases c with
  | d x =>
    simp only [lendCell, Option.some.injEq] at he
    subst he
    refine ⟨?_, repD_cell hc.2⟩
    exact repD_stay (fun b hb => ⟨hS b hb, rfl⟩) hc.2 (fun b hb => hb.elim)
  | nils n =>
    simp only [lendCell, Option.some.injEq] at he
    subst he
    rw [show v = _ from hc]
    exact ⟨⟨none, 0, rfl, Nat.le_refl _, .inl ⟨.inl rfl, rfl, rfl, fun _ h => h⟩⟩, rfl⟩
  | view r ga gh q n sub =>
    simp only [lendCell] at he
    split at he
    · rename_i es hes
      simp only [Option.some.injEq] at he
      subst he
      simp only [rowsOf] at hes
      split at hes
      · rename_i hcond
        simp only [Bool.and_eq_true] at hcond
        simp only [Option.some.injEq] at hes
        have hl := okView_live hcond.1
        have hov : over M rs r = rs.get r := over_live hl
        obtain ⟨es1, A, cap, G, k1, k2, k3, k4, k5⟩ := view_open hm hc (by rw [hov]; exact hcond.1) (by rw [hov]; exact hg)
        rw [hov] at k5
        rw [k5] at hes
        obtain ⟨G', h1, h2⟩ := rep_sub k2 k4
        rw [hes] at h1
        exact ⟨lend_rep hS h1 (fun b hb => hR r (by simp [C.roots]) (by rw [hov]; exact hl) b (k3 b (h2 b hb))), repD_cell h1⟩
      · cases hes
    · cases he
  | _ => cases he
theorem lendCells_sound {M : Mem} {L : Lay} {rs : Look} (hm : MemRep w S (over M rs) L) (hS : ∀ b, S b → Sc b) : ∀ {cs : List C} {vs : List Value} {ds : List D}, cellsRep w S (over M rs) L cs vs → (∀ r ∈ cs.flatMap C.roots, (over M rs r).live = true → ∀ b, L.fp r b → Sc b) →
    lendCells rs cs = some (true, ds) → datRep w Sc ds vs (fun _ => False) ∧ ∀ v ∈ vs, v.oneCell' = true
  | [], [], ds, _, _, he => by
    simp only [lendCells, Option.some.injEq, Prod.mk.injEq, true_and] at he
    subst he
    exact ⟨fun _ h => h, by simp⟩
  | c :: cs, v :: vs, ds, hc, hR, he => by
    simp only [lendCells] at he
    split at he
    · rename_i d h1
      split at he
      · rename_i b ds1 h2
        simp only [Option.some.injEq, Prod.mk.injEq, Bool.and_eq_true] at he
        obtain ⟨⟨hg, rfl⟩, rfl⟩ := he
        obtain ⟨a1, a2⟩ := lendCell_sound hm hc.1 hS (fun r hr => hR r (by rw [List.flatMap_cons]; exact List.mem_append_left _ hr)) h1 hg
        obtain ⟨b1, b2⟩ := lendCells_sound hm hS hc.2 (fun r hr => hR r (by rw [List.flatMap_cons]; exact List.mem_append_right _ hr)) h2
        exact ⟨⟨fun _ => False, fun _ => False, a1, b1, fun b => by simp, fun _ h => h.elim⟩, fun x hx => by
          rcases List.mem_cons.1 hx with rfl | hx
          · exact a2
          · exact b2 x hx⟩
      · cases he
    · cases he
  | [], _ :: _, _, h, _, _ => h.elim
  | _ :: _, [], _, h, _, _ => h.elim
end
end Go.Ev
