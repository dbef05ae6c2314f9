/- Every operation that is no call of a loaded function. -/
import Derived.Test.YtkkpblhaeliofaaEvArgs
namespace Go.Ev
open Go.RowKit
set_option linter.unusedVariables false
set_option linter.unusedSimpArgs false
theorem deadRow {w : World} {S : FP} {B : Nat} : ∀ (n off : Nat), (∀ k, k < n → ∃ u : Value, w.cell? ⟨B, off + k, none⟩ = some u ∧ u.oneCell' = true) → repRow w S (List.replicate n .dead) B off (fun _ => False)
  | 0, _, _ => fun _ h => h
  | n + 1, off, h => by
    obtain ⟨u, h1, h2⟩ := h 0 (by omega)
    exact ⟨u, fun _ => False, fun _ => False, h1, ⟨h2, fun _ h => h⟩, deadRow n (off + 1) (fun k hk => by
      obtain ⟨u, h1, h2⟩ := h (k + 1) (by omega)
      exact ⟨u, by rw [show off + 1 + k = off + (k + 1) by omega]; exact h1, h2⟩), fun b => by simp, fun b hb => hb.elim⟩
theorem cells_solid {w : World} {S : FP} {M : Mem} {L : Lay} : ∀ {cs : List C} {vs : List Value}, cellsRep w S M L cs vs → cs.all C.solid = true → ∀ (k : Nat) (u : Value), vs[k]? = some u → u.oneCell' = true
  | [], [], _, _, k, u, hk => by simp at hk
  | c :: cs, v :: vs, h, ha, k, u, hk => by
    rw [List.all_cons, Bool.and_eq_true] at ha
    cases k with
    | zero => simp only [List.getElem?_cons_zero, Option.some.injEq] at hk; subst hk; exact cRep_one h.1 ha.1
    | succ k => exact cells_solid h.2 ha.2 k u (by simpa using hk)
  | [], _ :: _, h, _, _, _, _ => h.elim
  | _ :: _, [], h, _, _, _, _ => h.elim
theorem opEff_sound {fz : Bool} {P : Program} {w : World} {S : FP} {M : Mem} {L : Lay} {ρ : Operand → Value} {R : List Nat} {nx : Nat} {rs : Look} {o : Oper} {vs : List TV} {e : Eff} (hm : MemRep w S M L) (hover : over M rs = M) (hkeys : ∀ r ∈ vs.flatMap TV.roots, r ∈ R) (hfresh : e.new ≠ [] → (M nx).born = false)
    (hv : opsRep w S M L vs ((operandsOf o.op).map ρ)) (he : opEff P fz nx o vs rs = some e) (hok : e.ok = true) : OpDoes P w S M L ρ o R nx e := by
  have keep : ∀ {x : Operand} {v : TV}, o.op = .move x ∨ o.op = .assign x → vs = [v] → e = ⟨true, fixTV P o.type v, rs, []⟩ → OpDoes P w S M L ρ o R nx e := by
    intro x v ho hvs hE
    subst hE hvs
    obtain ⟨u, hu, h1⟩ := opsRep_one hv
    have hux : u = ρ x := by
      rcases ho with h | h <;> rw [h] at hu <;> simpa [operandsOf, Op.operands] using hu.symm
    subst hux
    refine does_value hm hover (.inl rfl) rfl ⟨ρ x, ?_, fixTV_rep h1⟩
    rcases ho with h | h <;> unfold execOp <;> rw [h] <;> rfl
  unfold opEff at he
  split at he
  · rename_i x v ho
    simp only [Option.some.injEq] at he
    exact keep (.inl ho) rfl he.symm
  · rename_i x v ho
    simp only [Option.some.injEq] at he
    exact keep (.inr ho) rfl he.symm
  · rename_i t x v ho
    cases fz with
    | false =>
      simp only [] at he
      rw [← ho] at he
      exact opMem_sound hm hover hkeys hfresh hv he hok
    | true =>
      simp only [boxCp] at he
      split at he
      · rename_i a cs
        split at he
        · rename_i hl
          simp only [Option.some.injEq] at he; subst he
          obtain ⟨hl1, hl2⟩ := hl
          obtain ⟨u, hu, h1⟩ := opsRep_one hv
          have hux : u = ρ x := by rw [ho] at hu; simpa [operandsOf, Op.operands] using hu.symm
          subst hux
          have hcs := tv_cells h1 (fun c hc => List.all_eq_true.1 hl2 c hc)
          have hlen := cellsRep_length hcs
          have hN : ∀ r, r = nx → (M r).born = false := fun r hr => by rw [hr]; exact hfresh (List.cons_ne_nil _ _)
          have hmv : Moves w S M (over M rs) L L R (fun _ => False) := by rw [hover]; exact Moves.refl hm R
          have hT := made_sound (w0 := w) (box := true) (fz := true) (sz := cs.length) (cap := 1) (es := [List.replicate cs.length .dead]) (cs := (ρ x).cells) (t := t) hm hmv (fun _ h => h) (hfresh (List.cons_ne_nil _ _)) rfl (Below.refl 0 w) (by simp) (by omega) (by simp at hlen ⊢; omega) (fun {w'} g1 g2 => by
            refine ⟨fun _ => False, fun _ => False, by simp, deadRow _ _ (fun k hk => ?_), fun _ h => h, fun b => by simp, fun _ h => h.elim⟩
            have hk' : k < (ρ x).cells.toList.length := by rw [← hlen]; exact hk
            refine ⟨(ρ x).cells.toList[k], ?_, cells_solid hcs hl2 k _ (List.getElem?_eq_getElem hk')⟩
            rw [g2, Nat.zero_add, ← Array.getElem?_toList]
            exact List.getElem?_eq_getElem hk')
          have hrun : (execOp ρ o).run P w = .ok (.value (.pointer (some ⟨w.heap.size, 0, none⟩))) (w.alloc (.cells (ρ x).cells t)) := by
            unfold execOp
            rw [ho]
            simp [Instr.box, newVar, Go.newRow]
          refine does_new rfl rfl hrun hT ⟨⟨by simp, by simp⟩, ⟨_, _, rfl⟩, (ρ x).cells.toList, fixNils_rep (cellsRep_stay (fun c v hc => hT.cRep hm hN hc) hcs), fun _ => ⟨_, 0, 0, 1, 1, rfl, by simp, fun k u hk => ?_⟩⟩
          rw [Nat.zero_add, alloc_cell, ← Array.getElem?_toList]
          exact hk
        · cases he
      · cases he
  · exact opMem_sound hm hover hkeys hfresh hv he hok
end Go.Ev
