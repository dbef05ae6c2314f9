/- Every operation that is no call of a loaded function does what the evaluator says. -/
import Derived.Test.YtkkpblhaeliofaaEvMemOps
namespace Go.Ev
open Go.RowKit
set_option linter.unusedVariables false
set_option linter.unusedSimpArgs false
def addNew (M : Mem) (nx : Nat) (new : List Root) : Mem := fun r => if nx ≤ r ∧ r < nx + new.length then new.getD (r - nx) deadRoot else M r
def newOf (nx n : Nat) : Nat → Prop := fun r => nx ≤ r ∧ r < nx + n
theorem addNew_nil (M : Mem) (nx : Nat) : addNew M nx [] = M := by
  funext r
  unfold addNew
  rw [if_neg (by simp)]
theorem addNew_one (M : Mem) (nx : Nat) (x : Root) : addNew M nx [x] = fun k => if k = nx then x else M k := by
  funext r
  unfold addNew
  by_cases h : r = nx
  · subst h; simp
  · rw [if_neg (by simp; omega), if_neg h]
theorem newOf_zero (nx : Nat) : newOf nx 0 = fun _ => False := by
  funext r; unfold newOf; simp
theorem newOf_one (nx : Nat) : newOf nx 1 = fun k => k = nx := by
  funext r; unfold newOf; exact propext ⟨fun h => by omega, fun h => by omega⟩
theorem over_nil (M : Mem) : over M [] = M := rfl
def OpDoes (P : Program) (w : World) (S : FP) (M : Mem) (L : Lay) (ρ : Operand → Value) (o : Oper) (R : List Nat) (nx : Nat) (e : Eff) : Prop :=
  ∃ n v w' L', (execOp ρ o).run P w = .ok n w' ∧ (n = .value v ∨ (n = .skip ∧ v = undef)) ∧ tvRep w' S (addNew (over M e.upd) nx e.new) L' e.val v ∧
    Turns w w' S S M (addNew (over M e.upd) nx e.new) L L' R (newOf nx e.new.length)
section
variable {P : Program} {w : World} {S : FP} {M : Mem} {L : Lay} {ρ : Operand → Value} {R : List Nat} {nx : Nat} {rs : Look}
theorem does_value {o : Oper} {e : Eff} (hm : MemRep w S M L) (hover : over M rs = M) (hu : e.upd = rs ∨ e.upd = []) (hn : e.new = []) (h : ∃ v, (execOp ρ o).run P w = .ok (.value v) w ∧ tvRep w S M L e.val v) : OpDoes P w S M L ρ o R nx e := by
  obtain ⟨v, h1, h2⟩ := h
  have he : addNew (over M e.upd) nx e.new = M := by
    rw [hn, addNew_nil]
    rcases hu with hu | hu <;> rw [hu]
    · exact hover
    · rfl
  refine ⟨.value v, v, w, L, h1, .inl rfl, ?_, ?_⟩
  · rw [he]; exact h2
  · rw [he, hn]
    have := Turns.refl hm R
    rw [List.length_nil, newOf_zero]
    exact this
theorem does_new {o : Oper} {e : Eff} {x : Root} {rs1 : Look} {w' : World} {L' : Lay} {v : Value} (hu : e.upd = rs1) (hn : e.new = [x]) (hrun : (execOp ρ o).run P w = .ok (.value v) w')
    (hT : Turns w w' S S M (fun k => if k = nx then x else over M rs1 k) L L' R (fun k => k = nx)) (hv : tvRep w' S (fun k => if k = nx then x else over M rs1 k) L' e.val v) : OpDoes P w S M L ρ o R nx e := by
  refine ⟨.value v, v, w', L', hrun, .inl rfl, ?_, ?_⟩
  · rw [hu, hn, addNew_one]; exact hv
  · rw [hu, hn, addNew_one, List.length_singleton, newOf_one]; exact hT
theorem new_view {w' : World} {S' : FP} {M' : Mem} {nx sz cap B : Nat} {es : List (List D)} {L' : Lay} (hM : M' nx = { box := false, sz := sz, es := es }) (hL : L'.hd nx = .slice (some ⟨B, 0, none⟩) es.length cap) :
    tvRep w' S' M' L' (.v false [.view nx 0 0 [] sz none]) (.slice (some ⟨B, 0, none⟩) es.length cap) := by
  refine ⟨by rw [hM]; exact ⟨rfl, Nat.le_refl _⟩, ⟨_, _, _, rfl⟩, fun _ _ => ⟨es, _, _, _, ?_, rfl⟩⟩
  rw [hM, hL]
  exact .nil _ _
theorem new_ptr {w' : World} {S' : FP} {M' : Mem} {nx sz cap B : Nat} {row : List D} {L' : Lay} (hM : M' nx = { box := true, sz := sz, es := [row] }) (hL : L'.hd nx = .slice (some ⟨B, 0, none⟩) 1 cap) :
    tvRep w' S' M' L' (.v false [.ptr nx 0 0 [] sz 0 0]) (.pointer (some ⟨B, 0, none⟩)) := by
  refine ⟨by rw [hM]; exact ⟨rfl, Nat.le_refl _⟩, ⟨_, _, rfl⟩, fun _ _ => ⟨[row], B, 0, 1, cap, ?_, by simp, by simp⟩⟩
  rw [hM, hL]
  exact .nil _ _
theorem boxed {o : Oper} {row : List D} {zv : Value} {t : TypeId} {rs1 : Look} {L1 : Lay} {G : FP} (hm : MemRep w S M L) (mv : Moves w S M (over M rs1) L L1 R G) (hfresh : (M nx).born = false)
    (hd : datRep w S row zv.cells.toList G) (hrun : (execOp ρ o).run P w = .ok (.value (.pointer (some ⟨w.heap.size, 0, none⟩))) (w.alloc (.cells zv.cells t))) :
    OpDoes P w S M L ρ o R nx ⟨true, .v false [.ptr nx 0 0 [] row.length 0 0], rs1, [{ box := true, sz := row.length, es := [row] }]⟩ := by
  have hl : zv.cells.size = row.length := by have := datRep_length hd; simpa using this.symm
  have hT := made_sound (w0 := w) (box := true) (sz := row.length) (cap := 1) (es := [row]) (cs := zv.cells) (t := t) hm mv (fun _ h => h) hfresh rfl (Below.refl 0 w) (by simp) (by omega) (by omega) (fun {w'} h1 h2 => by
    refine ⟨G, fun _ => False, rfl, datRep_row (fun b hb => ⟨hb, h1 b (hm.lent b hb)⟩) hd (fun b hb => h1 b (by obtain ⟨k, _, k1, k2⟩ := mv.out b hb; exact (hm.own k k1 b k2).1)) (fun k v hk => ?_), fun _ h => h, fun b => by simp, fun _ _ h => h⟩
    rw [h2, Nat.zero_add, ← Array.getElem?_toList]
    exact hk)
  exact does_new rfl rfl hrun hT (new_ptr (row := row) (cap := 1) (by simp) (by simp))
theorem moveRows_sound {M : Mem} {ls : List Leaf} {sz : Nat} : ∀ {xs : List TV} {us : List Value} {L : Lay} {rs rs' : Look} {es : List (List D)}, MemRep w S (over M rs) L → opsRep w S (over M rs) L xs us → moveRows ls xs rs = some (true, es, rs') → (es.all fun r => r.length == sz) = true →
    ∃ G L', rowsDat w S sz es (us.map fun u => u.cells.toList) G ∧ Moves w S (over M rs) (over M rs') L L' (xs.flatMap TV.roots) G ∧ rs'.keys = rs.keys
  | [], [], L, rs, rs', es, hm, _, he, _ => by
    simp only [moveRows, Option.some.injEq, Prod.mk.injEq] at he
    obtain ⟨_, rfl, rfl⟩ := he
    exact ⟨fun _ => False, L, fun _ h => h, Moves.refl hm _, rfl⟩
  | x :: xs, u :: us, L, rs, rs', es, hm, hv, he, hall => by
    obtain ⟨hx, hv⟩ := hv
    simp only [moveRows] at he
    split at he
    · rename_i b d rs1 h1
      split at he
      · rename_i b' es1 rs2 h2
        simp only [Option.some.injEq, Prod.mk.injEq, Bool.and_eq_true] at he
        obtain ⟨⟨rfl, rfl⟩, rfl, rfl⟩ := he
        rw [List.all_cons, Bool.and_eq_true] at hall
        obtain ⟨G1, L1, r1, m1, k1⟩ := moveAll_sound hm (cells_tv hx h1) h1
        have hv' : opsRep w S (over M rs1) L1 xs us := by
          have : ∀ {xs : List TV} {us : List Value}, opsRep w S (over M rs) L xs us → opsRep w S (over M rs1) L1 xs us := by
            intro xs
            induction xs with
            | nil => intro us h; cases us <;> exact h
            | cons x xs ih =>
              intro us h
              cases us with
              | nil => exact h
              | cons u us => exact ⟨tvRep_stay (fun c v hc => cRep_stay (fun b hb => ⟨hb, rfl⟩) m1.keeps hc) (keeps_f m1.keeps) h.1, ih h.2⟩
          exact this hv
        obtain ⟨G2, L2, r2, m2, k2⟩ := moveRows_sound m1.rep hv' h2 hall.2
        have hroots : ∀ r ∈ (fixNils ls x.cells).flatMap C.roots, r ∈ (x :: xs).flatMap TV.roots := by
          intro r hr
          rw [List.flatMap_cons]
          refine List.mem_append_left _ ?_
          have key : ∀ {ls : List Leaf} {cs : List C}, (fixNils ls cs).flatMap C.roots = cs.flatMap C.roots := by
            intro ls
            induction ls with
            | nil => intro cs; cases cs <;> rfl
            | cons l ls ih =>
              intro cs
              cases cs with
              | nil => cases l <;> rfl
              | cons c cs => cases l <;> cases c <;> simp [fixNils, ih, C.roots]
          rw [key] at hr
          cases x with
          | v a cs => exact hr
          | tup vs => simp [TV.cells, C.roots] at hr
          | cp r cs => simp [TV.cells, C.roots] at hr
        obtain ⟨m, hdis⟩ := Moves.trans m1 m2 (R := (x :: xs).flatMap TV.roots) hroots (fun r hr => by rw [List.flatMap_cons]; exact List.mem_append_right _ hr)
        exact ⟨_, L2, ⟨G1, G2, by simpa using hall.1, r1, r2, fun b => Iff.rfl, hdis⟩, m, k2.trans k1⟩
      · cases he
    · cases he
  | [], _ :: _, L, rs, rs', es, hm, h, he, _ => h.elim
  | _ :: _, [], L, rs, rs', es, hm, h, he, _ => h.elim
theorem fixNils_roots : ∀ {ls : List Leaf} {cs : List C}, (fixNils ls cs).flatMap C.roots = cs.flatMap C.roots := by
  intro ls
  induction ls with
  | nil => intro cs; cases cs <;> rfl
  | cons l ls ih =>
    intro cs
    cases cs with
    | nil => cases l <;> rfl
    | cons c cs => cases l <;> cases c <;> simp [fixNils, ih, C.roots]
theorem tv_roots (x : TV) {r : Nat} (h : r ∈ x.cells.flatMap C.roots) : r ∈ x.roots := by
  cases x with
  | v a cs => exact h
  | tup vs => simp [TV.cells, C.roots] at h
  | cp k cs => simp [TV.cells, C.roots] at h
theorem Moves.more {w : World} {S : FP} {M M' : Mem} {L L' : Lay} {R R' : List Nat} {G : FP} (h : Moves w S M M' L L' R G) (hR : ∀ r ∈ R, r ∈ R') : Moves w S M M' L L' R' G :=
  ⟨h.rep, h.hd, h.live, h.fp, h.keeps, fun b hb => by obtain ⟨r, h1, h2⟩ := h.out b hb; exact ⟨r, hR r h1, h2⟩, h.apart, fun r hr => h.same r (fun hx => hr (hR r hx)), h.box, h.keep, fun r hr => h.fpsame r (fun hx => hr (hR r hx))⟩
end
end Go.Ev
