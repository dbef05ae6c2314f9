/- What comes into a frame: parameters, results. -/
import Derived.Test.YtkkpblhaeliofaaEvPut
namespace Go.Ev
open Go.RowKit
set_option linter.unusedVariables false
set_option linter.unusedSimpArgs false
section
variable {w : World} {S : FP}
structure Adds (w : World) (S : FP) (M M' : Mem) (L L' : Lay) (nx k : Nat) (F : FP) : Prop where
  rep : MemRep w S M' L'
  old : ∀ r, ¬ newOf nx k r → M' r = M r ∧ L'.hd r = L.hd r ∧ L'.fp r = L.fp r
  fp : ∀ r, newOf nx k r → ∀ b, L'.fp r b → F b
theorem Adds.keeps {M M' : Mem} {L L' : Lay} {nx k : Nat} {F : FP} (h : Adds w S M M' L L' nx k F) (hf : ∀ r, newOf nx k r → (M r).born = false) (r : Nat) : Keeps w w (M r) (M' r) (L.hd r) (L'.hd r) := by
  by_cases hr : newOf nx k r
  · intro hb; rw [hf r hr] at hb; cases hb
  · obtain ⟨h1, h2, _⟩ := h.old r hr
    rw [h1, h2]; exact keeps_refl _ _ _
theorem Adds.cRep {M M' : Mem} {L L' : Lay} {nx k : Nat} {F : FP} (h : Adds w S M M' L L' nx k F) (hf : ∀ r, newOf nx k r → (M r).born = false) {c : C} {v : Value} (hc : cRep w S M L c v) : cRep w S M' L' c v :=
  cRep_stay (fun b hb => ⟨hb, rfl⟩) (h.keeps hf) hc
theorem Adds.none {M : Mem} {L : Lay} (h : MemRep w S M L) (nx : Nat) (F : FP) : Adds w S M (addNew M nx []) L L nx 0 F := by
  rw [addNew_nil]
  exact ⟨h, fun r _ => ⟨rfl, rfl, rfl⟩, fun r hr => by unfold newOf at hr; omega⟩
theorem Adds.one {M : Mem} {L : Lay} {nx : Nat} {x : Root} {hd : Value} {F : FP} (hm : MemRep w S M L) (hf : (M nx).born = false) (hx : x.live = true) (hb : x.born = true) (hr : repD w S (rootD x) hd F)
    (hF : ∀ b, F b → b < w.heap.size ∧ ¬ S b) (hd2 : ∀ r, (M r).live = true → ∀ b, F b → ¬ L.fp r b) :
    Adds w S M (addNew M nx [x]) L ⟨fun k => if k = nx then hd else L.hd k, fun k => if k = nx then F else L.fp k⟩ nx 1 F := by
  rw [addNew_one]
  refine ⟨⟨fun k hk => ?_, fun k hk => ?_, fun k hk b hb => ?_, fun k k' hk hk' hne b hb hb' => ?_, hm.lent⟩, fun k hk => ?_, fun k hk b hb => ?_⟩
  · by_cases hkn : k = nx
    · subst hkn; simp only [if_true]; exact hr
    · simp only [if_neg hkn] at hk ⊢; exact hm.rep k hk
  · by_cases hkn : k = nx
    · subst hkn; simp only [if_true]; exact hb
    · simp only [if_neg hkn] at hk ⊢; exact hm.born k hk
  · by_cases hkn : k = nx
    · subst hkn; simp only [if_true] at hb; exact hF b hb
    · simp only [if_neg hkn] at hk hb; exact hm.own k hk b hb
  · by_cases hkn : k = nx
    · by_cases hkn' : k' = nx
      · exact hne (hkn.trans hkn'.symm)
      · subst hkn
        simp only [if_true] at hb
        simp only [if_neg hkn'] at hk' hb'
        exact hd2 k' hk' b hb hb'
    · simp only [if_neg hkn] at hk hb
      by_cases hkn' : k' = nx
      · subst hkn'
        simp only [if_true] at hb'
        exact hd2 k hk b hb' hb
      · simp only [if_neg hkn'] at hk' hb'
        exact hm.apart k k' hk hk' hne b hb hb'
  · have hkn : k ≠ nx := fun h => hk (by unfold newOf; omega)
    simp only [if_neg hkn]
    exact ⟨trivial, trivial, trivial⟩
  · have hkn : k = nx := by unfold newOf at hk; omega
    subst hkn
    simpa using hb
theorem addNew_append (M : Mem) (nx : Nat) (a b : List Root) : addNew (addNew M nx a) (nx + a.length) b = addNew M nx (a ++ b) := by
  funext r
  unfold addNew
  by_cases h1 : nx + a.length ≤ r ∧ r < nx + a.length + b.length
  · rw [if_pos h1, if_pos (by rw [List.length_append]; omega)]
    rw [List.getD_eq_getElem?_getD, List.getD_eq_getElem?_getD, List.getElem?_append_right (by omega), show r - nx - a.length = r - (nx + a.length) by omega]
  · rw [if_neg h1]
    by_cases h2 : nx ≤ r ∧ r < nx + a.length
    · rw [if_pos h2, if_pos (by rw [List.length_append]; omega)]
      rw [List.getD_eq_getElem?_getD, List.getD_eq_getElem?_getD, List.getElem?_append_left (by omega)]
    · rw [if_neg h2, if_neg (by rw [List.length_append]; omega)]
theorem addNew_born {M : Mem} {nx : Nat} {a : List Root} {r : Nat} (h : ¬ newOf nx a.length r) : addNew M nx a r = M r := by
  unfold addNew
  exact if_neg h
theorem Adds.trans {M : Mem} {L L1 L2 : Lay} {nx : Nat} {a b : List Root} {F1 F2 F : FP} (h1 : Adds w S M (addNew M nx a) L L1 nx a.length F1) (h2 : Adds w S (addNew M nx a) (addNew (addNew M nx a) (nx + a.length) b) L1 L2 (nx + a.length) b.length F2)
    (hF1 : ∀ b, F1 b → F b) (hF2 : ∀ b, F2 b → F b) : Adds w S M (addNew M nx (a ++ b)) L L2 nx (a ++ b).length F := by
  have h2' := h2
  rw [addNew_append] at h2'
  refine ⟨h2'.rep, fun r hr => ?_, fun r hr x hx => ?_⟩
  · have e1 : ¬ newOf (nx + a.length) b.length r := fun h => hr (by unfold newOf at h ⊢; rw [List.length_append]; omega)
    have e2 : ¬ newOf nx a.length r := fun h => hr (by unfold newOf at h ⊢; rw [List.length_append]; omega)
    obtain ⟨a1, a2, a3⟩ := h2'.old r e1
    obtain ⟨b1, b2, b3⟩ := h1.old r e2
    exact ⟨a1.trans b1, a2.trans b2, a3.trans b3⟩
  · by_cases e1 : newOf (nx + a.length) b.length r
    · exact hF2 x (h2'.fp r e1 x hx)
    · obtain ⟨_, _, a3⟩ := h2'.old r e1
      rw [a3] at hx
      exact hF1 x (h1.fp r (by unfold newOf at hr e1 ⊢; rw [List.length_append] at hr; omega) x hx)
theorem fits_typed {own : Bool} : ∀ {ls : List Leaf} {row pre : List D}, fits own ls row = true → typedRow own (pre ++ row) pre.length ls = row
  | [], [], pre, _ => rfl
  | l :: ls, d :: ds, pre, h => by
    unfold fits at h
    rw [Bool.and_eq_true] at h
    have hg : (pre ++ d :: ds).getD pre.length .dead = d := by simp
    have ih := fits_typed (own := own) (ls := ls) (row := ds) (pre := pre ++ [d]) h.2
    rw [List.append_assoc, List.singleton_append, List.length_append, List.length_singleton] at ih
    unfold typedRow
    rw [hg, ih]
    congr 1
    cases l with
    | int k => obtain ⟨n, rfl⟩ := fit_int h.1; rfl
    | bool => obtain ⟨n, rfl⟩ := fit_bool h.1; rfl
    | str => obtain ⟨n, rfl⟩ := fit_str h.1; rfl
    | sl n f => obtain ⟨es, rfl⟩ := fit_sl h.1; rfl
    | other => simp [Leaf.fit] at h
  | [], _ :: _, _, h => by cases h
  | _ :: _, [], _, h => by cases h
theorem fits_row {own : Bool} {ls : List Leaf} {row : List D} (h : fits own ls row = true) : typedRow own row 0 ls = row := fits_typed (pre := []) h
theorem frame_sound {own : Bool} : ∀ {ls : List Leaf} {row : List D} {us : List Value} {F : FP} {nx : Nat} {M : Mem} {L : Lay}, fits own ls row = true → datRep w S row us F → MemRep w S M L → (∀ r, newOf nx (frameCells own row nx).2.length r → (M r).born = false) →
    (∀ r, (M r).live = true → ∀ b, F b → ¬ L.fp r b) → (∀ b, F b → b < w.heap.size ∧ ¬ S b) →
    ∃ L', Adds w S M (addNew M nx (frameCells own row nx).2) L L' nx (frameCells own row nx).2.length F ∧ cellsRep w S (addNew M nx (frameCells own row nx).2) L' (frameCells own row nx).1 us
  | [], [], [], F, nx, M, L, _, h, hm, _, _, _ => ⟨L, Adds.none hm nx F, trivial⟩
  | l :: ls, d :: ds, u :: us, F, nx, M, L, hf, ⟨F1, F2, h1, h2, h3, h4⟩, hm, hb, hdis, hown => by
    unfold fits at hf
    rw [Bool.and_eq_true] at hf
    have plain : (∀ b, ¬ F1 b) → d.here = true → (∀ n, frameCells own (d :: ds) n = (.d d :: (frameCells own ds n).1, (frameCells own ds n).2)) →
        ∃ L', Adds w S M (addNew M nx (frameCells own (d :: ds) nx).2) L L' nx (frameCells own (d :: ds) nx).2.length F ∧ cellsRep w S (addNew M nx (frameCells own (d :: ds) nx).2) L' (frameCells own (d :: ds) nx).1 (u :: us) := by
      intro hF1 hh he
      obtain ⟨L', a, c⟩ := frame_sound hf.2 h2 hm (fun r hr => hb r (by rw [he]; exact hr)) (fun r hr b hb2 => hdis r hr b ((h3 b).2 (.inr hb2))) (fun b hb2 => hown b ((h3 b).2 (.inr hb2)))
      rw [he]
      refine ⟨L', ⟨a.rep, a.old, fun r hr b hb2 => (h3 b).2 (.inr (a.fp r hr b hb2))⟩, ⟨hh, repD_fp h1 (fun b => ⟨fun h => hF1 b h, fun h => h.elim⟩)⟩, c⟩
    cases l with
    | int k => obtain ⟨n, rfl⟩ := fit_int hf.1; exact plain h1.2 rfl (fun _ => rfl)
    | bool => obtain ⟨n, rfl⟩ := fit_bool hf.1; exact plain h1.2 rfl (fun _ => rfl)
    | str => obtain ⟨n, rfl⟩ := fit_str hf.1; exact plain h1.2 rfl (fun _ => rfl)
    | other => simp [Leaf.fit] at hf
    | sl n f =>
      obtain ⟨es, rfl⟩ := fit_sl hf.1
      cases own with
      | false =>
        refine plain (fun b hb2 => ?_) rfl (fun _ => rfl)
        obtain ⟨A, cap, _, _, h1⟩ := h1
        rcases h1 with ⟨_, _, _, h⟩ | ⟨B, off, F', _, _, h⟩
        · exact h b hb2
        · rcases h with ⟨ho, _⟩ | ⟨_, h, _⟩
          · cases ho
          · exact h b hb2
      | true =>
        have hlen : (frameCells true (.sl true n es :: ds) nx).2.length = (frameCells true ds (nx + 1)).2.length + 1 := rfl
        have a1 := Adds.one (x := { box := false, sz := n, es := es }) (nx := nx) hm (hb nx ⟨Nat.le_refl _, by omega⟩) rfl rfl h1 (fun b hb2 => hown b ((h3 b).2 (.inl hb2))) (fun r hr b hb2 => hdis r hr b ((h3 b).2 (.inl hb2)))
        have hb' : ∀ r, newOf (nx + 1) (frameCells true ds (nx + 1)).2.length r → (addNew M nx [{ box := false, sz := n, es := es }] r).born = false := fun r hr => by
          unfold newOf at hr
          rw [addNew_born (by unfold newOf; simp; omega)]; exact hb r ⟨by omega, by omega⟩
        have hdis2 : ∀ r, (addNew M nx [{ box := false, sz := n, es := es }] r).live = true → ∀ b, F2 b → ¬ (if r = nx then F1 else L.fp r) b := by
          intro r hr b hb2
          by_cases hrn : r = nx
          · subst hrn
            simp only [if_true]
            exact fun hf1 => h4 b hf1 hb2
          · rw [addNew_born (by unfold newOf; simp; omega)] at hr
            simp only [if_neg hrn]
            exact hdis r hr b ((h3 b).2 (.inr hb2))
        obtain ⟨L2, a2, c2⟩ := frame_sound (nx := nx + 1) hf.2 h2 a1.rep hb' hdis2 (fun b hb2 => hown b ((h3 b).2 (.inr hb2)))
        · have a2' : Adds w S (addNew M nx [{ box := false, sz := n, es := es }]) (addNew (addNew M nx [{ box := false, sz := n, es := es }]) (nx + [({ box := false, sz := n, es := es } : Root)].length) (frameCells true ds (nx + 1)).2) _ L2 (nx + [({ box := false, sz := n, es := es } : Root)].length) (frameCells true ds (nx + 1)).2.length F2 := a2
          have a3 := Adds.trans (F := F) a1 a2' (fun b hb2 => (h3 b).2 (.inl hb2)) (fun b hb2 => (h3 b).2 (.inr hb2))
          have heq : addNew (addNew M nx [{ box := false, sz := n, es := es }]) (nx + 1) (frameCells true ds (nx + 1)).2 = addNew M nx ([{ box := false, sz := n, es := es }] ++ (frameCells true ds (nx + 1)).2) := addNew_append M nx [{ box := false, sz := n, es := es }] (frameCells true ds (nx + 1)).2
          refine ⟨L2, a3, ?_, ?_⟩
          · have hr : cRep w S (addNew M nx [{ box := false, sz := n, es := es }]) ⟨fun k => if k = nx then u else L.hd k, fun k => if k = nx then F1 else L.fp k⟩ (.view nx 0 0 [] n none) u := by
              obtain ⟨A, cap, rfl, _⟩ := h1
              refine ⟨by rw [addNew_one]; simp, ⟨_, _, _, rfl⟩, fun _ _ => ⟨es, A, _, cap, ?_, rfl⟩⟩
              rw [addNew_one]
              simp only [if_true]
              exact .nil _ _
            have := a2.cRep (fun r hr => hb' r hr) hr
            rw [heq] at this
            exact this
          · rw [heq] at c2
            exact c2
  | [], _ :: _, _, _, _, _, _, hf, _, _, _, _, _ => by cases hf
  | _ :: _, [], _, _, _, _, _, hf, _, _, _, _, _ => by cases hf
  | [], [], _ :: _, _, _, _, _, _, h, _, _, _, _ => h.elim
  | _ :: _, _ :: _, [], _, _, _, _, _, h, _, _, _, _ => h.elim
end
end Go.Ev
