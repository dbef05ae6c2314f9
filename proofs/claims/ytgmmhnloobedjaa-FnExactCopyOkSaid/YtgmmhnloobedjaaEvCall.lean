/- A call of a loaded function, on the caller's side. -/
import Derived.Test.YtgmmhnloobedjaaEvBack
namespace Go.Ev
open Go.RowKit
set_option linter.unusedVariables false
set_option linter.unusedSimpArgs false

theorem mem_dedup {r : Nat} : ∀ (n : Nat) {l : List Nat}, l.length ≤ n → (r ∈ l.eraseDups ↔ r ∈ l)
  | _, [], _ => by simp
  | 0, x :: l, h => by simp at h
  | n + 1, x :: l, h => by
    rw [List.eraseDups_cons, List.mem_cons, List.mem_cons, mem_dedup n (Nat.le_trans (List.length_filter_le _ _) (by simpa using h))]
    by_cases hx : r = x
    · simp [hx]
    · simp [hx]
theorem mem_dedup' {r : Nat} {l : List Nat} : r ∈ l.eraseDups ↔ r ∈ l := mem_dedup l.length (Nat.le_refl _)
theorem nodup_append : ∀ {xs ys : List Nat}, nodupB (xs ++ ys) = true → (∀ x ∈ xs, x ∉ ys) ∧ nodupB ys = true
  | [], ys, h => ⟨by simp, h⟩
  | x :: xs, ys, h => by
    simp only [List.cons_append, nodupB, Bool.and_eq_true] at h
    obtain ⟨h1, h2⟩ := nodup_append h.2
    refine ⟨fun y hy hin => ?_, h2⟩
    rcases List.mem_cons.1 hy with rfl | hy
    · have := h.1
      simp [hin] at this
    · exact h1 y hy hin
abbrev plainModes (mts : List (Mode × TypeId)) (tvs : List TV) : List (Mode × TV) := (mts.map (·.1)).zip tvs
theorem zip_modes {ms : List (Mode × TypeId)} {tvs : List TV} {y : (Mode × TypeId) × TV} (h : y ∈ ms.zip tvs) : (y.1.1, y.2) ∈ plainModes ms tvs := by
  unfold plainModes
  rw [List.zip_map_left]
  exact List.mem_map.2 ⟨y, h, rfl⟩
theorem inRoots_ex : ∀ {ms : List (Mode × TypeId)} {tvs : List TV} {r : Nat}, r ∈ inRoots ms tvs → r ∈ exRoots (plainModes ms tvs)
  | (m, t) :: ms, tv :: tvs, r, h => by
    show r ∈ exRoots ((m, tv) :: plainModes ms tvs)
    unfold exRoots
    rw [List.flatMap_cons]
    have ih := fun h => inRoots_ex (ms := ms) (tvs := tvs) (r := r) h
    cases m with
    | inout o =>
      rcases List.mem_append.1 (show r ∈ tv.roots ++ inRoots ms tvs from h) with h | h
      · exact List.mem_append_left _ h
      · exact List.mem_append_right _ (ih h)
    | lend => exact List.mem_append_right _ (ih h)
    | give => exact List.mem_append_right _ (ih h)
    | ro => exact List.mem_append_right _ (ih h)
  | [], _, _, h => by cases h
  | (m, t) :: _, [], _, h => by cases m <;> cases h
theorem ex_dedup {l : List (Mode × TV)} {r : Nat} (h : r ∈ exRoots l) : r ∈ l.flatMap fun x => if x.1.excl then x.2.roots.eraseDups else [] := by
  unfold exRoots at h
  obtain ⟨x, hx, hr⟩ := List.mem_flatMap.1 h
  refine List.mem_flatMap.2 ⟨x, hx, ?_⟩
  split at hr
  · rename_i hm; rw [if_pos hm]; exact mem_dedup'.2 hr
  · cases hr
theorem apart_of : ∀ {ms : List (Mode × TypeId)} {tvs : List TV}, giveNodup (plainModes ms tvs) = true → (∀ r ∈ exRoots (plainModes ms tvs), r ∉ shRoots (plainModes ms tvs)) → apartP ms tvs ∧ inApart ms tvs
  | [], _, _, _ => ⟨trivial, trivial⟩
  | (m, t) :: ms, [], _, _ => ⟨trivial, by cases m <;> exact trivial⟩
  | (m, t) :: ms, tv :: tvs, h, hs => by
    have hl : plainModes ((m, t) :: ms) (tv :: tvs) = (m, tv) :: plainModes ms tvs := rfl
    rw [hl] at h hs
    unfold giveNodup at h
    rw [List.flatMap_cons] at h
    obtain ⟨h1, h2⟩ := nodup_append h
    have hs2 : ∀ r ∈ exRoots (plainModes ms tvs), r ∉ shRoots (plainModes ms tvs) := fun r hr hr2 => by
      refine hs r ?_ ?_
      · unfold exRoots at hr ⊢; rw [List.flatMap_cons]; exact List.mem_append_right _ hr
      · unfold shRoots at hr2 ⊢; rw [List.flatMap_cons]; exact List.mem_append_right _ hr2
    obtain ⟨a1, a2⟩ := apart_of h2 hs2
    have later : ∀ r ∈ tv.roots, r ∈ exRoots (plainModes ms tvs) → False := fun r hr hin => by
      by_cases hm : m.excl = true
      · exact h1 r (by rw [if_pos hm]; exact mem_dedup'.2 hr) (ex_dedup hin)
      · refine hs r ?_ ?_
        · unfold exRoots at hin ⊢; rw [List.flatMap_cons]; exact List.mem_append_right _ hin
        · unfold shRoots; rw [List.flatMap_cons]; exact List.mem_append_left _ (by rw [if_neg hm]; exact hr)
    refine ⟨⟨fun r hr y hy hg hin => later r hr ?_, a1⟩, ?_⟩
    · unfold exRoots
      exact List.mem_flatMap.2 ⟨_, zip_modes hy, by simp [hg, Mode.excl, hin]⟩
    · cases m with
      | inout o => exact ⟨fun r hr hin => later r hr (inRoots_ex hin), a2⟩
      | lend => exact a2
      | give => exact a2
      | ro => exact a2
theorem backRep_deep {w' : World} {S Sc : FP} : ∀ {mts : List (Mode × TypeId)} {vs : List Value} {backs : List (List D)} {F : FP}, backRep w' Sc mts vs backs F → deepRows backs = true → backRep w' S mts vs backs F
  | [], [], [], _, h, _ => h
  | (.inout o, t) :: ms, v :: vs, row :: rows, F, ⟨B, off, F', F1, F2, h1, h2, h3, h4, h5, h6, h7⟩, hd => by
    simp only [deepRows, Bool.and_eq_true] at hd
    exact ⟨B, off, F', F1, F2, h1, deepRow_rep h2 hd.1, h3, h4, backRep_deep h5 hd.2, h6, h7⟩
  | (.lend, t) :: ms, v :: vs, rows, F, h, hd => backRep_deep (mts := ms) (vs := vs) h hd
  | (.give, t) :: ms, v :: vs, rows, F, h, hd => backRep_deep (mts := ms) (vs := vs) h hd
  | (.ro, t) :: ms, v :: vs, rows, F, h, hd => backRep_deep (mts := ms) (vs := vs) h hd
  | [], [], _ :: _, _, h, _ => h.elim
  | [], _ :: _, _, _, h, _ => h.elim
  | (.inout _, _) :: _, [], _, _, h, _ => h.elim
  | (.inout _, _) :: _, _ :: _, [], _, h, _ => h.elim
  | (.lend, _) :: _, [], _, _, h, _ => h.elim
  | (.give, _) :: _, [], _, _, h, _ => h.elim
  | (.ro, _) :: _, [], _, _, h, _ => h.elim
section
variable {P : Program} {w : World} {S : FP}
theorem cRep_born {M : Mem} {L : Lay} {c : C} {v : Value} (h : cRep w S M L c v) : ∀ r ∈ c.roots, (M r).born = true := by
  intro r hr
  cases c with
  | view r' ga gh q sz sub => have : r = r' := by simpa [C.roots] using hr
                              subst this; exact h.1.1
  | ptr r' ga gh q sz i j => have : r = r' := by simpa [C.roots] using hr
                             subst this; exact h.1.1
  | _ => cases hr
theorem cells_born {M : Mem} {L : Lay} : ∀ {cs : List C} {vs : List Value}, cellsRep w S M L cs vs → ∀ r ∈ cs.flatMap C.roots, (M r).born = true
  | [], _, _, r, hr => by cases hr
  | c :: cs, v :: vs, h, r, hr => by
    rw [List.flatMap_cons] at hr
    rcases List.mem_append.1 hr with hr | hr
    · exact cRep_born h.1 r hr
    · exact cells_born h.2 r hr
  | _ :: _, [], h, _, _ => h.elim
theorem tv1_born {M : Mem} {L : Lay} {a : Bool} {cs : List C} {v : Value} (h : tvRep1 w S M L a cs v) : ∀ r ∈ cs.flatMap C.roots, (M r).born = true := by
  cases a with
  | true => obtain ⟨vs, _, h⟩ := h; exact cells_born h
  | false =>
    match cs, h with
    | [c], h => intro r hr; exact cRep_born h r (by simpa using hr)
theorem tup_born {M : Mem} {L : Lay} : ∀ {xs : List (Bool × List C)} {vs : List Value}, tupRep w S M L xs vs → ∀ r ∈ xs.flatMap (fun x => x.2.flatMap C.roots), (M r).born = true
  | [], _, _, r, hr => by cases hr
  | x :: xs, v :: vs, h, r, hr => by
    rw [List.flatMap_cons] at hr
    rcases List.mem_append.1 hr with hr | hr
    · exact tv1_born h.1 r hr
    · exact tup_born h.2 r hr
  | _ :: _, [], h, _, _ => h.elim
theorem tv_born {M : Mem} {L : Lay} {x : TV} {v : Value} (h : tvRep w S M L x v) : ∀ r ∈ x.roots, (M r).born = true := by
  cases x with
  | v a cs => exact tv1_born h
  | tup xs => obtain ⟨vs, _, h⟩ := h; exact tup_born h
theorem ops_born {M : Mem} {L : Lay} : ∀ {xs : List TV} {vs : List Value}, opsRep w S M L xs vs → ∀ r ∈ xs.flatMap TV.roots, (M r).born = true
  | [], _, _, r, hr => by cases hr
  | x :: xs, v :: vs, h, r, hr => by
    rw [List.flatMap_cons] at hr
    rcases List.mem_append.1 hr with hr | hr
    · exact tv_born h.1 r hr
    · exact ops_born h.2 r hr
  | _ :: _, [], h, _, _ => h.elim

/-- The results in the caller's frame. -/
theorem res_sound {own : Bool} : ∀ {ts : List TypeId} {rows : List (List D)} {us : List Value} {F : FP} {nx : Nat} {M : Mem} {L : Lay}, (resVals P own ts rows nx).1 = true → outRep P w S ts rows us F → MemRep w S M L → (∀ r, newOf nx (resVals P own ts rows nx).2.2.length r → (M r).born = false) →
    (∀ r, (M r).live = true → ∀ b, F b → ¬ L.fp r b) → (∀ b, F b → b < w.heap.size ∧ ¬ S b) →
    ∃ L', Adds w S M (addNew M nx (resVals P own ts rows nx).2.2) L L' nx (resVals P own ts rows nx).2.2.length F ∧ tupRep w S (addNew M nx (resVals P own ts rows nx).2.2) L' (resVals P own ts rows nx).2.1 us
  | [], [], [], F, nx, M, L, _, h, hm, _, _, _ => ⟨L, Adds.none hm nx F, trivial⟩
  | t :: ts, row :: rows, u :: us, F, nx, M, L, he, ⟨F1, F2, h0, h1, h2, h3, h4⟩, hm, hb, hd, ho => by
    simp only [resVals, List.headD_cons, List.tail_cons, Bool.and_eq_true] at he hb ⊢
    obtain ⟨hf, he⟩ := he
    rw [fits_row hf] at he hb ⊢
    simp only [List.length_append] at hb
    obtain ⟨L1, a1, c1⟩ := frame_sound (nx := nx) hf h1 hm (fun r hr => hb r ⟨hr.1, by have := hr.2; omega⟩) (fun r hr b hx => hd r hr b ((h3 b).2 (.inl hx))) (fun b hx => ho b ((h3 b).2 (.inl hx)))
    have hb1 : ∀ r, newOf (nx + (frameCells own row nx).2.length) (resVals P own ts rows (nx + (frameCells own row nx).2.length)).2.2.length r → (addNew M nx (frameCells own row nx).2 r).born = false := fun r hr => by
      unfold newOf at hr
      rw [addNew_born (by unfold newOf; omega)]; exact hb r ⟨by omega, by omega⟩
    obtain ⟨L2, a2, c2⟩ := res_sound (M := addNew M nx (frameCells own row nx).2) (L := L1) he h2 a1.rep hb1 (fun r hr b hf => by
      by_cases hn : newOf nx (frameCells own row nx).2.length r
      · exact fun hx => h4 b (a1.fp r hn b hx) hf
      · obtain ⟨e1, _, e3⟩ := a1.old r hn
        rw [e1] at hr
        rw [e3]
        exact hd r hr b ((h3 b).2 (.inr hf))) (fun b hf => ho b ((h3 b).2 (.inr hf)))
    have a3 := Adds.trans (F := F) a1 a2 (fun b hf => (h3 b).2 (.inl hf)) (fun b hf => (h3 b).2 (.inr hf))
    have heq := addNew_append M nx (frameCells own row nx).2 (resVals P own ts rows (nx + (frameCells own row nx).2.length)).2.2
    have hc := tvRep1_stay (fun c v hc => a2.cRep (fun r hr => hb1 r hr) hc) (frame_tv h0 c1)
    rw [heq] at hc c2
    exact ⟨L2, a3, hc, c2⟩
  | [], [], _ :: _, _, _, _, _, _, h, _, _, _, _ => h.elim
  | [], _ :: _, _, _, _, _, _, _, h, _, _, _, _ => h.elim
  | _ :: _, [], _, _, _, _, _, _, h, _, _, _, _ => h.elim
  | _ :: _, _ :: _, [], _, _, _, _, _, h, _, _, _, _ => h.elim
theorem pack_rep {M : Mem} {L : Lay} {xs : List (Bool × List C)} {us : List Value} (h : tupRep w S M L xs us) : tvRep w S M L (packTV xs) (resVal us) := by
  match xs, us, h with
  | [], [], h => exact ⟨_, rfl, h⟩
  | [x], [u], h => exact h.1
  | x :: y :: xs, u :: v :: us, h => exact ⟨_, rfl, h⟩
  | [x], u :: v :: us, h => exact h.2.elim
  | x :: y :: xs, [u], h => exact h.2.elim

theorem call_sound {H : Hints} {call : CallF} (hs : Sound P H call) {f : FuncId} {fn : Func} (hf : P.funcs[f]? = some fn) {M : Mem} {L : Lay} {R : List Nat} {nx : Nat} {rs rs1 rs2 : Look} {mts : List (Mode × TypeId)} {tvs : List TV} {vs : List Value} {rows out back : List (List D)} {own : Bool}
    (hmts : mts = (H.modes f fn.params.size).zip fn.params.toList) (hm : MemRep w S M L) (hover : over M rs = M) (hk1 : ∀ r ∈ tvs.flatMap TV.roots, r ∈ rs.keys) (hk2 : ∀ r ∈ rs.keys, r ∈ tvs.flatMap TV.roots) (hR : ∀ r ∈ tvs.flatMap TV.roots, r ∈ R) (hfresh : ∀ r, newOf nx (resVals P own fn.resultTypes.toList out nx).2.2.length r → (M r).born = false)
    (hv : opsRep w S M L tvs vs) (hap : apartArgs (plainModes mts tvs) = true) (hargs : argRows P mts tvs rs = some (true, rows, rs1)) (hcall : call f rows = some (true, out, back)) (hback : backAll P mts tvs back rs1 = some (true, rs2))
    (hres : (resVals P own fn.resultTypes.toList out nx).1 = true) (hclean : cleanOut (plainModes mts tvs) out back = true) :
    (fn.name == "runtime.NumGoroutine") = false ∧ fn.body.isNone = false ∧ Calls P f vs.toArray w fun e w' => match e with
      | .returned v => ∃ L', tvRep w' S (addNew (over M rs2) nx (resVals P own fn.resultTypes.toList out nx).2.2) L' (packTV (resVals P own fn.resultTypes.toList out nx).2.1) v ∧
          Turns w w' S S M (addNew (over M rs2) nx (resVals P own fn.resultTypes.toList out nx).2.2) L L' R (newOf nx (resVals P own fn.resultTypes.toList out nx).2.2.length)
      | _ => False := by
  obtain ⟨c1, c2, hc⟩ := hs f fn rows out back hf hcall
  refine ⟨c1, c2, ?_⟩
  unfold apartArgs at hap
  simp only [Bool.and_eq_true, Bool.not_eq_true', List.any_eq_false] at hap
  have hsep : ∀ r ∈ exRoots (plainModes mts tvs), r ∉ shRoots (plainModes mts tvs) := fun r hr hx => hap.2 r hr (List.contains_iff_mem.2 hx)
  obtain ⟨hap1, hap2⟩ := apart_of hap.1 hsep
  obtain ⟨G, L1, mv, hkeys, hdone⟩ := args_sound (rs := rs) (by rw [hover]; exact hm) (by rw [hover]; exact hv) hap1 hargs
  rw [hover] at mv
  have hm1 := mv.rep
  -- what the callee may read
  let Sc : FP := fun b => S b ∨ ∃ r, r ∈ shRoots (plainModes mts tvs) ∧ (over M rs1 r).live = true ∧ L1.fp r b
  have hSc : ∀ b, S b → Sc b := fun b h => .inl h
  have hd := hdone Sc hSc (fun y hy hx r hr hl b hb => .inr ⟨r, by
    unfold shRoots
    exact List.mem_flatMap.2 ⟨_, zip_modes hy, by simp [hx, hr]⟩, hl, hb⟩)
  obtain ⟨F, hout, harg, hF⟩ := args_ready hm1 hSc hap2 hd (fun b hb => by
    obtain ⟨r, _, h3, h4⟩ := mv.out b hb
    exact ⟨(hm.own r h3 b h4).1, (hm.own r h3 b h4).2, fun r hl => mv.apart r hl b hb⟩)
  have hFS : ∀ b, F b → b < w.heap.size ∧ ¬ Sc b := fun b hb => by
    rcases hF b hb with hg | ⟨r, hr, hl, hf⟩
    · obtain ⟨r, _, h3, h4⟩ := mv.out b hg
      refine ⟨(hm.own r h3 b h4).1, fun hx => ?_⟩
      rcases hx with hx | ⟨r', _, hl', hf'⟩
      · exact (hm.own r h3 b h4).2 hx
      · exact mv.apart r' hl' b hg hf'
    · refine ⟨(hm1.own r hl b hf).1, fun hx => ?_⟩
      rcases hx with hx | ⟨r', hr', hl', hf'⟩
      · exact (hm1.own r hl b hf).2 hx
      · exact hm1.apart r r' hl hl' (fun he => hsep r (inRoots_ex hr) (he ▸ hr')) b hf hf'
  have hFM : ∀ b, F b → ∃ r, r ∈ R ∧ (M r).live = true ∧ L.fp r b := fun b hb => by
    rcases hF b hb with hg | ⟨r, hr, hl, hf⟩
    · obtain ⟨r, h2, h3, h4⟩ := mv.out b hg
      refine ⟨r, hR r ?_, h3, h4⟩
      unfold giveRoots at h2
      obtain ⟨y, hy, hyr⟩ := List.mem_flatMap.1 h2
      split at hyr
      · exact List.mem_flatMap.2 ⟨y.2, (List.of_mem_zip hy).2, hyr⟩
      · cases hyr
    · refine ⟨r, hR r ?_, mv.live r hl, mv.fp r hl b hf⟩
      have := inRoots_ex hr
      unfold exRoots at this
      obtain ⟨x, hx, hxr⟩ := List.mem_flatMap.1 this
      split at hxr
      · exact List.mem_flatMap.2 ⟨x.2, (List.of_mem_zip hx).2, hxr⟩
      · cases hxr
  have hScz : ∀ b, Sc b → b < w.heap.size := fun b hb => by
    rcases hb with hb | ⟨r, _, hl, hf⟩
    · exact hm.lent b hb
    · exact (hm1.own r hl b hf).1
  have hcl := hc w Sc F vs hScz hFS (by rw [← hmts]; exact harg)
  refine hcl.mono (fun e w' he => ?_)
  cases e with
  | returned v =>
    simp only at he ⊢
    rw [← hmts] at he
    obtain ⟨hbel, hfr, hin, us, G1, G2, rfl, houts, hbk, hG12, hGG⟩ := he
    -- back to our own lent blocks
    have hlentS : outRep P w' S fn.resultTypes.toList out us G1 ∧ backRep w' S mts vs back G2 := by
      unfold cleanOut at hclean
      cases hsh : (shRoots (plainModes mts tvs)).isEmpty with
      | true =>
        have hScS : Sc = S := by
          funext b
          refine propext ⟨fun h => ?_, fun h => .inl h⟩
          rcases h with h | ⟨r, hr, _⟩
          · exact h
          · rw [List.isEmpty_iff.1 hsh] at hr; cases hr
        rw [hScS] at houts hbk
        exact ⟨houts, hbk⟩
      | false =>
        rw [hsh] at hclean
        simp only [cond_false, Bool.and_eq_true] at hclean
        exact ⟨outRep_deep houts hclean.1, backRep_deep hbk hclean.2⟩
    obtain ⟨houts, hbk⟩ := hlentS
    have hframe : ∀ b, b < w.heap.size → ¬ F b → w'.heap[b]? = w.heap[b]? := hfr
    have hSF : ∀ b, S b → ¬ F b := fun b hb hf => (hFS b hf).2 (.inl hb)
    have hlive := inRoots_live hout
    have hrest := argsOut_out hm1 hout
    have hkR : ∀ r, r ∉ R → r ∉ inRoots mts tvs := fun r hr hin => hr (by
      have := inRoots_ex hin
      unfold exRoots at this
      obtain ⟨x, hx, hxr⟩ := List.mem_flatMap.1 this
      split at hxr
      · exact hR r (List.mem_flatMap.2 ⟨x.2, (List.of_mem_zip hx).2, hxr⟩)
      · cases hxr)
    have hgR : ∀ r, r ∉ R → r ∉ giveRoots mts tvs := fun r hr hin => hr (by
      unfold giveRoots at hin
      obtain ⟨y, hy, hyr⟩ := List.mem_flatMap.1 hin
      split at hyr
      · exact hR r (List.mem_flatMap.2 ⟨y.2, (List.of_mem_zip hy).2, hyr⟩)
      · cases hyr)
    have hholes := holes_rep (X := inRoots mts tvs) (w' := w') hm1 hbel.size (fun b hb => hframe b (hm.lent b hb) (hSF b hb)) (fun r hr hl b hb => hframe b (hm1.own r hl b hb).1 (fun hx => hrest r hl hr b hx hb))
    obtain ⟨L2, hm2, hhd2, hkeys2, hothers, hins⟩ := back_sound hm1 hbel.size hframe hSF hout hap2 hbk hin (fun r hr => by
        refine ⟨?_, rfl⟩
        rw [hkeys]
        have := inRoots_ex hr
        unfold exRoots at this
        obtain ⟨x, hx, hxr⟩ := List.mem_flatMap.1 this
        split at hxr
        · exact hk1 r (List.mem_flatMap.2 ⟨x.2, (List.of_mem_zip hx).2, hxr⟩)
        · cases hxr) hholes (fun _ => rfl) (fun b h => h) (fun b h hn => absurd h hn) (fun b hb => by
        obtain ⟨h1, h2, h3⟩ := hGG b (.inr hb)
        exact ⟨h1, h2, fun hx => h3 (.inl hx)⟩) (fun r hr b hf hn k hlk hx => by
        obtain ⟨k1, k2, _⟩ := holes_live hlk
        exact hm1.apart r k (hlive r hr) k2 (fun he => k1 (he ▸ hr)) b hf hx) (fun b hb k hlk hx => by
        obtain ⟨k1, k2, _⟩ := holes_live hlk
        rcases (hGG b (.inr hb)).1 with h | h
        · exact hrest k k2 k1 b h hx
        · have := (hm1.own k k2 b hx).1; omega) hback
    have hborn2 : ∀ r, newOf nx (resVals P own fn.resultTypes.toList out nx).2.2.length r → (over M rs2 r).born = false := fun r hr => by
      have hnk : r ∉ rs2.keys := fun hx => by
        rw [hkeys2, hkeys] at hx
        have := ops_born hv r (hk2 r hx)
        rw [hfresh r hr] at this
        cases this
      rw [over_not hnk]; exact hfresh r hr
    have hdis : ∀ r, (over M rs2 r).live = true → ∀ b, G1 b → ¬ L2.fp r b := fun r hl b hb hx => by
      have h1 := (hGG b (.inl hb)).1
      by_cases hr : r ∈ inRoots mts tvs
      · rcases (hins r hr).2 b hx with ⟨h2, h3⟩ | h2
        · rcases h1 with h1 | h1
          · exact h3 h1
          · have := (hm1.own r (hlive r hr) b h2).1; omega
        · exact hG12 b hb h2
      · obtain ⟨e1, e2⟩ := hothers r hr
        rw [e1] at hl
        rw [e2] at hx
        rcases h1 with h1 | h1
        · exact hrest r hl hr b h1 hx
        · have := (hm1.own r hl b hx).1; omega
    obtain ⟨L3, a3, t3⟩ := res_sound (own := own) (nx := nx) hres houts hm2 hborn2 hdis (fun b hb => by
      obtain ⟨_, h2, h3⟩ := hGG b (.inl hb)
      exact ⟨h2, fun hx => h3 (.inl hx)⟩)
    refine ⟨L3, pack_rep t3, ?_⟩
    have hN : ∀ r, ¬ newOf nx (resVals P own fn.resultTypes.toList out nx).2.2.length r → addNew (over M rs2) nx (resVals P own fn.resultTypes.toList out nx).2.2 r = over M rs2 r ∧ L3.hd r = L.hd r ∧ L3.fp r = L2.fp r := fun r hr => by
      obtain ⟨e1, e2, e3⟩ := a3.old r hr
      exact ⟨e1, e2.trans ((hhd2 r).trans (mv.hd r)), e3⟩
    have hstill : ∀ r, (over M rs1 r).live = true → r ∉ inRoots mts tvs → ∀ b, L1.fp r b → w'.heap[b]? = w.heap[b]? := fun r hl hr b hb =>
      hframe b (hm1.own r hl b hb).1 (fun hx => hrest r hl hr b hx hb)
    refine ⟨a3.rep, hbel, fun _ h => h, fun b hb hn => hframe b hb (fun hx => ?_), fun r hr => ?_, fun r hr hl => ?_, fun r hr hn => ?_, fun r hl b hb => ?_, fun b hb => .inl hb, fun r hr hl hl' => ?_, fun r hr hl hbx => ?_⟩
    · obtain ⟨r, h1, h2, h3⟩ := hFM b hx
      exact hn r h1 h2 h3
    · obtain ⟨e1, e2, _⟩ := hN r hr
      rw [e1, e2]
      have k1 := mv.keeps r
      rw [mv.hd r] at k1
      refine keeps_trans k1 ?_
      by_cases hin : r ∈ inRoots mts tvs
      · have := (hins r hin).1.keeps
        rw [mv.hd r] at this
        exact this
      · rw [(hothers r hin).1]
        refine keeps_same (S := S) (F := L1.fp r) (fun hl => ⟨?_, hstill r hl hin⟩)
        have := hm1.rep r hl
        rw [mv.hd r] at this
        exact this
    · obtain ⟨e1, _, _⟩ := hN r hr
      rw [e1] at hl
      by_cases hin : r ∈ inRoots mts tvs
      · exact mv.live r (hlive r hin)
      · rw [(hothers r hin).1] at hl
        exact mv.live r hl
    · obtain ⟨e1, e2, e3⟩ := hN r hn
      obtain ⟨b1, b2⟩ := hothers r (hkR r hr)
      have hsame := mv.same r (hgR r hr)
      refine ⟨by rw [e1, b1, hsame], e2, fun _ b hb => ?_⟩
      rw [e3, b2] at hb
      rw [← mv.fpsame r (hgR r hr)]
      exact hb
    · by_cases hr : newOf nx (resVals P own fn.resultTypes.toList out nx).2.2.length r
      · have hg := a3.fp r hr b hb
        rcases (hGG b (.inl hg)).1 with h | h
        · obtain ⟨r', _, h2, h3⟩ := hFM b h; exact .inl ⟨r', h2, h3⟩
        · exact .inr h
      · obtain ⟨e1, e2, e3⟩ := hN r hr
        rw [e1] at hl
        rw [e3] at hb
        by_cases hin : r ∈ inRoots mts tvs
        · rcases (hins r hin).2 b hb with ⟨h2, _⟩ | h2
          · exact .inl ⟨r, mv.live r (hlive r hin), mv.fp r (hlive r hin) b h2⟩
          · rcases (hGG b (.inr h2)).1 with h | h
            · obtain ⟨r', _, h2, h3⟩ := hFM b h; exact .inl ⟨r', h2, h3⟩
            · exact .inr h
        · obtain ⟨b1, b2⟩ := hothers r hin
          rw [b1] at hl
          rw [b2] at hb
          exact .inl ⟨r, mv.live r hl, mv.fp r hl b hb⟩
    · obtain ⟨e1, e2, e3⟩ := hN r hr
      rw [e1] at hl' ⊢
      obtain ⟨k1, k2, k3⟩ := mv.keep r
      by_cases hin : r ∈ inRoots mts tvs
      · obtain ⟨bk, _⟩ := hins r hin
        obtain ⟨s1, s2, s3⟩ := bk.same
        refine ⟨e2, s1.trans k1, s2.trans k2, s3.trans k3, ?_⟩
        have := bk.within
        rw [mv.hd r, k2, k3] at this
        exact this
      · obtain ⟨b1, _⟩ := hothers r hin
        rw [b1] at hl' ⊢
        refine ⟨e2, k1, k2, k3, Within.refl (fun B off len cap he => hstill r hl' hin B ?_)⟩
        have hrep := hm1.rep r hl'
        rw [mv.hd r, he] at hrep
        obtain ⟨F', _, _, _, _, hFF, _⟩ := rep_some hrep
        exact (hFF B).2 (.inl rfl)
    · obtain ⟨e1, _, _⟩ := hN r hr
      rw [e1]
      by_cases hin : r ∈ inRoots mts tvs
      · exact (hins r hin).1.live
      · rw [(hothers r hin).1]
        exact mv.box r hl hbx
  | _ => exact he.elim
end
end Go.Ev
