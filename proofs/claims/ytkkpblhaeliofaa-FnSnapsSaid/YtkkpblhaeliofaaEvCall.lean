/- A call of a loaded function, on the caller's side. -/
import Derived.Test.YtkkpblhaeliofaaEvSeat
namespace Go.Ev
open Go.RowKit
set_option linter.unusedVariables false
set_option linter.unusedSimpArgs false
theorem mem_dedup {r : Nat} : ∀ (n : Nat) {l : List Nat}, l.length ≤ n → (r ∈ l.eraseDups ↔ r ∈ l)
  | _, [], _ => by simp
  | 0, x :: l, h => by simp at h
  | n + 1, x :: l, h => by
    rw [List.eraseDups_cons, List.mem_cons, List.mem_cons, mem_dedup n (Nat.le_trans (List.length_filter_le _ _) (by simpa using h))]
    by_cases hx : r = x
    · simp [hx]
    · simp [hx]
theorem mem_dedup' {r : Nat} {l : List Nat} : r ∈ l.eraseDups ↔ r ∈ l := mem_dedup l.length (Nat.le_refl _)
theorem nodup_append : ∀ {xs ys : List Nat}, nodupB (xs ++ ys) = true → (∀ x ∈ xs, x ∉ ys) ∧ nodupB ys = true
  | [], ys, h => ⟨by simp, h⟩
  | x :: xs, ys, h => by
    simp only [List.cons_append, nodupB, Bool.and_eq_true] at h
    obtain ⟨h1, h2⟩ := nodup_append h.2
    refine ⟨fun y hy hin => ?_, h2⟩
    rcases List.mem_cons.1 hy with rfl | hy
    · have := h.1
      simp [hin] at this
    · exact h1 y hy hin
theorem deepRows_take : ∀ {es : List (List D)}, deepRows es = true → ∀ n, deepRows (es.take n) = true
  | [], _, n => by simp [deepRows]
  | e :: es, h, 0 => rfl
  | e :: es, h, n + 1 => by
    simp only [deepRows, Bool.and_eq_true] at h
    simp only [List.take_succ_cons, deepRows, Bool.and_eq_true]
    exact ⟨h.1, deepRows_take h.2 n⟩
theorem deepRows_drop : ∀ {es : List (List D)}, deepRows es = true → ∀ n, deepRows (es.drop n) = true
  | [], _, n => by simp [deepRows]
  | e :: es, h, 0 => h
  | e :: es, h, n + 1 => by
    simp only [deepRows, Bool.and_eq_true] at h
    exact deepRows_drop h.2 n
theorem deepRow_append : ∀ {a b : List D}, deepRow a = true → deepRow b = true → deepRow (a ++ b) = true
  | [], b, _, h => h
  | d :: a, b, h, h' => by
    simp only [deepRow, Bool.and_eq_true] at h
    simp only [List.cons_append, deepRow, Bool.and_eq_true]
    exact ⟨h.1, deepRow_append h.2 h'⟩
theorem deepRows_flat : ∀ {es : List (List D)}, deepRows es = true → deepRow es.flatten = true
  | [], _ => rfl
  | e :: es, h => by
    simp only [deepRows, Bool.and_eq_true] at h
    rw [List.flatten_cons]
    exact deepRow_append h.1 (deepRows_flat h.2)
abbrev plainModes (mts : List (Mode × TypeId)) (tvs : List TV) : List (Mode × TV) := (mts.map (·.1)).zip tvs
theorem zip_modes {ms : List (Mode × TypeId)} {tvs : List TV} {y : (Mode × TypeId) × TV} (h : y ∈ ms.zip tvs) : (y.1.1, y.2) ∈ plainModes ms tvs := by
  unfold plainModes
  rw [List.zip_map_left]
  exact List.mem_map.2 ⟨y, h, rfl⟩
theorem inRoots_ex : ∀ {ms : List (Mode × TypeId)} {tvs : List TV} {r : Nat}, r ∈ inRoots ms tvs → r ∈ exRoots (plainModes ms tvs)
  | (m, t) :: ms, tv :: tvs, r, h => by
    show r ∈ exRoots ((m, tv) :: plainModes ms tvs)
    unfold exRoots
    rw [List.flatMap_cons]
    have ih := fun h => inRoots_ex (ms := ms) (tvs := tvs) (r := r) h
    cases m with
    | inout o =>
      rcases List.mem_append.1 (show r ∈ tv.roots ++ inRoots ms tvs from h) with h | h
      · exact List.mem_append_left _ h
      · exact List.mem_append_right _ (ih h)
    | lend => exact List.mem_append_right _ (ih h)
    | give => exact List.mem_append_right _ (ih h)
    | ro => exact List.mem_append_right _ (ih h)
  | [], _, _, h => by cases h
  | (m, t) :: _, [], _, h => by cases m <;> cases h
theorem ex_dedup {l : List (Mode × TV)} {r : Nat} (h : r ∈ exRoots l) : r ∈ l.flatMap fun x => if x.1.excl then x.2.roots.eraseDups else [] := by
  unfold exRoots at h
  obtain ⟨x, hx, hr⟩ := List.mem_flatMap.1 h
  refine List.mem_flatMap.2 ⟨x, hx, ?_⟩
  split at hr
  · rename_i hm; rw [if_pos hm]; exact mem_dedup'.2 hr
  · cases hr
theorem apart_of : ∀ {ms : List (Mode × TypeId)} {tvs : List TV}, giveNodup (plainModes ms tvs) = true → (∀ r ∈ exRoots (plainModes ms tvs), r ∉ shRoots (plainModes ms tvs)) → apartP ms tvs ∧ inApart ms tvs
  | [], _, _, _ => ⟨trivial, trivial⟩
  | (m, t) :: ms, [], _, _ => ⟨trivial, by cases m <;> exact trivial⟩
  | (m, t) :: ms, tv :: tvs, h, hs => by
    have hl : plainModes ((m, t) :: ms) (tv :: tvs) = (m, tv) :: plainModes ms tvs := rfl
    rw [hl] at h hs
    unfold giveNodup at h
    rw [List.flatMap_cons] at h
    obtain ⟨h1, h2⟩ := nodup_append h
    have hs2 : ∀ r ∈ exRoots (plainModes ms tvs), r ∉ shRoots (plainModes ms tvs) := fun r hr hr2 => by
      refine hs r ?_ ?_
      · unfold exRoots at hr ⊢; rw [List.flatMap_cons]; exact List.mem_append_right _ hr
      · unfold shRoots at hr2 ⊢; rw [List.flatMap_cons]; exact List.mem_append_right _ hr2
    obtain ⟨a1, a2⟩ := apart_of h2 hs2
    have later : ∀ r ∈ tv.roots, r ∈ exRoots (plainModes ms tvs) → False := fun r hr hin => by
      by_cases hm : m.excl = true
      · exact h1 r (by rw [if_pos hm]; exact mem_dedup'.2 hr) (ex_dedup hin)
      · refine hs r ?_ ?_
        · unfold exRoots at hin ⊢; rw [List.flatMap_cons]; exact List.mem_append_right _ hin
        · unfold shRoots; rw [List.flatMap_cons]; exact List.mem_append_left _ (by rw [if_neg hm]; exact hr)
    refine ⟨⟨fun r hr y hy hg hin => later r hr ?_, a1⟩, ?_⟩
    · unfold exRoots
      exact List.mem_flatMap.2 ⟨_, zip_modes hy, by simp [hg, Mode.excl, hin]⟩
    · cases m with
      | inout o => exact ⟨fun r hr hin => later r hr (inRoots_ex hin), a2⟩
      | lend => exact a2
      | give => exact a2
      | ro => exact a2
theorem backRep_deep {w' : World} {S Sc : FP} : ∀ {mts : List (Mode × TypeId)} {vs : List Value} {backs : List (List D)} {F : FP}, backRep w' Sc mts vs backs F → deepRows backs = true → backRep w' S mts vs backs F
  | [], [], [], _, h, _ => h
  | (.inout o, t) :: ms, v :: vs, row :: rows, F, ⟨B, off, F', F1, F2, h1, h2, h3, h4, h5, h6, h7⟩, hd => by
    simp only [deepRows, Bool.and_eq_true] at hd
    exact ⟨B, off, F', F1, F2, h1, deepRow_rep h2 hd.1, h3, h4, backRep_deep h5 hd.2, h6, h7⟩
  | (.lend, t) :: ms, v :: vs, rows, F, h, hd => backRep_deep (mts := ms) (vs := vs) h hd
  | (.give, t) :: ms, v :: vs, rows, F, h, hd => backRep_deep (mts := ms) (vs := vs) h hd
  | (.ro, t) :: ms, v :: vs, rows, F, h, hd => backRep_deep (mts := ms) (vs := vs) h hd
  | [], [], _ :: _, _, h, _ => h.elim
  | [], _ :: _, _, _, h, _ => h.elim
  | (.inout _, _) :: _, [], _, _, h, _ => h.elim
  | (.inout _, _) :: _, _ :: _, [], _, h, _ => h.elim
  | (.lend, _) :: _, [], _, _, h, _ => h.elim
  | (.give, _) :: _, [], _, _, h, _ => h.elim
  | (.ro, _) :: _, [], _, _, h, _ => h.elim
section
variable {P : Program} {w : World} {S : FP}
theorem cRep_born {M : Mem} {L : Lay} {c : C} {v : Value} (h : cRep w S M L c v) : ∀ r ∈ c.roots, (M r).born = true := by
  intro r hr
  cases c with
  | view r' ga gh q sz sub => have : r = r' := by simpa [C.roots] using hr
                              subst this; exact h.1.1
  | ptr r' ga gh q sz i j => have : r = r' := by simpa [C.roots] using hr
                             subst this; exact h.1.1
  | _ => cases hr
theorem cells_born {M : Mem} {L : Lay} : ∀ {cs : List C} {vs : List Value}, cellsRep w S M L cs vs → ∀ r ∈ cs.flatMap C.roots, (M r).born = true
  | [], _, _, r, hr => by cases hr
  | c :: cs, v :: vs, h, r, hr => by
    rw [List.flatMap_cons] at hr
    rcases List.mem_append.1 hr with hr | hr
    · exact cRep_born h.1 r hr
    · exact cells_born h.2 r hr
  | _ :: _, [], h, _, _ => h.elim
theorem tv1_born {M : Mem} {L : Lay} {a : Bool} {cs : List C} {v : Value} (h : tvRep1 w S M L a cs v) : ∀ r ∈ cs.flatMap C.roots, (M r).born = true := by
  cases a with
  | true => obtain ⟨vs, _, h⟩ := h; exact cells_born h
  | false =>
    match cs, h with
    | [c], h => intro r hr; exact cRep_born h r (by simpa using hr)
theorem tup_born {M : Mem} {L : Lay} : ∀ {xs : List (Bool × List C)} {vs : List Value}, tupRep w S M L xs vs → ∀ r ∈ xs.flatMap (fun x => x.2.flatMap C.roots), (M r).born = true
  | [], _, _, r, hr => by cases hr
  | x :: xs, v :: vs, h, r, hr => by
    rw [List.flatMap_cons] at hr
    rcases List.mem_append.1 hr with hr | hr
    · exact tv1_born h.1 r hr
    · exact tup_born h.2 r hr
  | _ :: _, [], h, _, _ => h.elim
theorem tv_born {M : Mem} {L : Lay} {x : TV} {v : Value} (h : tvRep w S M L x v) : ∀ r ∈ x.roots, (M r).born = true := by
  cases x with
  | v a cs => exact tv1_born h
  | tup xs => obtain ⟨vs, _, h⟩ := h; exact tup_born h
  | cp r cs =>
    obtain ⟨h1, _, vs, h2, _⟩ := h
    intro k hk
    rcases List.mem_cons.1 hk with rfl | hk
    · exact h1.1
    · exact cells_born h2 k hk
theorem ops_born {M : Mem} {L : Lay} : ∀ {xs : List TV} {vs : List Value}, opsRep w S M L xs vs → ∀ r ∈ xs.flatMap TV.roots, (M r).born = true
  | [], _, _, r, hr => by cases hr
  | x :: xs, v :: vs, h, r, hr => by
    rw [List.flatMap_cons] at hr
    rcases List.mem_append.1 hr with hr | hr
    · exact tv_born h.1 r hr
    · exact ops_born h.2 r hr
  | _ :: _, [], h, _, _ => h.elim
theorem res_sound {own : Bool} : ∀ {ts : List TypeId} {rows : List (List D)} {us : List Value} {F : FP} {nx : Nat} {M : Mem} {L : Lay}, (resVals P own ts rows nx).1 = true → outRep P w S ts rows us F → MemRep w S M L → (∀ r, newOf nx (resVals P own ts rows nx).2.2.length r → (M r).born = false) →
    (∀ r, (M r).live = true → ∀ b, F b → ¬ L.fp r b) → (∀ b, F b → b < w.heap.size ∧ ¬ S b) →
    ∃ L', Adds w S M (addNew M nx (resVals P own ts rows nx).2.2) L L' nx (resVals P own ts rows nx).2.2.length F ∧ tupRep w S (addNew M nx (resVals P own ts rows nx).2.2) L' (resVals P own ts rows nx).2.1 us
  | [], [], [], F, nx, M, L, _, h, hm, _, _, _ => ⟨L, Adds.none hm nx F, trivial⟩
  | t :: ts, row :: rows, u :: us, F, nx, M, L, he, ⟨F1, F2, h1, h2, h3, h4⟩, hm, hb, hd, ho => by
    cases hp : isPtrB P t with
    | true =>
      have hE : resVals P own (t :: ts) (row :: rows) nx = (fits own (leaves P 9 (elemOf P t)) row && (resVals P own ts rows (nx + 1)).1, (false, [.ptr nx 0 0 [] (typedRow own row 0 (leaves P 9 (elemOf P t))).length 0 0]) :: (resVals P own ts rows (nx + 1)).2.1,
          { box := true, sz := (typedRow own row 0 (leaves P 9 (elemOf P t))).length, es := [typedRow own row 0 (leaves P 9 (elemOf P t))] } :: (resVals P own ts rows (nx + 1)).2.2) := by
        simp only [resVals, hp, cond_true, List.headD_cons, List.tail_cons]
      rw [hE] at he hb ⊢
      simp only [Bool.and_eq_true] at he
      obtain ⟨hf, he⟩ := he
      rw [fits_row hf] at hb ⊢
      simp only [List.length_cons] at hb
      unfold outOne at h1
      rw [if_pos hp] at h1
      obtain ⟨B, off, F', rfl, hr, hnB, hFB, hblk⟩ := h1
      have hrep : repD w S (rootD { box := true, sz := row.length, es := [row] }) (.slice (some ⟨B, off, none⟩) 1 1) F1 :=
        ⟨_, 1, rfl, Nat.le_refl _, .inr ⟨B, off, F', rfl, ⟨F', fun _ => False, rfl, hr, fun _ h => h, fun b => by simp, fun _ _ h => h⟩, .inl ⟨rfl, hnB, hFB, ⟨by simpa using hblk, by omega⟩⟩⟩⟩
      have a1 := Adds.one (nx := nx) (x := { box := true, sz := row.length, es := [row] }) hm (hb nx ⟨Nat.le_refl _, by omega⟩) rfl rfl hrep (fun b hx => ho b ((h3 b).2 (.inl hx))) (fun r hr b hx => hd r hr b ((h3 b).2 (.inl hx)))
      have hpt : tvRep1 w S (addNew M nx [{ box := true, sz := row.length, es := [row] }]) ⟨fun k => if k = nx then .slice (some ⟨B, off, none⟩) 1 1 else L.hd k, fun k => if k = nx then F1 else L.fp k⟩ false [.ptr nx 0 0 [] row.length 0 0] (.pointer (some ⟨B, off, none⟩)) := by
        refine ⟨by rw [addNew_one]; simp, ⟨_, _, rfl⟩, fun _ _ => ⟨[row], B, off, 1, 1, ?_, by simp, by simp⟩⟩
        rw [addNew_one]
        simp only [if_true]
        exact .nil _ _
      have hb1 : ∀ r, newOf (nx + 1) (resVals P own ts rows (nx + 1)).2.2.length r → (addNew M nx [{ box := true, sz := row.length, es := [row] }] r).born = false := fun r hr => by
        unfold newOf at hr
        rw [addNew_born (by unfold newOf; simp; omega)]; exact hb r ⟨by omega, by omega⟩
      obtain ⟨L2, a2, c2⟩ := res_sound (M := addNew M nx [{ box := true, sz := row.length, es := [row] }]) (nx := nx + 1) he h2 a1.rep hb1 (fun r hr b hf => by
        by_cases hn : newOf nx 1 r
        · exact fun hx => h4 b (a1.fp r hn b hx) hf
        · obtain ⟨e1, _, e3⟩ := a1.old r hn
          rw [e1] at hr
          rw [e3]
          exact hd r hr b ((h3 b).2 (.inr hf))) (fun b hf => ho b ((h3 b).2 (.inr hf)))
      have a2' : Adds w S (addNew M nx [{ box := true, sz := row.length, es := [row] }]) (addNew (addNew M nx [{ box := true, sz := row.length, es := [row] }]) (nx + [({ box := true, sz := row.length, es := [row] } : Root)].length) (resVals P own ts rows (nx + 1)).2.2) _ L2 (nx + [({ box := true, sz := row.length, es := [row] } : Root)].length) (resVals P own ts rows (nx + 1)).2.2.length F2 := a2
      have a3 := Adds.trans (F := F) a1 a2' (fun b hf => (h3 b).2 (.inl hf)) (fun b hf => (h3 b).2 (.inr hf))
      have heq : addNew (addNew M nx [{ box := true, sz := row.length, es := [row] }]) (nx + 1) (resVals P own ts rows (nx + 1)).2.2 = addNew M nx ({ box := true, sz := row.length, es := [row] } :: (resVals P own ts rows (nx + 1)).2.2) := addNew_append M nx [{ box := true, sz := row.length, es := [row] }] (resVals P own ts rows (nx + 1)).2.2
      have hc := tvRep1_stay (fun c v hc => a2.cRep (fun r hr => hb1 r hr) hc) hpt
      rw [heq] at hc c2
      exact ⟨L2, a3, hc, c2⟩
    | false =>
    unfold outOne at h1
    rw [if_neg (by rw [hp]; simp)] at h1
    obtain ⟨h0, h1⟩ := h1
    simp only [resVals, hp, cond_false, List.headD_cons, List.tail_cons, Bool.and_eq_true] at he hb ⊢
    obtain ⟨hf, he⟩ := he
    rw [fits_row hf] at he hb ⊢
    simp only [List.length_append] at hb
    obtain ⟨L1, a1, c1⟩ := frame_sound (nx := nx) hf h1 hm (fun r hr => hb r ⟨hr.1, by have := hr.2; omega⟩) (fun r hr b hx => hd r hr b ((h3 b).2 (.inl hx))) (fun b hx => ho b ((h3 b).2 (.inl hx)))
    have hb1 : ∀ r, newOf (nx + (frameCells own row nx).2.length) (resVals P own ts rows (nx + (frameCells own row nx).2.length)).2.2.length r → (addNew M nx (frameCells own row nx).2 r).born = false := fun r hr => by
      unfold newOf at hr
      rw [addNew_born (by unfold newOf; omega)]; exact hb r ⟨by omega, by omega⟩
    obtain ⟨L2, a2, c2⟩ := res_sound (M := addNew M nx (frameCells own row nx).2) (L := L1) he h2 a1.rep hb1 (fun r hr b hf => by
      by_cases hn : newOf nx (frameCells own row nx).2.length r
      · exact fun hx => h4 b (a1.fp r hn b hx) hf
      · obtain ⟨e1, _, e3⟩ := a1.old r hn
        rw [e1] at hr
        rw [e3]
        exact hd r hr b ((h3 b).2 (.inr hf))) (fun b hf => ho b ((h3 b).2 (.inr hf)))
    have a3 := Adds.trans (F := F) a1 a2 (fun b hf => (h3 b).2 (.inl hf)) (fun b hf => (h3 b).2 (.inr hf))
    have heq := addNew_append M nx (frameCells own row nx).2 (resVals P own ts rows (nx + (frameCells own row nx).2.length)).2.2
    have hc := tvRep1_stay (fun c v hc => a2.cRep (fun r hr => hb1 r hr) hc) (frame_tv h0 c1)
    rw [heq] at hc c2
    exact ⟨L2, a3, hc, c2⟩
  | [], [], _ :: _, _, _, _, _, _, h, _, _, _, _ => h.elim
  | [], _ :: _, _, _, _, _, _, _, h, _, _, _, _ => h.elim
  | _ :: _, [], _, _, _, _, _, _, h, _, _, _, _ => h.elim
  | _ :: _, _ :: _, [], _, _, _, _, _, h, _, _, _, _ => h.elim
theorem pack_rep {M : Mem} {L : Lay} {xs : List (Bool × List C)} {us : List Value} (h : tupRep w S M L xs us) : tvRep w S M L (packTV xs) (resVal us) := by
  match xs, us, h with
  | [], [], h => exact ⟨_, rfl, h⟩
  | [x], [u], h => exact h.1
  | x :: y :: xs, u :: v :: us, h => exact ⟨_, rfl, h⟩
  | [x], u :: v :: us, h => exact h.2.elim
  | x :: y :: xs, [u], h => exact h.2.elim
theorem cellsRep_app2 {M : Mem} {L : Lay} : ∀ {cs cs' : List C} {us us' : List Value}, cellsRep w S M L cs us → cellsRep w S M L cs' us' → cellsRep w S M L (cs ++ cs') (us ++ us')
  | [], _, [], _, _, h => h
  | c :: cs, _, u :: us, _, h, h' => ⟨h.1, cellsRep_app2 h.2 h'⟩
  | [], _, _ :: _, _, h, _ => h.elim
  | _ :: _, _, [], _, h, _ => h.elim
theorem okMut_solid {rs : Look} {c : C} (h : okMut rs c = true) : c.solid = true := by cases c <;> first | rfl | cases h
theorem mut_rep {M : Mem} {L : Lay} {ok : C → Bool} (hok : ∀ c, ok c = true → c.solid = true) : ∀ {ms : List Mode} {mu : List Bool} {tvs : List TV} {vs : List Value}, opsRep w S M L tvs vs → (mutCells ms mu tvs).all ok = true → cellsRep w S M L (mutCells ms mu tvs) (mutVals ms mu vs)
  | [], _, _, _, _, _ => trivial
  | m :: ms, [], _, _, _, _ => by cases m <;> exact trivial
  | m :: ms, x :: _, [], [], _, _ => by cases m <;> cases x <;> exact trivial
  | m :: ms, x :: mu, tv :: tvs, v :: vs, ⟨h1, h2⟩, ha => by
    have skip : (mutCells (m :: ms) (x :: mu) (tv :: tvs) = mutCells ms mu tvs ∧ mutVals (m :: ms) (x :: mu) (v :: vs) = mutVals ms mu vs) → cellsRep w S M L (mutCells (m :: ms) (x :: mu) (tv :: tvs)) (mutVals (m :: ms) (x :: mu) (v :: vs)) := fun ⟨e1, e2⟩ => by
      rw [e1] at ha ⊢; rw [e2]; exact mut_rep hok h2 ha
    cases m with
    | give =>
      cases x with
      | false => exact skip ⟨rfl, rfl⟩
      | true =>
        have ha' : (tv.cells ++ mutCells ms mu tvs).all ok = true := ha
        rw [List.all_append, Bool.and_eq_true] at ha'
        show cellsRep w S M L (tv.cells ++ mutCells ms mu tvs) (v.cells.toList ++ mutVals ms mu vs)
        refine cellsRep_app2 ?_ (mut_rep hok h2 ha'.2)
        cases tv with
        | tup xs =>
          have := List.all_eq_true.1 ha'.1 .undef (by simp [TV.cells])
          have := hok _ this
          cases this
        | cp r cs =>
          have := List.all_eq_true.1 ha'.1 .undef (by simp [TV.cells])
          have := hok _ this
          cases this
        | v a cs => exact tv_cells h1 (fun c hc => hok c (List.all_eq_true.1 ha'.1 c hc))
    | lend => exact skip ⟨rfl, rfl⟩
    | ro => exact skip ⟨rfl, rfl⟩
    | inout o => exact skip ⟨rfl, rfl⟩
  | _ :: _, _ :: _, [], _ :: _, h, _ => h.elim
  | _ :: _, _ :: _, _ :: _, [], h, _ => h.elim
theorem tv_roots_cells (v : TV) : ∀ r ∈ v.cells.flatMap C.roots, r ∈ v.roots := by
  cases v with
  | v a cs => exact fun r h => h
  | tup xs => intro r h; simp [TV.cells, C.roots] at h
  | cp k cs => intro r h; simp [TV.cells, C.roots] at h
theorem mut_give : ∀ {ms : List (Mode × TypeId)} {mu : List Bool} {tvs : List TV}, ∀ r ∈ (mutCells (ms.map (·.1)) mu tvs).flatMap C.roots, r ∈ giveRoots ms tvs
  | [], _, _, r, h => by cases h
  | (m, t) :: ms, [], _, r, h => by cases m <;> cases h
  | (m, t) :: ms, x :: _, [], r, h => by cases m <;> cases x <;> cases h
  | (m, t) :: ms, x :: mu, tv :: tvs, r, h => by
    have tail : r ∈ (mutCells (ms.map (·.1)) mu tvs).flatMap C.roots → r ∈ giveRoots ((m, t) :: ms) (tv :: tvs) := fun h => by
      have := mut_give r h
      unfold giveRoots at this ⊢
      rw [List.zip_cons_cons, List.flatMap_cons]
      exact List.mem_append_right _ this
    cases m with
    | give =>
      cases x with
      | false => exact tail h
      | true =>
        have h' : r ∈ (tv.cells ++ mutCells (ms.map (·.1)) mu tvs).flatMap C.roots := h
        rw [List.flatMap_append] at h'
        rcases List.mem_append.1 h' with h' | h'
        · unfold giveRoots
          rw [List.zip_cons_cons, List.flatMap_cons]
          exact List.mem_append_left _ (tv_roots_cells tv r h')
        · exact tail h'
    | lend => exact tail h
    | ro => exact tail h
    | inout o => exact tail h
theorem give_apart : ∀ {ms : List (Mode × TypeId)} {tvs : List TV}, giveNodup (plainModes ms tvs) = true → ∀ r ∈ giveRoots ms tvs, r ∉ inRoots ms tvs
  | [], _, _, r, h => by simp [giveRoots] at h
  | (m, t) :: ms, [], _, r, h => by simp [giveRoots] at h
  | (m, t) :: ms, tv :: tvs, hn, r, h => by
    have hl : plainModes ((m, t) :: ms) (tv :: tvs) = (m, tv) :: plainModes ms tvs := rfl
    rw [hl] at hn
    unfold giveNodup at hn
    rw [List.flatMap_cons] at hn
    obtain ⟨h1, h2⟩ := nodup_append hn
    have later : m.excl = true → ∀ r ∈ tv.roots, r ∈ exRoots (plainModes ms tvs) → False := fun hm r hr hin => h1 r (by rw [if_pos hm]; exact mem_dedup'.2 hr) (ex_dedup hin)
    have ih := give_apart (ms := ms) (tvs := tvs) h2
    have hsplit : (m = .give ∧ r ∈ tv.roots) ∨ r ∈ giveRoots ms tvs := by
      unfold giveRoots at h ⊢
      rw [List.zip_cons_cons, List.flatMap_cons] at h
      rcases List.mem_append.1 h with h | h
      · cases m <;> first | exact .inl ⟨rfl, h⟩ | cases h
      · exact .inr h
    have gex : r ∈ giveRoots ms tvs → r ∈ exRoots (plainModes ms tvs) := fun h => by
      unfold giveRoots at h
      obtain ⟨y, hy, hyr⟩ := List.mem_flatMap.1 h
      unfold exRoots
      refine List.mem_flatMap.2 ⟨_, zip_modes hy, ?_⟩
      split at hyr
      · rename_i hg; simp [hg, Mode.excl, hyr]
      · cases hyr
    intro hin
    have inTail : r ∈ inRoots ms tvs → False := fun hin => by
      rcases hsplit with ⟨rfl, hr⟩ | hr
      · exact later rfl r hr (inRoots_ex hin)
      · exact ih r hr hin
    cases m with
    | inout o =>
      rcases List.mem_append.1 (show r ∈ tv.roots ++ inRoots ms tvs from hin) with hin | hin
      · rcases hsplit with ⟨h, _⟩ | hr
        · cases h
        · exact later rfl r hin (gex hr)
      · exact inTail hin
    | lend => exact inTail hin
    | give => exact inTail hin
    | ro => exact inTail hin
theorem seatPres_of {w' : World} {M M2 : Mem} {L L2 : Lay} : ∀ {cs : List C} {us : List Value}, cellsRep w S M L cs us → (∀ c ∈ cs, ∀ u, cRep w S M L c u → seatPre w' M2 L2 c u) → seatPres w' M2 L2 cs us
  | [], [], _, _ => trivial
  | c :: cs, u :: us, h, hp => ⟨hp c List.mem_cons_self u h.1, seatPres_of h.2 (fun c hc => hp c (List.mem_cons_of_mem _ hc))⟩
  | [], _ :: _, h, _ => h.elim
  | _ :: _, [], h, _ => h.elim
theorem call_sound {H : Hints} {call : CallF} (hs : Sound P H call) {f : FuncId} {fn : Func} (hf : P.funcs[f]? = some fn) {M : Mem} {L : Lay} {R : List Nat} {nx : Nat} {rs rs1 rs2 rs3 : Look} {mts : List (Mode × TypeId)} {tvs : List TV} {vs : List Value} {rows out back : List (List D)} {own : Bool}
    (hmts : mts = (H.modes f fn.params.size).zip fn.params.toList) (hm : MemRep w S M L) (hover : over M rs = M) (hk1 : ∀ r ∈ tvs.flatMap TV.roots, r ∈ rs.keys) (hk2 : ∀ r ∈ rs.keys, r ∈ tvs.flatMap TV.roots) (hR : ∀ r ∈ tvs.flatMap TV.roots, r ∈ R) (hfresh : ∀ r, newOf nx (resVals P own fn.resultTypes.toList out nx).2.2.length r → (M r).born = false)
    (hv : opsRep w S M L tvs vs) (hap : apartArgs (plainModes mts tvs) = true) (hargs : argRows P mts tvs rs = some (true, rows, rs1)) (hcall : call f rows = some (true, out, back)) (hback : backAll P mts tvs (back.take (inouts (mts.map (·.1)))) rs1 = some (true, rs2))
    (hseat : reseatCells (mutCells (mts.map (·.1)) (H.muts f) tvs) (back.drop (inouts (mts.map (·.1)))).flatten rs2 = some (true, rs3)) (hokm : (mutCells (mts.map (·.1)) (H.muts f) tvs).all (okMut rs) = true) (hnest : (mutCells (mts.map (·.1)) (H.muts f) tvs).all (nestLive rs2) = true)
    (hres : (resVals P own fn.resultTypes.toList out nx).1 = true) (hclean : cleanOut (plainModes mts tvs) out back = true) :
    (fn.name == "runtime.NumGoroutine") = false ∧ fn.body.isNone = false ∧ Calls P f vs.toArray w fun e w' => match e with
      | .returned v => ∃ L', tvRep w' S (addNew (over M rs3) nx (resVals P own fn.resultTypes.toList out nx).2.2) L' (packTV (resVals P own fn.resultTypes.toList out nx).2.1) v ∧
          Turns w w' S S M (addNew (over M rs3) nx (resVals P own fn.resultTypes.toList out nx).2.2) L L' R (newOf nx (resVals P own fn.resultTypes.toList out nx).2.2.length)
      | _ => False := by
  obtain ⟨c1, c2, hc⟩ := hs f fn rows out back hf hcall
  refine ⟨c1, c2, ?_⟩
  unfold apartArgs at hap
  simp only [Bool.and_eq_true, Bool.not_eq_true', List.any_eq_false] at hap
  have hsep : ∀ r ∈ exRoots (plainModes mts tvs), r ∉ shRoots (plainModes mts tvs) := fun r hr hx => hap.2 r hr (List.contains_iff_mem.2 hx)
  obtain ⟨hap1, hap2⟩ := apart_of hap.1 hsep
  obtain ⟨G, L1, mv, hkeys, hdone⟩ := args_sound (rs := rs) (by rw [hover]; exact hm) (by rw [hover]; exact hv) hap1 hargs
  rw [hover] at mv
  have hm1 := mv.rep
  let Sc : FP := fun b => S b ∨ ∃ r, r ∈ shRoots (plainModes mts tvs) ∧ (over M rs1 r).live = true ∧ L1.fp r b
  have hSc : ∀ b, S b → Sc b := fun b h => .inl h
  have hd := hdone Sc hSc (fun y hy hx r hr hl b hb => .inr ⟨r, by
    unfold shRoots
    exact List.mem_flatMap.2 ⟨_, zip_modes hy, by simp [hx, hr]⟩, hl, hb⟩)
  obtain ⟨F, hout, harg, hF⟩ := args_ready hm1 hSc hap2 hd (fun b hb => by
    obtain ⟨r, _, h3, h4⟩ := mv.out b hb
    exact ⟨(hm.own r h3 b h4).1, (hm.own r h3 b h4).2, fun r hl => mv.apart r hl b hb⟩)
  have hFS : ∀ b, F b → b < w.heap.size ∧ ¬ Sc b := fun b hb => by
    rcases hF b hb with hg | ⟨r, hr, hl, hf⟩
    · obtain ⟨r, _, h3, h4⟩ := mv.out b hg
      refine ⟨(hm.own r h3 b h4).1, fun hx => ?_⟩
      rcases hx with hx | ⟨r', _, hl', hf'⟩
      · exact (hm.own r h3 b h4).2 hx
      · exact mv.apart r' hl' b hg hf'
    · refine ⟨(hm1.own r hl b hf).1, fun hx => ?_⟩
      rcases hx with hx | ⟨r', hr', hl', hf'⟩
      · exact (hm1.own r hl b hf).2 hx
      · exact hm1.apart r r' hl hl' (fun he => hsep r (inRoots_ex hr) (he ▸ hr')) b hf hf'
  have hFM : ∀ b, F b → ∃ r, r ∈ R ∧ (M r).live = true ∧ L.fp r b := fun b hb => by
    rcases hF b hb with hg | ⟨r, hr, hl, hf⟩
    · obtain ⟨r, h2, h3, h4⟩ := mv.out b hg
      refine ⟨r, hR r ?_, h3, h4⟩
      unfold giveRoots at h2
      obtain ⟨y, hy, hyr⟩ := List.mem_flatMap.1 h2
      split at hyr
      · exact List.mem_flatMap.2 ⟨y.2, (List.of_mem_zip hy).2, hyr⟩
      · cases hyr
    · refine ⟨r, hR r ?_, mv.live r hl, mv.fp r hl b hf⟩
      have := inRoots_ex hr
      unfold exRoots at this
      obtain ⟨x, hx, hxr⟩ := List.mem_flatMap.1 this
      split at hxr
      · exact List.mem_flatMap.2 ⟨x.2, (List.of_mem_zip hx).2, hxr⟩
      · cases hxr
  have hScz : ∀ b, Sc b → b < w.heap.size := fun b hb => by
    rcases hb with hb | ⟨r, _, hl, hf⟩
    · exact hm.lent b hb
    · exact (hm1.own r hl b hf).1
  have hcl := hc w Sc F vs hScz hFS (by rw [← hmts]; exact harg)
  refine hcl.mono (fun e w' he => ?_)
  cases e with
  | returned v =>
    simp only at he ⊢
    rw [← hmts] at he
    obtain ⟨hbel, hfr, hin, us, G1, G2, G3, rfl, houts, hbk, hdat, ⟨hG12, hGG⟩, hG3, hGG3⟩ := he
    have hlentS : outRep P w' S fn.resultTypes.toList out us G1 ∧ backRep w' S mts vs (back.take (inouts (mts.map (·.1)))) G2 ∧ datRep w' S (back.drop (inouts (mts.map (·.1)))).flatten (mutVals (mts.map (·.1)) (H.muts f) vs) G3 := by
      unfold cleanOut at hclean
      cases hsh : (shRoots (plainModes mts tvs)).isEmpty with
      | true =>
        have hScS : Sc = S := by
          funext b
          refine propext ⟨fun h => ?_, fun h => .inl h⟩
          rcases h with h | ⟨r, hr, _⟩
          · exact h
          · rw [List.isEmpty_iff.1 hsh] at hr; cases hr
        rw [hScS] at houts hbk hdat
        exact ⟨houts, hbk, hdat⟩
      | false =>
        rw [hsh] at hclean
        simp only [cond_false, Bool.and_eq_true] at hclean
        exact ⟨outRep_deep houts hclean.1, backRep_deep hbk (deepRows_take hclean.2 _), deepDat_rep hdat (deepRows_flat (deepRows_drop hclean.2 _))⟩
    obtain ⟨houts, hbk, hdat⟩ := hlentS
    have hframe : ∀ b, b < w.heap.size → ¬ F b → w'.heap[b]? = w.heap[b]? := hfr
    have hSF : ∀ b, S b → ¬ F b := fun b hb hf => (hFS b hf).2 (.inl hb)
    have hlive := inRoots_live hout
    have hrest := argsOut_out hm1 hout
    have hkR : ∀ r, r ∉ R → r ∉ inRoots mts tvs := fun r hr hin => hr (by
      have := inRoots_ex hin
      unfold exRoots at this
      obtain ⟨x, hx, hxr⟩ := List.mem_flatMap.1 this
      split at hxr
      · exact hR r (List.mem_flatMap.2 ⟨x.2, (List.of_mem_zip hx).2, hxr⟩)
      · cases hxr)
    have hgR : ∀ r, r ∉ R → r ∉ giveRoots mts tvs := fun r hr hin => hr (by
      unfold giveRoots at hin
      obtain ⟨y, hy, hyr⟩ := List.mem_flatMap.1 hin
      split at hyr
      · exact hR r (List.mem_flatMap.2 ⟨y.2, (List.of_mem_zip hy).2, hyr⟩)
      · cases hyr)
    have hholes := holes_rep (X := inRoots mts tvs) (w' := w') hm1 hbel.size (fun b hb => hframe b (hm.lent b hb) (hSF b hb)) (fun r hr hl b hb => hframe b (hm1.own r hl b hb).1 (fun hx => hrest r hl hr b hx hb))
    obtain ⟨L2, hm2, hhd2, hkeys2, hothers, hins⟩ := back_sound hm1 hbel.size hframe hSF hout hap2 hbk hin (fun r hr => by
        refine ⟨?_, rfl⟩
        rw [hkeys]
        have := inRoots_ex hr
        unfold exRoots at this
        obtain ⟨x, hx, hxr⟩ := List.mem_flatMap.1 this
        split at hxr
        · exact hk1 r (List.mem_flatMap.2 ⟨x.2, (List.of_mem_zip hx).2, hxr⟩)
        · cases hxr) hholes (fun _ => rfl) (fun b h => h) (fun b h hn => absurd h hn) (fun b hb => by
        obtain ⟨h1, h2, h3⟩ := hGG b (.inr hb)
        exact ⟨h1, h2, fun hx => h3 (.inl hx)⟩) (fun r hr b hf hn k hlk hx => by
        obtain ⟨k1, k2, _⟩ := holes_live hlk
        exact hm1.apart r k (hlive r hr) k2 (fun he => k1 (he ▸ hr)) b hf hx) (fun b hb k hlk hx => by
        obtain ⟨k1, k2, _⟩ := holes_live hlk
        rcases (hGG b (.inr hb)).1 with h | h
        · exact hrest k k2 k1 b h hx
        · have := (hm1.own k k2 b hx).1; omega) hback
    have hstill : ∀ r, (over M rs1 r).live = true → r ∉ inRoots mts tvs → ∀ b, L1.fp r b → w'.heap[b]? = w.heap[b]? := fun r hl hr b hb =>
      hframe b (hm1.own r hl b hb).1 (fun hx => hrest r hl hr b hx hb)
    have hdis : ∀ {Gx : FP}, (∀ b, Gx b → F b ∨ w.heap.size ≤ b) → (∀ b, Gx b → ¬ G2 b) → ∀ r, (over M rs2 r).live = true → ∀ b, Gx b → ¬ L2.fp r b := fun {Gx} hx1 hx2 r hl b hb hx => by
      have h1 := hx1 b hb
      by_cases hr : r ∈ inRoots mts tvs
      · rcases (hins r hr).2 b hx with ⟨h2, h3⟩ | h2
        · rcases h1 with h1 | h1
          · exact h3 h1
          · have := (hm1.own r (hlive r hr) b h2).1; omega
        · exact hx2 b hb h2
      · obtain ⟨e1, e2⟩ := hothers r hr
        rw [e1] at hl
        rw [e2] at hx
        rcases h1 with h1 | h1
        · exact hrest r hl hr b h1 hx
        · have := (hm1.own r hl b hx).1; omega
    have hgk : ∀ r, r ∈ giveRoots mts tvs → r ∈ tvs.flatMap TV.roots := fun r hin => by
      unfold giveRoots at hin
      obtain ⟨y, hy, hyr⟩ := List.mem_flatMap.1 hin
      split at hyr
      · exact List.mem_flatMap.2 ⟨y.2, (List.of_mem_zip hy).2, hyr⟩
      · cases hyr
    have hkeep : ∀ r, (over M rs1 r).box = (M r).box ∧ (over M rs1 r).sz = (M r).sz ∧ (over M rs1 r).es.length = (M r).es.length := mv.keep
    have hcell : ∀ {r ga gh : Nat} {q : Path} {n : Nat} {sub : Option (Nat × Nat)}, C.view r ga gh q n sub ∈ mutCells (mts.map (·.1)) (H.muts f) tvs →
        sub = none ∧ M r = rs.get r ∧ okView (M r) ga gh q = true ∧ pathOk (M r).es q = true ∧ r ∉ inRoots mts tvs ∧ over M rs2 r = over M rs1 r ∧ r ∈ rs2.keys ∧ ((q = [] ∧ (M r).box = false) ∨ ∃ x, q = [x] ∧ (over M rs1 r).live = true) := by
      intro r ga gh q n sub hc
      have hr : r ∈ (mutCells (mts.map (·.1)) (H.muts f) tvs).flatMap C.roots := List.mem_flatMap.2 ⟨_, hc, by simp [C.roots]⟩
      have hg := mut_give r hr
      have hni := give_apart hap.1 r hg
      have ho := List.all_eq_true.1 hokm _ hc
      have hnl := List.all_eq_true.1 hnest _ hc
      have hkey : r ∈ rs2.keys := by rw [hkeys2, hkeys]; exact hk1 r (hgk r hg)
      have hm2 := (hothers r hni).1
      have hM : okView (rs.get r) ga gh q = true → M r = rs.get r := fun h => by
        have := over_live (M := M) (okView_live h)
        rw [hover] at this; exact this
      match q, sub, ho, hnl with
      | [], none, ho, _ =>
        have ho' : (okView (rs.get r) ga gh [] && !(rs.get r).box) = true := ho
        simp only [Bool.and_eq_true, Bool.not_eq_true'] at ho'
        have e := hM ho'.1
        exact ⟨rfl, e, by rw [e]; exact ho'.1, rfl, hni, hm2, hkey, .inl ⟨rfl, by rw [e]; exact ho'.2⟩⟩
      | [x], none, ho, hnl =>
        have ho' : (okView (rs.get r) ga gh [x] && pathOk (rs.get r).es [x]) = true := ho
        simp only [Bool.and_eq_true] at ho'
        have e := hM ho'.1
        have hnl' : (rs2.get r).live = true := hnl
        exact ⟨rfl, e, by rw [e]; exact ho'.1, by rw [e]; exact ho'.2, hni, hm2, hkey, .inr ⟨x, rfl, by rw [← hm2, over_key hkey]; exact hnl'⟩⟩
    have hborn1 : ∀ r, (M r).born = true → (over M rs1 r).born = true ∧ (M r).gh ≤ (over M rs1 r).gh := fun r h => (mv.keeps r h).1
    have hpres : seatPres w' (over M rs2) L2 (mutCells (mts.map (·.1)) (H.muts f) tvs) (mutVals (mts.map (·.1)) (H.muts f) vs) := by
      refine seatPres_of (mut_rep (fun c h => okMut_solid h) hv hokm) (fun c hc u hu => ?_)
      cases c with
      | view r ga gh q n sub =>
        obtain ⟨rfl, e, hok, hpk, hni, hm2', hkey, hq⟩ := hcell hc
        obtain ⟨⟨hb, _⟩, _, hv'⟩ := hu
        obtain ⟨es, A, len, cap, hh, hs⟩ := hv' hok hpk
        have hs : u = .slice A len cap := hs
        have hl := okView_live hok
        obtain ⟨k1, k2, k3⟩ := hkeep r
        have hrep := hm.rep r hl
        rcases hq with ⟨rfl, hbox⟩ | ⟨⟨i, j⟩, rfl, hl1⟩
        · obtain ⟨e1, e2⟩ := headAt_nil hh
          obtain ⟨A', cap', e3, _⟩ := hrep
          refine ⟨by rw [hm2']; exact (hborn1 r hb).1, ?_, A', cap', ?_⟩
          · rw [hhd2 r, mv.hd r, hs, e2]
          · rw [hm2', k3, hs, e2, e3]
        · unfold rootD at hh
          generalize hLr : L.hd r = hd0 at hh hrep
          cases hh with
          | @cons _ _ B off len0 cap0 _ _ v1 _ _ _ hi hj hcl hp =>
            obtain ⟨_, hu2⟩ := headAt_nil hp
            obtain ⟨F', _, _, hrows, _⟩ := rep_some hrep
            obtain ⟨Gr, hrl, _, _⟩ := rows_row i hrows hi
            refine ⟨by rw [hm2']; exact (hborn1 r hb).1, by rw [hm2', k3]; exact hi, by rw [hm2', k2, ← hrl]; exact hj, by rw [hm2']; exact hl1, B, off, len0, cap0, by rw [hhd2 r, mv.hd r, hLr], ?_⟩
            rw [hm2', k2, hs, hu2]
            refine (cell_of_heap (hstill r hl1 hni B ?_) _).trans hcl
            have hrep1 := hm1.rep r hl1
            rw [mv.hd r, hLr] at hrep1
            obtain ⟨F'', _, _, _, _, hFF, _⟩ := rep_some hrep1
            exact (hFF B).2 (.inl rfl)
      | d x => exact trivial
      | nils n => exact trivial
      | ptr => have := List.all_eq_true.1 hokm _ hc; cases this
      | rptr => have := List.all_eq_true.1 hokm _ hc; cases this
      | undef => have := List.all_eq_true.1 hokm _ hc; cases this
      | gone => have := List.all_eq_true.1 hokm _ hc; cases this
      | nz p => have := List.all_eq_true.1 hokm _ hc; cases this
    obtain ⟨Ls, st, hkeys3⟩ := seat_sound hm2 hpres (fun r hr => by rw [hkeys2, hkeys]; exact hk1 r (hgk r (mut_give r hr))) hdat (hdis (fun b hb => (hGG3 b hb).1) (fun b hb => (hG3 b hb).2)) (fun b hb => by
      obtain ⟨_, h2, h3⟩ := hGG3 b hb
      exact ⟨h2, fun hx => h3 (.inl hx)⟩) hseat
    have hborn2 : ∀ r, newOf nx (resVals P own fn.resultTypes.toList out nx).2.2.length r → (over M rs3 r).born = false := fun r hr => by
      have hnk : r ∉ rs3.keys := fun hx => by
        rw [hkeys3, hkeys2, hkeys] at hx
        have := ops_born hv r (hk2 r hx)
        rw [hfresh r hr] at this
        cases this
      rw [over_not hnk]; exact hfresh r hr
    obtain ⟨L3, a3, t3⟩ := res_sound (own := own) (nx := nx) hres houts st.rep hborn2 (fun r hl b hb hx => by
      rcases st.fp r hl b hx with ⟨hl2, hx2⟩ | hx2
      · exact hdis (fun b hb => (hGG b (.inl hb)).1) hG12 r hl2 b hb hx2
      · exact (hG3 b hx2).1 hb) (fun b hb => by
      obtain ⟨_, h2, h3⟩ := hGG b (.inl hb)
      exact ⟨h2, fun hx => h3 (.inl hx)⟩)
    refine ⟨L3, pack_rep t3, ?_⟩
    have hN : ∀ r, ¬ newOf nx (resVals P own fn.resultTypes.toList out nx).2.2.length r → addNew (over M rs3) nx (resVals P own fn.resultTypes.toList out nx).2.2 r = over M rs3 r ∧ L3.hd r = L.hd r ∧ L3.fp r = Ls.fp r := fun r hr => by
      obtain ⟨e1, e2, e3⟩ := a3.old r hr
      exact ⟨e1, e2.trans ((st.hd r).trans ((hhd2 r).trans (mv.hd r))), e3⟩
    have hmut : ∀ r, r ∈ (mutCells (mts.map (·.1)) (H.muts f) tvs).flatMap C.roots → r ∉ inRoots mts tvs ∧ (M r).live = true ∧ (over M rs3 r).live = true ∧ (M r).gh < (over M rs3 r).gh ∧ (over M rs3 r).ga = (M r).ga ∧ (over M rs3 r).born = true ∧ (over M rs3 r).box = (M r).box ∧ (over M rs3 r).sz = (M r).sz ∧ (over M rs3 r).es.length = (M r).es.length ∧ ((M r).box = true → (over M rs1 r).live = true) ∧ (M r).frz = false := fun r hr => by
      obtain ⟨a1, a2, ga, gh, q, n, sub, a3, a4⟩ := st.at_ r hr
      obtain ⟨rfl, e, hok, hpk, hni, hm2', hkey, hq⟩ := hcell a3
      have hl := okView_live hok
      obtain ⟨s1, s2, s3, s4, s5, s6⟩ := st.shape r
      obtain ⟨k1, k2, k3⟩ := hkeep r
      obtain ⟨b1, b2⟩ := hborn1 r (hm.born r hl)
      rw [hm2'] at s1 s2 s3 s4 a2
      refine ⟨hni, hl, a1, by omega, ?_, s4.trans b1, s1.trans k1, s2.trans k2, s3.trans k3, fun hbx => ?_, okView_frz hok⟩
      · rw [a4]
        unfold okView at hok
        simp only [Bool.and_eq_true, beq_iff_eq] at hok
        exact hok.1.2.symm
      · rcases hq with ⟨_, hb⟩ | ⟨_, _, hl1⟩
        · rw [hbx] at hb; cases hb
        · exact hl1
    have hrest3 : ∀ r, r ∉ (mutCells (mts.map (·.1)) (H.muts f) tvs).flatMap C.roots → over M rs3 r = over M rs2 r ∧ Ls.fp r = L2.fp r := st.same
    refine ⟨a3.rep, hbel, fun _ h => h, fun b hb hn => hframe b hb (fun hx => ?_), fun r hr => ?_, fun r hr hl => ?_, fun r hr hn => ?_, fun r hl b hb => ?_, fun b hb => .inl hb, fun r hr hl hl' => ?_, fun r hr hl hbx => ?_⟩
    · obtain ⟨r, h1, h2, h3⟩ := hFM b hx
      exact hn r h1 h2 h3
    · obtain ⟨e1, e2, _⟩ := hN r hr
      rw [e1, e2]
      by_cases hmr : r ∈ (mutCells (mts.map (·.1)) (H.muts f) tvs).flatMap C.roots
      · obtain ⟨_, hl, hl3, hgh, hga, hbn, hbox, hsz, hlen, _, hfz⟩ := hmut r hmr
        refine fun hb => ⟨⟨hbn, by omega⟩, fun ga gh q hg ho hp => ?_, KeepF.no hfz⟩
        have hq : q = [] := by
          unfold okView at ho
          simp only [Bool.and_eq_true, Bool.or_eq_true, beq_iff_eq, List.isEmpty_iff] at ho
          rcases ho.2 with h | h
          · exact h
          · omega
        subst hq
        refine ⟨?_, rfl, fun sz es u hh => ?_⟩
        · unfold okView at ho ⊢
          simp only [Bool.and_eq_true, Bool.or_eq_true, beq_iff_eq, List.isEmpty_nil, true_or, and_true] at ho ⊢
          exact ⟨⟨hl, by rw [hfz]; rfl⟩, by rw [← hga]; exact ho.2⟩
        · obtain ⟨c1, c2⟩ := headAt_nil hh
          unfold rootD at c1
          injection c1 with _ c3 c4
          subst c3 c4 c2
          refine ⟨(over M rs3 r).es, hlen, ?_⟩
          have : rootD (over M rs3 r) = .sl true (M r).sz (over M rs3 r).es := by unfold rootD; rw [hsz]
          rw [this]
          exact .nil _ _
      rw [(hrest3 r hmr).1]
      have k1 := mv.keeps r
      rw [mv.hd r] at k1
      refine keeps_trans k1 ?_
      by_cases hin : r ∈ inRoots mts tvs
      · have := (hins r hin).1.keeps
        rw [mv.hd r] at this
        exact this
      · rw [(hothers r hin).1]
        refine keeps_same (S := S) (F := L1.fp r) (fun hl => ⟨?_, hstill r hl hin⟩)
        have := hm1.rep r hl
        rw [mv.hd r] at this
        exact this
    · obtain ⟨e1, _, _⟩ := hN r hr
      rw [e1] at hl
      by_cases hmr : r ∈ (mutCells (mts.map (·.1)) (H.muts f) tvs).flatMap C.roots
      · exact (hmut r hmr).2.1
      rw [(hrest3 r hmr).1] at hl
      by_cases hin : r ∈ inRoots mts tvs
      · exact mv.live r (hlive r hin)
      · rw [(hothers r hin).1] at hl
        exact mv.live r hl
    · obtain ⟨e1, e2, e3⟩ := hN r hn
      have hmr : r ∉ (mutCells (mts.map (·.1)) (H.muts f) tvs).flatMap C.roots := fun h => hgR r hr (mut_give r h)
      obtain ⟨c1, c2⟩ := hrest3 r hmr
      obtain ⟨b1, b2⟩ := hothers r (hkR r hr)
      have hsame := mv.same r (hgR r hr)
      refine ⟨by rw [e1, c1, b1, hsame], e2, fun _ b hb => ?_⟩
      rw [e3, c2, b2] at hb
      rw [← mv.fpsame r (hgR r hr)]
      exact hb
    · have hnewF : ∀ b, (F b ∨ w.heap.size ≤ b) → (∃ r', (M r').live = true ∧ L.fp r' b) ∨ w.heap.size ≤ b := fun b h => by
        rcases h with h | h
        · obtain ⟨r', _, h2, h3⟩ := hFM b h; exact .inl ⟨r', h2, h3⟩
        · exact .inr h
      by_cases hr : newOf nx (resVals P own fn.resultTypes.toList out nx).2.2.length r
      · exact hnewF b (hGG b (.inl (a3.fp r hr b hb))).1
      · obtain ⟨e1, e2, e3⟩ := hN r hr
        rw [e1] at hl
        rw [e3] at hb
        rcases st.fp r hl b hb with ⟨hl, hb⟩ | hb
        · by_cases hin : r ∈ inRoots mts tvs
          · rcases (hins r hin).2 b hb with ⟨h2, _⟩ | h2
            · exact .inl ⟨r, mv.live r (hlive r hin), mv.fp r (hlive r hin) b h2⟩
            · exact hnewF b (hGG b (.inr h2)).1
          · obtain ⟨b1, b2⟩ := hothers r hin
            rw [b1] at hl
            rw [b2] at hb
            exact .inl ⟨r, mv.live r hl, mv.fp r hl b hb⟩
        · exact hnewF b (hGG3 b hb).1
    · obtain ⟨e1, e2, e3⟩ := hN r hr
      rw [e1] at hl' ⊢
      obtain ⟨k1, k2, k3⟩ := mv.keep r
      have still1 : (over M rs1 r).live = true → r ∉ inRoots mts tvs → Within w w' (L.hd r) ((M r).es.length * (M r).sz) := fun hl1 hin => by
        refine Within.refl (fun B off len cap he => hstill r hl1 hin B ?_)
        have hrep := hm1.rep r hl1
        rw [mv.hd r, he] at hrep
        obtain ⟨F', _, _, _, _, hFF, _⟩ := rep_some hrep
        exact (hFF B).2 (.inl rfl)
      by_cases hmr : r ∈ (mutCells (mts.map (·.1)) (H.muts f) tvs).flatMap C.roots
      · obtain ⟨hni, _, _, _, _, _, hbox, hsz, hlen, hl1, _⟩ := hmut r hmr
        exact ⟨e2, hbox, hsz, hlen, fun hbx => still1 (hl1 hbx) hni⟩
      rw [(hrest3 r hmr).1] at hl' ⊢
      by_cases hin : r ∈ inRoots mts tvs
      · obtain ⟨bk, _⟩ := hins r hin
        obtain ⟨s1, s2, s3⟩ := bk.same
        refine ⟨e2, s1.trans k1, s2.trans k2, s3.trans k3, fun _ => ?_⟩
        have := bk.within
        rw [mv.hd r, k2, k3] at this
        exact this
      · obtain ⟨b1, _⟩ := hothers r hin
        rw [b1] at hl' ⊢
        exact ⟨e2, k1, k2, k3, fun _ => still1 hl' hin⟩
    · obtain ⟨e1, _, _⟩ := hN r hr
      rw [e1]
      by_cases hmr : r ∈ (mutCells (mts.map (·.1)) (H.muts f) tvs).flatMap C.roots
      · exact (hmut r hmr).2.2.1
      rw [(hrest3 r hmr).1]
      by_cases hin : r ∈ inRoots mts tvs
      · exact (hins r hin).1.live
      · rw [(hothers r hin).1]
        exact mv.box r hl hbx
  | _ => exact he.elim
end
end Go.Ev
