/- Regions whose operations may come up in any order that binds. -/
import Derived.Test.YtkkpblhaeliofaaEvFn
namespace Go.Ev
open Go.RowKit
set_option linter.unusedVariables false
set_option linter.unusedSimpArgs false
def GuardIs (ops : List Oper) (o : Oper) (st : St) (b : Bool) : Prop :=
  match o.guard with
  | none => b = true
  | some (g, want) => ∃ d, (ops[g]?).bind (·.dst) = some d ∧ ((∃ c, st.get d = .v false [.d (.bool c)] ∧ b = (c == want)) ∨ (st.get d = .gone ∧ b = false))
def valsOf (o : Oper) (st : St) : List TV := (operandsOf o.op).map st.operand
def Step (P : Program) (ops : List Oper) (o : Oper) (st st' : St) (t : Touch) : Prop :=
  (GuardIs ops o st true ∧ ∃ e, st' = applyEff st o.dst e ∧ OpActs P o st.mem.length (valsOf o st) (st.look (seen o.op (valsOf o st))) ((valsOf o st).flatMap TV.roots) e ∧ Covers st (seen o.op (valsOf o st)) (valsOf o st) e t) ∨
  (GuardIs ops o st false ∧ st' = st.put o.dst .gone ∧ t = ⟨[], []⟩)
theorem put_same {st : St} {d : Tmp} {x : TV} (h : st.get d = x) : st.put (some d) x = st := by
  subst h
  unfold St.put St.get
  simp only
  rw [set_getD_self]
def Traced {R : Type} (P : Program) (ops : List Oper) (K : St → List Touch → Option R) (res : R) (rest : List Oper) (st : St) (log : List Touch) : Prop :=
  ∃ (σ : Nat → St) (τ : Nat → Touch), σ 0 = st ∧ K (σ rest.length) (log ++ (List.range rest.length).map τ) = some res ∧ ∀ i o, rest[i]? = some o → Step P ops o (σ i) (σ (i + 1)) (τ i)
theorem runOps_trace {R : Type} {X : Ctx} {call : CallF} (hs : Sound X.P X.H call) {ops : List Oper} {K : St → List Touch → Option R} {res : R} : ∀ (rest : List Oper) (st : St) (log : List Touch), runOps X call ops rest st log K = some res → Traced X.P ops K res rest st log
  | [], st, log, h => ⟨fun _ => st, fun _ => ⟨[], []⟩, rfl, by simpa [runOps] using h, fun i o hi => by simp at hi⟩
  | o :: rest, st, log, h => by
    have fin : ∀ {st' : St} {t : Touch}, runOps X call ops rest st' (log ++ [t]) K = some res → Step X.P ops o st st' t → Traced X.P ops K res (o :: rest) st log := by
      intro st' t h1 hstep
      obtain ⟨σ, τ, h2, h3, h4⟩ := runOps_trace hs rest st' (log ++ [t]) h1
      refine ⟨fun i => match i with | 0 => st | i + 1 => σ i, fun i => match i with | 0 => t | i + 1 => τ i, rfl, ?_, fun i o' hi => ?_⟩
      · rw [List.length_cons, List.range_succ_eq_map, List.map_cons, List.map_map]
        rw [List.append_assoc, List.singleton_append] at h3
        exact h3
      · cases i with
        | zero =>
          simp only [List.getElem?_cons_zero, Option.some.injEq] at hi
          subst hi
          show Step X.P ops o st (σ 0) t
          rw [h2]; exact hstep
        | succ i =>
          rw [List.getElem?_cons_succ] at hi
          exact h4 i o' hi
    simp only [runOps] at h
    split at h
    · rename_i hg
      obtain ⟨e, t, h1, h2, h3⟩ := opRun_acts hs h
      exact fin h1 (.inl ⟨by unfold GuardIs; rw [hg], e, rfl, h2, h3⟩)
    · rename_i g want hg
      split at h
      · rename_i b hd
        cases hdst : (ops[g]?).bind (·.dst) with
        | none => rw [hdst] at hd; cases hd
        | some d =>
          rw [hdst] at hd h
          simp only [Option.map_some, Option.some.injEq] at hd
          have hgi : ∀ c, c = (b == want) → GuardIs ops o st c := fun c hc => by unfold GuardIs; rw [hg]; exact ⟨d, hdst, .inl ⟨b, hd, hc⟩⟩
          have go : opRun X call o st log (fun st log => runOps X call ops rest st log K) = some res → true = (b == want) → Traced X.P ops K res (o :: rest) st log := fun h hb => by
            obtain ⟨e, t, h1, h2, h3⟩ := opRun_acts hs h
            exact fin h1 (.inl ⟨hgi _ hb, e, rfl, h2, h3⟩)
          have skip : runOps X call ops rest (st.put o.dst .gone) (log ++ [⟨[], []⟩]) K = some res → false = (b == want) → Traced X.P ops K res (o :: rest) st log := fun h hb => fin h (.inr ⟨hgi _ hb, rfl, rfl⟩)
          cases b with
          | true =>
            rw [put_same hd] at h
            cases want with
            | true => exact go h rfl
            | false => exact skip h rfl
          | false =>
            rw [put_same hd] at h
            cases want with
            | true => exact skip h rfl
            | false => exact go h rfl
      · rename_i hd
        cases hdst : (ops[g]?).bind (·.dst) with
        | none => rw [hdst] at hd; cases hd
        | some d =>
          rw [hdst] at hd
          simp only [Option.map_some, Option.some.injEq] at hd
          exact fin h (.inr ⟨by unfold GuardIs; rw [hg]; exact ⟨d, hdst, .inr ⟨hd, rfl⟩⟩, rfl, rfl⟩)
      · cases h
def dstAt (ops : List Oper) (k : Nat) : Option Tmp := (ops[k]?).bind (·.dst)
def memD (σ : Nat → St) (τ : Nat → Touch) (D : Nat → Bool) : Nat → Mem
  | 0 => memOf (σ 0)
  | k + 1 => fun r => if D k = true ∧ r ∈ (τ k).writes then memOf (σ (k + 1)) r else memD σ τ D k r
def tmpD (ops : List Oper) (σ : Nat → St) (D : Nat → Bool) : Nat → Nat → TV
  | 0 => (σ 0).get
  | k + 1 => fun t => if D k = true ∧ dstAt ops k = some t then (σ (k + 1)).get t else tmpD ops σ D k t
section
variable {σ : Nat → St} {τ : Nat → Touch} {D : Nat → Bool} {ops : List Oper}
theorem memD_succ (k r : Nat) : memD σ τ D (k + 1) r = if D k = true ∧ r ∈ (τ k).writes then memOf (σ (k + 1)) r else memD σ τ D k r := rfl
theorem tmpD_succ (k t : Nat) : tmpD ops σ D (k + 1) t = if D k = true ∧ dstAt ops k = some t then (σ (k + 1)).get t else tmpD ops σ D k t := rfl
theorem memD_upto {r : Nat} : ∀ {i : Nat}, (∀ k, k < i → r ∉ (τ k).writes → memOf (σ (k + 1)) r = memOf (σ k) r) → (∀ k, k < i → r ∈ (τ k).writes → D k = true) → memD σ τ D i r = memOf (σ i) r
  | 0, _, _ => rfl
  | i + 1, hs, hd => by
    rw [memD_succ]
    by_cases hw : r ∈ (τ i).writes
    · rw [if_pos ⟨hd i (Nat.lt_succ_self i) hw, hw⟩]
    · rw [if_neg (fun h => hw h.2), memD_upto (fun k hk => hs k (by omega)) (fun k hk => hd k (by omega)), hs i (Nat.lt_succ_self i) hw]
theorem memD_from {r i : Nat} : ∀ {n : Nat}, i ≤ n → (∀ k, i ≤ k → k < n → D k = true → r ∉ (τ k).writes) → memD σ τ D n r = memD σ τ D i r
  | 0, hi, _ => by have : i = 0 := by omega
                   subst this; rfl
  | n + 1, hi, h => by
    by_cases he : i = n + 1
    · subst he; rfl
    · rw [memD_succ]
      rw [if_neg (fun hx => h n (by omega) (Nat.lt_succ_self n) hx.1 hx.2)]
      exact memD_from (by omega) (fun k h1 h2 => h k h1 (by omega))
theorem memD_none : ∀ {n : Nat}, (∀ k, k < n → D k = false) → memD σ τ D n = memOf (σ 0)
  | 0, _ => rfl
  | n + 1, h => by
    funext r
    rw [memD_succ]
    rw [if_neg (fun hx => by rw [h n (Nat.lt_succ_self n)] at hx; exact absurd hx.1 (by simp)), memD_none (fun k hk => h k (by omega))]
theorem memD_more {i r : Nat} (hr : r ∉ (τ i).writes) : ∀ {n : Nat}, memD σ τ (fun k => D k || k == i) n r = memD σ τ D n r
  | 0 => rfl
  | n + 1 => by
    rw [memD_succ, memD_succ]
    by_cases hn : n = i
    · subst hn
      rw [if_neg (fun h => hr h.2), if_neg (fun h => hr h.2)]
      exact memD_more hr
    · have : (D n || n == i) = D n := by simp [hn]
      rw [this, memD_more hr]
theorem memD_last {i r : Nat} (hr : r ∈ (τ i).writes) {n : Nat} (hi : i < n) (h : ∀ k, i < k → k < n → D k = true → r ∉ (τ k).writes) : memD σ τ (fun k => D k || k == i) n r = memOf (σ (i + 1)) r := by
  rw [memD_from (i := i + 1) (by omega) (fun k h1 h2 h3 => h k (by omega) h2 (by
    have : (k == i) = false := by simp; omega
    simpa [this] using h3))]
  rw [memD_succ]
  rw [if_pos ⟨by simp, hr⟩]
theorem tmpD_upto {t : Nat} : ∀ {i : Nat}, (∀ k, k < i → dstAt ops k ≠ some t → (σ (k + 1)).get t = (σ k).get t) → (∀ k, k < i → dstAt ops k = some t → D k = true) → tmpD ops σ D i t = (σ i).get t
  | 0, _, _ => rfl
  | i + 1, hs, hd => by
    rw [tmpD_succ]
    by_cases hw : dstAt ops i = some t
    · rw [if_pos ⟨hd i (Nat.lt_succ_self i) hw, hw⟩]
    · rw [if_neg (fun h => hw h.2), tmpD_upto (fun k hk => hs k (by omega)) (fun k hk => hd k (by omega)), hs i (Nat.lt_succ_self i) hw]
theorem tmpD_from {t i : Nat} : ∀ {n : Nat}, i ≤ n → (∀ k, i ≤ k → k < n → D k = true → dstAt ops k ≠ some t) → tmpD ops σ D n t = tmpD ops σ D i t
  | 0, hi, _ => by have : i = 0 := by omega
                   subst this; rfl
  | n + 1, hi, h => by
    by_cases he : i = n + 1
    · subst he; rfl
    · rw [tmpD_succ]
      rw [if_neg (fun hx => h n (by omega) (Nat.lt_succ_self n) hx.1 hx.2)]
      exact tmpD_from (by omega) (fun k h1 h2 => h k h1 (by omega))
theorem tmpD_none : ∀ {n : Nat}, (∀ k, k < n → D k = false) → tmpD ops σ D n = (σ 0).get
  | 0, _ => rfl
  | n + 1, h => by
    funext r
    rw [tmpD_succ]
    rw [if_neg (fun hx => by rw [h n (Nat.lt_succ_self n)] at hx; exact absurd hx.1 (by simp)), tmpD_none (fun k hk => h k (by omega))]
theorem tmpD_more {i t : Nat} (hr : dstAt ops i ≠ some t) : ∀ {n : Nat}, tmpD ops σ (fun k => D k || k == i) n t = tmpD ops σ D n t
  | 0 => rfl
  | n + 1 => by
    rw [tmpD_succ, tmpD_succ]
    by_cases hn : n = i
    · subst hn
      rw [if_neg (fun h => hr h.2), if_neg (fun h => hr h.2)]
      exact tmpD_more hr
    · have : (D n || n == i) = D n := by simp [hn]
      rw [this, tmpD_more hr]
theorem tmpD_last {i t : Nat} (hr : dstAt ops i = some t) {n : Nat} (hi : i < n) (h : ∀ k, i < k → k < n → D k = true → dstAt ops k ≠ some t) : tmpD ops σ (fun k => D k || k == i) n t = (σ (i + 1)).get t := by
  rw [tmpD_from (i := i + 1) (by omega) (fun k h1 h2 h3 => h k (by omega) h2 (by
    have : (k == i) = false := by simp; omega
    simpa [this] using h3))]
  rw [tmpD_succ]
  rw [if_pos ⟨by simp, hr⟩]
end
def Closed (ops : List Oper) (D : Nat → Bool) : Prop := ∀ j o, ops[j]? = some o → D j = true → ∀ e ∈ o.after.toList, Region.binds .any e = true → D e.on = true
theorem snoc_ind {α : Type} {p : List α → Prop} (h0 : p []) (h1 : ∀ l a, p l → p (l ++ [a])) (l : List α) : p l := by
  have key : ∀ m : List α, p m.reverse := by
    intro m
    induction m with
    | nil => exact h0
    | cons a m ih => rw [List.reverse_cons]; exact h1 _ _ ih
  have := key l.reverse
  rwa [List.reverse_reverse] at this
theorem aheads_snoc (l : List Oper) (o : Oper) : aheads (l ++ [o]) = aheads l ++ [edgeMask (aheads l) (o.after.toList.filter (Region.binds .any))] := by
  unfold aheads
  rw [List.foldl_append]
  rfl
theorem edgeMask_spec {acc : List Nat} {i : Nat} : ∀ {es : List Edge} {m : Nat}, Nat.testBit (es.foldl (fun m e => Nat.lor m (Nat.lor (Nat.shiftLeft 1 e.on) (acc.getD e.on 0))) m) i = true → Nat.testBit m i = true ∨ ∃ e ∈ es, i = e.on ∨ Nat.testBit (acc.getD e.on 0) i = true
  | [], m, h => .inl h
  | e :: es, m, h => by
    rw [List.foldl_cons] at h
    rcases edgeMask_spec h with h | ⟨e', he, h⟩
    · have h1 : Nat.testBit (m ||| (1 <<< e.on ||| acc.getD e.on 0)) i = true := h
      rw [Nat.testBit_or, Nat.testBit_or, Bool.or_eq_true, Bool.or_eq_true] at h1
      rcases h1 with h1 | h1 | h1
      · exact .inl h1
      · refine .inr ⟨e, by simp, .inl ?_⟩
        rw [Nat.testBit_shiftLeft, Bool.and_eq_true, decide_eq_true_eq] at h1
        by_cases hz : i - e.on = 0
        · have := h1.1; omega
        · exfalso
          have h2 := h1.2
          obtain ⟨k, hk⟩ := Nat.exists_eq_succ_of_ne_zero hz
          rw [hk, Nat.testBit_succ] at h2
          simp at h2
      · exact .inr ⟨e, by simp, .inr h1⟩
    · exact .inr ⟨e', by simp [he], h⟩
theorem aheads_length (l : List Oper) : (aheads l).length = l.length := by
  induction l using snoc_ind with
  | h0 => rfl
  | h1 l o ih => rw [aheads_snoc, List.length_append, List.length_append, ih]; rfl
theorem aheads_closed {D : Nat → Bool} (l : List Oper) : Closed l D → ∀ {j : Nat} {o : Oper} {i : Nat}, l[j]? = some o → (∀ e ∈ o.after.toList, Region.binds .any e = true → D e.on = true) → Nat.testBit ((aheads l).getD j 0) i = true → D i = true := by
  induction l using snoc_ind with
  | h0 => intro _ j o i hj; simp at hj
  | h1 l o' ih =>
    intro hc j o i hj he hi
    have hc' : Closed l D := fun j o hj => hc j o (by
      have : j < l.length := (List.getElem?_eq_some_iff.1 hj).1
      rw [List.getElem?_append_left this]; exact hj)
    rw [aheads_snoc] at hi
    by_cases hl : j < l.length
    · rw [List.getElem?_append_left hl] at hj
      rw [List.getD_eq_getElem?_getD, List.getElem?_append_left (by rw [aheads_length]; exact hl), ← List.getD_eq_getElem?_getD] at hi
      exact ih hc' hj he hi
    · have hjl : j = l.length := by
        have := (List.getElem?_eq_some_iff.1 hj).1
        rw [List.length_append, List.length_singleton] at this
        omega
      subst hjl
      rw [List.getElem?_append_right (Nat.le_refl _)] at hj
      simp only [Nat.sub_self, List.getElem?_cons_zero, Option.some.injEq] at hj
      subst hj
      rw [List.getD_eq_getElem?_getD, List.getElem?_append_right (by rw [aheads_length]; exact Nat.le_refl _), aheads_length] at hi
      simp only [Nat.sub_self, List.getElem?_cons_zero, Option.getD_some] at hi
      rcases edgeMask_spec hi with hi | ⟨e, hem, hi⟩
      · simp at hi
      obtain ⟨h1, h2⟩ := List.mem_filter.1 hem
      have hde := he e h1 h2
      rcases hi with rfl | hi
      · exact hde
      · have hlt : e.on < l.length := by
          rcases Nat.lt_or_ge e.on l.length with h | h
          · exact h
          · rw [List.getD_eq_getElem?_getD, List.getElem?_eq_none (by rw [aheads_length]; exact h)] at hi; simp at hi
        have hoe : l[e.on]? = some l[e.on] := List.getElem?_eq_getElem hlt
        exact ih hc' hoe (fun e' he' hb' => hc' e.on _ hoe hde e' he' hb') hi
theorem hit_false {xs ys : List Nat} (h : hit xs ys = false) {r : Nat} (h1 : r ∈ xs) (h2 : r ∈ ys) : False := by
  unfold hit at h
  rw [List.any_eq_false] at h
  exact h r h1 (List.contains_iff_mem.2 h2)
structure Indep (ops : List Oper) (x y : Oper) (tx ty : Touch) : Prop where
  wr : ∀ r, r ∈ tx.writes → r ∉ ty.reads ∧ r ∉ ty.writes
  rw : ∀ r, r ∈ ty.writes → r ∉ tx.reads
  a1 : apartOps ops x y = true
  a2 : apartOps ops y x = true
theorem drawOk_spec {ops : List Oper} {τ : Nat → Touch} (h : drawOk ops ((List.range ops.length).map τ) = true) {j : Nat} {oj : Oper} (hj : ops[j]? = some oj) :
    (∀ e ∈ oj.after.toList, Region.binds .any e = true → e.on < j) ∧ ∀ i oi, i < j → ops[i]? = some oi → Nat.testBit ((aheads ops).getD j 0) i = true ∨ Indep ops oi oj (τ i) (τ j) := by
  unfold drawOk at h
  simp only at h
  have hjl := (List.getElem?_eq_some_iff.1 hj).1
  have h1 := List.all_eq_true.1 h j (List.mem_range.2 hjl)
  rw [Bool.and_eq_true] at h1
  have hoj : ops.getD j default = oj := by rw [List.getD_eq_getElem?_getD, hj]; rfl
  refine ⟨fun e he hb => ?_, fun i oi hij hi => ?_⟩
  · have := List.all_eq_true.1 h1.1 e (by rw [hoj]; exact he)
    rw [hb] at this
    simpa using this
  · have h2 := List.all_eq_true.1 h1.2 i (List.mem_range.2 hij)
    have hoi : ops.getD i default = oi := by rw [List.getD_eq_getElem?_getD, hi]; rfl
    have hti : ((List.range ops.length).map τ).getD i ⟨[], []⟩ = τ i := by
      rw [List.getD_eq_getElem?_getD, List.getElem?_map, List.getElem?_range (by omega)]; rfl
    have htj : ((List.range ops.length).map τ).getD j ⟨[], []⟩ = τ j := by
      rw [List.getD_eq_getElem?_getD, List.getElem?_map, List.getElem?_range hjl]; rfl
    rw [hoi, hoj, hti, htj] at h2
    simp only [Bool.or_eq_true, Bool.and_eq_true, Bool.not_eq_true'] at h2
    rcases h2 with h2 | ⟨⟨⟨h3, h4⟩, h5⟩, h6⟩
    · exact .inl h2
    · refine .inr ⟨fun r hr => ⟨fun hx => hit_false h3 hr (List.mem_append_left _ hx), fun hx => hit_false h3 hr (List.mem_append_right _ hx)⟩, fun r hr hx => hit_false h4 hr hx, h5, h6⟩
theorem apart_names {ops : List Oper} {x y : Oper} (h : apartOps ops x y = true) {d : Tmp} (hd : x.dst = some d) : d ∉ names ops y ∧ y.dst ≠ some d := by
  unfold apartOps at h
  rw [hd] at h
  simp only [Bool.and_eq_true, Bool.not_eq_true', bne_iff_ne, ne_eq] at h
  exact ⟨fun hx => by rw [List.contains_iff_mem.2 hx] at h; exact absurd h.1 (by simp), h.2⟩
theorem apply_get {st : St} {dst : Option Tmp} {e : Eff} (r : Nat) : memOf (applyEff st dst e) r = if r < st.mem.length then over (memOf st) e.upd r else e.new.getD (r - st.mem.length) deadRoot := by
  unfold memOf applyEff
  simp only
  by_cases h1 : r < st.mem.length
  · rw [if_pos h1, List.getD_eq_getElem?_getD, List.getElem?_append_left (by rw [foldr_length]; exact h1), ← List.getD_eq_getElem?_getD]
    exact foldr_get h1
  · rw [if_neg h1, List.getD_eq_getElem?_getD, List.getElem?_append_right (by rw [foldr_length]; omega), foldr_length]
    exact (List.getD_eq_getElem?_getD ..).symm
theorem apply_temps (st : St) (dst : Option Tmp) (e : Eff) : (applyEff st dst e).temps = (st.put dst e.val).temps := by cases dst <;> rfl
theorem put_length (st : St) (dst : Option Tmp) (v : TV) : (st.put dst v).temps.length = st.temps.length := by
  cases dst with
  | none => rfl
  | some d => simp [St.put]
theorem put_get_ne {st : St} {dst : Option Tmp} {v : TV} {t : Nat} (h : dst ≠ some t) : (st.put dst v).get t = st.get t := by
  cases dst with
  | none => rfl
  | some d =>
    have : t ≠ d := fun he => h (by rw [he])
    simp [St.put, St.get, List.getD_eq_getElem?_getD, List.getElem?_set_ne (Ne.symm this)]
theorem put_get_same {st : St} {t : Nat} {v : TV} (h : t < st.temps.length) : (st.put (some t) v).get t = v := by
  simp [St.put, St.get, List.getD_eq_getElem?_getD, h]
section
variable {P : Program} {ops : List Oper} {o : Oper} {st st' : St} {t : Touch}
theorem Step.still (h : Step P ops o st st' t) {r : Nat} (hr : r ∉ t.writes) : memOf st' r = memOf st r := by
  rcases h with ⟨_, e, rfl, _, hc⟩ | ⟨_, rfl, rfl⟩
  · rw [apply_get]
    split
    · exact hc.still (memOf st) (look_over st _) r hr
    · rename_i hl
      rw [memOf_far st (by omega), List.getD_eq_getElem?_getD, List.getElem?_eq_none]
      · rfl
      · rcases Nat.lt_or_ge (r - st.mem.length) e.new.length with h1 | h1
        · exact absurd (hc.new r ⟨by omega, by omega⟩) hr
        · exact h1
  · unfold memOf; rw [put_mem]
theorem Step.tmp (h : Step P ops o st st' t) {x : Nat} (hx : o.dst ≠ some x) : st'.get x = st.get x := by
  rcases h with ⟨_, e, rfl, _, hc⟩ | ⟨_, rfl, rfl⟩
  · unfold St.get; rw [apply_temps]; exact put_get_ne hx
  · exact put_get_ne hx
theorem Step.size (h : Step P ops o st st' t) : st'.temps.length = st.temps.length := by
  rcases h with ⟨_, e, rfl, _, hc⟩ | ⟨_, rfl, rfl⟩
  · rw [apply_temps, put_length]
  · rw [put_length]
theorem Step.long (h : Step P ops o st st' t) : st.mem.length ≤ st'.mem.length := by
  rcases h with ⟨_, e, rfl, _, hc⟩ | ⟨_, rfl, rfl⟩
  · exact apply_length _ _ _
  · rw [put_mem]; exact Nat.le_refl _
end
theorem names_operand {ops : List Oper} {o : Oper} {t : Tmp} (h : Operand.tmp t ∈ operandsOf o.op) : t ∈ names ops o := by
  unfold names
  refine List.mem_append_left _ (List.mem_filterMap.2 ⟨.tmp t, ?_, rfl⟩)
  unfold operandsOf at h
  split at h
  · rename_i c hc
    rw [hc]
    show _ ∈ (Call.operands c).toList
    unfold Call.operands
    rw [Array.toList_append]
    exact List.mem_append_right _ h
  · exact h
theorem look_over_of {st : St} {vs : List TV} {M : Mem} (h : ∀ r ∈ vs.flatMap TV.roots, M r = memOf st r) : over M (st.look vs) = M := by
  funext r
  by_cases hr : r ∈ (st.look vs).keys
  · have h1 : over M (st.look vs) r = over (memOf st) (st.look vs) r := by rw [over_key hr, over_key hr]
    rw [h1, look_over, h r (by rw [look_keys] at hr; exact mem_dedup'.1 hr)]
  · exact over_not hr
theorem count_set : ∀ {l : List Bool} {i : Nat}, l[i]? = some false → (l.set i true).count false + 1 = l.count false
  | [], i, h => by simp at h
  | x :: l, 0, h => by
    simp only [List.getElem?_cons_zero, Option.some.injEq] at h
    subst h
    simp
  | x :: l, i + 1, h => by
    rw [List.getElem?_cons_succ] at h
    have ih := count_set h
    rw [List.set_cons_succ, List.count_cons, List.count_cons]
    omega
section
variable {X : Ctx} {ops : Array Oper} {σ : Nat → St} {τ : Nat → Touch} {w0 : World} {S F0 : FP} {n0 : Nat} {M0 : Mem} {L0 : Lay}
structure Part (ops : Array Oper) (σ : Nat → St) (τ : Nat → Touch) (w0 : World) (S F0 : FP) (n0 : Nat) (M0 : Mem) (L0 : Lay) (D : Nat → Bool) (a : Act) (w : World) (L : Lay) : Prop where
  rep : MemRep w S (memD σ τ D ops.size) L
  size : a.tmps.size = (σ 0).temps.length
  tmps : ∀ t, t < (σ 0).temps.length → tvRep w S (memD σ τ D ops.size) L (tmpD ops.toList σ D ops.size t) (a.tmps.getD t undef)
  defers : a.defers = []
  since : Since w0 S F0 n0 M0 L0 w (memD σ τ D ops.size) L
  long : n0 ≤ (σ 0).mem.length
variable (hst : ∀ i o, ops.toList[i]? = some o → Step X.P ops.toList o (σ i) (σ (i + 1)) (τ i))
include hst
theorem sizes : ∀ i, i ≤ ops.size → (σ i).temps.length = (σ 0).temps.length ∧ (σ 0).mem.length ≤ (σ i).mem.length
  | 0, _ => ⟨rfl, Nat.le_refl _⟩
  | i + 1, h => by
    have hi : ops.toList[i]? = some ops[i] := by
      rw [List.getElem?_eq_getElem (by simp; omega)]; simp
    obtain ⟨h1, h2⟩ := sizes i (by omega)
    exact ⟨(hst i _ hi).size.trans h1, Nat.le_trans h2 (hst i _ hi).long⟩
variable (hok : drawOk ops.toList ((List.range ops.size).map τ) = true)
include hok
theorem part_step {i : Nat} {o : Oper} {D : Nat → Bool} {a : Act} {w : World} {L : Lay} {next : Act → World → Prop} {Q : Exit → Act → World → Prop} (hi : ops.toList[i]? = some o) (hc : Closed ops.toList D) (hDi : D i = false)
    (hready : ∀ e ∈ o.after.toList, Region.binds .any e = true → D e.on = true) (hp : Part ops σ τ w0 S F0 n0 M0 L0 D a w L)
    (hn : ∀ a' w' L', Part ops σ τ w0 S F0 n0 M0 L0 (fun k => D k || k == i) a' w' L' → next a' w') : wpOp X.P ops Q i next a w := by
  have hil : i < ops.toList.length := (List.getElem?_eq_some_iff.1 hi).1
  have hin : i < ops.size := by simpa using hil
  have hstep := hst i o hi
  have hok' : drawOk ops.toList ((List.range ops.toList.length).map τ) = true := by simpa using hok
  have hat : ∀ k, k < ops.size → ∃ ok, ops.toList[k]? = some ok := fun k hk => ⟨_, List.getElem?_eq_getElem (by simpa using hk)⟩
  have before : ∀ k ok, k < i → ops.toList[k]? = some ok → D k = true ∨ Indep ops.toList ok o (τ k) (τ i) := fun k ok hk hko => by
    rcases (drawOk_spec hok' hi).2 k ok hk hko with h | h
    · exact .inl (aheads_closed _ hc hi hready h)
    · exact .inr h
  have behind : ∀ k ok, i < k → ops.toList[k]? = some ok → D k = true → Indep ops.toList o ok (τ i) (τ k) := fun k ok hk hko hD => by
    rcases (drawOk_spec hok' hko).2 i o hk hi with h | h
    · have := aheads_closed _ hc hko (hc k ok hko hD) h
      rw [hDi] at this; cases this
    · exact h
  have still : ∀ r k, k < i → r ∉ (τ k).writes → memOf (σ (k + 1)) r = memOf (σ k) r := fun r k hk hr => by
    obtain ⟨ok, hko⟩ := hat k (by omega)
    exact (hst k ok hko).still hr
  have stillT : ∀ t k, k < i → dstAt ops.toList k ≠ some t → (σ (k + 1)).get t = (σ k).get t := fun t k hk hr => by
    obtain ⟨ok, hko⟩ := hat k (by omega)
    refine (hst k ok hko).tmp (fun h => hr ?_)
    unfold dstAt; rw [hko]; exact h
  have later : ∀ r, (r ∈ (τ i).reads ∨ r ∈ (τ i).writes) → ∀ k, i < k → k < ops.size → D k = true → r ∉ (τ k).writes := fun r hr k hk hkn hD hw => by
    obtain ⟨ok, hko⟩ := hat k hkn
    have ind := behind k ok hk hko hD
    rcases hr with hr | hr
    · exact ind.rw r hw hr
    · exact (ind.wr r hr).2 hw
  have memEq : ∀ r, (r ∈ (τ i).reads ∨ r ∈ (τ i).writes) → memD σ τ D ops.size r = memOf (σ i) r := fun r hr => by
    rw [memD_from (i := i) (by omega) (fun k h1 h2 h3 hw => by
      by_cases hki : k = i
      · subst hki; rw [hDi] at h3; cases h3
      · exact later r hr k (by omega) h2 h3 hw)]
    refine memD_upto (still r) (fun k hk hw => ?_)
    obtain ⟨ok, hko⟩ := hat k (by omega)
    rcases before k ok hk hko with h | h
    · exact h
    · rcases hr with hr | hr
      · exact absurd hr (h.wr r hw).1
      · exact absurd hr (h.wr r hw).2
  have tmpEq : ∀ t, t ∈ names ops.toList o → tmpD ops.toList σ D ops.size t = (σ i).get t := fun t ht => by
    rw [tmpD_from (i := i) (by omega) (fun k h1 h2 h3 hw => by
      by_cases hki : k = i
      · subst hki; rw [hDi] at h3; cases h3
      · obtain ⟨ok, hko⟩ := hat k h2
        have ind := behind k ok (by omega) hko h3
        refine (apart_names ind.a2 (d := t) ?_).1 ht
        unfold dstAt at hw; rw [hko] at hw; exact hw)]
    refine tmpD_upto (stillT t) (fun k hk hw => ?_)
    obtain ⟨ok, hko⟩ := hat k (by omega)
    rcases before k ok hk hko with h | h
    · exact h
    · refine absurd ht (apart_names h.a1 (d := t) ?_).1
      unfold dstAt at hw; rw [hko] at hw; exact hw
  have hdst : ∀ t, o.dst = some t → dstAt ops.toList i = some t := fun t ht => by unfold dstAt; rw [hi]; exact ht
  have laterT : ∀ t, o.dst = some t → ∀ k, i < k → k < ops.size → D k = true → dstAt ops.toList k ≠ some t := fun t ht k hk hkn hD hw => by
    obtain ⟨ok, hko⟩ := hat k hkn
    have ind := behind k ok hk hko hD
    refine (apart_names ind.a1 ht).2 ?_
    unfold dstAt at hw; rw [hko] at hw; exact hw
  have newT : ∀ t, t < (σ 0).temps.length → tmpD ops.toList σ (fun k => D k || k == i) ops.size t = if o.dst = some t then (σ (i + 1)).get t else tmpD ops.toList σ D ops.size t := fun t ht => by
    by_cases hd : o.dst = some t
    · rw [if_pos hd]; exact tmpD_last (hdst t hd) hin (laterT t hd)
    · rw [if_neg hd]
      refine tmpD_more (fun h => hd ?_)
      unfold dstAt at h; rw [hi] at h; exact h
  obtain ⟨hsz, hml⟩ := sizes hst i (by omega)
  have tv : ∀ t, t ∈ names ops.toList o → tvRep w S (memD σ τ D ops.size) L ((σ i).get t) (a.tmps.getD t undef) := fun t ht => by
    by_cases htl : t < (σ 0).temps.length
    · rw [← tmpEq t ht]; exact hp.tmps t htl
    · unfold St.get
      rw [List.getD_eq_getElem?_getD, List.getElem?_eq_none (by rw [hsz]; exact Nat.le_of_not_lt htl)]
      trivial
  have hoi : ops[i]? = some o := by simpa using hi
  have wanted : ∀ b, GuardIs ops.toList o (σ i) b → Region.wanted o (yielded ops a.tmps) = b := fun b hg => by
    unfold GuardIs at hg
    unfold Region.wanted
    split at hg
    · rename_i hgd
      rw [hgd, hg]
    · rename_i g want hgd
      obtain ⟨d, h1, hg⟩ := hg
      have hdn : d ∈ names ops.toList o := by
        unfold names
        refine List.mem_append_right _ ?_
        rw [hgd]
        simp only
        rw [h1]
        simp
      have h3 := tv d hdn
      have e1 : (ops[g]?).bind (·.dst) = some d := by rw [← h1]; simp
      rw [hgd]
      simp only
      rcases hg with ⟨c, h2, rfl⟩ | ⟨h2, rfl⟩
      · rw [h2] at h3
        have h4 : a.tmps.getD d undef = .bool c := h3.2.1
        have hdl := get_lt h2
        have hy : yielded ops a.tmps g = some c := by
          unfold yielded
          rw [e1]
          simp only [Option.bind_some]
          have hlt : d < a.tmps.size := by rw [hp.size, ← hsz]; exact hdl
          have : a.tmps[d]? = some (.bool c) := by
            rw [← h4]
            simp [Array.getD, hlt]
          rw [this]
        rw [hy]
        cases c <;> cases want <;> rfl
      · rw [h2] at h3
        have h4 : a.tmps.getD d undef = undef := h3
        have hdl := gone_lt h2
        have hy : yielded ops a.tmps g = none := by
          unfold yielded
          rw [e1]
          simp only [Option.bind_some]
          have hlt : d < a.tmps.size := by rw [hp.size, ← hsz]; exact hdl
          have : a.tmps[d]? = some undef := by
            rw [← h4]
            simp [Array.getD, hlt]
          rw [this]
          rfl
        rw [hy]
        rfl
  unfold wpOp
  rw [hoi]
  simp only
  rcases hstep with ⟨hg, e, hσ, hact, hcov⟩ | ⟨hg, hσ, hτ⟩
  · rw [if_pos (wanted true hg)]
    refine .inl ?_
    have hover : over (memD σ τ D ops.size) ((σ i).look (seen o.op (valsOf o (σ i)))) = memD σ τ D ops.size := look_over_of (fun r hr => memEq r (.inl (hcov.reads r hr)))
    have hops : opsRep w S (memD σ τ D ops.size) L (valsOf o (σ i)) ((operandsOf o.op).map a.eval) := by
      have key : ∀ xs : List Operand, (∀ x ∈ xs, x ∈ operandsOf o.op) → opsRep w S (memD σ τ D ops.size) L (xs.map (σ i).operand) (xs.map a.eval) := by
        intro xs
        induction xs with
        | nil => intro _; trivial
        | cons x xs ih =>
          intro h
          refine ⟨?_, ih (fun y hy => h y (by simp [hy]))⟩
          cases x with
          | tmp t => exact tv t (names_operand (h _ (by simp)))
          | const v =>
            show cRep w S (memD σ τ D ops.size) L (ofValue 0 v) v
            unfold ofValue
            split
            · exact ⟨rfl, rfl, fun _ h => h⟩
            · exact ⟨rfl, rfl, fun _ h => h⟩
            · exact ⟨rfl, rfl, fun _ h => h⟩
            · rfl
            · trivial
          | _ => trivial
      exact key _ (fun x hx => hx)
    have hfresh : ∀ r, newOf (σ i).mem.length e.new.length r → (memD σ τ D ops.size r).born = false := fun r hr => by
      rw [memEq r (.inr (hcov.new r hr)), memOf_far (σ i) hr.1]; rfl
    refine hact w S _ L a next Q hp.rep hover hfresh hops (fun v w' L' hv ht => ?_)
    have hmem : addNew (over (memD σ τ D ops.size) e.upd) (σ i).mem.length e.new = memD σ τ (fun k => D k || k == i) ops.size := by
      funext r
      by_cases hr : r ∈ (τ i).writes
      · rw [memD_last hr hin (later r (.inr hr)), hσ, apply_get]
        by_cases hnew : newOf (σ i).mem.length e.new.length r
        · rw [if_neg (by have := hnew.1; omega)]
          unfold addNew
          exact if_pos hnew
        · rw [addNew_born hnew]
          have hroot := (hcov.writes r hr).resolve_right hnew
          have hlt : r < (σ i).mem.length := by
            have hb := ops_born hops r hroot
            rw [memEq r (.inr hr)] at hb
            rcases Nat.lt_or_ge r (σ i).mem.length with h | h
            · exact h
            · rw [memOf_far (σ i) h] at hb; cases hb
          rw [if_pos hlt]
          by_cases hk : r ∈ Look.keys e.upd
          · rw [over_key hk, over_key hk]
          · rw [over_not hk, over_not hk]; exact memEq r (.inr hr)
      · rw [memD_more hr]
        rw [addNew_born (fun h => hr (hcov.new r h))]
        exact hcov.still _ hover r hr
    rw [hmem] at hv ht
    refine hn (a.put o.dst v) w' L' ⟨ht.rep, ?_, fun t htl => ?_, ?_, hp.since.step ht (fun r hr => Nat.le_trans hp.long (Nat.le_trans hml hr.1)), hp.long⟩
    · rw [← hp.size]; cases o.dst <;> simp [Act.put]
    · rw [newT t htl]
      by_cases hd : o.dst = some t
      · rw [if_pos hd, hσ]
        have e1 : (applyEff (σ i) o.dst e).get t = e.val := by
          unfold St.get
          rw [apply_temps, hd]
          exact put_get_same (by omega)
        have e2 : (a.put o.dst v).tmps.getD t undef = v := by
          rw [hd]
          have : t < a.tmps.size := by rw [hp.size]; exact htl
          simp [Act.put, this]
        rw [e1, e2]
        exact hv
      · rw [if_neg hd]
        have e2 : (a.put o.dst v).tmps.getD t undef = a.tmps.getD t undef := by
          cases hx : o.dst with
          | none => rfl
          | some d =>
            have : d ≠ t := fun he => hd (by rw [hx, he])
            simp [Act.put, Array.getElem?_setIfInBounds_ne this]
        rw [e2]
        exact tvRep_stay (fun c u hc => ht.cRep hp.rep hfresh hc) (ht.f hfresh) (hp.tmps t htl)
    · have := hp.defers
      cases o.dst <;> exact this
  · rw [if_neg (by rw [wanted false hg]; simp)]
    have hmem : memD σ τ (fun k => D k || k == i) ops.size = memD σ τ D ops.size := by
      funext r
      exact memD_more (by rw [hτ]; simp)
    refine hn (a.put o.dst undef) w L ⟨by rw [hmem]; exact hp.rep, ?_, fun t htl => ?_, ?_, by rw [hmem]; exact hp.since, hp.long⟩
    · rw [← hp.size]; cases o.dst <;> simp [Act.put]
    · rw [newT t htl, hmem]
      by_cases hd : o.dst = some t
      · rw [if_pos hd, hσ, hd, put_get_same (by omega)]
        have e2 : (a.put (some t) undef).tmps.getD t undef = undef := by
          have : t < a.tmps.size := by rw [hp.size]; exact htl
          simp [Act.put, this]
        rw [e2]
        rfl
      · rw [if_neg hd]
        have e2 : (a.put o.dst undef).tmps.getD t undef = a.tmps.getD t undef := by
          cases hx : o.dst with
          | none => rfl
          | some d =>
            have : d ≠ t := fun he => hd (by rw [hx, he])
            simp [Act.put, Array.getElem?_setIfInBounds_ne this]
        rw [e2]
        exact hp.tmps t htl
    · have := hp.defers
      cases o.dst <;> exact this
theorem part_all {R : Type} {K : St → Option R} {res : R} {Q : Exit → Act → World → Prop} (hK : ∀ a' w' L', Rel w0 S F0 n0 M0 L0 (σ ops.size) a' w' L' → Q .normal a' w') :
    ∀ (fuel : Nat) (listed : Array Bool) (a : Act) (w : World) (L : Lay), listed.size = ops.size → listed.toList.count false = fuel → Closed ops.toList (fun k => listed.getD k false) → Part ops σ τ w0 S F0 n0 M0 L0 (fun k => listed.getD k false) a w L →
      wpAny X.P .any ops Q fuel listed a w := by
  have hok' : drawOk ops.toList ((List.range ops.toList.length).map τ) = true := by simpa using hok
  have ready_iff : ∀ (listed : Array Bool) (i : Nat), listed.size = ops.size → (i ∈ Region.ready .any ops listed ↔ ∃ o, ops.toList[i]? = some o ∧ listed.getD i false = false ∧ ∀ e ∈ o.after.toList, Region.binds .any e = true → listed.getD e.on false = true) := by
    intro listed i hs
    unfold Region.ready
    rw [List.mem_filter, List.mem_range]
    constructor
    · rintro ⟨h1, h2⟩
      rw [Bool.and_eq_true] at h2
      have hoi : ops[i]? = some ops[i] := Array.getElem?_eq_getElem h1
      rw [hoi] at h2
      simp only [Option.map_some, Option.getD_some, Array.all_eq_true', Bool.or_eq_true, Bool.not_eq_true'] at h2
      refine ⟨ops[i], by simp, ?_, fun e he hb => ?_⟩
      · have := h2.1
        have hlt : i < listed.size := by omega
        simp only [Array.getD, hlt, dite_true] at this ⊢
        simpa using this
      · rcases h2.2 e (by simpa using he) with h | h
        · rw [hb] at h; cases h
        · exact h
    · rintro ⟨o, h1, h2, h3⟩
      have hoi : ops[i]? = some o := by simpa using h1
      have hlt : i < ops.size := (Array.getElem?_eq_some_iff.1 hoi).1
      refine ⟨hlt, ?_⟩
      rw [Bool.and_eq_true, hoi]
      simp only [Option.map_some, Option.getD_some, Array.all_eq_true', Bool.or_eq_true, Bool.not_eq_true']
      refine ⟨?_, fun e he => ?_⟩
      · have hlt : i < listed.size := by omega
        simp only [Array.getD, hlt, dite_true] at h2 ⊢
        simpa using h2
      · cases hb : Region.binds .any e with
        | false => exact .inl rfl
        | true => exact .inr (h3 e (by simpa using he) hb)
  have done : ∀ (listed : Array Bool) (a : Act) (w : World) (L : Lay), listed.size = ops.size → (∀ i, i < ops.size → listed.getD i false = true) → Part ops σ τ w0 S F0 n0 M0 L0 (fun k => listed.getD k false) a w L → Q .normal a w := by
    intro listed a w L hs hall hp
    have still : ∀ r k, k < ops.size → r ∉ (τ k).writes → memOf (σ (k + 1)) r = memOf (σ k) r := fun r k hk hr =>
      (hst k _ (List.getElem?_eq_getElem (by simpa using hk))).still hr
    have hmem : memD σ τ (fun k => listed.getD k false) ops.size = memOf (σ ops.size) := by
      funext r
      exact memD_upto (still r) (fun k hk _ => hall k hk)
    have htmp : ∀ t, tmpD ops.toList σ (fun k => listed.getD k false) ops.size t = (σ ops.size).get t := fun t =>
      tmpD_upto (fun k hk hr => (hst k _ (List.getElem?_eq_getElem (by simpa using hk))).tmp (fun h => hr (by
        unfold dstAt; rw [List.getElem?_eq_getElem (by simpa using hk)]; exact h))) (fun k hk _ => hall k hk)
    obtain ⟨hsz, hml⟩ := sizes hst ops.size (Nat.le_refl _)
    refine hK a w L ⟨by rw [← hmem]; exact hp.rep, by rw [hsz]; exact hp.size, fun t ht => ?_, hp.defers, by rw [← hmem]; exact hp.since, Nat.le_trans hp.long hml⟩
    rw [← hmem, ← htmp t]
    exact hp.tmps t (by omega)
  have none_ready : ∀ (listed : Array Bool), listed.size = ops.size → Region.ready .any ops listed = [] → ∀ i, i < ops.size → listed.getD i false = true := by
    intro listed hs hr i
    induction i using Nat.strongRecOn with
    | _ i ih =>
      intro hi
      cases hd : listed.getD i false with
      | true => rfl
      | false =>
        exfalso
        have hoi : ops.toList[i]? = some (ops.toList[i]'(by simpa using hi)) := List.getElem?_eq_getElem (by simpa using hi)
        have hm : i ∈ Region.ready .any ops listed := (ready_iff listed i hs).2 ⟨_, hoi, hd, fun e he hb => by
          have hlt := (drawOk_spec hok' hoi).1 e he hb
          exact ih e.on hlt (by omega)⟩
        rw [hr] at hm
        cases hm
  intro fuel
  induction fuel with
  | zero =>
    intro listed a w L hs hcnt hc hp
    have hall : ∀ i, i < ops.size → listed.getD i false = true := fun i hi => by
      have hlt : i < listed.size := by omega
      have hno := List.count_eq_zero.1 hcnt
      cases hx : listed.getD i false with
      | true => rfl
      | false =>
        exfalso
        apply hno
        simp only [Array.getD, hlt, dite_true] at hx
        rw [← hx]
        simp
    refine ⟨?_, done listed a w L hs hall hp⟩
    cases hr : Region.ready .any ops listed with
    | nil => rfl
    | cons i rest =>
      exfalso
      have hm : i ∈ Region.ready .any ops listed := by rw [hr]; simp
      obtain ⟨o, h1, h2, _⟩ := (ready_iff listed i hs).1 hm
      have := hall i (by simpa using (List.getElem?_eq_some_iff.1 h1).1)
      rw [h2] at this; cases this
  | succ fuel ih =>
    intro listed a w L hs hcnt hc hp
    refine ⟨fun hr => done listed a w L hs (none_ready listed hs hr) hp, fun i him => ?_⟩
    obtain ⟨o, h1, h2, h3⟩ := (ready_iff listed i hs).1 him
    have hlt : i < listed.size := by
      have := (List.getElem?_eq_some_iff.1 h1).1
      rw [hs]; simpa using this
    have hD : (fun k => (listed.setIfInBounds i true).getD k false) = fun k => listed.getD k false || k == i := by
      funext k
      rw [Array.getD_eq_getD_getElem?, Array.getD_eq_getD_getElem?, Array.getElem?_setIfInBounds]
      by_cases hk : i = k
      · subst hk; simp [hlt]
      · have : (k == i) = false := by simp; omega
        rw [if_neg hk, this, Bool.or_false]
    refine part_step hst hok h1 hc h2 h3 hp (fun a' w' L' hp' => ?_)
    refine ih _ a' w' L' (by simp [hs]) ?_ ?_ (by rw [hD]; exact hp')
    · have hf : listed.toList[i]? = some false := by
        simp only [Array.getD, hlt, dite_true] at h2
        rw [← h2]
        simp [hlt]
      have := count_set hf
      rw [Array.toList_setIfInBounds]
      omega
    · rw [hD]
      intro j oj hj hDj e he hb
      simp only [Bool.or_eq_true, beq_iff_eq] at hDj ⊢
      rcases hDj with hDj | rfl
      · exact .inl (hc j oj hj hDj e he hb)
      · rw [h1] at hj
        injection hj with hj
        subst hj
        exact .inl (h3 e he hb)
end
theorem regions_sound {R : Type} {X : Ctx} {call : CallF} (hs : Sound X.P X.H call) (hm : X.P.follows .mixedOrders = true) : RegionsSound X call R := by
  intro w0 S F0 n0 M0 L0 id ops draw st K res Q a w L h hR hK
  cases draw with
  | false =>
    refine wp_region ?_
    have := runOps_sound (w0 := w0) (S := S) (F0 := F0) (n0 := n0) (M0 := M0) (L0 := L0) hs (ops := ops) (Q := Q) ops.toList 0 st [] a w L (fun i => by simp) h hR (fun st' log' a' w' L' h2 hR2 hl => by
      simp only [Bool.not_false, Bool.true_or, cond_true] at h2
      exact hK st' a' w' L' h2 hR2 hl)
    rw [List.range_eq_range']
    simpa using this
  | true =>
    refine wp_region_any hm ?_
    obtain ⟨σ, τ, h1, h2, h3⟩ := runOps_trace hs ops.toList st [] h
    simp only [Bool.not_true, Bool.false_or, List.nil_append] at h2
    cases hok : drawOk ops.toList ((List.range ops.toList.length).map τ) with
    | false => rw [hok] at h2; cases h2
    | true =>
      rw [hok] at h2
      simp only [cond_true] at h2
      have hsz : ops.toList.length = ops.size := by simp
      rw [hsz] at h2 hok
      have hnone : ∀ k, k < ops.size → (Array.replicate ops.size false).getD k false = false := fun k hk => by simp [Array.getD, hk]
      have hml := (sizes h3 ops.size (Nat.le_refl _)).2
      refine part_all h3 hok (K := K) (res := res) (fun a' w' L' hR' => hK (σ ops.size) a' w' L' h2 hR' (by rw [← h1]; exact hml)) ops.size _ a _ L (by simp) (by simp) (fun j o hj hD => ?_) ?_
      · have : j < ops.size := by simpa using (List.getElem?_eq_some_iff.1 hj).1
        have hD' : (Array.replicate ops.size false).getD j false = true := hD
        rw [hnone j this] at hD'; cases hD'
      · have hw : ∀ b : Nat, ({ w with drawn := w.drawn + 1 } : World).heap[b]? = w.heap[b]? := fun _ => rfl
        have hrep : ∀ {M : Mem} {L : Lay}, MemRep w S M L → MemRep { w with drawn := w.drawn + 1 } S M L := fun hm => ⟨fun r hr => repD_stay (w := w) (w' := { w with drawn := w.drawn + 1 }) (fun b hb => ⟨hb, rfl⟩) (hm.rep r hr) (fun _ _ => rfl), hm.born, hm.own, hm.apart, hm.lent⟩
        refine ⟨?_, by rw [h1]; exact hR.size, fun t ht => ?_, hR.defers, ?_, by rw [h1]; exact hR.long⟩
        · rw [memD_none hnone, h1]; exact hrep hR.rep
        · rw [memD_none hnone, tmpD_none hnone, h1]
          rw [h1] at ht
          exact tvRep_stay (fun c v hc => cRep_stay (w := w) (w' := { w with drawn := w.drawn + 1 }) (fun b hb => ⟨hb, rfl⟩) (fun r => keeps_same (w := w) (w' := { w with drawn := w.drawn + 1 }) (S := S) (F := L.fp r) (fun hl => ⟨hR.rep.rep r hl, fun _ _ => rfl⟩)) hc) (keeps_f (fun r => keeps_same (w := w) (w' := { w with drawn := w.drawn + 1 }) (S := S) (F := L.fp r) (fun hl => ⟨hR.rep.rep r hl, fun _ _ => rfl⟩))) (hR.tmps t ht)
        · rw [memD_none hnone, h1]
          refine ⟨hR.since.below.trans ⟨rfl, rfl, rfl, Nat.le_refl _, fun _ _ => rfl⟩, hR.since.frame, hR.since.fp, hR.since.within⟩
end Go.Ev
