/- Words for the rows of laws whose parameters are structs: what reads as data at a type is of the print's kind, and arguments read on as they did where nothing that existed was changed. -/
import Derived.ReadAgain
import Derived.ChangeSame
import Derived.ChangeOld
import Derived.ChangeStays
import Derived.ChangeBook
import Derived.Below
import Derived.DataElems
import Derived.Test.YtgmmhnloobedjaaWWords
namespace Go.Proofs.Ytgmmhnloobedjaa.Kit
open Go.ChangeShapes Go.WideShapes Go.RowKit Go.Proofs.YtgmmhnloobedjaaW.PrintWords
set_option linter.unusedVariables false
set_option linter.unusedSimpArgs false

section
variable {P : Program} {w : World} {base : Nat} {spare : Nat → Bool} {held : Bool}

/-- Whatever reads as data at type t is of kind d, and meets ok. -/
def Opens (P : Program) (t : TypeId) {α : Type} (d : Kd α) (ok : α → Prop) : Prop :=
  ∀ {H : Type} {enc : TypeId × Value → H} {w : World} {base : Nat} {spare : Nat → Bool} {held : Bool} {fuel : Nat} {cs : List Value} {y : DataW H × List MemPlace},
    DataW.trod enc P w base spare held fuel t cs = some y → ∃ x, d.K w x cs ∧ ok x

def okAny {α : Type} : α → Prop := fun _ => True
def ok64 (x : Int) : Prop := (Lit.int .i64 x).wf = true
def ok8 (x : Int) : Prop := (Lit.int .u8 x).wf = true
def okStr (s : ByteArray) : Prop := s.size ≤ 9223372036854775807
def okList {α : Type} (ok : α → Prop) (l : List α) : Prop := l.length ≤ 9223372036854775807 ∧ ∀ x ∈ l, ok x
def okPair {α β : Type} (p : α → Prop) (q : β → Prop) (x : α × β) : Prop := p x.1 ∧ q x.2

theorem opens_int {t : TypeId} {k : IntKind} (ht : P.underlying t = some (.int k)) : Opens P t (Kd.int k) (fun n => (Lit.int k n).wf = true) := by
  intro H enc w base spare held fuel cs y h
  obtain ⟨n, rfl, _, hw⟩ := DataW.trod_int ht h
  exact ⟨n, rfl, hw⟩
theorem opens_bool {t : TypeId} (ht : P.underlying t = some .bool) : Opens P t Kd.bool okAny := by
  intro H enc w base spare held fuel cs y h
  obtain ⟨b, rfl, _⟩ := DataW.trod_bool ht h
  exact ⟨b, rfl, trivial⟩
theorem opens_string {t : TypeId} (ht : P.underlying t = some .string) : Opens P t Kd.string okStr := by
  intro H enc w base spare held fuel cs y h
  obtain ⟨s, rfl, _, hs⟩ := DataW.trod_string ht h
  exact ⟨s, rfl, by unfold okStr; unfold maxLen at hs; omega⟩
theorem list_of_each {α : Type} {p : Nat → α → Prop} (z : α) : ∀ n : Nat, (∀ i, i < n → ∃ x, p i x) → ∃ l : List α, l.length = n ∧ ∀ i x, l[i]? = some x → p i x := by
  intro n
  induction n with
  | zero => intro _; exact ⟨[], rfl, by simp⟩
  | succ n ih =>
    intro h
    obtain ⟨l, hl, hp⟩ := ih (fun i hi => h i (by omega))
    obtain ⟨x, hx⟩ := h n (by omega)
    refine ⟨l ++ [x], by simp [hl], fun i y hy => ?_⟩
    rcases Nat.lt_or_ge i l.length with hi | hi
    · rw [List.getElem?_append_left hi] at hy
      exact hp i y hy
    · rw [List.getElem?_append_right hi] at hy
      have h0 : i - l.length = 0 := by
        rcases Nat.eq_zero_or_pos (i - l.length) with h0 | h0
        · exact h0
        · rw [List.getElem?_eq_none (by simp; omega)] at hy; cases hy
      rw [h0] at hy
      have : i = n := by omega
      subst this
      simp at hy
      subst hy
      exact hx
theorem opens_slice {t e : TypeId} {α : Type} {d : Kd α} {ok : α → Prop} (ht : P.underlying t = some (.slice e)) (hsz : P.cellsOf e = d.sz) (hz : α) (ho : Opens P e d ok) : Opens P t (Kd.slice e d) (okList ok) := by
  intro H enc w base spare held fuel cs y h
  rcases DataW.trod_slice ht h with ⟨rfl, _⟩ | ⟨a, len, cap, elems, rest, n, _, rfl, _, _, hl, hc, hel, hread, _, _⟩
  · exact ⟨[], ⟨none, 0, rfl, Nat.le_refl _, rfl, by simp, fun h => absurd h (Nat.lt_irrefl 0)⟩, by simp [okList]⟩
  · have hm : len ≤ 9223372036854775807 := by unfold maxLen at hc; omega
    have key : ∀ i, i < len → ∃ x, (∃ c, d.K w x c ∧ ∀ j u, c[j]? = some u → w.cell? (a.add (i * d.sz + j)) = some u) ∧ ok x := by
      intro i hi
      have h1 := hread i hi
      obtain ⟨y, hy⟩ : ∃ y, elems[i]? = some y := ⟨_, List.getElem?_eq_getElem (by omega)⟩
      rw [hy] at h1
      obtain ⟨c, hc1, hc2⟩ := Option.bind_eq_some_iff.1 h1
      obtain ⟨x, hx, hox⟩ := ho hc2
      obtain ⟨_, hlen, hcell⟩ := World.cells?_some hc1
      refine ⟨x, ⟨c, hx, fun j u hu => ?_⟩, hox⟩
      have hj : j < P.cellsOf e := by
        rcases Nat.lt_or_ge j c.length with hj | hj
        · omega
        · rw [List.getElem?_eq_none hj] at hu; cases hu
      have := hcell j hj
      rw [hu] at this
      rw [← this, ← hsz, Addr.add_add]
    obtain ⟨l, hll, hlp⟩ := list_of_each hz len key
    refine ⟨l, ⟨some a, cap, by rw [hll], by omega, rfl, by omega, fun _ => ⟨a, rfl, fun j p hp => ?_⟩⟩, by omega, fun x hx => ?_⟩
    · obtain ⟨⟨c, hk, hcc⟩, _⟩ := hlp j p hp
      exact ⟨c, d.K_len hk, hk, hcc⟩
    · obtain ⟨i, hi⟩ := List.mem_iff_getElem?.1 hx
      exact (hlp i x hi).2
/-- Fields one behind the other, from place o on. -/
def OpensF (P : Program) (fs : List Field) (o : Nat) {α : Type} (d : Kd α) (ok : α → Prop) : Prop :=
  ∀ {H : Type} {enc : TypeId × Value → H} {w : World} {base : Nat} {spare : Nat → Bool} {held : Bool} {fuel : Nat} {cs : List Value},
    (∀ f ∈ fs, ∃ y : DataW H × List MemPlace, DataW.trod enc P w base spare held fuel f.type ((cs.drop f.offset).take (P.cellsOf f.type)) = some y) → ∃ x, d.K w x ((cs.drop o).take d.sz) ∧ ok x
theorem opensF_one {f : Field} {o : Nat} {α : Type} {d : Kd α} {ok : α → Prop} (ho : f.offset = o) (hs : P.cellsOf f.type = d.sz) (h : Opens P f.type d ok) : OpensF P [f] o d ok := by
  intro H enc w base spare held fuel cs hf
  obtain ⟨y, hy⟩ := hf f (by simp)
  rw [ho, hs] at hy
  exact h hy
theorem opensF_cons {f : Field} {fs : List Field} {o : Nat} {α β : Type} {d : Kd α} {d' : Kd β} {ok : α → Prop} {ok' : β → Prop} (ho : f.offset = o) (hs : P.cellsOf f.type = d.sz) (h : Opens P f.type d ok) (h' : OpensF P fs (o + d.sz) d' ok') :
    OpensF P (f :: fs) o (Kd.pair d d') (okPair ok ok') := by
  intro H enc w base spare held fuel cs hf
  obtain ⟨y, hy⟩ := hf f (by simp)
  rw [ho, hs] at hy
  obtain ⟨x, hx, hox⟩ := h hy
  obtain ⟨x', hx', hox'⟩ := h' (fun g hg => hf g (by simp [hg]))
  refine ⟨(x, x'), ⟨_, _, ?_, hx, hx'⟩, hox, hox'⟩
  show (cs.drop o).take (d.sz + d'.sz) = _
  rw [List.take_add, List.drop_drop]
theorem opens_struct {t : TypeId} {fs : Array Field} {α β : Type} {d : Kd α} {ok : α → Prop} (f : β → α) (g : α → β) (hfg : ∀ a, f (g a) = a) (ht : P.underlying t = some (.struct fs)) (hs : P.cellsOf t = d.sz) (h : OpensF P fs.toList 0 d ok) :
    Opens P t (Kd.iso d f) (fun x => ok (f x)) := by
  intro H enc w base spare held fuel cs y hy
  obtain ⟨xs, n, _, _, hl, hlen, hf⟩ := DataW.trod_struct ht hy
  obtain ⟨x, hx, hox⟩ := h (cs := cs) (fun fd hfd => by
    obtain ⟨i, hi⟩ := List.mem_iff_getElem?.1 hfd
    have h1 := hf i fd (by simpa using hi)
    have hi2 : i < xs.length := by
      rw [hlen]
      rcases Nat.lt_or_ge i fs.toList.length with h2 | h2
      · simpa using h2
      · rw [List.getElem?_eq_none h2] at hi; cases hi
    exact ⟨_, h1.trans (List.getElem?_eq_getElem hi2)⟩)
  refine ⟨g x, ?_, by show ok (f (g x)); rw [hfg]; exact hox⟩
  show d.K w (f (g x)) cs
  rw [hfg]
  rw [List.drop_zero, ← hs, ← hl, List.take_length] at hx
  exact hx
theorem opens_struct' {t : TypeId} {fs : Array Field} {α : Type} {d : Kd α} {ok : α → Prop} (ht : P.underlying t = some (.struct fs)) (hs : P.cellsOf t = d.sz) (h : OpensF P fs.toList 0 d ok) : Opens P t d ok := by
  intro H enc w base spare held fuel cs y hy
  exact opens_struct (β := α) id id (fun _ => rfl) ht hs h hy
/-- A struct argument: its cells. -/
theorem open_agg {H : Type} {enc : TypeId × Value → H} {r : Reach} {b0 : Nat} {t : TypeId} {fs : Array Field} {v : Value} {dd : DataW H} {p : List MemPlace} {α : Type} {d : Kd α} {ok : α → Prop} (ht : P.underlying t = some (.struct fs)) (ho : Opens P t d ok)
    (hv : Value.okWide P w r b0 t v) (h : DataW.Trod enc P w base spare held t v dd p) : ∃ cs : List Value, v = .agg cs.toArray ∧ ∃ x, d.K w x cs ∧ ok x := by
  obtain ⟨cs, rfl, _⟩ := okWide_struct ht hv
  obtain ⟨fuel, hf⟩ := h
  obtain ⟨x, hx, hox⟩ := ho hf
  exact ⟨cs.toList, by simp, x, hx, hox⟩
/-- A slice argument: its row. -/
theorem open_sl {H : Type} {enc : TypeId × Value → H} {r : Reach} {b0 : Nat} {t e : TypeId} {v : Value} {dd : DataW H} {p : List MemPlace} {α : Type} {d : Kd α} {ok : List α → Prop} (ht : P.underlying t = some (.slice e)) (ho : Opens P t (Kd.slice e d) ok)
    (hv : Value.okWide P w r b0 t v) (h : DataW.Trod enc P w base spare held t v dd p) : ∃ A c x, v = .slice A x.length c ∧ x.length ≤ c ∧ d.C w A x.length x ∧ ok x := by
  obtain ⟨a, len, cap, rfl⟩ := okWide_slice ht hv
  obtain ⟨fuel, hf⟩ := h
  obtain ⟨x, ⟨A, c, he, hl, hc⟩, hox⟩ := ho hf
  have he' : Value.slice a len cap = .slice A x.length c := by simpa [Value.cells] using he
  exact ⟨A, c, x, he', hl, hc, hox⟩
/-- Arguments read on as they did. -/
theorem args_stay {H : Type} {enc : TypeId × Value → H} {W W' : World} (hl : laidOutB P = true) (hm : mapsRowed P = true) (hz : ((List.range P.types.size).all fun t => match P.underlying t with | some (.slice e) => decide (0 < P.cellsOf e) | _ => true) = true)
    {ts : List TypeId} (hts : ∀ t ∈ ts, t < P.types.size) {vs : List Value} {ds : List (DataW H)} {ps : List MemPlace} (h : DataW.TrodAll enc P W 0 (fun _ => true) true ts vs ds ps) (hb : Below W.heap.size W W') :
    DataW.TrodAll enc P W' 0 (fun b => decide (b < W.heap.size)) true ts vs ds ps := by
  have h1 : DataW.TrodAll enc P W' 0 (fun _ => true) true ts vs ds ps := by
    have hlt := h.lt
    clear hts
    induction ts generalizing vs ds ps with
    | nil =>
      obtain ⟨rfl, rfl, rfl⟩ := trodAll_nil h
      exact trodAll_mk0
    | cons t ts ih =>
      obtain ⟨v, vs1, d, ds1, p, q, rfl, rfl, rfl, ⟨n, h1⟩, h2⟩ := trodAll_cons h
      refine ⟨p, q, ⟨n, ?_⟩, ih h2 (fun x hx => hlt x (List.mem_append_right _ hx)), rfl⟩
      exact DataW.trod_carry n t _ _ h1 (fun x hx => hb.same (hlt x (List.mem_append_left _ hx)))
  exact DataW.TrodAll.respare (kids_rows hl hm) (slices_full_of P hz) hts h1 (fun p hp => by simpa using h.lt p hp)
end
end Go.Proofs.Ytgmmhnloobedjaa.Kit
