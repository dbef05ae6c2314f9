/- A call's return: every root that was out is back. -/
import Derived.Test.YtkkpblhaeliofaaEvRet
namespace Go.Ev
open Go.RowKit
set_option linter.unusedVariables false
set_option linter.unusedSimpArgs false
theorem over_key {M : Mem} {rs : Look} {r : Nat} (h : r ∈ rs.keys) : over M rs r = rs.get r := by
  unfold over Look.get
  unfold Look.keys at h
  cases hf : rs.find? (fun x => x.1 == r) with
  | some x => rfl
  | none =>
    exfalso
    obtain ⟨x, hx, hr⟩ := List.mem_map.1 h
    have := List.find?_eq_none.1 hf x hx
    simp [hr] at this
theorem fits_length {own : Bool} {ls : List Leaf} {row : List D} (h : fits own ls row = true) : row.length = ls.length := by
  have := typedRow_length (own := own) (row := row) (ls := ls) (k := 0)
  rw [fits_row h] at this
  exact this
theorem holes_nil (M : Mem) : holes M [] = M := by
  funext r; unfold holes; rw [if_neg (by simp)]
section
variable {P : Program} {w w' : World} {S Sc : FP} {M1 : Mem} {L1 : Lay}
theorem inRoots_live : ∀ {mts : List (Mode × TypeId)} {tvs : List TV} {rows : List (List D)} {vs : List Value} {F : FP}, argsOut P w S Sc M1 L1 mts tvs rows vs F → ∀ r ∈ inRoots mts tvs, (M1 r).live = true
  | [], [], [], [], F, h, r, hr => by cases hr
  | (.inout o, t) :: ms, tv :: tvs, row :: rows, v :: vs, F, h, r, hr => by
    obtain ⟨F1, F2, h1, h2, h3, h4⟩ := h
    obtain ⟨r0, ga, gh, q, n, i, j, B, c, Go, Ro, rfl, hok, _⟩ := h1
    have hr' : r ∈ (TV.v false [C.ptr r0 ga gh q n i j]).roots ++ inRoots ms tvs := hr
    rcases List.mem_append.1 hr' with hr' | hr'
    · have : r = r0 := by simpa [TV.roots, C.roots] using hr'
      subst this
      exact okView_live hok
    · exact inRoots_live h2 r hr'
  | (.lend, t) :: ms, tv :: tvs, row :: rows, v :: vs, F, ⟨F1, F2, h1, h2, h3, h4⟩, r, hr => inRoots_live (mts := ms) (tvs := tvs) h2 r hr
  | (.give, t) :: ms, tv :: tvs, row :: rows, v :: vs, F, ⟨F1, F2, h1, h2, h3, h4⟩, r, hr => inRoots_live (mts := ms) (tvs := tvs) h2 r hr
  | (.ro, t) :: ms, tv :: tvs, row :: rows, v :: vs, F, ⟨F1, F2, h1, h2, h3, h4⟩, r, hr => inRoots_live (mts := ms) (tvs := tvs) h2 r hr
  | [], _ :: _, _, _, _, h, _, _ => h.elim
  | [], [], _ :: _, _, _, h, _, _ => h.elim
  | [], [], [], _ :: _, _, h, _, _ => h.elim
  | (m, _) :: _, [], _, _, _, h, _, _ => by cases m <;> exact h.elim
  | (m, _) :: _, _ :: _, [], _, _, h, _, _ => by cases m <;> exact h.elim
  | (m, _) :: _, _ :: _, _ :: _, [], _, h, _, _ => by cases m <;> exact h.elim
theorem argsOut_out (hm : MemRep w S M1 L1) : ∀ {mts : List (Mode × TypeId)} {tvs : List TV} {rows : List (List D)} {vs : List Value} {F : FP}, argsOut P w S Sc M1 L1 mts tvs rows vs F → ∀ r, (M1 r).live = true → r ∉ inRoots mts tvs → ∀ b, F b → ¬ L1.fp r b
  | [], [], [], [], F, h, r, _, _, b, hb => absurd hb (h b)
  | (.inout o, t) :: ms, tv :: tvs, row :: rows, v :: vs, F, h, r, hl, hr, b, hb => by
    obtain ⟨F1, F2, h1, h2, h3, h4⟩ := h
    have hr' : r ∉ tv.roots ++ inRoots ms tvs := hr
    rcases (h3 b).1 hb with hb | hb
    · obtain ⟨r0, ga, gh, q, n, i, j, B, c, Go, Ro, rfl, hok, _, _, _, _, hfp, _⟩ := h1
      refine hm.apart r0 r (okView_live hok) hl (fun he => hr' (List.mem_append_left _ ?_)) b ((hfp b).2 (.inl hb))
      subst he; simp [TV.roots, C.roots]
    · exact argsOut_out hm h2 r hl (fun h => hr' (List.mem_append_right _ h)) b hb
  | (.lend, t) :: ms, tv :: tvs, row :: rows, v :: vs, F, ⟨F1, F2, h1, h2, h3, h4⟩, r, hl, hr, b, hb => by
    rcases (h3 b).1 hb with hb | hb
    · exact absurd hb (h1.1 b)
    · exact argsOut_out hm (mts := ms) (tvs := tvs) h2 r hl hr b hb
  | (.ro, t) :: ms, tv :: tvs, row :: rows, v :: vs, F, ⟨F1, F2, h1, h2, h3, h4⟩, r, hl, hr, b, hb => by
    rcases (h3 b).1 hb with hb | hb
    · exact absurd hb (h1.1 b)
    · exact argsOut_out hm (mts := ms) (tvs := tvs) h2 r hl hr b hb
  | (.give, t) :: ms, tv :: tvs, row :: rows, v :: vs, F, ⟨F1, F2, h1, h2, h3, h4⟩, r, hl, hr, b, hb => by
    rcases (h3 b).1 hb with hb | hb
    · exact h1.2.2.2 r hl b hb
    · exact argsOut_out hm (mts := ms) (tvs := tvs) h2 r hl hr b hb
  | [], _ :: _, _, _, _, h, _, _, _, _, _ => h.elim
  | [], [], _ :: _, _, _, h, _, _, _, _, _ => h.elim
  | [], [], [], _ :: _, _, h, _, _, _, _, _ => h.elim
  | (m, _) :: _, [], _, _, _, h, _, _, _, _, _ => by cases m <;> exact h.elim
  | (m, _) :: _, _ :: _, [], _, _, h, _, _, _, _, _ => by cases m <;> exact h.elim
  | (m, _) :: _, _ :: _, _ :: _, [], _, h, _, _, _, _, _ => by cases m <;> exact h.elim
structure Back (w w' : World) (x x' : Root) (hd : Value) : Prop where
  live : x'.live = true
  keeps : Keeps w w' x x' hd hd
  same : x'.box = x.box ∧ x'.sz = x.sz ∧ x'.es.length = x.es.length
  within : Within w w' hd (x.es.length * x.sz)
theorem back_sound {Fall : FP} (hm1 : MemRep w S M1 L1) (hsz : w.heap.size ≤ w'.heap.size) (hframe : ∀ b, b < w.heap.size → ¬ Fall b → w'.heap[b]? = w.heap[b]?) (hSF : ∀ b, S b → ¬ Fall b) {M : Mem} :
    ∀ {mts : List (Mode × TypeId)} {tvs : List TV} {rows : List (List D)} {vs : List Value} {F : FP} {backs : List (List D)} {G2 : FP} {rs rs2 : Look} {Lc : Lay},
      argsOut P w S Sc M1 L1 mts tvs rows vs F → inApart mts tvs → backRep w' S mts vs backs G2 → inWithin w w' mts rows vs →
      (∀ r ∈ inRoots mts tvs, r ∈ rs.keys ∧ over M rs r = M1 r) → MemRep w' S (holes (over M rs) (inRoots mts tvs)) Lc → (∀ r, Lc.hd r = L1.hd r) →
      (∀ b, F b → Fall b) → (∀ b, Fall b → ¬ F b → ∀ r ∈ inRoots mts tvs, ¬ L1.fp r b) → (∀ b, G2 b → (Fall b ∨ w.heap.size ≤ b) ∧ b < w'.heap.size ∧ ¬ S b) →
      (∀ r ∈ inRoots mts tvs, ∀ b, L1.fp r b → ¬ Fall b → ∀ k, (holes (over M rs) (inRoots mts tvs) k).live = true → ¬ Lc.fp k b) →
      (∀ b, G2 b → ∀ k, (holes (over M rs) (inRoots mts tvs) k).live = true → ¬ Lc.fp k b) →
      backAll P mts tvs backs rs = some (true, rs2) →
      ∃ L', MemRep w' S (over M rs2) L' ∧ (∀ r, L'.hd r = L1.hd r) ∧ rs2.keys = rs.keys ∧ (∀ r, r ∉ inRoots mts tvs → over M rs2 r = over M rs r ∧ L'.fp r = Lc.fp r) ∧
        ∀ r ∈ inRoots mts tvs, Back w w' (M1 r) (over M rs2 r) (L1.hd r) ∧ ∀ b, L'.fp r b → (L1.fp r b ∧ ¬ Fall b) ∨ G2 b
  | [], [], [], [], F, backs, G2, rs, rs2, Lc, _, _, hb, _, _, hm, hhd, _, _, _, _, _, he => by
    simp only [backAll, Option.some.injEq, Prod.mk.injEq, true_and] at he
    subst he
    have hm' : MemRep w' S (holes (over M rs) []) Lc := hm
    rw [holes_nil] at hm'
    exact ⟨Lc, hm', hhd, rfl, fun r _ => ⟨rfl, rfl⟩, fun r hr => by cases hr⟩
  | (.lend, t) :: ms, tv :: tvs, row :: rows, v :: vs, F, backs, G2, rs, rs2, Lc, ⟨F1, F2, h1, h2, h3, h4⟩, hap, hb, hw, hk, hm, hhd, hF, hO, hG, H1, H2, he => by
    have hFF : ∀ b, F b ↔ F2 b := fun b => (h3 b).trans ⟨fun h => h.resolve_left (h1.1 b), .inr⟩
    exact back_sound hm1 hsz hframe hSF (mts := ms) (tvs := tvs) h2 hap hb hw hk hm hhd (fun b h => hF b ((hFF b).2 h)) (fun b h hn => hO b h (fun hx => hn ((hFF b).1 hx))) hG H1 H2 he
  | (.ro, t) :: ms, tv :: tvs, row :: rows, v :: vs, F, backs, G2, rs, rs2, Lc, ⟨F1, F2, h1, h2, h3, h4⟩, hap, hb, hw, hk, hm, hhd, hF, hO, hG, H1, H2, he => by
    have hFF : ∀ b, F b ↔ F2 b := fun b => (h3 b).trans ⟨fun h => h.resolve_left (h1.1 b), .inr⟩
    exact back_sound hm1 hsz hframe hSF (mts := ms) (tvs := tvs) h2 hap hb hw hk hm hhd (fun b h => hF b ((hFF b).2 h)) (fun b h hn => hO b h (fun hx => hn ((hFF b).1 hx))) hG H1 H2 he
  | (.give, t) :: ms, tv :: tvs, row :: rows, v :: vs, F, backs, G2, rs, rs2, Lc, ⟨F1, F2, h1, h2, h3, h4⟩, hap, hb, hw, hk, hm, hhd, hF, hO, hG, H1, H2, he => by
    refine back_sound hm1 hsz hframe hSF (mts := ms) (tvs := tvs) h2 hap hb hw hk hm hhd (fun b h => hF b ((h3 b).2 (.inr h))) (fun b h hn r hr => ?_) hG H1 H2 he
    by_cases hb1 : F1 b
    · exact h1.2.2.2 r (inRoots_live h2 r hr) b hb1
    · exact hO b h (fun hx => ((h3 b).1 hx).elim hb1 hn) r hr
  | (.inout o, t) :: ms, tv :: tvs, row :: rows, v :: vs, F, backs, G2, rs, rs2, Lc, h, hap, hb, hw, hk, hm, hhd, hF, hO, hG, H1, H2, he => by
    obtain ⟨F1, F2, h1, h2, h3, h4⟩ := h
    obtain ⟨r, ga, gh, q, n, i, j, B, c, Go, Ro, rfl, hok, rfl, hrl, _, hFB, hfp, hFR, hfl, put⟩ := h1
    have hl := okView_live hok
    have hroots : inRoots ((.inout o, t) :: ms) (.v false [C.ptr r ga gh q n i j] :: tvs) = r :: inRoots ms tvs := rfl
    rw [hroots] at hk hm hO H1 H2 ⊢
    obtain ⟨hap1, hap2⟩ := hap
    have hrn : r ∉ inRoots ms tvs := hap1 r (by simp [TV.roots, C.roots])
    obtain ⟨hw1, hw2⟩ := hw
    cases backs with
    | nil => exact hb.elim
    | cons bk backs =>
      obtain ⟨B', off', G', K1, K2, hv, hrow, hnB, hK1, hb2, hK, hKd⟩ := hb
      injection hv with hv
      injection hv with hv
      injection hv with hv1 hv2
      subst hv1 hv2
      obtain ⟨hkey, hov⟩ := hk r (by simp)
      have hget : rs.get r = M1 r := by rw [← hov, over_key hkey]
      have hlg : (rs.get r).live = true := by rw [hget]; exact hl
      simp only [backAll, List.headD_cons, List.tail_cons] at he
      split at he
      · rename_i b1 rs1 he1
        simp only [Option.some.injEq, Prod.mk.injEq, Bool.and_eq_true, decide_eq_true_eq] at he
        obtain ⟨⟨hlen, hfit, rfl⟩, rfl⟩ := he
        rw [fits_row hfit, hget] at he1
        have hbl : bk.length = row.length := by rw [fits_length hfit, hlen, hrl]
        change backAll P ms tvs backs (rs.put r (putRoot (M1 r) q i j n bk)) = some (true, rs1) at he1
        have hRo : ∀ b, Ro b → L1.fp r b ∧ ¬ Fall b ∧ b < w.heap.size := fun b hb => by
          have hfb := (hfp b).2 (.inr hb)
          refine ⟨hfb, fun hx => ?_, (hm1.own r hl b hfb).1⟩
          by_cases hFb : F b
          · rcases (h3 b).1 hFb with hx1 | hx1
            · exact hFR b hx1 hb
            · exact argsOut_out hm1 h2 r hl hrn b hx1 hfb
          · exact hO b hx hFb r (by simp) hfb
        have hG' : ∀ b, G' b → b ≠ B ∧ ¬ Ro b := fun b hb => ⟨fun he => hnB (he ▸ hb), fun hx => by
          obtain ⟨_, h5, h6⟩ := hRo b hx
          rcases (hG b ((hK b).2 (.inl ((hK1 b).2 (.inr hb))))).1 with h7 | h7
          · exact h5 h7
          · omega⟩
        obtain ⟨hrep, hlen2, hkeep, hwith⟩ := put (w' := w') (ds := bk) (G := G') hbl (fun b hb => hframe b (hm1.lent b hb) (hSF b hb)) (fun b hb => hframe b (hRo b hb).2.2 (hRo b hb).2.1) (hw1 B c rfl) hrow hG'
        have hkeep' := hkeep (fun hns b hb hbB => by
          rcases (hfp b).1 hb with hx | hx
          · rcases (hFB b).1 hx with hx | hx
            · exact absurd hx hbB
            · rcases hfl with hfl | hfl
              · exfalso
                have key : ∀ {ls : List Leaf} {ds : List D}, fits o ls ds = true → ls.any Leaf.isSl = true → ds.all D.noSl = true → False := by
                  intro ls
                  induction ls with
                  | nil => intro ds _ h; simp at h
                  | cons l ls ih =>
                    intro ds h1 h2 h3
                    cases ds with
                    | nil => cases h1
                    | cons d ds =>
                      simp only [fits, Bool.and_eq_true] at h1
                      simp only [List.any_cons, Bool.or_eq_true] at h2
                      simp only [List.all_cons, Bool.and_eq_true] at h3
                      rcases h2 with h2 | h2
                      · cases l with
                        | sl n f => obtain ⟨es, rfl⟩ := fit_sl h1.1; cases h3.1
                        | _ => cases h2
                      · exact ih h1.2 h2 h3.2
                exact key hfit hfl hns
              · exact absurd hx (hfl b)
          · exact hframe b (hRo b hx).2.2 (hRo b hx).2.1)
        have hnew : ∀ b, (b = B ∨ G' b ∨ Ro b) → (K1 b ∨ Ro b) := fun b hb => by
          rcases hb with hb | hb | hb
          · exact .inl ((hK1 b).2 (.inl hb))
          · exact .inl ((hK1 b).2 (.inr hb))
          · exact .inr hb
        have hdead : (holes (over M rs) (r :: inRoots ms tvs) r).live = false := by unfold holes; rw [if_pos (by simp)]
        have hrev := revive (x := putRoot (M1 r) q i j n bk) (hd := L1.hd r) (F := fun b => b = B ∨ G' b ∨ Ro b) hm hdead (hm1.born r hl) hrep (fun b hb => by
          rcases hnew b hb with hx | hx
          · exact (hG b ((hK b).2 (.inl hx))).2
          · exact ⟨Nat.lt_of_lt_of_le (hRo b hx).2.2 hsz, (hm1.own r hl b (hRo b hx).1).2⟩) (fun k hlk b hb => by
          rcases hnew b hb with hx | hx
          · exact H2 b ((hK b).2 (.inl hx)) k hlk
          · exact H1 r (by simp) b (hRo b hx).1 (hRo b hx).2.1 k hlk)
        have hput : ∀ k, over M (rs.put r (putRoot (M1 r) q i j n bk)) k = if k = r then putRoot (M1 r) q i j n bk else over M rs k := fun k => over_put hlg k
        have hMeq : (fun k => if k = r then putRoot (M1 r) q i j n bk else holes (over M rs) (r :: inRoots ms tvs) k) = holes (over M (rs.put r (putRoot (M1 r) q i j n bk))) (inRoots ms tvs) := by
          funext k
          by_cases hkr : k = r
          · subst hkr
            simp only [if_true]
            unfold holes
            rw [if_neg hrn, hput, if_pos rfl]
          · simp only [if_neg hkr]
            unfold holes
            rw [hput, if_neg hkr]
            simp only [List.mem_cons, hkr, false_or]
        rw [hMeq] at hrev
        have hold : ∀ k, k ≠ r → (holes (over M (rs.put r (putRoot (M1 r) q i j n bk))) (inRoots ms tvs) k).live = true → (holes (over M rs) (r :: inRoots ms tvs) k).live = true := fun k hkr h => by
          rw [← hMeq] at h
          simpa only [if_neg hkr] using h
        have hlive' := fun r' (hr' : r' ∈ inRoots ms tvs) => inRoots_live h2 r' hr'
        obtain ⟨L', a1, a2, a3, a4, a5⟩ := back_sound hm1 hsz hframe hSF h2 hap2 hb2 hw2 (fun r' hr' => by
            obtain ⟨b1, b2⟩ := hk r' (by simp [hr'])
            refine ⟨by rw [put_keys]; exact b1, ?_⟩
            have hne : ¬ r' = r := fun he => hrn (by rw [← he]; exact hr')
            rw [hput, if_neg hne]; exact b2) hrev (fun k => by
              by_cases hkr : k = r
              · subst hkr; simp
              · simp only [if_neg hkr]; exact hhd k) (fun b hb => hF b ((h3 b).2 (.inr hb))) (fun b hb hn r' hr' hf => by
            by_cases hFb : F b
            · rcases (h3 b).1 hFb with hx | hx
              · exact hm1.apart r r' hl (hlive' r' hr') (fun he => hrn (he ▸ hr')) b ((hfp b).2 (.inl hx)) hf
              · exact hn hx
            · exact hO b hb hFb r' (by simp [hr']) hf) (fun b hb => hG b ((hK b).2 (.inr hb))) (fun r' hr' b hf hn k hlk => by
            by_cases hkr : k = r
            · subst hkr
              simp only [if_true]
              intro hb
              rcases hb with hb | hb | hb
              · subst hb; exact hn (hF _ ((h3 _).2 (.inl ((hFB _).2 (.inl rfl)))))
              · rcases (hG b ((hK b).2 (.inl ((hK1 b).2 (.inr hb))))).1 with h7 | h7
                · exact hn h7
                · have := (hm1.own r' (hlive' r' hr') b hf).1; omega
              · exact hm1.apart k r' hl (hlive' r' hr') (fun he => hrn (he ▸ hr')) b (hRo b hb).1 hf
            · simp only [if_neg hkr]
              exact H1 r' (by simp [hr']) b hf hn k (hold k hkr hlk)) (fun b hb k hlk => by
            by_cases hkr : k = r
            · subst hkr
              simp only [if_true]
              intro hx
              rcases hnew b hx with hx | hx
              · exact hKd b hx hb
              · rcases (hG b ((hK b).2 (.inr hb))).1 with h7 | h7
                · exact (hRo b hx).2.1 h7
                · have := (hRo b hx).2.2; omega
            · simp only [if_neg hkr]
              exact H2 b ((hK b).2 (.inr hb)) k (hold k hkr hlk)) he1
        refine ⟨L', a1, a2, a3.trans (put_keys _ _ _), fun k hk2 => ?_, fun k hk2 => ?_⟩
        · have hkr : k ≠ r := fun h => hk2 (by simp [h])
          obtain ⟨b1, b2⟩ := a4 k (fun h => hk2 (by simp [h]))
          rw [hput, if_neg hkr] at b1
          simp only [if_neg hkr] at b2
          exact ⟨b1, b2⟩
        · rcases List.mem_cons.1 hk2 with hkr | hkr
          · subst hkr
            obtain ⟨b1, b2⟩ := a4 k hrn
            rw [hput, if_pos rfl] at b1
            simp only [if_true] at b2
            rw [b1]
            refine ⟨⟨hl, hkeep', ⟨rfl, rfl, hlen2⟩, hwith⟩, fun b hb => ?_⟩
            rw [b2] at hb
            rcases hnew b hb with hx | hx
            · exact .inr ((hK b).2 (.inl hx))
            · exact .inl ⟨(hRo b hx).1, (hRo b hx).2.1⟩
          · obtain ⟨b1, b2⟩ := a5 k hkr
            exact ⟨b1, fun b hb => (b2 b hb).imp id (fun h => (hK b).2 (.inr h))⟩
      · cases he
  | [], _ :: _, _, _, _, _, _, _, _, _, h, _, _, _, _, _, _, _, _, _, _, _, _ => h.elim
  | [], [], _ :: _, _, _, _, _, _, _, _, h, _, _, _, _, _, _, _, _, _, _, _, _ => h.elim
  | [], [], [], _ :: _, _, _, _, _, _, _, h, _, _, _, _, _, _, _, _, _, _, _, _ => h.elim
  | (m, _) :: _, [], _, _, _, _, _, _, _, _, h, _, _, _, _, _, _, _, _, _, _, _, _ => by cases m <;> exact h.elim
  | (m, _) :: _, _ :: _, [], _, _, _, _, _, _, _, h, _, _, _, _, _, _, _, _, _, _, _, _ => by cases m <;> exact h.elim
  | (m, _) :: _, _ :: _, _ :: _, [], _, _, _, _, _, _, h, _, _, _, _, _, _, _, _, _, _, _, _ => by cases m <;> exact h.elim
end
end Go.Ev
