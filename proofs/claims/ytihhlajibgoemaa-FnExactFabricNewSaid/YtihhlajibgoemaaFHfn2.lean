/- Contracts of functions, each by its evaluation. -/
import Derived.Test.YtihhlajibgoemaaEvMd
import Derived.Test.YtihhlajibgoemaaProg
import Derived.KernelRfl
import Derived.Test.YtihhlajibgoemaaFHfn
set_option linter.unusedVariables false
set_option linter.unusedSimpArgs false
set_option maxRecDepth 100000
noncomputable section
open List (getD length drop take set append replicate all isEmpty)
open Int (toNat ofNat)
open Go.IntKind (i64 wrap)
open Go.Proofs.Try (prog)
namespace Go.Ev
open Go.RowKit Go.Md
end Go.Ev
namespace Go.Md
open Go Go.Ev
theorem cntS_le {α : Type} {n w : α → Int} (h : ∀ x, n x ≤ 64 * (1 + w x)) : ∀ xs : List α, cntS n xs ≤ 64 * ((xs.length : Int) + cntS w xs)
  | [] => by simp [cntS]
  | x :: xs => by
    have h1 := h x
    have h2 := cntS_le h xs
    unfold cntS
    rw [List.length_cons]
    push_cast
    omega
theorem cntS_mark {α : Type} {mk : α → Int → α} {n w : α → Int} (h : ∀ x k, w (mk x k) = w x) : ∀ (xs : List α) (k : Int), cntS w (markS mk n xs k) = cntS w xs
  | [], _ => rfl
  | x :: xs, k => by
    show w (mk x k) + cntS w (markS mk n xs (k + n x)) = w x + cntS w xs
    rw [h, cntS_mark h xs]
theorem all_b60 {α : Type} {p q : α → Bool} (h : ∀ x, p x = true → q x = true) (xs : List α) (hp : xs.all p = true) : xs.all q = true := List.all_eq_true.2 (fun x hx => h x (List.all_eq_true.1 hp x hx))
theorem Vec.mk_idem (x : Vec) (k : Int) : Vec.mk_ (Vec.mk_ x k) k = Vec.mk_ x k := rfl
theorem Vec.n_mk (x : Vec) (k : Int) : Vec.n_ (Vec.mk_ x k) = Vec.n_ x := rfl
theorem Port.mk_idem (x : Port) (k : Int) : Port.mk_ (Port.mk_ x k) k = Port.mk_ x k := rfl
theorem Port.n_mk (x : Port) (k : Int) : Port.n_ (Port.mk_ x k) = Port.n_ x := rfl
theorem Bridge.mk_idem (x : Bridge) (k : Int) : Bridge.mk_ (Bridge.mk_ x k) k = Bridge.mk_ x k := by simp only [Bridge.mk_, Bridge.n_, (markS_idem (mk := Port.mk_) (n := Port.n_) Port.mk_idem Port.n_mk _ _).1, (markS_idem (mk := Port.mk_) (n := Port.n_) Port.mk_idem Port.n_mk _ _).2]
theorem Bridge.n_mk (x : Bridge) (k : Int) : Bridge.n_ (Bridge.mk_ x k) = Bridge.n_ x := by simp only [Bridge.mk_, Bridge.n_, (markS_idem (mk := Port.mk_) (n := Port.n_) Port.mk_idem Port.n_mk _ _).1, (markS_idem (mk := Port.mk_) (n := Port.n_) Port.mk_idem Port.n_mk _ _).2]
theorem Bridge.wt_mk_ (x : Bridge) (k : Int) : Bridge.wt (Bridge.mk_ x k) = Bridge.wt x := by simp only [Bridge.wt, Bridge.mk_, Bridge.n_, markS_length]
theorem Bridge.n_le (x : Bridge) : Bridge.n_ x ≤ 64 * (1 + Bridge.wt x) := by have c0 : cntS Port.n_ x.Ports = 11 * (x.Ports.length : Int) := cntS_const (fun _ => rfl) _; simp only [Bridge.mk_, Bridge.n_, Bridge.wt]; omega
theorem Bridge.b60_of (x : Bridge) (h : Bridge.small x = true) : (decide (x.Ports.length ≤ 1152921504606846976)) = true := by
  simp only [Bridge.small, Bool.and_eq_true, decide_eq_true_eq] at h
  simp only [Bool.and_eq_true, decide_eq_true_eq]
  grind [all_b60]
theorem Link.mk_idem (x : Link) (k : Int) : Link.mk_ (Link.mk_ x k) k = Link.mk_ x k := rfl
theorem Link.n_mk (x : Link) (k : Int) : Link.n_ (Link.mk_ x k) = Link.n_ x := rfl
theorem Net.mkTop_idem (x : Net) (k : Int) : Net.mkTop (Net.mkTop x k) k = Net.mkTop x k := by simp only [Net.mkTop, (markS_idem (mk := Bridge.mk_) (n := Bridge.n_) Bridge.mk_idem Bridge.n_mk _ _).1, (markS_idem (mk := Bridge.mk_) (n := Bridge.n_) Bridge.mk_idem Bridge.n_mk _ _).2, (markS_idem (mk := Link.mk_) (n := Link.n_) Link.mk_idem Link.n_mk _ _).1, (markS_idem (mk := Link.mk_) (n := Link.n_) Link.mk_idem Link.n_mk _ _).2]
theorem Net.nTop_mk (x : Net) (k : Int) : Net.nTop (Net.mkTop x k) = Net.nTop x := by simp only [Net.mkTop, Net.nTop, (markS_idem (mk := Bridge.mk_) (n := Bridge.n_) Bridge.mk_idem Bridge.n_mk _ _).1, (markS_idem (mk := Bridge.mk_) (n := Bridge.n_) Bridge.mk_idem Bridge.n_mk _ _).2, (markS_idem (mk := Link.mk_) (n := Link.n_) Link.mk_idem Link.n_mk _ _).1, (markS_idem (mk := Link.mk_) (n := Link.n_) Link.mk_idem Link.n_mk _ _).2]
theorem Net.wt_mk (x : Net) (k : Int) : Net.wt (Net.mkTop x k) = Net.wt x := by simp only [Net.wt, Net.mkTop, markS_length, cntS_mark (mk := Bridge.mk_) (n := Bridge.n_) (w := Bridge.wt) Bridge.wt_mk_]
theorem Net.nTop_le (x : Net) : Net.nTop x ≤ 64 * Net.wt x := by have c0 := cntS_le Bridge.n_le x.Bridges; have d0 := cntS_nonneg (n := Bridge.wt) Bridge.wt_pos x.Bridges; have c1 : cntS Link.n_ x.Links = 4 * (x.Links.length : Int) := cntS_const (fun _ => rfl) _; simp only [Net.nTop, Net.wt]; omega
theorem Net.t60 (x : Net) (h : Net.small x = true) : ((decide (x.Bridges.length ≤ 1152921504606846976) && x.Bridges.all (fun x => decide (x.Ports.length ≤ 1152921504606846976))) && decide (x.Links.length ≤ 1152921504606846976)) = true := by
  simp only [Net.small, Bool.and_eq_true, decide_eq_true_eq] at h
  simp only [Bool.and_eq_true, decide_eq_true_eq]
  grind [all_b60, Bridge.b60_of]
theorem Net.top_ok (x : Net) (k : Int) (h0 : 0 ≤ k) (hk : k ≤ 1000000000000) (hw : Net.wt x ≤ 1048576) : (decide (0 ≤ k) && (decide (k + Net.nTop x ≤ 4611686018427387904) && ((decide (x.Bridges.length ≤ 1152921504606846976) && x.Bridges.all (fun x => decide (x.Ports.length ≤ 1152921504606846976))) && decide (x.Links.length ≤ 1152921504606846976)))) = true := by
  have hs := Net.small_of x hw
  have hn := Net.nTop_le x
  rw [Net.t60 x hs, decide_eq_true h0, decide_eq_true (show k + Net.nTop x ≤ 4611686018427387904 by omega)]
  rfl
theorem boolMk_idem (x : Bool) (k : Int) : boolMk (boolMk x k) k = boolMk x k := rfl
theorem intMk_idem (x : Int) (k : Int) : intMk (intMk x k) k = intMk x k := rfl
theorem Member.mk_idem (x : Member) (k : Int) : Member.mk_ (Member.mk_ x k) k = Member.mk_ x k := by simp only [Member.mk_, Member.n_, (markS_idem (mk := intMk) (n := oneN) intMk_idem (fun _ _ => rfl) _ _).1, (markS_idem (mk := intMk) (n := oneN) intMk_idem (fun _ _ => rfl) _ _).2]
theorem Member.n_mk (x : Member) (k : Int) : Member.n_ (Member.mk_ x k) = Member.n_ x := by simp only [Member.mk_, Member.n_, (markS_idem (mk := intMk) (n := oneN) intMk_idem (fun _ _ => rfl) _ _).1, (markS_idem (mk := intMk) (n := oneN) intMk_idem (fun _ _ => rfl) _ _).2]
theorem Member.wt_mk_ (x : Member) (k : Int) : Member.wt (Member.mk_ x k) = Member.wt x := by simp only [Member.wt, Member.mk_, Member.n_, markS_length]
theorem Member.n_le (x : Member) : Member.n_ x ≤ 64 * (1 + Member.wt x) := by have c0 : cntS oneN x.In = 1 * (x.In.length : Int) := cntS_const (fun _ => rfl) _; simp only [Member.mk_, Member.n_, Member.wt]; omega
theorem Member.b60_of (x : Member) (h : Member.small x = true) : (decide (x.In.length ≤ 1152921504606846976)) = true := by
  simp only [Member.small, Bool.and_eq_true, decide_eq_true_eq] at h
  simp only [Bool.and_eq_true, decide_eq_true_eq]
  grind [all_b60]
theorem Heard.mk_idem (x : Heard) (k : Int) : Heard.mk_ (Heard.mk_ x k) k = Heard.mk_ x k := rfl
theorem Heard.n_mk (x : Heard) (k : Int) : Heard.n_ (Heard.mk_ x k) = Heard.n_ x := rfl
theorem Card.mk_idem (x : Card) (k : Int) : Card.mk_ (Card.mk_ x k) k = Card.mk_ x k := by simp only [Card.mk_, Card.n_, (markS_idem (mk := boolMk) (n := oneN) boolMk_idem (fun _ _ => rfl) _ _).1, (markS_idem (mk := boolMk) (n := oneN) boolMk_idem (fun _ _ => rfl) _ _).2, (markS_idem (mk := Member.mk_) (n := Member.n_) Member.mk_idem Member.n_mk _ _).1, (markS_idem (mk := Member.mk_) (n := Member.n_) Member.mk_idem Member.n_mk _ _).2, (markS_idem (mk := Heard.mk_) (n := Heard.n_) Heard.mk_idem Heard.n_mk _ _).1, (markS_idem (mk := Heard.mk_) (n := Heard.n_) Heard.mk_idem Heard.n_mk _ _).2]
theorem Card.n_mk (x : Card) (k : Int) : Card.n_ (Card.mk_ x k) = Card.n_ x := by simp only [Card.mk_, Card.n_, (markS_idem (mk := boolMk) (n := oneN) boolMk_idem (fun _ _ => rfl) _ _).1, (markS_idem (mk := boolMk) (n := oneN) boolMk_idem (fun _ _ => rfl) _ _).2, (markS_idem (mk := Member.mk_) (n := Member.n_) Member.mk_idem Member.n_mk _ _).1, (markS_idem (mk := Member.mk_) (n := Member.n_) Member.mk_idem Member.n_mk _ _).2, (markS_idem (mk := Heard.mk_) (n := Heard.n_) Heard.mk_idem Heard.n_mk _ _).1, (markS_idem (mk := Heard.mk_) (n := Heard.n_) Heard.mk_idem Heard.n_mk _ _).2]
theorem Card.wt_mk_ (x : Card) (k : Int) : Card.wt (Card.mk_ x k) = Card.wt x := by simp only [Card.wt, Card.mk_, Card.n_, markS_length, cntS_mark (mk := Member.mk_) (n := Member.n_) (w := Member.wt) Member.wt_mk_]
theorem Card.n_le (x : Card) : Card.n_ x ≤ 64 * (1 + Card.wt x) := by have c0 : cntS oneN x.Open = 1 * (x.Open.length : Int) := cntS_const (fun _ => rfl) _; have c1 := cntS_le Member.n_le x.Members; have d1 := cntS_nonneg (n := Member.wt) Member.wt_pos x.Members; have c2 : cntS Heard.n_ x.Table = 4 * (x.Table.length : Int) := cntS_const (fun _ => rfl) _; simp only [Card.mk_, Card.n_, Card.wt]; omega
theorem Card.b60_of (x : Card) (h : Card.small x = true) : ((decide (x.Open.length ≤ 1152921504606846976) && (decide (x.Members.length ≤ 1152921504606846976) && x.Members.all (fun x => decide (x.In.length ≤ 1152921504606846976))) && decide (x.Table.length ≤ 1152921504606846976))) = true := by
  simp only [Card.small, Bool.and_eq_true, decide_eq_true_eq] at h
  simp only [Bool.and_eq_true, decide_eq_true_eq]
  grind [all_b60, Member.b60_of]
theorem Fabric.mkTop_idem (x : Fabric) (k : Int) : Fabric.mkTop (Fabric.mkTop x k) k = Fabric.mkTop x k := by simp only [Fabric.mkTop, Net.mkTop_idem, Net.nTop_mk, (markS_idem (mk := Card.mk_) (n := Card.n_) Card.mk_idem Card.n_mk _ _).1, (markS_idem (mk := Card.mk_) (n := Card.n_) Card.mk_idem Card.n_mk _ _).2]
theorem Fabric.nTop_mk (x : Fabric) (k : Int) : Fabric.nTop (Fabric.mkTop x k) = Fabric.nTop x := by simp only [Fabric.mkTop, Fabric.nTop, Net.mkTop_idem, Net.nTop_mk, (markS_idem (mk := Card.mk_) (n := Card.n_) Card.mk_idem Card.n_mk _ _).1, (markS_idem (mk := Card.mk_) (n := Card.n_) Card.mk_idem Card.n_mk _ _).2]
theorem Fabric.wt_mk (x : Fabric) (k : Int) : Fabric.wt (Fabric.mkTop x k) = Fabric.wt x := by simp only [Fabric.wt, Fabric.mkTop, markS_length, Net.wt_mk, cntS_mark (mk := Card.mk_) (n := Card.n_) (w := Card.wt) Card.wt_mk_]
theorem Fabric.nTop_le (x : Fabric) : Fabric.nTop x ≤ 64 * Fabric.wt x := by have c0 := Net.nTop_le x.Net; have d0 := Net.wt_pos x.Net; have c1 := cntS_le Card.n_le x.Cards; have d1 := cntS_nonneg (n := Card.wt) Card.wt_pos x.Cards; simp only [Fabric.nTop, Fabric.wt]; omega
theorem Fabric.t60 (x : Fabric) (h : Fabric.small x = true) : (((decide (x.Net.Bridges.length ≤ 1152921504606846976) && x.Net.Bridges.all (fun x => decide (x.Ports.length ≤ 1152921504606846976))) && decide (x.Net.Links.length ≤ 1152921504606846976)) && (decide (x.Cards.length ≤ 1152921504606846976) && x.Cards.all (fun x => (decide (x.Open.length ≤ 1152921504606846976) && (decide (x.Members.length ≤ 1152921504606846976) && x.Members.all (fun x => decide (x.In.length ≤ 1152921504606846976))) && decide (x.Table.length ≤ 1152921504606846976))))) = true := by
  simp only [Fabric.small, Net.small, Bool.and_eq_true, decide_eq_true_eq] at h
  obtain ⟨⟨⟨h1, h2⟩, h3⟩, h4, h5⟩ := h
  have e1 := all_b60 Bridge.b60_of x.Net.Bridges h2
  have e2 := all_b60 Card.b60_of x.Cards h5
  rw [decide_eq_true (show x.Net.Bridges.length ≤ 1152921504606846976 by omega), decide_eq_true (show x.Net.Links.length ≤ 1152921504606846976 by omega), decide_eq_true (show x.Cards.length ≤ 1152921504606846976 by omega), e1, e2]
  rfl
theorem Fabric.top_ok (x : Fabric) (k : Int) (h0 : 0 ≤ k) (hk : k ≤ 1000000000000) (hw : Fabric.wt x ≤ 1048576) : (decide (0 ≤ k) && (decide (k + Fabric.nTop x ≤ 4611686018427387904) && (((decide (x.Net.Bridges.length ≤ 1152921504606846976) && x.Net.Bridges.all (fun x => decide (x.Ports.length ≤ 1152921504606846976))) && decide (x.Net.Links.length ≤ 1152921504606846976)) && (decide (x.Cards.length ≤ 1152921504606846976) && x.Cards.all (fun x => (decide (x.Open.length ≤ 1152921504606846976) && (decide (x.Members.length ≤ 1152921504606846976) && x.Members.all (fun x => decide (x.In.length ≤ 1152921504606846976))) && decide (x.Table.length ≤ 1152921504606846976))))))) = true := by
  have hs := Fabric.small_of x hw
  have hn := Fabric.nTop_le x
  rw [Fabric.t60 x hs, decide_eq_true h0, decide_eq_true (show k + Fabric.nTop x ≤ 4611686018427387904 by omega)]
  rfl
theorem card_wt (b : Bridge) : Card.wt (cardB b) = 12 := rfl
theorem cards_wt : ∀ bs : List Bridge, cntS Card.wt (bs.map cardB) = 12 * (bs.length : Int)
  | [] => rfl
  | b :: bs => by
    rw [List.map_cons, List.length_cons]
    unfold cntS
    rw [card_wt, cards_wt bs]
    push_cast
    omega
theorem ports_wt : ∀ bs : List Bridge, (∀ b ∈ bs, b.Ports.length ≤ 4) → cntS Bridge.wt bs ≤ 4 * (bs.length : Int)
  | [], _ => Int.le_refl 0
  | b :: bs, h => by
    have h1 := h b List.mem_cons_self
    have h2 := ports_wt bs (fun c hc => h c (List.mem_cons_of_mem _ hc))
    unfold cntS
    rw [List.length_cons]
    have h3 : Bridge.wt b = (b.Ports.length : Int) := rfl
    push_cast
    omega
theorem fabN_wt (n : Net) : Fabric.wt (fabN n) ≤ 1048576 := by
  unfold fabN
  cases h : hostsB n
  · show (0 : Int) ≤ 1048576
    decide
  · unfold hostsB at h
    rw [Bool.and_eq_true] at h
    have h1 := ports_wt n.Bridges (net_four h.2)
    have h2 := h.2
    unfold netOk linksB inR at h2
    simp only [Bool.and_eq_true, decide_eq_true_eq] at h2
    have h3 := cards_wt n.Bridges
    rw [cond_true]
    unfold Fabric.wt Net.wt
    simp only [List.length_map, h3]
    omega
end Go.Md
namespace Go.Ev
open Go.Md
end Go.Ev
end
