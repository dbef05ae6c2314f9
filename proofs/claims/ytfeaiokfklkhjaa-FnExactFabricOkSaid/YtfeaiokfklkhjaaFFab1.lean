/- Contracts of functions, each by its evaluation. -/
import Derived.Test.YtfeaiokfklkhjaaEvMd
import Derived.Test.YtfeaiokfklkhjaaProg
import Derived.KernelRfl
import Derived.Test.YtfeaiokfklkhjaaFTab
set_option linter.unusedVariables false
set_option linter.unusedSimpArgs false
set_option maxRecDepth 100000
noncomputable section
open List (getD length drop take set append replicate all isEmpty)
open Int (toNat ofNat)
open Go.IntKind (i64 wrap)
open Go.Proofs.Try (prog f119 f125 f167 f33 f36 f37 f38 f44 f72 f75 func119 func125 func167 func33 func36 func37 func38 func44 func72 func75)
namespace Go.Ev
open Go.RowKit Go.Md
end Go.Ev
namespace Go.Md
open Go Go.Ev
def noPort : Port := ⟨false, false, ⟨0, 0, 0, 0⟩, 0, 0, 0, 0, false⟩
def memL : Option Int → List Int → Bool
  | _, [] => true
  | p, n :: ns => inR n 1 4 && ((match p with | none => true | some q => decide (q < n)) && memL (some n) ns)
def hasI (l : List Int) (n : Int) : Bool := l.any (fun x => x == n)
def memberOk (m : Member) : Bool := memL none m.In && (inR m.Own 1 4 && hasI m.In m.Own)
def cardOk (c : Card) : Bool := c.Members.all memberOk && (inR (c.Open.length : Int) 1 4 && (decide (c.Members.length = c.Open.length) && tableOk c.Table))
def opnAt (b : Bridge) (i : Nat) : Bool := i == 3 || (b.Ports.getD i noPort).Open
def opensL (b : Bridge) : List Bool := [opnAt b 0, opnAt b 1, opnAt b 2, true]
def cardB (b : Bridge) : Card := ⟨opensL b, [⟨1, [1]⟩, ⟨1, [1]⟩, ⟨1, [1]⟩, ⟨1, [1]⟩], []⟩
def idxI (v : Int) : Int → List Int → Int
  | _, [] => -1
  | k, x :: xs => bif v == x then k else idxI v (k + 1) xs
theorem idxI_cons (v x : Int) (k : Int) (xs : List Int) : idxI v k (x :: xs) = bif v == x then k else idxI v (k + 1) xs := by simp only [idxI]
theorem beq_sym (x y : Int) : (x == y) = (y == x) := by
  rw [Bool.eq_iff_iff, beq_iff_eq, beq_iff_eq]
  exact eq_comm
theorem idxI_ge (v : Int) : ∀ (xs : List Int) (k : Int), 0 ≤ k → decide (idxI v k xs ≥ 0) = hasI xs v
  | [], k, h => rfl
  | x :: xs, k, h => by
    unfold hasI
    rw [idxI_cons, List.any_cons, beq_sym v x]
    cases x == v
    · simp only [cond_false, Bool.false_or]
      exact idxI_ge v xs (k + 1) (by omega)
    · simp only [cond_true, Bool.true_or]
      exact decide_eq_true h
def prevI (l : List Int) : Nat → Option Int
  | 0 => none
  | i + 1 => l[i]?
theorem memL_cons (p : Option Int) (n : Int) (ns : List Int) : memL p (n :: ns) = (inR n 1 4 && ((match p with | none => true | some q => decide (q < n)) && memL (some n) ns)) := by simp only [memL]
theorem card_small {c : Card} (h : Card.small c = true) : c.Open.length ≤ 1048576 ∧ c.Members.length ≤ 1048576 ∧ (∀ m ∈ c.Members, m.In.length ≤ 1048576) ∧ c.Table.length ≤ 1048576 := by
  unfold Card.small at h
  simp only [Bool.and_eq_true, decide_eq_true_eq, List.all_eq_true] at h
  obtain ⟨⟨h1, h2, h3⟩, h4⟩ := h
  refine ⟨h1, h2, fun m hm => ?_, h4⟩
  have := h3 m hm
  unfold Member.small at this
  exact of_decide_eq_true this
theorem fab_small {f : Fabric} (h : Fabric.small f = true) : Net.small f.Net = true ∧ f.Cards.length ≤ 1048576 ∧ ∀ c ∈ f.Cards, Card.small c = true := by
  unfold Fabric.small at h
  simp only [Bool.and_eq_true, decide_eq_true_eq, List.all_eq_true] at h
  exact h
theorem ge_not' (a b : Int) : decide (a ≥ b) = !decide (a < b) := by
  by_cases h : a < b
  · rw [decide_eq_true h, decide_eq_false (by omega)]; rfl
  · rw [decide_eq_false h, decide_eq_true (by omega)]; rfl
theorem nat_beq (a b : Nat) : (Int.ofNat a == Int.ofNat b) = decide (a = b) := by
  rw [Bool.eq_iff_iff]
  simp
  omega
def opF (b : Bridge) (i : Nat) : Bool := (b.Ports.getD i noPort).Open
def opT (b : Bridge) : List Bool := [opF b 0, opF b 1, opF b 2, opF b 3]
def opP : List Bool := [false, false, false, false]
theorem opF_at {b : Bridge} {i : Nat} (h : i < b.Ports.length) : opF b i = b.Ports[i].Open := by
  unfold opF
  rw [List.getD_eq_getElem?_getD, List.getElem?_eq_getElem h]
  rfl
theorem opF_out {b : Bridge} {i : Nat} (h : b.Ports.length ≤ i) : opF b i = false := by
  unfold opF
  rw [List.getD_eq_getElem?_getD, List.getElem?_eq_none h]
  rfl
theorem opT_get (b : Bridge) : ∀ i (h : i < (opT b).length), (opT b)[i] = opF b i
  | 0, _ => rfl
  | 1, _ => rfl
  | 2, _ => rfl
  | 3, _ => rfl
  | n + 4, h => absurd h (by show ¬ (n + 4 < 4); omega)
theorem opT_end {b : Bridge} : ∀ k, b.Ports.length = k → k ≤ 4 → (opT b).take k ++ opP.drop k = opT b
  | 0, h, _ => by
    show opP = opT b
    unfold opT opP
    rw [opF_out (i := 0) (by omega), opF_out (i := 1) (by omega), opF_out (i := 2) (by omega), opF_out (i := 3) (by omega)]
  | 1, h, _ => by
    show [opF b 0, false, false, false] = opT b
    unfold opT
    rw [opF_out (i := 1) (by omega), opF_out (i := 2) (by omega), opF_out (i := 3) (by omega)]
  | 2, h, _ => by
    show [opF b 0, opF b 1, false, false] = opT b
    unfold opT
    rw [opF_out (i := 2) (by omega), opF_out (i := 3) (by omega)]
  | 3, h, _ => by
    show [opF b 0, opF b 1, opF b 2, false] = opT b
    unfold opT
    rw [opF_out (i := 3) (by omega)]
  | 4, _, _ => rfl
  | n + 5, _, h => absurd h (by omega)
theorem opT_set (b : Bridge) : (opT b).set 3 true = opensL b := rfl
theorem opens_get (b : Bridge) : ∀ i (h : i < (opensL b).length), i < 3 → (opensL b)[i] = opF b i
  | 0, _, _ => rfl
  | 1, _, _ => rfl
  | 2, _, _ => rfl
  | n + 3, _, h => absurd h (by omega)
theorem mixS {α : Type} {T P : List α} {i : Nat} {x : α} (hl : T.length = P.length) (hi : i < P.length) (hx : T[i]'(by omega) = x) : (T.take i ++ P.drop i).set i x = T.take (i + 1) ++ P.drop (i + 1) := by
  rw [List.drop_eq_getElem_cons hi, mid_set (T.take i) P[i] x (P.drop (i + 1)) (by rw [List.length_take]; omega), ← hx, List.take_append_getElem]
theorem mixL {α : Type} {T P : List α} (h : T.length = P.length) (i : Nat) : (T.take i ++ P.drop i).length = P.length := by
  rw [List.length_append, List.length_take, List.length_drop]
  omega
end Go.Md
namespace Go.Ev
open Go.Md
def o167 (s : List Int) (v : Int) : Bool × List Row × List Row := (decide (s.length ≤ 1048576), [[.int .i64 (idxI v 0 s)]], [])
def c167 : Contract
  | [[.sl false 1 s], [.int .i64 v]] => some (isS Int false s && (o167 (deS Int s) v).1, (o167 (deS Int s) v).2.1, (o167 (deS Int s) v).2.2)
  | _ => none

def k167_0 (n : Nat) : Ex → St → RR := kThen (fun st ↦ runCode (Ctx.mk prog Hx (167)) (Table.call T71) n (codeAt [1, 1] (bodyOf f167)) (Lv.mk 16 [] 16) st (kLeave (Ctx.P (Ctx.mk prog Hx (167))) (List.zip (Array.toList (Go.Func.resultTypes f167)) (Array.toList (Go.Func.results f167))) [] [])) (kLeave (Ctx.P (Ctx.mk prog Hx (167))) (List.zip (Array.toList (Go.Func.resultTypes f167)) (Array.toList (Go.Func.results f167))) [] [])
def k167_1 (n : Nat) : Ex → St → RR := kBlock (0) (k167_0 n)
def S167_0 (s : List Int) (v : Int) (i0 : Int) : St := St.mk [V_ [C.d (D.sl false 1 (enS false s))], I_ v, U_, U_, U_, U_, U_, I_ (ofNat (length (enS false s))), I_ i0, U_, U_, U_, U_, U_, U_, U_, U_, U_, U_] []
def B167_0 (n : Nat) : St → (Ex → St → RR) → RR := runCode (Ctx.mk prog Hx (167)) (Table.call T71) n (codeAt [1, 0, 1, 0, 0] (bodyOf f167)) (Lv.mk 387 [(0, 0)] 16)
def X167_2 (s : List Int) (v : Int) (i0 : Int) : St := St.mk [V_ [C.d (D.sl false 1 (enS false s))], I_ v, U_, U_, I_ i0, I_ i0, U_, I_ (ofNat (length (enS false s))), I_ i0, B_ true, I_ i0, I_ v, V_ [C.d (D.sl false 1 (enS false s))], I_ i0, V_ [C.rptr (getD (enS false s) (toNat i0) [])], I_ (D.num (getD (getD (enS false s) (toNat i0) []) 0 D.dead)), B_ true, I_ i0, U_] []
def X167_3 (s : List Int) (v : Int) (i0 : Int) : St := St.mk [V_ [C.d (D.sl false 1 (enS false s))], I_ v, U_, U_, U_, U_, U_, I_ (ofNat (length (enS false s))), I_ i0, B_ false, U_, U_, U_, U_, U_, U_, U_, U_, U_] []
theorem q167_0 (s : List Int) (v : Int) (n : Nat) (i0 : Int) (f : St → RR) (K : Ex → St → RR) : B167_0 n (S167_0 s v i0) (kThen (fun st ↦ f (St.head 0 387 524080 st)) K) = bif decide (i0 < ofNat (length (enS false s))) then bif decide (0 ≤ i0) && decide (i0 < ofNat (length (enS false s))) then bif Leaf.fit false (Leaf.int i64) (getD (getD (enS false s) (toNat i0) []) 0 D.dead) && true then bif v == D.num (getD (getD (enS false s) (toNat i0) []) 0 D.dead) then K Ex.ret (X167_2 s v i0) else f (S167_0 s v (wrap i64 (i0 + 1))) else none else none else K (Ex.exit 0) (X167_3 s v i0) := by kernel_rfl
theorem aX167_2 (s : List Int) (v : Int) (n : Nat) (i0 : Int) : k167_1 n Ex.ret (X167_2 s v i0) = some ([[D.int i64 i0]], []) := by kernel_rfl
theorem aX167_3 (s : List Int) (v : Int) (n : Nat) (i0 : Int) : k167_1 n (Ex.exit 0) (X167_3 s v i0) = some ([[D.int i64 (Int.negSucc 0)]], []) := by kernel_rfl
theorem r167 (s : List Int) (v : Int) (n : Nat) : evFn ⟨prog, Hx, 167⟩ T71.call n f167 [[.sl false 1 (enS false s)], [.int .i64 v]] = loopRun (B167_0 n) 0 387 524080 n (S167_0 s v (0)) (k167_1 n) := by kernel_rfl
theorem m167 (s : List Int) (v : Int) (hpre : (o167 s v).1 = true) : evFn ⟨Go.Proofs.Try.prog, Hx, 167⟩ T71.call (s.length + 1) f167 [[.sl false 1 (enS false s)], [.int .i64 v]] = some (o167 s v).2 := by
  refine (r167 s v _).trans ?_
  show _ = (some ([[.int .i64 (idxI v 0 s)]], []) : Option (List Row × List Row))
  replace hpre : (decide (s.length ≤ 1048576)) = true := hpre
  have hlen := of_decide_eq_true hpre
  refine loop_list (xs := s) (fun i (_ : Unit) => S167_0 s v (Int.ofNat i)) (fun _ _ => True) (fun i _ rest => some ([[D.int .i64 (idxI v (Int.ofNat i) rest)]], [])) ?_ ?_ (s.length + 1) () (by omega) trivial
  · rintro _ _ f
    refine (q167_0 s v _ _ f _).trans ?_
    rw [end_lt, cond_false]
    exact aX167_3 s v _ _
  · rintro i _ hi _ f hf
    refine (q167_0 s v _ _ f _).trans ?_
    simp only [enS_length, toNat_of, dec_lt, dec_ge, decide_true, decide_false, cond_true, cond_false, Bool.and_self, Bool.and_true, Bool.true_and, Bool.not_true, Bool.not_false, Nat.lt_irrefl, Nat.zero_add, isS_enS, deS_enS, isS_nil, deS_nil, List.nil_append, lendRows_enS, deepRows_enS, noSl_u8, En.enc, List.getD_cons_zero, List.getD_cons_succ, D.num, D.flag, D.text, D.rows, Leaf.fit, List.append_eq, TReader.eta, Frame.eta, Heard.eta, Member.eta, Card.eta, Out1.eta, Vec.eta, Port.eta, Bridge.eta, In.eta, Out.eta, Link.eta, Net.eta, TEnd.eta, Minder.eta, Reg.eta, Wire.eta, Box.eta, Deed.eta, Bpdu.eta, Visit.eta, Fabric.eta, Got.eta, TRide.eta, Up.eta, Copy.eta, Bucket.eta, Snap.eta, TL9Cur.eta, TL21In.eta, enS_get _ hi, hi, wrap_succ (show i < 4611686018427387904 by omega)]
    cases hp : v == s[i]
    · simp only [enS_length, toNat_of, dec_lt, dec_ge, decide_true, decide_false, cond_true, cond_false, Bool.and_self, Bool.and_true, Bool.true_and, Bool.not_true, Bool.not_false, Nat.lt_irrefl, Nat.zero_add, isS_enS, deS_enS, isS_nil, deS_nil, List.nil_append, lendRows_enS, deepRows_enS, noSl_u8, En.enc, List.getD_cons_zero, List.getD_cons_succ, D.num, D.flag, D.text, D.rows, Leaf.fit, List.append_eq, TReader.eta, Frame.eta, Heard.eta, Member.eta, Card.eta, Out1.eta, Vec.eta, Port.eta, Bridge.eta, In.eta, Out.eta, Link.eta, Net.eta, TEnd.eta, Minder.eta, Reg.eta, Wire.eta, Box.eta, Deed.eta, Bpdu.eta, Visit.eta, Fabric.eta, Got.eta, TRide.eta, Up.eta, Copy.eta, Bucket.eta, Snap.eta, TL9Cur.eta, TL21In.eta]
      refine (hf () trivial).trans ?_
      have hc : Int.ofNat i + 1 = Int.ofNat (i + 1) := rfl
      rw [idxI_cons, hp, cond_false, hc]
    · simp only [enS_length, toNat_of, dec_lt, dec_ge, decide_true, decide_false, cond_true, cond_false, Bool.and_self, Bool.and_true, Bool.true_and, Bool.not_true, Bool.not_false, Nat.lt_irrefl, Nat.zero_add, isS_enS, deS_enS, isS_nil, deS_nil, List.nil_append, lendRows_enS, deepRows_enS, noSl_u8, En.enc, List.getD_cons_zero, List.getD_cons_succ, D.num, D.flag, D.text, D.rows, Leaf.fit, List.append_eq, TReader.eta, Frame.eta, Heard.eta, Member.eta, Card.eta, Out1.eta, Vec.eta, Port.eta, Bridge.eta, In.eta, Out.eta, Link.eta, Net.eta, TEnd.eta, Minder.eta, Reg.eta, Wire.eta, Box.eta, Deed.eta, Bpdu.eta, Visit.eta, Fabric.eta, Got.eta, TRide.eta, Up.eta, Copy.eta, Bucket.eta, Snap.eta, TL9Cur.eta, TL21In.eta]
      refine (aX167_2 s v _ _).trans ?_
      rw [idxI_cons, hp, cond_true]
theorem s167 : SoundAt Go.Proofs.Try.prog Hx 167 c167 := soundAt_of T71_sound mixed func167 (by kernel_rfl) (by
  intro rows r h
  unfold c167 at h
  split at h
  · rename_i s v
    obtain ⟨hp, hr⟩ := Prod.mk.inj (Option.some.inj h)
    subst hr
    simp only [Bool.and_eq_true] at hp
    obtain ⟨hs0, hp⟩ := hp
    obtain ⟨xs0, rfl⟩ := isS_ex hs0
    simp only [deS_enS] at hp ⊢
    exact ⟨_, m167 xs0 v hp⟩
  · cases h)
def T167 : Table := (167, c167) :: T71
theorem T167_sound : Table.Sound Go.Proofs.Try.prog Hx T167 := Table.sound_cons s167 T71_sound
def o125 (s : List Int) (v : Int) : Bool × List Row × List Row := (decide (s.length ≤ 1048576), [[.bool (hasI s v)]], [])
def c125 : Contract
  | [[.sl false 1 s], [.int .i64 v]] => some (isS Int false s && (o125 (deS Int s) v).1, (o125 (deS Int s) v).2.1, (o125 (deS Int s) v).2.2)
  | _ => none

theorem r125 (s : List Int) (v : Int) (n : Nat) : evFn ⟨prog, Hx, 125⟩ T167.call n f125 [[.sl false 1 (enS false s)], [.int .i64 v]] = bif isS Int false (enS false s) && decide (length (deS Int (enS false s)) ≤ 1048576) then some ([[D.bool (decide (idxI v (0) (deS Int (enS false s)) ≥ 0))]], []) else none := by kernel_rfl
theorem m125 (s : List Int) (v : Int) (hpre : (o125 s v).1 = true) : evFn ⟨Go.Proofs.Try.prog, Hx, 125⟩ T167.call 0 f125 [[.sl false 1 (enS false s)], [.int .i64 v]] = some (o125 s v).2 := by
  refine (r125 s v _).trans ?_
  show _ = (some ([[.bool (hasI s v)]], []) : Option (List Row × List Row))
  replace hpre : (decide (s.length ≤ 1048576)) = true := hpre
  simp only [isS_enS, deS_enS, hpre, Bool.and_self, cond_true]
  rw [idxI_ge v s 0 (by omega)]
theorem s125 : SoundAt Go.Proofs.Try.prog Hx 125 c125 := soundAt_of T167_sound mixed func125 (by kernel_rfl) (by
  intro rows r h
  unfold c125 at h
  split at h
  · rename_i s v
    obtain ⟨hp, hr⟩ := Prod.mk.inj (Option.some.inj h)
    subst hr
    simp only [Bool.and_eq_true] at hp
    obtain ⟨hs0, hp⟩ := hp
    obtain ⟨xs0, rfl⟩ := isS_ex hs0
    simp only [deS_enS] at hp ⊢
    exact ⟨_, m125 xs0 v hp⟩
  · cases h)
def T125 : Table := (125, c125) :: T167
theorem T125_sound : Table.Sound Go.Proofs.Try.prog Hx T125 := Table.sound_cons s125 T167_sound
def o119 (list : List Int) (n_ : Int) : Bool × List Row × List Row := (decide (list.length ≤ 1048576), [[.bool (hasI list n_)]], [])
def c119 : Contract
  | [[.sl false 1 list], [.int .i64 n_]] => some (isS Int false list && (o119 (deS Int list) n_).1, (o119 (deS Int list) n_).2.1, (o119 (deS Int list) n_).2.2)
  | _ => none

def k119_0 (n : Nat) : Ex → St → RR := kThen (fun st ↦ runCode (Ctx.mk prog Hx (119)) (Table.call T125) n (codeAt [1, 1] (bodyOf f119)) (Lv.mk 16 [] 16) st (kLeave (Ctx.P (Ctx.mk prog Hx (119))) (List.zip (Array.toList (Go.Func.resultTypes f119)) (Array.toList (Go.Func.results f119))) [] [])) (kLeave (Ctx.P (Ctx.mk prog Hx (119))) (List.zip (Array.toList (Go.Func.resultTypes f119)) (Array.toList (Go.Func.results f119))) [] [])
def k119_1 (n : Nat) : Ex → St → RR := kBlock (0) (k119_0 n)
def S119_0 (list : List Int) (n_ : Int) (i0 : Int) : St := St.mk [V_ [C.d (D.sl false 1 (enS false list))], I_ n_, U_, U_, U_, I_ i0, U_, U_, U_, U_, U_, U_, U_, U_, U_, U_, U_, U_] []
def B119_0 (n : Nat) : St → (Ex → St → RR) → RR := runCode (Ctx.mk prog Hx (119)) (Table.call T125) n (codeAt [1, 0, 1, 0, 0] (bodyOf f119)) (Lv.mk 35 [(0, 0)] 16)
def X119_2 (list : List Int) (n_ : Int) (i0 : Int) : St := St.mk [V_ [C.d (D.sl false 1 (enS false list))], I_ n_, U_, U_, B_ true, I_ i0, I_ i0, V_ [C.d (D.sl false 1 (enS false list))], I_ (ofNat (length (enS false list))), B_ true, U_, U_, V_ [C.d (D.sl false 1 (enS false list))], I_ i0, V_ [C.rptr (getD (enS false list) (toNat i0) [])], I_ (D.num (getD (getD (enS false list) (toNat i0) []) 0 D.dead)), I_ n_, B_ true] []
def X119_3 (list : List Int) (n_ : Int) (i0 : Int) : St := St.mk [V_ [C.d (D.sl false 1 (enS false list))], I_ n_, U_, U_, U_, I_ i0, I_ i0, V_ [C.d (D.sl false 1 (enS false list))], I_ (ofNat (length (enS false list))), B_ false, U_, U_, U_, U_, U_, U_, U_, U_] []
theorem q119_0 (list : List Int) (n_ : Int) (n : Nat) (i0 : Int) (f : St → RR) (K : Ex → St → RR) : B119_0 n (S119_0 list n_ i0) (kThen (fun st ↦ f (St.head 0 35 262128 st)) K) = bif decide (i0 < ofNat (length (enS false list))) then bif decide (0 ≤ i0) && decide (i0 < ofNat (length (enS false list))) then bif Leaf.fit false (Leaf.int i64) (getD (getD (enS false list) (toNat i0) []) 0 D.dead) && true then bif D.num (getD (getD (enS false list) (toNat i0) []) 0 D.dead) == n_ then K Ex.ret (X119_2 list n_ i0) else f (S119_0 list n_ (wrap i64 (i0 + 1))) else none else none else K (Ex.exit 0) (X119_3 list n_ i0) := by kernel_rfl
theorem aX119_2 (list : List Int) (n_ : Int) (n : Nat) (i0 : Int) : k119_1 n Ex.ret (X119_2 list n_ i0) = some ([[D.bool true]], []) := by kernel_rfl
theorem aX119_3 (list : List Int) (n_ : Int) (n : Nat) (i0 : Int) : k119_1 n (Ex.exit 0) (X119_3 list n_ i0) = some ([[D.bool false]], []) := by kernel_rfl
theorem r119 (list : List Int) (n_ : Int) (n : Nat) : evFn ⟨prog, Hx, 119⟩ T125.call n f119 [[.sl false 1 (enS false list)], [.int .i64 n_]] = loopRun (B119_0 n) 0 35 262128 n (S119_0 list n_ (0)) (k119_1 n) := by kernel_rfl
theorem m119 (list : List Int) (n_ : Int) (hpre : (o119 list n_).1 = true) : evFn ⟨Go.Proofs.Try.prog, Hx, 119⟩ T125.call (list.length + 1) f119 [[.sl false 1 (enS false list)], [.int .i64 n_]] = some (o119 list n_).2 := by
  refine (r119 list n_ _).trans ?_
  show _ = (some ([[.bool (hasI list n_)]], []) : Option (List Row × List Row))
  replace hpre : (decide (list.length ≤ 1048576)) = true := hpre
  have hlen := of_decide_eq_true hpre
  unfold hasI
  refine loop_list (xs := list) (fun i (_ : Unit) => S119_0 list n_ (Int.ofNat i)) (fun _ _ => True) (fun _ _ rest => some ([[D.bool (rest.any (fun x => x == n_))]], [])) ?_ ?_ (list.length + 1) () (by omega) trivial
  · rintro _ _ f
    refine (q119_0 list n_ _ _ f _).trans ?_
    rw [end_lt, cond_false]
    exact aX119_3 list n_ _ _
  · rintro i _ hi _ f hf
    refine (q119_0 list n_ _ _ f _).trans ?_
    simp only [enS_length, toNat_of, dec_lt, dec_ge, decide_true, decide_false, cond_true, cond_false, Bool.and_self, Bool.and_true, Bool.true_and, Bool.not_true, Bool.not_false, Nat.lt_irrefl, Nat.zero_add, isS_enS, deS_enS, isS_nil, deS_nil, List.nil_append, lendRows_enS, deepRows_enS, noSl_u8, En.enc, List.getD_cons_zero, List.getD_cons_succ, D.num, D.flag, D.text, D.rows, Leaf.fit, List.append_eq, TReader.eta, Frame.eta, Heard.eta, Member.eta, Card.eta, Out1.eta, Vec.eta, Port.eta, Bridge.eta, In.eta, Out.eta, Link.eta, Net.eta, TEnd.eta, Minder.eta, Reg.eta, Wire.eta, Box.eta, Deed.eta, Bpdu.eta, Visit.eta, Fabric.eta, Got.eta, TRide.eta, Up.eta, Copy.eta, Bucket.eta, Snap.eta, TL9Cur.eta, TL21In.eta, enS_get _ hi, hi, wrap_succ (show i < 4611686018427387904 by omega)]
    cases hp : list[i] == n_
    · simp only [enS_length, toNat_of, dec_lt, dec_ge, decide_true, decide_false, cond_true, cond_false, Bool.and_self, Bool.and_true, Bool.true_and, Bool.not_true, Bool.not_false, Nat.lt_irrefl, Nat.zero_add, isS_enS, deS_enS, isS_nil, deS_nil, List.nil_append, lendRows_enS, deepRows_enS, noSl_u8, En.enc, List.getD_cons_zero, List.getD_cons_succ, D.num, D.flag, D.text, D.rows, Leaf.fit, List.append_eq, TReader.eta, Frame.eta, Heard.eta, Member.eta, Card.eta, Out1.eta, Vec.eta, Port.eta, Bridge.eta, In.eta, Out.eta, Link.eta, Net.eta, TEnd.eta, Minder.eta, Reg.eta, Wire.eta, Box.eta, Deed.eta, Bpdu.eta, Visit.eta, Fabric.eta, Got.eta, TRide.eta, Up.eta, Copy.eta, Bucket.eta, Snap.eta, TL9Cur.eta, TL21In.eta]
      refine (hf () trivial).trans ?_
      rw [List.any_cons, hp, Bool.false_or]
    · simp only [enS_length, toNat_of, dec_lt, dec_ge, decide_true, decide_false, cond_true, cond_false, Bool.and_self, Bool.and_true, Bool.true_and, Bool.not_true, Bool.not_false, Nat.lt_irrefl, Nat.zero_add, isS_enS, deS_enS, isS_nil, deS_nil, List.nil_append, lendRows_enS, deepRows_enS, noSl_u8, En.enc, List.getD_cons_zero, List.getD_cons_succ, D.num, D.flag, D.text, D.rows, Leaf.fit, List.append_eq, TReader.eta, Frame.eta, Heard.eta, Member.eta, Card.eta, Out1.eta, Vec.eta, Port.eta, Bridge.eta, In.eta, Out.eta, Link.eta, Net.eta, TEnd.eta, Minder.eta, Reg.eta, Wire.eta, Box.eta, Deed.eta, Bpdu.eta, Visit.eta, Fabric.eta, Got.eta, TRide.eta, Up.eta, Copy.eta, Bucket.eta, Snap.eta, TL9Cur.eta, TL21In.eta]
      refine (aX119_2 list n_ _ _).trans ?_
      rw [List.any_cons, hp, Bool.true_or]
theorem s119 : SoundAt Go.Proofs.Try.prog Hx 119 c119 := soundAt_of T125_sound mixed func119 (by kernel_rfl) (by
  intro rows r h
  unfold c119 at h
  split at h
  · rename_i list n_
    obtain ⟨hp, hr⟩ := Prod.mk.inj (Option.some.inj h)
    subst hr
    simp only [Bool.and_eq_true] at hp
    obtain ⟨hs0, hp⟩ := hp
    obtain ⟨xs0, rfl⟩ := isS_ex hs0
    simp only [deS_enS] at hp ⊢
    exact ⟨_, m119 xs0 n_ hp⟩
  · cases h)
def T119 : Table := (119, c119) :: T125
theorem T119_sound : Table.Sound Go.Proofs.Try.prog Hx T119 := Table.sound_cons s119 T125_sound
def o75 (m : Member) : Bool × List Row × List Row := (Member.small m, [[.bool (memberOk m)]], [])
def c75 : Contract
  | [[.int .i64 m_Own, .sl false 1 m_In]] => some (isS Int false m_In && (o75 ⟨m_Own, (deS Int m_In)⟩).1, (o75 ⟨m_Own, (deS Int m_In)⟩).2.1, (o75 ⟨m_Own, (deS Int m_In)⟩).2.2)
  | _ => none

def k75_0 (n : Nat) : Ex → St → RR := kThen (fun st ↦ runCode (Ctx.mk prog Hx (75)) (Table.call T119) n (codeAt [1, 1] (bodyOf f75)) (Lv.mk 4 [] 4) st (kLeave (Ctx.P (Ctx.mk prog Hx (75))) (List.zip (Array.toList (Go.Func.resultTypes f75)) (Array.toList (Go.Func.results f75))) [] [])) (kLeave (Ctx.P (Ctx.mk prog Hx (75))) (List.zip (Array.toList (Go.Func.resultTypes f75)) (Array.toList (Go.Func.results f75))) [] [])
def k75_1 (n : Nat) : Ex → St → RR := kBlock (0) (k75_0 n)
def S75_0 (m : Member) (i0 : Int) : St := St.mk [U_, V_ [C.ptr 0 0 0 [] 2 0 0], U_, U_, U_, U_, V_ [C.d (D.sl false 1 (enS false (Member.In m)))], I_ (ofNat (length (enS false (Member.In m)))), I_ i0, U_, U_, U_, U_, U_, U_, U_, U_, U_, U_, U_, U_, U_, U_, U_, U_, U_, U_, U_, U_, U_, U_, U_, U_, U_, U_, U_, U_, U_, U_, U_, U_] [Root.mk true 2 [En.enc false m] 0 0 true true false]
def B75_0 (n : Nat) : St → (Ex → St → RR) → RR := runCode (Ctx.mk prog Hx (75)) (Table.call T119) n (codeAt [1, 0, 1, 0, 0] (bodyOf f75)) (Lv.mk 450 [(0, 2)] 4)
def X75_2 (m : Member) (i0 : Int) : St := St.mk [U_, V_ [C.ptr 0 0 0 [] 2 0 0], B_ false, I_ i0, I_ (D.num (getD (getD (enS false (Member.In m)) (toNat i0) []) 0 D.dead)), U_, V_ [C.d (D.sl false 1 (enS false (Member.In m)))], I_ (ofNat (length (enS false (Member.In m)))), I_ i0, B_ true, I_ i0, V_ [C.rptr (getD (enS false (Member.In m)) (toNat i0) [])], I_ (D.num (getD (getD (enS false (Member.In m)) (toNat i0) []) 0 D.dead)), I_ (D.num (getD (getD (enS false (Member.In m)) (toNat i0) []) 0 D.dead)), B_ (inR (D.num (getD (getD (enS false (Member.In m)) (toNat i0) []) 0 D.dead)) (1) (4)), V_ [C.d (D.bool !inR (D.num (getD (getD (enS false (Member.In m)) (toNat i0) []) 0 D.dead)) (1) (4))], B_ true, V_ [C.gone], V_ [C.gone], V_ [C.gone], V_ [C.gone], V_ [C.gone], V_ [C.gone], V_ [C.gone], V_ [C.gone], V_ [C.gone], V_ [C.gone], V_ [C.gone], V_ [C.gone], B_ true, U_, U_, U_, U_, U_, U_, U_, U_, U_, U_, U_] [Root.mk true 2 [En.enc false m] 0 0 true true false]
def X75_3 (m : Member) (i0 : Int) : St := St.mk [U_, V_ [C.ptr 0 0 0 [] 2 0 0], B_ false, I_ i0, I_ (D.num (getD (getD (enS false (Member.In m)) (toNat i0) []) 0 D.dead)), U_, V_ [C.d (D.sl false 1 (enS false (Member.In m)))], I_ (ofNat (length (enS false (Member.In m)))), I_ i0, B_ true, I_ i0, V_ [C.rptr (getD (enS false (Member.In m)) (toNat i0) [])], I_ (D.num (getD (getD (enS false (Member.In m)) (toNat i0) []) 0 D.dead)), I_ (D.num (getD (getD (enS false (Member.In m)) (toNat i0) []) 0 D.dead)), B_ (inR (D.num (getD (getD (enS false (Member.In m)) (toNat i0) []) 0 D.dead)) (1) (4)), V_ [C.d (D.bool !inR (D.num (getD (getD (enS false (Member.In m)) (toNat i0) []) 0 D.dead)) (1) (4))], B_ false, I_ i0, B_ (decide (i0 > 0)), B_ true, I_ (D.num (getD (getD (enS false (Member.In m)) (toNat i0) []) 0 D.dead)), V_ [C.ptr 0 0 0 [] 2 0 1], V_ [C.d (D.sl false 1 (enS false (Member.In m)))], I_ i0, I_ (wrap i64 (i0 - 1)), V_ [C.rptr (getD (enS false (Member.In m)) (toNat (wrap i64 (i0 - 1))) [])], I_ (D.num (getD (getD (enS false (Member.In m)) (toNat (wrap i64 (i0 - 1))) []) 0 D.dead)), B_ (decide (D.num (getD (getD (enS false (Member.In m)) (toNat i0) []) 0 D.dead) ≤ D.num (getD (getD (enS false (Member.In m)) (toNat (wrap i64 (i0 - 1))) []) 0 D.dead))), B_ (decide (D.num (getD (getD (enS false (Member.In m)) (toNat i0) []) 0 D.dead) ≤ D.num (getD (getD (enS false (Member.In m)) (toNat (wrap i64 (i0 - 1))) []) 0 D.dead))), B_ true, U_, U_, U_, U_, U_, U_, U_, U_, U_, U_, U_] [Root.mk true 2 [En.enc false m] 0 0 true true false]
def X75_4 (m : Member) (i0 : Int) : St := St.mk [U_, V_ [C.ptr 0 0 0 [] 2 0 0], U_, U_, U_, U_, V_ [C.d (D.sl false 1 (enS false (Member.In m)))], I_ (ofNat (length (enS false (Member.In m)))), I_ i0, B_ false, U_, U_, U_, U_, U_, U_, U_, U_, U_, U_, U_, U_, U_, U_, U_, U_, U_, U_, U_, U_, U_, U_, U_, U_, U_, U_, U_, U_, U_, U_, U_] [Root.mk true 2 [En.enc false m] 0 0 true true false]
theorem q75_0 (m : Member) (n : Nat) (i0 : Int) (f : St → RR) (K : Ex → St → RR) : B75_0 n (S75_0 m i0) (kThen (fun st ↦ f (St.head 1 450 2147483420 st)) K) = bif decide (i0 < ofNat (length (enS false (Member.In m)))) then bif decide (0 ≤ i0) && decide (i0 < ofNat (length (enS false (Member.In m)))) then bif Leaf.fit false (Leaf.int i64) (getD (getD (enS false (Member.In m)) (toNat i0) []) 0 D.dead) && true then bif !inR (D.num (getD (getD (enS false (Member.In m)) (toNat i0) []) 0 D.dead)) (1) (4) then K Ex.ret (X75_2 m i0) else bif decide (i0 > 0) then bif decide (0 ≤ wrap i64 (i0 - 1)) && decide (wrap i64 (i0 - 1) < ofNat (length (enS false (Member.In m)))) then bif Leaf.fit false (Leaf.int i64) (getD (getD (enS false (Member.In m)) (toNat (wrap i64 (i0 - 1))) []) 0 D.dead) && true then bif decide (D.num (getD (getD (enS false (Member.In m)) (toNat i0) []) 0 D.dead) ≤ D.num (getD (getD (enS false (Member.In m)) (toNat (wrap i64 (i0 - 1))) []) 0 D.dead)) then K Ex.ret (X75_3 m i0) else f (S75_0 m (wrap i64 (i0 + 1))) else none else none else f (S75_0 m (wrap i64 (i0 + 1))) else none else none else K (Ex.exit 0) (X75_4 m i0) := by kernel_rfl
theorem aX75_2 (m : Member) (n : Nat) (i0 : Int) : k75_1 n Ex.ret (X75_2 m i0) = some ([[D.bool false]], []) := by kernel_rfl
theorem aX75_3 (m : Member) (n : Nat) (i0 : Int) : k75_1 n Ex.ret (X75_3 m i0) = some ([[D.bool false]], []) := by kernel_rfl
theorem aX75_4 (m : Member) (n : Nat) (i0 : Int) : k75_1 n (Ex.exit 0) (X75_4 m i0) = bif inR (Member.Own m) (1) (4) then bif isS Int false (enS false (Member.In m)) && decide (length (deS Int (enS false (Member.In m))) ≤ 1048576) then some ([[D.bool (hasI (deS Int (enS false (Member.In m))) (Member.Own m))]], []) else none else some ([[D.bool false]], []) := by kernel_rfl
theorem r75 (m : Member) (n : Nat) : evFn ⟨prog, Hx, 75⟩ T119.call n f75 [[.int .i64 m.Own, .sl false 1 (enS false m.In)]] = loopRun (B75_0 n) 1 450 2147483420 n (S75_0 m (0)) (k75_1 n) := by kernel_rfl
theorem m75 (m : Member) (hpre : (o75 m).1 = true) : evFn ⟨Go.Proofs.Try.prog, Hx, 75⟩ T119.call (m.In.length + 1) f75 [[.int .i64 m.Own, .sl false 1 (enS false m.In)]] = some (o75 m).2 := by
  refine (r75 m _).trans ?_
  show _ = (some ([[.bool (memberOk m)]], []) : Option (List Row × List Row))
  replace hpre : (Member.small m) = true := hpre
  have hlen : m.In.length ≤ 1048576 := by unfold Member.small at hpre; exact of_decide_eq_true hpre
  have hld : decide (m.In.length ≤ 1048576) = true := decide_eq_true hlen
  unfold memberOk
  refine loop_list (xs := m.In) (fun i (_ : Unit) => S75_0 m (Int.ofNat i)) (fun _ _ => True) (fun i _ rest => some ([[D.bool (memL (prevI m.In i) rest && (inR m.Own 1 4 && hasI m.In m.Own))]], [])) ?_ ?_ (m.In.length + 1) () (by omega) trivial
  · rintro _ _ f
    refine (q75_0 m _ _ f _).trans ?_
    rw [end_lt, cond_false]
    refine (aX75_4 m _ _).trans ?_
    simp only [isS_enS, deS_enS, hld, Bool.and_self, cond_true]
    rw [show memL (prevI m.In m.In.length) [] = true by cases prevI m.In m.In.length <;> rfl, Bool.true_and]
    cases inR m.Own 1 4 <;> rfl
  · rintro i _ hi _ f hf
    refine (q75_0 m _ _ f _).trans ?_
    rw [memL_cons]
    cases h : inR m.In[i] 1 4
    · refine bif_t (in_lt false hi) (bif_t (by rw [in_lt false hi, dec_ge]; rfl) (bif_t (by rw [toNat_of, enS_get false hi]; rfl) (bif_t (by rw [toNat_of, enS_get false hi]; show (!inR m.In[i] 1 4) = true; rw [h]; rfl) ?_)))
      exact aX75_2 m _ _
    refine bif_t (in_lt false hi) (bif_t (by rw [in_lt false hi, dec_ge]; rfl) (bif_t (by rw [toNat_of, enS_get false hi]; rfl) (bif_f (by rw [toNat_of, enS_get false hi]; show (!inR m.In[i] 1 4) = false; rw [h]; rfl) ?_)))
    rw [wrap_succ (show i < 4611686018427387904 by omega)]
    cases i with
    | zero =>
      refine bif_f rfl ?_
      refine (hf () trivial).trans ?_
      rw [show prevI m.In (0 + 1) = some m.In[0] from List.getElem?_eq_getElem hi]
      rfl
    | succ i =>
      have hi' : i < m.In.length := by omega
      have hw : IntKind.wrap IntKind.i64 (Int.ofNat (i + 1) - 1) = Int.ofNat i := by rw [show Int.ofNat (i + 1) - 1 = Int.ofNat i by show ((i + 1 : Nat) : Int) - 1 = (i : Int); omega]; exact wrap_nat (by omega)
      have hp : prevI m.In (i + 1) = some m.In[i] := List.getElem?_eq_getElem hi'
      have hn : prevI m.In (i + 1 + 1) = some m.In[i + 1] := List.getElem?_eq_getElem hi
      rw [hp, hw]
      refine bif_t (decide_eq_true (by show (0 : Int) < ((i + 1 : Nat) : Int); omega)) (bif_t (by rw [in_lt false hi', dec_ge]; rfl) (bif_t (by rw [toNat_of, enS_get false hi']; rfl) ?_))
      have hc : decide (D.num (List.getD (List.getD (enS false m.In) (Int.toNat (Int.ofNat (i + 1))) []) 0 D.dead) ≤ D.num (List.getD (List.getD (enS false m.In) (Int.toNat (Int.ofNat i)) []) 0 D.dead)) = !decide (m.In[i] < m.In[i + 1]) := by
        rw [toNat_of, toNat_of, enS_get false hi, enS_get false hi']
        exact ge_not' _ _
      cases h6 : decide (m.In[i] < m.In[i + 1])
      · refine bif_t (by rw [hc, h6]; rfl) ?_
        refine (aX75_3 m _ _).trans ?_
        show _ = some ([[D.bool (true && (decide (m.In[i] < m.In[i + 1]) && memL (some m.In[i + 1]) (m.In.drop (i + 1 + 1))) && (inR m.Own 1 4 && hasI m.In m.Own))]], [])
        rw [h6]
        rfl
      · refine bif_f (by rw [hc, h6]; rfl) ?_
        refine (hf () trivial).trans ?_
        show _ = some ([[D.bool (true && (decide (m.In[i] < m.In[i + 1]) && memL (some m.In[i + 1]) (m.In.drop (i + 1 + 1))) && (inR m.Own 1 4 && hasI m.In m.Own))]], [])
        rw [hn, h6]
        rfl
theorem s75 : SoundAt Go.Proofs.Try.prog Hx 75 c75 := soundAt_of T119_sound mixed func75 (by kernel_rfl) (by
  intro rows r h
  unfold c75 at h
  split at h
  · rename_i m_Own m_In
    obtain ⟨hp, hr⟩ := Prod.mk.inj (Option.some.inj h)
    subst hr
    simp only [Bool.and_eq_true] at hp
    obtain ⟨hs0, hp⟩ := hp
    obtain ⟨xs0, rfl⟩ := isS_ex hs0
    simp only [deS_enS] at hp ⊢
    exact ⟨_, m75 ⟨m_Own, xs0⟩ hp⟩
  · cases h)
def T75 : Table := (75, c75) :: T119
theorem T75_sound : Table.Sound Go.Proofs.Try.prog Hx T75 := Table.sound_cons s75 T119_sound
def o72 (m : Member) : Bool × List Row × List Row := (Member.small m, [[.bool (memberOk m)]], [])
def c72 : Contract
  | [[.int .i64 m_Own, .sl false 1 m_In]] => some (isS Int false m_In && (o72 ⟨m_Own, (deS Int m_In)⟩).1, (o72 ⟨m_Own, (deS Int m_In)⟩).2.1, (o72 ⟨m_Own, (deS Int m_In)⟩).2.2)
  | _ => none

def k72_0 (n : Nat) : Ex → St → RR := kThen (fun st ↦ runCode (Ctx.mk prog Hx (72)) (Table.call T75) n (codeAt [1, 1] (bodyOf f72)) (Lv.mk 4 [] 4) st (kLeave (Ctx.P (Ctx.mk prog Hx (72))) (List.zip (Array.toList (Go.Func.resultTypes f72)) (Array.toList (Go.Func.results f72))) [] [])) (kLeave (Ctx.P (Ctx.mk prog Hx (72))) (List.zip (Array.toList (Go.Func.resultTypes f72)) (Array.toList (Go.Func.results f72))) [] [])
def k72_1 (n : Nat) : Ex → St → RR := kBlock (0) (k72_0 n)
def S72_0 (m : Member) (i0 : Int) : St := St.mk [U_, V_ [C.ptr 0 0 0 [] 2 0 0], U_, I_ i0, U_, U_, U_, U_, U_, U_, U_, U_, U_, U_, U_, U_, U_, U_, U_, U_, U_, U_, U_, U_, U_, U_, U_, U_, U_, U_, U_, U_, U_, U_, U_, U_, U_, U_, U_, U_, U_, U_, U_, U_, U_, U_] [Root.mk true 2 [En.enc false m] 0 0 true true false]
def B72_0 (n : Nat) : St → (Ex → St → RR) → RR := runCode (Ctx.mk prog Hx (72)) (Table.call T75) n (codeAt [1, 0, 1, 0, 0] (bodyOf f72)) (Lv.mk 10 [(0, 2)] 4)
def X72_2 (m : Member) (i0 : Int) : St := St.mk [U_, V_ [C.ptr 0 0 0 [] 2 0 0], B_ false, I_ i0, I_ i0, V_ [C.ptr 0 0 0 [] 2 0 1], V_ [C.d (D.sl false 1 (enS false (Member.In m)))], I_ (ofNat (length (enS false (Member.In m)))), B_ true, U_, U_, V_ [C.ptr 0 0 0 [] 2 0 1], V_ [C.d (D.sl false 1 (enS false (Member.In m)))], I_ i0, V_ [C.rptr (getD (enS false (Member.In m)) (toNat i0) [])], I_ (D.num (getD (getD (enS false (Member.In m)) (toNat i0) []) 0 D.dead)), B_ (inR (D.num (getD (getD (enS false (Member.In m)) (toNat i0) []) 0 D.dead)) (1) (4)), V_ [C.d (D.bool !inR (D.num (getD (getD (enS false (Member.In m)) (toNat i0) []) 0 D.dead)) (1) (4))], B_ true, V_ [C.gone], V_ [C.gone], V_ [C.gone], V_ [C.gone], V_ [C.gone], V_ [C.gone], V_ [C.gone], V_ [C.gone], V_ [C.gone], V_ [C.gone], V_ [C.gone], V_ [C.gone], V_ [C.gone], V_ [C.gone], V_ [C.gone], V_ [C.gone], B_ true, U_, U_, U_, U_, U_, U_, U_, U_, U_, U_] [Root.mk true 2 [En.enc false m] 0 0 true true false]
def X72_3 (m : Member) (i0 : Int) : St := St.mk [U_, V_ [C.ptr 0 0 0 [] 2 0 0], B_ false, I_ i0, I_ i0, V_ [C.ptr 0 0 0 [] 2 0 1], V_ [C.d (D.sl false 1 (enS false (Member.In m)))], I_ (ofNat (length (enS false (Member.In m)))), B_ true, U_, U_, V_ [C.ptr 0 0 0 [] 2 0 1], V_ [C.d (D.sl false 1 (enS false (Member.In m)))], I_ i0, V_ [C.rptr (getD (enS false (Member.In m)) (toNat i0) [])], I_ (D.num (getD (getD (enS false (Member.In m)) (toNat i0) []) 0 D.dead)), B_ (inR (D.num (getD (getD (enS false (Member.In m)) (toNat i0) []) 0 D.dead)) (1) (4)), V_ [C.d (D.bool !inR (D.num (getD (getD (enS false (Member.In m)) (toNat i0) []) 0 D.dead)) (1) (4))], B_ false, I_ i0, B_ (decide (i0 > 0)), B_ true, V_ [C.ptr 0 0 0 [] 2 0 1], V_ [C.d (D.sl false 1 (enS false (Member.In m)))], I_ i0, I_ (wrap i64 (i0 - 1)), V_ [C.rptr (getD (enS false (Member.In m)) (toNat (wrap i64 (i0 - 1))) [])], I_ (D.num (getD (getD (enS false (Member.In m)) (toNat (wrap i64 (i0 - 1))) []) 0 D.dead)), V_ [C.ptr 0 0 0 [] 2 0 1], V_ [C.d (D.sl false 1 (enS false (Member.In m)))], I_ i0, V_ [C.rptr (getD (enS false (Member.In m)) (toNat i0) [])], I_ (D.num (getD (getD (enS false (Member.In m)) (toNat i0) []) 0 D.dead)), B_ (decide (D.num (getD (getD (enS false (Member.In m)) (toNat (wrap i64 (i0 - 1))) []) 0 D.dead) ≥ D.num (getD (getD (enS false (Member.In m)) (toNat i0) []) 0 D.dead))), B_ (decide (D.num (getD (getD (enS false (Member.In m)) (toNat (wrap i64 (i0 - 1))) []) 0 D.dead) ≥ D.num (getD (getD (enS false (Member.In m)) (toNat i0) []) 0 D.dead))), B_ true, U_, U_, U_, U_, U_, U_, U_, U_, U_, U_] [Root.mk true 2 [En.enc false m] 0 0 true true false]
def X72_4 (m : Member) (i0 : Int) : St := St.mk [U_, V_ [C.ptr 0 0 0 [] 2 0 0], U_, I_ i0, I_ i0, V_ [C.ptr 0 0 0 [] 2 0 1], V_ [C.d (D.sl false 1 (enS false (Member.In m)))], I_ (ofNat (length (enS false (Member.In m)))), B_ false, U_, U_, U_, U_, U_, U_, U_, U_, U_, U_, U_, U_, U_, U_, U_, U_, U_, U_, U_, U_, U_, U_, U_, U_, U_, U_, U_, U_, U_, U_, U_, U_, U_, U_, U_, U_, U_] [Root.mk true 2 [En.enc false m] 0 0 true true false]
theorem q72_0 (m : Member) (n : Nat) (i0 : Int) (f : St → RR) (K : Ex → St → RR) : B72_0 n (S72_0 m i0) (kThen (fun st ↦ f (St.head 1 10 68719476732 st)) K) = bif decide (i0 < ofNat (length (enS false (Member.In m)))) then bif decide (0 ≤ i0) && decide (i0 < ofNat (length (enS false (Member.In m)))) then bif Leaf.fit false (Leaf.int i64) (getD (getD (enS false (Member.In m)) (toNat i0) []) 0 D.dead) && true then bif !inR (D.num (getD (getD (enS false (Member.In m)) (toNat i0) []) 0 D.dead)) (1) (4) then K Ex.ret (X72_2 m i0) else bif decide (i0 > 0) then bif decide (0 ≤ wrap i64 (i0 - 1)) && decide (wrap i64 (i0 - 1) < ofNat (length (enS false (Member.In m)))) then bif Leaf.fit false (Leaf.int i64) (getD (getD (enS false (Member.In m)) (toNat (wrap i64 (i0 - 1))) []) 0 D.dead) && true then bif decide (0 ≤ i0) && decide (i0 < ofNat (length (enS false (Member.In m)))) then bif Leaf.fit false (Leaf.int i64) (getD (getD (enS false (Member.In m)) (toNat i0) []) 0 D.dead) && true then bif decide (D.num (getD (getD (enS false (Member.In m)) (toNat (wrap i64 (i0 - 1))) []) 0 D.dead) ≥ D.num (getD (getD (enS false (Member.In m)) (toNat i0) []) 0 D.dead)) then K Ex.ret (X72_3 m i0) else f (S72_0 m (wrap i64 (i0 + 1))) else none else none else none else none else f (S72_0 m (wrap i64 (i0 + 1))) else none else none else K (Ex.exit 0) (X72_4 m i0) := by kernel_rfl
theorem aX72_2 (m : Member) (n : Nat) (i0 : Int) : k72_1 n Ex.ret (X72_2 m i0) = some ([[D.bool false]], []) := by kernel_rfl
theorem aX72_3 (m : Member) (n : Nat) (i0 : Int) : k72_1 n Ex.ret (X72_3 m i0) = some ([[D.bool false]], []) := by kernel_rfl
theorem aX72_4 (m : Member) (n : Nat) (i0 : Int) : k72_1 n (Ex.exit 0) (X72_4 m i0) = bif inR (Member.Own m) (1) (4) then bif isS Int false (enS false (Member.In m)) && decide (length (deS Int (enS false (Member.In m))) ≤ 1048576) then some ([[D.bool (hasI (deS Int (enS false (Member.In m))) (Member.Own m))]], []) else none else some ([[D.bool false]], []) := by kernel_rfl
theorem r72 (m : Member) (n : Nat) : evFn ⟨prog, Hx, 72⟩ T75.call n f72 [[.int .i64 m.Own, .sl false 1 (enS false m.In)]] = loopRun (B72_0 n) 1 10 68719476732 n (S72_0 m (0)) (k72_1 n) := by kernel_rfl
theorem m72 (m : Member) (hpre : (o72 m).1 = true) : evFn ⟨Go.Proofs.Try.prog, Hx, 72⟩ T75.call (m.In.length + 1) f72 [[.int .i64 m.Own, .sl false 1 (enS false m.In)]] = some (o72 m).2 := by
  refine (r72 m _).trans ?_
  show _ = (some ([[.bool (memberOk m)]], []) : Option (List Row × List Row))
  replace hpre : (Member.small m) = true := hpre
  have hlen : m.In.length ≤ 1048576 := by unfold Member.small at hpre; exact of_decide_eq_true hpre
  have hld : decide (m.In.length ≤ 1048576) = true := decide_eq_true hlen
  unfold memberOk
  refine loop_list (xs := m.In) (fun i (_ : Unit) => S72_0 m (Int.ofNat i)) (fun _ _ => True) (fun i _ rest => some ([[D.bool (memL (prevI m.In i) rest && (inR m.Own 1 4 && hasI m.In m.Own))]], [])) ?_ ?_ (m.In.length + 1) () (by omega) trivial
  · rintro _ _ f
    refine (q72_0 m _ _ f _).trans ?_
    rw [end_lt, cond_false]
    refine (aX72_4 m _ _).trans ?_
    simp only [isS_enS, deS_enS, hld, Bool.and_self, cond_true]
    rw [show memL (prevI m.In m.In.length) [] = true by cases prevI m.In m.In.length <;> rfl, Bool.true_and]
    cases inR m.Own 1 4 <;> rfl
  · rintro i _ hi _ f hf
    refine (q72_0 m _ _ f _).trans ?_
    rw [memL_cons]
    cases h : inR m.In[i] 1 4
    · refine bif_t (in_lt false hi) (bif_t (by rw [in_lt false hi, dec_ge]; rfl) (bif_t (by rw [toNat_of, enS_get false hi]; rfl) (bif_t (by rw [toNat_of, enS_get false hi]; show (!inR m.In[i] 1 4) = true; rw [h]; rfl) ?_)))
      exact aX72_2 m _ _
    refine bif_t (in_lt false hi) (bif_t (by rw [in_lt false hi, dec_ge]; rfl) (bif_t (by rw [toNat_of, enS_get false hi]; rfl) (bif_f (by rw [toNat_of, enS_get false hi]; show (!inR m.In[i] 1 4) = false; rw [h]; rfl) ?_)))
    rw [wrap_succ (show i < 4611686018427387904 by omega)]
    cases i with
    | zero =>
      refine bif_f rfl ?_
      refine (hf () trivial).trans ?_
      rw [show prevI m.In (0 + 1) = some m.In[0] from List.getElem?_eq_getElem hi]
      rfl
    | succ i =>
      have hi' : i < m.In.length := by omega
      have hw : IntKind.wrap IntKind.i64 (Int.ofNat (i + 1) - 1) = Int.ofNat i := by rw [show Int.ofNat (i + 1) - 1 = Int.ofNat i by show ((i + 1 : Nat) : Int) - 1 = (i : Int); omega]; exact wrap_nat (by omega)
      have hp : prevI m.In (i + 1) = some m.In[i] := List.getElem?_eq_getElem hi'
      have hn : prevI m.In (i + 1 + 1) = some m.In[i + 1] := List.getElem?_eq_getElem hi
      rw [hp, hw]
      refine bif_t (decide_eq_true (by show (0 : Int) < ((i + 1 : Nat) : Int); omega)) (bif_t (by rw [in_lt false hi', dec_ge]; rfl) (bif_t (by rw [toNat_of, enS_get false hi']; rfl) ?_))
      refine bif_t (by rw [in_lt false hi, dec_ge]; rfl) (bif_t (by rw [toNat_of, enS_get false hi]; rfl) ?_)
      have hc : decide (D.num (List.getD (List.getD (enS false m.In) (Int.toNat (Int.ofNat i)) []) 0 D.dead) ≥ D.num (List.getD (List.getD (enS false m.In) (Int.toNat (Int.ofNat (i + 1))) []) 0 D.dead)) = !decide (m.In[i] < m.In[i + 1]) := by
        rw [toNat_of, toNat_of, enS_get false hi, enS_get false hi']
        exact ge_not' _ _
      cases h6 : decide (m.In[i] < m.In[i + 1])
      · refine bif_t (by rw [hc, h6]; rfl) ?_
        refine (aX72_3 m _ _).trans ?_
        show _ = some ([[D.bool (true && (decide (m.In[i] < m.In[i + 1]) && memL (some m.In[i + 1]) (m.In.drop (i + 1 + 1))) && (inR m.Own 1 4 && hasI m.In m.Own))]], [])
        rw [h6]
        rfl
      · refine bif_f (by rw [hc, h6]; rfl) ?_
        refine (hf () trivial).trans ?_
        show _ = some ([[D.bool (true && (decide (m.In[i] < m.In[i + 1]) && memL (some m.In[i + 1]) (m.In.drop (i + 1 + 1))) && (inR m.Own 1 4 && hasI m.In m.Own))]], [])
        rw [hn, h6]
        rfl
theorem s72 : SoundAt Go.Proofs.Try.prog Hx 72 c72 := soundAt_of T75_sound mixed func72 (by kernel_rfl) (by
  intro rows r h
  unfold c72 at h
  split at h
  · rename_i m_Own m_In
    obtain ⟨hp, hr⟩ := Prod.mk.inj (Option.some.inj h)
    subst hr
    simp only [Bool.and_eq_true] at hp
    obtain ⟨hs0, hp⟩ := hp
    obtain ⟨xs0, rfl⟩ := isS_ex hs0
    simp only [deS_enS] at hp ⊢
    exact ⟨_, m72 ⟨m_Own, xs0⟩ hp⟩
  · cases h)
def T72 : Table := (72, c72) :: T75
theorem T72_sound : Table.Sound Go.Proofs.Try.prog Hx T72 := Table.sound_cons s72 T75_sound
def o36 (c : Card) : Bool × List Row × List Row := (Card.small c, [[.bool (cardOk c)]], [])
def c36 : Contract
  | [[.sl false 1 c_Open, .sl false 2 c_Members, .sl false 4 c_Table]] => some (isS Bool false c_Open && isS Member false c_Members && isS Heard false c_Table && (o36 ⟨(deS Bool c_Open), (deS Member c_Members), (deS Heard c_Table)⟩).1, (o36 ⟨(deS Bool c_Open), (deS Member c_Members), (deS Heard c_Table)⟩).2.1, (o36 ⟨(deS Bool c_Open), (deS Member c_Members), (deS Heard c_Table)⟩).2.2)
  | _ => none

def k36_0 (n : Nat) : Ex → St → RR := kThen (fun st ↦ runCode (Ctx.mk prog Hx (36)) (Table.call T72) n (codeAt [1, 1] (bodyOf f36)) (Lv.mk 4 [] 4) st (kLeave (Ctx.P (Ctx.mk prog Hx (36))) (List.zip (Array.toList (Go.Func.resultTypes f36)) (Array.toList (Go.Func.results f36))) [] [])) (kLeave (Ctx.P (Ctx.mk prog Hx (36))) (List.zip (Array.toList (Go.Func.resultTypes f36)) (Array.toList (Go.Func.results f36))) [] [])
def k36_1 (n : Nat) : Ex → St → RR := kBlock (0) (k36_0 n)
def S36_0 (c : Card) (i0 : Int) : St := St.mk [U_, V_ [C.ptr 0 0 0 [] 3 0 0], U_, U_, U_, U_, V_ [C.d (D.sl false 2 (enS false (Card.Members c)))], I_ (ofNat (length (enS false (Card.Members c)))), I_ i0, U_, U_, U_, U_, U_, U_, U_, U_, U_, U_, U_, U_, U_, U_, U_, U_, U_, U_, U_, U_, U_, U_, U_, U_, U_] [Root.mk true 3 [En.enc false c] 0 0 true true false]
def B36_0 (n : Nat) : St → (Ex → St → RR) → RR := runCode (Ctx.mk prog Hx (36)) (Table.call T72) n (codeAt [1, 0, 1, 0, 0] (bodyOf f36)) (Lv.mk 450 [(0, 2)] 4)
def X36_2 (c : Card) (i0 : Int) : St := St.mk [U_, V_ [C.ptr 0 0 0 [] 3 0 0], B_ false, U_, V_ [C.ptr 1 0 0 [] 2 0 0], U_, V_ [C.d (D.sl false 2 (enS false (Card.Members c)))], I_ (ofNat (length (enS false (Card.Members c)))), I_ i0, B_ true, V_ [C.rptr (getD (enS false (Card.Members c)) (toNat i0) [])], TV.v true [C.d (D.int i64 (D.num (getD (getD (enS false (Card.Members c)) (toNat i0) []) 0 D.dead))), C.d (D.sl false 1 (D.rows (getD (getD (enS false (Card.Members c)) (toNat i0) []) 1 D.dead)))], TV.v true [C.d (D.int i64 (D.num (getD (getD (enS false (Card.Members c)) (toNat i0) []) 0 D.dead))), C.d (D.sl false 1 (D.rows (getD (getD (enS false (Card.Members c)) (toNat i0) []) 1 D.dead)))], B_ (memberOk (En.dec (getD (enS false (Card.Members c)) (toNat i0) []))), B_ true, U_, U_, U_, U_, U_, U_, U_, U_, U_, U_, U_, U_, U_, U_, U_, U_, U_, U_, U_] [Root.mk true 3 [En.enc false c] 0 0 true true false, Root.mk true 2 [[D.int i64 (D.num (getD (getD (enS false (Card.Members c)) (toNat i0) []) 0 D.dead)), D.sl false 1 (D.rows (getD (getD (enS false (Card.Members c)) (toNat i0) []) 1 D.dead))]] 0 1 true true false]
def X36_3 (c : Card) (i0 : Int) : St := St.mk [U_, V_ [C.ptr 0 0 0 [] 3 0 0], U_, U_, U_, U_, V_ [C.d (D.sl false 2 (enS false (Card.Members c)))], I_ (ofNat (length (enS false (Card.Members c)))), I_ i0, B_ false, U_, U_, U_, U_, U_, U_, U_, U_, U_, U_, U_, U_, U_, U_, U_, U_, U_, U_, U_, U_, U_, U_, U_, U_] [Root.mk true 3 [En.enc false c] 0 0 true true false]
theorem q36_0 (c : Card) (n : Nat) (i0 : Int) (f : St → RR) (K : Ex → St → RR) : B36_0 n (S36_0 c i0) (kThen (fun st ↦ f (St.head 1 450 65300 st)) K) = bif decide (i0 < ofNat (length (enS false (Card.Members c)))) then bif decide (0 ≤ i0) && decide (i0 < ofNat (length (enS false (Card.Members c)))) then bif Leaf.fit false (Leaf.int i64) (getD (getD (enS false (Card.Members c)) (toNat i0) []) 0 D.dead) && (Leaf.fit false (Leaf.sl 1 true) (getD (getD (enS false (Card.Members c)) (toNat i0) []) 1 D.dead) && true) then bif isS Int false (D.rows (getD (getD (enS false (Card.Members c)) (toNat i0) []) 1 D.dead)) && Member.small (En.dec (getD (enS false (Card.Members c)) (toNat i0) [])) then bif !memberOk (En.dec (getD (enS false (Card.Members c)) (toNat i0) [])) then K Ex.ret (X36_2 c i0) else f (S36_0 c (wrap i64 (i0 + 1))) else none else none else none else K (Ex.exit 0) (X36_3 c i0) := by kernel_rfl
theorem aX36_2 (c : Card) (n : Nat) (i0 : Int) : k36_1 n Ex.ret (X36_2 c i0) = some ([[D.bool false]], []) := by kernel_rfl
theorem aX36_3 (c : Card) (n : Nat) (i0 : Int) : k36_1 n (Ex.exit 0) (X36_3 c i0) = bif inR (ofNat (length (enS false (Card.Open c)))) (1) (4) then bif ofNat (length (enS false (Card.Members c))) == ofNat (length (enS false (Card.Open c))) then bif isS Heard false (enS false (Card.Table c)) && decide (length (deS Heard (enS false (Card.Table c))) ≤ 2097152) then some ([[D.bool (tableOk (deS Heard (enS false (Card.Table c))))]], []) else none else some ([[D.bool false]], []) else some ([[D.bool false]], []) := by kernel_rfl
theorem r36 (c : Card) (n : Nat) : evFn ⟨prog, Hx, 36⟩ T72.call n f36 [[.sl false 1 (enS false c.Open), .sl false 2 (enS false c.Members), .sl false 4 (enS false c.Table)]] = loopRun (B36_0 n) 1 450 65300 n (S36_0 c (0)) (k36_1 n) := by kernel_rfl
theorem m36 (c : Card) (hpre : (o36 c).1 = true) : evFn ⟨Go.Proofs.Try.prog, Hx, 36⟩ T72.call (c.Members.length + 1) f36 [[.sl false 1 (enS false c.Open), .sl false 2 (enS false c.Members), .sl false 4 (enS false c.Table)]] = some (o36 c).2 := by
  refine (r36 c _).trans ?_
  show _ = (some ([[.bool (cardOk c)]], []) : Option (List Row × List Row))
  replace hpre : (Card.small c) = true := hpre
  obtain ⟨h1, h2, h3, h4⟩ := card_small hpre
  have hall : c.Members.all Member.small = true := by unfold Card.small at hpre; simp only [Bool.and_eq_true] at hpre; exact hpre.1.2.2
  have htd : decide (c.Table.length ≤ 2097152) = true := decide_eq_true (by omega)
  unfold cardOk
  refine loop_list (xs := c.Members) (fun i (_ : Unit) => S36_0 c (Int.ofNat i)) (fun _ _ => True) (fun _ _ rest => some ([[D.bool (rest.all memberOk && (inR (c.Open.length : Int) 1 4 && (decide (c.Members.length = c.Open.length) && tableOk c.Table)))]], [])) ?_ ?_ (c.Members.length + 1) () (by omega) trivial
  · rintro _ _ f
    refine (q36_0 c _ _ f _).trans ?_
    rw [end_lt, cond_false]
    refine (aX36_3 c _ _).trans ?_
    simp only [isS_enS, deS_enS, htd, Bool.and_self, cond_true, enS_length, nat_beq, List.all_nil, Bool.true_and]
    rw [show inR (Int.ofNat c.Open.length) 1 4 = inR (c.Open.length : Int) 1 4 from rfl]
    cases inR (c.Open.length : Int) 1 4 <;> cases decide (c.Members.length = c.Open.length) <;> rfl
  · rintro i _ hi _ f hf
    have hm := List.all_eq_true.1 hall _ (List.getElem_mem hi)
    refine (q36_0 c _ _ f _).trans ?_
    refine bif_t (in_lt false hi) (bif_t (by rw [in_lt false hi, dec_ge]; rfl) (bif_t (by rw [toNat_of, enS_get false hi]; rfl) (bif_t (by rw [toNat_of, enS_get false hi, En.dec_enc, hm, Bool.and_true]; exact isS_enS false c.Members[i].In) ?_)))
    rw [toNat_of, enS_get false hi, En.dec_enc, wrap_succ (show i < 4611686018427387904 by omega)]
    cases h : memberOk c.Members[i]
    · refine bif_t rfl ?_
      refine (aX36_2 c _ _).trans ?_
      rw [List.all_cons, h]
      rfl
    · refine bif_f rfl ?_
      refine (hf () trivial).trans ?_
      rw [List.all_cons, h, Bool.true_and]
theorem s36 : SoundAt Go.Proofs.Try.prog Hx 36 c36 := soundAt_of T72_sound mixed func36 (by kernel_rfl) (by
  intro rows r h
  unfold c36 at h
  split at h
  · rename_i c_Open c_Members c_Table
    obtain ⟨hp, hr⟩ := Prod.mk.inj (Option.some.inj h)
    subst hr
    simp only [Bool.and_eq_true] at hp
    obtain ⟨⟨⟨hs0, hs1⟩, hs2⟩, hp⟩ := hp
    obtain ⟨xs0, rfl⟩ := isS_ex hs0
    obtain ⟨xs1, rfl⟩ := isS_ex hs1
    obtain ⟨xs2, rfl⟩ := isS_ex hs2
    simp only [deS_enS] at hp ⊢
    exact ⟨_, m36 ⟨xs0, xs1, xs2⟩ hp⟩
  · cases h)
def T36 : Table := (36, c36) :: T72
theorem T36_sound : Table.Sound Go.Proofs.Try.prog Hx T36 := Table.sound_cons s36 T72_sound
def o33 (c : Card) : Bool × List Row × List Row := (Card.small c, [[.bool (cardOk c)]], [])
def c33 : Contract
  | [[.sl false 1 c_Open, .sl false 2 c_Members, .sl false 4 c_Table]] => some (isS Bool false c_Open && isS Member false c_Members && isS Heard false c_Table && (o33 ⟨(deS Bool c_Open), (deS Member c_Members), (deS Heard c_Table)⟩).1, (o33 ⟨(deS Bool c_Open), (deS Member c_Members), (deS Heard c_Table)⟩).2.1, (o33 ⟨(deS Bool c_Open), (deS Member c_Members), (deS Heard c_Table)⟩).2.2)
  | _ => none

def k33_0 (n : Nat) : Ex → St → RR := kThen (fun st ↦ runCode (Ctx.mk prog Hx (33)) (Table.call T36) n (codeAt [1, 1, 1] (bodyOf f33)) (Lv.mk 4 [] 4) st (kLeave (Ctx.P (Ctx.mk prog Hx (33))) (List.zip (Array.toList (Go.Func.resultTypes f33)) (Array.toList (Go.Func.results f33))) [] [])) (kLeave (Ctx.P (Ctx.mk prog Hx (33))) (List.zip (Array.toList (Go.Func.resultTypes f33)) (Array.toList (Go.Func.results f33))) [] [])
def k33_1 (n : Nat) : Ex → St → RR := kBlock (0) (k33_0 n)
def S33_0 (c : Card) (i0 : Int) : St := St.mk [U_, V_ [C.ptr 0 0 0 [] 3 0 0], U_, I_ i0, U_, U_, U_, U_, U_, U_, U_, U_, U_, U_, U_, U_, U_, U_, U_, U_, U_, U_, U_, U_, U_, U_, U_, U_, U_, U_, U_, U_, U_, U_, U_, U_, U_, U_] [Root.mk true 3 [En.enc false c] 0 0 true true false]
def B33_0 (n : Nat) : St → (Ex → St → RR) → RR := runCode (Ctx.mk prog Hx (33)) (Table.call T36) n (codeAt [1, 1, 0, 1, 0, 0] (bodyOf f33)) (Lv.mk 10 [(0, 0)] 4)
def X33_2 (c : Card) (i0 : Int) : St := St.mk [U_, V_ [C.ptr 0 0 0 [] 3 0 0], B_ false, I_ i0, U_, U_, U_, U_, U_, U_, U_, U_, U_, U_, U_, U_, U_, U_, U_, U_, U_, U_, U_, U_, I_ i0, V_ [C.ptr 0 0 0 [] 3 0 1], V_ [C.d (D.sl false 2 (enS false (Card.Members c)))], I_ (ofNat (length (enS false (Card.Members c)))), B_ true, U_, U_, V_ [C.ptr 0 0 0 [] 3 0 1], V_ [C.d (D.sl false 2 (enS false (Card.Members c)))], I_ i0, V_ [C.rptr (getD (enS false (Card.Members c)) (toNat i0) [])], TV.v true [C.d (D.int i64 (D.num (getD (getD (enS false (Card.Members c)) (toNat i0) []) 0 D.dead))), C.d (D.sl false 1 (D.rows (getD (getD (enS false (Card.Members c)) (toNat i0) []) 1 D.dead)))], B_ (memberOk (En.dec (getD (enS false (Card.Members c)) (toNat i0) []))), B_ true] [Root.mk true 3 [En.enc false c] 0 0 true true false]
def X33_3 (c : Card) (i0 : Int) : St := St.mk [U_, V_ [C.ptr 0 0 0 [] 3 0 0], U_, I_ i0, U_, U_, U_, U_, U_, U_, U_, U_, U_, U_, U_, U_, U_, U_, U_, U_, U_, U_, U_, U_, I_ i0, V_ [C.ptr 0 0 0 [] 3 0 1], V_ [C.d (D.sl false 2 (enS false (Card.Members c)))], I_ (ofNat (length (enS false (Card.Members c)))), B_ false, U_, U_, U_, U_, U_, U_, U_, U_, U_] [Root.mk true 3 [En.enc false c] 0 0 true true false]
theorem q33_0 (c : Card) (n : Nat) (i0 : Int) (f : St → RR) (K : Ex → St → RR) : B33_0 n (S33_0 c i0) (kThen (fun st ↦ f (St.head 1 10 274861129740 st)) K) = bif decide (i0 < ofNat (length (enS false (Card.Members c)))) then bif decide (0 ≤ i0) && decide (i0 < ofNat (length (enS false (Card.Members c)))) then bif Leaf.fit false (Leaf.int i64) (getD (getD (enS false (Card.Members c)) (toNat i0) []) 0 D.dead) && (Leaf.fit false (Leaf.sl 1 true) (getD (getD (enS false (Card.Members c)) (toNat i0) []) 1 D.dead) && true) then bif isS Int false (D.rows (getD (getD (enS false (Card.Members c)) (toNat i0) []) 1 D.dead)) && Member.small (En.dec (getD (enS false (Card.Members c)) (toNat i0) [])) then bif !memberOk (En.dec (getD (enS false (Card.Members c)) (toNat i0) [])) then K Ex.ret (X33_2 c i0) else f (S33_0 c (wrap i64 (i0 + 1))) else none else none else none else K (Ex.exit 0) (X33_3 c i0) := by kernel_rfl
theorem aX33_2 (c : Card) (n : Nat) (i0 : Int) : k33_1 n Ex.ret (X33_2 c i0) = some ([[D.bool false]], []) := by kernel_rfl
theorem aX33_3 (c : Card) (n : Nat) (i0 : Int) : k33_1 n (Ex.exit 0) (X33_3 c i0) = some ([[D.bool true]], []) := by kernel_rfl
theorem r33 (c : Card) (n : Nat) : evFn ⟨prog, Hx, 33⟩ T36.call n f33 [[.sl false 1 (enS false c.Open), .sl false 2 (enS false c.Members), .sl false 4 (enS false c.Table)]] = bif !inR (ofNat (length (enS false (Card.Open c)))) (1) (4) then some ([[D.bool false]], []) else bif ofNat (length (enS false (Card.Members c))) != ofNat (length (enS false (Card.Open c))) then some ([[D.bool false]], []) else bif isS Heard false (enS false (Card.Table c)) && decide (length (deS Heard (enS false (Card.Table c))) ≤ 2097152) then bif !tableOk (deS Heard (enS false (Card.Table c))) then some ([[D.bool false]], []) else loopRun (B33_0 n) 1 10 274861129740 n (S33_0 c (0)) (k33_1 n) else none := by kernel_rfl
theorem m33 (c : Card) (hpre : (o33 c).1 = true) : evFn ⟨Go.Proofs.Try.prog, Hx, 33⟩ T36.call (c.Members.length + 1) f33 [[.sl false 1 (enS false c.Open), .sl false 2 (enS false c.Members), .sl false 4 (enS false c.Table)]] = some (o33 c).2 := by
  refine (r33 c _).trans ?_
  show _ = (some ([[.bool (cardOk c)]], []) : Option (List Row × List Row))
  replace hpre : (Card.small c) = true := hpre
  obtain ⟨h1, h2, h3, h4⟩ := card_small hpre
  have hall : c.Members.all Member.small = true := by unfold Card.small at hpre; simp only [Bool.and_eq_true] at hpre; exact hpre.1.2.2
  have htd : decide (c.Table.length ≤ 2097152) = true := decide_eq_true (by omega)
  unfold cardOk
  simp only [isS_enS, deS_enS, htd, Bool.and_self, cond_true, enS_length, bne, nat_beq]
  rw [show inR (Int.ofNat c.Open.length) 1 4 = inR (c.Open.length : Int) 1 4 from rfl]
  cases inR (c.Open.length : Int) 1 4
  · rw [Bool.false_and, Bool.and_false]
    rfl
  cases decide (c.Members.length = c.Open.length)
  · rw [Bool.false_and, Bool.and_false, Bool.and_false]
    rfl
  cases tableOk c.Table
  · rw [Bool.and_false, Bool.and_false, Bool.and_false]
    rfl
  simp only [Bool.not_true, cond_false, Bool.and_true]
  refine loop_list (xs := c.Members) (fun i (_ : Unit) => S33_0 c (Int.ofNat i)) (fun _ _ => True) (fun _ _ rest => some ([[D.bool (rest.all memberOk)]], [])) ?_ ?_ (c.Members.length + 1) () (by omega) trivial
  · rintro _ _ f
    refine (q33_0 c _ _ f _).trans ?_
    rw [end_lt, cond_false]
    exact aX33_3 c _ _
  · rintro i _ hi _ f hf
    have hm := List.all_eq_true.1 hall _ (List.getElem_mem hi)
    refine (q33_0 c _ _ f _).trans ?_
    refine bif_t (in_lt false hi) (bif_t (by rw [in_lt false hi, dec_ge]; rfl) (bif_t (by rw [toNat_of, enS_get false hi]; rfl) (bif_t (by rw [toNat_of, enS_get false hi, En.dec_enc, hm, Bool.and_true]; exact isS_enS false c.Members[i].In) ?_)))
    rw [toNat_of, enS_get false hi, En.dec_enc, wrap_succ (show i < 4611686018427387904 by omega)]
    cases h : memberOk c.Members[i]
    · refine bif_t rfl ?_
      refine (aX33_2 c _ _).trans ?_
      rw [List.all_cons, h]
      rfl
    · refine bif_f rfl ?_
      refine (hf () trivial).trans ?_
      rw [List.all_cons, h, Bool.true_and]
theorem s33 : SoundAt Go.Proofs.Try.prog Hx 33 c33 := soundAt_of T36_sound mixed func33 (by kernel_rfl) (by
  intro rows r h
  unfold c33 at h
  split at h
  · rename_i c_Open c_Members c_Table
    obtain ⟨hp, hr⟩ := Prod.mk.inj (Option.some.inj h)
    subst hr
    simp only [Bool.and_eq_true] at hp
    obtain ⟨⟨⟨hs0, hs1⟩, hs2⟩, hp⟩ := hp
    obtain ⟨xs0, rfl⟩ := isS_ex hs0
    obtain ⟨xs1, rfl⟩ := isS_ex hs1
    obtain ⟨xs2, rfl⟩ := isS_ex hs2
    simp only [deS_enS] at hp ⊢
    exact ⟨_, m33 ⟨xs0, xs1, xs2⟩ hp⟩
  · cases h)
def T33 : Table := (33, c33) :: T36
theorem T33_sound : Table.Sound Go.Proofs.Try.prog Hx T33 := Table.sound_cons s33 T36_sound
def o37 (s1 : List Bool) (s2 : List Bool) : Bool × List Row × List Row := (decide (s1.length ≤ 1048576), [[.bool (decide (s1 = s2))]], [])
def c37 : Contract
  | [[.sl false 1 s1], [.sl false 1 s2]] => some (isS Bool false s1 && isS Bool false s2 && (o37 (deS Bool s1) (deS Bool s2)).1, (o37 (deS Bool s1) (deS Bool s2)).2.1, (o37 (deS Bool s1) (deS Bool s2)).2.2)
  | _ => none

def k37_0 (n : Nat) : Ex → St → RR := kThen (fun st ↦ runCode (Ctx.mk prog Hx (37)) (Table.call T33) n (codeAt [1, 1, 1] (bodyOf f37)) (Lv.mk 16 [] 16) st (kLeave (Ctx.P (Ctx.mk prog Hx (37))) (List.zip (Array.toList (Go.Func.resultTypes f37)) (Array.toList (Go.Func.results f37))) [] [])) (kLeave (Ctx.P (Ctx.mk prog Hx (37))) (List.zip (Array.toList (Go.Func.resultTypes f37)) (Array.toList (Go.Func.results f37))) [] [])
def k37_1 (n : Nat) : Ex → St → RR := kBlock (0) (k37_0 n)
def S37_0 (s1 : List Bool) (s2 : List Bool) (i0 : Int) : St := St.mk [V_ [C.d (D.sl false 1 (enS false s1))], V_ [C.d (D.sl false 1 (enS false s2))], U_, U_, U_, U_, U_, U_, U_, U_, U_, U_, I_ (ofNat (length (enS false s1))), I_ i0, U_, U_, U_, U_, U_, U_, U_, U_, U_, U_, U_, U_] []
def B37_0 (n : Nat) : St → (Ex → St → RR) → RR := runCode (Ctx.mk prog Hx (37)) (Table.call T33) n (codeAt [1, 1, 0, 1, 0, 0] (bodyOf f37)) (Lv.mk 12291 [(0, 0)] 16)
def X37_2 (s1 : List Bool) (s2 : List Bool) (i0 : Int) : St := St.mk [V_ [C.d (D.sl false 1 (enS false s1))], V_ [C.d (D.sl false 1 (enS false s2))], U_, U_, B_ false, I_ i0, U_, U_, U_, U_, U_, U_, I_ (ofNat (length (enS false s1))), I_ i0, B_ true, I_ i0, V_ [C.d (D.sl false 1 (enS false s1))], I_ i0, V_ [C.rptr (getD (enS false s1) (toNat i0) [])], B_ (D.flag (getD (getD (enS false s1) (toNat i0) []) 0 D.dead)), V_ [C.d (D.sl false 1 (enS false s2))], I_ i0, V_ [C.rptr (getD (enS false s2) (toNat i0) [])], B_ (D.flag (getD (getD (enS false s2) (toNat i0) []) 0 D.dead)), B_ true, U_] []
def X37_3 (s1 : List Bool) (s2 : List Bool) (i0 : Int) : St := St.mk [V_ [C.d (D.sl false 1 (enS false s1))], V_ [C.d (D.sl false 1 (enS false s2))], U_, U_, U_, U_, U_, U_, U_, U_, U_, U_, I_ (ofNat (length (enS false s1))), I_ i0, B_ false, U_, U_, U_, U_, U_, U_, U_, U_, U_, U_, U_] []
theorem q37_0 (s1 : List Bool) (s2 : List Bool) (n : Nat) (i0 : Int) (f : St → RR) (K : Ex → St → RR) : B37_0 n (S37_0 s1 s2 i0) (kThen (fun st ↦ f (St.head 0 12291 67100720 st)) K) = bif decide (i0 < ofNat (length (enS false s1))) then bif decide (0 ≤ i0) && decide (i0 < ofNat (length (enS false s1))) then bif Leaf.fit false Leaf.bool (getD (getD (enS false s1) (toNat i0) []) 0 D.dead) && true then bif decide (0 ≤ i0) && decide (i0 < ofNat (length (enS false s2))) then bif Leaf.fit false Leaf.bool (getD (getD (enS false s2) (toNat i0) []) 0 D.dead) && true then bif D.flag (getD (getD (enS false s1) (toNat i0) []) 0 D.dead) != D.flag (getD (getD (enS false s2) (toNat i0) []) 0 D.dead) then K Ex.ret (X37_2 s1 s2 i0) else f (S37_0 s1 s2 (wrap i64 (i0 + 1))) else none else none else none else none else K (Ex.exit 0) (X37_3 s1 s2 i0) := by kernel_rfl
theorem aX37_2 (s1 : List Bool) (s2 : List Bool) (n : Nat) (i0 : Int) : k37_1 n Ex.ret (X37_2 s1 s2 i0) = some ([[D.bool false]], []) := by kernel_rfl
theorem aX37_3 (s1 : List Bool) (s2 : List Bool) (n : Nat) (i0 : Int) : k37_1 n (Ex.exit 0) (X37_3 s1 s2 i0) = some ([[D.bool true]], []) := by kernel_rfl
theorem r37 (s1 : List Bool) (s2 : List Bool) (n : Nat) : evFn ⟨prog, Hx, 37⟩ T33.call n f37 [[.sl false 1 (enS false s1)], [.sl false 1 (enS false s2)]] = bif ofNat (length (enS false s1)) != ofNat (length (enS false s2)) then some ([[D.bool false]], []) else loopRun (B37_0 n) 0 12291 67100720 n (S37_0 s1 s2 (0)) (k37_1 n) := by kernel_rfl
theorem m37 (s1 : List Bool) (s2 : List Bool) (hpre : (o37 s1 s2).1 = true) : evFn ⟨Go.Proofs.Try.prog, Hx, 37⟩ T33.call (s1.length + 1) f37 [[.sl false 1 (enS false s1)], [.sl false 1 (enS false s2)]] = some (o37 s1 s2).2 := by
  refine (r37 s1 s2 _).trans ?_
  show _ = (some ([[.bool (decide (s1 = s2))]], []) : Option (List Row × List Row))
  replace hpre : (decide (s1.length ≤ 1048576)) = true := hpre
  have hlen := of_decide_eq_true hpre
  simp only [enS_length, bne, nat_beq]
  cases hd : decide (s1.length = s2.length)
  · rw [decide_eq_false (fun e => of_decide_eq_false hd (congrArg List.length e))]
    rfl
  have hl := of_decide_eq_true hd
  refine bif_f rfl ?_
  refine loop_list (xs := s1) (fun i (_ : Unit) => S37_0 s1 s2 (Int.ofNat i)) (fun i _ => s1.take i = s2.take i) (fun _ _ _ => some ([[D.bool (decide (s1 = s2))]], [])) ?_ ?_ (s1.length + 1) () (by omega) rfl
  · rintro _ ht f
    refine (q37_0 s1 s2 _ _ f _).trans ?_
    rw [end_lt, cond_false]
    refine (aX37_3 s1 s2 _ _).trans ?_
    rw [List.take_length, hl, List.take_length] at ht
    rw [decide_eq_true ht]
  · rintro i _ hi ht f hf
    have hj : i < s2.length := by omega
    refine (q37_0 s1 s2 _ _ f _).trans ?_
    refine bif_t (in_lt false hi) (bif_t (by rw [in_lt false hi, dec_ge]; rfl) (bif_t (by rw [toNat_of, enS_get false hi]; rfl) (bif_t (by rw [in_lt false hj, dec_ge]; rfl) (bif_t (by rw [toNat_of, enS_get false hj]; rfl) ?_))))
    rw [toNat_of, enS_get false hi, enS_get false hj, wrap_succ (show i < 4611686018427387904 by omega)]
    cases he : s1[i] != s2[i]
    · refine bif_f he ?_
      refine hf () ?_
      have he' : s1[i] = s2[i] := by simpa using he
      rw [← List.take_append_getElem hi, ← List.take_append_getElem hj, ht, he']
    · refine bif_t he ?_
      refine (aX37_2 s1 s2 _ _).trans ?_
      have he' : s1[i] ≠ s2[i] := by simpa using he
      rw [decide_eq_false (fun e => he' (by subst e; rfl))]
theorem s37 : SoundAt Go.Proofs.Try.prog Hx 37 c37 := soundAt_of T33_sound mixed func37 (by kernel_rfl) (by
  intro rows r h
  unfold c37 at h
  split at h
  · rename_i s1 s2
    obtain ⟨hp, hr⟩ := Prod.mk.inj (Option.some.inj h)
    subst hr
    simp only [Bool.and_eq_true] at hp
    obtain ⟨⟨hs0, hs1⟩, hp⟩ := hp
    obtain ⟨xs0, rfl⟩ := isS_ex hs0
    obtain ⟨xs1, rfl⟩ := isS_ex hs1
    simp only [deS_enS] at hp ⊢
    exact ⟨_, m37 xs0 xs1 hp⟩
  · cases h)
def T37 : Table := (37, c37) :: T33
theorem T37_sound : Table.Sound Go.Proofs.Try.prog Hx T37 := Table.sound_cons s37 T33_sound
def o38 (b : Bridge) : Bool × List Row × List Row := (decide (b.Ports.length ≤ 4), [[.sl true 1 (enS true (opensL b))]], [])
def c38 : Contract
  | [[.int .i64 b_Id, .sl false 11 b_Ports]] => some (isS Port false b_Ports && (o38 ⟨b_Id, (deS Port b_Ports)⟩).1, (o38 ⟨b_Id, (deS Port b_Ports)⟩).2.1, (o38 ⟨b_Id, (deS Port b_Ports)⟩).2.2)
  | _ => none

def k38_0 (n : Nat) : Ex → St → RR := kThen (fun st ↦ runCode (Ctx.mk prog Hx (38)) (Table.call T37) n (codeAt [1, 1, 1] (bodyOf f38)) (Lv.mk 4 [] 4) st (kLeave (Ctx.P (Ctx.mk prog Hx (38))) (List.zip (Array.toList (Go.Func.resultTypes f38)) (Array.toList (Go.Func.results f38))) [] [])) (kLeave (Ctx.P (Ctx.mk prog Hx (38))) (List.zip (Array.toList (Go.Func.resultTypes f38)) (Array.toList (Go.Func.results f38))) [] [])
def k38_1 (n : Nat) : Ex → St → RR := kBlock (0) (k38_0 n)
def S38_0 (b : Bridge) (i0 : Int) (es1 : List (List D)) : St := St.mk [U_, U_, U_, V_ [C.view 1 0 0 [] 1 none], U_, U_, U_, U_, V_ [C.d (D.sl false 11 (enS false (Bridge.Ports b)))], I_ (ofNat (length (enS false (Bridge.Ports b)))), I_ i0, U_, U_, U_, U_, U_, U_, U_, U_, U_, U_, U_, U_, U_] [Root.mk true 2 [En.enc false b] 0 0 true true false, Root.mk false 1 es1 0 0 true true false]
def B38_0 (n : Nat) : St → (Ex → St → RR) → RR := runCode (Ctx.mk prog Hx (38)) (Table.call T37) n (codeAt [1, 1, 0, 1, 0, 0] (bodyOf f38)) (Lv.mk 1800 [(0, 8)] 4)
def X38_2 (b : Bridge) (i0 : Int) (es1 : List (List D)) : St := St.mk [U_, U_, U_, V_ [C.view 1 0 0 [] 1 none], U_, U_, U_, U_, V_ [C.d (D.sl false 11 (enS false (Bridge.Ports b)))], I_ (ofNat (length (enS false (Bridge.Ports b)))), I_ i0, B_ false, U_, U_, U_, U_, U_, U_, U_, U_, U_, U_, U_, U_] [Root.mk true 2 [En.enc false b] 0 0 true true false, Root.mk false 1 es1 0 0 true true false]
theorem q38_0 (b : Bridge) (n : Nat) (i0 : Int) (es1 : List (List D)) (f : St → RR) (K : Ex → St → RR) : B38_0 n (S38_0 b i0 es1) (kThen (fun st ↦ f (St.head 2 1800 2096176 st)) K) = bif decide (i0 < ofNat (length (enS false (Bridge.Ports b)))) then bif decide (0 ≤ i0) && decide (i0 < ofNat (length (enS false (Bridge.Ports b)))) then bif Leaf.fit false Leaf.bool (getD (getD (enS false (Bridge.Ports b)) (toNat i0) []) 0 D.dead) && (Leaf.fit false Leaf.bool (getD (getD (enS false (Bridge.Ports b)) (toNat i0) []) 1 D.dead) && (Leaf.fit false (Leaf.int i64) (getD (getD (enS false (Bridge.Ports b)) (toNat i0) []) 2 D.dead) && (Leaf.fit false (Leaf.int i64) (getD (getD (enS false (Bridge.Ports b)) (toNat i0) []) 3 D.dead) && (Leaf.fit false (Leaf.int i64) (getD (getD (enS false (Bridge.Ports b)) (toNat i0) []) 4 D.dead) && (Leaf.fit false (Leaf.int i64) (getD (getD (enS false (Bridge.Ports b)) (toNat i0) []) 5 D.dead) && (Leaf.fit false (Leaf.int i64) (getD (getD (enS false (Bridge.Ports b)) (toNat i0) []) 6 D.dead) && (Leaf.fit false (Leaf.int i64) (getD (getD (enS false (Bridge.Ports b)) (toNat i0) []) 7 D.dead) && (Leaf.fit false (Leaf.int i64) (getD (getD (enS false (Bridge.Ports b)) (toNat i0) []) 8 D.dead) && (Leaf.fit false (Leaf.int i64) (getD (getD (enS false (Bridge.Ports b)) (toNat i0) []) 9 D.dead) && (Leaf.fit false Leaf.bool (getD (getD (enS false (Bridge.Ports b)) (toNat i0) []) 10 D.dead) && true)))))))))) then bif decide (0 ≤ i0) && decide (i0 < ofNat (length es1)) then f (S38_0 b (wrap i64 (i0 + 1)) (set es1 (0 + toNat i0) [D.bool (D.flag (getD (getD (enS false (Bridge.Ports b)) (toNat i0) []) 10 D.dead))])) else none else none else none else K (Ex.exit 0) (X38_2 b i0 es1) := by kernel_rfl
theorem aX38_2 (b : Bridge) (n : Nat) (i0 : Int) (es1 : List (List D)) : k38_1 n (Ex.exit 0) (X38_2 b i0 es1) = bif decide (3 < ofNat (length es1)) then some ([[D.sl true 1 (set es1 3 [D.bool true])]], []) else none := by kernel_rfl
theorem r38 (b : Bridge) (n : Nat) : evFn ⟨prog, Hx, 38⟩ T37.call n f38 [[.int .i64 b.Id, .sl false 11 (enS false b.Ports)]] = loopRun (B38_0 n) 2 1800 2096176 n (S38_0 b (0) [[D.bool false], [D.bool false], [D.bool false], [D.bool false]]) (k38_1 n) := by kernel_rfl
theorem m38 (b : Bridge) (hpre : (o38 b).1 = true) : evFn ⟨Go.Proofs.Try.prog, Hx, 38⟩ T37.call 6 f38 [[.int .i64 b.Id, .sl false 11 (enS false b.Ports)]] = some (o38 b).2 := by
  refine (r38 b _).trans ?_
  show _ = (some ([[.sl true 1 (enS true (opensL b))]], []) : Option (List Row × List Row))
  replace hpre : (decide (b.Ports.length ≤ 4)) = true := hpre
  have h4 : b.Ports.length ≤ 4 := of_decide_eq_true hpre
  have hT : (opT b).length = opP.length := rfl
  refine loop_rule (V := Nat) (fun i => S38_0 b (Int.ofNat i) (enS true ((opT b).take i ++ opP.drop i))) (fun i => i ≤ b.Ports.length) (fun i => b.Ports.length - i) (fun _ => some ([[D.sl true 1 (enS true (opensL b))]], [])) ?_ 6 0 (Nat.zero_le _) (by omega)
  intro i hil f hf
  have hyl : ((opT b).take i ++ opP.drop i).length = 4 := mixL hT i
  refine (q38_0 b _ _ _ f _).trans ?_
  by_cases hi : i < b.Ports.length
  · have hi4 : i < 4 := by omega
    refine bif_t (in_lt false hi) (bif_t (by rw [in_lt false hi, dec_ge]; rfl) (bif_t (by rw [toNat_of, enS_get false hi]; rfl) (bif_t (by rw [enS_length, hyl, dec_ge]; exact decide_eq_true (show (i : Int) < 4 by omega)) ?_)))
    rw [toNat_of, Nat.zero_add, enS_get false hi, wrap_succ (show i < 4611686018427387904 by omega)]
    refine (congrArg f (congrArg (S38_0 b _) ((enS_set true _ i b.Ports[i].Open).trans (congrArg (enS true) (mixS hT hi4 ((opT_get b i hi4).trans (opF_at hi))))))).trans ?_
    exact hf (i + 1) hi (by omega)
  · obtain rfl : i = b.Ports.length := by omega
    refine bif_f (end_lt false b.Ports) ?_
    refine (aX38_2 b _ _ _).trans ?_
    rw [opT_end _ rfl h4]
    refine bif_t rfl ?_
    exact congrArg (fun z => (some ([[D.sl true 1 z]], []) : RR)) ((enS_set true (opT b) 3 true).trans (congrArg (enS true) (opT_set b)))
theorem s38 : SoundAt Go.Proofs.Try.prog Hx 38 c38 := soundAt_of T37_sound mixed func38 (by kernel_rfl) (by
  intro rows r h
  unfold c38 at h
  split at h
  · rename_i b_Id b_Ports
    obtain ⟨hp, hr⟩ := Prod.mk.inj (Option.some.inj h)
    subst hr
    simp only [Bool.and_eq_true] at hp
    obtain ⟨hs0, hp⟩ := hp
    obtain ⟨xs0, rfl⟩ := isS_ex hs0
    simp only [deS_enS] at hp ⊢
    exact ⟨_, m38 ⟨b_Id, xs0⟩ hp⟩
  · cases h)
def T38 : Table := (38, c38) :: T37
theorem T38_sound : Table.Sound Go.Proofs.Try.prog Hx T38 := Table.sound_cons s38 T37_sound
def o44 (b : Bridge) : Bool × List Row × List Row := (decide (b.Ports.length ≤ 1048576), [[.sl true 1 (enS true (cardB b).Open), .sl true 2 (enS true (cardB b).Members), .sl true 4 (enS true (cardB b).Table)]], [])
def c44 : Contract
  | [[.int .i64 b_Id, .sl false 11 b_Ports]] => some (isS Port false b_Ports && (o44 ⟨b_Id, (deS Port b_Ports)⟩).1, (o44 ⟨b_Id, (deS Port b_Ports)⟩).2.1, (o44 ⟨b_Id, (deS Port b_Ports)⟩).2.2)
  | _ => none

def k44_0 (n : Nat) : Ex → St → RR := kThen (fun st ↦ runCode (Ctx.mk prog Hx (44)) (Table.call T38) n (codeAt [1, 1, 1] (bodyOf f44)) (Lv.mk 4 [] 4) st (kLeave (Ctx.P (Ctx.mk prog Hx (44))) (List.zip (Array.toList (Go.Func.resultTypes f44)) (Array.toList (Go.Func.results f44))) [] [])) (kLeave (Ctx.P (Ctx.mk prog Hx (44))) (List.zip (Array.toList (Go.Func.resultTypes f44)) (Array.toList (Go.Func.results f44))) [] [])
def k44_1 (n : Nat) : Ex → St → RR := kBlock (0) (k44_0 n)
def S44_0 (b : Bridge) (i0 : Int) (es1 : List (List D)) (es2 : List (List D)) : St := St.mk [U_, V_ [C.ptr 0 0 0 [] 2 0 0], V_ [C.ptr 1 0 0 [] 3 0 0], V_ [C.ptr 2 0 0 [] 3 0 0], I_ i0, U_, U_, U_, U_, U_, U_, U_, U_, U_, U_, U_, U_, U_, U_, U_, U_, U_, U_, U_, U_, U_, U_, U_, U_, U_, U_, U_, U_, U_, U_, U_, U_, U_, U_, U_, U_, U_] [Root.mk true 2 [En.enc false b] 0 0 true true false, Root.mk true 3 [[D.sl true 1 [], D.sl true 2 [], D.sl true 4 []]] 0 0 true true false, Root.mk true 3 [[D.sl true 1 es1, D.sl true 2 es2, D.sl true 4 []]] 0 0 true true false]
def B44_0 (n : Nat) : St → (Ex → St → RR) → RR := runCode (Ctx.mk prog Hx (44)) (Table.call T38) n (codeAt [1, 1, 0, 1, 0, 0] (bodyOf f44)) (Lv.mk 30 [(0, 12)] 4)
def X44_2 (b : Bridge) (i0 : Int) (es1 : List (List D)) (es2 : List (List D)) : St := St.mk [U_, V_ [C.ptr 0 0 0 [] 2 0 0], V_ [C.ptr 1 0 0 [] 3 0 0], V_ [C.ptr 2 0 0 [] 3 0 0], I_ i0, U_, U_, I_ i0, B_ false, U_, U_, U_, U_, U_, U_, U_, U_, U_, U_, U_, U_, U_, U_, U_, U_, U_, U_, U_, U_, U_, U_, U_, U_, U_, U_, U_, U_, U_, U_, U_, U_, U_] [Root.mk true 2 [En.enc false b] 0 0 true true false, Root.mk true 3 [[D.sl true 1 [], D.sl true 2 [], D.sl true 4 []]] 0 0 true true false, Root.mk true 3 [[D.sl true 1 es1, D.sl true 2 es2, D.sl true 4 []]] 0 0 true true false]
theorem q44_0 (b : Bridge) (n : Nat) (i0 : Int) (es1 : List (List D)) (es2 : List (List D)) (f : St → RR) (K : Ex → St → RR) : B44_0 n (S44_0 b i0 es1 es2) (kThen (fun st ↦ f (St.head 3 30 2199023255472 st)) K) = bif decide (i0 < 4) then bif i0 != 3 then bif decide (i0 < ofNat (length (enS false (Bridge.Ports b)))) then bif decide (0 ≤ i0) && decide (i0 < ofNat (length (enS false (Bridge.Ports b)))) then bif Leaf.fit false Leaf.bool (getD (drop 10 (getD (enS false (Bridge.Ports b)) (toNat i0) [])) 0 D.dead) && true then bif decide ((length es1 + 1) * 1 ≤ 140737488355328) then bif decide ((length es2 + 1) * 32 ≤ 140737488355328) then f (S44_0 b (wrap i64 (i0 + 1)) (append es1 [[D.bool (D.flag (getD (drop 10 (getD (enS false (Bridge.Ports b)) (toNat i0) [])) 0 D.dead))]]) (append es2 [[D.int i64 (1), D.sl true 1 [[D.int i64 (1)]]]])) else none else none else none else none else bif decide ((length es1 + 1) * 1 ≤ 140737488355328) then bif decide ((length es2 + 1) * 32 ≤ 140737488355328) then f (S44_0 b (wrap i64 (i0 + 1)) (append es1 [[D.bool (i0 == 3)]]) (append es2 [[D.int i64 (1), D.sl true 1 [[D.int i64 (1)]]]])) else none else none else bif decide ((length es1 + 1) * 1 ≤ 140737488355328) then bif decide ((length es2 + 1) * 32 ≤ 140737488355328) then f (S44_0 b (wrap i64 (i0 + 1)) (append es1 [[D.bool (i0 == 3)]]) (append es2 [[D.int i64 (1), D.sl true 1 [[D.int i64 (1)]]]])) else none else none else K (Ex.exit 0) (X44_2 b i0 es1 es2) := by kernel_rfl
theorem aX44_2 (b : Bridge) (n : Nat) (i0 : Int) (es1 : List (List D)) (es2 : List (List D)) : k44_1 n (Ex.exit 0) (X44_2 b i0 es1 es2) = some ([[D.sl true 1 es1, D.sl true 2 es2, D.sl true 4 []]], []) := by kernel_rfl
theorem r44 (b : Bridge) (n : Nat) : evFn ⟨prog, Hx, 44⟩ T38.call n f44 [[.int .i64 b.Id, .sl false 11 (enS false b.Ports)]] = loopRun (B44_0 n) 3 30 2199023255472 n (S44_0 b (0) [] []) (k44_1 n) := by kernel_rfl
theorem m44 (b : Bridge) (hpre : (o44 b).1 = true) : evFn ⟨Go.Proofs.Try.prog, Hx, 44⟩ T38.call 6 f44 [[.int .i64 b.Id, .sl false 11 (enS false b.Ports)]] = some (o44 b).2 := by
  refine (r44 b _).trans ?_
  show _ = (some ([[.sl true 1 (enS true (cardB b).Open), .sl true 2 (enS true (cardB b).Members), .sl true 4 (enS true (cardB b).Table)]], []) : Option (List Row × List Row))
  replace hpre : (decide (b.Ports.length ≤ 1048576)) = true := hpre
  have hlen := of_decide_eq_true hpre
  refine loop_rule (V := Nat) (fun i => S44_0 b (Int.ofNat i) (enS true ((opensL b).take i)) (enS true (List.replicate i (⟨1, [1]⟩ : Member)))) (fun i => i ≤ 4) (fun i => 4 - i) (fun _ => some ([[D.sl true 1 (enS true (opensL b)), D.sl true 2 (enS true (cardB b).Members), D.sl true 4 []]], [])) ?_ 6 0 (Nat.zero_le _) (by omega)
  intro i hil f hf
  refine (q44_0 b _ _ _ _ f _).trans ?_
  have h1 : decide ((((opensL b).take i).length + 1) * 1 ≤ 140737488355328) = true := decide_eq_true (by rw [List.length_take]; omega)
  have h2 : decide (((List.replicate i (⟨1, [1]⟩ : Member)).length + 1) * 32 ≤ 140737488355328) = true := decide_eq_true (by rw [List.length_replicate]; omega)
  have key : ∀ x, (∀ h : i < (opensL b).length, (opensL b)[i] = x) → i < 4 → f (S44_0 b (IntKind.wrap IntKind.i64 (Int.ofNat i + 1)) (List.append (enS true ((opensL b).take i)) [[D.bool x]]) (List.append (enS true (List.replicate i (⟨1, [1]⟩ : Member))) [[D.int .i64 1, D.sl true 1 [[D.int .i64 1]]]])) = some ([[D.sl true 1 (enS true (opensL b)), D.sl true 2 (enS true (cardB b).Members), D.sl true 4 []]], []) := by
    intro x hx hi
    have hi' : i < (opensL b).length := hi
    rw [wrap_succ (show i < 4611686018427387904 by omega)]
    have e1 : List.append (enS true ((opensL b).take i)) [[D.bool x]] = enS true ((opensL b).take (i + 1)) := by
      refine (enS_snoc true ((opensL b).take i) x).trans ?_
      rw [← hx hi', List.take_append_getElem]
    have e2 : List.append (enS true (List.replicate i (⟨1, [1]⟩ : Member))) [[D.int .i64 1, D.sl true 1 [[D.int .i64 1]]]] = enS true (List.replicate (i + 1) (⟨1, [1]⟩ : Member)) := by
      refine (enS_snoc true (List.replicate i (⟨1, [1]⟩ : Member)) ⟨1, [1]⟩).trans ?_
      rw [List.replicate_succ']
    rw [e1, e2]
    exact hf (i + 1) (by omega) (by omega)
  by_cases hi : i < 4
  case neg =>
    obtain rfl : i = 4 := by omega
    refine bif_f rfl ?_
    exact aX44_2 b _ _ _ _
  refine bif_t (decide_eq_true (show (i : Int) < 4 by omega)) ?_
  by_cases h3 : i = 3
  · subst h3
    refine bif_f rfl (bif_t (by rw [enS_length]; exact h1) (bif_t (by rw [enS_length]; exact h2) ?_))
    exact key true (fun _ => rfl) (by omega)
  have hne : (Int.ofNat i != 3) = true := by
    rw [bne_iff_ne]
    show (i : Int) ≠ 3
    omega
  have hg : ∀ h : i < (opensL b).length, (opensL b)[i] = opF b i := fun h => opens_get b i h (by omega)
  refine bif_t hne ?_
  by_cases hp : i < b.Ports.length
  · refine bif_t (in_lt false hp) (bif_t (by rw [in_lt false hp, dec_ge]; rfl) (bif_t (by rw [toNat_of, enS_get false hp]; rfl) (bif_t (by rw [enS_length]; exact h1) (bif_t (by rw [enS_length]; exact h2) ?_))))
    rw [toNat_of, enS_get false hp]
    exact key b.Ports[i].Open (fun h => (hg h).trans (opF_at hp)) hi
  · refine bif_f (by rw [enS_length, dec_lt]; exact decide_eq_false hp) (bif_t (by rw [enS_length]; exact h1) (bif_t (by rw [enS_length]; exact h2) ?_))
    have hz : (Int.ofNat i == 3) = false := by
      rw [beq_eq_false_iff_ne]
      show (i : Int) ≠ 3
      omega
    rw [hz]
    exact key false (fun h => (hg h).trans (opF_out (by omega))) hi
theorem s44 : SoundAt Go.Proofs.Try.prog Hx 44 c44 := soundAt_of T38_sound mixed func44 (by kernel_rfl) (by
  intro rows r h
  unfold c44 at h
  split at h
  · rename_i b_Id b_Ports
    obtain ⟨hp, hr⟩ := Prod.mk.inj (Option.some.inj h)
    subst hr
    simp only [Bool.and_eq_true] at hp
    obtain ⟨hs0, hp⟩ := hp
    obtain ⟨xs0, rfl⟩ := isS_ex hs0
    simp only [deS_enS] at hp ⊢
    exact ⟨_, m44 ⟨b_Id, xs0⟩ hp⟩
  · cases h)
def T44 : Table := (44, c44) :: T38
theorem T44_sound : Table.Sound Go.Proofs.Try.prog Hx T44 := Table.sound_cons s44 T38_sound
end Go.Ev
end
