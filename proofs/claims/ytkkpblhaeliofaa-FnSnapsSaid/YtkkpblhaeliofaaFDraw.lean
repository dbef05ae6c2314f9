/- Contracts of functions, each by its evaluation. -/
import Derived.Test.YtkkpblhaeliofaaEvMd
import Derived.Test.YtkkpblhaeliofaaProg
import Derived.KernelRfl
import Derived.Test.YtkkpblhaeliofaaFRt
set_option linter.unusedVariables false
set_option linter.unusedSimpArgs false
set_option maxRecDepth 100000
noncomputable section
open List (getD length drop take set append replicate all isEmpty)
open Int (toNat ofNat)
open Go.IntKind (i64 wrap)
open Go.Proofs.Try (prog f15 f44 f45 f60 f72 f74 func15 func44 func45 func60 func72 func74)
namespace Go.Ev
open Go.RowKit Go.Md
end Go.Ev
namespace Go.Md
open Go Go.Ev
noncomputable def curOk (c : TL1Cur) : Bool := isS UInt8 false c.b && (decide (c.b.length ≤ 1048576) && (decide (0 ≤ c.i) && decide (c.i ≤ 1048576)))
theorem cur_mk {b : List (List D)} {i h : Int} (h1 : isS UInt8 false b = true) (h2 : b.length ≤ 1048576) (h3 : 0 ≤ i ∧ i ≤ 1048576) : curOk ⟨b, i, h⟩ = true := by
  unfold curOk
  rw [h1, decide_eq_true h2, decide_eq_true h3.1, decide_eq_true h3.2]
  rfl
theorem cur_b {c : TL1Cur} (h : curOk c = true) : isS UInt8 false c.b = true ∧ c.b.length ≤ 1048576 ∧ 0 ≤ c.i ∧ c.i ≤ 1048576 := by
  unfold curOk at h
  simp only [Bool.and_eq_true, decide_eq_true_eq] at h
  exact h
theorem and_b (x : Int) : 0 ≤ IntKind.wrap IntKind.i64 (Int.ofNat (BitVec.toNat (BitVec.and (BitVec.ofInt 64 x) (BitVec.ofInt 64 255)))) ∧ IntKind.wrap IntKind.i64 (Int.ofNat (BitVec.toNat (BitVec.and (BitVec.ofInt 64 x) (BitVec.ofInt 64 255)))) ≤ 255 := by
  have h2 : BitVec.toNat (BitVec.and (BitVec.ofInt 64 x) (BitVec.ofInt 64 255)) ≤ 255 := by
    have := BitVec.toNat_and (BitVec.ofInt 64 x) (BitVec.ofInt 64 255)
    show BitVec.toNat (BitVec.ofInt 64 x &&& BitVec.ofInt 64 255) ≤ 255
    rw [this]
    exact Nat.and_le_right
  generalize BitVec.toNat (BitVec.and (BitVec.ofInt 64 x) (BitVec.ofInt 64 255)) = m at h2
  have h3 : IntKind.wrap IntKind.i64 (Int.ofNat m) = Int.ofNat m := wrap_of (by show (_ : Int) ≤ (m : Int); omega) (by show (m : Int) ≤ _; omega)
  rw [h3]
  exact ⟨Int.natCast_nonneg m, by show (m : Int) ≤ (255 : Int); omega⟩
theorem snoc_int (o : Bool) (xs : List Int) (x : Int) : List.append (enS o xs) [[D.int .i64 x]] = enS o (xs ++ [x]) := enS_snoc o xs x
theorem snoc_en {α : Type} [En α] (o : Bool) (xs : List α) (x : α) : List.append (enS o xs) [En.enc o x] = enS o (xs ++ [x]) := enS_snoc o xs x
theorem rep_I (o : Bool) (n : Nat) (x : Int) : List.replicate n [D.int .i64 x] = enS o (List.replicate n x) := enS_rep o n x
theorem big_no {code : List UInt8} (h : decide ((code.length : Int) > 1048576) = false) : decide (code.length ≤ 1048576) = true := decide_eq_true (by have := of_decide_eq_false h; omega)
theorem bif_c {R : Type} {c : Bool} {a b r : R} (ha : c = true → a = r) (hb : c = false → b = r) : (bif c then a else b) = r := by
  cases c
  · exact hb rfl
  · exact ha rfl
theorem mod_b {x n : Int} (hx : 0 ≤ x) : 0 ≤ x.tmod n ∧ (0 < n → x.tmod n < n) := ⟨Int.tmod_nonneg n hx, fun hn => Int.tmod_lt_of_pos x hn⟩
end Go.Md
namespace Go.Ev
open Go.Md
end Go.Ev
namespace Go.Md
open Go Go.Ev
def P_l1New (code : List UInt8) (x : TL1Cur) : Prop := evFn ⟨Go.Proofs.Try.prog, Hx, 45⟩ T29.call (code.length + 1) f45 [[.sl false 1 (enS false code)]] = some ([[.sl false 1 x.b, .int .i64 x.i, .int .i64 x.h]], []) ∧ (curOk x = true)
noncomputable def w_l1New (code : List UInt8) : TL1Cur := @Classical.epsilon (TL1Cur) ⟨⟨[], 0, 0⟩⟩ (P_l1New code)
noncomputable def v0_l1New (code : List UInt8) : TL1Cur := (w_l1New code)
end Go.Md
namespace Go.Ev
open Go.Md
def o45 (code : List UInt8) : Bool × List Row × List Row := (decide (code.length ≤ 1048576), [[.sl false 1 (v0_l1New code).b, .int .i64 (v0_l1New code).i, .int .i64 (v0_l1New code).h]], [])
def c45 : Contract
  | [[.sl false 1 code]] => some (isS UInt8 false code && (o45 (deS UInt8 code)).1, (o45 (deS UInt8 code)).2.1, (o45 (deS UInt8 code)).2.2)
  | _ => none

def k45_0 (n : Nat) : Ex → St → RR := kThen (fun st ↦ runCode (Ctx.mk prog Hx (45)) (Table.call T29) n (codeAt [1, 1, 1] (bodyOf f45)) (Lv.mk 4 [] 4) st (kLeave (Ctx.P (Ctx.mk prog Hx (45))) (List.zip (Array.toList (Go.Func.resultTypes f45)) (Array.toList (Go.Func.results f45))) [] [])) (kLeave (Ctx.P (Ctx.mk prog Hx (45))) (List.zip (Array.toList (Go.Func.resultTypes f45)) (Array.toList (Go.Func.results f45))) [] [])
def k45_1 (n : Nat) : Ex → St → RR := kBlock (0) (k45_0 n)
def S45_0 (code : List UInt8) (i0 : Int) (i1 : Int) : St := St.mk (V_ [C.d (D.sl false 1 (enS false code))] :: U_ :: U_ :: I_ i0 :: I_ i1 :: u_ 27 []) []
def B45_0 (n : Nat) : St → (Ex → St → RR) → RR := runCode (Ctx.mk prog Hx (45)) (Table.call T29) n (codeAt [1, 1, 0, 1, 0, 0] (bodyOf f45)) (Lv.mk 25 [(0, 9)] 4)
def X45_2 (code : List UInt8) (i0 : Int) : St := St.mk (V_ [C.d (D.sl false 1 (enS false code))] :: U_ :: U_ :: I_ i0 :: u_ 28 []) []
def X45_3 (code : List UInt8) (i0 : Int) : St := St.mk (V_ [C.d (D.sl false 1 (enS false code))] :: U_ :: U_ :: I_ i0 :: u_ 28 []) []
theorem q45_0 (code : List UInt8) (n : Nat) (i0 : Int) (i1 : Int) (f : St → RR) (K : Ex → St → RR) : B45_0 n (S45_0 code i0 i1) (kThen (fun st ↦ f (St.head 0 25 268435224 st)) K) = bif decide (i1 < ofNat (length (enS false code))) then bif decide (i1 < 4000) then bif decide (0 ≤ i1) && decide (i1 < ofNat (length (enS false code))) then bif Leaf.fit false (Leaf.int IntKind.u8) (getD (getD (enS false code) (toNat i1) []) 0 D.dead) && true then f (S45_0 code (wrap i64 (ofNat (BitVec.toNat (BitVec.and (BitVec.ofInt 64 (wrap i64 (wrap i64 (wrap i64 (i0 * 131) + wrap i64 (D.num (getD (getD (enS false code) (toNat i1) []) 0 D.dead))) + 7))) (BitVec.ofInt 64 (1073741823)))))) (wrap i64 (i1 + 1))) else none else none else K (Ex.exit 0) (X45_2 code i0) else K (Ex.exit 0) (X45_3 code i0) := by kernel_rfl
theorem aX45_2 (code : List UInt8) (n : Nat) (i0 : Int) : k45_1 n (Ex.exit 0) (X45_2 code i0) = some ([[D.sl false 1 (enS false code), D.int i64 (0), D.int i64 i0]], []) := by kernel_rfl
theorem aX45_3 (code : List UInt8) (n : Nat) (i0 : Int) : k45_1 n (Ex.exit 0) (X45_3 code i0) = some ([[D.sl false 1 (enS false code), D.int i64 (0), D.int i64 i0]], []) := by kernel_rfl
theorem r45 (code : List UInt8) (n : Nat) : evFn ⟨prog, Hx, 45⟩ T29.call n f45 [[.sl false 1 (enS false code)]] = loopRun (B45_0 n) 0 25 268435224 n (S45_0 code (wrap i64 (27397 + ofNat (length (enS false code)))) (0)) (k45_1 n) := by kernel_rfl
def G_l1New (code : List UInt8) (r : Option (List Row × List Row)) : Prop := ∃ x : TL1Cur, r = some ([[.sl false 1 x.b, .int .i64 x.i, .int .i64 x.h]], []) ∧ (curOk x = true)
theorem leaf_l1New (code : List UInt8) {z0_b : List (List D)} {z0_i : Int} {z0_h : Int} (h : curOk (⟨z0_b, z0_i, z0_h⟩ : TL1Cur) = true) : G_l1New code (some ([[.sl false 1 z0_b, .int .i64 z0_i, .int .i64 z0_h]], [])) := ⟨⟨z0_b, z0_i, z0_h⟩, rfl, h⟩
theorem e_l1New (code : List UInt8) (hpre : (o45 code).1 = true) : ∃ x, P_l1New code x := by
  show G_l1New code _
  refine Eq.mpr (congrArg (G_l1New code) (r45 code _)) ?_
  replace hpre : (decide (code.length ≤ 1048576)) = true := hpre
  have hc := of_decide_eq_true hpre
  have hk : ∀ h : Int, curOk ⟨enS false code, 0, h⟩ = true := fun h => cur_mk (isS_enS false code) (by rw [enS_length]; exact hc) (by omega)
  refine g_loop (V := Nat × Int) (fun v => S45_0 code v.2 (Int.ofNat v.1)) (fun v => v.1 ≤ code.length) (fun v => code.length - v.1) ?_ (code.length + 1) (0, _) (Nat.zero_le _) (by show code.length - 0 < _; omega)
  rintro ⟨i, h⟩ hi f hf
  simp only at hi
  refine g_eq (q45_0 code _ _ _ f _) ?_
  by_cases h1 : i < code.length
  · refine g_t (in_lt false h1) (g_if (fun h2 => ?_) (fun h2 => ?_))
    · refine g_pre (by rw [in_lt false h1, dec_ge]; rfl) (g_pre (by rw [toNat_of, enS_get false h1]; rfl) ?_)
      rw [wrap_succ (by omega)]
      exact hf (i + 1, _) h1 (by show code.length - (i + 1) < code.length - i; omega)
    · refine g_eq (aX45_2 _ _ _) ?_
      refine leaf_l1New _  ?_
      exact hk _
  · obtain rfl : i = code.length := by omega
    refine g_f (end_lt false code) (g_eq (aX45_3 _ _ _) ?_)
    refine leaf_l1New _  ?_
    exact hk _
theorem p_l1New (code : List UInt8) (hpre : (o45 code).1 = true) : curOk (v0_l1New code) = true := (Classical.epsilon_spec (e_l1New code hpre)).2
theorem m45 (code : List UInt8) (hpre : (o45 code).1 = true) : evFn ⟨Go.Proofs.Try.prog, Hx, 45⟩ T29.call (code.length + 1) f45 [[.sl false 1 (enS false code)]] = some (o45 code).2 := (Classical.epsilon_spec (e_l1New code hpre)).1
theorem s45 : SoundAt Go.Proofs.Try.prog Hx 45 c45 := soundAt_of T29_sound mixed func45 (by kernel_rfl) (by
  intro rows r h
  unfold c45 at h
  split at h
  · rename_i code
    obtain ⟨hp, hr⟩ := Prod.mk.inj (Option.some.inj h)
    subst hr
    simp only [Bool.and_eq_true] at hp
    obtain ⟨hs0, hp⟩ := hp
    obtain ⟨xs0, rfl⟩ := isS_ex hs0
    simp only [deS_enS] at hp ⊢
    exact ⟨_, m45 xs0 hp⟩
  · cases h)
def T45 : Table := (45, c45) :: T29
theorem T45_sound : Table.Sound Go.Proofs.Try.prog Hx T45 := Table.sound_cons s45 T29_sound
end Go.Ev
namespace Go.Md
open Go Go.Ev
def P_l1Byte (c : TL1Cur) (x : Int × TL1Cur) : Prop := evFn ⟨Go.Proofs.Try.prog, Hx, 74⟩ T45.call 0 f74 [[.sl false 1 c.b, .int .i64 c.i, .int .i64 c.h]] = some ([[.int .i64 x.1]], [[.sl false 1 x.2.b, .int .i64 x.2.i, .int .i64 x.2.h]]) ∧ ((0 ≤ x.1 ∧ x.1 ≤ 255) ∧ curOk x.2 = true)
noncomputable def w_l1Byte (c : TL1Cur) : Int × TL1Cur := @Classical.epsilon (Int × TL1Cur) ⟨(0, ⟨[], 0, 0⟩)⟩ (P_l1Byte c)
noncomputable def v0_l1Byte (c : TL1Cur) : Int := (w_l1Byte c).1
noncomputable def b0_l1Byte (c : TL1Cur) : TL1Cur := (w_l1Byte c).2
end Go.Md
namespace Go.Ev
open Go.Md
def o74 (c : TL1Cur) : Bool × List Row × List Row := (curOk c, [[.int .i64 (v0_l1Byte c)]], [[.sl false 1 (b0_l1Byte c).b, .int .i64 (b0_l1Byte c).i, .int .i64 (b0_l1Byte c).h]])
def c74 : Contract
  | [[.sl false 1 c_b, .int .i64 c_i, .int .i64 c_h]] => some ((o74 ⟨c_b, c_i, c_h⟩).1, (o74 ⟨c_b, c_i, c_h⟩).2.1, (o74 ⟨c_b, c_i, c_h⟩).2.2)
  | _ => none

theorem r74 (c : TL1Cur) (n : Nat) : evFn ⟨prog, Hx, 74⟩ T45.call n f74 [[.sl false 1 c.b, .int .i64 c.i, .int .i64 c.h]] = bif decide (TL1Cur.i c < ofNat (length (TL1Cur.b c))) then bif decide (0 ≤ TL1Cur.i c) && decide (TL1Cur.i c < ofNat (length (TL1Cur.b c))) then bif Leaf.fit false (Leaf.int IntKind.u8) (getD (getD (TL1Cur.b c) (toNat (TL1Cur.i c)) []) 0 D.dead) && true then some ([[D.int i64 (wrap i64 (ofNat (BitVec.toNat (BitVec.and (BitVec.ofInt 64 (wrap i64 (wrap i64 (ofNat (BitVec.toNat (BitVec.and (BitVec.ofInt 64 (wrap i64 (ofNat (BitVec.toNat (BitVec.xor (BitVec.ofInt 64 (Int.fdiv (wrap i64 (wrap i64 (TL1Cur.h c * 6364136223846793005) + 1442695040888963407)) (ofNat 8589934592))) (BitVec.ofInt 64 (Int.fdiv (wrap i64 (wrap i64 (TL1Cur.h c * 6364136223846793005) + 1442695040888963407)) (ofNat 35184372088832)))))))) (BitVec.ofInt 64 (255))))) + wrap i64 (D.num (getD (getD (TL1Cur.b c) (toNat (TL1Cur.i c)) []) 0 D.dead))))) (BitVec.ofInt 64 (255))))))]], [[D.sl false 1 (TL1Cur.b c), D.int i64 (wrap i64 (TL1Cur.i c + 1)), D.int i64 (wrap i64 (wrap i64 (TL1Cur.h c * 6364136223846793005) + 1442695040888963407))]]) else none else none else some ([[D.int i64 (wrap i64 (ofNat (BitVec.toNat (BitVec.and (BitVec.ofInt 64 (wrap i64 (ofNat (BitVec.toNat (BitVec.xor (BitVec.ofInt 64 (Int.fdiv (wrap i64 (wrap i64 (TL1Cur.h c * 6364136223846793005) + 1442695040888963407)) (ofNat 8589934592))) (BitVec.ofInt 64 (Int.fdiv (wrap i64 (wrap i64 (TL1Cur.h c * 6364136223846793005) + 1442695040888963407)) (ofNat 35184372088832)))))))) (BitVec.ofInt 64 (255))))))]], [[D.sl false 1 (TL1Cur.b c), D.int i64 (TL1Cur.i c), D.int i64 (wrap i64 (wrap i64 (TL1Cur.h c * 6364136223846793005) + 1442695040888963407))]]) := by kernel_rfl
def G_l1Byte (c : TL1Cur) (r : Option (List Row × List Row)) : Prop := ∃ x : Int × TL1Cur, r = some ([[.int .i64 x.1]], [[.sl false 1 x.2.b, .int .i64 x.2.i, .int .i64 x.2.h]]) ∧ ((0 ≤ x.1 ∧ x.1 ≤ 255) ∧ curOk x.2 = true)
theorem leaf_l1Byte (c : TL1Cur) {z0 : Int} {z1_b : List (List D)} {z1_i : Int} {z1_h : Int} (h : (0 ≤ (z0 : Int) ∧ (z0 : Int) ≤ 255) ∧ curOk (⟨z1_b, z1_i, z1_h⟩ : TL1Cur) = true) : G_l1Byte c (some ([[.int .i64 z0]], [[.sl false 1 z1_b, .int .i64 z1_i, .int .i64 z1_h]])) := ⟨(z0, ⟨z1_b, z1_i, z1_h⟩), rfl, h⟩
theorem e_l1Byte (c : TL1Cur) (hpre : (o74 c).1 = true) : ∃ x, P_l1Byte c x := by
  show G_l1Byte c _
  refine Eq.mpr (congrArg (G_l1Byte c) (r74 c _)) ?_
  replace hpre : (curOk c) = true := hpre
  obtain ⟨h1, h2, h3, h4⟩ := cur_b hpre
  obtain ⟨cb, ci, ch⟩ := c
  obtain ⟨xs, rfl⟩ := isS_ex h1
  simp only at h2 h3 h4
  obtain ⟨k, rfl⟩ := Int.eq_ofNat_of_zero_le h3
  rw [enS_length] at h2
  refine g_if (fun h5 => ?_) (fun h5 => ?_)
  · have h6 : k < xs.length := by
      have := of_decide_eq_true h5
      rw [enS_length] at this
      exact Int.ofNat_lt.1 this
    refine g_pre (by rw [h5, decide_eq_true h3]; rfl) (g_pre (by show (Leaf.fit false (Leaf.int IntKind.u8) (List.getD (List.getD (enS false xs) k []) 0 D.dead) && true) = true; rw [enS_get false h6]; rfl) ?_)
    refine leaf_l1Byte _  ?_
    refine ⟨and_b _, cur_mk (isS_enS false xs) (by rw [enS_length]; exact h2) ?_⟩
    show 0 ≤ IntKind.wrap IntKind.i64 ((k : Int) + 1) ∧ IntKind.wrap IntKind.i64 ((k : Int) + 1) ≤ 1048576
    rw [wrap_sm (by omega) (by omega)]
    omega
  · refine leaf_l1Byte _  ?_
    exact ⟨and_b _, cur_mk (isS_enS false xs) (by rw [enS_length]; exact h2) ⟨h3, h4⟩⟩
theorem p_l1Byte (c : TL1Cur) (hpre : (o74 c).1 = true) : (0 ≤ (v0_l1Byte c) ∧ (v0_l1Byte c) ≤ 255) ∧ curOk (b0_l1Byte c) = true := (Classical.epsilon_spec (e_l1Byte c hpre)).2
theorem k_l1Byte (c : TL1Cur) (hpre : (curOk c) = true) : curOk (b0_l1Byte c) = true := (p_l1Byte c hpre).2
theorem m74 (c : TL1Cur) (hpre : (o74 c).1 = true) : evFn ⟨Go.Proofs.Try.prog, Hx, 74⟩ T45.call 0 f74 [[.sl false 1 c.b, .int .i64 c.i, .int .i64 c.h]] = some (o74 c).2 := (Classical.epsilon_spec (e_l1Byte c hpre)).1
theorem s74 : SoundAt Go.Proofs.Try.prog Hx 74 c74 := soundAt_of T45_sound mixed func74 (by kernel_rfl) (by
  intro rows r h
  unfold c74 at h
  split at h
  · rename_i c_b c_i c_h
    obtain ⟨hp, hr⟩ := Prod.mk.inj (Option.some.inj h)
    subst hr
    exact ⟨_, m74 ⟨c_b, c_i, c_h⟩ hp⟩
  · cases h)
def T74 : Table := (74, c74) :: T45
theorem T74_sound : Table.Sound Go.Proofs.Try.prog Hx T74 := Table.sound_cons s74 T45_sound
end Go.Ev
namespace Go.Md
open Go Go.Ev
def P_l1Below (c : TL1Cur) (n_ : Int) (x : Int × TL1Cur) : Prop := evFn ⟨Go.Proofs.Try.prog, Hx, 44⟩ T74.call 0 f44 [[.sl false 1 c.b, .int .i64 c.i, .int .i64 c.h], [.int .i64 n_]] = some ([[.int .i64 x.1]], [[.sl false 1 x.2.b, .int .i64 x.2.i, .int .i64 x.2.h]]) ∧ ((0 ≤ x.1 ∧ (0 < n_ → x.1 < n_)) ∧ curOk x.2 = true)
noncomputable def w_l1Below (c : TL1Cur) (n_ : Int) : Int × TL1Cur := @Classical.epsilon (Int × TL1Cur) ⟨(0, ⟨[], 0, 0⟩)⟩ (P_l1Below c n_)
noncomputable def v0_l1Below (c : TL1Cur) (n_ : Int) : Int := (w_l1Below c n_).1
noncomputable def b0_l1Below (c : TL1Cur) (n_ : Int) : TL1Cur := (w_l1Below c n_).2
end Go.Md
namespace Go.Ev
open Go.Md
def o44 (c : TL1Cur) (n_ : Int) : Bool × List Row × List Row := (curOk c, [[.int .i64 (v0_l1Below c n_)]], [[.sl false 1 (b0_l1Below c n_).b, .int .i64 (b0_l1Below c n_).i, .int .i64 (b0_l1Below c n_).h]])
def c44 : Contract
  | [[.sl false 1 c_b, .int .i64 c_i, .int .i64 c_h], [.int .i64 n_]] => some ((o44 ⟨c_b, c_i, c_h⟩ n_).1, (o44 ⟨c_b, c_i, c_h⟩ n_).2.1, (o44 ⟨c_b, c_i, c_h⟩ n_).2.2)
  | _ => none

theorem r44 (c : TL1Cur) (n_ : Int) (n : Nat) : evFn ⟨prog, Hx, 44⟩ T74.call n f44 [[.sl false 1 c.b, .int .i64 c.i, .int .i64 c.h], [.int .i64 n_]] = bif decide (n_ ≤ 0) then some ([[D.int i64 (0)]], [[D.sl false 1 (TL1Cur.b c), D.int i64 (TL1Cur.i c), D.int i64 (TL1Cur.h c)]]) else bif decide (n_ ≤ 256) then bif curOk c then bif !decide (n_ = 0) then some ([[D.int i64 (Int.tmod (v0_l1Byte c) n_)]], [[D.sl false 1 (TL1Cur.b (b0_l1Byte c)), D.int i64 (TL1Cur.i (b0_l1Byte c)), D.int i64 (TL1Cur.h (b0_l1Byte c))]]) else none else none else bif curOk c then bif curOk (b0_l1Byte c) then bif curOk (b0_l1Byte (b0_l1Byte c)) then bif curOk (b0_l1Byte (b0_l1Byte (b0_l1Byte c))) then bif !decide (n_ = 0) then some ([[D.int i64 (Int.tmod (wrap i64 (wrap i64 (wrap i64 (wrap i64 (v0_l1Byte c * 16777216) + wrap i64 (v0_l1Byte (b0_l1Byte c) * 65536)) + wrap i64 (v0_l1Byte (b0_l1Byte (b0_l1Byte c)) * 256)) + v0_l1Byte (b0_l1Byte (b0_l1Byte (b0_l1Byte c))))) n_)]], [[D.sl false 1 (TL1Cur.b (b0_l1Byte (b0_l1Byte (b0_l1Byte (b0_l1Byte c))))), D.int i64 (TL1Cur.i (b0_l1Byte (b0_l1Byte (b0_l1Byte (b0_l1Byte c))))), D.int i64 (TL1Cur.h (b0_l1Byte (b0_l1Byte (b0_l1Byte (b0_l1Byte c)))))]]) else none else none else none else none else none := by kernel_rfl
def G_l1Below (c : TL1Cur) (n_ : Int) (r : Option (List Row × List Row)) : Prop := ∃ x : Int × TL1Cur, r = some ([[.int .i64 x.1]], [[.sl false 1 x.2.b, .int .i64 x.2.i, .int .i64 x.2.h]]) ∧ ((0 ≤ x.1 ∧ (0 < n_ → x.1 < n_)) ∧ curOk x.2 = true)
theorem leaf_l1Below (c : TL1Cur) (n_ : Int) {z0 : Int} {z1_b : List (List D)} {z1_i : Int} {z1_h : Int} (h : (0 ≤ (z0 : Int) ∧ (0 < n_ → (z0 : Int) < n_)) ∧ curOk (⟨z1_b, z1_i, z1_h⟩ : TL1Cur) = true) : G_l1Below c n_ (some ([[.int .i64 z0]], [[.sl false 1 z1_b, .int .i64 z1_i, .int .i64 z1_h]])) := ⟨(z0, ⟨z1_b, z1_i, z1_h⟩), rfl, h⟩
theorem e_l1Below (c : TL1Cur) (n_ : Int) (hpre : (o44 c n_).1 = true) : ∃ x, P_l1Below c n_ x := by
  show G_l1Below c n_ _
  refine Eq.mpr (congrArg (G_l1Below c n_) (r44 c n_ _)) ?_
  replace hpre : (curOk c) = true := hpre
  have hn0 : ∀ h : ¬ n_ ≤ 0, (!decide (n_ = 0)) = true := fun h => by rw [decide_eq_false (show ¬ n_ = 0 by omega)]; rfl
  refine g_if (fun h1 => ?_) (fun h1 => ?_)
  · refine leaf_l1Below _ _  ?_
    have := of_decide_eq_true h1
    exact ⟨⟨Int.le_refl 0, fun h => by omega⟩, hpre⟩
  have h1 := of_decide_eq_false h1
  have x := p_l1Byte c hpre
  refine g_if (fun h2 => ?_) (fun h2 => ?_)
  · refine g_pre hpre (g_pre (hn0 h1) ?_)
    refine leaf_l1Below _ _  ?_
    exact ⟨mod_b x.1.1, x.2⟩
  have y := p_l1Byte _ x.2
  have z := p_l1Byte _ y.2
  have w := p_l1Byte _ z.2
  refine g_pre hpre (g_pre x.2 (g_pre y.2 (g_pre z.2 (g_pre (hn0 h1) ?_))))
  refine leaf_l1Below _ _  ?_
  refine ⟨mod_b ?_, w.2⟩
  have x1 := x.1; have y1 := y.1; have z1 := z.1; have w1 := w.1
  simp (disch := omega) only [wrap_sm]
  omega
theorem p_l1Below (c : TL1Cur) (n_ : Int) (hpre : (o44 c n_).1 = true) : (0 ≤ (v0_l1Below c n_) ∧ (0 < n_ → (v0_l1Below c n_) < n_)) ∧ curOk (b0_l1Below c n_) = true := (Classical.epsilon_spec (e_l1Below c n_ hpre)).2
theorem k_l1Below (c : TL1Cur) (n_ : Int) (hpre : (curOk c) = true) : curOk (b0_l1Below c n_) = true := (p_l1Below c n_ hpre).2
theorem m44 (c : TL1Cur) (n_ : Int) (hpre : (o44 c n_).1 = true) : evFn ⟨Go.Proofs.Try.prog, Hx, 44⟩ T74.call 0 f44 [[.sl false 1 c.b, .int .i64 c.i, .int .i64 c.h], [.int .i64 n_]] = some (o44 c n_).2 := (Classical.epsilon_spec (e_l1Below c n_ hpre)).1
theorem s44 : SoundAt Go.Proofs.Try.prog Hx 44 c44 := soundAt_of T74_sound mixed func44 (by kernel_rfl) (by
  intro rows r h
  unfold c44 at h
  split at h
  · rename_i c_b c_i c_h n_
    obtain ⟨hp, hr⟩ := Prod.mk.inj (Option.some.inj h)
    subst hr
    exact ⟨_, m44 ⟨c_b, c_i, c_h⟩ n_ hp⟩
  · cases h)
def T44 : Table := (44, c44) :: T74
theorem T44_sound : Table.Sound Go.Proofs.Try.prog Hx T44 := Table.sound_cons s44 T74_sound
end Go.Ev
namespace Go.Md
open Go Go.Ev
def P_l1Once (c : TL1Cur) (n_ : Int) (x : Bool × TL1Cur) : Prop := evFn ⟨Go.Proofs.Try.prog, Hx, 72⟩ T44.call 0 f72 [[.sl false 1 c.b, .int .i64 c.i, .int .i64 c.h], [.int .i64 n_]] = some ([[.bool x.1]], [[.sl false 1 x.2.b, .int .i64 x.2.i, .int .i64 x.2.h]]) ∧ (curOk x.2 = true)
noncomputable def w_l1Once (c : TL1Cur) (n_ : Int) : Bool × TL1Cur := @Classical.epsilon (Bool × TL1Cur) ⟨(false, ⟨[], 0, 0⟩)⟩ (P_l1Once c n_)
noncomputable def v0_l1Once (c : TL1Cur) (n_ : Int) : Bool := (w_l1Once c n_).1
noncomputable def b0_l1Once (c : TL1Cur) (n_ : Int) : TL1Cur := (w_l1Once c n_).2
end Go.Md
namespace Go.Ev
open Go.Md
def o72 (c : TL1Cur) (n_ : Int) : Bool × List Row × List Row := (curOk c, [[.bool (v0_l1Once c n_)]], [[.sl false 1 (b0_l1Once c n_).b, .int .i64 (b0_l1Once c n_).i, .int .i64 (b0_l1Once c n_).h]])
def c72 : Contract
  | [[.sl false 1 c_b, .int .i64 c_i, .int .i64 c_h], [.int .i64 n_]] => some ((o72 ⟨c_b, c_i, c_h⟩ n_).1, (o72 ⟨c_b, c_i, c_h⟩ n_).2.1, (o72 ⟨c_b, c_i, c_h⟩ n_).2.2)
  | _ => none

theorem r72 (c : TL1Cur) (n_ : Int) (n : Nat) : evFn ⟨prog, Hx, 72⟩ T44.call n f72 [[.sl false 1 c.b, .int .i64 c.i, .int .i64 c.h], [.int .i64 n_]] = bif curOk c then some ([[D.bool (v0_l1Below c n_ == 0)]], [[D.sl false 1 (TL1Cur.b (b0_l1Below c n_)), D.int i64 (TL1Cur.i (b0_l1Below c n_)), D.int i64 (TL1Cur.h (b0_l1Below c n_))]]) else none := by kernel_rfl
def G_l1Once (c : TL1Cur) (n_ : Int) (r : Option (List Row × List Row)) : Prop := ∃ x : Bool × TL1Cur, r = some ([[.bool x.1]], [[.sl false 1 x.2.b, .int .i64 x.2.i, .int .i64 x.2.h]]) ∧ (curOk x.2 = true)
theorem leaf_l1Once (c : TL1Cur) (n_ : Int) {z0 : Bool} {z1_b : List (List D)} {z1_i : Int} {z1_h : Int} (h : curOk (⟨z1_b, z1_i, z1_h⟩ : TL1Cur) = true) : G_l1Once c n_ (some ([[.bool z0]], [[.sl false 1 z1_b, .int .i64 z1_i, .int .i64 z1_h]])) := ⟨(z0, ⟨z1_b, z1_i, z1_h⟩), rfl, h⟩
theorem e_l1Once (c : TL1Cur) (n_ : Int) (hpre : (o72 c n_).1 = true) : ∃ x, P_l1Once c n_ x := by
  show G_l1Once c n_ _
  refine Eq.mpr (congrArg (G_l1Once c n_) (r72 c n_ _)) ?_
  replace hpre : (curOk c) = true := hpre
  refine g_pre hpre ?_
  refine leaf_l1Once _ _  ?_
  exact (p_l1Below c n_ hpre).2
theorem p_l1Once (c : TL1Cur) (n_ : Int) (hpre : (o72 c n_).1 = true) : curOk (b0_l1Once c n_) = true := (Classical.epsilon_spec (e_l1Once c n_ hpre)).2
theorem k_l1Once (c : TL1Cur) (n_ : Int) (hpre : (curOk c) = true) : curOk (b0_l1Once c n_) = true := (p_l1Once c n_ hpre)
theorem m72 (c : TL1Cur) (n_ : Int) (hpre : (o72 c n_).1 = true) : evFn ⟨Go.Proofs.Try.prog, Hx, 72⟩ T44.call 0 f72 [[.sl false 1 c.b, .int .i64 c.i, .int .i64 c.h], [.int .i64 n_]] = some (o72 c n_).2 := (Classical.epsilon_spec (e_l1Once c n_ hpre)).1
theorem s72 : SoundAt Go.Proofs.Try.prog Hx 72 c72 := soundAt_of T44_sound mixed func72 (by kernel_rfl) (by
  intro rows r h
  unfold c72 at h
  split at h
  · rename_i c_b c_i c_h n_
    obtain ⟨hp, hr⟩ := Prod.mk.inj (Option.some.inj h)
    subst hr
    exact ⟨_, m72 ⟨c_b, c_i, c_h⟩ n_ hp⟩
  · cases h)
def T72 : Table := (72, c72) :: T44
theorem T72_sound : Table.Sound Go.Proofs.Try.prog Hx T72 := Table.sound_cons s72 T44_sound
end Go.Ev
namespace Go.Md
open Go Go.Ev
def P_l1PickInt (c : TL1Cur) (list : List Int) (x : Int × TL1Cur) : Prop := evFn ⟨Go.Proofs.Try.prog, Hx, 60⟩ T72.call 0 f60 [[.sl false 1 c.b, .int .i64 c.i, .int .i64 c.h], [.sl true 1 (enS true list)]] = some ([[.int .i64 x.1]], [[.sl false 1 x.2.b, .int .i64 x.2.i, .int .i64 x.2.h]]) ∧ (x.1 ∈ list ∧ curOk x.2 = true)
noncomputable def w_l1PickInt (c : TL1Cur) (list : List Int) : Int × TL1Cur := @Classical.epsilon (Int × TL1Cur) ⟨(0, ⟨[], 0, 0⟩)⟩ (P_l1PickInt c list)
noncomputable def v0_l1PickInt (c : TL1Cur) (list : List Int) : Int := (w_l1PickInt c list).1
noncomputable def b0_l1PickInt (c : TL1Cur) (list : List Int) : TL1Cur := (w_l1PickInt c list).2
end Go.Md
namespace Go.Ev
open Go.Md
def o60 (c : TL1Cur) (list : List Int) : Bool × List Row × List Row := (curOk c && (decide (0 < list.length) && decide (list.length ≤ 1048576)), [[.int .i64 (v0_l1PickInt c list)]], [[.sl false 1 (b0_l1PickInt c list).b, .int .i64 (b0_l1PickInt c list).i, .int .i64 (b0_l1PickInt c list).h]])
def c60 : Contract
  | [[.sl false 1 c_b, .int .i64 c_i, .int .i64 c_h], [.sl true 1 list]] => some (isS Int true list && (o60 ⟨c_b, c_i, c_h⟩ (deS Int list)).1, (o60 ⟨c_b, c_i, c_h⟩ (deS Int list)).2.1, (o60 ⟨c_b, c_i, c_h⟩ (deS Int list)).2.2)
  | _ => none

theorem r60 (c : TL1Cur) (list : List Int) (n : Nat) : evFn ⟨prog, Hx, 60⟩ T72.call n f60 [[.sl false 1 c.b, .int .i64 c.i, .int .i64 c.h], [.sl true 1 (enS true list)]] = bif curOk c then bif decide (0 ≤ v0_l1Below c (ofNat (length (enS true list)))) && decide (v0_l1Below c (ofNat (length (enS true list))) < ofNat (length (enS true list))) then bif Leaf.fit true (Leaf.int i64) (getD (getD (enS true list) (0 + toNat (v0_l1Below c (ofNat (length (enS true list))))) []) 0 D.dead) && true then some ([[D.int i64 (D.num (getD (getD (enS true list) (0 + toNat (v0_l1Below c (ofNat (length (enS true list))))) []) 0 D.dead))]], [[D.sl false 1 (TL1Cur.b (b0_l1Below c (ofNat (length (enS true list))))), D.int i64 (TL1Cur.i (b0_l1Below c (ofNat (length (enS true list))))), D.int i64 (TL1Cur.h (b0_l1Below c (ofNat (length (enS true list)))))]]) else none else none else none := by kernel_rfl
def G_l1PickInt (c : TL1Cur) (list : List Int) (r : Option (List Row × List Row)) : Prop := ∃ x : Int × TL1Cur, r = some ([[.int .i64 x.1]], [[.sl false 1 x.2.b, .int .i64 x.2.i, .int .i64 x.2.h]]) ∧ (x.1 ∈ list ∧ curOk x.2 = true)
theorem leaf_l1PickInt (c : TL1Cur) (list : List Int) {z0 : Int} {z1_b : List (List D)} {z1_i : Int} {z1_h : Int} (h : (z0 : Int) ∈ list ∧ curOk (⟨z1_b, z1_i, z1_h⟩ : TL1Cur) = true) : G_l1PickInt c list (some ([[.int .i64 z0]], [[.sl false 1 z1_b, .int .i64 z1_i, .int .i64 z1_h]])) := ⟨(z0, ⟨z1_b, z1_i, z1_h⟩), rfl, h⟩
theorem e_l1PickInt (c : TL1Cur) (list : List Int) (hpre : (o60 c list).1 = true) : ∃ x, P_l1PickInt c list x := by
  show G_l1PickInt c list _
  refine Eq.mpr (congrArg (G_l1PickInt c list) (r60 c list _)) ?_
  replace hpre : (curOk c && (decide (0 < list.length) && decide (list.length ≤ 1048576))) = true := hpre
  rw [Bool.and_eq_true, Bool.and_eq_true, decide_eq_true_eq, decide_eq_true_eq] at hpre
  obtain ⟨h1, h2, h3⟩ := hpre
  refine g_pre h1 ?_
  have x := p_l1Below c (Int.ofNat (List.length (enS true list))) h1
  have x2 := x.1.2 (by rw [enS_length]; exact Int.ofNat_lt.2 h2)
  obtain ⟨k, hk⟩ := Int.eq_ofNat_of_zero_le x.1.1
  have hkl : k < list.length := by rw [hk, enS_length] at x2; exact Int.ofNat_lt.1 x2
  refine g_pre (by rw [decide_eq_true x.1.1, decide_eq_true x2]; rfl) ?_
  rw [hk, Int.toNat_natCast, Nat.zero_add, enS_get true hkl]
  refine g_pre rfl ?_
  refine leaf_l1PickInt _ _  ?_
  exact ⟨List.getElem_mem hkl, x.2⟩
theorem p_l1PickInt (c : TL1Cur) (list : List Int) (hpre : (o60 c list).1 = true) : (v0_l1PickInt c list) ∈ list ∧ curOk (b0_l1PickInt c list) = true := (Classical.epsilon_spec (e_l1PickInt c list hpre)).2
theorem k_l1PickInt (c : TL1Cur) (list : List Int) (hpre : (curOk c && (decide (0 < list.length) && decide (list.length ≤ 1048576))) = true) : curOk (b0_l1PickInt c list) = true := (p_l1PickInt c list hpre).2
theorem m60 (c : TL1Cur) (list : List Int) (hpre : (o60 c list).1 = true) : evFn ⟨Go.Proofs.Try.prog, Hx, 60⟩ T72.call 0 f60 [[.sl false 1 c.b, .int .i64 c.i, .int .i64 c.h], [.sl true 1 (enS true list)]] = some (o60 c list).2 := (Classical.epsilon_spec (e_l1PickInt c list hpre)).1
theorem s60 : SoundAt Go.Proofs.Try.prog Hx 60 c60 := soundAt_of T72_sound mixed func60 (by kernel_rfl) (by
  intro rows r h
  unfold c60 at h
  split at h
  · rename_i c_b c_i c_h list
    obtain ⟨hp, hr⟩ := Prod.mk.inj (Option.some.inj h)
    subst hr
    simp only [Bool.and_eq_true] at hp
    obtain ⟨hs0, hp⟩ := hp
    obtain ⟨xs0, rfl⟩ := isS_ex hs0
    simp only [deS_enS] at hp ⊢
    exact ⟨_, m60 ⟨c_b, c_i, c_h⟩ xs0 hp⟩
  · cases h)
def T60 : Table := (60, c60) :: T72
theorem T60_sound : Table.Sound Go.Proofs.Try.prog Hx T60 := Table.sound_cons s60 T72_sound
def o15 (code : List UInt8) : Bool × List Row × List Row := (true, [[.bool (decide ((code.length : Int) > 1048576))]], [])
def c15 : Contract
  | [[.sl false 1 code]] => some (isS UInt8 false code && (o15 (deS UInt8 code)).1, (o15 (deS UInt8 code)).2.1, (o15 (deS UInt8 code)).2.2)
  | _ => none

theorem r15 (code : List UInt8) (n : Nat) : evFn ⟨prog, Hx, 15⟩ T60.call n f15 [[.sl false 1 (enS false code)]] = some ([[D.bool (decide (ofNat (length (enS false code)) > 1048576))]], []) := by kernel_rfl
theorem m15 (code : List UInt8) (hpre : (o15 code).1 = true) : evFn ⟨Go.Proofs.Try.prog, Hx, 15⟩ T60.call 0 f15 [[.sl false 1 (enS false code)]] = some (o15 code).2 := by
  refine (r15 code _).trans ?_
  show _ = (some ([[.bool (decide ((code.length : Int) > 1048576))]], []) : Option (List Row × List Row))
  replace hpre : (true) = true := hpre
  rw [enS_length]
  rfl
theorem s15 : SoundAt Go.Proofs.Try.prog Hx 15 c15 := soundAt_of T60_sound mixed func15 (by kernel_rfl) (by
  intro rows r h
  unfold c15 at h
  split at h
  · rename_i code
    obtain ⟨hp, hr⟩ := Prod.mk.inj (Option.some.inj h)
    subst hr
    simp only [Bool.and_eq_true] at hp
    obtain ⟨hs0, hp⟩ := hp
    obtain ⟨xs0, rfl⟩ := isS_ex hs0
    simp only [deS_enS] at hp ⊢
    exact ⟨_, m15 xs0 hp⟩
  · cases h)
def T15 : Table := (15, c15) :: T60
theorem T15_sound : Table.Sound Go.Proofs.Try.prog Hx T15 := Table.sound_cons s15 T60_sound
end Go.Ev
end
