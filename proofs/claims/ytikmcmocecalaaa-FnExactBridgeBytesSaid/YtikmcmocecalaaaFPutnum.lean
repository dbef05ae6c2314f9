/- Contracts of functions, each by its evaluation. -/
import Derived.Test.YtikmcmocecalaaaEvMd
import Derived.Test.YtikmcmocecalaaaProg
import Derived.KernelRfl
import Derived.Test.YtikmcmocecalaaaFPort
set_option linter.unusedVariables false
set_option linter.unusedSimpArgs false
set_option maxRecDepth 100000
noncomputable section
namespace Go.Ev
open Go.RowKit Go.Md
end Go.Ev
namespace Go.Md
open Go Go.Ev
def putNumN (n : Nat) : List UInt8 := if n > 127 then u8 ((n % 128 + 128 : Nat) : Int) :: putNumN (n / 128) else [u8 (n : Int)]
termination_by n
decreasing_by omega
def putNum (n : Int) : List UInt8 := bif inR n 0 2147483647 then putNumN n.toNat else []
theorem putNumN_length : ∀ (k n : Nat), n < 128 ^ (k + 1) → (putNumN n).length ≤ k + 1
  | 0, n, h => by rw [putNumN, if_neg (by omega)]; simp
  | k + 1, n, h => by
    rw [putNumN]
    split
    · have := putNumN_length k (n / 128) (by rw [Nat.pow_succ] at h; exact Nat.div_lt_of_lt_mul (by rw [Nat.mul_comm]; exact h))
      simp only [List.length_cons]
      omega
    · simp
theorem putNum_length (n : Int) : (putNum n).length ≤ 5 := by
  unfold putNum
  cases hr : inR n 0 2147483647
  · simp
  · unfold inR at hr
    simp only [Bool.and_eq_true, decide_eq_true_eq] at hr
    exact putNumN_length 4 n.toNat (by have : n.toNat ≤ 2147483647 := by omega
                                       omega)
def putNums (xs : List Int) : List UInt8 := xs.flatMap putNum
theorem putNums_length : ∀ xs : List Int, (putNums xs).length ≤ 5 * xs.length
  | [] => Nat.le_refl 0
  | x :: xs => by
    have h1 := putNum_length x
    have h2 := putNums_length xs
    unfold putNums at h2 ⊢
    rw [List.flatMap_cons, List.length_append, List.length_cons]
    omega
end Go.Md
namespace Go.Ev
open Go.Md
/- PutNum -/
def o80 (n_ : Int) : Bool × List Row × List Row := (true, [[.sl true 1 (enS true (putNum n_))]], [])
def c80 : Contract
  | [[.int .i64 n_]] => some ((o80 n_).1, (o80 n_).2.1, (o80 n_).2.2)
  | _ => none

noncomputable def k80_0 (n : Nat) : Ex → St → Option (List Row × List Row) := kThen (fun st ↦ runCode (Ctx.mk Go.Proofs.Try.prog Hx (80)) (Table.call T38) n (codeAt [1, 1, 1, 1] (bodyOf Go.Proofs.Try.f80)) (Lv.mk 4 [] 4) st (kLeave (Ctx.P (Ctx.mk Go.Proofs.Try.prog Hx (80))) (List.zip (Array.toList (Go.Func.resultTypes Go.Proofs.Try.f80)) (Array.toList (Go.Func.results Go.Proofs.Try.f80))) [] [])) (kLeave (Ctx.P (Ctx.mk Go.Proofs.Try.prog Hx (80))) (List.zip (Array.toList (Go.Func.resultTypes Go.Proofs.Try.f80)) (Array.toList (Go.Func.results Go.Proofs.Try.f80))) [] [])
noncomputable def k80_1 (n : Nat) : Ex → St → Option (List Row × List Row) := kBlock (0) (k80_0 n)
noncomputable def S80_0 (i0 : Int) (es1 : List (List D)) : St := St.mk [TV.v false [C.d (D.int IntKind.i64 i0)], TV.v false [C.undef], TV.v false [C.undef], TV.v false [C.view 0 0 0 [] 1 none], TV.v false [C.undef], TV.v false [C.undef], TV.v false [C.undef], TV.v false [C.undef], TV.v false [C.undef], TV.v false [C.undef], TV.v false [C.undef], TV.v false [C.undef], TV.v false [C.undef], TV.v false [C.undef], TV.v false [C.undef], TV.v false [C.undef], TV.v false [C.undef], TV.v false [C.undef], TV.v false [C.undef], TV.v false [C.undef], TV.v false [C.undef], TV.v false [C.undef], TV.v false [C.undef]] [Root.mk false 1 es1 0 0 true true]
noncomputable def B80_0 (n : Nat) : St → (Ex → St → Option (List Row × List Row)) → Option (List Row × List Row) := runCode (Ctx.mk Go.Proofs.Try.prog Hx (80)) (Table.call T38) n (codeAt [1, 1, 1, 0, 0, 0] (bodyOf Go.Proofs.Try.f80)) (Lv.mk 0 [(0, 9)] 4)
noncomputable def X80_2 (i0 : Int) (es1 : List (List D)) : St := St.mk [TV.v false [C.d (D.int IntKind.i64 i0)], TV.v false [C.undef], TV.v false [C.undef], TV.v false [C.view 0 0 0 [] 1 none], TV.v false [C.undef], TV.v false [C.undef], TV.v false [C.undef], TV.v false [C.d (D.int IntKind.i64 i0)], TV.v false [C.d (D.bool false)], TV.v false [C.undef], TV.v false [C.undef], TV.v false [C.undef], TV.v false [C.undef], TV.v false [C.undef], TV.v false [C.undef], TV.v false [C.undef], TV.v false [C.undef], TV.v false [C.undef], TV.v false [C.undef], TV.v false [C.undef], TV.v false [C.undef], TV.v false [C.undef], TV.v false [C.undef]] [Root.mk false 1 es1 0 0 true true]
theorem q80_0 (n : Nat) (i0 : Int) (es1 : List (List D)) (f : St → Option (List Row × List Row)) (K : Ex → St → Option (List Row × List Row)) : B80_0 n (S80_0 i0 es1) (@kThen (List Row × List Row) (fun st ↦ f (St.head 0 9 262025 st)) K) = bif decide (i0 > 127) then bif decide ((List.length es1 + 1) * 1 ≤ 140737488355328) then f (S80_0 (IntKind.wrap IntKind.i64 (Int.tdiv i0 (128))) (List.append es1 [[D.int IntKind.u8 (IntKind.wrap IntKind.u8 (IntKind.wrap IntKind.i64 (128 + Int.tmod i0 (128))))]])) else none else K (Ex.exit 0) (X80_2 i0 es1) := by kernel_rfl
theorem aX80_2 (n : Nat) (i0 : Int) (es1 : List (List D)) : k80_1 n (Ex.exit 0) (X80_2 i0 es1) = bif decide ((List.length es1 + 1) * 1 ≤ 140737488355328) then some ([[D.sl true 1 (List.append es1 [[D.int IntKind.u8 (IntKind.wrap IntKind.u8 i0)]])]], []) else none := by kernel_rfl
theorem r80 (n_ : Int) (n : Nat) : evFn ⟨Go.Proofs.Try.prog, Hx, 80⟩ T38.call n Go.Proofs.Try.f80 [[.int .i64 n_]] = bif !inR n_ (0) (2147483647) then some ([[D.sl true 1 []]], []) else loopRun (B80_0 n) 0 9 262025 n (S80_0 n_ []) (k80_1 n) := by kernel_rfl
theorem m80 (n_ : Int) (hpre : (o80 n_).1 = true) : evFn ⟨Go.Proofs.Try.prog, Hx, 80⟩ T38.call (n_.toNat + 1) Go.Proofs.Try.f80 [[.int .i64 n_]] = some (o80 n_).2 := by
  refine (r80 n_ _).trans ?_
  show _ = (some ([[.sl true 1 (enS true (putNum n_))]], []) : Option (List Row × List Row))
  replace hpre : (true) = true := hpre
  cases hr : inR n_ 0 2147483647
  · unfold putNum
    rw [hr]
    rfl
  have hr' := hr
  unfold inR at hr'
  simp only [Bool.and_eq_true, decide_eq_true_eq] at hr'
  obtain ⟨m, rfl⟩ : ∃ m : Nat, n_ = Int.ofNat m := ⟨n_.toNat, by show _ = ((n_.toNat : Nat) : Int); omega⟩
  have hm : m ≤ 2147483647 := by have : ((m : Nat) : Int) ≤ 2147483647 := hr'.2; omega
  simp only [Bool.not_true, cond_false]
  have hg : putNum (Int.ofNat m) = putNumN m := by unfold putNum; rw [hr]; rfl
  rw [hg]
  refine loop_rule (V := Nat × List UInt8) (fun v => S80_0 (Int.ofNat v.1) (enS true v.2)) (fun v => v.2.length + v.1 ≤ 2147483647) (fun v => v.1) (fun v => some ([[D.sl true 1 (enS true (v.2 ++ putNumN v.1))]], [])) ?_ ((Int.ofNat m).toNat + 1) (m, []) (by simpa using hm) (Nat.lt_succ_self m)
  rintro ⟨k, ys⟩ hp f hf
  simp only at hp
  refine (q80_0 _ _ _ f _).trans ?_
  have h47 : decide ((ys.length + 1) * 1 ≤ 140737488355328) = true := decide_eq_true (by omega)
  have hu : putNumN k = if k > 127 then u8 ((k % 128 + 128 : Nat) : Int) :: putNumN (k / 128) else [u8 (k : Int)] := by rw [putNumN]
  by_cases h : k > 127
  · have h1 : decide (Int.ofNat k > 127) = true := decide_eq_true (by show ((k : Nat) : Int) > 127; omega)
    have h2 : (Int.ofNat k).tdiv 128 = Int.ofNat (k / 128) := rfl
    have h3 : 128 + (Int.ofNat k).tmod 128 = Int.ofNat (k % 128 + 128) := by show _ = (((k % 128 + 128 : Nat)) : Int); have : (Int.ofNat k).tmod 128 = ((k % 128 : Nat) : Int) := rfl; rw [this]; omega
    simp only [h1, h2, h3, enS_length, h47, cond_true, wrap_nat (show k / 128 ≤ 4611686018427387904 by omega), wrap_nat (show k % 128 + 128 ≤ 4611686018427387904 by omega), enS_u8_snoc]
    refine (hf (k / 128, ys ++ [u8 (Int.ofNat (k % 128 + 128))]) (by simp; omega) (by simp only; omega)).trans ?_
    simp only [hu, h, if_true, List.append_assoc, List.singleton_append]
    rfl
  · have h1 : decide (Int.ofNat k > 127) = false := decide_eq_false (by show ¬ ((k : Nat) : Int) > 127; omega)
    simp only [h1, cond_false]
    refine (aX80_2 _ _ _).trans ?_
    simp only [enS_length, h47, cond_true, enS_u8_snoc, hu, h, if_false]
    rfl
theorem s80 : SoundAt Go.Proofs.Try.prog Hx 80 c80 := soundAt_of T38_sound mixed Go.Proofs.Try.func80 (by kernel_rfl) (by
  intro rows r h
  unfold c80 at h
  split at h
  · rename_i n_
    obtain ⟨hp, hr⟩ := Prod.mk.inj (Option.some.inj h)
    subst hr
    exact ⟨_, m80 n_ hp⟩
  · cases h)
def T80 : Table := (80, c80) :: T38
theorem T80_sound : Table.Sound Go.Proofs.Try.prog Hx T80 := Table.sound_cons s80 T38_sound
/- PutNumS -/
def o75 (n_ : Int) : Bool × List Row × List Row := (true, [[.sl true 1 (enS true (putNum n_))]], [])
def c75 : Contract
  | [[.int .i64 n_]] => some ((o75 n_).1, (o75 n_).2.1, (o75 n_).2.2)
  | _ => none

noncomputable def k75_0 (n : Nat) : Ex → St → Option (List Row × List Row) := kThen (fun st ↦ runCode (Ctx.mk Go.Proofs.Try.prog Hx (75)) (Table.call T80) n (codeAt [1, 1, 1, 1] (bodyOf Go.Proofs.Try.f75)) (Lv.mk 4 [] 4) st (kLeave (Ctx.P (Ctx.mk Go.Proofs.Try.prog Hx (75))) (List.zip (Array.toList (Go.Func.resultTypes Go.Proofs.Try.f75)) (Array.toList (Go.Func.results Go.Proofs.Try.f75))) [] [])) (kLeave (Ctx.P (Ctx.mk Go.Proofs.Try.prog Hx (75))) (List.zip (Array.toList (Go.Func.resultTypes Go.Proofs.Try.f75)) (Array.toList (Go.Func.results Go.Proofs.Try.f75))) [] [])
noncomputable def k75_1 (n : Nat) : Ex → St → Option (List Row × List Row) := kBlock (0) (k75_0 n)
noncomputable def S75_0 (i0 : Int) (es1 : List (List D)) : St := St.mk [TV.v false [C.d (D.int IntKind.i64 i0)], TV.v false [C.undef], TV.v false [C.undef], TV.v false [C.view 1 0 0 [] 1 none], TV.v false [C.undef], TV.v false [C.undef], TV.v false [C.undef], TV.v false [C.undef], TV.v false [C.undef], TV.v false [C.undef], TV.v false [C.undef], TV.v false [C.undef], TV.v false [C.undef], TV.v false [C.undef], TV.v false [C.undef], TV.v false [C.undef], TV.v false [C.undef], TV.v false [C.undef], TV.v false [C.undef], TV.v false [C.undef], TV.v false [C.undef], TV.v false [C.undef], TV.v false [C.undef], TV.v false [C.undef], TV.v false [C.undef]] [Root.mk false 1 [] 0 0 false true, Root.mk false 1 es1 0 0 true true]
noncomputable def B75_0 (n : Nat) : St → (Ex → St → Option (List Row × List Row)) → Option (List Row × List Row) := runCode (Ctx.mk Go.Proofs.Try.prog Hx (75)) (Table.call T80) n (codeAt [1, 1, 1, 0, 0, 0] (bodyOf Go.Proofs.Try.f75)) (Lv.mk 0 [(0, 9)] 4)
noncomputable def X75_2 (i0 : Int) (es1 : List (List D)) : St := St.mk [TV.v false [C.d (D.int IntKind.i64 i0)], TV.v false [C.undef], TV.v false [C.undef], TV.v false [C.view 1 0 0 [] 1 none], TV.v false [C.undef], TV.v false [C.undef], TV.v false [C.undef], TV.v false [C.undef], TV.v false [C.undef], TV.v false [C.d (D.int IntKind.i64 i0)], TV.v false [C.d (D.bool false)], TV.v false [C.undef], TV.v false [C.undef], TV.v false [C.undef], TV.v false [C.undef], TV.v false [C.undef], TV.v false [C.undef], TV.v false [C.undef], TV.v false [C.undef], TV.v false [C.undef], TV.v false [C.undef], TV.v false [C.undef], TV.v false [C.undef], TV.v false [C.undef], TV.v false [C.undef]] [Root.mk false 1 [] 0 0 false true, Root.mk false 1 es1 0 0 true true]
theorem q75_0 (n : Nat) (i0 : Int) (es1 : List (List D)) (f : St → Option (List Row × List Row)) (K : Ex → St → Option (List Row × List Row)) : B75_0 n (S75_0 i0 es1) (@kThen (List Row × List Row) (fun st ↦ f (St.head 1 9 1048073 st)) K) = bif decide (i0 > 127) then bif decide ((List.length es1 + 1) * 1 ≤ 140737488355328) then f (S75_0 (IntKind.wrap IntKind.i64 (Int.tdiv i0 (128))) (List.append es1 [[D.int IntKind.u8 (IntKind.wrap IntKind.u8 (IntKind.wrap IntKind.i64 (Int.tmod i0 (128) + 128)))]])) else none else K (Ex.exit 0) (X75_2 i0 es1) := by kernel_rfl
theorem aX75_2 (n : Nat) (i0 : Int) (es1 : List (List D)) : k75_1 n (Ex.exit 0) (X75_2 i0 es1) = bif decide ((List.length es1 + 1) * 1 ≤ 140737488355328) then some ([[D.sl true 1 (List.append es1 [[D.int IntKind.u8 (IntKind.wrap IntKind.u8 i0)]])]], []) else none := by kernel_rfl
theorem r75 (n_ : Int) (n : Nat) : evFn ⟨Go.Proofs.Try.prog, Hx, 75⟩ T80.call n Go.Proofs.Try.f75 [[.int .i64 n_]] = bif !inR n_ (0) (2147483647) then some ([[D.sl true 1 []]], []) else loopRun (B75_0 n) 1 9 1048073 n (S75_0 n_ []) (k75_1 n) := by kernel_rfl
theorem m75 (n_ : Int) (hpre : (o75 n_).1 = true) : evFn ⟨Go.Proofs.Try.prog, Hx, 75⟩ T80.call (n_.toNat + 1) Go.Proofs.Try.f75 [[.int .i64 n_]] = some (o75 n_).2 := by
  refine (r75 n_ _).trans ?_
  show _ = (some ([[.sl true 1 (enS true (putNum n_))]], []) : Option (List Row × List Row))
  replace hpre : (true) = true := hpre
  cases hr : inR n_ 0 2147483647
  · unfold putNum
    rw [hr]
    rfl
  have hr' := hr
  unfold inR at hr'
  simp only [Bool.and_eq_true, decide_eq_true_eq] at hr'
  obtain ⟨m, rfl⟩ : ∃ m : Nat, n_ = Int.ofNat m := ⟨n_.toNat, by show _ = ((n_.toNat : Nat) : Int); omega⟩
  have hm : m ≤ 2147483647 := by have : ((m : Nat) : Int) ≤ 2147483647 := hr'.2; omega
  simp only [Bool.not_true, cond_false]
  have hg : putNum (Int.ofNat m) = putNumN m := by unfold putNum; rw [hr]; rfl
  rw [hg]
  refine loop_rule (V := Nat × List UInt8) (fun v => S75_0 (Int.ofNat v.1) (enS true v.2)) (fun v => v.2.length + v.1 ≤ 2147483647) (fun v => v.1) (fun v => some ([[D.sl true 1 (enS true (v.2 ++ putNumN v.1))]], [])) ?_ ((Int.ofNat m).toNat + 1) (m, []) (by simpa using hm) (Nat.lt_succ_self m)
  rintro ⟨k, ys⟩ hp f hf
  simp only at hp
  refine (q75_0 _ _ _ f _).trans ?_
  have h47 : decide ((ys.length + 1) * 1 ≤ 140737488355328) = true := decide_eq_true (by omega)
  have hu : putNumN k = if k > 127 then u8 ((k % 128 + 128 : Nat) : Int) :: putNumN (k / 128) else [u8 (k : Int)] := by rw [putNumN]
  by_cases h : k > 127
  · have h1 : decide (Int.ofNat k > 127) = true := decide_eq_true (by show ((k : Nat) : Int) > 127; omega)
    have h2 : (Int.ofNat k).tdiv 128 = Int.ofNat (k / 128) := rfl
    have h3 : (Int.ofNat k).tmod 128 + 128 = Int.ofNat (k % 128 + 128) := by show _ = (((k % 128 + 128 : Nat)) : Int); have : (Int.ofNat k).tmod 128 = ((k % 128 : Nat) : Int) := rfl; rw [this]; omega
    simp only [h1, h2, h3, enS_length, h47, cond_true, wrap_nat (show k / 128 ≤ 4611686018427387904 by omega), wrap_nat (show k % 128 + 128 ≤ 4611686018427387904 by omega), enS_u8_snoc]
    refine (hf (k / 128, ys ++ [u8 (Int.ofNat (k % 128 + 128))]) (by simp; omega) (by simp only; omega)).trans ?_
    simp only [hu, h, if_true, List.append_assoc, List.singleton_append]
    rfl
  · have h1 : decide (Int.ofNat k > 127) = false := decide_eq_false (by show ¬ ((k : Nat) : Int) > 127; omega)
    simp only [h1, cond_false]
    refine (aX75_2 _ _ _).trans ?_
    simp only [enS_length, h47, cond_true, enS_u8_snoc, hu, h, if_false]
    rfl
theorem s75 : SoundAt Go.Proofs.Try.prog Hx 75 c75 := soundAt_of T80_sound mixed Go.Proofs.Try.func75 (by kernel_rfl) (by
  intro rows r h
  unfold c75 at h
  split at h
  · rename_i n_
    obtain ⟨hp, hr⟩ := Prod.mk.inj (Option.some.inj h)
    subst hr
    exact ⟨_, m75 n_ hp⟩
  · cases h)
def T75 : Table := (75, c75) :: T80
theorem T75_sound : Table.Sound Go.Proofs.Try.prog Hx T75 := Table.sound_cons s75 T80_sound
/- putNums -/
def o44 (b : List UInt8) (list : List Int) : Bool × List Row × List Row := (decide (b.length ≤ 1000000) && decide (list.length ≤ 1000), [[.sl true 1 (enS true (b ++ putNums list))]], [])
def c44 : Contract
  | [[.sl true 1 b], [.sl false 1 list]] => some (isS UInt8 true b && isS Int false list && (o44 (deS UInt8 b) (deS Int list)).1, (o44 (deS UInt8 b) (deS Int list)).2.1, (o44 (deS UInt8 b) (deS Int list)).2.2)
  | _ => none

noncomputable def k44_0 (n : Nat) : Ex → St → Option (List Row × List Row) := kThen (fun st ↦ runCode (Ctx.mk Go.Proofs.Try.prog Hx (44)) (Table.call T75) n (codeAt [1, 1] (bodyOf Go.Proofs.Try.f44)) (Lv.mk 16 [] 16) st (kLeave (Ctx.P (Ctx.mk Go.Proofs.Try.prog Hx (44))) (List.zip (Array.toList (Go.Func.resultTypes Go.Proofs.Try.f44)) (Array.toList (Go.Func.results Go.Proofs.Try.f44))) [] [])) (kLeave (Ctx.P (Ctx.mk Go.Proofs.Try.prog Hx (44))) (List.zip (Array.toList (Go.Func.resultTypes Go.Proofs.Try.f44)) (Array.toList (Go.Func.results Go.Proofs.Try.f44))) [] [])
noncomputable def k44_1 (n : Nat) : Ex → St → Option (List Row × List Row) := kBlock (0) (k44_0 n)
noncomputable def S44_0 (b : List UInt8) (list : List Int) (i0 : Int) (es1 : List (List D)) : St := St.mk [TV.v false [C.view 1 0 0 [] 1 none], TV.v false [C.undef], TV.v false [C.undef], TV.v false [C.undef], TV.v false [C.undef], TV.v false [C.undef], TV.v false [C.undef], TV.v false [C.d (D.sl false 1 (enS false list))], TV.v false [C.d (D.int IntKind.i64 (Int.ofNat (List.length (enS false list))))], TV.v false [C.d (D.int IntKind.i64 i0)], TV.v false [C.undef], TV.v false [C.undef], TV.v false [C.undef], TV.v false [C.undef], TV.v false [C.undef], TV.v false [C.undef], TV.v false [C.undef], TV.v false [C.undef], TV.v false [C.undef]] [Root.mk false 1 (enS true b) 0 0 false true, Root.mk false 1 es1 0 0 true true]
noncomputable def B44_0 (n : Nat) : St → (Ex → St → Option (List Row × List Row)) → Option (List Row × List Row) := runCode (Ctx.mk Go.Proofs.Try.prog Hx (44)) (Table.call T75) n (codeAt [1, 0, 1, 0, 0] (bodyOf Go.Proofs.Try.f44)) (Lv.mk 0 [(0, 1)] 16)
noncomputable def X44_2 (b : List UInt8) (list : List Int) (i0 : Int) (es1 : List (List D)) : St := St.mk [TV.v false [C.view 1 0 0 [] 1 none], TV.v false [C.undef], TV.v false [C.undef], TV.v false [C.undef], TV.v false [C.undef], TV.v false [C.undef], TV.v false [C.undef], TV.v false [C.d (D.sl false 1 (enS false list))], TV.v false [C.d (D.int IntKind.i64 (Int.ofNat (List.length (enS false list))))], TV.v false [C.d (D.int IntKind.i64 i0)], TV.v false [C.d (D.bool false)], TV.v false [C.undef], TV.v false [C.undef], TV.v false [C.undef], TV.v false [C.undef], TV.v false [C.undef], TV.v false [C.undef], TV.v false [C.undef], TV.v false [C.undef]] [Root.mk false 1 (enS true b) 0 0 false true, Root.mk false 1 es1 0 0 true true]
theorem q44_0 (b : List UInt8) (list : List Int) (n : Nat) (i0 : Int) (es1 : List (List D)) (f : St → Option (List Row × List Row)) (K : Ex → St → Option (List Row × List Row)) : B44_0 n (S44_0 b list i0 es1) (@kThen (List Row × List Row) (fun st ↦ f (St.head 1 897 261697 st)) K) = bif decide (i0 < Int.ofNat (List.length (enS false list))) then bif decide (0 ≤ i0) && decide (i0 < Int.ofNat (List.length (enS false list))) then bif Leaf.fit false (Leaf.int IntKind.i64) (List.getD (List.getD (enS false list) (Int.toNat i0) []) 0 D.dead) && true then bif (List.all (enS true (putNum (D.num (List.getD (List.getD (enS false list) (Int.toNat i0) []) 0 D.dead)))) fun r ↦ List.all r D.noSl) && true && decide ((List.length es1 + List.length (enS true (putNum (D.num (List.getD (List.getD (enS false list) (Int.toNat i0) []) 0 D.dead))))) * 1 ≤ 140737488355328) then f (S44_0 b list (IntKind.wrap IntKind.i64 (i0 + 1)) (List.append es1 (enS true (putNum (D.num (List.getD (List.getD (enS false list) (Int.toNat i0) []) 0 D.dead)))))) else none else none else none else K (Ex.exit 0) (X44_2 b list i0 es1) := by kernel_rfl
theorem aX44_2 (b : List UInt8) (list : List Int) (n : Nat) (i0 : Int) (es1 : List (List D)) : k44_1 n (Ex.exit 0) (X44_2 b list i0 es1) = some ([[D.sl true 1 es1]], []) := by kernel_rfl
theorem r44 (b : List UInt8) (list : List Int) (n : Nat) : evFn ⟨Go.Proofs.Try.prog, Hx, 44⟩ T75.call n Go.Proofs.Try.f44 [[.sl true 1 (enS true b)], [.sl false 1 (enS false list)]] = loopRun (B44_0 n) 1 897 261697 n (S44_0 b list (0) (enS true b)) (k44_1 n) := by kernel_rfl
theorem m44 (b : List UInt8) (list : List Int) (hpre : (o44 b list).1 = true) : evFn ⟨Go.Proofs.Try.prog, Hx, 44⟩ T75.call (list.length + 1) Go.Proofs.Try.f44 [[.sl true 1 (enS true b)], [.sl false 1 (enS false list)]] = some (o44 b list).2 := by
  refine (r44 b list _).trans ?_
  show _ = (some ([[.sl true 1 (enS true (b ++ putNums list))]], []) : Option (List Row × List Row))
  replace hpre : (decide (b.length ≤ 1000000) && decide (list.length ≤ 1000)) = true := hpre
  simp only [Bool.and_eq_true, decide_eq_true_eq] at hpre
  refine loop_list (xs := list) (fun i (ys : List UInt8) => S44_0 b list (Int.ofNat i) (enS true ys)) (fun i ys => ys.length ≤ 1000000 + 5 * i) (fun _ ys rest => some ([[D.sl true 1 (enS true (ys ++ putNums rest))]], [])) ?_ ?_ (list.length + 1) b (by omega) (by simpa using hpre.1)
  · rintro ys _ f
    refine (q44_0 b list _ _ _ f _).trans ?_
    simp only [enS_length, dec_lt, Nat.lt_irrefl, decide_false, cond_false]
    refine (aX44_2 b list _ _ _).trans ?_
    simp only [putNums, List.flatMap_nil, List.append_nil]
  · rintro i ys hi hl f hf
    refine (q44_0 b list _ _ _ f _).trans ?_
    have hn := putNum_length list[i]
    have h47 : decide ((ys.length + (putNum list[i]).length) * 1 ≤ 140737488355328) = true := decide_eq_true (by omega)
    simp only [enS_length, toNat_of, dec_lt, dec_ge, enS_get _ hi, hi, wrap_succ (show i < 4611686018427387904 by omega), decide_true, cond_true, Bool.and_self, noSl_u8, Bool.and_true, Bool.true_and, En.enc, List.getD_cons_zero, D.num, Leaf.fit, h47, List.append_eq, ← enS_append]
    refine (hf (ys ++ putNum list[i]) (by rw [List.length_append]; omega)).trans ?_
    simp only [putNums, List.flatMap_cons, List.append_assoc]
theorem s44 : SoundAt Go.Proofs.Try.prog Hx 44 c44 := soundAt_of T75_sound mixed Go.Proofs.Try.func44 (by kernel_rfl) (by
  intro rows r h
  unfold c44 at h
  split at h
  · rename_i b list
    obtain ⟨hp, hr⟩ := Prod.mk.inj (Option.some.inj h)
    subst hr
    simp only [Bool.and_eq_true] at hp
    obtain ⟨⟨hs0, hs1⟩, hp⟩ := hp
    obtain ⟨xs0, rfl⟩ := isS_ex hs0
    obtain ⟨xs1, rfl⟩ := isS_ex hs1
    simp only [deS_enS] at hp ⊢
    exact ⟨_, m44 xs0 xs1 hp⟩
  · cases h)
def T44 : Table := (44, c44) :: T75
theorem T44_sound : Table.Sound Go.Proofs.Try.prog Hx T44 := Table.sound_cons s44 T75_sound
/- l9Nums -/
def o40 (list : List Int) : Bool × List Row × List Row := (decide (list.length ≤ 1000), [[.sl true 1 (enS true (putNums list))]], [])
def c40 : Contract
  | [[.sl false 1 list]] => some (isS Int false list && (o40 (deS Int list)).1, (o40 (deS Int list)).2.1, (o40 (deS Int list)).2.2)
  | _ => none

noncomputable def k40_0 (n : Nat) : Ex → St → Option (List Row × List Row) := kThen (fun st ↦ runCode (Ctx.mk Go.Proofs.Try.prog Hx (40)) (Table.call T44) n (codeAt [1, 1, 1] (bodyOf Go.Proofs.Try.f40)) (Lv.mk 4 [] 4) st (kLeave (Ctx.P (Ctx.mk Go.Proofs.Try.prog Hx (40))) (List.zip (Array.toList (Go.Func.resultTypes Go.Proofs.Try.f40)) (Array.toList (Go.Func.results Go.Proofs.Try.f40))) [] [])) (kLeave (Ctx.P (Ctx.mk Go.Proofs.Try.prog Hx (40))) (List.zip (Array.toList (Go.Func.resultTypes Go.Proofs.Try.f40)) (Array.toList (Go.Func.results Go.Proofs.Try.f40))) [] [])
noncomputable def k40_1 (n : Nat) : Ex → St → Option (List Row × List Row) := kBlock (0) (k40_0 n)
noncomputable def S40_0 (list : List Int) (i0 : Int) (es1 : List (List D)) : St := St.mk [TV.v false [C.d (D.sl false 1 (enS false list))], TV.v false [C.undef], TV.v false [C.undef], TV.v false [C.view 1 0 0 [] 1 none], TV.v false [C.d (D.int IntKind.i64 i0)], TV.v false [C.undef], TV.v false [C.undef], TV.v false [C.undef], TV.v false [C.undef], TV.v false [C.undef], TV.v false [C.undef], TV.v false [C.undef], TV.v false [C.undef], TV.v false [C.undef], TV.v false [C.undef], TV.v false [C.undef], TV.v false [C.undef], TV.v false [C.undef], TV.v false [C.undef], TV.v false [C.undef]] [Root.mk false 1 [] 0 0 false true, Root.mk false 1 es1 0 0 true true]
noncomputable def B40_0 (n : Nat) : St → (Ex → St → Option (List Row × List Row)) → Option (List Row × List Row) := runCode (Ctx.mk Go.Proofs.Try.prog Hx (40)) (Table.call T44) n (codeAt [1, 1, 0, 1, 0, 0] (bodyOf Go.Proofs.Try.f40)) (Lv.mk 0 [(0, 8)] 4)
noncomputable def X40_2 (list : List Int) (i0 : Int) (es1 : List (List D)) : St := St.mk [TV.v false [C.d (D.sl false 1 (enS false list))], TV.v false [C.undef], TV.v false [C.undef], TV.v false [C.view 1 0 0 [] 1 none], TV.v false [C.d (D.int IntKind.i64 i0)], TV.v false [C.undef], TV.v false [C.d (D.int IntKind.i64 i0)], TV.v false [C.d (D.sl false 1 (enS false list))], TV.v false [C.d (D.int IntKind.i64 (Int.ofNat (List.length (enS false list))))], TV.v false [C.d (D.bool false)], TV.v false [C.undef], TV.v false [C.undef], TV.v false [C.undef], TV.v false [C.undef], TV.v false [C.undef], TV.v false [C.undef], TV.v false [C.undef], TV.v false [C.undef], TV.v false [C.undef], TV.v false [C.undef]] [Root.mk false 1 [] 0 0 false true, Root.mk false 1 es1 0 0 true true]
theorem q40_0 (list : List Int) (n : Nat) (i0 : Int) (es1 : List (List D)) (f : St → Option (List Row × List Row)) (K : Ex → St → Option (List Row × List Row)) : B40_0 n (S40_0 list i0 es1) (@kThen (List Row × List Row) (fun st ↦ f (St.head 1 25 524248 st)) K) = bif decide (i0 < Int.ofNat (List.length (enS false list))) then bif decide (0 ≤ i0) && decide (i0 < Int.ofNat (List.length (enS false list))) then bif Leaf.fit false (Leaf.int IntKind.i64) (List.getD (List.getD (enS false list) (Int.toNat i0) []) 0 D.dead) && true then bif (List.all (enS true (putNum (D.num (List.getD (List.getD (enS false list) (Int.toNat i0) []) 0 D.dead)))) fun r ↦ List.all r D.noSl) && true && decide ((List.length es1 + List.length (enS true (putNum (D.num (List.getD (List.getD (enS false list) (Int.toNat i0) []) 0 D.dead))))) * 1 ≤ 140737488355328) then f (S40_0 list (IntKind.wrap IntKind.i64 (i0 + 1)) (List.append es1 (enS true (putNum (D.num (List.getD (List.getD (enS false list) (Int.toNat i0) []) 0 D.dead)))))) else none else none else none else K (Ex.exit 0) (X40_2 list i0 es1) := by kernel_rfl
theorem aX40_2 (list : List Int) (n : Nat) (i0 : Int) (es1 : List (List D)) : k40_1 n (Ex.exit 0) (X40_2 list i0 es1) = some ([[D.sl true 1 es1]], []) := by kernel_rfl
theorem r40 (list : List Int) (n : Nat) : evFn ⟨Go.Proofs.Try.prog, Hx, 40⟩ T44.call n Go.Proofs.Try.f40 [[.sl false 1 (enS false list)]] = loopRun (B40_0 n) 1 25 524248 n (S40_0 list (0) []) (k40_1 n) := by kernel_rfl
theorem m40 (list : List Int) (hpre : (o40 list).1 = true) : evFn ⟨Go.Proofs.Try.prog, Hx, 40⟩ T44.call (list.length + 1) Go.Proofs.Try.f40 [[.sl false 1 (enS false list)]] = some (o40 list).2 := by
  refine (r40 list _).trans ?_
  show _ = (some ([[.sl true 1 (enS true (putNums list))]], []) : Option (List Row × List Row))
  replace hpre : (decide (list.length ≤ 1000)) = true := hpre
  simp only [decide_eq_true_eq] at hpre
  refine loop_list (xs := list) (fun i (ys : List UInt8) => S40_0 list (Int.ofNat i) (enS true ys)) (fun i ys => ys.length ≤ 5 * i) (fun _ ys rest => some ([[D.sl true 1 (enS true (ys ++ putNums rest))]], [])) ?_ ?_ (list.length + 1) [] (by omega) (Nat.le_refl 0)
  · rintro ys _ f
    refine (q40_0 list _ _ _ f _).trans ?_
    simp only [enS_length, dec_lt, Nat.lt_irrefl, decide_false, cond_false]
    refine (aX40_2 list _ _ _).trans ?_
    simp only [putNums, List.flatMap_nil, List.append_nil]
  · rintro i ys hi hl f hf
    refine (q40_0 list _ _ _ f _).trans ?_
    have hn := putNum_length list[i]
    have h47 : decide ((ys.length + (putNum list[i]).length) * 1 ≤ 140737488355328) = true := decide_eq_true (by omega)
    simp only [enS_length, toNat_of, dec_lt, dec_ge, enS_get _ hi, hi, wrap_succ (show i < 4611686018427387904 by omega), decide_true, cond_true, Bool.and_self, noSl_u8, Bool.and_true, Bool.true_and, En.enc, List.getD_cons_zero, D.num, Leaf.fit, h47, List.append_eq, ← enS_append]
    refine (hf (ys ++ putNum list[i]) (by rw [List.length_append]; omega)).trans ?_
    simp only [putNums, List.flatMap_cons, List.append_assoc]
theorem s40 : SoundAt Go.Proofs.Try.prog Hx 40 c40 := soundAt_of T44_sound mixed Go.Proofs.Try.func40 (by kernel_rfl) (by
  intro rows r h
  unfold c40 at h
  split at h
  · rename_i list
    obtain ⟨hp, hr⟩ := Prod.mk.inj (Option.some.inj h)
    subst hr
    simp only [Bool.and_eq_true] at hp
    obtain ⟨hs0, hp⟩ := hp
    obtain ⟨xs0, rfl⟩ := isS_ex hs0
    simp only [deS_enS] at hp ⊢
    exact ⟨_, m40 xs0 hp⟩
  · cases h)
def T40 : Table := (40, c40) :: T44
theorem T40_sound : Table.Sound Go.Proofs.Try.prog Hx T40 := Table.sound_cons s40 T44_sound
end Go.Ev
end
