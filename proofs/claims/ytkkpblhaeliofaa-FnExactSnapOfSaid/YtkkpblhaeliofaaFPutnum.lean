/- Contracts of functions, each by its evaluation. -/
import Derived.Test.YtkkpblhaeliofaaEvMd
import Derived.Test.YtkkpblhaeliofaaProg
import Derived.KernelRfl
import Derived.Test.YtkkpblhaeliofaaFMin
set_option linter.unusedVariables false
set_option linter.unusedSimpArgs false
set_option maxRecDepth 100000
noncomputable section
open List (getD length drop take set append replicate all isEmpty)
open Int (toNat ofNat)
open Go.IntKind (i64 wrap)
open Go.Proofs.Try (prog f48 f63 f78 f91 func48 func63 func78 func91)
namespace Go.Ev
open Go.RowKit Go.Md
end Go.Ev
namespace Go.Md
open Go Go.Ev
def putNumN (n : Nat) : List UInt8 := if n > 127 then u8 ((n % 128 + 128 : Nat) : Int) :: putNumN (n / 128) else [u8 (n : Int)]
termination_by n
decreasing_by omega
def putNum (n : Int) : List UInt8 := bif inR n 0 2147483647 then putNumN n.toNat else []
theorem putNumN_length : ∀ (k n : Nat), n < 128 ^ (k + 1) → (putNumN n).length ≤ k + 1
  | 0, n, h => by rw [putNumN, if_neg (by omega)]; simp
  | k + 1, n, h => by
    rw [putNumN]
    split
    · have := putNumN_length k (n / 128) (by rw [Nat.pow_succ] at h; exact Nat.div_lt_of_lt_mul (by rw [Nat.mul_comm]; exact h))
      simp only [List.length_cons]
      omega
    · simp
theorem putNum_length (n : Int) : (putNum n).length ≤ 5 := by
  unfold putNum
  cases hr : inR n 0 2147483647
  · simp
  · unfold inR at hr
    simp only [Bool.and_eq_true, decide_eq_true_eq] at hr
    exact putNumN_length 4 n.toNat (by have : n.toNat ≤ 2147483647 := by omega
                                       omega)
def putNums (xs : List Int) : List UInt8 := xs.flatMap putNum
theorem putNums_length : ∀ xs : List Int, (putNums xs).length ≤ 5 * xs.length
  | [] => Nat.le_refl 0
  | x :: xs => by
    have h1 := putNum_length x
    have h2 := putNums_length xs
    unfold putNums at h2 ⊢
    rw [List.flatMap_cons, List.length_append, List.length_cons]
    omega
end Go.Md
namespace Go.Ev
open Go.Md
def o78 (n_ : Int) : Bool × List Row × List Row := (true, [[.sl true 1 (enS true (putNum n_))]], [])
def c78 : Contract
  | [[.int .i64 n_]] => some ((o78 n_).1, (o78 n_).2.1, (o78 n_).2.2)
  | _ => none

def k78_0 (n : Nat) : Ex → St → RR := kThen (fun st ↦ runCode (Ctx.mk prog Hx (78)) (Table.call T56) n (codeAt [1, 1, 1, 1] (bodyOf f78)) (Lv.mk 4 [] 4) st (kLeave (Ctx.P (Ctx.mk prog Hx (78))) (List.zip (Array.toList (Go.Func.resultTypes f78)) (Array.toList (Go.Func.results f78))) [] [])) (kLeave (Ctx.P (Ctx.mk prog Hx (78))) (List.zip (Array.toList (Go.Func.resultTypes f78)) (Array.toList (Go.Func.results f78))) [] [])
def k78_1 (n : Nat) : Ex → St → RR := kBlock (0) (k78_0 n)
def S78_0 (i0 : Int) (es1 : List (List D)) : St := St.mk [I_ i0, U_, U_, V_ [C.view 0 0 0 [] 1 none], U_, U_, U_, U_, U_, U_, U_, U_, U_, U_, U_, U_, U_, U_, U_, U_, U_, U_, U_] [Root.mk false 1 es1 0 0 true true false]
def B78_0 (n : Nat) : St → (Ex → St → RR) → RR := runCode (Ctx.mk prog Hx (78)) (Table.call T56) n (codeAt [1, 1, 1, 0, 0, 0] (bodyOf f78)) (Lv.mk 9 [(0, 9)] 4)
def X78_2 (i0 : Int) (es1 : List (List D)) : St := St.mk [I_ i0, U_, U_, V_ [C.view 0 0 0 [] 1 none], U_, U_, U_, I_ i0, B_ false, U_, U_, U_, U_, U_, U_, U_, U_, U_, U_, U_, U_, U_, U_] [Root.mk false 1 es1 0 0 true true false]
theorem q78_0 (n : Nat) (i0 : Int) (es1 : List (List D)) (f : St → RR) (K : Ex → St → RR) : B78_0 n (S78_0 i0 es1) (kThen (fun st ↦ f (St.head 0 9 262025 st)) K) = bif decide (i0 > 127) then bif decide ((length es1 + 1) * 1 ≤ 140737488355328) then f (S78_0 (wrap i64 (Int.tdiv i0 (128))) (append es1 [[D.int IntKind.u8 (wrap IntKind.u8 (wrap i64 (128 + Int.tmod i0 (128))))]])) else none else K (Ex.exit 0) (X78_2 i0 es1) := by kernel_rfl
theorem aX78_2 (n : Nat) (i0 : Int) (es1 : List (List D)) : k78_1 n (Ex.exit 0) (X78_2 i0 es1) = bif decide ((length es1 + 1) * 1 ≤ 140737488355328) then some ([[D.sl true 1 (append es1 [[D.int IntKind.u8 (wrap IntKind.u8 i0)]])]], []) else none := by kernel_rfl
theorem r78 (n_ : Int) (n : Nat) : evFn ⟨prog, Hx, 78⟩ T56.call n f78 [[.int .i64 n_]] = bif !inR n_ (0) (2147483647) then some ([[D.sl true 1 []]], []) else loopRun (B78_0 n) 0 9 262025 n (S78_0 n_ []) (k78_1 n) := by kernel_rfl
theorem m78 (n_ : Int) (hpre : (o78 n_).1 = true) : evFn ⟨Go.Proofs.Try.prog, Hx, 78⟩ T56.call (n_.toNat + 1) f78 [[.int .i64 n_]] = some (o78 n_).2 := by
  refine (r78 n_ _).trans ?_
  show _ = (some ([[.sl true 1 (enS true (putNum n_))]], []) : Option (List Row × List Row))
  replace hpre : (true) = true := hpre
  cases hr : inR n_ 0 2147483647
  · unfold putNum
    rw [hr]
    rfl
  have hr' := hr
  unfold inR at hr'
  simp only [Bool.and_eq_true, decide_eq_true_eq] at hr'
  obtain ⟨m, rfl⟩ : ∃ m : Nat, n_ = Int.ofNat m := ⟨n_.toNat, by show _ = ((n_.toNat : Nat) : Int); omega⟩
  have hm : m ≤ 2147483647 := by have : ((m : Nat) : Int) ≤ 2147483647 := hr'.2; omega
  simp only [Bool.not_true, cond_false]
  have hg : putNum (Int.ofNat m) = putNumN m := by unfold putNum; rw [hr]; rfl
  rw [hg]
  refine loop_rule (V := Nat × List UInt8) (fun v => S78_0 (Int.ofNat v.1) (enS true v.2)) (fun v => v.2.length + v.1 ≤ 2147483647) (fun v => v.1) (fun v => some ([[D.sl true 1 (enS true (v.2 ++ putNumN v.1))]], [])) ?_ ((Int.ofNat m).toNat + 1) (m, []) (by simpa using hm) (Nat.lt_succ_self m)
  rintro ⟨k, ys⟩ hp f hf
  simp only at hp
  refine (q78_0 _ _ _ f _).trans ?_
  have h47 : decide ((ys.length + 1) * 1 ≤ 140737488355328) = true := decide_eq_true (by omega)
  have hu : putNumN k = if k > 127 then u8 ((k % 128 + 128 : Nat) : Int) :: putNumN (k / 128) else [u8 (k : Int)] := by rw [putNumN]
  by_cases h : k > 127
  · have h1 : decide (Int.ofNat k > 127) = true := decide_eq_true (by show ((k : Nat) : Int) > 127; omega)
    have h2 : (Int.ofNat k).tdiv 128 = Int.ofNat (k / 128) := rfl
    have h3 : 128 + (Int.ofNat k).tmod 128 = Int.ofNat (k % 128 + 128) := by show _ = (((k % 128 + 128 : Nat)) : Int); have : (Int.ofNat k).tmod 128 = ((k % 128 : Nat) : Int) := rfl; rw [this]; omega
    simp only [h1, h2, h3, enS_length, h47, cond_true, wrap_nat (show k / 128 ≤ 4611686018427387904 by omega), wrap_nat (show k % 128 + 128 ≤ 4611686018427387904 by omega), enS_u8_snoc]
    refine (hf (k / 128, ys ++ [u8 (Int.ofNat (k % 128 + 128))]) (by simp; omega) (by simp only; omega)).trans ?_
    simp only [hu, h, if_true, List.append_assoc, List.singleton_append]
    rfl
  · have h1 : decide (Int.ofNat k > 127) = false := decide_eq_false (by show ¬ ((k : Nat) : Int) > 127; omega)
    simp only [h1, cond_false]
    refine (aX78_2 _ _ _).trans ?_
    simp only [enS_length, h47, cond_true, enS_u8_snoc, hu, h, if_false]
    rfl
theorem s78 : SoundAt Go.Proofs.Try.prog Hx 78 c78 := soundAt_of T56_sound mixed func78 (by kernel_rfl) (by
  intro rows r h
  unfold c78 at h
  split at h
  · rename_i n_
    obtain ⟨hp, hr⟩ := Prod.mk.inj (Option.some.inj h)
    subst hr
    exact ⟨_, m78 n_ hp⟩
  · cases h)
def T78 : Table := (78, c78) :: T56
theorem T78_sound : Table.Sound Go.Proofs.Try.prog Hx T78 := Table.sound_cons s78 T56_sound
def o91 (n_ : Int) : Bool × List Row × List Row := (true, [[.sl true 1 (enS true (putNum n_))]], [])
def c91 : Contract
  | [[.int .i64 n_]] => some ((o91 n_).1, (o91 n_).2.1, (o91 n_).2.2)
  | _ => none

def k91_0 (n : Nat) : Ex → St → RR := kThen (fun st ↦ runCode (Ctx.mk prog Hx (91)) (Table.call T78) n (codeAt [1, 1, 1, 1] (bodyOf f91)) (Lv.mk 4 [] 4) st (kLeave (Ctx.P (Ctx.mk prog Hx (91))) (List.zip (Array.toList (Go.Func.resultTypes f91)) (Array.toList (Go.Func.results f91))) [] [])) (kLeave (Ctx.P (Ctx.mk prog Hx (91))) (List.zip (Array.toList (Go.Func.resultTypes f91)) (Array.toList (Go.Func.results f91))) [] [])
def k91_1 (n : Nat) : Ex → St → RR := kBlock (0) (k91_0 n)
def S91_0 (i0 : Int) (es1 : List (List D)) : St := St.mk [I_ i0, U_, U_, V_ [C.view 1 0 0 [] 1 none], U_, U_, U_, U_, U_, U_, U_, U_, U_, U_, U_, U_, U_, U_, U_, U_, U_, U_, U_, U_, U_] [Root.mk false 1 [] 0 0 false true false, Root.mk false 1 es1 0 0 true true false]
def B91_0 (n : Nat) : St → (Ex → St → RR) → RR := runCode (Ctx.mk prog Hx (91)) (Table.call T78) n (codeAt [1, 1, 1, 0, 0, 0] (bodyOf f91)) (Lv.mk 9 [(0, 9)] 4)
def X91_2 (i0 : Int) (es1 : List (List D)) : St := St.mk [I_ i0, U_, U_, V_ [C.view 1 0 0 [] 1 none], U_, U_, U_, U_, U_, I_ i0, B_ false, U_, U_, U_, U_, U_, U_, U_, U_, U_, U_, U_, U_, U_, U_] [Root.mk false 1 [] 0 0 false true false, Root.mk false 1 es1 0 0 true true false]
theorem q91_0 (n : Nat) (i0 : Int) (es1 : List (List D)) (f : St → RR) (K : Ex → St → RR) : B91_0 n (S91_0 i0 es1) (kThen (fun st ↦ f (St.head 1 9 1048073 st)) K) = bif decide (i0 > 127) then bif decide ((length es1 + 1) * 1 ≤ 140737488355328) then f (S91_0 (wrap i64 (Int.tdiv i0 (128))) (append es1 [[D.int IntKind.u8 (wrap IntKind.u8 (wrap i64 (Int.tmod i0 (128) + 128)))]])) else none else K (Ex.exit 0) (X91_2 i0 es1) := by kernel_rfl
theorem aX91_2 (n : Nat) (i0 : Int) (es1 : List (List D)) : k91_1 n (Ex.exit 0) (X91_2 i0 es1) = bif decide ((length es1 + 1) * 1 ≤ 140737488355328) then some ([[D.sl true 1 (append es1 [[D.int IntKind.u8 (wrap IntKind.u8 i0)]])]], []) else none := by kernel_rfl
theorem r91 (n_ : Int) (n : Nat) : evFn ⟨prog, Hx, 91⟩ T78.call n f91 [[.int .i64 n_]] = bif !inR n_ (0) (2147483647) then some ([[D.sl true 1 []]], []) else loopRun (B91_0 n) 1 9 1048073 n (S91_0 n_ []) (k91_1 n) := by kernel_rfl
theorem m91 (n_ : Int) (hpre : (o91 n_).1 = true) : evFn ⟨Go.Proofs.Try.prog, Hx, 91⟩ T78.call (n_.toNat + 1) f91 [[.int .i64 n_]] = some (o91 n_).2 := by
  refine (r91 n_ _).trans ?_
  show _ = (some ([[.sl true 1 (enS true (putNum n_))]], []) : Option (List Row × List Row))
  replace hpre : (true) = true := hpre
  cases hr : inR n_ 0 2147483647
  · unfold putNum
    rw [hr]
    rfl
  have hr' := hr
  unfold inR at hr'
  simp only [Bool.and_eq_true, decide_eq_true_eq] at hr'
  obtain ⟨m, rfl⟩ : ∃ m : Nat, n_ = Int.ofNat m := ⟨n_.toNat, by show _ = ((n_.toNat : Nat) : Int); omega⟩
  have hm : m ≤ 2147483647 := by have : ((m : Nat) : Int) ≤ 2147483647 := hr'.2; omega
  simp only [Bool.not_true, cond_false]
  have hg : putNum (Int.ofNat m) = putNumN m := by unfold putNum; rw [hr]; rfl
  rw [hg]
  refine loop_rule (V := Nat × List UInt8) (fun v => S91_0 (Int.ofNat v.1) (enS true v.2)) (fun v => v.2.length + v.1 ≤ 2147483647) (fun v => v.1) (fun v => some ([[D.sl true 1 (enS true (v.2 ++ putNumN v.1))]], [])) ?_ ((Int.ofNat m).toNat + 1) (m, []) (by simpa using hm) (Nat.lt_succ_self m)
  rintro ⟨k, ys⟩ hp f hf
  simp only at hp
  refine (q91_0 _ _ _ f _).trans ?_
  have h47 : decide ((ys.length + 1) * 1 ≤ 140737488355328) = true := decide_eq_true (by omega)
  have hu : putNumN k = if k > 127 then u8 ((k % 128 + 128 : Nat) : Int) :: putNumN (k / 128) else [u8 (k : Int)] := by rw [putNumN]
  by_cases h : k > 127
  · have h1 : decide (Int.ofNat k > 127) = true := decide_eq_true (by show ((k : Nat) : Int) > 127; omega)
    have h2 : (Int.ofNat k).tdiv 128 = Int.ofNat (k / 128) := rfl
    have h3 : (Int.ofNat k).tmod 128 + 128 = Int.ofNat (k % 128 + 128) := by show _ = (((k % 128 + 128 : Nat)) : Int); have : (Int.ofNat k).tmod 128 = ((k % 128 : Nat) : Int) := rfl; rw [this]; omega
    simp only [h1, h2, h3, enS_length, h47, cond_true, wrap_nat (show k / 128 ≤ 4611686018427387904 by omega), wrap_nat (show k % 128 + 128 ≤ 4611686018427387904 by omega), enS_u8_snoc]
    refine (hf (k / 128, ys ++ [u8 (Int.ofNat (k % 128 + 128))]) (by simp; omega) (by simp only; omega)).trans ?_
    simp only [hu, h, if_true, List.append_assoc, List.singleton_append]
    rfl
  · have h1 : decide (Int.ofNat k > 127) = false := decide_eq_false (by show ¬ ((k : Nat) : Int) > 127; omega)
    simp only [h1, cond_false]
    refine (aX91_2 _ _ _).trans ?_
    simp only [enS_length, h47, cond_true, enS_u8_snoc, hu, h, if_false]
    rfl
theorem s91 : SoundAt Go.Proofs.Try.prog Hx 91 c91 := soundAt_of T78_sound mixed func91 (by kernel_rfl) (by
  intro rows r h
  unfold c91 at h
  split at h
  · rename_i n_
    obtain ⟨hp, hr⟩ := Prod.mk.inj (Option.some.inj h)
    subst hr
    exact ⟨_, m91 n_ hp⟩
  · cases h)
def T91 : Table := (91, c91) :: T78
theorem T91_sound : Table.Sound Go.Proofs.Try.prog Hx T91 := Table.sound_cons s91 T78_sound
def o48 (b : List UInt8) (list : List Int) : Bool × List Row × List Row := (decide (b.length ≤ 1000000) && decide (list.length ≤ 1000), [[.sl true 1 (enS true (b ++ putNums list))]], [])
def c48 : Contract
  | [[.sl true 1 b], [.sl false 1 list]] => some (isS UInt8 true b && isS Int false list && (o48 (deS UInt8 b) (deS Int list)).1, (o48 (deS UInt8 b) (deS Int list)).2.1, (o48 (deS UInt8 b) (deS Int list)).2.2)
  | _ => none

def k48_0 (n : Nat) : Ex → St → RR := kThen (fun st ↦ runCode (Ctx.mk prog Hx (48)) (Table.call T91) n (codeAt [1, 1] (bodyOf f48)) (Lv.mk 16 [] 16) st (kLeave (Ctx.P (Ctx.mk prog Hx (48))) (List.zip (Array.toList (Go.Func.resultTypes f48)) (Array.toList (Go.Func.results f48))) [] [])) (kLeave (Ctx.P (Ctx.mk prog Hx (48))) (List.zip (Array.toList (Go.Func.resultTypes f48)) (Array.toList (Go.Func.results f48))) [] [])
def k48_1 (n : Nat) : Ex → St → RR := kBlock (0) (k48_0 n)
def S48_0 (b : List UInt8) (list : List Int) (i0 : Int) (es1 : List (List D)) : St := St.mk [V_ [C.view 1 0 0 [] 1 none], U_, U_, U_, U_, U_, U_, V_ [C.d (D.sl false 1 (enS false list))], I_ (ofNat (length (enS false list))), I_ i0, U_, U_, U_, U_, U_, U_, U_, U_, U_] [Root.mk false 1 (enS true b) 0 0 false true false, Root.mk false 1 es1 0 0 true true false]
def B48_0 (n : Nat) : St → (Ex → St → RR) → RR := runCode (Ctx.mk prog Hx (48)) (Table.call T91) n (codeAt [1, 0, 1, 0, 0] (bodyOf f48)) (Lv.mk 897 [(0, 1)] 16)
def X48_2 (b : List UInt8) (list : List Int) (i0 : Int) (es1 : List (List D)) : St := St.mk [V_ [C.view 1 0 0 [] 1 none], U_, U_, U_, U_, U_, U_, V_ [C.d (D.sl false 1 (enS false list))], I_ (ofNat (length (enS false list))), I_ i0, B_ false, U_, U_, U_, U_, U_, U_, U_, U_] [Root.mk false 1 (enS true b) 0 0 false true false, Root.mk false 1 es1 0 0 true true false]
theorem q48_0 (b : List UInt8) (list : List Int) (n : Nat) (i0 : Int) (es1 : List (List D)) (f : St → RR) (K : Ex → St → RR) : B48_0 n (S48_0 b list i0 es1) (kThen (fun st ↦ f (St.head 1 897 261697 st)) K) = bif decide (i0 < ofNat (length (enS false list))) then bif decide (0 ≤ i0) && decide (i0 < ofNat (length (enS false list))) then bif Leaf.fit false (Leaf.int i64) (getD (getD (enS false list) (toNat i0) []) 0 D.dead) && true then bif (all (enS true (putNum (D.num (getD (getD (enS false list) (toNat i0) []) 0 D.dead)))) fun r ↦ all r D.noSl) && true && decide ((length es1 + length (enS true (putNum (D.num (getD (getD (enS false list) (toNat i0) []) 0 D.dead))))) * 1 ≤ 140737488355328) then f (S48_0 b list (wrap i64 (i0 + 1)) (append es1 (enS true (putNum (D.num (getD (getD (enS false list) (toNat i0) []) 0 D.dead)))))) else none else none else none else K (Ex.exit 0) (X48_2 b list i0 es1) := by kernel_rfl
theorem aX48_2 (b : List UInt8) (list : List Int) (n : Nat) (i0 : Int) (es1 : List (List D)) : k48_1 n (Ex.exit 0) (X48_2 b list i0 es1) = some ([[D.sl true 1 es1]], []) := by kernel_rfl
theorem r48 (b : List UInt8) (list : List Int) (n : Nat) : evFn ⟨prog, Hx, 48⟩ T91.call n f48 [[.sl true 1 (enS true b)], [.sl false 1 (enS false list)]] = loopRun (B48_0 n) 1 897 261697 n (S48_0 b list (0) (enS true b)) (k48_1 n) := by kernel_rfl
theorem m48 (b : List UInt8) (list : List Int) (hpre : (o48 b list).1 = true) : evFn ⟨Go.Proofs.Try.prog, Hx, 48⟩ T91.call (list.length + 1) f48 [[.sl true 1 (enS true b)], [.sl false 1 (enS false list)]] = some (o48 b list).2 := by
  refine (r48 b list _).trans ?_
  show _ = (some ([[.sl true 1 (enS true (b ++ putNums list))]], []) : Option (List Row × List Row))
  replace hpre : (decide (b.length ≤ 1000000) && decide (list.length ≤ 1000)) = true := hpre
  simp only [Bool.and_eq_true, decide_eq_true_eq] at hpre
  refine loop_list (xs := list) (fun i (ys : List UInt8) => S48_0 b list (Int.ofNat i) (enS true ys)) (fun i ys => ys.length ≤ 1000000 + 5 * i) (fun _ ys rest => some ([[D.sl true 1 (enS true (ys ++ putNums rest))]], [])) ?_ ?_ (list.length + 1) b (by omega) (by simpa using hpre.1)
  · rintro ys _ f
    refine (q48_0 b list _ _ _ f _).trans ?_
    simp only [enS_length, dec_lt, Nat.lt_irrefl, decide_false, cond_false]
    refine (aX48_2 b list _ _ _).trans ?_
    simp only [putNums, List.flatMap_nil, List.append_nil]
  · rintro i ys hi hl f hf
    refine (q48_0 b list _ _ _ f _).trans ?_
    have hn := putNum_length list[i]
    have h47 : decide ((ys.length + (putNum list[i]).length) * 1 ≤ 140737488355328) = true := decide_eq_true (by omega)
    simp only [enS_length, toNat_of, dec_lt, dec_ge, enS_get _ hi, hi, wrap_succ (show i < 4611686018427387904 by omega), decide_true, cond_true, Bool.and_self, noSl_u8, Bool.and_true, Bool.true_and, En.enc, List.getD_cons_zero, D.num, Leaf.fit, h47, List.append_eq, ← enS_append]
    refine (hf (ys ++ putNum list[i]) (by rw [List.length_append]; omega)).trans ?_
    simp only [putNums, List.flatMap_cons, List.append_assoc]
theorem s48 : SoundAt Go.Proofs.Try.prog Hx 48 c48 := soundAt_of T91_sound mixed func48 (by kernel_rfl) (by
  intro rows r h
  unfold c48 at h
  split at h
  · rename_i b list
    obtain ⟨hp, hr⟩ := Prod.mk.inj (Option.some.inj h)
    subst hr
    simp only [Bool.and_eq_true] at hp
    obtain ⟨⟨hs0, hs1⟩, hp⟩ := hp
    obtain ⟨xs0, rfl⟩ := isS_ex hs0
    obtain ⟨xs1, rfl⟩ := isS_ex hs1
    simp only [deS_enS] at hp ⊢
    exact ⟨_, m48 xs0 xs1 hp⟩
  · cases h)
def T48 : Table := (48, c48) :: T91
theorem T48_sound : Table.Sound Go.Proofs.Try.prog Hx T48 := Table.sound_cons s48 T91_sound
def o63 (list : List Int) : Bool × List Row × List Row := (decide (list.length ≤ 1000), [[.sl true 1 (enS true (putNums list))]], [])
def c63 : Contract
  | [[.sl false 1 list]] => some (isS Int false list && (o63 (deS Int list)).1, (o63 (deS Int list)).2.1, (o63 (deS Int list)).2.2)
  | _ => none

def k63_0 (n : Nat) : Ex → St → RR := kThen (fun st ↦ runCode (Ctx.mk prog Hx (63)) (Table.call T48) n (codeAt [1, 1, 1] (bodyOf f63)) (Lv.mk 4 [] 4) st (kLeave (Ctx.P (Ctx.mk prog Hx (63))) (List.zip (Array.toList (Go.Func.resultTypes f63)) (Array.toList (Go.Func.results f63))) [] [])) (kLeave (Ctx.P (Ctx.mk prog Hx (63))) (List.zip (Array.toList (Go.Func.resultTypes f63)) (Array.toList (Go.Func.results f63))) [] [])
def k63_1 (n : Nat) : Ex → St → RR := kBlock (0) (k63_0 n)
def S63_0 (list : List Int) (i0 : Int) (es1 : List (List D)) : St := St.mk [V_ [C.d (D.sl false 1 (enS false list))], U_, U_, V_ [C.view 1 0 0 [] 1 none], I_ i0, U_, U_, U_, U_, U_, U_, U_, U_, U_, U_, U_, U_, U_, U_, U_] [Root.mk false 1 [] 0 0 false true false, Root.mk false 1 es1 0 0 true true false]
def B63_0 (n : Nat) : St → (Ex → St → RR) → RR := runCode (Ctx.mk prog Hx (63)) (Table.call T48) n (codeAt [1, 1, 0, 1, 0, 0] (bodyOf f63)) (Lv.mk 25 [(0, 8)] 4)
def X63_2 (list : List Int) (i0 : Int) (es1 : List (List D)) : St := St.mk [V_ [C.d (D.sl false 1 (enS false list))], U_, U_, V_ [C.view 1 0 0 [] 1 none], I_ i0, U_, I_ i0, V_ [C.d (D.sl false 1 (enS false list))], I_ (ofNat (length (enS false list))), B_ false, U_, U_, U_, U_, U_, U_, U_, U_, U_, U_] [Root.mk false 1 [] 0 0 false true false, Root.mk false 1 es1 0 0 true true false]
theorem q63_0 (list : List Int) (n : Nat) (i0 : Int) (es1 : List (List D)) (f : St → RR) (K : Ex → St → RR) : B63_0 n (S63_0 list i0 es1) (kThen (fun st ↦ f (St.head 1 25 524248 st)) K) = bif decide (i0 < ofNat (length (enS false list))) then bif decide (0 ≤ i0) && decide (i0 < ofNat (length (enS false list))) then bif Leaf.fit false (Leaf.int i64) (getD (getD (enS false list) (toNat i0) []) 0 D.dead) && true then bif (all (enS true (putNum (D.num (getD (getD (enS false list) (toNat i0) []) 0 D.dead)))) fun r ↦ all r D.noSl) && true && decide ((length es1 + length (enS true (putNum (D.num (getD (getD (enS false list) (toNat i0) []) 0 D.dead))))) * 1 ≤ 140737488355328) then f (S63_0 list (wrap i64 (i0 + 1)) (append es1 (enS true (putNum (D.num (getD (getD (enS false list) (toNat i0) []) 0 D.dead)))))) else none else none else none else K (Ex.exit 0) (X63_2 list i0 es1) := by kernel_rfl
theorem aX63_2 (list : List Int) (n : Nat) (i0 : Int) (es1 : List (List D)) : k63_1 n (Ex.exit 0) (X63_2 list i0 es1) = some ([[D.sl true 1 es1]], []) := by kernel_rfl
theorem r63 (list : List Int) (n : Nat) : evFn ⟨prog, Hx, 63⟩ T48.call n f63 [[.sl false 1 (enS false list)]] = loopRun (B63_0 n) 1 25 524248 n (S63_0 list (0) []) (k63_1 n) := by kernel_rfl
theorem m63 (list : List Int) (hpre : (o63 list).1 = true) : evFn ⟨Go.Proofs.Try.prog, Hx, 63⟩ T48.call (list.length + 1) f63 [[.sl false 1 (enS false list)]] = some (o63 list).2 := by
  refine (r63 list _).trans ?_
  show _ = (some ([[.sl true 1 (enS true (putNums list))]], []) : Option (List Row × List Row))
  replace hpre : (decide (list.length ≤ 1000)) = true := hpre
  simp only [decide_eq_true_eq] at hpre
  refine loop_list (xs := list) (fun i (ys : List UInt8) => S63_0 list (Int.ofNat i) (enS true ys)) (fun i ys => ys.length ≤ 5 * i) (fun _ ys rest => some ([[D.sl true 1 (enS true (ys ++ putNums rest))]], [])) ?_ ?_ (list.length + 1) [] (by omega) (Nat.le_refl 0)
  · rintro ys _ f
    refine (q63_0 list _ _ _ f _).trans ?_
    simp only [enS_length, dec_lt, Nat.lt_irrefl, decide_false, cond_false]
    refine (aX63_2 list _ _ _).trans ?_
    simp only [putNums, List.flatMap_nil, List.append_nil]
  · rintro i ys hi hl f hf
    refine (q63_0 list _ _ _ f _).trans ?_
    have hn := putNum_length list[i]
    have h47 : decide ((ys.length + (putNum list[i]).length) * 1 ≤ 140737488355328) = true := decide_eq_true (by omega)
    simp only [enS_length, toNat_of, dec_lt, dec_ge, enS_get _ hi, hi, wrap_succ (show i < 4611686018427387904 by omega), decide_true, cond_true, Bool.and_self, noSl_u8, Bool.and_true, Bool.true_and, En.enc, List.getD_cons_zero, D.num, Leaf.fit, h47, List.append_eq, ← enS_append]
    refine (hf (ys ++ putNum list[i]) (by rw [List.length_append]; omega)).trans ?_
    simp only [putNums, List.flatMap_cons, List.append_assoc]
theorem s63 : SoundAt Go.Proofs.Try.prog Hx 63 c63 := soundAt_of T48_sound mixed func63 (by kernel_rfl) (by
  intro rows r h
  unfold c63 at h
  split at h
  · rename_i list
    obtain ⟨hp, hr⟩ := Prod.mk.inj (Option.some.inj h)
    subst hr
    simp only [Bool.and_eq_true] at hp
    obtain ⟨hs0, hp⟩ := hp
    obtain ⟨xs0, rfl⟩ := isS_ex hs0
    simp only [deS_enS] at hp ⊢
    exact ⟨_, m63 xs0 hp⟩
  · cases h)
def T63 : Table := (63, c63) :: T48
theorem T63_sound : Table.Sound Go.Proofs.Try.prog Hx T63 := Table.sound_cons s63 T48_sound
end Go.Ev
end
