/- Contracts of functions, each by its evaluation. -/
import Derived.Test.YtfeaiokfklkhjaaEvMd
import Derived.Test.YtfeaiokfklkhjaaProg
import Derived.KernelRfl
import Derived.Test.YtfeaiokfklkhjaaFPort
set_option linter.unusedVariables false
set_option linter.unusedSimpArgs false
set_option maxRecDepth 100000
noncomputable section
open List (getD length drop take set append replicate all isEmpty)
open Int (toNat ofNat)
open Go.IntKind (i64 wrap)
open Go.Proofs.Try (prog f98 func98)
namespace Go.Ev
open Go.RowKit Go.Md
def o98 (a : Int) (b : Int) : Bool × List Row × List Row := (true, [[.int .i64 (if a < b then a else b)]], [])
def c98 : Contract
  | [[.int .i64 a], [.int .i64 b]] => some ((o98 a b).1, (o98 a b).2.1, (o98 a b).2.2)
  | _ => none
theorem r98 (a : Int) (b : Int) (n : Nat) : evFn ⟨prog, Hx, 98⟩ T133.call n f98 [[.int .i64 a], [.int .i64 b]] = bif decide (a < b) then some ([[D.int i64 a]], []) else some ([[D.int i64 b]], []) := by kernel_rfl
theorem m98 (a : Int) (b : Int) (hpre : (o98 a b).1 = true) : evFn ⟨Go.Proofs.Try.prog, Hx, 98⟩ T133.call 0 f98 [[.int .i64 a], [.int .i64 b]] = some (o98 a b).2 := by
  refine (r98 a b _).trans ?_
  show _ = (some ([[.int .i64 (if a < b then a else b)]], []) : Option (List Row × List Row))
  replace hpre : (true) = true := hpre
  by_cases h : a < b <;> simp [h]
theorem s98 : SoundAt Go.Proofs.Try.prog Hx 98 c98 := soundAt_of T133_sound mixed func98 (by kernel_rfl) (by
  intro rows r h
  unfold c98 at h
  split at h
  · rename_i a b
    obtain ⟨hp, hr⟩ := Prod.mk.inj (Option.some.inj h)
    subst hr
    exact ⟨_, m98 a b hp⟩
  · cases h)
def T98 : Table := (98, c98) :: T133
theorem T98_sound : Table.Sound Go.Proofs.Try.prog Hx T98 := Table.sound_cons s98 T133_sound
end Go.Ev
end
noncomputable section
open List (getD length drop take set append replicate all isEmpty)
open Int (toNat ofNat)
open Go.IntKind (i64 wrap)
open Go.Proofs.Try (prog f139 f151 f171 f177 func139 func151 func171 func177)
namespace Go.Ev
open Go.RowKit Go.Md
end Go.Ev
namespace Go.Md
open Go Go.Ev
def putNumN (n : Nat) : List UInt8 := if n > 127 then u8 ((n % 128 + 128 : Nat) : Int) :: putNumN (n / 128) else [u8 (n : Int)]
termination_by n
decreasing_by omega
def putNum (n : Int) : List UInt8 := bif inR n 0 2147483647 then putNumN n.toNat else []
theorem putNumN_length : ∀ (k n : Nat), n < 128 ^ (k + 1) → (putNumN n).length ≤ k + 1
  | 0, n, h => by rw [putNumN, if_neg (by omega)]; simp
  | k + 1, n, h => by
    rw [putNumN]
    split
    · have := putNumN_length k (n / 128) (by rw [Nat.pow_succ] at h; exact Nat.div_lt_of_lt_mul (by rw [Nat.mul_comm]; exact h))
      simp only [List.length_cons]
      omega
    · simp
theorem putNum_length (n : Int) : (putNum n).length ≤ 5 := by
  unfold putNum
  cases hr : inR n 0 2147483647
  · simp
  · unfold inR at hr
    simp only [Bool.and_eq_true, decide_eq_true_eq] at hr
    exact putNumN_length 4 n.toNat (by have : n.toNat ≤ 2147483647 := by omega
                                       omega)
def putNums (xs : List Int) : List UInt8 := xs.flatMap putNum
theorem putNums_length : ∀ xs : List Int, (putNums xs).length ≤ 5 * xs.length
  | [] => Nat.le_refl 0
  | x :: xs => by
    have h1 := putNum_length x
    have h2 := putNums_length xs
    unfold putNums at h2 ⊢
    rw [List.flatMap_cons, List.length_append, List.length_cons]
    omega
end Go.Md
namespace Go.Ev
open Go.Md
def o177 (n_ : Int) : Bool × List Row × List Row := (true, [[.sl true 1 (enS true (putNum n_))]], [])
def c177 : Contract
  | [[.int .i64 n_]] => some ((o177 n_).1, (o177 n_).2.1, (o177 n_).2.2)
  | _ => none
def k177_0 (n : Nat) : Ex → St → RR := kThen (fun st ↦ runCode (Ctx.mk prog Hx (177)) (Table.call T98) n (codeAt [1, 1, 1, 1] (bodyOf f177)) (Lv.mk 4 [] 4) st (kLeave (Ctx.P (Ctx.mk prog Hx (177))) (List.zip (Array.toList (Go.Func.resultTypes f177)) (Array.toList (Go.Func.results f177))) [] [])) (kLeave (Ctx.P (Ctx.mk prog Hx (177))) (List.zip (Array.toList (Go.Func.resultTypes f177)) (Array.toList (Go.Func.results f177))) [] [])
def k177_1 (n : Nat) : Ex → St → RR := kBlock (0) (k177_0 n)
def S177_0 (i0 : Int) (es1 : List (List D)) : St := St.mk [I_ i0, U, U, V_ [C.view 0 0 0 [] 1 none], U, U, U, U, U, U, U, U, U, U, U, U, U, U, U, U, U, U, U] [Root.mk false 1 es1 0 0 true true false]
def B177_0 (n : Nat) : St → (Ex → St → RR) → RR := runCode (Ctx.mk prog Hx (177)) (Table.call T98) n (codeAt [1, 1, 1, 0, 0, 0] (bodyOf f177)) (Lv.mk 9 [(0, 9)] 4)
def X177_2 (i0 : Int) (es1 : List (List D)) : St := St.mk [I_ i0, U, U, V_ [C.view 0 0 0 [] 1 none], U, U, U, I_ i0, B_ false, U, U, U, U, U, U, U, U, U, U, U, U, U, U] [Root.mk false 1 es1 0 0 true true false]
theorem q177_0 (n : Nat) (i0 : Int) (es1 : List (List D)) (f : St → RR) (K : Ex → St → RR) : B177_0 n (S177_0 i0 es1) (kThen (fun st ↦ f (St.head 0 9 262025 st)) K) = bif decide (i0 > 127) then bif decide ((length es1 + 1) * 1 ≤ 140737488355328) then f (S177_0 (wrap i64 (Int.tdiv i0 (128))) (append es1 [[D.int IntKind.u8 (wrap IntKind.u8 (wrap i64 (128 + Int.tmod i0 (128))))]])) else none else K (Ex.exit 0) (X177_2 i0 es1) := by kernel_rfl
theorem aX177_2 (n : Nat) (i0 : Int) (es1 : List (List D)) : k177_1 n (Ex.exit 0) (X177_2 i0 es1) = bif decide ((length es1 + 1) * 1 ≤ 140737488355328) then some ([[D.sl true 1 (append es1 [[D.int IntKind.u8 (wrap IntKind.u8 i0)]])]], []) else none := by kernel_rfl
theorem r177 (n_ : Int) (n : Nat) : evFn ⟨prog, Hx, 177⟩ T98.call n f177 [[.int .i64 n_]] = bif !inR n_ (0) (2147483647) then some ([[D.sl true 1 []]], []) else loopRun (B177_0 n) 0 9 262025 n (S177_0 n_ []) (k177_1 n) := by kernel_rfl
theorem m177 (n_ : Int) (hpre : (o177 n_).1 = true) : evFn ⟨Go.Proofs.Try.prog, Hx, 177⟩ T98.call (n_.toNat + 1) f177 [[.int .i64 n_]] = some (o177 n_).2 := by
  refine (r177 n_ _).trans ?_
  show _ = (some ([[.sl true 1 (enS true (putNum n_))]], []) : Option (List Row × List Row))
  replace hpre : (true) = true := hpre
  cases hr : inR n_ 0 2147483647
  · unfold putNum
    rw [hr]
    rfl
  have hr' := hr
  unfold inR at hr'
  simp only [Bool.and_eq_true, decide_eq_true_eq] at hr'
  obtain ⟨m, rfl⟩ : ∃ m : Nat, n_ = Int.ofNat m := ⟨n_.toNat, by show _ = ((n_.toNat : Nat) : Int); omega⟩
  have hm : m ≤ 2147483647 := by have : ((m : Nat) : Int) ≤ 2147483647 := hr'.2; omega
  simp only [Bool.not_true, cond_false]
  have hg : putNum (Int.ofNat m) = putNumN m := by unfold putNum; rw [hr]; rfl
  rw [hg]
  refine loop_rule (V := Nat × List UInt8) (fun v => S177_0 (Int.ofNat v.1) (enS true v.2)) (fun v => v.2.length + v.1 ≤ 2147483647) (fun v => v.1) (fun v => some ([[D.sl true 1 (enS true (v.2 ++ putNumN v.1))]], [])) ?_ ((Int.ofNat m).toNat + 1) (m, []) (by simpa using hm) (Nat.lt_succ_self m)
  rintro ⟨k, ys⟩ hp f hf
  simp only at hp
  refine (q177_0 _ _ _ f _).trans ?_
  have h47 : decide ((ys.length + 1) * 1 ≤ 140737488355328) = true := decide_eq_true (by omega)
  have hu : putNumN k = if k > 127 then u8 ((k % 128 + 128 : Nat) : Int) :: putNumN (k / 128) else [u8 (k : Int)] := by rw [putNumN]
  by_cases h : k > 127
  · have h1 : decide (Int.ofNat k > 127) = true := decide_eq_true (by show ((k : Nat) : Int) > 127; omega)
    have h2 : (Int.ofNat k).tdiv 128 = Int.ofNat (k / 128) := rfl
    have h3 : 128 + (Int.ofNat k).tmod 128 = Int.ofNat (k % 128 + 128) := by show _ = (((k % 128 + 128 : Nat)) : Int); have : (Int.ofNat k).tmod 128 = ((k % 128 : Nat) : Int) := rfl; rw [this]; omega
    simp only [h1, h2, h3, enS_length, h47, cond_true, wrap_nat (show k / 128 ≤ 4611686018427387904 by omega), wrap_nat (show k % 128 + 128 ≤ 4611686018427387904 by omega), enS_u8_snoc]
    refine (hf (k / 128, ys ++ [u8 (Int.ofNat (k % 128 + 128))]) (by simp; omega) (by simp only; omega)).trans ?_
    simp only [hu, h, if_true, List.append_assoc, List.singleton_append]
    rfl
  · have h1 : decide (Int.ofNat k > 127) = false := decide_eq_false (by show ¬ ((k : Nat) : Int) > 127; omega)
    simp only [h1, cond_false]
    refine (aX177_2 _ _ _).trans ?_
    simp only [enS_length, h47, cond_true, enS_u8_snoc, hu, h, if_false]
    rfl
theorem s177 : SoundAt Go.Proofs.Try.prog Hx 177 c177 := soundAt_of T98_sound mixed func177 (by kernel_rfl) (by
  intro rows r h
  unfold c177 at h
  split at h
  · rename_i n_
    obtain ⟨hp, hr⟩ := Prod.mk.inj (Option.some.inj h)
    subst hr
    exact ⟨_, m177 n_ hp⟩
  · cases h)
def T177 : Table := (177, c177) :: T98
theorem T177_sound : Table.Sound Go.Proofs.Try.prog Hx T177 := Table.sound_cons s177 T98_sound
def o171 (n_ : Int) : Bool × List Row × List Row := (true, [[.sl true 1 (enS true (putNum n_))]], [])
def c171 : Contract
  | [[.int .i64 n_]] => some ((o171 n_).1, (o171 n_).2.1, (o171 n_).2.2)
  | _ => none
def k171_0 (n : Nat) : Ex → St → RR := kThen (fun st ↦ runCode (Ctx.mk prog Hx (171)) (Table.call T177) n (codeAt [1, 1, 1, 1] (bodyOf f171)) (Lv.mk 4 [] 4) st (kLeave (Ctx.P (Ctx.mk prog Hx (171))) (List.zip (Array.toList (Go.Func.resultTypes f171)) (Array.toList (Go.Func.results f171))) [] [])) (kLeave (Ctx.P (Ctx.mk prog Hx (171))) (List.zip (Array.toList (Go.Func.resultTypes f171)) (Array.toList (Go.Func.results f171))) [] [])
def k171_1 (n : Nat) : Ex → St → RR := kBlock (0) (k171_0 n)
def S171_0 (i0 : Int) (es1 : List (List D)) : St := St.mk [I_ i0, U, U, V_ [C.view 1 0 0 [] 1 none], U, U, U, U, U, U, U, U, U, U, U, U, U, U, U, U, U, U, U, U, U] [Root.mk false 1 [] 0 0 false true false, Root.mk false 1 es1 0 0 true true false]
def B171_0 (n : Nat) : St → (Ex → St → RR) → RR := runCode (Ctx.mk prog Hx (171)) (Table.call T177) n (codeAt [1, 1, 1, 0, 0, 0] (bodyOf f171)) (Lv.mk 9 [(0, 9)] 4)
def X171_2 (i0 : Int) (es1 : List (List D)) : St := St.mk [I_ i0, U, U, V_ [C.view 1 0 0 [] 1 none], U, U, U, U, U, I_ i0, B_ false, U, U, U, U, U, U, U, U, U, U, U, U, U, U] [Root.mk false 1 [] 0 0 false true false, Root.mk false 1 es1 0 0 true true false]
theorem q171_0 (n : Nat) (i0 : Int) (es1 : List (List D)) (f : St → RR) (K : Ex → St → RR) : B171_0 n (S171_0 i0 es1) (kThen (fun st ↦ f (St.head 1 9 1048073 st)) K) = bif decide (i0 > 127) then bif decide ((length es1 + 1) * 1 ≤ 140737488355328) then f (S171_0 (wrap i64 (Int.tdiv i0 (128))) (append es1 [[D.int IntKind.u8 (wrap IntKind.u8 (wrap i64 (Int.tmod i0 (128) + 128)))]])) else none else K (Ex.exit 0) (X171_2 i0 es1) := by kernel_rfl
theorem aX171_2 (n : Nat) (i0 : Int) (es1 : List (List D)) : k171_1 n (Ex.exit 0) (X171_2 i0 es1) = bif decide ((length es1 + 1) * 1 ≤ 140737488355328) then some ([[D.sl true 1 (append es1 [[D.int IntKind.u8 (wrap IntKind.u8 i0)]])]], []) else none := by kernel_rfl
theorem r171 (n_ : Int) (n : Nat) : evFn ⟨prog, Hx, 171⟩ T177.call n f171 [[.int .i64 n_]] = bif !inR n_ (0) (2147483647) then some ([[D.sl true 1 []]], []) else loopRun (B171_0 n) 1 9 1048073 n (S171_0 n_ []) (k171_1 n) := by kernel_rfl
theorem m171 (n_ : Int) (hpre : (o171 n_).1 = true) : evFn ⟨Go.Proofs.Try.prog, Hx, 171⟩ T177.call (n_.toNat + 1) f171 [[.int .i64 n_]] = some (o171 n_).2 := by
  refine (r171 n_ _).trans ?_
  show _ = (some ([[.sl true 1 (enS true (putNum n_))]], []) : Option (List Row × List Row))
  replace hpre : (true) = true := hpre
  cases hr : inR n_ 0 2147483647
  · unfold putNum
    rw [hr]
    rfl
  have hr' := hr
  unfold inR at hr'
  simp only [Bool.and_eq_true, decide_eq_true_eq] at hr'
  obtain ⟨m, rfl⟩ : ∃ m : Nat, n_ = Int.ofNat m := ⟨n_.toNat, by show _ = ((n_.toNat : Nat) : Int); omega⟩
  have hm : m ≤ 2147483647 := by have : ((m : Nat) : Int) ≤ 2147483647 := hr'.2; omega
  simp only [Bool.not_true, cond_false]
  have hg : putNum (Int.ofNat m) = putNumN m := by unfold putNum; rw [hr]; rfl
  rw [hg]
  refine loop_rule (V := Nat × List UInt8) (fun v => S171_0 (Int.ofNat v.1) (enS true v.2)) (fun v => v.2.length + v.1 ≤ 2147483647) (fun v => v.1) (fun v => some ([[D.sl true 1 (enS true (v.2 ++ putNumN v.1))]], [])) ?_ ((Int.ofNat m).toNat + 1) (m, []) (by simpa using hm) (Nat.lt_succ_self m)
  rintro ⟨k, ys⟩ hp f hf
  simp only at hp
  refine (q171_0 _ _ _ f _).trans ?_
  have h47 : decide ((ys.length + 1) * 1 ≤ 140737488355328) = true := decide_eq_true (by omega)
  have hu : putNumN k = if k > 127 then u8 ((k % 128 + 128 : Nat) : Int) :: putNumN (k / 128) else [u8 (k : Int)] := by rw [putNumN]
  by_cases h : k > 127
  · have h1 : decide (Int.ofNat k > 127) = true := decide_eq_true (by show ((k : Nat) : Int) > 127; omega)
    have h2 : (Int.ofNat k).tdiv 128 = Int.ofNat (k / 128) := rfl
    have h3 : (Int.ofNat k).tmod 128 + 128 = Int.ofNat (k % 128 + 128) := by show _ = (((k % 128 + 128 : Nat)) : Int); have : (Int.ofNat k).tmod 128 = ((k % 128 : Nat) : Int) := rfl; rw [this]; omega
    simp only [h1, h2, h3, enS_length, h47, cond_true, wrap_nat (show k / 128 ≤ 4611686018427387904 by omega), wrap_nat (show k % 128 + 128 ≤ 4611686018427387904 by omega), enS_u8_snoc]
    refine (hf (k / 128, ys ++ [u8 (Int.ofNat (k % 128 + 128))]) (by simp; omega) (by simp only; omega)).trans ?_
    simp only [hu, h, if_true, List.append_assoc, List.singleton_append]
    rfl
  · have h1 : decide (Int.ofNat k > 127) = false := decide_eq_false (by show ¬ ((k : Nat) : Int) > 127; omega)
    simp only [h1, cond_false]
    refine (aX171_2 _ _ _).trans ?_
    simp only [enS_length, h47, cond_true, enS_u8_snoc, hu, h, if_false]
    rfl
theorem s171 : SoundAt Go.Proofs.Try.prog Hx 171 c171 := soundAt_of T177_sound mixed func171 (by kernel_rfl) (by
  intro rows r h
  unfold c171 at h
  split at h
  · rename_i n_
    obtain ⟨hp, hr⟩ := Prod.mk.inj (Option.some.inj h)
    subst hr
    exact ⟨_, m171 n_ hp⟩
  · cases h)
def T171 : Table := (171, c171) :: T177
theorem T171_sound : Table.Sound Go.Proofs.Try.prog Hx T171 := Table.sound_cons s171 T177_sound
def o151 (b : List UInt8) (list : List Int) : Bool × List Row × List Row := (decide (b.length ≤ 1000000) && decide (list.length ≤ 1000), [[.sl true 1 (enS true (b ++ putNums list))]], [])
def c151 : Contract
  | [[.sl true 1 b], [.sl false 1 list]] => some (isS UInt8 true b && isS Int false list && (o151 (deS UInt8 b) (deS Int list)).1, (o151 (deS UInt8 b) (deS Int list)).2.1, (o151 (deS UInt8 b) (deS Int list)).2.2)
  | _ => none
def k151_0 (n : Nat) : Ex → St → RR := kThen (fun st ↦ runCode (Ctx.mk prog Hx (151)) (Table.call T171) n (codeAt [1, 1] (bodyOf f151)) (Lv.mk 16 [] 16) st (kLeave (Ctx.P (Ctx.mk prog Hx (151))) (List.zip (Array.toList (Go.Func.resultTypes f151)) (Array.toList (Go.Func.results f151))) [] [])) (kLeave (Ctx.P (Ctx.mk prog Hx (151))) (List.zip (Array.toList (Go.Func.resultTypes f151)) (Array.toList (Go.Func.results f151))) [] [])
def k151_1 (n : Nat) : Ex → St → RR := kBlock (0) (k151_0 n)
def S151_0 (b : List UInt8) (list : List Int) (i0 : Int) (es1 : List (List D)) : St := St.mk [V_ [C.view 1 0 0 [] 1 none], U, U, U, U, U, U, V_ [C.d (D.sl false 1 (enS false list))], I_ (ofNat (length (enS false list))), I_ i0, U, U, U, U, U, U, U, U, U] [Root.mk false 1 (enS true b) 0 0 false true false, Root.mk false 1 es1 0 0 true true false]
def B151_0 (n : Nat) : St → (Ex → St → RR) → RR := runCode (Ctx.mk prog Hx (151)) (Table.call T171) n (codeAt [1, 0, 1, 0, 0] (bodyOf f151)) (Lv.mk 897 [(0, 1)] 16)
def X151_2 (b : List UInt8) (list : List Int) (i0 : Int) (es1 : List (List D)) : St := St.mk [V_ [C.view 1 0 0 [] 1 none], U, U, U, U, U, U, V_ [C.d (D.sl false 1 (enS false list))], I_ (ofNat (length (enS false list))), I_ i0, B_ false, U, U, U, U, U, U, U, U] [Root.mk false 1 (enS true b) 0 0 false true false, Root.mk false 1 es1 0 0 true true false]
theorem q151_0 (b : List UInt8) (list : List Int) (n : Nat) (i0 : Int) (es1 : List (List D)) (f : St → RR) (K : Ex → St → RR) : B151_0 n (S151_0 b list i0 es1) (kThen (fun st ↦ f (St.head 1 897 261697 st)) K) = bif decide (i0 < ofNat (length (enS false list))) then bif decide (0 ≤ i0) && decide (i0 < ofNat (length (enS false list))) then bif Leaf.fit false (Leaf.int i64) (getD (getD (enS false list) (toNat i0) []) 0 D.dead) && true then bif (all (enS true (putNum (D.num (getD (getD (enS false list) (toNat i0) []) 0 D.dead)))) fun r ↦ all r D.noSl) && true && decide ((length es1 + length (enS true (putNum (D.num (getD (getD (enS false list) (toNat i0) []) 0 D.dead))))) * 1 ≤ 140737488355328) then f (S151_0 b list (wrap i64 (i0 + 1)) (append es1 (enS true (putNum (D.num (getD (getD (enS false list) (toNat i0) []) 0 D.dead)))))) else none else none else none else K (Ex.exit 0) (X151_2 b list i0 es1) := by kernel_rfl
theorem aX151_2 (b : List UInt8) (list : List Int) (n : Nat) (i0 : Int) (es1 : List (List D)) : k151_1 n (Ex.exit 0) (X151_2 b list i0 es1) = some ([[D.sl true 1 es1]], []) := by kernel_rfl
theorem r151 (b : List UInt8) (list : List Int) (n : Nat) : evFn ⟨prog, Hx, 151⟩ T171.call n f151 [[.sl true 1 (enS true b)], [.sl false 1 (enS false list)]] = loopRun (B151_0 n) 1 897 261697 n (S151_0 b list (0) (enS true b)) (k151_1 n) := by kernel_rfl
theorem m151 (b : List UInt8) (list : List Int) (hpre : (o151 b list).1 = true) : evFn ⟨Go.Proofs.Try.prog, Hx, 151⟩ T171.call (list.length + 1) f151 [[.sl true 1 (enS true b)], [.sl false 1 (enS false list)]] = some (o151 b list).2 := by
  refine (r151 b list _).trans ?_
  show _ = (some ([[.sl true 1 (enS true (b ++ putNums list))]], []) : Option (List Row × List Row))
  replace hpre : (decide (b.length ≤ 1000000) && decide (list.length ≤ 1000)) = true := hpre
  simp only [Bool.and_eq_true, decide_eq_true_eq] at hpre
  refine loop_list (xs := list) (fun i (ys : List UInt8) => S151_0 b list (Int.ofNat i) (enS true ys)) (fun i ys => ys.length ≤ 1000000 + 5 * i) (fun _ ys rest => some ([[D.sl true 1 (enS true (ys ++ putNums rest))]], [])) ?_ ?_ (list.length + 1) b (by omega) (by simpa using hpre.1)
  · rintro ys _ f
    refine (q151_0 b list _ _ _ f _).trans ?_
    simp only [enS_length, dec_lt, Nat.lt_irrefl, decide_false, cond_false]
    refine (aX151_2 b list _ _ _).trans ?_
    simp only [putNums, List.flatMap_nil, List.append_nil]
  · rintro i ys hi hl f hf
    refine (q151_0 b list _ _ _ f _).trans ?_
    have hn := putNum_length list[i]
    have h47 : decide ((ys.length + (putNum list[i]).length) * 1 ≤ 140737488355328) = true := decide_eq_true (by omega)
    simp only [enS_length, toNat_of, dec_lt, dec_ge, enS_get _ hi, hi, wrap_succ (show i < 4611686018427387904 by omega), decide_true, cond_true, Bool.and_self, noSl_u8, Bool.and_true, Bool.true_and, En.enc, List.getD_cons_zero, D.num, Leaf.fit, h47, List.append_eq, ← enS_append]
    refine (hf (ys ++ putNum list[i]) (by rw [List.length_append]; omega)).trans ?_
    simp only [putNums, List.flatMap_cons, List.append_assoc]
theorem s151 : SoundAt Go.Proofs.Try.prog Hx 151 c151 := soundAt_of T171_sound mixed func151 (by kernel_rfl) (by
  intro rows r h
  unfold c151 at h
  split at h
  · rename_i b list
    obtain ⟨hp, hr⟩ := Prod.mk.inj (Option.some.inj h)
    subst hr
    simp only [Bool.and_eq_true] at hp
    obtain ⟨⟨hs0, hs1⟩, hp⟩ := hp
    obtain ⟨xs0, rfl⟩ := isS_ex hs0
    obtain ⟨xs1, rfl⟩ := isS_ex hs1
    simp only [deS_enS] at hp ⊢
    exact ⟨_, m151 xs0 xs1 hp⟩
  · cases h)
def T151 : Table := (151, c151) :: T171
theorem T151_sound : Table.Sound Go.Proofs.Try.prog Hx T151 := Table.sound_cons s151 T171_sound
def o139 (list : List Int) : Bool × List Row × List Row := (decide (list.length ≤ 1000), [[.sl true 1 (enS true (putNums list))]], [])
def c139 : Contract
  | [[.sl false 1 list]] => some (isS Int false list && (o139 (deS Int list)).1, (o139 (deS Int list)).2.1, (o139 (deS Int list)).2.2)
  | _ => none
def k139_0 (n : Nat) : Ex → St → RR := kThen (fun st ↦ runCode (Ctx.mk prog Hx (139)) (Table.call T151) n (codeAt [1, 1, 1] (bodyOf f139)) (Lv.mk 4 [] 4) st (kLeave (Ctx.P (Ctx.mk prog Hx (139))) (List.zip (Array.toList (Go.Func.resultTypes f139)) (Array.toList (Go.Func.results f139))) [] [])) (kLeave (Ctx.P (Ctx.mk prog Hx (139))) (List.zip (Array.toList (Go.Func.resultTypes f139)) (Array.toList (Go.Func.results f139))) [] [])
def k139_1 (n : Nat) : Ex → St → RR := kBlock (0) (k139_0 n)
def S139_0 (list : List Int) (i0 : Int) (es1 : List (List D)) : St := St.mk [V_ [C.d (D.sl false 1 (enS false list))], U, U, V_ [C.view 1 0 0 [] 1 none], I_ i0, U, U, U, U, U, U, U, U, U, U, U, U, U, U, U] [Root.mk false 1 [] 0 0 false true false, Root.mk false 1 es1 0 0 true true false]
def B139_0 (n : Nat) : St → (Ex → St → RR) → RR := runCode (Ctx.mk prog Hx (139)) (Table.call T151) n (codeAt [1, 1, 0, 1, 0, 0] (bodyOf f139)) (Lv.mk 25 [(0, 8)] 4)
def X139_2 (list : List Int) (i0 : Int) (es1 : List (List D)) : St := St.mk [V_ [C.d (D.sl false 1 (enS false list))], U, U, V_ [C.view 1 0 0 [] 1 none], I_ i0, U, I_ i0, V_ [C.d (D.sl false 1 (enS false list))], I_ (ofNat (length (enS false list))), B_ false, U, U, U, U, U, U, U, U, U, U] [Root.mk false 1 [] 0 0 false true false, Root.mk false 1 es1 0 0 true true false]
theorem q139_0 (list : List Int) (n : Nat) (i0 : Int) (es1 : List (List D)) (f : St → RR) (K : Ex → St → RR) : B139_0 n (S139_0 list i0 es1) (kThen (fun st ↦ f (St.head 1 25 524248 st)) K) = bif decide (i0 < ofNat (length (enS false list))) then bif decide (0 ≤ i0) && decide (i0 < ofNat (length (enS false list))) then bif Leaf.fit false (Leaf.int i64) (getD (getD (enS false list) (toNat i0) []) 0 D.dead) && true then bif (all (enS true (putNum (D.num (getD (getD (enS false list) (toNat i0) []) 0 D.dead)))) fun r ↦ all r D.noSl) && true && decide ((length es1 + length (enS true (putNum (D.num (getD (getD (enS false list) (toNat i0) []) 0 D.dead))))) * 1 ≤ 140737488355328) then f (S139_0 list (wrap i64 (i0 + 1)) (append es1 (enS true (putNum (D.num (getD (getD (enS false list) (toNat i0) []) 0 D.dead)))))) else none else none else none else K (Ex.exit 0) (X139_2 list i0 es1) := by kernel_rfl
theorem aX139_2 (list : List Int) (n : Nat) (i0 : Int) (es1 : List (List D)) : k139_1 n (Ex.exit 0) (X139_2 list i0 es1) = some ([[D.sl true 1 es1]], []) := by kernel_rfl
theorem r139 (list : List Int) (n : Nat) : evFn ⟨prog, Hx, 139⟩ T151.call n f139 [[.sl false 1 (enS false list)]] = loopRun (B139_0 n) 1 25 524248 n (S139_0 list (0) []) (k139_1 n) := by kernel_rfl
theorem m139 (list : List Int) (hpre : (o139 list).1 = true) : evFn ⟨Go.Proofs.Try.prog, Hx, 139⟩ T151.call (list.length + 1) f139 [[.sl false 1 (enS false list)]] = some (o139 list).2 := by
  refine (r139 list _).trans ?_
  show _ = (some ([[.sl true 1 (enS true (putNums list))]], []) : Option (List Row × List Row))
  replace hpre : (decide (list.length ≤ 1000)) = true := hpre
  simp only [decide_eq_true_eq] at hpre
  refine loop_list (xs := list) (fun i (ys : List UInt8) => S139_0 list (Int.ofNat i) (enS true ys)) (fun i ys => ys.length ≤ 5 * i) (fun _ ys rest => some ([[D.sl true 1 (enS true (ys ++ putNums rest))]], [])) ?_ ?_ (list.length + 1) [] (by omega) (Nat.le_refl 0)
  · rintro ys _ f
    refine (q139_0 list _ _ _ f _).trans ?_
    simp only [enS_length, dec_lt, Nat.lt_irrefl, decide_false, cond_false]
    refine (aX139_2 list _ _ _).trans ?_
    simp only [putNums, List.flatMap_nil, List.append_nil]
  · rintro i ys hi hl f hf
    refine (q139_0 list _ _ _ f _).trans ?_
    have hn := putNum_length list[i]
    have h47 : decide ((ys.length + (putNum list[i]).length) * 1 ≤ 140737488355328) = true := decide_eq_true (by omega)
    simp only [enS_length, toNat_of, dec_lt, dec_ge, enS_get _ hi, hi, wrap_succ (show i < 4611686018427387904 by omega), decide_true, cond_true, Bool.and_self, noSl_u8, Bool.and_true, Bool.true_and, En.enc, List.getD_cons_zero, D.num, Leaf.fit, h47, List.append_eq, ← enS_append]
    refine (hf (ys ++ putNum list[i]) (by rw [List.length_append]; omega)).trans ?_
    simp only [putNums, List.flatMap_cons, List.append_assoc]
theorem s139 : SoundAt Go.Proofs.Try.prog Hx 139 c139 := soundAt_of T151_sound mixed func139 (by kernel_rfl) (by
  intro rows r h
  unfold c139 at h
  split at h
  · rename_i list
    obtain ⟨hp, hr⟩ := Prod.mk.inj (Option.some.inj h)
    subst hr
    simp only [Bool.and_eq_true] at hp
    obtain ⟨hs0, hp⟩ := hp
    obtain ⟨xs0, rfl⟩ := isS_ex hs0
    simp only [deS_enS] at hp ⊢
    exact ⟨_, m139 xs0 hp⟩
  · cases h)
def T139 : Table := (139, c139) :: T151
theorem T139_sound : Table.Sound Go.Proofs.Try.prog Hx T139 := Table.sound_cons s139 T151_sound
end Go.Ev
end
