/- Contracts of functions, each by its evaluation. -/
import Derived.Test.YtljedfojdgfahaaEvMd
import Derived.Test.YtljedfojdgfahaaProg
import Derived.KernelRfl
import Derived.Test.YtljedfojdgfahaaFMin
set_option linter.unusedVariables false
set_option linter.unusedSimpArgs false
set_option maxRecDepth 100000
noncomputable section
open List (getD length drop take set append replicate all isEmpty)
open Int (toNat ofNat)
open Go.IntKind (i64 wrap)
open Go.Proofs.Try (prog)
namespace Go.Ev
open Go.RowKit Go.Md
end Go.Ev
namespace Go.Md
open Go Go.Ev
def putNumN (n : Nat) : List UInt8 := if n > 127 then u8 ((n % 128 + 128 : Nat) : Int) :: putNumN (n / 128) else [u8 (n : Int)]
termination_by n
decreasing_by omega
def putNum (n : Int) : List UInt8 := bif inR n 0 2147483647 then putNumN n.toNat else []
theorem putNumN_length : ∀ (k n : Nat), n < 128 ^ (k + 1) → (putNumN n).length ≤ k + 1
  | 0, n, h => by rw [putNumN, if_neg (by omega)]; simp
  | k + 1, n, h => by
    rw [putNumN]
    split
    · have := putNumN_length k (n / 128) (by rw [Nat.pow_succ] at h; exact Nat.div_lt_of_lt_mul (by rw [Nat.mul_comm]; exact h))
      simp only [List.length_cons]
      omega
    · simp
theorem putNum_length (n : Int) : (putNum n).length ≤ 5 := by
  unfold putNum
  cases hr : inR n 0 2147483647
  · simp
  · unfold inR at hr
    simp only [Bool.and_eq_true, decide_eq_true_eq] at hr
    exact putNumN_length 4 n.toNat (by have : n.toNat ≤ 2147483647 := by omega
                                       omega)
def putNums (xs : List Int) : List UInt8 := xs.flatMap putNum
theorem putNums_length : ∀ xs : List Int, (putNums xs).length ≤ 5 * xs.length
  | [] => Nat.le_refl 0
  | x :: xs => by
    have h1 := putNum_length x
    have h2 := putNums_length xs
    unfold putNums at h2 ⊢
    rw [List.flatMap_cons, List.length_append, List.length_cons]
    omega
end Go.Md
namespace Go.Ev
open Go.Md
/- PutNum -/
def o93 (n_ : Int) : Bool × List Row × List Row := (true, [[.sl true 1 (enS true (putNum n_))]], [])
def c93 : Contract
  | [[.int .i64 n_]] => some ((o93 n_).1, (o93 n_).2.1, (o93 n_).2.2)
  | _ => none

def k93_0 (n : Nat) : Ex → St → RR := kThen (fun st ↦ runCode (Ctx.mk prog Hx (93)) (Table.call T42) n (codeAt [1, 1, 1, 1] (bodyOf Go.Proofs.Try.f93)) (Lv.mk 4 [] 4) st (kLeave (Ctx.P (Ctx.mk prog Hx (93))) (List.zip (Array.toList (Go.Func.resultTypes Go.Proofs.Try.f93)) (Array.toList (Go.Func.results Go.Proofs.Try.f93))) [] [])) (kLeave (Ctx.P (Ctx.mk prog Hx (93))) (List.zip (Array.toList (Go.Func.resultTypes Go.Proofs.Try.f93)) (Array.toList (Go.Func.results Go.Proofs.Try.f93))) [] [])
def k93_1 (n : Nat) : Ex → St → RR := kBlock (0) (k93_0 n)
def S93_0 (i0 : Int) (es1 : List (List D)) : St := St.mk [I_ i0, U_, U_, TV.v false [C.view 0 0 0 [] 1 none], U_, U_, U_, U_, U_, U_, U_, U_, U_, U_, U_, U_, U_, U_, U_, U_, U_, U_, U_] [Root.mk false 1 es1 0 0 true true false]
def B93_0 (n : Nat) : St → (Ex → St → RR) → RR := runCode (Ctx.mk prog Hx (93)) (Table.call T42) n (codeAt [1, 1, 1, 0, 0, 0] (bodyOf Go.Proofs.Try.f93)) (Lv.mk 9 [(0, 9)] 4)
def X93_2 (i0 : Int) (es1 : List (List D)) : St := St.mk [I_ i0, U_, U_, TV.v false [C.view 0 0 0 [] 1 none], U_, U_, U_, I_ i0, B_ false, U_, U_, U_, U_, U_, U_, U_, U_, U_, U_, U_, U_, U_, U_] [Root.mk false 1 es1 0 0 true true false]
theorem q93_0 (n : Nat) (i0 : Int) (es1 : List (List D)) (f : St → RR) (K : Ex → St → RR) : B93_0 n (S93_0 i0 es1) (kThen (fun st ↦ f (St.head 0 9 262025 st)) K) = bif decide (i0 > 127) then bif decide ((length es1 + 1) * 1 ≤ 140737488355328) then f (S93_0 (wrap i64 (Int.tdiv i0 (128))) (append es1 [[D.int IntKind.u8 (wrap IntKind.u8 (wrap i64 (128 + Int.tmod i0 (128))))]])) else none else K (Ex.exit 0) (X93_2 i0 es1) := by kernel_rfl
theorem aX93_2 (n : Nat) (i0 : Int) (es1 : List (List D)) : k93_1 n (Ex.exit 0) (X93_2 i0 es1) = bif decide ((length es1 + 1) * 1 ≤ 140737488355328) then some ([[D.sl true 1 (append es1 [[D.int IntKind.u8 (wrap IntKind.u8 i0)]])]], []) else none := by kernel_rfl
theorem r93 (n_ : Int) (n : Nat) : evFn ⟨prog, Hx, 93⟩ T42.call n Go.Proofs.Try.f93 [[.int .i64 n_]] = bif !inR n_ (0) (2147483647) then some ([[D.sl true 1 []]], []) else loopRun (B93_0 n) 0 9 262025 n (S93_0 n_ []) (k93_1 n) := by kernel_rfl
theorem m93 (n_ : Int) (hpre : (o93 n_).1 = true) : evFn ⟨Go.Proofs.Try.prog, Hx, 93⟩ T42.call (n_.toNat + 1) Go.Proofs.Try.f93 [[.int .i64 n_]] = some (o93 n_).2 := by
  refine (r93 n_ _).trans ?_
  show _ = (some ([[.sl true 1 (enS true (putNum n_))]], []) : Option (List Row × List Row))
  replace hpre : (true) = true := hpre
  cases hr : inR n_ 0 2147483647
  · unfold putNum
    rw [hr]
    rfl
  have hr' := hr
  unfold inR at hr'
  simp only [Bool.and_eq_true, decide_eq_true_eq] at hr'
  obtain ⟨m, rfl⟩ : ∃ m : Nat, n_ = Int.ofNat m := ⟨n_.toNat, by show _ = ((n_.toNat : Nat) : Int); omega⟩
  have hm : m ≤ 2147483647 := by have : ((m : Nat) : Int) ≤ 2147483647 := hr'.2; omega
  simp only [Bool.not_true, cond_false]
  have hg : putNum (Int.ofNat m) = putNumN m := by unfold putNum; rw [hr]; rfl
  rw [hg]
  refine loop_rule (V := Nat × List UInt8) (fun v => S93_0 (Int.ofNat v.1) (enS true v.2)) (fun v => v.2.length + v.1 ≤ 2147483647) (fun v => v.1) (fun v => some ([[D.sl true 1 (enS true (v.2 ++ putNumN v.1))]], [])) ?_ ((Int.ofNat m).toNat + 1) (m, []) (by simpa using hm) (Nat.lt_succ_self m)
  rintro ⟨k, ys⟩ hp f hf
  simp only at hp
  refine (q93_0 _ _ _ f _).trans ?_
  have h47 : decide ((ys.length + 1) * 1 ≤ 140737488355328) = true := decide_eq_true (by omega)
  have hu : putNumN k = if k > 127 then u8 ((k % 128 + 128 : Nat) : Int) :: putNumN (k / 128) else [u8 (k : Int)] := by rw [putNumN]
  by_cases h : k > 127
  · have h1 : decide (Int.ofNat k > 127) = true := decide_eq_true (by show ((k : Nat) : Int) > 127; omega)
    have h2 : (Int.ofNat k).tdiv 128 = Int.ofNat (k / 128) := rfl
    have h3 : 128 + (Int.ofNat k).tmod 128 = Int.ofNat (k % 128 + 128) := by show _ = (((k % 128 + 128 : Nat)) : Int); have : (Int.ofNat k).tmod 128 = ((k % 128 : Nat) : Int) := rfl; rw [this]; omega
    simp only [h1, h2, h3, enS_length, h47, cond_true, wrap_nat (show k / 128 ≤ 4611686018427387904 by omega), wrap_nat (show k % 128 + 128 ≤ 4611686018427387904 by omega), enS_u8_snoc]
    refine (hf (k / 128, ys ++ [u8 (Int.ofNat (k % 128 + 128))]) (by simp; omega) (by simp only; omega)).trans ?_
    simp only [hu, h, if_true, List.append_assoc, List.singleton_append]
    rfl
  · have h1 : decide (Int.ofNat k > 127) = false := decide_eq_false (by show ¬ ((k : Nat) : Int) > 127; omega)
    simp only [h1, cond_false]
    refine (aX93_2 _ _ _).trans ?_
    simp only [enS_length, h47, cond_true, enS_u8_snoc, hu, h, if_false]
    rfl
theorem s93 : SoundAt Go.Proofs.Try.prog Hx 93 c93 := soundAt_of T42_sound mixed Go.Proofs.Try.func93 (by kernel_rfl) (by
  intro rows r h
  unfold c93 at h
  split at h
  · rename_i n_
    obtain ⟨hp, hr⟩ := Prod.mk.inj (Option.some.inj h)
    subst hr
    exact ⟨_, m93 n_ hp⟩
  · cases h)
def T93 : Table := (93, c93) :: T42
theorem T93_sound : Table.Sound Go.Proofs.Try.prog Hx T93 := Table.sound_cons s93 T42_sound
/- PutNumS -/
def o89 (n_ : Int) : Bool × List Row × List Row := (true, [[.sl true 1 (enS true (putNum n_))]], [])
def c89 : Contract
  | [[.int .i64 n_]] => some ((o89 n_).1, (o89 n_).2.1, (o89 n_).2.2)
  | _ => none

def k89_0 (n : Nat) : Ex → St → RR := kThen (fun st ↦ runCode (Ctx.mk prog Hx (89)) (Table.call T93) n (codeAt [1, 1, 1, 1] (bodyOf Go.Proofs.Try.f89)) (Lv.mk 4 [] 4) st (kLeave (Ctx.P (Ctx.mk prog Hx (89))) (List.zip (Array.toList (Go.Func.resultTypes Go.Proofs.Try.f89)) (Array.toList (Go.Func.results Go.Proofs.Try.f89))) [] [])) (kLeave (Ctx.P (Ctx.mk prog Hx (89))) (List.zip (Array.toList (Go.Func.resultTypes Go.Proofs.Try.f89)) (Array.toList (Go.Func.results Go.Proofs.Try.f89))) [] [])
def k89_1 (n : Nat) : Ex → St → RR := kBlock (0) (k89_0 n)
def S89_0 (i0 : Int) (es1 : List (List D)) : St := St.mk [I_ i0, U_, U_, TV.v false [C.view 1 0 0 [] 1 none], U_, U_, U_, U_, U_, U_, U_, U_, U_, U_, U_, U_, U_, U_, U_, U_, U_, U_, U_, U_, U_] [Root.mk false 1 [] 0 0 false true false, Root.mk false 1 es1 0 0 true true false]
def B89_0 (n : Nat) : St → (Ex → St → RR) → RR := runCode (Ctx.mk prog Hx (89)) (Table.call T93) n (codeAt [1, 1, 1, 0, 0, 0] (bodyOf Go.Proofs.Try.f89)) (Lv.mk 9 [(0, 9)] 4)
def X89_2 (i0 : Int) (es1 : List (List D)) : St := St.mk [I_ i0, U_, U_, TV.v false [C.view 1 0 0 [] 1 none], U_, U_, U_, U_, U_, I_ i0, B_ false, U_, U_, U_, U_, U_, U_, U_, U_, U_, U_, U_, U_, U_, U_] [Root.mk false 1 [] 0 0 false true false, Root.mk false 1 es1 0 0 true true false]
theorem q89_0 (n : Nat) (i0 : Int) (es1 : List (List D)) (f : St → RR) (K : Ex → St → RR) : B89_0 n (S89_0 i0 es1) (kThen (fun st ↦ f (St.head 1 9 1048073 st)) K) = bif decide (i0 > 127) then bif decide ((length es1 + 1) * 1 ≤ 140737488355328) then f (S89_0 (wrap i64 (Int.tdiv i0 (128))) (append es1 [[D.int IntKind.u8 (wrap IntKind.u8 (wrap i64 (Int.tmod i0 (128) + 128)))]])) else none else K (Ex.exit 0) (X89_2 i0 es1) := by kernel_rfl
theorem aX89_2 (n : Nat) (i0 : Int) (es1 : List (List D)) : k89_1 n (Ex.exit 0) (X89_2 i0 es1) = bif decide ((length es1 + 1) * 1 ≤ 140737488355328) then some ([[D.sl true 1 (append es1 [[D.int IntKind.u8 (wrap IntKind.u8 i0)]])]], []) else none := by kernel_rfl
theorem r89 (n_ : Int) (n : Nat) : evFn ⟨prog, Hx, 89⟩ T93.call n Go.Proofs.Try.f89 [[.int .i64 n_]] = bif !inR n_ (0) (2147483647) then some ([[D.sl true 1 []]], []) else loopRun (B89_0 n) 1 9 1048073 n (S89_0 n_ []) (k89_1 n) := by kernel_rfl
theorem m89 (n_ : Int) (hpre : (o89 n_).1 = true) : evFn ⟨Go.Proofs.Try.prog, Hx, 89⟩ T93.call (n_.toNat + 1) Go.Proofs.Try.f89 [[.int .i64 n_]] = some (o89 n_).2 := by
  refine (r89 n_ _).trans ?_
  show _ = (some ([[.sl true 1 (enS true (putNum n_))]], []) : Option (List Row × List Row))
  replace hpre : (true) = true := hpre
  cases hr : inR n_ 0 2147483647
  · unfold putNum
    rw [hr]
    rfl
  have hr' := hr
  unfold inR at hr'
  simp only [Bool.and_eq_true, decide_eq_true_eq] at hr'
  obtain ⟨m, rfl⟩ : ∃ m : Nat, n_ = Int.ofNat m := ⟨n_.toNat, by show _ = ((n_.toNat : Nat) : Int); omega⟩
  have hm : m ≤ 2147483647 := by have : ((m : Nat) : Int) ≤ 2147483647 := hr'.2; omega
  simp only [Bool.not_true, cond_false]
  have hg : putNum (Int.ofNat m) = putNumN m := by unfold putNum; rw [hr]; rfl
  rw [hg]
  refine loop_rule (V := Nat × List UInt8) (fun v => S89_0 (Int.ofNat v.1) (enS true v.2)) (fun v => v.2.length + v.1 ≤ 2147483647) (fun v => v.1) (fun v => some ([[D.sl true 1 (enS true (v.2 ++ putNumN v.1))]], [])) ?_ ((Int.ofNat m).toNat + 1) (m, []) (by simpa using hm) (Nat.lt_succ_self m)
  rintro ⟨k, ys⟩ hp f hf
  simp only at hp
  refine (q89_0 _ _ _ f _).trans ?_
  have h47 : decide ((ys.length + 1) * 1 ≤ 140737488355328) = true := decide_eq_true (by omega)
  have hu : putNumN k = if k > 127 then u8 ((k % 128 + 128 : Nat) : Int) :: putNumN (k / 128) else [u8 (k : Int)] := by rw [putNumN]
  by_cases h : k > 127
  · have h1 : decide (Int.ofNat k > 127) = true := decide_eq_true (by show ((k : Nat) : Int) > 127; omega)
    have h2 : (Int.ofNat k).tdiv 128 = Int.ofNat (k / 128) := rfl
    have h3 : (Int.ofNat k).tmod 128 + 128 = Int.ofNat (k % 128 + 128) := by show _ = (((k % 128 + 128 : Nat)) : Int); have : (Int.ofNat k).tmod 128 = ((k % 128 : Nat) : Int) := rfl; rw [this]; omega
    simp only [h1, h2, h3, enS_length, h47, cond_true, wrap_nat (show k / 128 ≤ 4611686018427387904 by omega), wrap_nat (show k % 128 + 128 ≤ 4611686018427387904 by omega), enS_u8_snoc]
    refine (hf (k / 128, ys ++ [u8 (Int.ofNat (k % 128 + 128))]) (by simp; omega) (by simp only; omega)).trans ?_
    simp only [hu, h, if_true, List.append_assoc, List.singleton_append]
    rfl
  · have h1 : decide (Int.ofNat k > 127) = false := decide_eq_false (by show ¬ ((k : Nat) : Int) > 127; omega)
    simp only [h1, cond_false]
    refine (aX89_2 _ _ _).trans ?_
    simp only [enS_length, h47, cond_true, enS_u8_snoc, hu, h, if_false]
    rfl
theorem s89 : SoundAt Go.Proofs.Try.prog Hx 89 c89 := soundAt_of T93_sound mixed Go.Proofs.Try.func89 (by kernel_rfl) (by
  intro rows r h
  unfold c89 at h
  split at h
  · rename_i n_
    obtain ⟨hp, hr⟩ := Prod.mk.inj (Option.some.inj h)
    subst hr
    exact ⟨_, m89 n_ hp⟩
  · cases h)
def T89 : Table := (89, c89) :: T93
theorem T89_sound : Table.Sound Go.Proofs.Try.prog Hx T89 := Table.sound_cons s89 T93_sound
/- putNums -/
def o79 (b : List UInt8) (list : List Int) : Bool × List Row × List Row := (decide (b.length ≤ 1000000) && decide (list.length ≤ 1000), [[.sl true 1 (enS true (b ++ putNums list))]], [])
def c79 : Contract
  | [[.sl true 1 b], [.sl false 1 list]] => some (isS UInt8 true b && isS Int false list && (o79 (deS UInt8 b) (deS Int list)).1, (o79 (deS UInt8 b) (deS Int list)).2.1, (o79 (deS UInt8 b) (deS Int list)).2.2)
  | _ => none

def k79_0 (n : Nat) : Ex → St → RR := kThen (fun st ↦ runCode (Ctx.mk prog Hx (79)) (Table.call T89) n (codeAt [1, 1] (bodyOf Go.Proofs.Try.f79)) (Lv.mk 16 [] 16) st (kLeave (Ctx.P (Ctx.mk prog Hx (79))) (List.zip (Array.toList (Go.Func.resultTypes Go.Proofs.Try.f79)) (Array.toList (Go.Func.results Go.Proofs.Try.f79))) [] [])) (kLeave (Ctx.P (Ctx.mk prog Hx (79))) (List.zip (Array.toList (Go.Func.resultTypes Go.Proofs.Try.f79)) (Array.toList (Go.Func.results Go.Proofs.Try.f79))) [] [])
def k79_1 (n : Nat) : Ex → St → RR := kBlock (0) (k79_0 n)
def S79_0 (b : List UInt8) (list : List Int) (i0 : Int) (es1 : List (List D)) : St := St.mk [TV.v false [C.view 1 0 0 [] 1 none], U_, U_, U_, U_, U_, U_, TV.v false [C.d (D.sl false 1 (enS false list))], I_ (ofNat (length (enS false list))), I_ i0, U_, U_, U_, U_, U_, U_, U_, U_, U_] [Root.mk false 1 (enS true b) 0 0 false true false, Root.mk false 1 es1 0 0 true true false]
def B79_0 (n : Nat) : St → (Ex → St → RR) → RR := runCode (Ctx.mk prog Hx (79)) (Table.call T89) n (codeAt [1, 0, 1, 0, 0] (bodyOf Go.Proofs.Try.f79)) (Lv.mk 897 [(0, 1)] 16)
def X79_2 (b : List UInt8) (list : List Int) (i0 : Int) (es1 : List (List D)) : St := St.mk [TV.v false [C.view 1 0 0 [] 1 none], U_, U_, U_, U_, U_, U_, TV.v false [C.d (D.sl false 1 (enS false list))], I_ (ofNat (length (enS false list))), I_ i0, B_ false, U_, U_, U_, U_, U_, U_, U_, U_] [Root.mk false 1 (enS true b) 0 0 false true false, Root.mk false 1 es1 0 0 true true false]
theorem q79_0 (b : List UInt8) (list : List Int) (n : Nat) (i0 : Int) (es1 : List (List D)) (f : St → RR) (K : Ex → St → RR) : B79_0 n (S79_0 b list i0 es1) (kThen (fun st ↦ f (St.head 1 897 261697 st)) K) = bif decide (i0 < ofNat (length (enS false list))) then bif decide (0 ≤ i0) && decide (i0 < ofNat (length (enS false list))) then bif Leaf.fit false (Leaf.int i64) (getD (getD (enS false list) (toNat i0) []) 0 D.dead) && true then bif (all (enS true (putNum (D.num (getD (getD (enS false list) (toNat i0) []) 0 D.dead)))) fun r ↦ all r D.noSl) && true && decide ((length es1 + length (enS true (putNum (D.num (getD (getD (enS false list) (toNat i0) []) 0 D.dead))))) * 1 ≤ 140737488355328) then f (S79_0 b list (wrap i64 (i0 + 1)) (append es1 (enS true (putNum (D.num (getD (getD (enS false list) (toNat i0) []) 0 D.dead)))))) else none else none else none else K (Ex.exit 0) (X79_2 b list i0 es1) := by kernel_rfl
theorem aX79_2 (b : List UInt8) (list : List Int) (n : Nat) (i0 : Int) (es1 : List (List D)) : k79_1 n (Ex.exit 0) (X79_2 b list i0 es1) = some ([[D.sl true 1 es1]], []) := by kernel_rfl
theorem r79 (b : List UInt8) (list : List Int) (n : Nat) : evFn ⟨prog, Hx, 79⟩ T89.call n Go.Proofs.Try.f79 [[.sl true 1 (enS true b)], [.sl false 1 (enS false list)]] = loopRun (B79_0 n) 1 897 261697 n (S79_0 b list (0) (enS true b)) (k79_1 n) := by kernel_rfl
theorem m79 (b : List UInt8) (list : List Int) (hpre : (o79 b list).1 = true) : evFn ⟨Go.Proofs.Try.prog, Hx, 79⟩ T89.call (list.length + 1) Go.Proofs.Try.f79 [[.sl true 1 (enS true b)], [.sl false 1 (enS false list)]] = some (o79 b list).2 := by
  refine (r79 b list _).trans ?_
  show _ = (some ([[.sl true 1 (enS true (b ++ putNums list))]], []) : Option (List Row × List Row))
  replace hpre : (decide (b.length ≤ 1000000) && decide (list.length ≤ 1000)) = true := hpre
  simp only [Bool.and_eq_true, decide_eq_true_eq] at hpre
  refine loop_list (xs := list) (fun i (ys : List UInt8) => S79_0 b list (Int.ofNat i) (enS true ys)) (fun i ys => ys.length ≤ 1000000 + 5 * i) (fun _ ys rest => some ([[D.sl true 1 (enS true (ys ++ putNums rest))]], [])) ?_ ?_ (list.length + 1) b (by omega) (by simpa using hpre.1)
  · rintro ys _ f
    refine (q79_0 b list _ _ _ f _).trans ?_
    simp only [enS_length, dec_lt, Nat.lt_irrefl, decide_false, cond_false]
    refine (aX79_2 b list _ _ _).trans ?_
    simp only [putNums, List.flatMap_nil, List.append_nil]
  · rintro i ys hi hl f hf
    refine (q79_0 b list _ _ _ f _).trans ?_
    have hn := putNum_length list[i]
    have h47 : decide ((ys.length + (putNum list[i]).length) * 1 ≤ 140737488355328) = true := decide_eq_true (by omega)
    simp only [enS_length, toNat_of, dec_lt, dec_ge, enS_get _ hi, hi, wrap_succ (show i < 4611686018427387904 by omega), decide_true, cond_true, Bool.and_self, noSl_u8, Bool.and_true, Bool.true_and, En.enc, List.getD_cons_zero, D.num, Leaf.fit, h47, List.append_eq, ← enS_append]
    refine (hf (ys ++ putNum list[i]) (by rw [List.length_append]; omega)).trans ?_
    simp only [putNums, List.flatMap_cons, List.append_assoc]
theorem s79 : SoundAt Go.Proofs.Try.prog Hx 79 c79 := soundAt_of T89_sound mixed Go.Proofs.Try.func79 (by kernel_rfl) (by
  intro rows r h
  unfold c79 at h
  split at h
  · rename_i b list
    obtain ⟨hp, hr⟩ := Prod.mk.inj (Option.some.inj h)
    subst hr
    simp only [Bool.and_eq_true] at hp
    obtain ⟨⟨hs0, hs1⟩, hp⟩ := hp
    obtain ⟨xs0, rfl⟩ := isS_ex hs0
    obtain ⟨xs1, rfl⟩ := isS_ex hs1
    simp only [deS_enS] at hp ⊢
    exact ⟨_, m79 xs0 xs1 hp⟩
  · cases h)
def T79 : Table := (79, c79) :: T89
theorem T79_sound : Table.Sound Go.Proofs.Try.prog Hx T79 := Table.sound_cons s79 T89_sound
/- l9Nums -/
def o72 (list : List Int) : Bool × List Row × List Row := (decide (list.length ≤ 1000), [[.sl true 1 (enS true (putNums list))]], [])
def c72 : Contract
  | [[.sl false 1 list]] => some (isS Int false list && (o72 (deS Int list)).1, (o72 (deS Int list)).2.1, (o72 (deS Int list)).2.2)
  | _ => none

def k72_0 (n : Nat) : Ex → St → RR := kThen (fun st ↦ runCode (Ctx.mk prog Hx (72)) (Table.call T79) n (codeAt [1, 1, 1] (bodyOf Go.Proofs.Try.f72)) (Lv.mk 4 [] 4) st (kLeave (Ctx.P (Ctx.mk prog Hx (72))) (List.zip (Array.toList (Go.Func.resultTypes Go.Proofs.Try.f72)) (Array.toList (Go.Func.results Go.Proofs.Try.f72))) [] [])) (kLeave (Ctx.P (Ctx.mk prog Hx (72))) (List.zip (Array.toList (Go.Func.resultTypes Go.Proofs.Try.f72)) (Array.toList (Go.Func.results Go.Proofs.Try.f72))) [] [])
def k72_1 (n : Nat) : Ex → St → RR := kBlock (0) (k72_0 n)
def S72_0 (list : List Int) (i0 : Int) (es1 : List (List D)) : St := St.mk [TV.v false [C.d (D.sl false 1 (enS false list))], U_, U_, TV.v false [C.view 1 0 0 [] 1 none], I_ i0, U_, U_, U_, U_, U_, U_, U_, U_, U_, U_, U_, U_, U_, U_, U_] [Root.mk false 1 [] 0 0 false true false, Root.mk false 1 es1 0 0 true true false]
def B72_0 (n : Nat) : St → (Ex → St → RR) → RR := runCode (Ctx.mk prog Hx (72)) (Table.call T79) n (codeAt [1, 1, 0, 1, 0, 0] (bodyOf Go.Proofs.Try.f72)) (Lv.mk 25 [(0, 8)] 4)
def X72_2 (list : List Int) (i0 : Int) (es1 : List (List D)) : St := St.mk [TV.v false [C.d (D.sl false 1 (enS false list))], U_, U_, TV.v false [C.view 1 0 0 [] 1 none], I_ i0, U_, I_ i0, TV.v false [C.d (D.sl false 1 (enS false list))], I_ (ofNat (length (enS false list))), B_ false, U_, U_, U_, U_, U_, U_, U_, U_, U_, U_] [Root.mk false 1 [] 0 0 false true false, Root.mk false 1 es1 0 0 true true false]
theorem q72_0 (list : List Int) (n : Nat) (i0 : Int) (es1 : List (List D)) (f : St → RR) (K : Ex → St → RR) : B72_0 n (S72_0 list i0 es1) (kThen (fun st ↦ f (St.head 1 25 524248 st)) K) = bif decide (i0 < ofNat (length (enS false list))) then bif decide (0 ≤ i0) && decide (i0 < ofNat (length (enS false list))) then bif Leaf.fit false (Leaf.int i64) (getD (getD (enS false list) (toNat i0) []) 0 D.dead) && true then bif (all (enS true (putNum (D.num (getD (getD (enS false list) (toNat i0) []) 0 D.dead)))) fun r ↦ all r D.noSl) && true && decide ((length es1 + length (enS true (putNum (D.num (getD (getD (enS false list) (toNat i0) []) 0 D.dead))))) * 1 ≤ 140737488355328) then f (S72_0 list (wrap i64 (i0 + 1)) (append es1 (enS true (putNum (D.num (getD (getD (enS false list) (toNat i0) []) 0 D.dead)))))) else none else none else none else K (Ex.exit 0) (X72_2 list i0 es1) := by kernel_rfl
theorem aX72_2 (list : List Int) (n : Nat) (i0 : Int) (es1 : List (List D)) : k72_1 n (Ex.exit 0) (X72_2 list i0 es1) = some ([[D.sl true 1 es1]], []) := by kernel_rfl
theorem r72 (list : List Int) (n : Nat) : evFn ⟨prog, Hx, 72⟩ T79.call n Go.Proofs.Try.f72 [[.sl false 1 (enS false list)]] = loopRun (B72_0 n) 1 25 524248 n (S72_0 list (0) []) (k72_1 n) := by kernel_rfl
theorem m72 (list : List Int) (hpre : (o72 list).1 = true) : evFn ⟨Go.Proofs.Try.prog, Hx, 72⟩ T79.call (list.length + 1) Go.Proofs.Try.f72 [[.sl false 1 (enS false list)]] = some (o72 list).2 := by
  refine (r72 list _).trans ?_
  show _ = (some ([[.sl true 1 (enS true (putNums list))]], []) : Option (List Row × List Row))
  replace hpre : (decide (list.length ≤ 1000)) = true := hpre
  simp only [decide_eq_true_eq] at hpre
  refine loop_list (xs := list) (fun i (ys : List UInt8) => S72_0 list (Int.ofNat i) (enS true ys)) (fun i ys => ys.length ≤ 5 * i) (fun _ ys rest => some ([[D.sl true 1 (enS true (ys ++ putNums rest))]], [])) ?_ ?_ (list.length + 1) [] (by omega) (Nat.le_refl 0)
  · rintro ys _ f
    refine (q72_0 list _ _ _ f _).trans ?_
    simp only [enS_length, dec_lt, Nat.lt_irrefl, decide_false, cond_false]
    refine (aX72_2 list _ _ _).trans ?_
    simp only [putNums, List.flatMap_nil, List.append_nil]
  · rintro i ys hi hl f hf
    refine (q72_0 list _ _ _ f _).trans ?_
    have hn := putNum_length list[i]
    have h47 : decide ((ys.length + (putNum list[i]).length) * 1 ≤ 140737488355328) = true := decide_eq_true (by omega)
    simp only [enS_length, toNat_of, dec_lt, dec_ge, enS_get _ hi, hi, wrap_succ (show i < 4611686018427387904 by omega), decide_true, cond_true, Bool.and_self, noSl_u8, Bool.and_true, Bool.true_and, En.enc, List.getD_cons_zero, D.num, Leaf.fit, h47, List.append_eq, ← enS_append]
    refine (hf (ys ++ putNum list[i]) (by rw [List.length_append]; omega)).trans ?_
    simp only [putNums, List.flatMap_cons, List.append_assoc]
theorem s72 : SoundAt Go.Proofs.Try.prog Hx 72 c72 := soundAt_of T79_sound mixed Go.Proofs.Try.func72 (by kernel_rfl) (by
  intro rows r h
  unfold c72 at h
  split at h
  · rename_i list
    obtain ⟨hp, hr⟩ := Prod.mk.inj (Option.some.inj h)
    subst hr
    simp only [Bool.and_eq_true] at hp
    obtain ⟨hs0, hp⟩ := hp
    obtain ⟨xs0, rfl⟩ := isS_ex hs0
    simp only [deS_enS] at hp ⊢
    exact ⟨_, m72 xs0 hp⟩
  · cases h)
def T72 : Table := (72, c72) :: T79
theorem T72_sound : Table.Sound Go.Proofs.Try.prog Hx T72 := Table.sound_cons s72 T79_sound
end Go.Ev
end
