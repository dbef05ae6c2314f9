/- Contracts of functions, each by its evaluation. -/
import Derived.Test.YtihhlajibgoemaaEvMd
import Derived.Test.YtihhlajibgoemaaProg
import Derived.KernelRfl
import Derived.Test.YtihhlajibgoemaaFHfn2
set_option linter.unusedVariables false
set_option linter.unusedSimpArgs false
set_option maxRecDepth 100000
noncomputable section
open List (getD length drop take set append replicate all isEmpty)
open Int (toNat ofNat)
open Go.IntKind (i64 wrap)
open Go.Proofs.Try (prog f21 f41 f42 f61 f7 func21 func41 func42 func61 func7)
namespace Go.Ev
open Go.RowKit Go.Md
def o61 (s : List Port) : Bool × List Row × List Row := (decide (s.length ≤ 1048576), [[.sl true 11 (enS true (s))]], [])
def c61 : Contract
  | [[.sl false 11 s]] => some (isS Port false s && (o61 (deS Port s)).1, (o61 (deS Port s)).2.1, (o61 (deS Port s)).2.2)
  | _ => none

theorem r61 (s : List Port) (n : Nat) : evFn ⟨prog, Hx, 61⟩ T11.call n f61 [[.sl false 11 (enS false s)]] = bif isEmpty (enS false s) then both (some ([[D.sl true 11 []]], [])) (bif decide ((0 + length (enS false s)) * 80 ≤ 140737488355328) then some ([[D.sl true 11 (enS false s)]], []) else none) else bif decide ((0 + length (enS false s)) * 80 ≤ 140737488355328) then some ([[D.sl true 11 (enS false s)]], []) else none := by kernel_rfl
theorem m61 (s : List Port) (hpre : (o61 s).1 = true) : evFn ⟨Go.Proofs.Try.prog, Hx, 61⟩ T11.call 0 f61 [[.sl false 11 (enS false s)]] = some (o61 s).2 := by
  refine (r61 s _).trans ?_
  show _ = (some ([[.sl true 11 (enS true (s))]], []) : Option (List Row × List Row))
  replace hpre : (decide (s.length ≤ 1048576)) = true := hpre
  have hlen := of_decide_eq_true hpre
  have h1 : decide ((0 + s.length) * 80 ≤ 140737488355328) = true := decide_eq_true (by omega)
  simp only [enS_length, h1, cond_true]
  cases s with
  | nil =>
    rw [show List.isEmpty (enS false ([] : List Port)) = true from rfl, cond_true]
    exact both_same _
  | cons x xs => rfl
theorem s61 : SoundAt Go.Proofs.Try.prog Hx 61 c61 := soundAt_of T11_sound mixed func61 (by kernel_rfl) (by
  intro rows r h
  unfold c61 at h
  split at h
  · rename_i s
    obtain ⟨hp, hr⟩ := Prod.mk.inj (Option.some.inj h)
    subst hr
    simp only [Bool.and_eq_true] at hp
    obtain ⟨hs0, hp⟩ := hp
    obtain ⟨xs0, rfl⟩ := isS_ex hs0
    simp only [deS_enS] at hp ⊢
    exact ⟨_, m61 xs0 hp⟩
  · cases h)
def T61 : Table := (61, c61) :: T11
theorem T61_sound : Table.Sound Go.Proofs.Try.prog Hx T61 := Table.sound_cons s61 T11_sound
def o42 (b : Bridge) : Bool × List Row × List Row := (decide (b.Ports.length ≤ 1048576), [[.int .i64 (b).Id, .sl true 11 (enS true (b).Ports)]], [])
def c42 : Contract
  | [[.int .i64 b_Id, .sl false 11 b_Ports]] => some (isS Port false b_Ports && (o42 ⟨b_Id, (deS Port b_Ports)⟩).1, (o42 ⟨b_Id, (deS Port b_Ports)⟩).2.1, (o42 ⟨b_Id, (deS Port b_Ports)⟩).2.2)
  | _ => none

theorem r42 (b : Bridge) (n : Nat) : evFn ⟨prog, Hx, 42⟩ T61.call n f42 [[.int .i64 b.Id, .sl false 11 (enS false b.Ports)]] = bif isS Port false (enS false (Bridge.Ports b)) && decide (length (deS Port (enS false (Bridge.Ports b))) ≤ 1048576) then some ([[D.int i64 (Bridge.Id b), D.sl true 11 (enS true (deS Port (enS false (Bridge.Ports b))))]], []) else none := by kernel_rfl
theorem m42 (b : Bridge) (hpre : (o42 b).1 = true) : evFn ⟨Go.Proofs.Try.prog, Hx, 42⟩ T61.call 0 f42 [[.int .i64 b.Id, .sl false 11 (enS false b.Ports)]] = some (o42 b).2 := by
  refine (r42 b _).trans ?_
  show _ = (some ([[.int .i64 (b).Id, .sl true 11 (enS true (b).Ports)]], []) : Option (List Row × List Row))
  replace hpre : (decide (b.Ports.length ≤ 1048576)) = true := hpre
  simp only [isS_enS, deS_enS, hpre, Bool.and_self, cond_true]
theorem s42 : SoundAt Go.Proofs.Try.prog Hx 42 c42 := soundAt_of T61_sound mixed func42 (by kernel_rfl) (by
  intro rows r h
  unfold c42 at h
  split at h
  · rename_i b_Id b_Ports
    obtain ⟨hp, hr⟩ := Prod.mk.inj (Option.some.inj h)
    subst hr
    simp only [Bool.and_eq_true] at hp
    obtain ⟨hs0, hp⟩ := hp
    obtain ⟨xs0, rfl⟩ := isS_ex hs0
    simp only [deS_enS] at hp ⊢
    exact ⟨_, m42 ⟨b_Id, xs0⟩ hp⟩
  · cases h)
def T42 : Table := (42, c42) :: T61
theorem T42_sound : Table.Sound Go.Proofs.Try.prog Hx T42 := Table.sound_cons s42 T61_sound
def o41 (s : List Link) : Bool × List Row × List Row := (decide (s.length ≤ 1048576), [[.sl true 4 (enS true (s))]], [])
def c41 : Contract
  | [[.sl false 4 s]] => some (isS Link false s && (o41 (deS Link s)).1, (o41 (deS Link s)).2.1, (o41 (deS Link s)).2.2)
  | _ => none

theorem r41 (s : List Link) (n : Nat) : evFn ⟨prog, Hx, 41⟩ T42.call n f41 [[.sl false 4 (enS false s)]] = bif isEmpty (enS false s) then both (some ([[D.sl true 4 []]], [])) (bif decide ((0 + length (enS false s)) * 32 ≤ 140737488355328) then some ([[D.sl true 4 (enS false s)]], []) else none) else bif decide ((0 + length (enS false s)) * 32 ≤ 140737488355328) then some ([[D.sl true 4 (enS false s)]], []) else none := by kernel_rfl
theorem m41 (s : List Link) (hpre : (o41 s).1 = true) : evFn ⟨Go.Proofs.Try.prog, Hx, 41⟩ T42.call 0 f41 [[.sl false 4 (enS false s)]] = some (o41 s).2 := by
  refine (r41 s _).trans ?_
  show _ = (some ([[.sl true 4 (enS true (s))]], []) : Option (List Row × List Row))
  replace hpre : (decide (s.length ≤ 1048576)) = true := hpre
  have hlen := of_decide_eq_true hpre
  have h1 : decide ((0 + s.length) * 32 ≤ 140737488355328) = true := decide_eq_true (by omega)
  simp only [enS_length, h1, cond_true]
  cases s with
  | nil =>
    rw [show List.isEmpty (enS false ([] : List Link)) = true from rfl, cond_true]
    exact both_same _
  | cons x xs => rfl
theorem s41 : SoundAt Go.Proofs.Try.prog Hx 41 c41 := soundAt_of T42_sound mixed func41 (by kernel_rfl) (by
  intro rows r h
  unfold c41 at h
  split at h
  · rename_i s
    obtain ⟨hp, hr⟩ := Prod.mk.inj (Option.some.inj h)
    subst hr
    simp only [Bool.and_eq_true] at hp
    obtain ⟨hs0, hp⟩ := hp
    obtain ⟨xs0, rfl⟩ := isS_ex hs0
    simp only [deS_enS] at hp ⊢
    exact ⟨_, m41 xs0 hp⟩
  · cases h)
def T41 : Table := (41, c41) :: T42
theorem T41_sound : Table.Sound Go.Proofs.Try.prog Hx T41 := Table.sound_cons s41 T42_sound
def o21 (n_ : Net) : Bool × List Row × List Row := (Net.small n_, [[.sl true 2 (enS true (n_).Bridges), .sl true 4 (enS true (n_).Links)]], [])
def c21 : Contract
  | [[.sl false 2 n__Bridges, .sl false 4 n__Links]] => some (isS Bridge false n__Bridges && isS Link false n__Links && (o21 ⟨(deS Bridge n__Bridges), (deS Link n__Links)⟩).1, (o21 ⟨(deS Bridge n__Bridges), (deS Link n__Links)⟩).2.1, (o21 ⟨(deS Bridge n__Bridges), (deS Link n__Links)⟩).2.2)
  | _ => none

def k21_0 (n : Nat) : Ex → St → RR := kThen (fun st ↦ runCode (Ctx.mk prog Hx (21)) (Table.call T41) n (codeAt [1, 1, 1] (bodyOf f21)) (Lv.mk 4 [] 4) st (kLeave (Ctx.P (Ctx.mk prog Hx (21))) (List.zip (Array.toList (Go.Func.resultTypes f21)) (Array.toList (Go.Func.results f21))) [] [])) (kLeave (Ctx.P (Ctx.mk prog Hx (21))) (List.zip (Array.toList (Go.Func.resultTypes f21)) (Array.toList (Go.Func.results f21))) [] [])
def k21_1 (n : Nat) : Ex → St → RR := kBlock (0) (k21_0 n)
def S21_0 (n_ : Net) (i0 : Int) (es1 : List (List D)) : St := St.mk [U_, U_, V_ [C.ptr 1 0 0 [] 2 0 0], V_ [C.ptr 3 0 0 [] 2 0 0], U_, U_, U_, U_, U_, U_, U_, V_ [C.d (D.sl false 2 (enS false (Net.Bridges n_)))], I_ (ofNat (length (enS false (Net.Bridges n_)))), I_ i0, U_, U_, U_, U_, U_, U_, U_, U_, U_, U_, U_, U_] [Root.mk true 2 [En.enc false n_] 0 0 true true false, Root.mk true 2 [[D.sl true 2 [], D.sl true 4 []]] 0 0 true true false, Root.mk false 4 (enS true (deS Link (enS false (Net.Links n_)))) 0 0 false true false, Root.mk true 2 [[D.sl true 2 es1, D.sl true 4 (enS true (deS Link (enS false (Net.Links n_))))]] 0 0 true true false]
def B21_0 (n : Nat) : St → (Ex → St → RR) → RR := runCode (Ctx.mk prog Hx (21)) (Table.call T41) n (codeAt [1, 1, 0, 1, 0, 0] (bodyOf f21)) (Lv.mk 14348 [(0, 12)] 4)
def X21_2 (n_ : Net) (i0 : Int) (es1 : List (List D)) : St := St.mk [U_, U_, V_ [C.ptr 1 0 0 [] 2 0 0], V_ [C.ptr 3 0 0 [] 2 0 0], U_, U_, U_, U_, U_, U_, U_, V_ [C.d (D.sl false 2 (enS false (Net.Bridges n_)))], I_ (ofNat (length (enS false (Net.Bridges n_)))), I_ i0, B_ false, U_, U_, U_, U_, U_, U_, U_, U_, U_, U_, U_] [Root.mk true 2 [En.enc false n_] 0 0 true true false, Root.mk true 2 [[D.sl true 2 [], D.sl true 4 []]] 0 0 true true false, Root.mk false 4 (enS true (deS Link (enS false (Net.Links n_)))) 0 0 false true false, Root.mk true 2 [[D.sl true 2 es1, D.sl true 4 (enS true (deS Link (enS false (Net.Links n_))))]] 0 0 true true false]
theorem q21_0 (n_ : Net) (n : Nat) (i0 : Int) (es1 : List (List D)) (f : St → RR) (K : Ex → St → RR) : B21_0 n (S21_0 n_ i0 es1) (kThen (fun st ↦ f (St.head 4 14348 33546272 st)) K) = bif decide (i0 < ofNat (length (enS false (Net.Bridges n_)))) then bif decide (0 ≤ i0) && decide (i0 < ofNat (length (enS false (Net.Bridges n_)))) then bif Leaf.fit false (Leaf.int i64) (getD (getD (enS false (Net.Bridges n_)) (toNat i0) []) 0 D.dead) && (Leaf.fit false (Leaf.sl 11 true) (getD (getD (enS false (Net.Bridges n_)) (toNat i0) []) 1 D.dead) && true) then bif isS Port false (D.rows (getD (getD (enS false (Net.Bridges n_)) (toNat i0) []) 1 D.dead)) && decide (length (deS Port (D.rows (getD (getD (enS false (Net.Bridges n_)) (toNat i0) []) 1 D.dead))) ≤ 1048576) then bif decide ((length es1 + 1) * 32 ≤ 140737488355328) then f (S21_0 n_ (wrap i64 (i0 + 1)) (append es1 [[D.int i64 (D.num (getD (getD (enS false (Net.Bridges n_)) (toNat i0) []) 0 D.dead)), D.sl true 11 (enS true (deS Port (D.rows (getD (getD (enS false (Net.Bridges n_)) (toNat i0) []) 1 D.dead))))]])) else none else none else none else none else K (Ex.exit 0) (X21_2 n_ i0 es1) := by kernel_rfl
theorem aX21_2 (n_ : Net) (n : Nat) (i0 : Int) (es1 : List (List D)) : k21_1 n (Ex.exit 0) (X21_2 n_ i0 es1) = some ([[D.sl true 2 es1, D.sl true 4 (enS true (deS Link (enS false (Net.Links n_))))]], []) := by kernel_rfl
theorem r21 (n_ : Net) (n : Nat) : evFn ⟨prog, Hx, 21⟩ T41.call n f21 [[.sl false 2 (enS false n_.Bridges), .sl false 4 (enS false n_.Links)]] = bif isS Link false (enS false (Net.Links n_)) && decide (length (deS Link (enS false (Net.Links n_))) ≤ 1048576) then loopRun (B21_0 n) 4 14348 33546272 n (S21_0 n_ (0) []) (k21_1 n) else none := by kernel_rfl
theorem m21 (n_ : Net) (hpre : (o21 n_).1 = true) : evFn ⟨Go.Proofs.Try.prog, Hx, 21⟩ T41.call (n_.Bridges.length + 1) f21 [[.sl false 2 (enS false n_.Bridges), .sl false 4 (enS false n_.Links)]] = some (o21 n_).2 := by
  refine (r21 n_ _).trans ?_
  show _ = (some ([[.sl true 2 (enS true (n_).Bridges), .sl true 4 (enS true (n_).Links)]], []) : Option (List Row × List Row))
  replace hpre : (Net.small n_) = true := hpre
  obtain ⟨hs1, hs2, hs3⟩ := net_small hpre
  refine bif_t (by rw [isS_enS, deS_enS, decide_eq_true hs3]; rfl) ?_
  refine loop_list (xs := n_.Bridges) (fun i (bs : List Bridge) => S21_0 n_ (Int.ofNat i) (enS true bs)) (fun i bs => bs = n_.Bridges.take i) (fun _ _ _ => some ([[D.sl true 2 (enS true n_.Bridges), D.sl true 4 (enS true n_.Links)]], [])) ?_ ?_ (n_.Bridges.length + 1) [] (by omega) rfl
  · rintro bs rfl f
    refine (q21_0 n_ _ _ _ f _).trans ?_
    rw [end_lt, cond_false]
    refine (aX21_2 n_ _ _ _).trans ?_
    rw [List.take_length, deS_enS]
  · rintro i bs hi hbs f hf
    have hpl := hs2 _ (List.getElem_mem hi)
    have hbl : bs.length ≤ i := by rw [hbs, List.length_take]; omega
    refine (q21_0 n_ _ _ _ f _).trans ?_
    refine bif_t (in_lt false hi) (bif_t (by rw [in_lt false hi, dec_ge]; rfl) (bif_t (by rw [toNat_of, enS_get false hi]; rfl) (bif_t (by rw [toNat_of, enS_get false hi]; show (isS Port false (enS false n_.Bridges[i].Ports) && decide (List.length (deS Port (enS false n_.Bridges[i].Ports)) ≤ 1048576)) = true; rw [isS_enS, deS_enS, decide_eq_true hpl]; rfl) (bif_t (decide_eq_true (by rw [enS_length]; omega)) ?_))))
    rw [toNat_of, enS_get false hi, wrap_succ (show i < 4611686018427387904 by omega)]
    have e : List.append (enS true bs) [[D.int .i64 (D.num (List.getD (En.enc false n_.Bridges[i]) 0 D.dead)), D.sl true 11 (enS true (deS Port (D.rows (List.getD (En.enc false n_.Bridges[i]) 1 D.dead))))]] = enS true (bs ++ [n_.Bridges[i]]) := by
      show List.append (enS true bs) [[D.int .i64 n_.Bridges[i].Id, D.sl true 11 (enS true (deS Port (enS false n_.Bridges[i].Ports)))]] = _
      rw [deS_enS]
      exact enS_snoc true bs n_.Bridges[i]
    rw [e]
    exact hf _ (by rw [hbs, List.take_append_getElem])
theorem s21 : SoundAt Go.Proofs.Try.prog Hx 21 c21 := soundAt_of T41_sound mixed func21 (by kernel_rfl) (by
  intro rows r h
  unfold c21 at h
  split at h
  · rename_i n__Bridges n__Links
    obtain ⟨hp, hr⟩ := Prod.mk.inj (Option.some.inj h)
    subst hr
    simp only [Bool.and_eq_true] at hp
    obtain ⟨⟨hs0, hs1⟩, hp⟩ := hp
    obtain ⟨xs0, rfl⟩ := isS_ex hs0
    obtain ⟨xs1, rfl⟩ := isS_ex hs1
    simp only [deS_enS] at hp ⊢
    exact ⟨_, m21 ⟨xs0, xs1⟩ hp⟩
  · cases h)
def T21 : Table := (21, c21) :: T41
theorem T21_sound : Table.Sound Go.Proofs.Try.prog Hx T21 := Table.sound_cons s21 T41_sound
def o7 (n_ : Net) : Bool × List Row × List Row := (Net.small n_, [[.sl true 2 (enS true (fabN n_).Net.Bridges), .sl true 4 (enS true (fabN n_).Net.Links), .sl true 3 (enS true (fabN n_).Cards)], [.bool (hostsB n_)]], [])
def c7 : Contract
  | [[.sl false 2 n__Bridges, .sl false 4 n__Links]] => some (isS Bridge false n__Bridges && isS Link false n__Links && (o7 ⟨(deS Bridge n__Bridges), (deS Link n__Links)⟩).1, (o7 ⟨(deS Bridge n__Bridges), (deS Link n__Links)⟩).2.1, (o7 ⟨(deS Bridge n__Bridges), (deS Link n__Links)⟩).2.2)
  | _ => none

def k7_0 (n : Nat) : Ex → St → RR := kThen (fun st ↦ runCode (Ctx.mk prog Hx (7)) (Table.call T21) n (codeAt [1, 1, 1, 1] (bodyOf f7)) (Lv.mk 12 [] 12) st (kLeave (Ctx.P (Ctx.mk prog Hx (7))) (List.zip (Array.toList (Go.Func.resultTypes f7)) (Array.toList (Go.Func.results f7))) [] [])) (kLeave (Ctx.P (Ctx.mk prog Hx (7))) (List.zip (Array.toList (Go.Func.resultTypes f7)) (Array.toList (Go.Func.results f7))) [] [])
def k7_1 (n : Nat) : Ex → St → RR := kBlock (0) (k7_0 n)
def S7_0 (n_ : Net) (i0 : Int) (es1 : List (List D)) : St := St.mk [U_, U_, V_ [C.ptr 1 0 0 [] 3 0 0], U_, V_ [C.ptr 4 0 0 [] 3 0 0], U_, U_, U_, U_, U_, U_, U_, U_, U_, U_, U_, V_ [C.d (D.sl false 2 (enS false (Net.Bridges n_)))], I_ (ofNat (length (enS false (Net.Bridges n_)))), I_ i0, U_, U_, U_, U_, U_, U_, U_, U_, U_, U_, U_, U_, U_, U_, U_, U_, U_, U_, U_, U_, U_, U_, U_, U_] [Root.mk true 2 [En.enc false n_] 0 0 true true false, Root.mk true 3 [[D.sl true 2 [], D.sl true 4 [], D.sl true 3 []]] 0 0 true true false, Root.mk false 2 (enS true (deS Bridge (enS false (Net.Bridges n_)))) 0 0 false true false, Root.mk false 4 (enS true (deS Link (enS false (Net.Links n_)))) 0 0 false true false, Root.mk true 3 [[D.sl true 2 (enS true (deS Bridge (enS false (Net.Bridges n_)))), D.sl true 4 (enS true (deS Link (enS false (Net.Links n_)))), D.sl true 3 es1]] 0 0 true true false]
def B7_0 (n : Nat) : St → (Ex → St → RR) → RR := runCode (Ctx.mk prog Hx (7)) (Table.call T21) n (codeAt [1, 1, 1, 0, 1, 0, 0] (bodyOf f7)) (Lv.mk 458772 [(0, 20)] 12)
def k7_2 (f : St → RR) (K : Ex → St → RR) : Ex → St → RR := kThen (fun st ↦ f (St.head 5 458772 4398046249152 st)) K
def k7_3 (n : Nat) (f : St → RR) (K : Ex → St → RR) : Ex → St → RR := kThen (fun st ↦ runCode (Ctx.mk prog Hx (7)) (Table.call T21) n (codeAt [1, 1, 1, 0, 1, 0, 0, 1, 1, 1] (bodyOf f7)) (Lv.mk 458772 [(0, 20)] 12) st (k7_2 f K)) (k7_2 f K)
def k7_4 (n : Nat) (f : St → RR) (K : Ex → St → RR) : Ex → St → RR := kBlock (1) (k7_3 n f K)
def k7_5 (n : Nat) (f : St → RR) (K : Ex → St → RR) : Ex → St → RR := kThen (fun st ↦ runCode (Ctx.mk prog Hx (7)) (Table.call T21) n (codeAt [1, 1, 1, 0, 1, 0, 0, 1, 1, 0, 0, 1, 1, 1] (bodyOf f7)) (Lv.mk 458772 [(1, 458772), (0, 20)] 12) st (k7_4 n f K)) (k7_4 n f K)
def k7_6 (n : Nat) (f : St → RR) (K : Ex → St → RR) : Ex → St → RR := kBlock (2) (k7_5 n f K)
def S7_1 (n_ : Net) (i0 : Int) (es1 : List (List D)) (i0_ : Int) (es1_ : List (List D)) : St := St.mk [U_, U_, V_ [C.ptr 1 0 0 [] 3 0 0], U_, V_ [C.ptr 4 0 0 [] 3 0 0], U_, U_, V_ [C.ptr 7 0 0 [] 3 0 0], U_, U_, U_, U_, U_, U_, U_, U_, V_ [C.d (D.sl false 2 (enS false (Net.Bridges n_)))], I_ (ofNat (length (enS false (Net.Bridges n_)))), I_ i0, U_, U_, U_, U_, U_, U_, I_ i0_, U_, U_, U_, U_, U_, U_, U_, U_, U_, U_, U_, U_, U_, U_, U_, U_, U_] [Root.mk true 2 [En.enc false n_] 0 0 true true false, Root.mk true 3 [[D.sl true 2 [], D.sl true 4 [], D.sl true 3 []]] 0 0 true true false, Root.mk false 2 (enS true (deS Bridge (enS false (Net.Bridges n_)))) 0 0 false true false, Root.mk false 4 (enS true (deS Link (enS false (Net.Links n_)))) 0 0 false true false, Root.mk true 3 [[D.sl true 2 (enS true (deS Bridge (enS false (Net.Bridges n_)))), D.sl true 4 (enS true (deS Link (enS false (Net.Links n_)))), D.sl true 3 es1]] 0 0 true true false, Root.mk true 2 [[D.int i64 (D.num (getD (getD (enS false (Net.Bridges n_)) (toNat i0) []) 0 D.dead)), D.sl false 11 (D.rows (getD (getD (enS false (Net.Bridges n_)) (toNat i0) []) 1 D.dead))]] 0 0 true true false, Root.mk false 1 (enS true (opensL (En.dec (getD (enS false (Net.Bridges n_)) (toNat i0) [])))) 0 0 false true false, Root.mk true 3 [[D.sl true 1 (enS true (opensL (En.dec (getD (enS false (Net.Bridges n_)) (toNat i0) [])))), D.sl true 2 es1_, D.sl true 4 []]] 0 0 true true false]
def B7_1 (n : Nat) : St → (Ex → St → RR) → RR := runCode (Ctx.mk prog Hx (7)) (Table.call T21) n (codeAt [1, 1, 1, 0, 1, 0, 0, 1, 1, 0, 0, 1, 1, 0, 1, 0, 0] (bodyOf f7)) (Lv.mk 34013332 [(2, 458900), (1, 458772), (0, 20)] 12)
def X7_7 (n_ : Net) (i0 : Int) (es1 : List (List D)) (i0_ : Int) (es1_ : List (List D)) : St := St.mk [U_, U_, V_ [C.ptr 1 0 0 [] 3 0 0], U_, V_ [C.ptr 4 0 0 [] 3 0 0], U_, U_, V_ [C.ptr 7 0 0 [] 3 0 0], U_, U_, U_, U_, U_, U_, U_, U_, V_ [C.d (D.sl false 2 (enS false (Net.Bridges n_)))], I_ (ofNat (length (enS false (Net.Bridges n_)))), I_ i0, U_, U_, U_, U_, U_, U_, I_ i0_, B_ false, U_, U_, U_, U_, U_, U_, U_, U_, U_, U_, U_, U_, U_, U_, U_, U_] [Root.mk true 2 [En.enc false n_] 0 0 true true false, Root.mk true 3 [[D.sl true 2 [], D.sl true 4 [], D.sl true 3 []]] 0 0 true true false, Root.mk false 2 (enS true (deS Bridge (enS false (Net.Bridges n_)))) 0 0 false true false, Root.mk false 4 (enS true (deS Link (enS false (Net.Links n_)))) 0 0 false true false, Root.mk true 3 [[D.sl true 2 (enS true (deS Bridge (enS false (Net.Bridges n_)))), D.sl true 4 (enS true (deS Link (enS false (Net.Links n_)))), D.sl true 3 es1]] 0 0 true true false, Root.mk true 2 [[D.int i64 (D.num (getD (getD (enS false (Net.Bridges n_)) (toNat i0) []) 0 D.dead)), D.sl false 11 (D.rows (getD (getD (enS false (Net.Bridges n_)) (toNat i0) []) 1 D.dead))]] 0 0 true true false, Root.mk false 1 (enS true (opensL (En.dec (getD (enS false (Net.Bridges n_)) (toNat i0) [])))) 0 0 false true false, Root.mk true 3 [[D.sl true 1 (enS true (opensL (En.dec (getD (enS false (Net.Bridges n_)) (toNat i0) [])))), D.sl true 2 es1_, D.sl true 4 []]] 0 0 true true false]
theorem q7_1 (n_ : Net) (n : Nat) (i0 : Int) (es1 : List (List D)) (i0_ : Int) (es1_ : List (List D)) (f_ : St → RR) (K_ : Ex → St → RR) : B7_1 n (S7_1 n_ i0 es1 i0_ es1_) (kThen (fun st ↦ f_ (St.head 8 34013332 34326183936 st)) K_) = bif decide (i0_ < 4) then bif decide ((length es1_ + 1) * 32 ≤ 140737488355328) then f_ (S7_1 n_ i0 es1 (wrap i64 (i0_ + 1)) (append es1_ [[D.int i64 (1), D.sl true 1 [[D.int i64 (1)]]]])) else none else K_ (Ex.exit 2) (X7_7 n_ i0 es1 i0_ es1_) := by kernel_rfl
theorem aX7_7 (n_ : Net) (n : Nat) (i0 : Int) (es1 : List (List D)) (f : St → RR) (K : Ex → St → RR) (i0_ : Int) (es1_ : List (List D)) : k7_6 n f K (Ex.exit 2) (X7_7 n_ i0 es1 i0_ es1_) = bif decide ((length es1 + 1) * 72 ≤ 140737488355328) then f (S7_0 n_ (wrap i64 (i0 + 1)) (append es1 [[D.sl true 1 (enS true (opensL (En.dec (getD (enS false (Net.Bridges n_)) (toNat i0) [])))), D.sl true 2 es1_, D.sl true 4 []]])) else none := by kernel_rfl
def X7_8 (n_ : Net) (i0 : Int) (es1 : List (List D)) : St := St.mk [U_, U_, V_ [C.ptr 1 0 0 [] 3 0 0], U_, V_ [C.ptr 4 0 0 [] 3 0 0], U_, U_, U_, U_, U_, U_, U_, U_, U_, U_, U_, V_ [C.d (D.sl false 2 (enS false (Net.Bridges n_)))], I_ (ofNat (length (enS false (Net.Bridges n_)))), I_ i0, B_ false, U_, U_, U_, U_, U_, U_, U_, U_, U_, U_, U_, U_, U_, U_, U_, U_, U_, U_, U_, U_, U_, U_, U_] [Root.mk true 2 [En.enc false n_] 0 0 true true false, Root.mk true 3 [[D.sl true 2 [], D.sl true 4 [], D.sl true 3 []]] 0 0 true true false, Root.mk false 2 (enS true (deS Bridge (enS false (Net.Bridges n_)))) 0 0 false true false, Root.mk false 4 (enS true (deS Link (enS false (Net.Links n_)))) 0 0 false true false, Root.mk true 3 [[D.sl true 2 (enS true (deS Bridge (enS false (Net.Bridges n_)))), D.sl true 4 (enS true (deS Link (enS false (Net.Links n_)))), D.sl true 3 es1]] 0 0 true true false]
theorem q7_0 (n_ : Net) (n : Nat) (i0 : Int) (es1 : List (List D)) (f : St → RR) (K : Ex → St → RR) : B7_0 n (S7_0 n_ i0 es1) (kThen (fun st ↦ f (St.head 5 458772 4398046249152 st)) K) = bif decide (i0 < ofNat (length (enS false (Net.Bridges n_)))) then bif decide (0 ≤ i0) && decide (i0 < ofNat (length (enS false (Net.Bridges n_)))) then bif Leaf.fit false (Leaf.int i64) (getD (getD (enS false (Net.Bridges n_)) (toNat i0) []) 0 D.dead) && (Leaf.fit false (Leaf.sl 11 true) (getD (getD (enS false (Net.Bridges n_)) (toNat i0) []) 1 D.dead) && true) then bif isS Port false (D.rows (getD (getD (enS false (Net.Bridges n_)) (toNat i0) []) 1 D.dead)) && decide (length (deS Port (D.rows (getD (getD (enS false (Net.Bridges n_)) (toNat i0) []) 1 D.dead))) ≤ 4) then loopRun (B7_1 n) 8 34013332 34326183936 n (S7_1 n_ i0 es1 (0) []) (k7_6 n f K) else none else none else none else K (Ex.exit 0) (X7_8 n_ i0 es1) := by kernel_rfl
theorem aX7_8 (n_ : Net) (n : Nat) (i0 : Int) (es1 : List (List D)) : k7_1 n (Ex.exit 0) (X7_8 n_ i0 es1) = some ([[D.sl true 2 (enS true (deS Bridge (enS false (Net.Bridges n_)))), D.sl true 4 (enS true (deS Link (enS false (Net.Links n_)))), D.sl true 3 es1], [D.bool true]], []) := by kernel_rfl
theorem r7 (n_ : Net) (n : Nat) : evFn ⟨prog, Hx, 7⟩ T21.call n f7 [[.sl false 2 (enS false n_.Bridges), .sl false 4 (enS false n_.Links)]] = bif isS Bridge false (enS false (Net.Bridges n_)) && isS Link false (enS false (Net.Links n_)) && Net.small (Net.mk (deS Bridge (enS false (Net.Bridges n_))) (deS Link (enS false (Net.Links n_)))) then bif !hostsB (Net.mk (deS Bridge (enS false (Net.Bridges n_))) (deS Link (enS false (Net.Links n_)))) then some ([[D.sl true 2 [], D.sl true 4 [], D.sl true 3 []], [D.bool false]], []) else bif isS Bridge false (enS false (Net.Bridges n_)) && isS Link false (enS false (Net.Links n_)) && Net.small (Net.mk (deS Bridge (enS false (Net.Bridges n_))) (deS Link (enS false (Net.Links n_)))) then loopRun (B7_0 n) 5 458772 4398046249152 n (S7_0 n_ (0) []) (k7_1 n) else none else none := by kernel_rfl
theorem m7 (n_ : Net) (hpre : (o7 n_).1 = true) : evFn ⟨Go.Proofs.Try.prog, Hx, 7⟩ T21.call (6 + n_.Bridges.length) f7 [[.sl false 2 (enS false n_.Bridges), .sl false 4 (enS false n_.Links)]] = some (o7 n_).2 := by
  refine (r7 n_ _).trans ?_
  show _ = (some ([[.sl true 2 (enS true (fabN n_).Net.Bridges), .sl true 4 (enS true (fabN n_).Net.Links), .sl true 3 (enS true (fabN n_).Cards)], [.bool (hostsB n_)]], []) : Option (List Row × List Row))
  replace hpre : (Net.small n_) = true := hpre
  obtain ⟨hs1, hs2, hs3⟩ := net_small hpre
  show _ = fabT (fabN n_).Net (fabN n_).Cards (hostsB n_)
  refine bif_t (nsm hpre) ?_
  rw [netmk]
  cases hk : hostsB n_
  · have e := fabN_no hk
    rw [hk] at e
    rw [e]
    rfl
  have e := fabN_yes hk
  rw [hk] at e
  rw [e]
  have hok : netOk n_ = true := by
    unfold hostsB at hk
    rw [Bool.and_eq_true] at hk
    exact hk.2
  have h4 := net_four hok
  refine bif_f rfl (bif_t (by have := nsm hpre; rw [netmk] at this; exact this) ?_)
  refine loop_list (xs := n_.Bridges) (fun i (cs : List Card) => S7_0 n_ (Int.ofNat i) (enS true cs)) (fun i cs => cs = (n_.Bridges.take i).map cardB) (fun _ _ _ => fabT n_ (n_.Bridges.map cardB) true) ?_ ?_ (6 + n_.Bridges.length) [] (by omega) rfl
  · rintro cs rfl f
    refine (q7_0 n_ _ _ _ f _).trans ?_
    rw [end_lt, cond_false]
    refine (aX7_8 n_ _ _ _).trans ?_
    rw [List.take_length, deS_enS, deS_enS]
    rfl
  · rintro i cs hi hcs f hf
    have hpl := h4 _ (List.getElem_mem hi)
    have hcl : cs.length ≤ i := by rw [hcs, List.length_map, List.length_take]; omega
    refine (q7_0 n_ _ _ _ f _).trans ?_
    refine bif_t (in_lt false hi) (bif_t (by rw [in_lt false hi, dec_ge]; rfl) (bif_t (by rw [toNat_of, enS_get false hi]; rfl) (bif_t (by rw [toNat_of, enS_get false hi]; show (isS Port false (enS false n_.Bridges[i].Ports) && decide (List.length (deS Port (enS false n_.Bridges[i].Ports)) ≤ 4)) = true; rw [isS_enS, deS_enS, decide_eq_true hpl]; rfl) ?_)))
    refine (loop_rule (V := Nat) (fun j => S7_1 n_ (Int.ofNat i) (enS true cs) (Int.ofNat j) (enS true (List.replicate j (⟨1, [1]⟩ : Member)))) (fun j => j ≤ 4) (fun j => 4 - j) (fun _ => f (S7_0 n_ (Int.ofNat (i + 1)) (enS true (cs ++ [cardB n_.Bridges[i]])))) ?_ (6 + n_.Bridges.length) 0 (Nat.zero_le _) (by omega)).trans ?_
    · intro j hj f2 hf2
      refine (q7_1 n_ _ _ _ _ _ f2 _).trans ?_
      by_cases h : j < 4
      · refine bif_t (decide_eq_true (show (j : Int) < 4 by omega)) (bif_t (decide_eq_true (by rw [enS_length, List.length_replicate]; omega)) ?_)
        rw [wrap_succ (by omega)]
        have e2 : List.append (enS true (List.replicate j (⟨1, [1]⟩ : Member))) [[D.int .i64 1, D.sl true 1 [[D.int .i64 1]]]] = enS true (List.replicate (j + 1) (⟨1, [1]⟩ : Member)) := by
          refine (enS_snoc true (List.replicate j (⟨1, [1]⟩ : Member)) ⟨1, [1]⟩).trans ?_
          rw [List.replicate_succ']
        rw [e2]
        exact hf2 (j + 1) (by omega) (by omega)
      · obtain rfl : j = 4 := by omega
        refine bif_f rfl ?_
        refine (aX7_7 n_ _ _ _ _ _ _ _).trans ?_
        refine bif_t (decide_eq_true (by rw [enS_length]; omega)) ?_
        rw [toNat_of, enS_get false hi, En.dec_enc, wrap_succ (show i < 4611686018427387904 by omega)]
        exact congrArg f (congrArg (S7_0 n_ _) (enS_snoc true cs (cardB n_.Bridges[i])))
    · exact hf _ (by rw [hcs, ← List.take_append_getElem hi, List.map_append]; rfl)
theorem s7 : SoundAt Go.Proofs.Try.prog Hx 7 c7 := soundAt_of T21_sound mixed func7 (by kernel_rfl) (by
  intro rows r h
  unfold c7 at h
  split at h
  · rename_i n__Bridges n__Links
    obtain ⟨hp, hr⟩ := Prod.mk.inj (Option.some.inj h)
    subst hr
    simp only [Bool.and_eq_true] at hp
    obtain ⟨⟨hs0, hs1⟩, hp⟩ := hp
    obtain ⟨xs0, rfl⟩ := isS_ex hs0
    obtain ⟨xs1, rfl⟩ := isS_ex hs1
    simp only [deS_enS] at hp ⊢
    exact ⟨_, m7 ⟨xs0, xs1⟩ hp⟩
  · cases h)
def T7 : Table := (7, c7) :: T21
theorem T7_sound : Table.Sound Go.Proofs.Try.prog Hx T7 := Table.sound_cons s7 T21_sound
end Go.Ev
end
