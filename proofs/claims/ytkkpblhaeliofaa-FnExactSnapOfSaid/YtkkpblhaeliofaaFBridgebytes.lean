/- Contracts of functions, each by its evaluation. -/
import Derived.Test.YtkkpblhaeliofaaEvMd
import Derived.Test.YtkkpblhaeliofaaProg
import Derived.KernelRfl
import Derived.Test.YtkkpblhaeliofaaFBridge
set_option linter.unusedVariables false
set_option linter.unusedSimpArgs false
set_option maxRecDepth 100000
noncomputable section
open List (getD length drop take set append replicate all isEmpty)
open Int (toNat ofNat)
open Go.IntKind (i64 wrap)
open Go.Proofs.Try (prog f23 f30 func23 func30)
namespace Go.Ev
open Go.RowKit Go.Md
end Go.Ev
namespace Go.Md
open Go Go.Ev
def bridgeRaw (b : Bridge) : List UInt8 := putNums [b.Id, (b.Ports.length : Int)] ++ portsBs b.Ports
def bridgeBs (b : Bridge) : List UInt8 := bif bridgeOk b then bridgeRaw b ++ sumBs (sumOf (bridgeRaw b)) else []
theorem portsBs_length : ∀ ps : List Port, (portsBs ps).length ≤ 41 * ps.length
  | [] => Nat.le_refl 0
  | p :: ps => by
    have h1 := portBs_length p
    have h2 := portsBs_length ps
    unfold portsBs at h2 ⊢
    rw [List.flatMap_cons, List.length_append, List.length_cons]
    omega
theorem bridge_four {b : Bridge} (h : bridgeOk b = true) : b.Ports.length ≤ 4 := by
  unfold bridgeOk inR at h
  simp only [Bool.and_eq_true, decide_eq_true_eq] at h
  omega
theorem bridgeRaw_length (b : Bridge) : (bridgeRaw b).length ≤ 10 + 41 * b.Ports.length := by
  have h1 := putNums_length [b.Id, (b.Ports.length : Int)]
  have h2 := portsBs_length b.Ports
  unfold bridgeRaw
  rw [List.length_append]
  simp only [List.length_cons, List.length_nil] at h1
  omega
theorem bridgeBs_length (b : Bridge) : (bridgeBs b).length ≤ 178 := by
  unfold bridgeBs
  cases h : bridgeOk b
  · simp
  · have h1 := bridge_four h
    have h2 := bridgeRaw_length b
    simp only [cond_true, List.length_append, sumBs, List.length_cons, List.length_nil]
    omega
end Go.Md
namespace Go.Ev
open Go.Md
def o23 (b : Bridge) : Bool × List Row × List Row := (decide (b.Ports.length ≤ 1048576), [[.sl true 1 (enS true (bridgeBs b))]], [])
def c23 : Contract
  | [[.int .i64 b_Id, .sl false 11 b_Ports]] => some (isS Port false b_Ports && (o23 ⟨b_Id, (deS Port b_Ports)⟩).1, (o23 ⟨b_Id, (deS Port b_Ports)⟩).2.1, (o23 ⟨b_Id, (deS Port b_Ports)⟩).2.2)
  | _ => none

def k23_0 (n : Nat) : Ex → St → RR := kThen (fun st ↦ runCode (Ctx.mk prog Hx (23)) (Table.call T64) n (codeAt [1, 1, 1, 1] (bodyOf f23)) (Lv.mk 4 [] 4) st (kLeave (Ctx.P (Ctx.mk prog Hx (23))) (List.zip (Array.toList (Go.Func.resultTypes f23)) (Array.toList (Go.Func.results f23))) [] [])) (kLeave (Ctx.P (Ctx.mk prog Hx (23))) (List.zip (Array.toList (Go.Func.resultTypes f23)) (Array.toList (Go.Func.results f23))) [] [])
def k23_1 (n : Nat) : Ex → St → RR := kBlock (0) (k23_0 n)
def S23_0 (b : Bridge) (i0 : Int) (es1 : List (List D)) : St := St.mk [U_, U_, U_, V_ [C.view 3 0 0 [] 1 none], U_, U_, U_, U_, U_, U_, U_, U_, U_, U_, U_, U_, U_, V_ [C.d (D.sl false 11 (enS false (Bridge.Ports b)))], I_ (ofNat (length (enS false (Bridge.Ports b)))), I_ i0, U_, U_, U_, U_, U_, U_, U_, U_, U_, U_] [Root.mk true 2 [[D.int i64 (Bridge.Id b), D.sl false 11 (enS false (Bridge.Ports b))]] 0 0 true true false, Root.mk false 1 [[D.int i64 (Bridge.Id b)], [D.int i64 (ofNat (length (enS false (Bridge.Ports b))))]] 0 0 true true false, Root.mk false 1 (enS true (append (deS UInt8 []) (putNums (deS Int [[D.int i64 (Bridge.Id b)], [D.int i64 (ofNat (length (enS false (Bridge.Ports b))))]])))) 0 0 false true false, Root.mk false 1 es1 0 0 true true false]
def B23_0 (n : Nat) : St → (Ex → St → RR) → RR := runCode (Ctx.mk prog Hx (23)) (Table.call T64) n (codeAt [1, 1, 1, 0, 1, 0, 0] (bodyOf f23)) (Lv.mk 917512 [(0, 8)] 4)
def X23_2 (b : Bridge) (i0 : Int) (es1 : List (List D)) : St := St.mk [U_, U_, U_, V_ [C.view 3 0 0 [] 1 none], U_, U_, U_, U_, U_, U_, U_, U_, U_, U_, U_, U_, U_, V_ [C.d (D.sl false 11 (enS false (Bridge.Ports b)))], I_ (ofNat (length (enS false (Bridge.Ports b)))), I_ i0, B_ false, U_, U_, U_, U_, U_, U_, U_, U_, U_] [Root.mk true 2 [[D.int i64 (Bridge.Id b), D.sl false 11 (enS false (Bridge.Ports b))]] 0 0 true true false, Root.mk false 1 [[D.int i64 (Bridge.Id b)], [D.int i64 (ofNat (length (enS false (Bridge.Ports b))))]] 0 0 true true false, Root.mk false 1 (enS true (append (deS UInt8 []) (putNums (deS Int [[D.int i64 (Bridge.Id b)], [D.int i64 (ofNat (length (enS false (Bridge.Ports b))))]])))) 0 0 false true false, Root.mk false 1 es1 0 0 true true false]
theorem q23_0 (b : Bridge) (n : Nat) (i0 : Int) (es1 : List (List D)) (f : St → RR) (K : Ex → St → RR) : B23_0 n (S23_0 b i0 es1) (kThen (fun st ↦ f (St.head 3 917512 267911208 st)) K) = bif decide (i0 < ofNat (length (enS false (Bridge.Ports b)))) then bif decide (0 ≤ i0) && decide (i0 < ofNat (length (enS false (Bridge.Ports b)))) then bif Leaf.fit false Leaf.bool (getD (getD (enS false (Bridge.Ports b)) (toNat i0) []) 0 D.dead) && (Leaf.fit false Leaf.bool (getD (getD (enS false (Bridge.Ports b)) (toNat i0) []) 1 D.dead) && (Leaf.fit false (Leaf.int i64) (getD (getD (enS false (Bridge.Ports b)) (toNat i0) []) 2 D.dead) && (Leaf.fit false (Leaf.int i64) (getD (getD (enS false (Bridge.Ports b)) (toNat i0) []) 3 D.dead) && (Leaf.fit false (Leaf.int i64) (getD (getD (enS false (Bridge.Ports b)) (toNat i0) []) 4 D.dead) && (Leaf.fit false (Leaf.int i64) (getD (getD (enS false (Bridge.Ports b)) (toNat i0) []) 5 D.dead) && (Leaf.fit false (Leaf.int i64) (getD (getD (enS false (Bridge.Ports b)) (toNat i0) []) 6 D.dead) && (Leaf.fit false (Leaf.int i64) (getD (getD (enS false (Bridge.Ports b)) (toNat i0) []) 7 D.dead) && (Leaf.fit false (Leaf.int i64) (getD (getD (enS false (Bridge.Ports b)) (toNat i0) []) 8 D.dead) && (Leaf.fit false (Leaf.int i64) (getD (getD (enS false (Bridge.Ports b)) (toNat i0) []) 9 D.dead) && (Leaf.fit false Leaf.bool (getD (getD (enS false (Bridge.Ports b)) (toNat i0) []) 10 D.dead) && true)))))))))) then bif (all (enS true (portBs (Port.mk (D.flag (getD (getD (enS false (Bridge.Ports b)) (toNat i0) []) 0 D.dead)) (D.flag (getD (getD (enS false (Bridge.Ports b)) (toNat i0) []) 1 D.dead)) (Vec.mk (D.num (getD (getD (enS false (Bridge.Ports b)) (toNat i0) []) 2 D.dead)) (D.num (getD (getD (enS false (Bridge.Ports b)) (toNat i0) []) 3 D.dead)) (D.num (getD (getD (enS false (Bridge.Ports b)) (toNat i0) []) 4 D.dead)) (D.num (getD (getD (enS false (Bridge.Ports b)) (toNat i0) []) 5 D.dead))) (D.num (getD (getD (enS false (Bridge.Ports b)) (toNat i0) []) 6 D.dead)) (D.num (getD (getD (enS false (Bridge.Ports b)) (toNat i0) []) 7 D.dead)) (D.num (getD (getD (enS false (Bridge.Ports b)) (toNat i0) []) 8 D.dead)) (D.num (getD (getD (enS false (Bridge.Ports b)) (toNat i0) []) 9 D.dead)) (D.flag (getD (getD (enS false (Bridge.Ports b)) (toNat i0) []) 10 D.dead))))) fun r ↦ all r D.noSl) && true && decide ((length es1 + length (enS true (portBs (Port.mk (D.flag (getD (getD (enS false (Bridge.Ports b)) (toNat i0) []) 0 D.dead)) (D.flag (getD (getD (enS false (Bridge.Ports b)) (toNat i0) []) 1 D.dead)) (Vec.mk (D.num (getD (getD (enS false (Bridge.Ports b)) (toNat i0) []) 2 D.dead)) (D.num (getD (getD (enS false (Bridge.Ports b)) (toNat i0) []) 3 D.dead)) (D.num (getD (getD (enS false (Bridge.Ports b)) (toNat i0) []) 4 D.dead)) (D.num (getD (getD (enS false (Bridge.Ports b)) (toNat i0) []) 5 D.dead))) (D.num (getD (getD (enS false (Bridge.Ports b)) (toNat i0) []) 6 D.dead)) (D.num (getD (getD (enS false (Bridge.Ports b)) (toNat i0) []) 7 D.dead)) (D.num (getD (getD (enS false (Bridge.Ports b)) (toNat i0) []) 8 D.dead)) (D.num (getD (getD (enS false (Bridge.Ports b)) (toNat i0) []) 9 D.dead)) (D.flag (getD (getD (enS false (Bridge.Ports b)) (toNat i0) []) 10 D.dead)))))) * 1 ≤ 140737488355328) then f (S23_0 b (wrap i64 (i0 + 1)) (append es1 (enS true (portBs (Port.mk (D.flag (getD (getD (enS false (Bridge.Ports b)) (toNat i0) []) 0 D.dead)) (D.flag (getD (getD (enS false (Bridge.Ports b)) (toNat i0) []) 1 D.dead)) (Vec.mk (D.num (getD (getD (enS false (Bridge.Ports b)) (toNat i0) []) 2 D.dead)) (D.num (getD (getD (enS false (Bridge.Ports b)) (toNat i0) []) 3 D.dead)) (D.num (getD (getD (enS false (Bridge.Ports b)) (toNat i0) []) 4 D.dead)) (D.num (getD (getD (enS false (Bridge.Ports b)) (toNat i0) []) 5 D.dead))) (D.num (getD (getD (enS false (Bridge.Ports b)) (toNat i0) []) 6 D.dead)) (D.num (getD (getD (enS false (Bridge.Ports b)) (toNat i0) []) 7 D.dead)) (D.num (getD (getD (enS false (Bridge.Ports b)) (toNat i0) []) 8 D.dead)) (D.num (getD (getD (enS false (Bridge.Ports b)) (toNat i0) []) 9 D.dead)) (D.flag (getD (getD (enS false (Bridge.Ports b)) (toNat i0) []) 10 D.dead))))))) else none else none else none else K (Ex.exit 0) (X23_2 b i0 es1) := by kernel_rfl
theorem aX23_2 (b : Bridge) (n : Nat) (i0 : Int) (es1 : List (List D)) : k23_1 n (Ex.exit 0) (X23_2 b i0 es1) = bif isS UInt8 true es1 && decide (length (deS UInt8 es1) ≤ 1048576) then some ([[D.sl true 1 (enS true (append (deS UInt8 es1) (sumBs (sumOf (deS UInt8 es1)))))]], []) else none := by kernel_rfl
theorem r23 (b : Bridge) (n : Nat) : evFn ⟨prog, Hx, 23⟩ T64.call n f23 [[.int .i64 b.Id, .sl false 11 (enS false b.Ports)]] = bif isS Port false (enS false (Bridge.Ports b)) && decide (length (deS Port (enS false (Bridge.Ports b))) ≤ 1048576) then bif !bridgeOk (Bridge.mk (Bridge.Id b) (deS Port (enS false (Bridge.Ports b)))) then some ([[D.sl true 1 []]], []) else bif isS UInt8 true [] && isS Int false [[D.int i64 (Bridge.Id b)], [D.int i64 (ofNat (length (enS false (Bridge.Ports b))))]] && decide (length (deS Int [[D.int i64 (Bridge.Id b)], [D.int i64 (ofNat (length (enS false (Bridge.Ports b))))]]) ≤ 1000) then bif deepRows (enS true (append (deS UInt8 []) (putNums (deS Int [[D.int i64 (Bridge.Id b)], [D.int i64 (ofNat (length (enS false (Bridge.Ports b))))]])))) && true && true && true && true then loopRun (B23_0 n) 3 917512 267911208 n (S23_0 b (0) (enS true (append (deS UInt8 []) (putNums (deS Int [[D.int i64 (Bridge.Id b)], [D.int i64 (ofNat (length (enS false (Bridge.Ports b))))]]))))) (k23_1 n) else none else none else none := by kernel_rfl
theorem m23 (b : Bridge) (hpre : (o23 b).1 = true) : evFn ⟨Go.Proofs.Try.prog, Hx, 23⟩ T64.call (b.Ports.length + 1) f23 [[.int .i64 b.Id, .sl false 11 (enS false b.Ports)]] = some (o23 b).2 := by
  refine (r23 b _).trans ?_
  show _ = (some ([[.sl true 1 (enS true (bridgeBs b))]], []) : Option (List Row × List Row))
  replace hpre : (decide (b.Ports.length ≤ 1048576)) = true := hpre
  have hlen := of_decide_eq_true hpre
  unfold bridgeBs
  cases h : bridgeOk b
  · simp only [enS_length, toNat_of, dec_lt, dec_ge, decide_true, decide_false, cond_true, cond_false, Bool.and_self, Bool.and_true, Bool.true_and, Bool.not_true, Bool.not_false, Nat.lt_irrefl, Nat.zero_add, isS_enS, deS_enS, isS_nil, deS_nil, List.nil_append, lendRows_enS, deepRows_enS, noSl_u8, En.enc, List.getD_cons_zero, List.getD_cons_succ, D.num, D.flag, D.text, D.rows, Leaf.fit, List.append_eq, TReader.eta, Frame.eta, Heard.eta, Member.eta, Card.eta, Out1.eta, Vec.eta, Port.eta, Bridge.eta, In.eta, Out.eta, Link.eta, Net.eta, TEnd.eta, Minder.eta, Reg.eta, Wire.eta, Box.eta, Deed.eta, Bpdu.eta, Visit.eta, Fabric.eta, Got.eta, TRide.eta, Up.eta, Copy.eta, Bucket.eta, Snap.eta, TL9Cur.eta, TL21In.eta, hpre, h]
    rfl
  have h4 := bridge_four h
  have hn := putNums_length [b.Id, (b.Ports.length : Int)]
  have hr := bridgeRaw_length b
  simp only [List.length_cons, List.length_nil] at hn
  have e2 : ([[D.int .i64 b.Id], [D.int .i64 (Int.ofNat b.Ports.length)]] : List (List D)) = enS false [b.Id, (b.Ports.length : Int)] := rfl
  simp only [isS_enS, deS_enS, isS_nil, deS_nil, enS_length, Bridge.eta, hpre, h, e2, List.length_cons, List.length_nil, Nat.reduceAdd, Nat.reduceLeDiff, decide_true, Bool.and_self, Bool.and_true, Bool.true_and, Bool.not_true, cond_true, cond_false, List.append_eq, List.nil_append, deepRows_enS]
  refine loop_list (xs := b.Ports) (fun i (ys : List UInt8) => S23_0 b (Int.ofNat i) (enS true ys)) (fun i ys => ys.length ≤ 10 + 41 * i ∧ ys ++ portsBs (b.Ports.drop i) = bridgeRaw b) (fun _ _ _ => some ([[D.sl true 1 (enS true (bridgeRaw b ++ sumBs (sumOf (bridgeRaw b))))]], [])) ?_ ?_ (b.Ports.length + 1) (putNums [b.Id, (b.Ports.length : Int)]) (by omega) ⟨by omega, rfl⟩
  · rintro ys ⟨h1, h2⟩ f
    refine (q23_0 b _ _ _ f _).trans ?_
    rw [end_lt, cond_false]
    refine (aX23_2 b _ _ _).trans ?_
    rw [List.drop_length] at h2
    have h2 : ys = bridgeRaw b := by rw [← h2]; simp [portsBs]
    subst h2
    have h5 : decide ((bridgeRaw b).length ≤ 1048576) = true := decide_eq_true (by omega)
    simp only [enS_length, toNat_of, dec_lt, dec_ge, decide_true, decide_false, cond_true, cond_false, Bool.and_self, Bool.and_true, Bool.true_and, Bool.not_true, Bool.not_false, Nat.lt_irrefl, Nat.zero_add, isS_enS, deS_enS, isS_nil, deS_nil, List.nil_append, lendRows_enS, deepRows_enS, noSl_u8, En.enc, List.getD_cons_zero, List.getD_cons_succ, D.num, D.flag, D.text, D.rows, Leaf.fit, List.append_eq, TReader.eta, Frame.eta, Heard.eta, Member.eta, Card.eta, Out1.eta, Vec.eta, Port.eta, Bridge.eta, In.eta, Out.eta, Link.eta, Net.eta, TEnd.eta, Minder.eta, Reg.eta, Wire.eta, Box.eta, Deed.eta, Bpdu.eta, Visit.eta, Fabric.eta, Got.eta, TRide.eta, Up.eta, Copy.eta, Bucket.eta, Snap.eta, TL9Cur.eta, TL21In.eta, h5]
  · rintro i ys hi ⟨h1, h2⟩ f hf
    refine (q23_0 b _ _ _ f _).trans ?_
    have hp := portBs_length b.Ports[i]
    have h47 : decide ((ys.length + (portBs b.Ports[i]).length) * 1 ≤ 140737488355328) = true := decide_eq_true (by omega)
    simp only [enS_length, toNat_of, dec_lt, dec_ge, decide_true, decide_false, cond_true, cond_false, Bool.and_self, Bool.and_true, Bool.true_and, Bool.not_true, Bool.not_false, Nat.lt_irrefl, Nat.zero_add, isS_enS, deS_enS, isS_nil, deS_nil, List.nil_append, lendRows_enS, deepRows_enS, noSl_u8, En.enc, List.getD_cons_zero, List.getD_cons_succ, D.num, D.flag, D.text, D.rows, Leaf.fit, List.append_eq, TReader.eta, Frame.eta, Heard.eta, Member.eta, Card.eta, Out1.eta, Vec.eta, Port.eta, Bridge.eta, In.eta, Out.eta, Link.eta, Net.eta, TEnd.eta, Minder.eta, Reg.eta, Wire.eta, Box.eta, Deed.eta, Bpdu.eta, Visit.eta, Fabric.eta, Got.eta, TRide.eta, Up.eta, Copy.eta, Bucket.eta, Snap.eta, TL9Cur.eta, TL21In.eta, enS_get _ hi, hi, wrap_succ (show i < 4611686018427387904 by omega), h47]
    rw [← enS_append]
    refine hf (ys ++ portBs b.Ports[i]) ⟨by rw [List.length_append]; omega, ?_⟩
    rw [← h2, List.drop_eq_getElem_cons hi, List.append_assoc]
    rfl
theorem s23 : SoundAt Go.Proofs.Try.prog Hx 23 c23 := soundAt_of T64_sound mixed func23 (by kernel_rfl) (by
  intro rows r h
  unfold c23 at h
  split at h
  · rename_i b_Id b_Ports
    obtain ⟨hp, hr⟩ := Prod.mk.inj (Option.some.inj h)
    subst hr
    simp only [Bool.and_eq_true] at hp
    obtain ⟨hs0, hp⟩ := hp
    obtain ⟨xs0, rfl⟩ := isS_ex hs0
    simp only [deS_enS] at hp ⊢
    exact ⟨_, m23 ⟨b_Id, xs0⟩ hp⟩
  · cases h)
def T23 : Table := (23, c23) :: T64
theorem T23_sound : Table.Sound Go.Proofs.Try.prog Hx T23 := Table.sound_cons s23 T64_sound
def o30 (b : Bridge) : Bool × List Row × List Row := (decide (b.Ports.length ≤ 1048576), [[.sl true 1 (enS true (bridgeBs b))]], [])
def c30 : Contract
  | [[.int .i64 b_Id, .sl false 11 b_Ports]] => some (isS Port false b_Ports && (o30 ⟨b_Id, (deS Port b_Ports)⟩).1, (o30 ⟨b_Id, (deS Port b_Ports)⟩).2.1, (o30 ⟨b_Id, (deS Port b_Ports)⟩).2.2)
  | _ => none

def k30_0 (n : Nat) : Ex → St → RR := kThen (fun st ↦ runCode (Ctx.mk prog Hx (30)) (Table.call T23) n (codeAt [1, 1, 1, 1] (bodyOf f30)) (Lv.mk 4 [] 4) st (kLeave (Ctx.P (Ctx.mk prog Hx (30))) (List.zip (Array.toList (Go.Func.resultTypes f30)) (Array.toList (Go.Func.results f30))) [] [])) (kLeave (Ctx.P (Ctx.mk prog Hx (30))) (List.zip (Array.toList (Go.Func.resultTypes f30)) (Array.toList (Go.Func.results f30))) [] [])
def k30_1 (n : Nat) : Ex → St → RR := kBlock (0) (k30_0 n)
def S30_0 (b : Bridge) (i0 : Int) (es1 : List (List D)) : St := St.mk [U_, V_ [C.ptr 0 0 0 [] 2 0 0], U_, V_ [C.view 3 0 0 [] 1 none], I_ i0, U_, U_, U_, U_, U_, U_, U_, U_, U_, U_, U_, U_, U_, U_, U_, U_, U_, U_, U_, U_, U_, U_, U_, U_, U_, U_, U_, U_, U_, U_, U_] [Root.mk true 2 [[D.int i64 (Bridge.Id b), D.sl false 11 (enS false (Bridge.Ports b))]] 0 0 true true false, Root.mk false 1 [[D.int i64 (Bridge.Id b)], [D.int i64 (ofNat (length (enS false (Bridge.Ports b))))]] 0 0 true true false, Root.mk false 1 (enS true (putNums (deS Int [[D.int i64 (Bridge.Id b)], [D.int i64 (ofNat (length (enS false (Bridge.Ports b))))]]))) 0 0 false true false, Root.mk false 1 es1 0 0 true true false]
def B30_0 (n : Nat) : St → (Ex → St → RR) → RR := runCode (Ctx.mk prog Hx (30)) (Table.call T23) n (codeAt [1, 1, 1, 0, 1, 0, 0] (bodyOf f30)) (Lv.mk 26 [(0, 8)] 4)
def X30_2 (b : Bridge) (i0 : Int) (es1 : List (List D)) : St := St.mk [U_, V_ [C.ptr 0 0 0 [] 2 0 0], U_, V_ [C.view 3 0 0 [] 1 none], I_ i0, U_, U_, U_, U_, U_, U_, U_, U_, U_, U_, U_, I_ i0, V_ [C.ptr 0 0 0 [] 2 0 1], V_ [C.d (D.sl false 11 (enS false (Bridge.Ports b)))], I_ (ofNat (length (enS false (Bridge.Ports b)))), B_ false, U_, U_, U_, U_, U_, U_, U_, U_, U_, U_, U_, U_, U_, U_, U_] [Root.mk true 2 [[D.int i64 (Bridge.Id b), D.sl false 11 (enS false (Bridge.Ports b))]] 0 0 true true false, Root.mk false 1 [[D.int i64 (Bridge.Id b)], [D.int i64 (ofNat (length (enS false (Bridge.Ports b))))]] 0 0 true true false, Root.mk false 1 (enS true (putNums (deS Int [[D.int i64 (Bridge.Id b)], [D.int i64 (ofNat (length (enS false (Bridge.Ports b))))]]))) 0 0 false true false, Root.mk false 1 es1 0 0 true true false]
theorem q30_0 (b : Bridge) (n : Nat) (i0 : Int) (es1 : List (List D)) (f : St → RR) (K : Ex → St → RR) : B30_0 n (S30_0 b i0 es1) (kThen (fun st ↦ f (St.head 3 26 2147418136 st)) K) = bif decide (i0 < ofNat (length (enS false (Bridge.Ports b)))) then bif decide (0 ≤ i0) && decide (i0 < ofNat (length (enS false (Bridge.Ports b)))) then bif Leaf.fit false Leaf.bool (getD (getD (enS false (Bridge.Ports b)) (toNat i0) []) 0 D.dead) && (Leaf.fit false Leaf.bool (getD (getD (enS false (Bridge.Ports b)) (toNat i0) []) 1 D.dead) && (Leaf.fit false (Leaf.int i64) (getD (getD (enS false (Bridge.Ports b)) (toNat i0) []) 2 D.dead) && (Leaf.fit false (Leaf.int i64) (getD (getD (enS false (Bridge.Ports b)) (toNat i0) []) 3 D.dead) && (Leaf.fit false (Leaf.int i64) (getD (getD (enS false (Bridge.Ports b)) (toNat i0) []) 4 D.dead) && (Leaf.fit false (Leaf.int i64) (getD (getD (enS false (Bridge.Ports b)) (toNat i0) []) 5 D.dead) && (Leaf.fit false (Leaf.int i64) (getD (getD (enS false (Bridge.Ports b)) (toNat i0) []) 6 D.dead) && (Leaf.fit false (Leaf.int i64) (getD (getD (enS false (Bridge.Ports b)) (toNat i0) []) 7 D.dead) && (Leaf.fit false (Leaf.int i64) (getD (getD (enS false (Bridge.Ports b)) (toNat i0) []) 8 D.dead) && (Leaf.fit false (Leaf.int i64) (getD (getD (enS false (Bridge.Ports b)) (toNat i0) []) 9 D.dead) && (Leaf.fit false Leaf.bool (getD (getD (enS false (Bridge.Ports b)) (toNat i0) []) 10 D.dead) && true)))))))))) then bif (all (enS true (portBs (Port.mk (D.flag (getD (getD (enS false (Bridge.Ports b)) (toNat i0) []) 0 D.dead)) (D.flag (getD (getD (enS false (Bridge.Ports b)) (toNat i0) []) 1 D.dead)) (Vec.mk (D.num (getD (getD (enS false (Bridge.Ports b)) (toNat i0) []) 2 D.dead)) (D.num (getD (getD (enS false (Bridge.Ports b)) (toNat i0) []) 3 D.dead)) (D.num (getD (getD (enS false (Bridge.Ports b)) (toNat i0) []) 4 D.dead)) (D.num (getD (getD (enS false (Bridge.Ports b)) (toNat i0) []) 5 D.dead))) (D.num (getD (getD (enS false (Bridge.Ports b)) (toNat i0) []) 6 D.dead)) (D.num (getD (getD (enS false (Bridge.Ports b)) (toNat i0) []) 7 D.dead)) (D.num (getD (getD (enS false (Bridge.Ports b)) (toNat i0) []) 8 D.dead)) (D.num (getD (getD (enS false (Bridge.Ports b)) (toNat i0) []) 9 D.dead)) (D.flag (getD (getD (enS false (Bridge.Ports b)) (toNat i0) []) 10 D.dead))))) fun r ↦ all r D.noSl) && true && decide ((length es1 + length (enS true (portBs (Port.mk (D.flag (getD (getD (enS false (Bridge.Ports b)) (toNat i0) []) 0 D.dead)) (D.flag (getD (getD (enS false (Bridge.Ports b)) (toNat i0) []) 1 D.dead)) (Vec.mk (D.num (getD (getD (enS false (Bridge.Ports b)) (toNat i0) []) 2 D.dead)) (D.num (getD (getD (enS false (Bridge.Ports b)) (toNat i0) []) 3 D.dead)) (D.num (getD (getD (enS false (Bridge.Ports b)) (toNat i0) []) 4 D.dead)) (D.num (getD (getD (enS false (Bridge.Ports b)) (toNat i0) []) 5 D.dead))) (D.num (getD (getD (enS false (Bridge.Ports b)) (toNat i0) []) 6 D.dead)) (D.num (getD (getD (enS false (Bridge.Ports b)) (toNat i0) []) 7 D.dead)) (D.num (getD (getD (enS false (Bridge.Ports b)) (toNat i0) []) 8 D.dead)) (D.num (getD (getD (enS false (Bridge.Ports b)) (toNat i0) []) 9 D.dead)) (D.flag (getD (getD (enS false (Bridge.Ports b)) (toNat i0) []) 10 D.dead)))))) * 1 ≤ 140737488355328) then f (S30_0 b (wrap i64 (i0 + 1)) (append es1 (enS true (portBs (Port.mk (D.flag (getD (getD (enS false (Bridge.Ports b)) (toNat i0) []) 0 D.dead)) (D.flag (getD (getD (enS false (Bridge.Ports b)) (toNat i0) []) 1 D.dead)) (Vec.mk (D.num (getD (getD (enS false (Bridge.Ports b)) (toNat i0) []) 2 D.dead)) (D.num (getD (getD (enS false (Bridge.Ports b)) (toNat i0) []) 3 D.dead)) (D.num (getD (getD (enS false (Bridge.Ports b)) (toNat i0) []) 4 D.dead)) (D.num (getD (getD (enS false (Bridge.Ports b)) (toNat i0) []) 5 D.dead))) (D.num (getD (getD (enS false (Bridge.Ports b)) (toNat i0) []) 6 D.dead)) (D.num (getD (getD (enS false (Bridge.Ports b)) (toNat i0) []) 7 D.dead)) (D.num (getD (getD (enS false (Bridge.Ports b)) (toNat i0) []) 8 D.dead)) (D.num (getD (getD (enS false (Bridge.Ports b)) (toNat i0) []) 9 D.dead)) (D.flag (getD (getD (enS false (Bridge.Ports b)) (toNat i0) []) 10 D.dead))))))) else none else none else none else K (Ex.exit 0) (X30_2 b i0 es1) := by kernel_rfl
theorem aX30_2 (b : Bridge) (n : Nat) (i0 : Int) (es1 : List (List D)) : k30_1 n (Ex.exit 0) (X30_2 b i0 es1) = bif isS UInt8 false (lendRows es1) && decide (length (deS UInt8 (lendRows es1)) ≤ 1048576) then bif (all (enS true (sumBs (sumOf (deS UInt8 (lendRows es1))))) fun r ↦ all r D.noSl) && true && decide ((length es1 + length (enS true (sumBs (sumOf (deS UInt8 (lendRows es1)))))) * 1 ≤ 140737488355328) then some ([[D.sl true 1 (append es1 (enS true (sumBs (sumOf (deS UInt8 (lendRows es1))))))]], []) else none else none := by kernel_rfl
theorem r30 (b : Bridge) (n : Nat) : evFn ⟨prog, Hx, 30⟩ T23.call n f30 [[.int .i64 b.Id, .sl false 11 (enS false b.Ports)]] = bif isS Port false (enS false (Bridge.Ports b)) && decide (length (deS Port (enS false (Bridge.Ports b))) ≤ 1048576) then bif !bridgeOk (Bridge.mk (Bridge.Id b) (deS Port (enS false (Bridge.Ports b)))) then some ([[D.sl true 1 []]], []) else bif isS Int false [[D.int i64 (Bridge.Id b)], [D.int i64 (ofNat (length (enS false (Bridge.Ports b))))]] && decide (length (deS Int [[D.int i64 (Bridge.Id b)], [D.int i64 (ofNat (length (enS false (Bridge.Ports b))))]]) ≤ 1000) then bif deepRows (enS true (putNums (deS Int [[D.int i64 (Bridge.Id b)], [D.int i64 (ofNat (length (enS false (Bridge.Ports b))))]]))) && true && true && true && true then loopRun (B30_0 n) 3 26 2147418136 n (S30_0 b (0) (enS true (putNums (deS Int [[D.int i64 (Bridge.Id b)], [D.int i64 (ofNat (length (enS false (Bridge.Ports b))))]])))) (k30_1 n) else none else none else none := by kernel_rfl
theorem m30 (b : Bridge) (hpre : (o30 b).1 = true) : evFn ⟨Go.Proofs.Try.prog, Hx, 30⟩ T23.call (b.Ports.length + 1) f30 [[.int .i64 b.Id, .sl false 11 (enS false b.Ports)]] = some (o30 b).2 := by
  refine (r30 b _).trans ?_
  show _ = (some ([[.sl true 1 (enS true (bridgeBs b))]], []) : Option (List Row × List Row))
  replace hpre : (decide (b.Ports.length ≤ 1048576)) = true := hpre
  have hlen := of_decide_eq_true hpre
  unfold bridgeBs
  cases h : bridgeOk b
  · simp only [enS_length, toNat_of, dec_lt, dec_ge, decide_true, decide_false, cond_true, cond_false, Bool.and_self, Bool.and_true, Bool.true_and, Bool.not_true, Bool.not_false, Nat.lt_irrefl, Nat.zero_add, isS_enS, deS_enS, isS_nil, deS_nil, List.nil_append, lendRows_enS, deepRows_enS, noSl_u8, En.enc, List.getD_cons_zero, List.getD_cons_succ, D.num, D.flag, D.text, D.rows, Leaf.fit, List.append_eq, TReader.eta, Frame.eta, Heard.eta, Member.eta, Card.eta, Out1.eta, Vec.eta, Port.eta, Bridge.eta, In.eta, Out.eta, Link.eta, Net.eta, TEnd.eta, Minder.eta, Reg.eta, Wire.eta, Box.eta, Deed.eta, Bpdu.eta, Visit.eta, Fabric.eta, Got.eta, TRide.eta, Up.eta, Copy.eta, Bucket.eta, Snap.eta, TL9Cur.eta, TL21In.eta, hpre, h]
    rfl
  have h4 := bridge_four h
  have hn := putNums_length [b.Id, (b.Ports.length : Int)]
  have hr := bridgeRaw_length b
  simp only [List.length_cons, List.length_nil] at hn
  have e2 : ([[D.int .i64 b.Id], [D.int .i64 (Int.ofNat b.Ports.length)]] : List (List D)) = enS false [b.Id, (b.Ports.length : Int)] := rfl
  simp only [isS_enS, deS_enS, isS_nil, deS_nil, enS_length, Bridge.eta, hpre, h, e2, List.length_cons, List.length_nil, Nat.reduceAdd, Nat.reduceLeDiff, decide_true, Bool.and_self, Bool.and_true, Bool.true_and, Bool.not_true, cond_true, cond_false, List.append_eq, List.nil_append, deepRows_enS]
  refine loop_list (xs := b.Ports) (fun i (ys : List UInt8) => S30_0 b (Int.ofNat i) (enS true ys)) (fun i ys => ys.length ≤ 10 + 41 * i ∧ ys ++ portsBs (b.Ports.drop i) = bridgeRaw b) (fun _ _ _ => some ([[D.sl true 1 (enS true (bridgeRaw b ++ sumBs (sumOf (bridgeRaw b))))]], [])) ?_ ?_ (b.Ports.length + 1) (putNums [b.Id, (b.Ports.length : Int)]) (by omega) ⟨by omega, rfl⟩
  · rintro ys ⟨h1, h2⟩ f
    refine (q30_0 b _ _ _ f _).trans ?_
    rw [end_lt, cond_false]
    refine (aX30_2 b _ _ _).trans ?_
    rw [List.drop_length] at h2
    have h2 : ys = bridgeRaw b := by rw [← h2]; simp [portsBs]
    subst h2
    have h5 : decide ((bridgeRaw b).length ≤ 1048576) = true := decide_eq_true (by omega)
    have h47 : decide (((bridgeRaw b).length + (sumBs (sumOf (bridgeRaw b))).length) * 1 ≤ 140737488355328) = true := decide_eq_true (by simp only [sumBs, List.length_cons, List.length_nil]; omega)
    simp only [enS_length, toNat_of, dec_lt, dec_ge, decide_true, decide_false, cond_true, cond_false, Bool.and_self, Bool.and_true, Bool.true_and, Bool.not_true, Bool.not_false, Nat.lt_irrefl, Nat.zero_add, isS_enS, deS_enS, isS_nil, deS_nil, List.nil_append, lendRows_enS, deepRows_enS, noSl_u8, En.enc, List.getD_cons_zero, List.getD_cons_succ, D.num, D.flag, D.text, D.rows, Leaf.fit, List.append_eq, TReader.eta, Frame.eta, Heard.eta, Member.eta, Card.eta, Out1.eta, Vec.eta, Port.eta, Bridge.eta, In.eta, Out.eta, Link.eta, Net.eta, TEnd.eta, Minder.eta, Reg.eta, Wire.eta, Box.eta, Deed.eta, Bpdu.eta, Visit.eta, Fabric.eta, Got.eta, TRide.eta, Up.eta, Copy.eta, Bucket.eta, Snap.eta, TL9Cur.eta, TL21In.eta, h5, h47]
    rw [enS_append]
  · rintro i ys hi ⟨h1, h2⟩ f hf
    refine (q30_0 b _ _ _ f _).trans ?_
    have hp := portBs_length b.Ports[i]
    have h47 : decide ((ys.length + (portBs b.Ports[i]).length) * 1 ≤ 140737488355328) = true := decide_eq_true (by omega)
    simp only [enS_length, toNat_of, dec_lt, dec_ge, decide_true, decide_false, cond_true, cond_false, Bool.and_self, Bool.and_true, Bool.true_and, Bool.not_true, Bool.not_false, Nat.lt_irrefl, Nat.zero_add, isS_enS, deS_enS, isS_nil, deS_nil, List.nil_append, lendRows_enS, deepRows_enS, noSl_u8, En.enc, List.getD_cons_zero, List.getD_cons_succ, D.num, D.flag, D.text, D.rows, Leaf.fit, List.append_eq, TReader.eta, Frame.eta, Heard.eta, Member.eta, Card.eta, Out1.eta, Vec.eta, Port.eta, Bridge.eta, In.eta, Out.eta, Link.eta, Net.eta, TEnd.eta, Minder.eta, Reg.eta, Wire.eta, Box.eta, Deed.eta, Bpdu.eta, Visit.eta, Fabric.eta, Got.eta, TRide.eta, Up.eta, Copy.eta, Bucket.eta, Snap.eta, TL9Cur.eta, TL21In.eta, enS_get _ hi, hi, wrap_succ (show i < 4611686018427387904 by omega), h47]
    rw [← enS_append]
    refine hf (ys ++ portBs b.Ports[i]) ⟨by rw [List.length_append]; omega, ?_⟩
    rw [← h2, List.drop_eq_getElem_cons hi, List.append_assoc]
    rfl
theorem s30 : SoundAt Go.Proofs.Try.prog Hx 30 c30 := soundAt_of T23_sound mixed func30 (by kernel_rfl) (by
  intro rows r h
  unfold c30 at h
  split at h
  · rename_i b_Id b_Ports
    obtain ⟨hp, hr⟩ := Prod.mk.inj (Option.some.inj h)
    subst hr
    simp only [Bool.and_eq_true] at hp
    obtain ⟨hs0, hp⟩ := hp
    obtain ⟨xs0, rfl⟩ := isS_ex hs0
    simp only [deS_enS] at hp ⊢
    exact ⟨_, m30 ⟨b_Id, xs0⟩ hp⟩
  · cases h)
def T30 : Table := (30, c30) :: T23
theorem T30_sound : Table.Sound Go.Proofs.Try.prog Hx T30 := Table.sound_cons s30 T23_sound
end Go.Ev
end
