/- Contracts of functions, each by its evaluation. -/
import Derived.Test.YtikmcmocecalaaaEvMd
import Derived.Test.YtikmcmocecalaaaProg
import Derived.KernelRfl
import Derived.Test.YtikmcmocecalaaaFBridge
set_option linter.unusedVariables false
set_option linter.unusedSimpArgs false
set_option maxRecDepth 100000
noncomputable section
namespace Go.Ev
open Go.RowKit Go.Md
end Go.Ev
namespace Go.Md
open Go Go.Ev
def bridgeRaw (b : Bridge) : List UInt8 := putNums [b.Id, (b.Ports.length : Int)] ++ portsBs b.Ports
def bridgeBs (b : Bridge) : List UInt8 := bif bridgeOk b then bridgeRaw b ++ sumBs (sumOf (bridgeRaw b)) else []
theorem portsBs_length : ∀ ps : List Port, (portsBs ps).length ≤ 41 * ps.length
  | [] => Nat.le_refl 0
  | p :: ps => by
    have h1 := portBs_length p
    have h2 := portsBs_length ps
    unfold portsBs at h2 ⊢
    rw [List.flatMap_cons, List.length_append, List.length_cons]
    omega
theorem bridge_four {b : Bridge} (h : bridgeOk b = true) : b.Ports.length ≤ 4 := by
  unfold bridgeOk inR at h
  simp only [Bool.and_eq_true, decide_eq_true_eq] at h
  omega
theorem bridgeRaw_length (b : Bridge) : (bridgeRaw b).length ≤ 10 + 41 * b.Ports.length := by
  have h1 := putNums_length [b.Id, (b.Ports.length : Int)]
  have h2 := portsBs_length b.Ports
  unfold bridgeRaw
  rw [List.length_append]
  simp only [List.length_cons, List.length_nil] at h1
  omega
theorem bridgeBs_length (b : Bridge) : (bridgeBs b).length ≤ 178 := by
  unfold bridgeBs
  cases h : bridgeOk b
  · simp
  · have h1 := bridge_four h
    have h2 := bridgeRaw_length b
    simp only [cond_true, List.length_append, sumBs, List.length_cons, List.length_nil]
    omega
end Go.Md
namespace Go.Ev
open Go.Md
/- BridgeBytes -/
def o29 (b : Bridge) : Bool × List Row × List Row := (decide (b.Ports.length ≤ 1048576), [[.sl true 1 (enS true (bridgeBs b))]], [])
def c29 : Contract
  | [[.int .i64 b_Id, .sl false 11 b_Ports]] => some (isS Port false b_Ports && (o29 ⟨b_Id, (deS Port b_Ports)⟩).1, (o29 ⟨b_Id, (deS Port b_Ports)⟩).2.1, (o29 ⟨b_Id, (deS Port b_Ports)⟩).2.2)
  | _ => none

noncomputable def k29_0 (n : Nat) : Ex → St → Option (List Row × List Row) := kThen (fun st ↦ runCode (Ctx.mk Go.Proofs.Try.prog Hx (29)) (Table.call T65) n (codeAt [1, 1, 1, 1] (bodyOf Go.Proofs.Try.f29)) (Lv.mk 4 [] 4) st (kLeave (Ctx.P (Ctx.mk Go.Proofs.Try.prog Hx (29))) (List.zip (Array.toList (Go.Func.resultTypes Go.Proofs.Try.f29)) (Array.toList (Go.Func.results Go.Proofs.Try.f29))) [] [])) (kLeave (Ctx.P (Ctx.mk Go.Proofs.Try.prog Hx (29))) (List.zip (Array.toList (Go.Func.resultTypes Go.Proofs.Try.f29)) (Array.toList (Go.Func.results Go.Proofs.Try.f29))) [] [])
noncomputable def k29_1 (n : Nat) : Ex → St → Option (List Row × List Row) := kBlock (0) (k29_0 n)
noncomputable def S29_0 (b : Bridge) (i0 : Int) (es1 : List (List D)) : St := St.mk [TV.v false [C.undef], TV.v false [C.undef], TV.v false [C.undef], TV.v false [C.view 3 0 0 [] 1 none], TV.v false [C.undef], TV.v false [C.undef], TV.v false [C.undef], TV.v false [C.undef], TV.v false [C.undef], TV.v false [C.undef], TV.v false [C.undef], TV.v false [C.undef], TV.v false [C.undef], TV.v false [C.undef], TV.v false [C.undef], TV.v false [C.undef], TV.v false [C.undef], TV.v false [C.d (D.sl false 11 (enS false (Bridge.Ports b)))], TV.v false [C.d (D.int IntKind.i64 (Int.ofNat (List.length (enS false (Bridge.Ports b)))))], TV.v false [C.d (D.int IntKind.i64 i0)], TV.v false [C.undef], TV.v false [C.undef], TV.v false [C.undef], TV.v false [C.undef], TV.v false [C.undef], TV.v false [C.undef], TV.v false [C.undef], TV.v false [C.undef], TV.v false [C.undef], TV.v false [C.undef]] [Root.mk true 2 [[D.int IntKind.i64 (Bridge.Id b), D.sl false 11 (enS false (Bridge.Ports b))]] 0 0 true true, Root.mk false 1 [[D.int IntKind.i64 (Bridge.Id b)], [D.int IntKind.i64 (Int.ofNat (List.length (enS false (Bridge.Ports b))))]] 0 0 true true, Root.mk false 1 (enS true (List.append (deS UInt8 []) (putNums (deS Int [[D.int IntKind.i64 (Bridge.Id b)], [D.int IntKind.i64 (Int.ofNat (List.length (enS false (Bridge.Ports b))))]])))) 0 0 false true, Root.mk false 1 es1 0 0 true true]
noncomputable def B29_0 (n : Nat) : St → (Ex → St → Option (List Row × List Row)) → Option (List Row × List Row) := runCode (Ctx.mk Go.Proofs.Try.prog Hx (29)) (Table.call T65) n (codeAt [1, 1, 1, 0, 1, 0, 0] (bodyOf Go.Proofs.Try.f29)) (Lv.mk 0 [(0, 8)] 4)
noncomputable def X29_2 (b : Bridge) (i0 : Int) (es1 : List (List D)) : St := St.mk [TV.v false [C.undef], TV.v false [C.undef], TV.v false [C.undef], TV.v false [C.view 3 0 0 [] 1 none], TV.v false [C.undef], TV.v false [C.undef], TV.v false [C.undef], TV.v false [C.undef], TV.v false [C.undef], TV.v false [C.undef], TV.v false [C.undef], TV.v false [C.undef], TV.v false [C.undef], TV.v false [C.undef], TV.v false [C.undef], TV.v false [C.undef], TV.v false [C.undef], TV.v false [C.d (D.sl false 11 (enS false (Bridge.Ports b)))], TV.v false [C.d (D.int IntKind.i64 (Int.ofNat (List.length (enS false (Bridge.Ports b)))))], TV.v false [C.d (D.int IntKind.i64 i0)], TV.v false [C.d (D.bool false)], TV.v false [C.undef], TV.v false [C.undef], TV.v false [C.undef], TV.v false [C.undef], TV.v false [C.undef], TV.v false [C.undef], TV.v false [C.undef], TV.v false [C.undef], TV.v false [C.undef]] [Root.mk true 2 [[D.int IntKind.i64 (Bridge.Id b), D.sl false 11 (enS false (Bridge.Ports b))]] 0 0 true true, Root.mk false 1 [[D.int IntKind.i64 (Bridge.Id b)], [D.int IntKind.i64 (Int.ofNat (List.length (enS false (Bridge.Ports b))))]] 0 0 true true, Root.mk false 1 (enS true (List.append (deS UInt8 []) (putNums (deS Int [[D.int IntKind.i64 (Bridge.Id b)], [D.int IntKind.i64 (Int.ofNat (List.length (enS false (Bridge.Ports b))))]])))) 0 0 false true, Root.mk false 1 es1 0 0 true true]
theorem q29_0 (b : Bridge) (n : Nat) (i0 : Int) (es1 : List (List D)) (f : St → Option (List Row × List Row)) (K : Ex → St → Option (List Row × List Row)) : B29_0 n (S29_0 b i0 es1) (@kThen (List Row × List Row) (fun st ↦ f (St.head 3 917512 267911208 st)) K) = bif decide (i0 < Int.ofNat (List.length (enS false (Bridge.Ports b)))) then bif decide (0 ≤ i0) && decide (i0 < Int.ofNat (List.length (enS false (Bridge.Ports b)))) then bif Leaf.fit false Leaf.bool (List.getD (List.getD (enS false (Bridge.Ports b)) (Int.toNat i0) []) 0 D.dead) && (Leaf.fit false Leaf.bool (List.getD (List.getD (enS false (Bridge.Ports b)) (Int.toNat i0) []) 1 D.dead) && (Leaf.fit false (Leaf.int IntKind.i64) (List.getD (List.getD (enS false (Bridge.Ports b)) (Int.toNat i0) []) 2 D.dead) && (Leaf.fit false (Leaf.int IntKind.i64) (List.getD (List.getD (enS false (Bridge.Ports b)) (Int.toNat i0) []) 3 D.dead) && (Leaf.fit false (Leaf.int IntKind.i64) (List.getD (List.getD (enS false (Bridge.Ports b)) (Int.toNat i0) []) 4 D.dead) && (Leaf.fit false (Leaf.int IntKind.i64) (List.getD (List.getD (enS false (Bridge.Ports b)) (Int.toNat i0) []) 5 D.dead) && (Leaf.fit false (Leaf.int IntKind.i64) (List.getD (List.getD (enS false (Bridge.Ports b)) (Int.toNat i0) []) 6 D.dead) && (Leaf.fit false (Leaf.int IntKind.i64) (List.getD (List.getD (enS false (Bridge.Ports b)) (Int.toNat i0) []) 7 D.dead) && (Leaf.fit false (Leaf.int IntKind.i64) (List.getD (List.getD (enS false (Bridge.Ports b)) (Int.toNat i0) []) 8 D.dead) && (Leaf.fit false (Leaf.int IntKind.i64) (List.getD (List.getD (enS false (Bridge.Ports b)) (Int.toNat i0) []) 9 D.dead) && (Leaf.fit false Leaf.bool (List.getD (List.getD (enS false (Bridge.Ports b)) (Int.toNat i0) []) 10 D.dead) && true)))))))))) then bif (List.all (enS true (portBs (Port.mk (D.flag (List.getD (List.getD (enS false (Bridge.Ports b)) (Int.toNat i0) []) 0 D.dead)) (D.flag (List.getD (List.getD (enS false (Bridge.Ports b)) (Int.toNat i0) []) 1 D.dead)) (Vec.mk (D.num (List.getD (List.getD (enS false (Bridge.Ports b)) (Int.toNat i0) []) 2 D.dead)) (D.num (List.getD (List.getD (enS false (Bridge.Ports b)) (Int.toNat i0) []) 3 D.dead)) (D.num (List.getD (List.getD (enS false (Bridge.Ports b)) (Int.toNat i0) []) 4 D.dead)) (D.num (List.getD (List.getD (enS false (Bridge.Ports b)) (Int.toNat i0) []) 5 D.dead))) (D.num (List.getD (List.getD (enS false (Bridge.Ports b)) (Int.toNat i0) []) 6 D.dead)) (D.num (List.getD (List.getD (enS false (Bridge.Ports b)) (Int.toNat i0) []) 7 D.dead)) (D.num (List.getD (List.getD (enS false (Bridge.Ports b)) (Int.toNat i0) []) 8 D.dead)) (D.num (List.getD (List.getD (enS false (Bridge.Ports b)) (Int.toNat i0) []) 9 D.dead)) (D.flag (List.getD (List.getD (enS false (Bridge.Ports b)) (Int.toNat i0) []) 10 D.dead))))) fun r ↦ List.all r D.noSl) && true && decide ((List.length es1 + List.length (enS true (portBs (Port.mk (D.flag (List.getD (List.getD (enS false (Bridge.Ports b)) (Int.toNat i0) []) 0 D.dead)) (D.flag (List.getD (List.getD (enS false (Bridge.Ports b)) (Int.toNat i0) []) 1 D.dead)) (Vec.mk (D.num (List.getD (List.getD (enS false (Bridge.Ports b)) (Int.toNat i0) []) 2 D.dead)) (D.num (List.getD (List.getD (enS false (Bridge.Ports b)) (Int.toNat i0) []) 3 D.dead)) (D.num (List.getD (List.getD (enS false (Bridge.Ports b)) (Int.toNat i0) []) 4 D.dead)) (D.num (List.getD (List.getD (enS false (Bridge.Ports b)) (Int.toNat i0) []) 5 D.dead))) (D.num (List.getD (List.getD (enS false (Bridge.Ports b)) (Int.toNat i0) []) 6 D.dead)) (D.num (List.getD (List.getD (enS false (Bridge.Ports b)) (Int.toNat i0) []) 7 D.dead)) (D.num (List.getD (List.getD (enS false (Bridge.Ports b)) (Int.toNat i0) []) 8 D.dead)) (D.num (List.getD (List.getD (enS false (Bridge.Ports b)) (Int.toNat i0) []) 9 D.dead)) (D.flag (List.getD (List.getD (enS false (Bridge.Ports b)) (Int.toNat i0) []) 10 D.dead)))))) * 1 ≤ 140737488355328) then f (S29_0 b (IntKind.wrap IntKind.i64 (i0 + 1)) (List.append es1 (enS true (portBs (Port.mk (D.flag (List.getD (List.getD (enS false (Bridge.Ports b)) (Int.toNat i0) []) 0 D.dead)) (D.flag (List.getD (List.getD (enS false (Bridge.Ports b)) (Int.toNat i0) []) 1 D.dead)) (Vec.mk (D.num (List.getD (List.getD (enS false (Bridge.Ports b)) (Int.toNat i0) []) 2 D.dead)) (D.num (List.getD (List.getD (enS false (Bridge.Ports b)) (Int.toNat i0) []) 3 D.dead)) (D.num (List.getD (List.getD (enS false (Bridge.Ports b)) (Int.toNat i0) []) 4 D.dead)) (D.num (List.getD (List.getD (enS false (Bridge.Ports b)) (Int.toNat i0) []) 5 D.dead))) (D.num (List.getD (List.getD (enS false (Bridge.Ports b)) (Int.toNat i0) []) 6 D.dead)) (D.num (List.getD (List.getD (enS false (Bridge.Ports b)) (Int.toNat i0) []) 7 D.dead)) (D.num (List.getD (List.getD (enS false (Bridge.Ports b)) (Int.toNat i0) []) 8 D.dead)) (D.num (List.getD (List.getD (enS false (Bridge.Ports b)) (Int.toNat i0) []) 9 D.dead)) (D.flag (List.getD (List.getD (enS false (Bridge.Ports b)) (Int.toNat i0) []) 10 D.dead))))))) else none else none else none else K (Ex.exit 0) (X29_2 b i0 es1) := by kernel_rfl
theorem aX29_2 (b : Bridge) (n : Nat) (i0 : Int) (es1 : List (List D)) : k29_1 n (Ex.exit 0) (X29_2 b i0 es1) = bif isS UInt8 true es1 && decide (List.length (deS UInt8 es1) ≤ 1048576) then some ([[D.sl true 1 (enS true (List.append (deS UInt8 es1) (sumBs (sumOf (deS UInt8 es1)))))]], []) else none := by kernel_rfl
theorem r29 (b : Bridge) (n : Nat) : evFn ⟨Go.Proofs.Try.prog, Hx, 29⟩ T65.call n Go.Proofs.Try.f29 [[.int .i64 b.Id, .sl false 11 (enS false b.Ports)]] = bif isS Port false (enS false (Bridge.Ports b)) && decide (List.length (deS Port (enS false (Bridge.Ports b))) ≤ 1048576) then bif !bridgeOk (Bridge.mk (Bridge.Id b) (deS Port (enS false (Bridge.Ports b)))) then some ([[D.sl true 1 []]], []) else bif isS UInt8 true [] && isS Int false [[D.int IntKind.i64 (Bridge.Id b)], [D.int IntKind.i64 (Int.ofNat (List.length (enS false (Bridge.Ports b))))]] && decide (List.length (deS Int [[D.int IntKind.i64 (Bridge.Id b)], [D.int IntKind.i64 (Int.ofNat (List.length (enS false (Bridge.Ports b))))]]) ≤ 1000) then bif deepRows (enS true (List.append (deS UInt8 []) (putNums (deS Int [[D.int IntKind.i64 (Bridge.Id b)], [D.int IntKind.i64 (Int.ofNat (List.length (enS false (Bridge.Ports b))))]])))) && true && true && true && true then loopRun (B29_0 n) 3 917512 267911208 n (S29_0 b (0) (enS true (List.append (deS UInt8 []) (putNums (deS Int [[D.int IntKind.i64 (Bridge.Id b)], [D.int IntKind.i64 (Int.ofNat (List.length (enS false (Bridge.Ports b))))]]))))) (k29_1 n) else none else none else none := by kernel_rfl
theorem m29 (b : Bridge) (hpre : (o29 b).1 = true) : evFn ⟨Go.Proofs.Try.prog, Hx, 29⟩ T65.call (b.Ports.length + 1) Go.Proofs.Try.f29 [[.int .i64 b.Id, .sl false 11 (enS false b.Ports)]] = some (o29 b).2 := by
  refine (r29 b _).trans ?_
  show _ = (some ([[.sl true 1 (enS true (bridgeBs b))]], []) : Option (List Row × List Row))
  replace hpre : (decide (b.Ports.length ≤ 1048576)) = true := hpre
  have hlen := of_decide_eq_true hpre
  unfold bridgeBs
  cases h : bridgeOk b
  · simp only [enS_length, toNat_of, dec_lt, dec_ge, decide_true, decide_false, cond_true, cond_false, Bool.and_self, Bool.and_true, Bool.true_and, Bool.not_true, Bool.not_false, Nat.lt_irrefl, Nat.zero_add, isS_enS, deS_enS, isS_nil, deS_nil, List.nil_append, lendRows_enS, deepRows_enS, noSl_u8, En.enc, List.getD_cons_zero, List.getD_cons_succ, D.num, D.flag, D.text, D.rows, Leaf.fit, List.append_eq, TReader.eta, Frame.eta, Heard.eta, Member.eta, Card.eta, Out1.eta, Vec.eta, Port.eta, Bridge.eta, In.eta, Out.eta, Link.eta, Net.eta, TEnd.eta, Minder.eta, Reg.eta, Wire.eta, Box.eta, Deed.eta, Bpdu.eta, Visit.eta, Fabric.eta, Got.eta, TRide.eta, Up.eta, Copy.eta, Bucket.eta, Snap.eta, TL9Cur.eta, TL21In.eta, hpre, h]
    rfl
  have h4 := bridge_four h
  have hn := putNums_length [b.Id, (b.Ports.length : Int)]
  have hr := bridgeRaw_length b
  simp only [List.length_cons, List.length_nil] at hn
  have e2 : ([[D.int .i64 b.Id], [D.int .i64 (Int.ofNat b.Ports.length)]] : List (List D)) = enS false [b.Id, (b.Ports.length : Int)] := rfl
  simp only [isS_enS, deS_enS, isS_nil, deS_nil, enS_length, Bridge.eta, hpre, h, e2, List.length_cons, List.length_nil, Nat.reduceAdd, Nat.reduceLeDiff, decide_true, Bool.and_self, Bool.and_true, Bool.true_and, Bool.not_true, cond_true, cond_false, List.append_eq, List.nil_append, deepRows_enS]
  refine loop_list (xs := b.Ports) (fun i (ys : List UInt8) => S29_0 b (Int.ofNat i) (enS true ys)) (fun i ys => ys.length ≤ 10 + 41 * i ∧ ys ++ portsBs (b.Ports.drop i) = bridgeRaw b) (fun _ _ _ => some ([[D.sl true 1 (enS true (bridgeRaw b ++ sumBs (sumOf (bridgeRaw b))))]], [])) ?_ ?_ (b.Ports.length + 1) (putNums [b.Id, (b.Ports.length : Int)]) (by omega) ⟨by omega, rfl⟩
  · rintro ys ⟨h1, h2⟩ f
    refine (q29_0 b _ _ _ f _).trans ?_
    rw [end_lt, cond_false]
    refine (aX29_2 b _ _ _).trans ?_
    rw [List.drop_length] at h2
    have h2 : ys = bridgeRaw b := by rw [← h2]; simp [portsBs]
    subst h2
    have h5 : decide ((bridgeRaw b).length ≤ 1048576) = true := decide_eq_true (by omega)
    simp only [enS_length, toNat_of, dec_lt, dec_ge, decide_true, decide_false, cond_true, cond_false, Bool.and_self, Bool.and_true, Bool.true_and, Bool.not_true, Bool.not_false, Nat.lt_irrefl, Nat.zero_add, isS_enS, deS_enS, isS_nil, deS_nil, List.nil_append, lendRows_enS, deepRows_enS, noSl_u8, En.enc, List.getD_cons_zero, List.getD_cons_succ, D.num, D.flag, D.text, D.rows, Leaf.fit, List.append_eq, TReader.eta, Frame.eta, Heard.eta, Member.eta, Card.eta, Out1.eta, Vec.eta, Port.eta, Bridge.eta, In.eta, Out.eta, Link.eta, Net.eta, TEnd.eta, Minder.eta, Reg.eta, Wire.eta, Box.eta, Deed.eta, Bpdu.eta, Visit.eta, Fabric.eta, Got.eta, TRide.eta, Up.eta, Copy.eta, Bucket.eta, Snap.eta, TL9Cur.eta, TL21In.eta, h5]
  · rintro i ys hi ⟨h1, h2⟩ f hf
    refine (q29_0 b _ _ _ f _).trans ?_
    have hp := portBs_length b.Ports[i]
    have h47 : decide ((ys.length + (portBs b.Ports[i]).length) * 1 ≤ 140737488355328) = true := decide_eq_true (by omega)
    simp only [enS_length, toNat_of, dec_lt, dec_ge, decide_true, decide_false, cond_true, cond_false, Bool.and_self, Bool.and_true, Bool.true_and, Bool.not_true, Bool.not_false, Nat.lt_irrefl, Nat.zero_add, isS_enS, deS_enS, isS_nil, deS_nil, List.nil_append, lendRows_enS, deepRows_enS, noSl_u8, En.enc, List.getD_cons_zero, List.getD_cons_succ, D.num, D.flag, D.text, D.rows, Leaf.fit, List.append_eq, TReader.eta, Frame.eta, Heard.eta, Member.eta, Card.eta, Out1.eta, Vec.eta, Port.eta, Bridge.eta, In.eta, Out.eta, Link.eta, Net.eta, TEnd.eta, Minder.eta, Reg.eta, Wire.eta, Box.eta, Deed.eta, Bpdu.eta, Visit.eta, Fabric.eta, Got.eta, TRide.eta, Up.eta, Copy.eta, Bucket.eta, Snap.eta, TL9Cur.eta, TL21In.eta, enS_get _ hi, hi, wrap_succ (show i < 4611686018427387904 by omega), h47]
    rw [← enS_append]
    refine hf (ys ++ portBs b.Ports[i]) ⟨by rw [List.length_append]; omega, ?_⟩
    rw [← h2, List.drop_eq_getElem_cons hi, List.append_assoc]
    rfl
theorem s29 : SoundAt Go.Proofs.Try.prog Hx 29 c29 := soundAt_of T65_sound mixed Go.Proofs.Try.func29 (by kernel_rfl) (by
  intro rows r h
  unfold c29 at h
  split at h
  · rename_i b_Id b_Ports
    obtain ⟨hp, hr⟩ := Prod.mk.inj (Option.some.inj h)
    subst hr
    simp only [Bool.and_eq_true] at hp
    obtain ⟨hs0, hp⟩ := hp
    obtain ⟨xs0, rfl⟩ := isS_ex hs0
    simp only [deS_enS] at hp ⊢
    exact ⟨_, m29 ⟨b_Id, xs0⟩ hp⟩
  · cases h)
def T29 : Table := (29, c29) :: T65
theorem T29_sound : Table.Sound Go.Proofs.Try.prog Hx T29 := Table.sound_cons s29 T65_sound
/- BridgeBytesS -/
def o27 (b : Bridge) : Bool × List Row × List Row := (decide (b.Ports.length ≤ 1048576), [[.sl true 1 (enS true (bridgeBs b))]], [])
def c27 : Contract
  | [[.int .i64 b_Id, .sl false 11 b_Ports]] => some (isS Port false b_Ports && (o27 ⟨b_Id, (deS Port b_Ports)⟩).1, (o27 ⟨b_Id, (deS Port b_Ports)⟩).2.1, (o27 ⟨b_Id, (deS Port b_Ports)⟩).2.2)
  | _ => none

noncomputable def k27_0 (n : Nat) : Ex → St → Option (List Row × List Row) := kThen (fun st ↦ runCode (Ctx.mk Go.Proofs.Try.prog Hx (27)) (Table.call T29) n (codeAt [1, 1, 1, 1] (bodyOf Go.Proofs.Try.f27)) (Lv.mk 4 [] 4) st (kLeave (Ctx.P (Ctx.mk Go.Proofs.Try.prog Hx (27))) (List.zip (Array.toList (Go.Func.resultTypes Go.Proofs.Try.f27)) (Array.toList (Go.Func.results Go.Proofs.Try.f27))) [] [])) (kLeave (Ctx.P (Ctx.mk Go.Proofs.Try.prog Hx (27))) (List.zip (Array.toList (Go.Func.resultTypes Go.Proofs.Try.f27)) (Array.toList (Go.Func.results Go.Proofs.Try.f27))) [] [])
noncomputable def k27_1 (n : Nat) : Ex → St → Option (List Row × List Row) := kBlock (0) (k27_0 n)
noncomputable def S27_0 (b : Bridge) (i0 : Int) (es1 : List (List D)) : St := St.mk [TV.v false [C.undef], TV.v false [C.ptr 0 0 0 [] 2 0 0], TV.v false [C.undef], TV.v false [C.view 3 0 0 [] 1 none], TV.v false [C.d (D.int IntKind.i64 i0)], TV.v false [C.undef], TV.v false [C.undef], TV.v false [C.undef], TV.v false [C.undef], TV.v false [C.undef], TV.v false [C.undef], TV.v false [C.undef], TV.v false [C.undef], TV.v false [C.undef], TV.v false [C.undef], TV.v false [C.undef], TV.v false [C.undef], TV.v false [C.undef], TV.v false [C.undef], TV.v false [C.undef], TV.v false [C.undef], TV.v false [C.undef], TV.v false [C.undef], TV.v false [C.undef], TV.v false [C.undef], TV.v false [C.undef], TV.v false [C.undef], TV.v false [C.undef], TV.v false [C.undef], TV.v false [C.undef], TV.v false [C.undef], TV.v false [C.undef], TV.v false [C.undef], TV.v false [C.undef], TV.v false [C.undef], TV.v false [C.undef]] [Root.mk true 2 [[D.int IntKind.i64 (Bridge.Id b), D.sl false 11 (enS false (Bridge.Ports b))]] 0 0 true true, Root.mk false 1 [[D.int IntKind.i64 (Bridge.Id b)], [D.int IntKind.i64 (Int.ofNat (List.length (enS false (Bridge.Ports b))))]] 0 0 true true, Root.mk false 1 (enS true (putNums (deS Int [[D.int IntKind.i64 (Bridge.Id b)], [D.int IntKind.i64 (Int.ofNat (List.length (enS false (Bridge.Ports b))))]]))) 0 0 false true, Root.mk false 1 es1 0 0 true true]
noncomputable def B27_0 (n : Nat) : St → (Ex → St → Option (List Row × List Row)) → Option (List Row × List Row) := runCode (Ctx.mk Go.Proofs.Try.prog Hx (27)) (Table.call T29) n (codeAt [1, 1, 1, 0, 1, 0, 0] (bodyOf Go.Proofs.Try.f27)) (Lv.mk 0 [(0, 8)] 4)
noncomputable def X27_2 (b : Bridge) (i0 : Int) (es1 : List (List D)) : St := St.mk [TV.v false [C.undef], TV.v false [C.ptr 0 0 0 [] 2 0 0], TV.v false [C.undef], TV.v false [C.view 3 0 0 [] 1 none], TV.v false [C.d (D.int IntKind.i64 i0)], TV.v false [C.undef], TV.v false [C.undef], TV.v false [C.undef], TV.v false [C.undef], TV.v false [C.undef], TV.v false [C.undef], TV.v false [C.undef], TV.v false [C.undef], TV.v false [C.undef], TV.v false [C.undef], TV.v false [C.undef], TV.v false [C.d (D.int IntKind.i64 i0)], TV.v false [C.ptr 0 0 0 [] 2 0 1], TV.v false [C.d (D.sl false 11 (enS false (Bridge.Ports b)))], TV.v false [C.d (D.int IntKind.i64 (Int.ofNat (List.length (enS false (Bridge.Ports b)))))], TV.v false [C.d (D.bool false)], TV.v false [C.undef], TV.v false [C.undef], TV.v false [C.undef], TV.v false [C.undef], TV.v false [C.undef], TV.v false [C.undef], TV.v false [C.undef], TV.v false [C.undef], TV.v false [C.undef], TV.v false [C.undef], TV.v false [C.undef], TV.v false [C.undef], TV.v false [C.undef], TV.v false [C.undef], TV.v false [C.undef]] [Root.mk true 2 [[D.int IntKind.i64 (Bridge.Id b), D.sl false 11 (enS false (Bridge.Ports b))]] 0 0 true true, Root.mk false 1 [[D.int IntKind.i64 (Bridge.Id b)], [D.int IntKind.i64 (Int.ofNat (List.length (enS false (Bridge.Ports b))))]] 0 0 true true, Root.mk false 1 (enS true (putNums (deS Int [[D.int IntKind.i64 (Bridge.Id b)], [D.int IntKind.i64 (Int.ofNat (List.length (enS false (Bridge.Ports b))))]]))) 0 0 false true, Root.mk false 1 es1 0 0 true true]
theorem q27_0 (b : Bridge) (n : Nat) (i0 : Int) (es1 : List (List D)) (f : St → Option (List Row × List Row)) (K : Ex → St → Option (List Row × List Row)) : B27_0 n (S27_0 b i0 es1) (@kThen (List Row × List Row) (fun st ↦ f (St.head 3 26 2147418136 st)) K) = bif decide (i0 < Int.ofNat (List.length (enS false (Bridge.Ports b)))) then bif decide (0 ≤ i0) && decide (i0 < Int.ofNat (List.length (enS false (Bridge.Ports b)))) then bif Leaf.fit false Leaf.bool (List.getD (List.getD (enS false (Bridge.Ports b)) (Int.toNat i0) []) 0 D.dead) && (Leaf.fit false Leaf.bool (List.getD (List.getD (enS false (Bridge.Ports b)) (Int.toNat i0) []) 1 D.dead) && (Leaf.fit false (Leaf.int IntKind.i64) (List.getD (List.getD (enS false (Bridge.Ports b)) (Int.toNat i0) []) 2 D.dead) && (Leaf.fit false (Leaf.int IntKind.i64) (List.getD (List.getD (enS false (Bridge.Ports b)) (Int.toNat i0) []) 3 D.dead) && (Leaf.fit false (Leaf.int IntKind.i64) (List.getD (List.getD (enS false (Bridge.Ports b)) (Int.toNat i0) []) 4 D.dead) && (Leaf.fit false (Leaf.int IntKind.i64) (List.getD (List.getD (enS false (Bridge.Ports b)) (Int.toNat i0) []) 5 D.dead) && (Leaf.fit false (Leaf.int IntKind.i64) (List.getD (List.getD (enS false (Bridge.Ports b)) (Int.toNat i0) []) 6 D.dead) && (Leaf.fit false (Leaf.int IntKind.i64) (List.getD (List.getD (enS false (Bridge.Ports b)) (Int.toNat i0) []) 7 D.dead) && (Leaf.fit false (Leaf.int IntKind.i64) (List.getD (List.getD (enS false (Bridge.Ports b)) (Int.toNat i0) []) 8 D.dead) && (Leaf.fit false (Leaf.int IntKind.i64) (List.getD (List.getD (enS false (Bridge.Ports b)) (Int.toNat i0) []) 9 D.dead) && (Leaf.fit false Leaf.bool (List.getD (List.getD (enS false (Bridge.Ports b)) (Int.toNat i0) []) 10 D.dead) && true)))))))))) then bif (List.all (enS true (portBs (Port.mk (D.flag (List.getD (List.getD (enS false (Bridge.Ports b)) (Int.toNat i0) []) 0 D.dead)) (D.flag (List.getD (List.getD (enS false (Bridge.Ports b)) (Int.toNat i0) []) 1 D.dead)) (Vec.mk (D.num (List.getD (List.getD (enS false (Bridge.Ports b)) (Int.toNat i0) []) 2 D.dead)) (D.num (List.getD (List.getD (enS false (Bridge.Ports b)) (Int.toNat i0) []) 3 D.dead)) (D.num (List.getD (List.getD (enS false (Bridge.Ports b)) (Int.toNat i0) []) 4 D.dead)) (D.num (List.getD (List.getD (enS false (Bridge.Ports b)) (Int.toNat i0) []) 5 D.dead))) (D.num (List.getD (List.getD (enS false (Bridge.Ports b)) (Int.toNat i0) []) 6 D.dead)) (D.num (List.getD (List.getD (enS false (Bridge.Ports b)) (Int.toNat i0) []) 7 D.dead)) (D.num (List.getD (List.getD (enS false (Bridge.Ports b)) (Int.toNat i0) []) 8 D.dead)) (D.num (List.getD (List.getD (enS false (Bridge.Ports b)) (Int.toNat i0) []) 9 D.dead)) (D.flag (List.getD (List.getD (enS false (Bridge.Ports b)) (Int.toNat i0) []) 10 D.dead))))) fun r ↦ List.all r D.noSl) && true && decide ((List.length es1 + List.length (enS true (portBs (Port.mk (D.flag (List.getD (List.getD (enS false (Bridge.Ports b)) (Int.toNat i0) []) 0 D.dead)) (D.flag (List.getD (List.getD (enS false (Bridge.Ports b)) (Int.toNat i0) []) 1 D.dead)) (Vec.mk (D.num (List.getD (List.getD (enS false (Bridge.Ports b)) (Int.toNat i0) []) 2 D.dead)) (D.num (List.getD (List.getD (enS false (Bridge.Ports b)) (Int.toNat i0) []) 3 D.dead)) (D.num (List.getD (List.getD (enS false (Bridge.Ports b)) (Int.toNat i0) []) 4 D.dead)) (D.num (List.getD (List.getD (enS false (Bridge.Ports b)) (Int.toNat i0) []) 5 D.dead))) (D.num (List.getD (List.getD (enS false (Bridge.Ports b)) (Int.toNat i0) []) 6 D.dead)) (D.num (List.getD (List.getD (enS false (Bridge.Ports b)) (Int.toNat i0) []) 7 D.dead)) (D.num (List.getD (List.getD (enS false (Bridge.Ports b)) (Int.toNat i0) []) 8 D.dead)) (D.num (List.getD (List.getD (enS false (Bridge.Ports b)) (Int.toNat i0) []) 9 D.dead)) (D.flag (List.getD (List.getD (enS false (Bridge.Ports b)) (Int.toNat i0) []) 10 D.dead)))))) * 1 ≤ 140737488355328) then f (S27_0 b (IntKind.wrap IntKind.i64 (i0 + 1)) (List.append es1 (enS true (portBs (Port.mk (D.flag (List.getD (List.getD (enS false (Bridge.Ports b)) (Int.toNat i0) []) 0 D.dead)) (D.flag (List.getD (List.getD (enS false (Bridge.Ports b)) (Int.toNat i0) []) 1 D.dead)) (Vec.mk (D.num (List.getD (List.getD (enS false (Bridge.Ports b)) (Int.toNat i0) []) 2 D.dead)) (D.num (List.getD (List.getD (enS false (Bridge.Ports b)) (Int.toNat i0) []) 3 D.dead)) (D.num (List.getD (List.getD (enS false (Bridge.Ports b)) (Int.toNat i0) []) 4 D.dead)) (D.num (List.getD (List.getD (enS false (Bridge.Ports b)) (Int.toNat i0) []) 5 D.dead))) (D.num (List.getD (List.getD (enS false (Bridge.Ports b)) (Int.toNat i0) []) 6 D.dead)) (D.num (List.getD (List.getD (enS false (Bridge.Ports b)) (Int.toNat i0) []) 7 D.dead)) (D.num (List.getD (List.getD (enS false (Bridge.Ports b)) (Int.toNat i0) []) 8 D.dead)) (D.num (List.getD (List.getD (enS false (Bridge.Ports b)) (Int.toNat i0) []) 9 D.dead)) (D.flag (List.getD (List.getD (enS false (Bridge.Ports b)) (Int.toNat i0) []) 10 D.dead))))))) else none else none else none else K (Ex.exit 0) (X27_2 b i0 es1) := by kernel_rfl
theorem aX27_2 (b : Bridge) (n : Nat) (i0 : Int) (es1 : List (List D)) : k27_1 n (Ex.exit 0) (X27_2 b i0 es1) = bif isS UInt8 false (lendRows es1) && decide (List.length (deS UInt8 (lendRows es1)) ≤ 1048576) then bif (List.all (enS true (sumBs (sumOf (deS UInt8 (lendRows es1))))) fun r ↦ List.all r D.noSl) && true && decide ((List.length es1 + List.length (enS true (sumBs (sumOf (deS UInt8 (lendRows es1)))))) * 1 ≤ 140737488355328) then some ([[D.sl true 1 (List.append es1 (enS true (sumBs (sumOf (deS UInt8 (lendRows es1))))))]], []) else none else none := by kernel_rfl
theorem r27 (b : Bridge) (n : Nat) : evFn ⟨Go.Proofs.Try.prog, Hx, 27⟩ T29.call n Go.Proofs.Try.f27 [[.int .i64 b.Id, .sl false 11 (enS false b.Ports)]] = bif isS Port false (enS false (Bridge.Ports b)) && decide (List.length (deS Port (enS false (Bridge.Ports b))) ≤ 1048576) then bif !bridgeOk (Bridge.mk (Bridge.Id b) (deS Port (enS false (Bridge.Ports b)))) then some ([[D.sl true 1 []]], []) else bif isS Int false [[D.int IntKind.i64 (Bridge.Id b)], [D.int IntKind.i64 (Int.ofNat (List.length (enS false (Bridge.Ports b))))]] && decide (List.length (deS Int [[D.int IntKind.i64 (Bridge.Id b)], [D.int IntKind.i64 (Int.ofNat (List.length (enS false (Bridge.Ports b))))]]) ≤ 1000) then bif deepRows (enS true (putNums (deS Int [[D.int IntKind.i64 (Bridge.Id b)], [D.int IntKind.i64 (Int.ofNat (List.length (enS false (Bridge.Ports b))))]]))) && true && true && true && true then loopRun (B27_0 n) 3 26 2147418136 n (S27_0 b (0) (enS true (putNums (deS Int [[D.int IntKind.i64 (Bridge.Id b)], [D.int IntKind.i64 (Int.ofNat (List.length (enS false (Bridge.Ports b))))]])))) (k27_1 n) else none else none else none := by kernel_rfl
theorem m27 (b : Bridge) (hpre : (o27 b).1 = true) : evFn ⟨Go.Proofs.Try.prog, Hx, 27⟩ T29.call (b.Ports.length + 1) Go.Proofs.Try.f27 [[.int .i64 b.Id, .sl false 11 (enS false b.Ports)]] = some (o27 b).2 := by
  refine (r27 b _).trans ?_
  show _ = (some ([[.sl true 1 (enS true (bridgeBs b))]], []) : Option (List Row × List Row))
  replace hpre : (decide (b.Ports.length ≤ 1048576)) = true := hpre
  have hlen := of_decide_eq_true hpre
  unfold bridgeBs
  cases h : bridgeOk b
  · simp only [enS_length, toNat_of, dec_lt, dec_ge, decide_true, decide_false, cond_true, cond_false, Bool.and_self, Bool.and_true, Bool.true_and, Bool.not_true, Bool.not_false, Nat.lt_irrefl, Nat.zero_add, isS_enS, deS_enS, isS_nil, deS_nil, List.nil_append, lendRows_enS, deepRows_enS, noSl_u8, En.enc, List.getD_cons_zero, List.getD_cons_succ, D.num, D.flag, D.text, D.rows, Leaf.fit, List.append_eq, TReader.eta, Frame.eta, Heard.eta, Member.eta, Card.eta, Out1.eta, Vec.eta, Port.eta, Bridge.eta, In.eta, Out.eta, Link.eta, Net.eta, TEnd.eta, Minder.eta, Reg.eta, Wire.eta, Box.eta, Deed.eta, Bpdu.eta, Visit.eta, Fabric.eta, Got.eta, TRide.eta, Up.eta, Copy.eta, Bucket.eta, Snap.eta, TL9Cur.eta, TL21In.eta, hpre, h]
    rfl
  have h4 := bridge_four h
  have hn := putNums_length [b.Id, (b.Ports.length : Int)]
  have hr := bridgeRaw_length b
  simp only [List.length_cons, List.length_nil] at hn
  have e2 : ([[D.int .i64 b.Id], [D.int .i64 (Int.ofNat b.Ports.length)]] : List (List D)) = enS false [b.Id, (b.Ports.length : Int)] := rfl
  simp only [isS_enS, deS_enS, isS_nil, deS_nil, enS_length, Bridge.eta, hpre, h, e2, List.length_cons, List.length_nil, Nat.reduceAdd, Nat.reduceLeDiff, decide_true, Bool.and_self, Bool.and_true, Bool.true_and, Bool.not_true, cond_true, cond_false, List.append_eq, List.nil_append, deepRows_enS]
  refine loop_list (xs := b.Ports) (fun i (ys : List UInt8) => S27_0 b (Int.ofNat i) (enS true ys)) (fun i ys => ys.length ≤ 10 + 41 * i ∧ ys ++ portsBs (b.Ports.drop i) = bridgeRaw b) (fun _ _ _ => some ([[D.sl true 1 (enS true (bridgeRaw b ++ sumBs (sumOf (bridgeRaw b))))]], [])) ?_ ?_ (b.Ports.length + 1) (putNums [b.Id, (b.Ports.length : Int)]) (by omega) ⟨by omega, rfl⟩
  · rintro ys ⟨h1, h2⟩ f
    refine (q27_0 b _ _ _ f _).trans ?_
    rw [end_lt, cond_false]
    refine (aX27_2 b _ _ _).trans ?_
    rw [List.drop_length] at h2
    have h2 : ys = bridgeRaw b := by rw [← h2]; simp [portsBs]
    subst h2
    have h5 : decide ((bridgeRaw b).length ≤ 1048576) = true := decide_eq_true (by omega)
    have h47 : decide (((bridgeRaw b).length + (sumBs (sumOf (bridgeRaw b))).length) * 1 ≤ 140737488355328) = true := decide_eq_true (by simp only [sumBs, List.length_cons, List.length_nil]; omega)
    simp only [enS_length, toNat_of, dec_lt, dec_ge, decide_true, decide_false, cond_true, cond_false, Bool.and_self, Bool.and_true, Bool.true_and, Bool.not_true, Bool.not_false, Nat.lt_irrefl, Nat.zero_add, isS_enS, deS_enS, isS_nil, deS_nil, List.nil_append, lendRows_enS, deepRows_enS, noSl_u8, En.enc, List.getD_cons_zero, List.getD_cons_succ, D.num, D.flag, D.text, D.rows, Leaf.fit, List.append_eq, TReader.eta, Frame.eta, Heard.eta, Member.eta, Card.eta, Out1.eta, Vec.eta, Port.eta, Bridge.eta, In.eta, Out.eta, Link.eta, Net.eta, TEnd.eta, Minder.eta, Reg.eta, Wire.eta, Box.eta, Deed.eta, Bpdu.eta, Visit.eta, Fabric.eta, Got.eta, TRide.eta, Up.eta, Copy.eta, Bucket.eta, Snap.eta, TL9Cur.eta, TL21In.eta, h5, h47]
    rw [enS_append]
  · rintro i ys hi ⟨h1, h2⟩ f hf
    refine (q27_0 b _ _ _ f _).trans ?_
    have hp := portBs_length b.Ports[i]
    have h47 : decide ((ys.length + (portBs b.Ports[i]).length) * 1 ≤ 140737488355328) = true := decide_eq_true (by omega)
    simp only [enS_length, toNat_of, dec_lt, dec_ge, decide_true, decide_false, cond_true, cond_false, Bool.and_self, Bool.and_true, Bool.true_and, Bool.not_true, Bool.not_false, Nat.lt_irrefl, Nat.zero_add, isS_enS, deS_enS, isS_nil, deS_nil, List.nil_append, lendRows_enS, deepRows_enS, noSl_u8, En.enc, List.getD_cons_zero, List.getD_cons_succ, D.num, D.flag, D.text, D.rows, Leaf.fit, List.append_eq, TReader.eta, Frame.eta, Heard.eta, Member.eta, Card.eta, Out1.eta, Vec.eta, Port.eta, Bridge.eta, In.eta, Out.eta, Link.eta, Net.eta, TEnd.eta, Minder.eta, Reg.eta, Wire.eta, Box.eta, Deed.eta, Bpdu.eta, Visit.eta, Fabric.eta, Got.eta, TRide.eta, Up.eta, Copy.eta, Bucket.eta, Snap.eta, TL9Cur.eta, TL21In.eta, enS_get _ hi, hi, wrap_succ (show i < 4611686018427387904 by omega), h47]
    rw [← enS_append]
    refine hf (ys ++ portBs b.Ports[i]) ⟨by rw [List.length_append]; omega, ?_⟩
    rw [← h2, List.drop_eq_getElem_cons hi, List.append_assoc]
    rfl
theorem s27 : SoundAt Go.Proofs.Try.prog Hx 27 c27 := soundAt_of T29_sound mixed Go.Proofs.Try.func27 (by kernel_rfl) (by
  intro rows r h
  unfold c27 at h
  split at h
  · rename_i b_Id b_Ports
    obtain ⟨hp, hr⟩ := Prod.mk.inj (Option.some.inj h)
    subst hr
    simp only [Bool.and_eq_true] at hp
    obtain ⟨hs0, hp⟩ := hp
    obtain ⟨xs0, rfl⟩ := isS_ex hs0
    simp only [deS_enS] at hp ⊢
    exact ⟨_, m27 ⟨b_Id, xs0⟩ hp⟩
  · cases h)
def T27 : Table := (27, c27) :: T29
theorem T27_sound : Table.Sound Go.Proofs.Try.prog Hx T27 := Table.sound_cons s27 T29_sound
end Go.Ev
end
