/- Contracts of functions, each by its evaluation. -/
import Derived.Test.YtihhlajibgoemaaEvMd
import Derived.Test.YtihhlajibgoemaaProg
import Derived.KernelRfl
import Derived.Test.YtihhlajibgoemaaFPort
set_option linter.unusedVariables false
set_option linter.unusedSimpArgs false
set_option maxRecDepth 100000
noncomputable section
open List (getD length drop take set append replicate all isEmpty)
open Int (toNat ofNat)
open Go.IntKind (i64 wrap)
open Go.Proofs.Try (prog f33 f58 func33 func58)
namespace Go.Ev
open Go.RowKit Go.Md
end Go.Ev
namespace Go.Md
open Go Go.Ev
def bridgeOk (b : Bridge) : Bool := b.Ports.all portOk && (inR b.Id 1 9 && inR (b.Ports.length : Int) 1 4)
end Go.Md
namespace Go.Ev
open Go.Md
def o58 (b : Bridge) : Bool × List Row × List Row := (decide (b.Ports.length ≤ 1048576), [[.bool (bridgeOk b)]], [])
def c58 : Contract
  | [[.int .i64 b_Id, .sl false 11 b_Ports]] => some (isS Port false b_Ports && (o58 ⟨b_Id, (deS Port b_Ports)⟩).1, (o58 ⟨b_Id, (deS Port b_Ports)⟩).2.1, (o58 ⟨b_Id, (deS Port b_Ports)⟩).2.2)
  | _ => none

def k58_0 (n : Nat) : Ex → St → RR := kThen (fun st ↦ runCode (Ctx.mk prog Hx (58)) (Table.call T56) n (codeAt [1, 1] (bodyOf f58)) (Lv.mk 4 [] 4) st (kLeave (Ctx.P (Ctx.mk prog Hx (58))) (List.zip (Array.toList (Go.Func.resultTypes f58)) (Array.toList (Go.Func.results f58))) [] [])) (kLeave (Ctx.P (Ctx.mk prog Hx (58))) (List.zip (Array.toList (Go.Func.resultTypes f58)) (Array.toList (Go.Func.results f58))) [] [])
def k58_1 (n : Nat) : Ex → St → RR := kBlock (0) (k58_0 n)
def S58_0 (b : Bridge) (i0 : Int) : St := St.mk [U_, V_ [C.ptr 0 0 0 [] 2 0 0], U_, U_, U_, U_, V_ [C.d (D.sl false 11 (enS false (Bridge.Ports b)))], I_ (ofNat (length (enS false (Bridge.Ports b)))), I_ i0, U_, U_, U_, U_, U_, U_, U_, U_, U_, U_, U_, U_, U_, U_, U_, U_] [Root.mk true 2 [[D.int i64 (Bridge.Id b), D.sl false 11 (enS false (Bridge.Ports b))]] 0 0 true true false]
def B58_0 (n : Nat) : St → (Ex → St → RR) → RR := runCode (Ctx.mk prog Hx (58)) (Table.call T56) n (codeAt [1, 0, 1, 0, 0] (bodyOf f58)) (Lv.mk 450 [(0, 2)] 4)
def X58_2 (b : Bridge) (i0 : Int) : St := St.mk [U_, V_ [C.ptr 0 0 0 [] 2 0 0], B_ false, U_, V_ [C.ptr 1 0 0 [] 11 0 0], U_, V_ [C.d (D.sl false 11 (enS false (Bridge.Ports b)))], I_ (ofNat (length (enS false (Bridge.Ports b)))), I_ i0, B_ true, V_ [C.rptr (getD (enS false (Bridge.Ports b)) (toNat i0) [])], TV.v true [C.d (D.bool (D.flag (getD (getD (enS false (Bridge.Ports b)) (toNat i0) []) 0 D.dead))), C.d (D.bool (D.flag (getD (getD (enS false (Bridge.Ports b)) (toNat i0) []) 1 D.dead))), C.d (D.int i64 (D.num (getD (getD (enS false (Bridge.Ports b)) (toNat i0) []) 2 D.dead))), C.d (D.int i64 (D.num (getD (getD (enS false (Bridge.Ports b)) (toNat i0) []) 3 D.dead))), C.d (D.int i64 (D.num (getD (getD (enS false (Bridge.Ports b)) (toNat i0) []) 4 D.dead))), C.d (D.int i64 (D.num (getD (getD (enS false (Bridge.Ports b)) (toNat i0) []) 5 D.dead))), C.d (D.int i64 (D.num (getD (getD (enS false (Bridge.Ports b)) (toNat i0) []) 6 D.dead))), C.d (D.int i64 (D.num (getD (getD (enS false (Bridge.Ports b)) (toNat i0) []) 7 D.dead))), C.d (D.int i64 (D.num (getD (getD (enS false (Bridge.Ports b)) (toNat i0) []) 8 D.dead))), C.d (D.int i64 (D.num (getD (getD (enS false (Bridge.Ports b)) (toNat i0) []) 9 D.dead))), C.d (D.bool (D.flag (getD (getD (enS false (Bridge.Ports b)) (toNat i0) []) 10 D.dead)))], TV.v true [C.d (D.bool (D.flag (getD (getD (enS false (Bridge.Ports b)) (toNat i0) []) 0 D.dead))), C.d (D.bool (D.flag (getD (getD (enS false (Bridge.Ports b)) (toNat i0) []) 1 D.dead))), C.d (D.int i64 (D.num (getD (getD (enS false (Bridge.Ports b)) (toNat i0) []) 2 D.dead))), C.d (D.int i64 (D.num (getD (getD (enS false (Bridge.Ports b)) (toNat i0) []) 3 D.dead))), C.d (D.int i64 (D.num (getD (getD (enS false (Bridge.Ports b)) (toNat i0) []) 4 D.dead))), C.d (D.int i64 (D.num (getD (getD (enS false (Bridge.Ports b)) (toNat i0) []) 5 D.dead))), C.d (D.int i64 (D.num (getD (getD (enS false (Bridge.Ports b)) (toNat i0) []) 6 D.dead))), C.d (D.int i64 (D.num (getD (getD (enS false (Bridge.Ports b)) (toNat i0) []) 7 D.dead))), C.d (D.int i64 (D.num (getD (getD (enS false (Bridge.Ports b)) (toNat i0) []) 8 D.dead))), C.d (D.int i64 (D.num (getD (getD (enS false (Bridge.Ports b)) (toNat i0) []) 9 D.dead))), C.d (D.bool (D.flag (getD (getD (enS false (Bridge.Ports b)) (toNat i0) []) 10 D.dead)))], B_ (portOk (Port.mk (D.flag (getD (getD (enS false (Bridge.Ports b)) (toNat i0) []) 0 D.dead)) (D.flag (getD (getD (enS false (Bridge.Ports b)) (toNat i0) []) 1 D.dead)) (Vec.mk (D.num (getD (getD (enS false (Bridge.Ports b)) (toNat i0) []) 2 D.dead)) (D.num (getD (getD (enS false (Bridge.Ports b)) (toNat i0) []) 3 D.dead)) (D.num (getD (getD (enS false (Bridge.Ports b)) (toNat i0) []) 4 D.dead)) (D.num (getD (getD (enS false (Bridge.Ports b)) (toNat i0) []) 5 D.dead))) (D.num (getD (getD (enS false (Bridge.Ports b)) (toNat i0) []) 6 D.dead)) (D.num (getD (getD (enS false (Bridge.Ports b)) (toNat i0) []) 7 D.dead)) (D.num (getD (getD (enS false (Bridge.Ports b)) (toNat i0) []) 8 D.dead)) (D.num (getD (getD (enS false (Bridge.Ports b)) (toNat i0) []) 9 D.dead)) (D.flag (getD (getD (enS false (Bridge.Ports b)) (toNat i0) []) 10 D.dead)))), B_ true, U_, U_, U_, U_, U_, U_, U_, U_, U_, U_] [Root.mk true 2 [[D.int i64 (Bridge.Id b), D.sl false 11 (enS false (Bridge.Ports b))]] 0 0 true true false, Root.mk true 11 [[D.bool (D.flag (getD (getD (enS false (Bridge.Ports b)) (toNat i0) []) 0 D.dead)), D.bool (D.flag (getD (getD (enS false (Bridge.Ports b)) (toNat i0) []) 1 D.dead)), D.int i64 (D.num (getD (getD (enS false (Bridge.Ports b)) (toNat i0) []) 2 D.dead)), D.int i64 (D.num (getD (getD (enS false (Bridge.Ports b)) (toNat i0) []) 3 D.dead)), D.int i64 (D.num (getD (getD (enS false (Bridge.Ports b)) (toNat i0) []) 4 D.dead)), D.int i64 (D.num (getD (getD (enS false (Bridge.Ports b)) (toNat i0) []) 5 D.dead)), D.int i64 (D.num (getD (getD (enS false (Bridge.Ports b)) (toNat i0) []) 6 D.dead)), D.int i64 (D.num (getD (getD (enS false (Bridge.Ports b)) (toNat i0) []) 7 D.dead)), D.int i64 (D.num (getD (getD (enS false (Bridge.Ports b)) (toNat i0) []) 8 D.dead)), D.int i64 (D.num (getD (getD (enS false (Bridge.Ports b)) (toNat i0) []) 9 D.dead)), D.bool (D.flag (getD (getD (enS false (Bridge.Ports b)) (toNat i0) []) 10 D.dead))]] 0 0 true true false]
def X58_3 (b : Bridge) (i0 : Int) : St := St.mk [U_, V_ [C.ptr 0 0 0 [] 2 0 0], U_, U_, U_, U_, V_ [C.d (D.sl false 11 (enS false (Bridge.Ports b)))], I_ (ofNat (length (enS false (Bridge.Ports b)))), I_ i0, B_ false, U_, U_, U_, U_, U_, U_, U_, U_, U_, U_, U_, U_, U_, U_, U_] [Root.mk true 2 [[D.int i64 (Bridge.Id b), D.sl false 11 (enS false (Bridge.Ports b))]] 0 0 true true false]
theorem q58_0 (b : Bridge) (n : Nat) (i0 : Int) (f : St → RR) (K : Ex → St → RR) : B58_0 n (S58_0 b i0) (kThen (fun st ↦ f (St.head 1 450 65300 st)) K) = bif decide (i0 < ofNat (length (enS false (Bridge.Ports b)))) then bif decide (0 ≤ i0) && decide (i0 < ofNat (length (enS false (Bridge.Ports b)))) then bif Leaf.fit false Leaf.bool (getD (getD (enS false (Bridge.Ports b)) (toNat i0) []) 0 D.dead) && (Leaf.fit false Leaf.bool (getD (getD (enS false (Bridge.Ports b)) (toNat i0) []) 1 D.dead) && (Leaf.fit false (Leaf.int i64) (getD (getD (enS false (Bridge.Ports b)) (toNat i0) []) 2 D.dead) && (Leaf.fit false (Leaf.int i64) (getD (getD (enS false (Bridge.Ports b)) (toNat i0) []) 3 D.dead) && (Leaf.fit false (Leaf.int i64) (getD (getD (enS false (Bridge.Ports b)) (toNat i0) []) 4 D.dead) && (Leaf.fit false (Leaf.int i64) (getD (getD (enS false (Bridge.Ports b)) (toNat i0) []) 5 D.dead) && (Leaf.fit false (Leaf.int i64) (getD (getD (enS false (Bridge.Ports b)) (toNat i0) []) 6 D.dead) && (Leaf.fit false (Leaf.int i64) (getD (getD (enS false (Bridge.Ports b)) (toNat i0) []) 7 D.dead) && (Leaf.fit false (Leaf.int i64) (getD (getD (enS false (Bridge.Ports b)) (toNat i0) []) 8 D.dead) && (Leaf.fit false (Leaf.int i64) (getD (getD (enS false (Bridge.Ports b)) (toNat i0) []) 9 D.dead) && (Leaf.fit false Leaf.bool (getD (getD (enS false (Bridge.Ports b)) (toNat i0) []) 10 D.dead) && true)))))))))) then bif !portOk (Port.mk (D.flag (getD (getD (enS false (Bridge.Ports b)) (toNat i0) []) 0 D.dead)) (D.flag (getD (getD (enS false (Bridge.Ports b)) (toNat i0) []) 1 D.dead)) (Vec.mk (D.num (getD (getD (enS false (Bridge.Ports b)) (toNat i0) []) 2 D.dead)) (D.num (getD (getD (enS false (Bridge.Ports b)) (toNat i0) []) 3 D.dead)) (D.num (getD (getD (enS false (Bridge.Ports b)) (toNat i0) []) 4 D.dead)) (D.num (getD (getD (enS false (Bridge.Ports b)) (toNat i0) []) 5 D.dead))) (D.num (getD (getD (enS false (Bridge.Ports b)) (toNat i0) []) 6 D.dead)) (D.num (getD (getD (enS false (Bridge.Ports b)) (toNat i0) []) 7 D.dead)) (D.num (getD (getD (enS false (Bridge.Ports b)) (toNat i0) []) 8 D.dead)) (D.num (getD (getD (enS false (Bridge.Ports b)) (toNat i0) []) 9 D.dead)) (D.flag (getD (getD (enS false (Bridge.Ports b)) (toNat i0) []) 10 D.dead))) then K Ex.ret (X58_2 b i0) else f (S58_0 b (wrap i64 (i0 + 1))) else none else none else K (Ex.exit 0) (X58_3 b i0) := by kernel_rfl
theorem aX58_2 (b : Bridge) (n : Nat) (i0 : Int) : k58_1 n Ex.ret (X58_2 b i0) = some ([[D.bool false]], []) := by kernel_rfl
theorem aX58_3 (b : Bridge) (n : Nat) (i0 : Int) : k58_1 n (Ex.exit 0) (X58_3 b i0) = bif inR (Bridge.Id b) (1) (9) then some ([[D.bool (inR (ofNat (length (enS false (Bridge.Ports b)))) (1) (4))]], []) else some ([[D.bool false]], []) := by kernel_rfl
theorem r58 (b : Bridge) (n : Nat) : evFn ⟨prog, Hx, 58⟩ T56.call n f58 [[.int .i64 b.Id, .sl false 11 (enS false b.Ports)]] = loopRun (B58_0 n) 1 450 65300 n (S58_0 b (0)) (k58_1 n) := by kernel_rfl
theorem m58 (b : Bridge) (hpre : (o58 b).1 = true) : evFn ⟨Go.Proofs.Try.prog, Hx, 58⟩ T56.call (b.Ports.length + 1) f58 [[.int .i64 b.Id, .sl false 11 (enS false b.Ports)]] = some (o58 b).2 := by
  refine (r58 b _).trans ?_
  show _ = (some ([[.bool (bridgeOk b)]], []) : Option (List Row × List Row))
  replace hpre : (decide (b.Ports.length ≤ 1048576)) = true := hpre
  have hlen := of_decide_eq_true hpre
  unfold bridgeOk
  refine loop_list (xs := b.Ports) (fun i (_ : Unit) => S58_0 b (Int.ofNat i)) (fun _ _ => True) (fun _ _ rest => some ([[D.bool (rest.all portOk && (inR b.Id 1 9 && inR (b.Ports.length : Int) 1 4))]], [])) ?_ ?_ (b.Ports.length + 1) () (by omega) trivial
  · rintro _ _ f
    refine (q58_0 b _ _ f _).trans ?_
    rw [end_lt, cond_false]
    refine (aX58_3 b _ _).trans ?_
    simp only [enS_length, List.all_nil, Bool.true_and]
    cases inR b.Id 1 9 <;> rfl
  · rintro i _ hi _ f hf
    refine (q58_0 b _ _ f _).trans ?_
    simp only [enS_length, toNat_of, dec_lt, dec_ge, decide_true, decide_false, cond_true, cond_false, Bool.and_self, Bool.and_true, Bool.true_and, Bool.not_true, Bool.not_false, Nat.lt_irrefl, Nat.zero_add, isS_enS, deS_enS, isS_nil, deS_nil, List.nil_append, lendRows_enS, deepRows_enS, noSl_u8, En.enc, List.getD_cons_zero, List.getD_cons_succ, D.num, D.flag, D.text, D.rows, Leaf.fit, List.append_eq, TReader.eta, Frame.eta, Heard.eta, Member.eta, Card.eta, Out1.eta, Vec.eta, Port.eta, Bridge.eta, In.eta, Out.eta, Link.eta, Net.eta, TEnd.eta, Minder.eta, Reg.eta, Wire.eta, Box.eta, Deed.eta, Bpdu.eta, Visit.eta, Fabric.eta, Got.eta, TRide.eta, Up.eta, Copy.eta, Bucket.eta, Snap.eta, TL9Cur.eta, TL21In.eta, enS_get _ hi, hi, wrap_succ (show i < 4611686018427387904 by omega)]
    cases hp : portOk b.Ports[i]
    · simp only [enS_length, toNat_of, dec_lt, dec_ge, decide_true, decide_false, cond_true, cond_false, Bool.and_self, Bool.and_true, Bool.true_and, Bool.not_true, Bool.not_false, Nat.lt_irrefl, Nat.zero_add, isS_enS, deS_enS, isS_nil, deS_nil, List.nil_append, lendRows_enS, deepRows_enS, noSl_u8, En.enc, List.getD_cons_zero, List.getD_cons_succ, D.num, D.flag, D.text, D.rows, Leaf.fit, List.append_eq, TReader.eta, Frame.eta, Heard.eta, Member.eta, Card.eta, Out1.eta, Vec.eta, Port.eta, Bridge.eta, In.eta, Out.eta, Link.eta, Net.eta, TEnd.eta, Minder.eta, Reg.eta, Wire.eta, Box.eta, Deed.eta, Bpdu.eta, Visit.eta, Fabric.eta, Got.eta, TRide.eta, Up.eta, Copy.eta, Bucket.eta, Snap.eta, TL9Cur.eta, TL21In.eta]
      refine (aX58_2 b _ _).trans ?_
      simp only [List.all_cons, hp, Bool.false_and]
    · simp only [enS_length, toNat_of, dec_lt, dec_ge, decide_true, decide_false, cond_true, cond_false, Bool.and_self, Bool.and_true, Bool.true_and, Bool.not_true, Bool.not_false, Nat.lt_irrefl, Nat.zero_add, isS_enS, deS_enS, isS_nil, deS_nil, List.nil_append, lendRows_enS, deepRows_enS, noSl_u8, En.enc, List.getD_cons_zero, List.getD_cons_succ, D.num, D.flag, D.text, D.rows, Leaf.fit, List.append_eq, TReader.eta, Frame.eta, Heard.eta, Member.eta, Card.eta, Out1.eta, Vec.eta, Port.eta, Bridge.eta, In.eta, Out.eta, Link.eta, Net.eta, TEnd.eta, Minder.eta, Reg.eta, Wire.eta, Box.eta, Deed.eta, Bpdu.eta, Visit.eta, Fabric.eta, Got.eta, TRide.eta, Up.eta, Copy.eta, Bucket.eta, Snap.eta, TL9Cur.eta, TL21In.eta]
      refine (hf () trivial).trans ?_
      simp only [List.all_cons, hp, Bool.true_and]
theorem s58 : SoundAt Go.Proofs.Try.prog Hx 58 c58 := soundAt_of T56_sound mixed func58 (by kernel_rfl) (by
  intro rows r h
  unfold c58 at h
  split at h
  · rename_i b_Id b_Ports
    obtain ⟨hp, hr⟩ := Prod.mk.inj (Option.some.inj h)
    subst hr
    simp only [Bool.and_eq_true] at hp
    obtain ⟨hs0, hp⟩ := hp
    obtain ⟨xs0, rfl⟩ := isS_ex hs0
    simp only [deS_enS] at hp ⊢
    exact ⟨_, m58 ⟨b_Id, xs0⟩ hp⟩
  · cases h)
def T58 : Table := (58, c58) :: T56
theorem T58_sound : Table.Sound Go.Proofs.Try.prog Hx T58 := Table.sound_cons s58 T56_sound
def o33 (b : Bridge) : Bool × List Row × List Row := (decide (b.Ports.length ≤ 1048576), [[.bool (bridgeOk b)]], [])
def c33 : Contract
  | [[.int .i64 b_Id, .sl false 11 b_Ports]] => some (isS Port false b_Ports && (o33 ⟨b_Id, (deS Port b_Ports)⟩).1, (o33 ⟨b_Id, (deS Port b_Ports)⟩).2.1, (o33 ⟨b_Id, (deS Port b_Ports)⟩).2.2)
  | _ => none

def k33_0 (n : Nat) : Ex → St → RR := kThen (fun st ↦ runCode (Ctx.mk prog Hx (33)) (Table.call T58) n (codeAt [1, 1] (bodyOf f33)) (Lv.mk 4 [] 4) st (kLeave (Ctx.P (Ctx.mk prog Hx (33))) (List.zip (Array.toList (Go.Func.resultTypes f33)) (Array.toList (Go.Func.results f33))) [] [])) (kLeave (Ctx.P (Ctx.mk prog Hx (33))) (List.zip (Array.toList (Go.Func.resultTypes f33)) (Array.toList (Go.Func.results f33))) [] [])
def k33_1 (n : Nat) : Ex → St → RR := kBlock (0) (k33_0 n)
def S33_0 (b : Bridge) (i0 : Int) : St := St.mk [U_, V_ [C.ptr 0 0 0 [] 2 0 0], U_, I_ i0, U_, U_, U_, U_, U_, U_, U_, U_, U_, U_, U_, U_, U_, U_, U_, U_, U_, U_, U_, U_, U_, U_, U_] [Root.mk true 2 [[D.int i64 (Bridge.Id b), D.sl false 11 (enS false (Bridge.Ports b))]] 0 0 true true false]
def B33_0 (n : Nat) : St → (Ex → St → RR) → RR := runCode (Ctx.mk prog Hx (33)) (Table.call T58) n (codeAt [1, 0, 1, 0, 0] (bodyOf f33)) (Lv.mk 10 [(0, 2)] 4)
def X33_2 (b : Bridge) (i0 : Int) : St := St.mk [U_, V_ [C.ptr 0 0 0 [] 2 0 0], B_ false, I_ i0, I_ i0, V_ [C.ptr 0 0 0 [] 2 0 1], V_ [C.d (D.sl false 11 (enS false (Bridge.Ports b)))], I_ (ofNat (length (enS false (Bridge.Ports b)))), B_ true, U_, U_, V_ [C.ptr 0 0 0 [] 2 0 1], V_ [C.d (D.sl false 11 (enS false (Bridge.Ports b)))], I_ i0, V_ [C.rptr (getD (enS false (Bridge.Ports b)) (toNat i0) [])], TV.v true [C.d (D.bool (D.flag (getD (getD (enS false (Bridge.Ports b)) (toNat i0) []) 0 D.dead))), C.d (D.bool (D.flag (getD (getD (enS false (Bridge.Ports b)) (toNat i0) []) 1 D.dead))), C.d (D.int i64 (D.num (getD (getD (enS false (Bridge.Ports b)) (toNat i0) []) 2 D.dead))), C.d (D.int i64 (D.num (getD (getD (enS false (Bridge.Ports b)) (toNat i0) []) 3 D.dead))), C.d (D.int i64 (D.num (getD (getD (enS false (Bridge.Ports b)) (toNat i0) []) 4 D.dead))), C.d (D.int i64 (D.num (getD (getD (enS false (Bridge.Ports b)) (toNat i0) []) 5 D.dead))), C.d (D.int i64 (D.num (getD (getD (enS false (Bridge.Ports b)) (toNat i0) []) 6 D.dead))), C.d (D.int i64 (D.num (getD (getD (enS false (Bridge.Ports b)) (toNat i0) []) 7 D.dead))), C.d (D.int i64 (D.num (getD (getD (enS false (Bridge.Ports b)) (toNat i0) []) 8 D.dead))), C.d (D.int i64 (D.num (getD (getD (enS false (Bridge.Ports b)) (toNat i0) []) 9 D.dead))), C.d (D.bool (D.flag (getD (getD (enS false (Bridge.Ports b)) (toNat i0) []) 10 D.dead)))], B_ (portOk (Port.mk (D.flag (getD (getD (enS false (Bridge.Ports b)) (toNat i0) []) 0 D.dead)) (D.flag (getD (getD (enS false (Bridge.Ports b)) (toNat i0) []) 1 D.dead)) (Vec.mk (D.num (getD (getD (enS false (Bridge.Ports b)) (toNat i0) []) 2 D.dead)) (D.num (getD (getD (enS false (Bridge.Ports b)) (toNat i0) []) 3 D.dead)) (D.num (getD (getD (enS false (Bridge.Ports b)) (toNat i0) []) 4 D.dead)) (D.num (getD (getD (enS false (Bridge.Ports b)) (toNat i0) []) 5 D.dead))) (D.num (getD (getD (enS false (Bridge.Ports b)) (toNat i0) []) 6 D.dead)) (D.num (getD (getD (enS false (Bridge.Ports b)) (toNat i0) []) 7 D.dead)) (D.num (getD (getD (enS false (Bridge.Ports b)) (toNat i0) []) 8 D.dead)) (D.num (getD (getD (enS false (Bridge.Ports b)) (toNat i0) []) 9 D.dead)) (D.flag (getD (getD (enS false (Bridge.Ports b)) (toNat i0) []) 10 D.dead)))), B_ true, U_, U_, U_, U_, U_, U_, U_, U_, U_] [Root.mk true 2 [[D.int i64 (Bridge.Id b), D.sl false 11 (enS false (Bridge.Ports b))]] 0 0 true true false]
def X33_3 (b : Bridge) (i0 : Int) : St := St.mk [U_, V_ [C.ptr 0 0 0 [] 2 0 0], U_, I_ i0, I_ i0, V_ [C.ptr 0 0 0 [] 2 0 1], V_ [C.d (D.sl false 11 (enS false (Bridge.Ports b)))], I_ (ofNat (length (enS false (Bridge.Ports b)))), B_ false, U_, U_, U_, U_, U_, U_, U_, U_, U_, U_, U_, U_, U_, U_, U_, U_, U_, U_] [Root.mk true 2 [[D.int i64 (Bridge.Id b), D.sl false 11 (enS false (Bridge.Ports b))]] 0 0 true true false]
theorem q33_0 (b : Bridge) (n : Nat) (i0 : Int) (f : St → RR) (K : Ex → St → RR) : B33_0 n (S33_0 b i0) (kThen (fun st ↦ f (St.head 1 10 262140 st)) K) = bif decide (i0 < ofNat (length (enS false (Bridge.Ports b)))) then bif decide (0 ≤ i0) && decide (i0 < ofNat (length (enS false (Bridge.Ports b)))) then bif Leaf.fit false Leaf.bool (getD (getD (enS false (Bridge.Ports b)) (toNat i0) []) 0 D.dead) && (Leaf.fit false Leaf.bool (getD (getD (enS false (Bridge.Ports b)) (toNat i0) []) 1 D.dead) && (Leaf.fit false (Leaf.int i64) (getD (getD (enS false (Bridge.Ports b)) (toNat i0) []) 2 D.dead) && (Leaf.fit false (Leaf.int i64) (getD (getD (enS false (Bridge.Ports b)) (toNat i0) []) 3 D.dead) && (Leaf.fit false (Leaf.int i64) (getD (getD (enS false (Bridge.Ports b)) (toNat i0) []) 4 D.dead) && (Leaf.fit false (Leaf.int i64) (getD (getD (enS false (Bridge.Ports b)) (toNat i0) []) 5 D.dead) && (Leaf.fit false (Leaf.int i64) (getD (getD (enS false (Bridge.Ports b)) (toNat i0) []) 6 D.dead) && (Leaf.fit false (Leaf.int i64) (getD (getD (enS false (Bridge.Ports b)) (toNat i0) []) 7 D.dead) && (Leaf.fit false (Leaf.int i64) (getD (getD (enS false (Bridge.Ports b)) (toNat i0) []) 8 D.dead) && (Leaf.fit false (Leaf.int i64) (getD (getD (enS false (Bridge.Ports b)) (toNat i0) []) 9 D.dead) && (Leaf.fit false Leaf.bool (getD (getD (enS false (Bridge.Ports b)) (toNat i0) []) 10 D.dead) && true)))))))))) then bif !portOk (Port.mk (D.flag (getD (getD (enS false (Bridge.Ports b)) (toNat i0) []) 0 D.dead)) (D.flag (getD (getD (enS false (Bridge.Ports b)) (toNat i0) []) 1 D.dead)) (Vec.mk (D.num (getD (getD (enS false (Bridge.Ports b)) (toNat i0) []) 2 D.dead)) (D.num (getD (getD (enS false (Bridge.Ports b)) (toNat i0) []) 3 D.dead)) (D.num (getD (getD (enS false (Bridge.Ports b)) (toNat i0) []) 4 D.dead)) (D.num (getD (getD (enS false (Bridge.Ports b)) (toNat i0) []) 5 D.dead))) (D.num (getD (getD (enS false (Bridge.Ports b)) (toNat i0) []) 6 D.dead)) (D.num (getD (getD (enS false (Bridge.Ports b)) (toNat i0) []) 7 D.dead)) (D.num (getD (getD (enS false (Bridge.Ports b)) (toNat i0) []) 8 D.dead)) (D.num (getD (getD (enS false (Bridge.Ports b)) (toNat i0) []) 9 D.dead)) (D.flag (getD (getD (enS false (Bridge.Ports b)) (toNat i0) []) 10 D.dead))) then K Ex.ret (X33_2 b i0) else f (S33_0 b (wrap i64 (i0 + 1))) else none else none else K (Ex.exit 0) (X33_3 b i0) := by kernel_rfl
theorem aX33_2 (b : Bridge) (n : Nat) (i0 : Int) : k33_1 n Ex.ret (X33_2 b i0) = some ([[D.bool false]], []) := by kernel_rfl
theorem aX33_3 (b : Bridge) (n : Nat) (i0 : Int) : k33_1 n (Ex.exit 0) (X33_3 b i0) = bif inR (Bridge.Id b) (1) (9) then some ([[D.bool (inR (ofNat (length (enS false (Bridge.Ports b)))) (1) (4))]], []) else some ([[D.bool false]], []) := by kernel_rfl
theorem r33 (b : Bridge) (n : Nat) : evFn ⟨prog, Hx, 33⟩ T58.call n f33 [[.int .i64 b.Id, .sl false 11 (enS false b.Ports)]] = loopRun (B33_0 n) 1 10 262140 n (S33_0 b (0)) (k33_1 n) := by kernel_rfl
theorem m33 (b : Bridge) (hpre : (o33 b).1 = true) : evFn ⟨Go.Proofs.Try.prog, Hx, 33⟩ T58.call (b.Ports.length + 1) f33 [[.int .i64 b.Id, .sl false 11 (enS false b.Ports)]] = some (o33 b).2 := by
  refine (r33 b _).trans ?_
  show _ = (some ([[.bool (bridgeOk b)]], []) : Option (List Row × List Row))
  replace hpre : (decide (b.Ports.length ≤ 1048576)) = true := hpre
  have hlen := of_decide_eq_true hpre
  unfold bridgeOk
  refine loop_list (xs := b.Ports) (fun i (_ : Unit) => S33_0 b (Int.ofNat i)) (fun _ _ => True) (fun _ _ rest => some ([[D.bool (rest.all portOk && (inR b.Id 1 9 && inR (b.Ports.length : Int) 1 4))]], [])) ?_ ?_ (b.Ports.length + 1) () (by omega) trivial
  · rintro _ _ f
    refine (q33_0 b _ _ f _).trans ?_
    rw [end_lt, cond_false]
    refine (aX33_3 b _ _).trans ?_
    simp only [enS_length, List.all_nil, Bool.true_and]
    cases inR b.Id 1 9 <;> rfl
  · rintro i _ hi _ f hf
    refine (q33_0 b _ _ f _).trans ?_
    simp only [enS_length, toNat_of, dec_lt, dec_ge, decide_true, decide_false, cond_true, cond_false, Bool.and_self, Bool.and_true, Bool.true_and, Bool.not_true, Bool.not_false, Nat.lt_irrefl, Nat.zero_add, isS_enS, deS_enS, isS_nil, deS_nil, List.nil_append, lendRows_enS, deepRows_enS, noSl_u8, En.enc, List.getD_cons_zero, List.getD_cons_succ, D.num, D.flag, D.text, D.rows, Leaf.fit, List.append_eq, TReader.eta, Frame.eta, Heard.eta, Member.eta, Card.eta, Out1.eta, Vec.eta, Port.eta, Bridge.eta, In.eta, Out.eta, Link.eta, Net.eta, TEnd.eta, Minder.eta, Reg.eta, Wire.eta, Box.eta, Deed.eta, Bpdu.eta, Visit.eta, Fabric.eta, Got.eta, TRide.eta, Up.eta, Copy.eta, Bucket.eta, Snap.eta, TL9Cur.eta, TL21In.eta, enS_get _ hi, hi, wrap_succ (show i < 4611686018427387904 by omega)]
    cases hp : portOk b.Ports[i]
    · simp only [enS_length, toNat_of, dec_lt, dec_ge, decide_true, decide_false, cond_true, cond_false, Bool.and_self, Bool.and_true, Bool.true_and, Bool.not_true, Bool.not_false, Nat.lt_irrefl, Nat.zero_add, isS_enS, deS_enS, isS_nil, deS_nil, List.nil_append, lendRows_enS, deepRows_enS, noSl_u8, En.enc, List.getD_cons_zero, List.getD_cons_succ, D.num, D.flag, D.text, D.rows, Leaf.fit, List.append_eq, TReader.eta, Frame.eta, Heard.eta, Member.eta, Card.eta, Out1.eta, Vec.eta, Port.eta, Bridge.eta, In.eta, Out.eta, Link.eta, Net.eta, TEnd.eta, Minder.eta, Reg.eta, Wire.eta, Box.eta, Deed.eta, Bpdu.eta, Visit.eta, Fabric.eta, Got.eta, TRide.eta, Up.eta, Copy.eta, Bucket.eta, Snap.eta, TL9Cur.eta, TL21In.eta]
      refine (aX33_2 b _ _).trans ?_
      simp only [List.all_cons, hp, Bool.false_and]
    · simp only [enS_length, toNat_of, dec_lt, dec_ge, decide_true, decide_false, cond_true, cond_false, Bool.and_self, Bool.and_true, Bool.true_and, Bool.not_true, Bool.not_false, Nat.lt_irrefl, Nat.zero_add, isS_enS, deS_enS, isS_nil, deS_nil, List.nil_append, lendRows_enS, deepRows_enS, noSl_u8, En.enc, List.getD_cons_zero, List.getD_cons_succ, D.num, D.flag, D.text, D.rows, Leaf.fit, List.append_eq, TReader.eta, Frame.eta, Heard.eta, Member.eta, Card.eta, Out1.eta, Vec.eta, Port.eta, Bridge.eta, In.eta, Out.eta, Link.eta, Net.eta, TEnd.eta, Minder.eta, Reg.eta, Wire.eta, Box.eta, Deed.eta, Bpdu.eta, Visit.eta, Fabric.eta, Got.eta, TRide.eta, Up.eta, Copy.eta, Bucket.eta, Snap.eta, TL9Cur.eta, TL21In.eta]
      refine (hf () trivial).trans ?_
      simp only [List.all_cons, hp, Bool.true_and]
theorem s33 : SoundAt Go.Proofs.Try.prog Hx 33 c33 := soundAt_of T58_sound mixed func33 (by kernel_rfl) (by
  intro rows r h
  unfold c33 at h
  split at h
  · rename_i b_Id b_Ports
    obtain ⟨hp, hr⟩ := Prod.mk.inj (Option.some.inj h)
    subst hr
    simp only [Bool.and_eq_true] at hp
    obtain ⟨hs0, hp⟩ := hp
    obtain ⟨xs0, rfl⟩ := isS_ex hs0
    simp only [deS_enS] at hp ⊢
    exact ⟨_, m33 ⟨b_Id, xs0⟩ hp⟩
  · cases h)
def T33 : Table := (33, c33) :: T58
theorem T33_sound : Table.Sound Go.Proofs.Try.prog Hx T33 := Table.sound_cons s33 T58_sound
end Go.Ev
end
