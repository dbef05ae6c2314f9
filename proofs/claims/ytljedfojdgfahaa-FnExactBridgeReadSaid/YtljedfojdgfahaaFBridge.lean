/- Contracts of functions, each by its evaluation. -/
import Derived.Test.YtljedfojdgfahaaEvMd
import Derived.Test.YtljedfojdgfahaaProg
import Derived.KernelRfl
import Derived.Test.YtljedfojdgfahaaFPortbytes
set_option linter.unusedVariables false
set_option linter.unusedSimpArgs false
set_option maxRecDepth 100000
noncomputable section
open List (getD length drop take set append replicate all isEmpty)
open Int (toNat ofNat)
open Go.IntKind (i64 wrap)
open Go.Proofs.Try (prog)
namespace Go.Ev
open Go.RowKit Go.Md
end Go.Ev
namespace Go.Md
open Go Go.Ev
def bridgeOk (b : Bridge) : Bool := b.Ports.all portOk && (inR b.Id 1 9 && inR (b.Ports.length : Int) 1 4)
def sumL : List UInt8 → Int → Int → Int
  | [], x, y => y * 65536 + x
  | b :: bs, x, y => sumL bs ((x + (b.toNat : Int)).tmod 65521) ((y + (x + (b.toNat : Int)).tmod 65521).tmod 65521)
theorem tmod_b (x : Int) (h : 0 ≤ x) : 0 ≤ x.tmod 65521 ∧ x.tmod 65521 < 65521 := ⟨Int.tmod_nonneg 65521 h, Int.tmod_lt_of_pos x (by decide)⟩
def sumOf (b : List UInt8) : Int := sumL b 1 0
def sumBs (n : Int) : List UInt8 := [u8 n, u8 (n.fdiv 256), u8 (n.fdiv 65536), u8 (n.fdiv 16777216)]
def portsBs (ps : List Port) : List UInt8 := ps.flatMap portBs
end Go.Md
namespace Go.Ev
open Go.Md
/- BridgeOk -/
def o47 (b : Bridge) : Bool × List Row × List Row := (decide (b.Ports.length ≤ 1048576), [[.bool (bridgeOk b)]], [])
def c47 : Contract
  | [[.int .i64 b_Id, .sl false 11 b_Ports]] => some (isS Port false b_Ports && (o47 ⟨b_Id, (deS Port b_Ports)⟩).1, (o47 ⟨b_Id, (deS Port b_Ports)⟩).2.1, (o47 ⟨b_Id, (deS Port b_Ports)⟩).2.2)
  | _ => none

def k47_0 (n : Nat) : Ex → St → RR := kThen (fun st ↦ runCode (Ctx.mk prog Hx (47)) (Table.call T73) n (codeAt [1, 1] (bodyOf Go.Proofs.Try.f47)) (Lv.mk 4 [] 4) st (kLeave (Ctx.P (Ctx.mk prog Hx (47))) (List.zip (Array.toList (Go.Func.resultTypes Go.Proofs.Try.f47)) (Array.toList (Go.Func.results Go.Proofs.Try.f47))) [] [])) (kLeave (Ctx.P (Ctx.mk prog Hx (47))) (List.zip (Array.toList (Go.Func.resultTypes Go.Proofs.Try.f47)) (Array.toList (Go.Func.results Go.Proofs.Try.f47))) [] [])
def k47_1 (n : Nat) : Ex → St → RR := kBlock (0) (k47_0 n)
def S47_0 (b : Bridge) (i0 : Int) : St := St.mk [U_, TV.v false [C.ptr 0 0 0 [] 2 0 0], U_, U_, U_, U_, TV.v false [C.d (D.sl false 11 (enS false (Bridge.Ports b)))], I_ (ofNat (length (enS false (Bridge.Ports b)))), I_ i0, U_, U_, U_, U_, U_, U_, U_, U_, U_, U_, U_, U_, U_, U_, U_, U_] [Root.mk true 2 [[D.int i64 (Bridge.Id b), D.sl false 11 (enS false (Bridge.Ports b))]] 0 0 true true false]
def B47_0 (n : Nat) : St → (Ex → St → RR) → RR := runCode (Ctx.mk prog Hx (47)) (Table.call T73) n (codeAt [1, 0, 1, 0, 0] (bodyOf Go.Proofs.Try.f47)) (Lv.mk 450 [(0, 2)] 4)
def X47_2 (b : Bridge) (i0 : Int) : St := St.mk [U_, TV.v false [C.ptr 0 0 0 [] 2 0 0], B_ false, U_, TV.v false [C.ptr 1 0 0 [] 11 0 0], U_, TV.v false [C.d (D.sl false 11 (enS false (Bridge.Ports b)))], I_ (ofNat (length (enS false (Bridge.Ports b)))), I_ i0, B_ true, TV.v false [C.rptr (getD (enS false (Bridge.Ports b)) (toNat i0) [])], TV.v true [C.d (D.bool (D.flag (getD (getD (enS false (Bridge.Ports b)) (toNat i0) []) 0 D.dead))), C.d (D.bool (D.flag (getD (getD (enS false (Bridge.Ports b)) (toNat i0) []) 1 D.dead))), C.d (D.int i64 (D.num (getD (getD (enS false (Bridge.Ports b)) (toNat i0) []) 2 D.dead))), C.d (D.int i64 (D.num (getD (getD (enS false (Bridge.Ports b)) (toNat i0) []) 3 D.dead))), C.d (D.int i64 (D.num (getD (getD (enS false (Bridge.Ports b)) (toNat i0) []) 4 D.dead))), C.d (D.int i64 (D.num (getD (getD (enS false (Bridge.Ports b)) (toNat i0) []) 5 D.dead))), C.d (D.int i64 (D.num (getD (getD (enS false (Bridge.Ports b)) (toNat i0) []) 6 D.dead))), C.d (D.int i64 (D.num (getD (getD (enS false (Bridge.Ports b)) (toNat i0) []) 7 D.dead))), C.d (D.int i64 (D.num (getD (getD (enS false (Bridge.Ports b)) (toNat i0) []) 8 D.dead))), C.d (D.int i64 (D.num (getD (getD (enS false (Bridge.Ports b)) (toNat i0) []) 9 D.dead))), C.d (D.bool (D.flag (getD (getD (enS false (Bridge.Ports b)) (toNat i0) []) 10 D.dead)))], TV.v true [C.d (D.bool (D.flag (getD (getD (enS false (Bridge.Ports b)) (toNat i0) []) 0 D.dead))), C.d (D.bool (D.flag (getD (getD (enS false (Bridge.Ports b)) (toNat i0) []) 1 D.dead))), C.d (D.int i64 (D.num (getD (getD (enS false (Bridge.Ports b)) (toNat i0) []) 2 D.dead))), C.d (D.int i64 (D.num (getD (getD (enS false (Bridge.Ports b)) (toNat i0) []) 3 D.dead))), C.d (D.int i64 (D.num (getD (getD (enS false (Bridge.Ports b)) (toNat i0) []) 4 D.dead))), C.d (D.int i64 (D.num (getD (getD (enS false (Bridge.Ports b)) (toNat i0) []) 5 D.dead))), C.d (D.int i64 (D.num (getD (getD (enS false (Bridge.Ports b)) (toNat i0) []) 6 D.dead))), C.d (D.int i64 (D.num (getD (getD (enS false (Bridge.Ports b)) (toNat i0) []) 7 D.dead))), C.d (D.int i64 (D.num (getD (getD (enS false (Bridge.Ports b)) (toNat i0) []) 8 D.dead))), C.d (D.int i64 (D.num (getD (getD (enS false (Bridge.Ports b)) (toNat i0) []) 9 D.dead))), C.d (D.bool (D.flag (getD (getD (enS false (Bridge.Ports b)) (toNat i0) []) 10 D.dead)))], B_ (portOk (Port.mk (D.flag (getD (getD (enS false (Bridge.Ports b)) (toNat i0) []) 0 D.dead)) (D.flag (getD (getD (enS false (Bridge.Ports b)) (toNat i0) []) 1 D.dead)) (Vec.mk (D.num (getD (getD (enS false (Bridge.Ports b)) (toNat i0) []) 2 D.dead)) (D.num (getD (getD (enS false (Bridge.Ports b)) (toNat i0) []) 3 D.dead)) (D.num (getD (getD (enS false (Bridge.Ports b)) (toNat i0) []) 4 D.dead)) (D.num (getD (getD (enS false (Bridge.Ports b)) (toNat i0) []) 5 D.dead))) (D.num (getD (getD (enS false (Bridge.Ports b)) (toNat i0) []) 6 D.dead)) (D.num (getD (getD (enS false (Bridge.Ports b)) (toNat i0) []) 7 D.dead)) (D.num (getD (getD (enS false (Bridge.Ports b)) (toNat i0) []) 8 D.dead)) (D.num (getD (getD (enS false (Bridge.Ports b)) (toNat i0) []) 9 D.dead)) (D.flag (getD (getD (enS false (Bridge.Ports b)) (toNat i0) []) 10 D.dead)))), B_ true, U_, U_, U_, U_, U_, U_, U_, U_, U_, U_] [Root.mk true 2 [[D.int i64 (Bridge.Id b), D.sl false 11 (enS false (Bridge.Ports b))]] 0 0 true true false, Root.mk true 11 [[D.bool (D.flag (getD (getD (enS false (Bridge.Ports b)) (toNat i0) []) 0 D.dead)), D.bool (D.flag (getD (getD (enS false (Bridge.Ports b)) (toNat i0) []) 1 D.dead)), D.int i64 (D.num (getD (getD (enS false (Bridge.Ports b)) (toNat i0) []) 2 D.dead)), D.int i64 (D.num (getD (getD (enS false (Bridge.Ports b)) (toNat i0) []) 3 D.dead)), D.int i64 (D.num (getD (getD (enS false (Bridge.Ports b)) (toNat i0) []) 4 D.dead)), D.int i64 (D.num (getD (getD (enS false (Bridge.Ports b)) (toNat i0) []) 5 D.dead)), D.int i64 (D.num (getD (getD (enS false (Bridge.Ports b)) (toNat i0) []) 6 D.dead)), D.int i64 (D.num (getD (getD (enS false (Bridge.Ports b)) (toNat i0) []) 7 D.dead)), D.int i64 (D.num (getD (getD (enS false (Bridge.Ports b)) (toNat i0) []) 8 D.dead)), D.int i64 (D.num (getD (getD (enS false (Bridge.Ports b)) (toNat i0) []) 9 D.dead)), D.bool (D.flag (getD (getD (enS false (Bridge.Ports b)) (toNat i0) []) 10 D.dead))]] 0 0 true true false]
def X47_3 (b : Bridge) (i0 : Int) : St := St.mk [U_, TV.v false [C.ptr 0 0 0 [] 2 0 0], U_, U_, U_, U_, TV.v false [C.d (D.sl false 11 (enS false (Bridge.Ports b)))], I_ (ofNat (length (enS false (Bridge.Ports b)))), I_ i0, B_ false, U_, U_, U_, U_, U_, U_, U_, U_, U_, U_, U_, U_, U_, U_, U_] [Root.mk true 2 [[D.int i64 (Bridge.Id b), D.sl false 11 (enS false (Bridge.Ports b))]] 0 0 true true false]
theorem q47_0 (b : Bridge) (n : Nat) (i0 : Int) (f : St → RR) (K : Ex → St → RR) : B47_0 n (S47_0 b i0) (kThen (fun st ↦ f (St.head 1 450 65300 st)) K) = bif decide (i0 < ofNat (length (enS false (Bridge.Ports b)))) then bif decide (0 ≤ i0) && decide (i0 < ofNat (length (enS false (Bridge.Ports b)))) then bif Leaf.fit false Leaf.bool (getD (getD (enS false (Bridge.Ports b)) (toNat i0) []) 0 D.dead) && (Leaf.fit false Leaf.bool (getD (getD (enS false (Bridge.Ports b)) (toNat i0) []) 1 D.dead) && (Leaf.fit false (Leaf.int i64) (getD (getD (enS false (Bridge.Ports b)) (toNat i0) []) 2 D.dead) && (Leaf.fit false (Leaf.int i64) (getD (getD (enS false (Bridge.Ports b)) (toNat i0) []) 3 D.dead) && (Leaf.fit false (Leaf.int i64) (getD (getD (enS false (Bridge.Ports b)) (toNat i0) []) 4 D.dead) && (Leaf.fit false (Leaf.int i64) (getD (getD (enS false (Bridge.Ports b)) (toNat i0) []) 5 D.dead) && (Leaf.fit false (Leaf.int i64) (getD (getD (enS false (Bridge.Ports b)) (toNat i0) []) 6 D.dead) && (Leaf.fit false (Leaf.int i64) (getD (getD (enS false (Bridge.Ports b)) (toNat i0) []) 7 D.dead) && (Leaf.fit false (Leaf.int i64) (getD (getD (enS false (Bridge.Ports b)) (toNat i0) []) 8 D.dead) && (Leaf.fit false (Leaf.int i64) (getD (getD (enS false (Bridge.Ports b)) (toNat i0) []) 9 D.dead) && (Leaf.fit false Leaf.bool (getD (getD (enS false (Bridge.Ports b)) (toNat i0) []) 10 D.dead) && true)))))))))) then bif !portOk (Port.mk (D.flag (getD (getD (enS false (Bridge.Ports b)) (toNat i0) []) 0 D.dead)) (D.flag (getD (getD (enS false (Bridge.Ports b)) (toNat i0) []) 1 D.dead)) (Vec.mk (D.num (getD (getD (enS false (Bridge.Ports b)) (toNat i0) []) 2 D.dead)) (D.num (getD (getD (enS false (Bridge.Ports b)) (toNat i0) []) 3 D.dead)) (D.num (getD (getD (enS false (Bridge.Ports b)) (toNat i0) []) 4 D.dead)) (D.num (getD (getD (enS false (Bridge.Ports b)) (toNat i0) []) 5 D.dead))) (D.num (getD (getD (enS false (Bridge.Ports b)) (toNat i0) []) 6 D.dead)) (D.num (getD (getD (enS false (Bridge.Ports b)) (toNat i0) []) 7 D.dead)) (D.num (getD (getD (enS false (Bridge.Ports b)) (toNat i0) []) 8 D.dead)) (D.num (getD (getD (enS false (Bridge.Ports b)) (toNat i0) []) 9 D.dead)) (D.flag (getD (getD (enS false (Bridge.Ports b)) (toNat i0) []) 10 D.dead))) then K Ex.ret (X47_2 b i0) else f (S47_0 b (wrap i64 (i0 + 1))) else none else none else K (Ex.exit 0) (X47_3 b i0) := by kernel_rfl
theorem aX47_2 (b : Bridge) (n : Nat) (i0 : Int) : k47_1 n Ex.ret (X47_2 b i0) = some ([[D.bool false]], []) := by kernel_rfl
theorem aX47_3 (b : Bridge) (n : Nat) (i0 : Int) : k47_1 n (Ex.exit 0) (X47_3 b i0) = bif inR (Bridge.Id b) (1) (9) then some ([[D.bool (inR (ofNat (length (enS false (Bridge.Ports b)))) (1) (4))]], []) else some ([[D.bool false]], []) := by kernel_rfl
theorem r47 (b : Bridge) (n : Nat) : evFn ⟨prog, Hx, 47⟩ T73.call n Go.Proofs.Try.f47 [[.int .i64 b.Id, .sl false 11 (enS false b.Ports)]] = loopRun (B47_0 n) 1 450 65300 n (S47_0 b (0)) (k47_1 n) := by kernel_rfl
theorem m47 (b : Bridge) (hpre : (o47 b).1 = true) : evFn ⟨Go.Proofs.Try.prog, Hx, 47⟩ T73.call (b.Ports.length + 1) Go.Proofs.Try.f47 [[.int .i64 b.Id, .sl false 11 (enS false b.Ports)]] = some (o47 b).2 := by
  refine (r47 b _).trans ?_
  show _ = (some ([[.bool (bridgeOk b)]], []) : Option (List Row × List Row))
  replace hpre : (decide (b.Ports.length ≤ 1048576)) = true := hpre
  have hlen := of_decide_eq_true hpre
  unfold bridgeOk
  refine loop_list (xs := b.Ports) (fun i (_ : Unit) => S47_0 b (Int.ofNat i)) (fun _ _ => True) (fun _ _ rest => some ([[D.bool (rest.all portOk && (inR b.Id 1 9 && inR (b.Ports.length : Int) 1 4))]], [])) ?_ ?_ (b.Ports.length + 1) () (by omega) trivial
  · rintro _ _ f
    refine (q47_0 b _ _ f _).trans ?_
    rw [end_lt, cond_false]
    refine (aX47_3 b _ _).trans ?_
    simp only [enS_length, List.all_nil, Bool.true_and]
    cases inR b.Id 1 9 <;> rfl
  · rintro i _ hi _ f hf
    refine (q47_0 b _ _ f _).trans ?_
    simp only [enS_length, toNat_of, dec_lt, dec_ge, decide_true, decide_false, cond_true, cond_false, Bool.and_self, Bool.and_true, Bool.true_and, Bool.not_true, Bool.not_false, Nat.lt_irrefl, Nat.zero_add, isS_enS, deS_enS, isS_nil, deS_nil, List.nil_append, lendRows_enS, deepRows_enS, noSl_u8, En.enc, List.getD_cons_zero, List.getD_cons_succ, D.num, D.flag, D.text, D.rows, Leaf.fit, List.append_eq, TReader.eta, Frame.eta, Heard.eta, Member.eta, Card.eta, Out1.eta, Vec.eta, Port.eta, Bridge.eta, In.eta, Out.eta, Link.eta, Net.eta, TEnd.eta, Minder.eta, Reg.eta, Wire.eta, Box.eta, Deed.eta, Bpdu.eta, Visit.eta, Fabric.eta, Got.eta, TRide.eta, Up.eta, Copy.eta, Bucket.eta, Snap.eta, TL9Cur.eta, TL21In.eta, enS_get _ hi, hi, wrap_succ (show i < 4611686018427387904 by omega)]
    cases hp : portOk b.Ports[i]
    · simp only [enS_length, toNat_of, dec_lt, dec_ge, decide_true, decide_false, cond_true, cond_false, Bool.and_self, Bool.and_true, Bool.true_and, Bool.not_true, Bool.not_false, Nat.lt_irrefl, Nat.zero_add, isS_enS, deS_enS, isS_nil, deS_nil, List.nil_append, lendRows_enS, deepRows_enS, noSl_u8, En.enc, List.getD_cons_zero, List.getD_cons_succ, D.num, D.flag, D.text, D.rows, Leaf.fit, List.append_eq, TReader.eta, Frame.eta, Heard.eta, Member.eta, Card.eta, Out1.eta, Vec.eta, Port.eta, Bridge.eta, In.eta, Out.eta, Link.eta, Net.eta, TEnd.eta, Minder.eta, Reg.eta, Wire.eta, Box.eta, Deed.eta, Bpdu.eta, Visit.eta, Fabric.eta, Got.eta, TRide.eta, Up.eta, Copy.eta, Bucket.eta, Snap.eta, TL9Cur.eta, TL21In.eta]
      refine (aX47_2 b _ _).trans ?_
      simp only [List.all_cons, hp, Bool.false_and]
    · simp only [enS_length, toNat_of, dec_lt, dec_ge, decide_true, decide_false, cond_true, cond_false, Bool.and_self, Bool.and_true, Bool.true_and, Bool.not_true, Bool.not_false, Nat.lt_irrefl, Nat.zero_add, isS_enS, deS_enS, isS_nil, deS_nil, List.nil_append, lendRows_enS, deepRows_enS, noSl_u8, En.enc, List.getD_cons_zero, List.getD_cons_succ, D.num, D.flag, D.text, D.rows, Leaf.fit, List.append_eq, TReader.eta, Frame.eta, Heard.eta, Member.eta, Card.eta, Out1.eta, Vec.eta, Port.eta, Bridge.eta, In.eta, Out.eta, Link.eta, Net.eta, TEnd.eta, Minder.eta, Reg.eta, Wire.eta, Box.eta, Deed.eta, Bpdu.eta, Visit.eta, Fabric.eta, Got.eta, TRide.eta, Up.eta, Copy.eta, Bucket.eta, Snap.eta, TL9Cur.eta, TL21In.eta]
      refine (hf () trivial).trans ?_
      simp only [List.all_cons, hp, Bool.true_and]
theorem s47 : SoundAt Go.Proofs.Try.prog Hx 47 c47 := soundAt_of T73_sound mixed Go.Proofs.Try.func47 (by kernel_rfl) (by
  intro rows r h
  unfold c47 at h
  split at h
  · rename_i b_Id b_Ports
    obtain ⟨hp, hr⟩ := Prod.mk.inj (Option.some.inj h)
    subst hr
    simp only [Bool.and_eq_true] at hp
    obtain ⟨hs0, hp⟩ := hp
    obtain ⟨xs0, rfl⟩ := isS_ex hs0
    simp only [deS_enS] at hp ⊢
    exact ⟨_, m47 ⟨b_Id, xs0⟩ hp⟩
  · cases h)
def T47 : Table := (47, c47) :: T73
theorem T47_sound : Table.Sound Go.Proofs.Try.prog Hx T47 := Table.sound_cons s47 T73_sound
/- BridgeOkS -/
def o61 (b : Bridge) : Bool × List Row × List Row := (decide (b.Ports.length ≤ 1048576), [[.bool (bridgeOk b)]], [])
def c61 : Contract
  | [[.int .i64 b_Id, .sl false 11 b_Ports]] => some (isS Port false b_Ports && (o61 ⟨b_Id, (deS Port b_Ports)⟩).1, (o61 ⟨b_Id, (deS Port b_Ports)⟩).2.1, (o61 ⟨b_Id, (deS Port b_Ports)⟩).2.2)
  | _ => none

def k61_0 (n : Nat) : Ex → St → RR := kThen (fun st ↦ runCode (Ctx.mk prog Hx (61)) (Table.call T47) n (codeAt [1, 1] (bodyOf Go.Proofs.Try.f61)) (Lv.mk 4 [] 4) st (kLeave (Ctx.P (Ctx.mk prog Hx (61))) (List.zip (Array.toList (Go.Func.resultTypes Go.Proofs.Try.f61)) (Array.toList (Go.Func.results Go.Proofs.Try.f61))) [] [])) (kLeave (Ctx.P (Ctx.mk prog Hx (61))) (List.zip (Array.toList (Go.Func.resultTypes Go.Proofs.Try.f61)) (Array.toList (Go.Func.results Go.Proofs.Try.f61))) [] [])
def k61_1 (n : Nat) : Ex → St → RR := kBlock (0) (k61_0 n)
def S61_0 (b : Bridge) (i0 : Int) : St := St.mk [U_, TV.v false [C.ptr 0 0 0 [] 2 0 0], U_, I_ i0, U_, U_, U_, U_, U_, U_, U_, U_, U_, U_, U_, U_, U_, U_, U_, U_, U_, U_, U_, U_, U_, U_, U_] [Root.mk true 2 [[D.int i64 (Bridge.Id b), D.sl false 11 (enS false (Bridge.Ports b))]] 0 0 true true false]
def B61_0 (n : Nat) : St → (Ex → St → RR) → RR := runCode (Ctx.mk prog Hx (61)) (Table.call T47) n (codeAt [1, 0, 1, 0, 0] (bodyOf Go.Proofs.Try.f61)) (Lv.mk 10 [(0, 2)] 4)
def X61_2 (b : Bridge) (i0 : Int) : St := St.mk [U_, TV.v false [C.ptr 0 0 0 [] 2 0 0], B_ false, I_ i0, I_ i0, TV.v false [C.ptr 0 0 0 [] 2 0 1], TV.v false [C.d (D.sl false 11 (enS false (Bridge.Ports b)))], I_ (ofNat (length (enS false (Bridge.Ports b)))), B_ true, U_, U_, TV.v false [C.ptr 0 0 0 [] 2 0 1], TV.v false [C.d (D.sl false 11 (enS false (Bridge.Ports b)))], I_ i0, TV.v false [C.rptr (getD (enS false (Bridge.Ports b)) (toNat i0) [])], TV.v true [C.d (D.bool (D.flag (getD (getD (enS false (Bridge.Ports b)) (toNat i0) []) 0 D.dead))), C.d (D.bool (D.flag (getD (getD (enS false (Bridge.Ports b)) (toNat i0) []) 1 D.dead))), C.d (D.int i64 (D.num (getD (getD (enS false (Bridge.Ports b)) (toNat i0) []) 2 D.dead))), C.d (D.int i64 (D.num (getD (getD (enS false (Bridge.Ports b)) (toNat i0) []) 3 D.dead))), C.d (D.int i64 (D.num (getD (getD (enS false (Bridge.Ports b)) (toNat i0) []) 4 D.dead))), C.d (D.int i64 (D.num (getD (getD (enS false (Bridge.Ports b)) (toNat i0) []) 5 D.dead))), C.d (D.int i64 (D.num (getD (getD (enS false (Bridge.Ports b)) (toNat i0) []) 6 D.dead))), C.d (D.int i64 (D.num (getD (getD (enS false (Bridge.Ports b)) (toNat i0) []) 7 D.dead))), C.d (D.int i64 (D.num (getD (getD (enS false (Bridge.Ports b)) (toNat i0) []) 8 D.dead))), C.d (D.int i64 (D.num (getD (getD (enS false (Bridge.Ports b)) (toNat i0) []) 9 D.dead))), C.d (D.bool (D.flag (getD (getD (enS false (Bridge.Ports b)) (toNat i0) []) 10 D.dead)))], B_ (portOk (Port.mk (D.flag (getD (getD (enS false (Bridge.Ports b)) (toNat i0) []) 0 D.dead)) (D.flag (getD (getD (enS false (Bridge.Ports b)) (toNat i0) []) 1 D.dead)) (Vec.mk (D.num (getD (getD (enS false (Bridge.Ports b)) (toNat i0) []) 2 D.dead)) (D.num (getD (getD (enS false (Bridge.Ports b)) (toNat i0) []) 3 D.dead)) (D.num (getD (getD (enS false (Bridge.Ports b)) (toNat i0) []) 4 D.dead)) (D.num (getD (getD (enS false (Bridge.Ports b)) (toNat i0) []) 5 D.dead))) (D.num (getD (getD (enS false (Bridge.Ports b)) (toNat i0) []) 6 D.dead)) (D.num (getD (getD (enS false (Bridge.Ports b)) (toNat i0) []) 7 D.dead)) (D.num (getD (getD (enS false (Bridge.Ports b)) (toNat i0) []) 8 D.dead)) (D.num (getD (getD (enS false (Bridge.Ports b)) (toNat i0) []) 9 D.dead)) (D.flag (getD (getD (enS false (Bridge.Ports b)) (toNat i0) []) 10 D.dead)))), B_ true, U_, U_, U_, U_, U_, U_, U_, U_, U_] [Root.mk true 2 [[D.int i64 (Bridge.Id b), D.sl false 11 (enS false (Bridge.Ports b))]] 0 0 true true false]
def X61_3 (b : Bridge) (i0 : Int) : St := St.mk [U_, TV.v false [C.ptr 0 0 0 [] 2 0 0], U_, I_ i0, I_ i0, TV.v false [C.ptr 0 0 0 [] 2 0 1], TV.v false [C.d (D.sl false 11 (enS false (Bridge.Ports b)))], I_ (ofNat (length (enS false (Bridge.Ports b)))), B_ false, U_, U_, U_, U_, U_, U_, U_, U_, U_, U_, U_, U_, U_, U_, U_, U_, U_, U_] [Root.mk true 2 [[D.int i64 (Bridge.Id b), D.sl false 11 (enS false (Bridge.Ports b))]] 0 0 true true false]
theorem q61_0 (b : Bridge) (n : Nat) (i0 : Int) (f : St → RR) (K : Ex → St → RR) : B61_0 n (S61_0 b i0) (kThen (fun st ↦ f (St.head 1 10 262140 st)) K) = bif decide (i0 < ofNat (length (enS false (Bridge.Ports b)))) then bif decide (0 ≤ i0) && decide (i0 < ofNat (length (enS false (Bridge.Ports b)))) then bif Leaf.fit false Leaf.bool (getD (getD (enS false (Bridge.Ports b)) (toNat i0) []) 0 D.dead) && (Leaf.fit false Leaf.bool (getD (getD (enS false (Bridge.Ports b)) (toNat i0) []) 1 D.dead) && (Leaf.fit false (Leaf.int i64) (getD (getD (enS false (Bridge.Ports b)) (toNat i0) []) 2 D.dead) && (Leaf.fit false (Leaf.int i64) (getD (getD (enS false (Bridge.Ports b)) (toNat i0) []) 3 D.dead) && (Leaf.fit false (Leaf.int i64) (getD (getD (enS false (Bridge.Ports b)) (toNat i0) []) 4 D.dead) && (Leaf.fit false (Leaf.int i64) (getD (getD (enS false (Bridge.Ports b)) (toNat i0) []) 5 D.dead) && (Leaf.fit false (Leaf.int i64) (getD (getD (enS false (Bridge.Ports b)) (toNat i0) []) 6 D.dead) && (Leaf.fit false (Leaf.int i64) (getD (getD (enS false (Bridge.Ports b)) (toNat i0) []) 7 D.dead) && (Leaf.fit false (Leaf.int i64) (getD (getD (enS false (Bridge.Ports b)) (toNat i0) []) 8 D.dead) && (Leaf.fit false (Leaf.int i64) (getD (getD (enS false (Bridge.Ports b)) (toNat i0) []) 9 D.dead) && (Leaf.fit false Leaf.bool (getD (getD (enS false (Bridge.Ports b)) (toNat i0) []) 10 D.dead) && true)))))))))) then bif !portOk (Port.mk (D.flag (getD (getD (enS false (Bridge.Ports b)) (toNat i0) []) 0 D.dead)) (D.flag (getD (getD (enS false (Bridge.Ports b)) (toNat i0) []) 1 D.dead)) (Vec.mk (D.num (getD (getD (enS false (Bridge.Ports b)) (toNat i0) []) 2 D.dead)) (D.num (getD (getD (enS false (Bridge.Ports b)) (toNat i0) []) 3 D.dead)) (D.num (getD (getD (enS false (Bridge.Ports b)) (toNat i0) []) 4 D.dead)) (D.num (getD (getD (enS false (Bridge.Ports b)) (toNat i0) []) 5 D.dead))) (D.num (getD (getD (enS false (Bridge.Ports b)) (toNat i0) []) 6 D.dead)) (D.num (getD (getD (enS false (Bridge.Ports b)) (toNat i0) []) 7 D.dead)) (D.num (getD (getD (enS false (Bridge.Ports b)) (toNat i0) []) 8 D.dead)) (D.num (getD (getD (enS false (Bridge.Ports b)) (toNat i0) []) 9 D.dead)) (D.flag (getD (getD (enS false (Bridge.Ports b)) (toNat i0) []) 10 D.dead))) then K Ex.ret (X61_2 b i0) else f (S61_0 b (wrap i64 (i0 + 1))) else none else none else K (Ex.exit 0) (X61_3 b i0) := by kernel_rfl
theorem aX61_2 (b : Bridge) (n : Nat) (i0 : Int) : k61_1 n Ex.ret (X61_2 b i0) = some ([[D.bool false]], []) := by kernel_rfl
theorem aX61_3 (b : Bridge) (n : Nat) (i0 : Int) : k61_1 n (Ex.exit 0) (X61_3 b i0) = bif inR (Bridge.Id b) (1) (9) then some ([[D.bool (inR (ofNat (length (enS false (Bridge.Ports b)))) (1) (4))]], []) else some ([[D.bool false]], []) := by kernel_rfl
theorem r61 (b : Bridge) (n : Nat) : evFn ⟨prog, Hx, 61⟩ T47.call n Go.Proofs.Try.f61 [[.int .i64 b.Id, .sl false 11 (enS false b.Ports)]] = loopRun (B61_0 n) 1 10 262140 n (S61_0 b (0)) (k61_1 n) := by kernel_rfl
theorem m61 (b : Bridge) (hpre : (o61 b).1 = true) : evFn ⟨Go.Proofs.Try.prog, Hx, 61⟩ T47.call (b.Ports.length + 1) Go.Proofs.Try.f61 [[.int .i64 b.Id, .sl false 11 (enS false b.Ports)]] = some (o61 b).2 := by
  refine (r61 b _).trans ?_
  show _ = (some ([[.bool (bridgeOk b)]], []) : Option (List Row × List Row))
  replace hpre : (decide (b.Ports.length ≤ 1048576)) = true := hpre
  have hlen := of_decide_eq_true hpre
  unfold bridgeOk
  refine loop_list (xs := b.Ports) (fun i (_ : Unit) => S61_0 b (Int.ofNat i)) (fun _ _ => True) (fun _ _ rest => some ([[D.bool (rest.all portOk && (inR b.Id 1 9 && inR (b.Ports.length : Int) 1 4))]], [])) ?_ ?_ (b.Ports.length + 1) () (by omega) trivial
  · rintro _ _ f
    refine (q61_0 b _ _ f _).trans ?_
    rw [end_lt, cond_false]
    refine (aX61_3 b _ _).trans ?_
    simp only [enS_length, List.all_nil, Bool.true_and]
    cases inR b.Id 1 9 <;> rfl
  · rintro i _ hi _ f hf
    refine (q61_0 b _ _ f _).trans ?_
    simp only [enS_length, toNat_of, dec_lt, dec_ge, decide_true, decide_false, cond_true, cond_false, Bool.and_self, Bool.and_true, Bool.true_and, Bool.not_true, Bool.not_false, Nat.lt_irrefl, Nat.zero_add, isS_enS, deS_enS, isS_nil, deS_nil, List.nil_append, lendRows_enS, deepRows_enS, noSl_u8, En.enc, List.getD_cons_zero, List.getD_cons_succ, D.num, D.flag, D.text, D.rows, Leaf.fit, List.append_eq, TReader.eta, Frame.eta, Heard.eta, Member.eta, Card.eta, Out1.eta, Vec.eta, Port.eta, Bridge.eta, In.eta, Out.eta, Link.eta, Net.eta, TEnd.eta, Minder.eta, Reg.eta, Wire.eta, Box.eta, Deed.eta, Bpdu.eta, Visit.eta, Fabric.eta, Got.eta, TRide.eta, Up.eta, Copy.eta, Bucket.eta, Snap.eta, TL9Cur.eta, TL21In.eta, enS_get _ hi, hi, wrap_succ (show i < 4611686018427387904 by omega)]
    cases hp : portOk b.Ports[i]
    · simp only [enS_length, toNat_of, dec_lt, dec_ge, decide_true, decide_false, cond_true, cond_false, Bool.and_self, Bool.and_true, Bool.true_and, Bool.not_true, Bool.not_false, Nat.lt_irrefl, Nat.zero_add, isS_enS, deS_enS, isS_nil, deS_nil, List.nil_append, lendRows_enS, deepRows_enS, noSl_u8, En.enc, List.getD_cons_zero, List.getD_cons_succ, D.num, D.flag, D.text, D.rows, Leaf.fit, List.append_eq, TReader.eta, Frame.eta, Heard.eta, Member.eta, Card.eta, Out1.eta, Vec.eta, Port.eta, Bridge.eta, In.eta, Out.eta, Link.eta, Net.eta, TEnd.eta, Minder.eta, Reg.eta, Wire.eta, Box.eta, Deed.eta, Bpdu.eta, Visit.eta, Fabric.eta, Got.eta, TRide.eta, Up.eta, Copy.eta, Bucket.eta, Snap.eta, TL9Cur.eta, TL21In.eta]
      refine (aX61_2 b _ _).trans ?_
      simp only [List.all_cons, hp, Bool.false_and]
    · simp only [enS_length, toNat_of, dec_lt, dec_ge, decide_true, decide_false, cond_true, cond_false, Bool.and_self, Bool.and_true, Bool.true_and, Bool.not_true, Bool.not_false, Nat.lt_irrefl, Nat.zero_add, isS_enS, deS_enS, isS_nil, deS_nil, List.nil_append, lendRows_enS, deepRows_enS, noSl_u8, En.enc, List.getD_cons_zero, List.getD_cons_succ, D.num, D.flag, D.text, D.rows, Leaf.fit, List.append_eq, TReader.eta, Frame.eta, Heard.eta, Member.eta, Card.eta, Out1.eta, Vec.eta, Port.eta, Bridge.eta, In.eta, Out.eta, Link.eta, Net.eta, TEnd.eta, Minder.eta, Reg.eta, Wire.eta, Box.eta, Deed.eta, Bpdu.eta, Visit.eta, Fabric.eta, Got.eta, TRide.eta, Up.eta, Copy.eta, Bucket.eta, Snap.eta, TL9Cur.eta, TL21In.eta]
      refine (hf () trivial).trans ?_
      simp only [List.all_cons, hp, Bool.true_and]
theorem s61 : SoundAt Go.Proofs.Try.prog Hx 61 c61 := soundAt_of T47_sound mixed Go.Proofs.Try.func61 (by kernel_rfl) (by
  intro rows r h
  unfold c61 at h
  split at h
  · rename_i b_Id b_Ports
    obtain ⟨hp, hr⟩ := Prod.mk.inj (Option.some.inj h)
    subst hr
    simp only [Bool.and_eq_true] at hp
    obtain ⟨hs0, hp⟩ := hp
    obtain ⟨xs0, rfl⟩ := isS_ex hs0
    simp only [deS_enS] at hp ⊢
    exact ⟨_, m61 ⟨b_Id, xs0⟩ hp⟩
  · cases h)
def T61 : Table := (61, c61) :: T47
theorem T61_sound : Table.Sound Go.Proofs.Try.prog Hx T61 := Table.sound_cons s61 T47_sound
/- SumOf -/
def o95 (b : List UInt8) : Bool × List Row × List Row := (decide (b.length ≤ 1048576), [[.int .i64 (sumOf b)]], [])
def c95 : Contract
  | [[.sl false 1 b]] => some (isS UInt8 false b && (o95 (deS UInt8 b)).1, (o95 (deS UInt8 b)).2.1, (o95 (deS UInt8 b)).2.2)
  | _ => none

def k95_0 (n : Nat) : Ex → St → RR := kThen (fun st ↦ runCode (Ctx.mk prog Hx (95)) (Table.call T61) n (codeAt [1, 1, 1] (bodyOf Go.Proofs.Try.f95)) (Lv.mk 4 [] 4) st (kLeave (Ctx.P (Ctx.mk prog Hx (95))) (List.zip (Array.toList (Go.Func.resultTypes Go.Proofs.Try.f95)) (Array.toList (Go.Func.results Go.Proofs.Try.f95))) [] [])) (kLeave (Ctx.P (Ctx.mk prog Hx (95))) (List.zip (Array.toList (Go.Func.resultTypes Go.Proofs.Try.f95)) (Array.toList (Go.Func.results Go.Proofs.Try.f95))) [] [])
def k95_1 (n : Nat) : Ex → St → RR := kBlock (0) (k95_0 n)
def S95_0 (b : List UInt8) (i0 : Int) (i1 : Int) (i2 : Int) : St := St.mk [U_, U_, U_, I_ i0, I_ i1, U_, U_, TV.v false [C.d (D.sl false 1 (enS false b))], I_ (ofNat (length (enS false b))), I_ i2, U_, U_, U_, U_, U_, U_, U_, U_, U_, U_, U_, U_, U_, U_, U_, U_, U_] []
def B95_0 (n : Nat) : St → (Ex → St → RR) → RR := runCode (Ctx.mk prog Hx (95)) (Table.call T61) n (codeAt [1, 1, 0, 1, 0, 0] (bodyOf Go.Proofs.Try.f95)) (Lv.mk 920 [(0, 24)] 4)
def X95_2 (b : List UInt8) (i0 : Int) (i1 : Int) (i2 : Int) : St := St.mk [U_, U_, U_, I_ i0, I_ i1, U_, U_, TV.v false [C.d (D.sl false 1 (enS false b))], I_ (ofNat (length (enS false b))), I_ i2, B_ false, U_, U_, U_, U_, U_, U_, U_, U_, U_, U_, U_, U_, U_, U_, U_, U_] []
theorem q95_0 (b : List UInt8) (n : Nat) (i0 : Int) (i1 : Int) (i2 : Int) (f : St → RR) (K : Ex → St → RR) : B95_0 n (S95_0 b i0 i1 i2) (kThen (fun st ↦ f (St.head 0 920 8388184 st)) K) = bif decide (i2 < ofNat (length (enS false b))) then bif decide (0 ≤ i2) && decide (i2 < ofNat (length (enS false b))) then bif Leaf.fit false (Leaf.int IntKind.u8) (getD (getD (enS false b) (toNat i2) []) 0 D.dead) && true then f (S95_0 b (Int.tmod (wrap i64 (i0 + wrap i64 (D.num (getD (getD (enS false b) (toNat i2) []) 0 D.dead)))) (65521)) (Int.tmod (wrap i64 (i1 + Int.tmod (wrap i64 (i0 + wrap i64 (D.num (getD (getD (enS false b) (toNat i2) []) 0 D.dead)))) (65521))) (65521)) (wrap i64 (i2 + 1))) else none else none else K (Ex.exit 0) (X95_2 b i0 i1 i2) := by kernel_rfl
theorem aX95_2 (b : List UInt8) (n : Nat) (i0 : Int) (i1 : Int) (i2 : Int) : k95_1 n (Ex.exit 0) (X95_2 b i0 i1 i2) = some ([[D.int i64 (wrap i64 (wrap i64 (i1 * 65536) + i0))]], []) := by kernel_rfl
theorem r95 (b : List UInt8) (n : Nat) : evFn ⟨prog, Hx, 95⟩ T61.call n Go.Proofs.Try.f95 [[.sl false 1 (enS false b)]] = loopRun (B95_0 n) 0 920 8388184 n (S95_0 b (1) (0) (0)) (k95_1 n) := by kernel_rfl
theorem m95 (b : List UInt8) (hpre : (o95 b).1 = true) : evFn ⟨Go.Proofs.Try.prog, Hx, 95⟩ T61.call (b.length + 1) Go.Proofs.Try.f95 [[.sl false 1 (enS false b)]] = some (o95 b).2 := by
  refine (r95 b _).trans ?_
  show _ = (some ([[.int .i64 (sumOf b)]], []) : Option (List Row × List Row))
  replace hpre : (decide (b.length ≤ 1048576)) = true := hpre
  have hlen := of_decide_eq_true hpre
  refine loop_list (xs := b) (fun i (v : Int × Int) => S95_0 b v.1 v.2 (Int.ofNat i)) (fun _ v => 0 ≤ v.1 ∧ v.1 < 65521 ∧ 0 ≤ v.2 ∧ v.2 < 65521) (fun _ v rest => some ([[D.int .i64 (sumL rest v.1 v.2)]], [])) ?_ ?_ (b.length + 1) (1, 0) (by omega) (by decide)
  · rintro ⟨x, y⟩ ⟨h1, h2, h3, h4⟩ f
    simp only at h1 h2 h3 h4
    refine (q95_0 b _ _ _ _ f _).trans ?_
    rw [end_lt, cond_false]
    refine (aX95_2 b _ _ _ _).trans ?_
    simp (disch := omega) only [wrap_sm]
    rfl
  · rintro i ⟨x, y⟩ hi ⟨h1, h2, h3, h4⟩ f hf
    simp only at h1 h2 h3 h4
    refine (q95_0 b _ _ _ _ f _).trans ?_
    have hb : ((b[i].toNat : Nat) : Int) ≤ 255 := by have := b[i].toNat_lt; omega
    have hm := tmod_b (x + (b[i].toNat : Int)) (by omega)
    have hm2 := tmod_b (y + (x + (b[i].toNat : Int)).tmod 65521) (by omega)
    simp only [enS_length, toNat_of, dec_lt, dec_ge, decide_true, decide_false, cond_true, cond_false, Bool.and_self, Bool.and_true, Bool.true_and, Bool.not_true, Bool.not_false, Nat.lt_irrefl, Nat.zero_add, isS_enS, deS_enS, isS_nil, deS_nil, List.nil_append, lendRows_enS, deepRows_enS, noSl_u8, En.enc, List.getD_cons_zero, List.getD_cons_succ, D.num, D.flag, D.text, D.rows, Leaf.fit, List.append_eq, TReader.eta, Frame.eta, Heard.eta, Member.eta, Card.eta, Out1.eta, Vec.eta, Port.eta, Bridge.eta, In.eta, Out.eta, Link.eta, Net.eta, TEnd.eta, Minder.eta, Reg.eta, Wire.eta, Box.eta, Deed.eta, Bpdu.eta, Visit.eta, Fabric.eta, Got.eta, TRide.eta, Up.eta, Copy.eta, Bucket.eta, Snap.eta, TL9Cur.eta, TL21In.eta, enS_get _ hi, hi, wrap_succ (show i < 4611686018427387904 by omega)]
    simp (disch := omega) only [wrap_sm]
    exact hf ((x + (b[i].toNat : Int)).tmod 65521, (y + (x + (b[i].toNat : Int)).tmod 65521).tmod 65521) ⟨hm.1, hm.2, hm2.1, hm2.2⟩
theorem s95 : SoundAt Go.Proofs.Try.prog Hx 95 c95 := soundAt_of T61_sound mixed Go.Proofs.Try.func95 (by kernel_rfl) (by
  intro rows r h
  unfold c95 at h
  split at h
  · rename_i b
    obtain ⟨hp, hr⟩ := Prod.mk.inj (Option.some.inj h)
    subst hr
    simp only [Bool.and_eq_true] at hp
    obtain ⟨hs0, hp⟩ := hp
    obtain ⟨xs0, rfl⟩ := isS_ex hs0
    simp only [deS_enS] at hp ⊢
    exact ⟨_, m95 xs0 hp⟩
  · cases h)
def T95 : Table := (95, c95) :: T61
theorem T95_sound : Table.Sound Go.Proofs.Try.prog Hx T95 := Table.sound_cons s95 T61_sound
/- SumOfS -/
def o75 (b : List UInt8) : Bool × List Row × List Row := (decide (b.length ≤ 1048576), [[.int .i64 (sumOf b)]], [])
def c75 : Contract
  | [[.sl false 1 b]] => some (isS UInt8 false b && (o75 (deS UInt8 b)).1, (o75 (deS UInt8 b)).2.1, (o75 (deS UInt8 b)).2.2)
  | _ => none

def k75_0 (n : Nat) : Ex → St → RR := kThen (fun st ↦ runCode (Ctx.mk prog Hx (75)) (Table.call T95) n (codeAt [1, 1, 1] (bodyOf Go.Proofs.Try.f75)) (Lv.mk 4 [] 4) st (kLeave (Ctx.P (Ctx.mk prog Hx (75))) (List.zip (Array.toList (Go.Func.resultTypes Go.Proofs.Try.f75)) (Array.toList (Go.Func.results Go.Proofs.Try.f75))) [] [])) (kLeave (Ctx.P (Ctx.mk prog Hx (75))) (List.zip (Array.toList (Go.Func.resultTypes Go.Proofs.Try.f75)) (Array.toList (Go.Func.results Go.Proofs.Try.f75))) [] [])
def k75_1 (n : Nat) : Ex → St → RR := kBlock (0) (k75_0 n)
def S75_0 (b : List UInt8) (i0 : Int) (i1 : Int) (i2 : Int) : St := St.mk [TV.v false [C.d (D.sl false 1 (enS false b))], U_, U_, I_ i0, I_ i1, I_ i2, U_, U_, U_, U_, U_, U_, U_, U_, U_, U_, U_, U_, U_, U_, U_, U_, U_, U_, U_, U_, U_, U_] []
def B75_0 (n : Nat) : St → (Ex → St → RR) → RR := runCode (Ctx.mk prog Hx (75)) (Table.call T95) n (codeAt [1, 1, 0, 1, 0, 0] (bodyOf Go.Proofs.Try.f75)) (Lv.mk 57 [(0, 24)] 4)
def X75_2 (b : List UInt8) (i0 : Int) (i1 : Int) (i2 : Int) : St := St.mk [TV.v false [C.d (D.sl false 1 (enS false b))], U_, U_, I_ i0, I_ i1, I_ i2, I_ i2, TV.v false [C.d (D.sl false 1 (enS false b))], I_ (ofNat (length (enS false b))), B_ false, U_, U_, U_, U_, U_, U_, U_, U_, U_, U_, U_, U_, U_, U_, U_, U_, U_, U_] []
theorem q75_0 (b : List UInt8) (n : Nat) (i0 : Int) (i1 : Int) (i2 : Int) (f : St → RR) (K : Ex → St → RR) : B75_0 n (S75_0 b i0 i1 i2) (kThen (fun st ↦ f (St.head 0 57 16777208 st)) K) = bif decide (i2 < ofNat (length (enS false b))) then bif decide (0 ≤ i2) && decide (i2 < ofNat (length (enS false b))) then bif Leaf.fit false (Leaf.int IntKind.u8) (getD (getD (enS false b) (toNat i2) []) 0 D.dead) && true then f (S75_0 b (Int.tmod (wrap i64 (i0 + wrap i64 (D.num (getD (getD (enS false b) (toNat i2) []) 0 D.dead)))) (65521)) (Int.tmod (wrap i64 (i1 + Int.tmod (wrap i64 (i0 + wrap i64 (D.num (getD (getD (enS false b) (toNat i2) []) 0 D.dead)))) (65521))) (65521)) (wrap i64 (i2 + 1))) else none else none else K (Ex.exit 0) (X75_2 b i0 i1 i2) := by kernel_rfl
theorem aX75_2 (b : List UInt8) (n : Nat) (i0 : Int) (i1 : Int) (i2 : Int) : k75_1 n (Ex.exit 0) (X75_2 b i0 i1 i2) = some ([[D.int i64 (wrap i64 (wrap i64 (i1 * 65536) + i0))]], []) := by kernel_rfl
theorem r75 (b : List UInt8) (n : Nat) : evFn ⟨prog, Hx, 75⟩ T95.call n Go.Proofs.Try.f75 [[.sl false 1 (enS false b)]] = loopRun (B75_0 n) 0 57 16777208 n (S75_0 b (1) (0) (0)) (k75_1 n) := by kernel_rfl
theorem m75 (b : List UInt8) (hpre : (o75 b).1 = true) : evFn ⟨Go.Proofs.Try.prog, Hx, 75⟩ T95.call (b.length + 1) Go.Proofs.Try.f75 [[.sl false 1 (enS false b)]] = some (o75 b).2 := by
  refine (r75 b _).trans ?_
  show _ = (some ([[.int .i64 (sumOf b)]], []) : Option (List Row × List Row))
  replace hpre : (decide (b.length ≤ 1048576)) = true := hpre
  have hlen := of_decide_eq_true hpre
  refine loop_list (xs := b) (fun i (v : Int × Int) => S75_0 b v.1 v.2 (Int.ofNat i)) (fun _ v => 0 ≤ v.1 ∧ v.1 < 65521 ∧ 0 ≤ v.2 ∧ v.2 < 65521) (fun _ v rest => some ([[D.int .i64 (sumL rest v.1 v.2)]], [])) ?_ ?_ (b.length + 1) (1, 0) (by omega) (by decide)
  · rintro ⟨x, y⟩ ⟨h1, h2, h3, h4⟩ f
    simp only at h1 h2 h3 h4
    refine (q75_0 b _ _ _ _ f _).trans ?_
    rw [end_lt, cond_false]
    refine (aX75_2 b _ _ _ _).trans ?_
    simp (disch := omega) only [wrap_sm]
    rfl
  · rintro i ⟨x, y⟩ hi ⟨h1, h2, h3, h4⟩ f hf
    simp only at h1 h2 h3 h4
    refine (q75_0 b _ _ _ _ f _).trans ?_
    have hb : ((b[i].toNat : Nat) : Int) ≤ 255 := by have := b[i].toNat_lt; omega
    have hm := tmod_b (x + (b[i].toNat : Int)) (by omega)
    have hm2 := tmod_b (y + (x + (b[i].toNat : Int)).tmod 65521) (by omega)
    simp only [enS_length, toNat_of, dec_lt, dec_ge, decide_true, decide_false, cond_true, cond_false, Bool.and_self, Bool.and_true, Bool.true_and, Bool.not_true, Bool.not_false, Nat.lt_irrefl, Nat.zero_add, isS_enS, deS_enS, isS_nil, deS_nil, List.nil_append, lendRows_enS, deepRows_enS, noSl_u8, En.enc, List.getD_cons_zero, List.getD_cons_succ, D.num, D.flag, D.text, D.rows, Leaf.fit, List.append_eq, TReader.eta, Frame.eta, Heard.eta, Member.eta, Card.eta, Out1.eta, Vec.eta, Port.eta, Bridge.eta, In.eta, Out.eta, Link.eta, Net.eta, TEnd.eta, Minder.eta, Reg.eta, Wire.eta, Box.eta, Deed.eta, Bpdu.eta, Visit.eta, Fabric.eta, Got.eta, TRide.eta, Up.eta, Copy.eta, Bucket.eta, Snap.eta, TL9Cur.eta, TL21In.eta, enS_get _ hi, hi, wrap_succ (show i < 4611686018427387904 by omega)]
    simp (disch := omega) only [wrap_sm]
    exact hf ((x + (b[i].toNat : Int)).tmod 65521, (y + (x + (b[i].toNat : Int)).tmod 65521).tmod 65521) ⟨hm.1, hm.2, hm2.1, hm2.2⟩
theorem s75 : SoundAt Go.Proofs.Try.prog Hx 75 c75 := soundAt_of T95_sound mixed Go.Proofs.Try.func75 (by kernel_rfl) (by
  intro rows r h
  unfold c75 at h
  split at h
  · rename_i b
    obtain ⟨hp, hr⟩ := Prod.mk.inj (Option.some.inj h)
    subst hr
    simp only [Bool.and_eq_true] at hp
    obtain ⟨hs0, hp⟩ := hp
    obtain ⟨xs0, rfl⟩ := isS_ex hs0
    simp only [deS_enS] at hp ⊢
    exact ⟨_, m75 xs0 hp⟩
  · cases h)
def T75 : Table := (75, c75) :: T95
theorem T75_sound : Table.Sound Go.Proofs.Try.prog Hx T75 := Table.sound_cons s75 T95_sound
/- summed -/
def o81 (b : List UInt8) : Bool × List Row × List Row := (decide (b.length ≤ 1048576), [[.sl true 1 (enS true (b ++ sumBs (sumOf b)))]], [])
def c81 : Contract
  | [[.sl true 1 b]] => some (isS UInt8 true b && (o81 (deS UInt8 b)).1, (o81 (deS UInt8 b)).2.1, (o81 (deS UInt8 b)).2.2)
  | _ => none

theorem r81 (b : List UInt8) (n : Nat) : evFn ⟨prog, Hx, 81⟩ T75.call n Go.Proofs.Try.f81 [[.sl true 1 (enS true b)]] = bif isS UInt8 false (lendRows (enS true b)) && decide (length (deS UInt8 (lendRows (enS true b))) ≤ 1048576) then bif decide ((length (enS true b) + 4) * 1 ≤ 140737488355328) then some ([[D.sl true 1 (append (enS true b) [[D.int IntKind.u8 (wrap IntKind.u8 (sumOf (deS UInt8 (lendRows (enS true b)))))], [D.int IntKind.u8 (wrap IntKind.u8 (Int.fdiv (sumOf (deS UInt8 (lendRows (enS true b)))) (ofNat 256)))], [D.int IntKind.u8 (wrap IntKind.u8 (Int.fdiv (sumOf (deS UInt8 (lendRows (enS true b)))) (ofNat 65536)))], [D.int IntKind.u8 (wrap IntKind.u8 (Int.fdiv (sumOf (deS UInt8 (lendRows (enS true b)))) (ofNat 16777216)))]])]], []) else none else none := by kernel_rfl
theorem m81 (b : List UInt8) (hpre : (o81 b).1 = true) : evFn ⟨Go.Proofs.Try.prog, Hx, 81⟩ T75.call 0 Go.Proofs.Try.f81 [[.sl true 1 (enS true b)]] = some (o81 b).2 := by
  refine (r81 b _).trans ?_
  show _ = (some ([[.sl true 1 (enS true (b ++ sumBs (sumOf b)))]], []) : Option (List Row × List Row))
  replace hpre : (decide (b.length ≤ 1048576)) = true := hpre
  have h1 := of_decide_eq_true hpre
  have h47 : decide ((b.length + 4) * 1 ≤ 140737488355328) = true := decide_eq_true (by omega)
  simp only [isS_enS, deS_enS, lendRows_enS, enS_length, hpre, h47, cond_true, Bool.and_self, sumBs, enS_append, enS_cons, enS_nil, u8_enc]
  rfl
theorem s81 : SoundAt Go.Proofs.Try.prog Hx 81 c81 := soundAt_of T75_sound mixed Go.Proofs.Try.func81 (by kernel_rfl) (by
  intro rows r h
  unfold c81 at h
  split at h
  · rename_i b
    obtain ⟨hp, hr⟩ := Prod.mk.inj (Option.some.inj h)
    subst hr
    simp only [Bool.and_eq_true] at hp
    obtain ⟨hs0, hp⟩ := hp
    obtain ⟨xs0, rfl⟩ := isS_ex hs0
    simp only [deS_enS] at hp ⊢
    exact ⟨_, m81 xs0 hp⟩
  · cases h)
def T81 : Table := (81, c81) :: T75
theorem T81_sound : Table.Sound Go.Proofs.Try.prog Hx T81 := Table.sound_cons s81 T75_sound
/- l2Sum -/
def o74 (n_ : Int) : Bool × List Row × List Row := (true, [[.sl true 1 (enS true (sumBs n_))]], [])
def c74 : Contract
  | [[.int .i64 n_]] => some ((o74 n_).1, (o74 n_).2.1, (o74 n_).2.2)
  | _ => none

theorem r74 (n_ : Int) (n : Nat) : evFn ⟨prog, Hx, 74⟩ T81.call n Go.Proofs.Try.f74 [[.int .i64 n_]] = some ([[D.sl true 1 [[D.int IntKind.u8 (wrap IntKind.u8 (wrap i64 (ofNat (BitVec.toNat (BitVec.and (BitVec.ofInt 64 n_) (BitVec.ofInt 64 (255)))))))], [D.int IntKind.u8 (wrap IntKind.u8 (wrap i64 (ofNat (BitVec.toNat (BitVec.and (BitVec.ofInt 64 (Int.fdiv n_ (ofNat 256))) (BitVec.ofInt 64 (255)))))))], [D.int IntKind.u8 (wrap IntKind.u8 (wrap i64 (ofNat (BitVec.toNat (BitVec.and (BitVec.ofInt 64 (Int.fdiv n_ (ofNat 65536))) (BitVec.ofInt 64 (255)))))))], [D.int IntKind.u8 (wrap IntKind.u8 (wrap i64 (ofNat (BitVec.toNat (BitVec.and (BitVec.ofInt 64 (Int.fdiv n_ (ofNat 16777216))) (BitVec.ofInt 64 (255)))))))]]]], []) := by kernel_rfl
theorem m74 (n_ : Int) (hpre : (o74 n_).1 = true) : evFn ⟨Go.Proofs.Try.prog, Hx, 74⟩ T81.call 0 Go.Proofs.Try.f74 [[.int .i64 n_]] = some (o74 n_).2 := by
  refine (r74 n_ _).trans ?_
  show _ = (some ([[.sl true 1 (enS true (sumBs n_))]], []) : Option (List Row × List Row))
  replace hpre : (true) = true := hpre
  simp only [and255, sumBs, enS_cons, enS_nil, u8_enc]
  rfl
theorem s74 : SoundAt Go.Proofs.Try.prog Hx 74 c74 := soundAt_of T81_sound mixed Go.Proofs.Try.func74 (by kernel_rfl) (by
  intro rows r h
  unfold c74 at h
  split at h
  · rename_i n_
    obtain ⟨hp, hr⟩ := Prod.mk.inj (Option.some.inj h)
    subst hr
    exact ⟨_, m74 n_ hp⟩
  · cases h)
def T74 : Table := (74, c74) :: T81
theorem T74_sound : Table.Sound Go.Proofs.Try.prog Hx T74 := Table.sound_cons s74 T81_sound
end Go.Ev
end
