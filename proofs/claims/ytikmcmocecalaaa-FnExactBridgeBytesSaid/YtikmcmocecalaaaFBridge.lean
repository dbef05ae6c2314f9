/- Contracts of functions, each by its evaluation. -/
import Derived.Test.YtikmcmocecalaaaEvMd
import Derived.Test.YtikmcmocecalaaaProg
import Derived.KernelRfl
import Derived.Test.YtikmcmocecalaaaFPortbytes
set_option linter.unusedVariables false
set_option linter.unusedSimpArgs false
set_option maxRecDepth 100000
noncomputable section
namespace Go.Ev
open Go.RowKit Go.Md
end Go.Ev
namespace Go.Md
open Go Go.Ev
def bridgeOk (b : Bridge) : Bool := b.Ports.all portOk && (inR b.Id 1 9 && inR (b.Ports.length : Int) 1 4)
def sumL : List UInt8 → Int → Int → Int
  | [], x, y => y * 65536 + x
  | b :: bs, x, y => sumL bs ((x + (b.toNat : Int)).tmod 65521) ((y + (x + (b.toNat : Int)).tmod 65521).tmod 65521)
theorem tmod_b (x : Int) (h : 0 ≤ x) : 0 ≤ x.tmod 65521 ∧ x.tmod 65521 < 65521 := ⟨Int.tmod_nonneg 65521 h, Int.tmod_lt_of_pos x (by decide)⟩
def sumOf (b : List UInt8) : Int := sumL b 1 0
def sumBs (n : Int) : List UInt8 := [u8 n, u8 (n.fdiv 256), u8 (n.fdiv 65536), u8 (n.fdiv 16777216)]
def portsBs (ps : List Port) : List UInt8 := ps.flatMap portBs
end Go.Md
namespace Go.Ev
open Go.Md
/- BridgeOk -/
def o68 (b : Bridge) : Bool × List Row × List Row := (decide (b.Ports.length ≤ 1048576), [[.bool (bridgeOk b)]], [])
def c68 : Contract
  | [[.int .i64 b_Id, .sl false 11 b_Ports]] => some (isS Port false b_Ports && (o68 ⟨b_Id, (deS Port b_Ports)⟩).1, (o68 ⟨b_Id, (deS Port b_Ports)⟩).2.1, (o68 ⟨b_Id, (deS Port b_Ports)⟩).2.2)
  | _ => none

noncomputable def k68_0 (n : Nat) : Ex → St → Option (List Row × List Row) := kThen (fun st ↦ runCode (Ctx.mk Go.Proofs.Try.prog Hx (68)) (Table.call T8) n (codeAt [1, 1] (bodyOf Go.Proofs.Try.f68)) (Lv.mk 4 [] 4) st (kLeave (Ctx.P (Ctx.mk Go.Proofs.Try.prog Hx (68))) (List.zip (Array.toList (Go.Func.resultTypes Go.Proofs.Try.f68)) (Array.toList (Go.Func.results Go.Proofs.Try.f68))) [] [])) (kLeave (Ctx.P (Ctx.mk Go.Proofs.Try.prog Hx (68))) (List.zip (Array.toList (Go.Func.resultTypes Go.Proofs.Try.f68)) (Array.toList (Go.Func.results Go.Proofs.Try.f68))) [] [])
noncomputable def k68_1 (n : Nat) : Ex → St → Option (List Row × List Row) := kBlock (0) (k68_0 n)
noncomputable def S68_0 (b : Bridge) (i0 : Int) : St := St.mk [TV.v false [C.undef], TV.v false [C.ptr 0 0 0 [] 2 0 0], TV.v false [C.undef], TV.v false [C.undef], TV.v false [C.undef], TV.v false [C.undef], TV.v false [C.d (D.sl false 11 (enS false (Bridge.Ports b)))], TV.v false [C.d (D.int IntKind.i64 (Int.ofNat (List.length (enS false (Bridge.Ports b)))))], TV.v false [C.d (D.int IntKind.i64 i0)], TV.v false [C.undef], TV.v false [C.undef], TV.v false [C.undef], TV.v false [C.undef], TV.v false [C.undef], TV.v false [C.undef], TV.v false [C.undef], TV.v false [C.undef], TV.v false [C.undef], TV.v false [C.undef], TV.v false [C.undef], TV.v false [C.undef], TV.v false [C.undef], TV.v false [C.undef], TV.v false [C.undef], TV.v false [C.undef]] [Root.mk true 2 [[D.int IntKind.i64 (Bridge.Id b), D.sl false 11 (enS false (Bridge.Ports b))]] 0 0 true true]
noncomputable def B68_0 (n : Nat) : St → (Ex → St → Option (List Row × List Row)) → Option (List Row × List Row) := runCode (Ctx.mk Go.Proofs.Try.prog Hx (68)) (Table.call T8) n (codeAt [1, 0, 1, 0, 0] (bodyOf Go.Proofs.Try.f68)) (Lv.mk 0 [(0, 2)] 4)
noncomputable def X68_2 (b : Bridge) (i0 : Int) : St := St.mk [TV.v false [C.undef], TV.v false [C.ptr 0 0 0 [] 2 0 0], TV.v false [C.d (D.bool false)], TV.v false [C.undef], TV.v false [C.ptr 1 0 0 [] 11 0 0], TV.v false [C.undef], TV.v false [C.d (D.sl false 11 (enS false (Bridge.Ports b)))], TV.v false [C.d (D.int IntKind.i64 (Int.ofNat (List.length (enS false (Bridge.Ports b)))))], TV.v false [C.d (D.int IntKind.i64 i0)], TV.v false [C.d (D.bool true)], TV.v false [C.rptr (List.getD (enS false (Bridge.Ports b)) (Int.toNat i0) [])], TV.v true [C.d (D.bool (D.flag (List.getD (List.getD (enS false (Bridge.Ports b)) (Int.toNat i0) []) 0 D.dead))), C.d (D.bool (D.flag (List.getD (List.getD (enS false (Bridge.Ports b)) (Int.toNat i0) []) 1 D.dead))), C.d (D.int IntKind.i64 (D.num (List.getD (List.getD (enS false (Bridge.Ports b)) (Int.toNat i0) []) 2 D.dead))), C.d (D.int IntKind.i64 (D.num (List.getD (List.getD (enS false (Bridge.Ports b)) (Int.toNat i0) []) 3 D.dead))), C.d (D.int IntKind.i64 (D.num (List.getD (List.getD (enS false (Bridge.Ports b)) (Int.toNat i0) []) 4 D.dead))), C.d (D.int IntKind.i64 (D.num (List.getD (List.getD (enS false (Bridge.Ports b)) (Int.toNat i0) []) 5 D.dead))), C.d (D.int IntKind.i64 (D.num (List.getD (List.getD (enS false (Bridge.Ports b)) (Int.toNat i0) []) 6 D.dead))), C.d (D.int IntKind.i64 (D.num (List.getD (List.getD (enS false (Bridge.Ports b)) (Int.toNat i0) []) 7 D.dead))), C.d (D.int IntKind.i64 (D.num (List.getD (List.getD (enS false (Bridge.Ports b)) (Int.toNat i0) []) 8 D.dead))), C.d (D.int IntKind.i64 (D.num (List.getD (List.getD (enS false (Bridge.Ports b)) (Int.toNat i0) []) 9 D.dead))), C.d (D.bool (D.flag (List.getD (List.getD (enS false (Bridge.Ports b)) (Int.toNat i0) []) 10 D.dead)))], TV.v true [C.d (D.bool (D.flag (List.getD (List.getD (enS false (Bridge.Ports b)) (Int.toNat i0) []) 0 D.dead))), C.d (D.bool (D.flag (List.getD (List.getD (enS false (Bridge.Ports b)) (Int.toNat i0) []) 1 D.dead))), C.d (D.int IntKind.i64 (D.num (List.getD (List.getD (enS false (Bridge.Ports b)) (Int.toNat i0) []) 2 D.dead))), C.d (D.int IntKind.i64 (D.num (List.getD (List.getD (enS false (Bridge.Ports b)) (Int.toNat i0) []) 3 D.dead))), C.d (D.int IntKind.i64 (D.num (List.getD (List.getD (enS false (Bridge.Ports b)) (Int.toNat i0) []) 4 D.dead))), C.d (D.int IntKind.i64 (D.num (List.getD (List.getD (enS false (Bridge.Ports b)) (Int.toNat i0) []) 5 D.dead))), C.d (D.int IntKind.i64 (D.num (List.getD (List.getD (enS false (Bridge.Ports b)) (Int.toNat i0) []) 6 D.dead))), C.d (D.int IntKind.i64 (D.num (List.getD (List.getD (enS false (Bridge.Ports b)) (Int.toNat i0) []) 7 D.dead))), C.d (D.int IntKind.i64 (D.num (List.getD (List.getD (enS false (Bridge.Ports b)) (Int.toNat i0) []) 8 D.dead))), C.d (D.int IntKind.i64 (D.num (List.getD (List.getD (enS false (Bridge.Ports b)) (Int.toNat i0) []) 9 D.dead))), C.d (D.bool (D.flag (List.getD (List.getD (enS false (Bridge.Ports b)) (Int.toNat i0) []) 10 D.dead)))], TV.v false [C.d (D.bool (portOk (Port.mk (D.flag (List.getD (List.getD (enS false (Bridge.Ports b)) (Int.toNat i0) []) 0 D.dead)) (D.flag (List.getD (List.getD (enS false (Bridge.Ports b)) (Int.toNat i0) []) 1 D.dead)) (Vec.mk (D.num (List.getD (List.getD (enS false (Bridge.Ports b)) (Int.toNat i0) []) 2 D.dead)) (D.num (List.getD (List.getD (enS false (Bridge.Ports b)) (Int.toNat i0) []) 3 D.dead)) (D.num (List.getD (List.getD (enS false (Bridge.Ports b)) (Int.toNat i0) []) 4 D.dead)) (D.num (List.getD (List.getD (enS false (Bridge.Ports b)) (Int.toNat i0) []) 5 D.dead))) (D.num (List.getD (List.getD (enS false (Bridge.Ports b)) (Int.toNat i0) []) 6 D.dead)) (D.num (List.getD (List.getD (enS false (Bridge.Ports b)) (Int.toNat i0) []) 7 D.dead)) (D.num (List.getD (List.getD (enS false (Bridge.Ports b)) (Int.toNat i0) []) 8 D.dead)) (D.num (List.getD (List.getD (enS false (Bridge.Ports b)) (Int.toNat i0) []) 9 D.dead)) (D.flag (List.getD (List.getD (enS false (Bridge.Ports b)) (Int.toNat i0) []) 10 D.dead)))))], TV.v false [C.d (D.bool true)], TV.v false [C.undef], TV.v false [C.undef], TV.v false [C.undef], TV.v false [C.undef], TV.v false [C.undef], TV.v false [C.undef], TV.v false [C.undef], TV.v false [C.undef], TV.v false [C.undef], TV.v false [C.undef]] [Root.mk true 2 [[D.int IntKind.i64 (Bridge.Id b), D.sl false 11 (enS false (Bridge.Ports b))]] 0 0 true true, Root.mk true 11 [[D.bool (D.flag (List.getD (List.getD (enS false (Bridge.Ports b)) (Int.toNat i0) []) 0 D.dead)), D.bool (D.flag (List.getD (List.getD (enS false (Bridge.Ports b)) (Int.toNat i0) []) 1 D.dead)), D.int IntKind.i64 (D.num (List.getD (List.getD (enS false (Bridge.Ports b)) (Int.toNat i0) []) 2 D.dead)), D.int IntKind.i64 (D.num (List.getD (List.getD (enS false (Bridge.Ports b)) (Int.toNat i0) []) 3 D.dead)), D.int IntKind.i64 (D.num (List.getD (List.getD (enS false (Bridge.Ports b)) (Int.toNat i0) []) 4 D.dead)), D.int IntKind.i64 (D.num (List.getD (List.getD (enS false (Bridge.Ports b)) (Int.toNat i0) []) 5 D.dead)), D.int IntKind.i64 (D.num (List.getD (List.getD (enS false (Bridge.Ports b)) (Int.toNat i0) []) 6 D.dead)), D.int IntKind.i64 (D.num (List.getD (List.getD (enS false (Bridge.Ports b)) (Int.toNat i0) []) 7 D.dead)), D.int IntKind.i64 (D.num (List.getD (List.getD (enS false (Bridge.Ports b)) (Int.toNat i0) []) 8 D.dead)), D.int IntKind.i64 (D.num (List.getD (List.getD (enS false (Bridge.Ports b)) (Int.toNat i0) []) 9 D.dead)), D.bool (D.flag (List.getD (List.getD (enS false (Bridge.Ports b)) (Int.toNat i0) []) 10 D.dead))]] 0 0 true true]
noncomputable def X68_3 (b : Bridge) (i0 : Int) : St := St.mk [TV.v false [C.undef], TV.v false [C.ptr 0 0 0 [] 2 0 0], TV.v false [C.undef], TV.v false [C.undef], TV.v false [C.undef], TV.v false [C.undef], TV.v false [C.d (D.sl false 11 (enS false (Bridge.Ports b)))], TV.v false [C.d (D.int IntKind.i64 (Int.ofNat (List.length (enS false (Bridge.Ports b)))))], TV.v false [C.d (D.int IntKind.i64 i0)], TV.v false [C.d (D.bool false)], TV.v false [C.undef], TV.v false [C.undef], TV.v false [C.undef], TV.v false [C.undef], TV.v false [C.undef], TV.v false [C.undef], TV.v false [C.undef], TV.v false [C.undef], TV.v false [C.undef], TV.v false [C.undef], TV.v false [C.undef], TV.v false [C.undef], TV.v false [C.undef], TV.v false [C.undef], TV.v false [C.undef]] [Root.mk true 2 [[D.int IntKind.i64 (Bridge.Id b), D.sl false 11 (enS false (Bridge.Ports b))]] 0 0 true true]
theorem q68_0 (b : Bridge) (n : Nat) (i0 : Int) (f : St → Option (List Row × List Row)) (K : Ex → St → Option (List Row × List Row)) : B68_0 n (S68_0 b i0) (@kThen (List Row × List Row) (fun st ↦ f (St.head 1 450 65300 st)) K) = bif decide (i0 < Int.ofNat (List.length (enS false (Bridge.Ports b)))) then bif decide (0 ≤ i0) && decide (i0 < Int.ofNat (List.length (enS false (Bridge.Ports b)))) then bif Leaf.fit false Leaf.bool (List.getD (List.getD (enS false (Bridge.Ports b)) (Int.toNat i0) []) 0 D.dead) && (Leaf.fit false Leaf.bool (List.getD (List.getD (enS false (Bridge.Ports b)) (Int.toNat i0) []) 1 D.dead) && (Leaf.fit false (Leaf.int IntKind.i64) (List.getD (List.getD (enS false (Bridge.Ports b)) (Int.toNat i0) []) 2 D.dead) && (Leaf.fit false (Leaf.int IntKind.i64) (List.getD (List.getD (enS false (Bridge.Ports b)) (Int.toNat i0) []) 3 D.dead) && (Leaf.fit false (Leaf.int IntKind.i64) (List.getD (List.getD (enS false (Bridge.Ports b)) (Int.toNat i0) []) 4 D.dead) && (Leaf.fit false (Leaf.int IntKind.i64) (List.getD (List.getD (enS false (Bridge.Ports b)) (Int.toNat i0) []) 5 D.dead) && (Leaf.fit false (Leaf.int IntKind.i64) (List.getD (List.getD (enS false (Bridge.Ports b)) (Int.toNat i0) []) 6 D.dead) && (Leaf.fit false (Leaf.int IntKind.i64) (List.getD (List.getD (enS false (Bridge.Ports b)) (Int.toNat i0) []) 7 D.dead) && (Leaf.fit false (Leaf.int IntKind.i64) (List.getD (List.getD (enS false (Bridge.Ports b)) (Int.toNat i0) []) 8 D.dead) && (Leaf.fit false (Leaf.int IntKind.i64) (List.getD (List.getD (enS false (Bridge.Ports b)) (Int.toNat i0) []) 9 D.dead) && (Leaf.fit false Leaf.bool (List.getD (List.getD (enS false (Bridge.Ports b)) (Int.toNat i0) []) 10 D.dead) && true)))))))))) then bif !portOk (Port.mk (D.flag (List.getD (List.getD (enS false (Bridge.Ports b)) (Int.toNat i0) []) 0 D.dead)) (D.flag (List.getD (List.getD (enS false (Bridge.Ports b)) (Int.toNat i0) []) 1 D.dead)) (Vec.mk (D.num (List.getD (List.getD (enS false (Bridge.Ports b)) (Int.toNat i0) []) 2 D.dead)) (D.num (List.getD (List.getD (enS false (Bridge.Ports b)) (Int.toNat i0) []) 3 D.dead)) (D.num (List.getD (List.getD (enS false (Bridge.Ports b)) (Int.toNat i0) []) 4 D.dead)) (D.num (List.getD (List.getD (enS false (Bridge.Ports b)) (Int.toNat i0) []) 5 D.dead))) (D.num (List.getD (List.getD (enS false (Bridge.Ports b)) (Int.toNat i0) []) 6 D.dead)) (D.num (List.getD (List.getD (enS false (Bridge.Ports b)) (Int.toNat i0) []) 7 D.dead)) (D.num (List.getD (List.getD (enS false (Bridge.Ports b)) (Int.toNat i0) []) 8 D.dead)) (D.num (List.getD (List.getD (enS false (Bridge.Ports b)) (Int.toNat i0) []) 9 D.dead)) (D.flag (List.getD (List.getD (enS false (Bridge.Ports b)) (Int.toNat i0) []) 10 D.dead))) then K Ex.ret (X68_2 b i0) else f (S68_0 b (IntKind.wrap IntKind.i64 (i0 + 1))) else none else none else K (Ex.exit 0) (X68_3 b i0) := by kernel_rfl
theorem aX68_2 (b : Bridge) (n : Nat) (i0 : Int) : k68_1 n Ex.ret (X68_2 b i0) = some ([[D.bool false]], []) := by kernel_rfl
theorem aX68_3 (b : Bridge) (n : Nat) (i0 : Int) : k68_1 n (Ex.exit 0) (X68_3 b i0) = bif inR (Bridge.Id b) (1) (9) then some ([[D.bool (inR (Int.ofNat (List.length (enS false (Bridge.Ports b)))) (1) (4))]], []) else some ([[D.bool false]], []) := by kernel_rfl
theorem r68 (b : Bridge) (n : Nat) : evFn ⟨Go.Proofs.Try.prog, Hx, 68⟩ T8.call n Go.Proofs.Try.f68 [[.int .i64 b.Id, .sl false 11 (enS false b.Ports)]] = loopRun (B68_0 n) 1 450 65300 n (S68_0 b (0)) (k68_1 n) := by kernel_rfl
theorem m68 (b : Bridge) (hpre : (o68 b).1 = true) : evFn ⟨Go.Proofs.Try.prog, Hx, 68⟩ T8.call (b.Ports.length + 1) Go.Proofs.Try.f68 [[.int .i64 b.Id, .sl false 11 (enS false b.Ports)]] = some (o68 b).2 := by
  refine (r68 b _).trans ?_
  show _ = (some ([[.bool (bridgeOk b)]], []) : Option (List Row × List Row))
  replace hpre : (decide (b.Ports.length ≤ 1048576)) = true := hpre
  have hlen := of_decide_eq_true hpre
  unfold bridgeOk
  refine loop_list (xs := b.Ports) (fun i (_ : Unit) => S68_0 b (Int.ofNat i)) (fun _ _ => True) (fun _ _ rest => some ([[D.bool (rest.all portOk && (inR b.Id 1 9 && inR (b.Ports.length : Int) 1 4))]], [])) ?_ ?_ (b.Ports.length + 1) () (by omega) trivial
  · rintro _ _ f
    refine (q68_0 b _ _ f _).trans ?_
    rw [end_lt, cond_false]
    refine (aX68_3 b _ _).trans ?_
    simp only [enS_length, List.all_nil, Bool.true_and]
    cases inR b.Id 1 9 <;> rfl
  · rintro i _ hi _ f hf
    refine (q68_0 b _ _ f _).trans ?_
    simp only [enS_length, toNat_of, dec_lt, dec_ge, decide_true, decide_false, cond_true, cond_false, Bool.and_self, Bool.and_true, Bool.true_and, Bool.not_true, Bool.not_false, Nat.lt_irrefl, Nat.zero_add, isS_enS, deS_enS, isS_nil, deS_nil, List.nil_append, lendRows_enS, deepRows_enS, noSl_u8, En.enc, List.getD_cons_zero, List.getD_cons_succ, D.num, D.flag, D.text, D.rows, Leaf.fit, List.append_eq, TReader.eta, Frame.eta, Heard.eta, Member.eta, Card.eta, Out1.eta, Vec.eta, Port.eta, Bridge.eta, In.eta, Out.eta, Link.eta, Net.eta, TEnd.eta, Minder.eta, Reg.eta, Wire.eta, Box.eta, Deed.eta, Bpdu.eta, Visit.eta, Fabric.eta, Got.eta, TRide.eta, Up.eta, Copy.eta, Bucket.eta, Snap.eta, TL9Cur.eta, TL21In.eta, enS_get _ hi, hi, wrap_succ (show i < 4611686018427387904 by omega)]
    cases hp : portOk b.Ports[i]
    · simp only [enS_length, toNat_of, dec_lt, dec_ge, decide_true, decide_false, cond_true, cond_false, Bool.and_self, Bool.and_true, Bool.true_and, Bool.not_true, Bool.not_false, Nat.lt_irrefl, Nat.zero_add, isS_enS, deS_enS, isS_nil, deS_nil, List.nil_append, lendRows_enS, deepRows_enS, noSl_u8, En.enc, List.getD_cons_zero, List.getD_cons_succ, D.num, D.flag, D.text, D.rows, Leaf.fit, List.append_eq, TReader.eta, Frame.eta, Heard.eta, Member.eta, Card.eta, Out1.eta, Vec.eta, Port.eta, Bridge.eta, In.eta, Out.eta, Link.eta, Net.eta, TEnd.eta, Minder.eta, Reg.eta, Wire.eta, Box.eta, Deed.eta, Bpdu.eta, Visit.eta, Fabric.eta, Got.eta, TRide.eta, Up.eta, Copy.eta, Bucket.eta, Snap.eta, TL9Cur.eta, TL21In.eta]
      refine (aX68_2 b _ _).trans ?_
      simp only [List.all_cons, hp, Bool.false_and]
    · simp only [enS_length, toNat_of, dec_lt, dec_ge, decide_true, decide_false, cond_true, cond_false, Bool.and_self, Bool.and_true, Bool.true_and, Bool.not_true, Bool.not_false, Nat.lt_irrefl, Nat.zero_add, isS_enS, deS_enS, isS_nil, deS_nil, List.nil_append, lendRows_enS, deepRows_enS, noSl_u8, En.enc, List.getD_cons_zero, List.getD_cons_succ, D.num, D.flag, D.text, D.rows, Leaf.fit, List.append_eq, TReader.eta, Frame.eta, Heard.eta, Member.eta, Card.eta, Out1.eta, Vec.eta, Port.eta, Bridge.eta, In.eta, Out.eta, Link.eta, Net.eta, TEnd.eta, Minder.eta, Reg.eta, Wire.eta, Box.eta, Deed.eta, Bpdu.eta, Visit.eta, Fabric.eta, Got.eta, TRide.eta, Up.eta, Copy.eta, Bucket.eta, Snap.eta, TL9Cur.eta, TL21In.eta]
      refine (hf () trivial).trans ?_
      simp only [List.all_cons, hp, Bool.true_and]
theorem s68 : SoundAt Go.Proofs.Try.prog Hx 68 c68 := soundAt_of T8_sound mixed Go.Proofs.Try.func68 (by kernel_rfl) (by
  intro rows r h
  unfold c68 at h
  split at h
  · rename_i b_Id b_Ports
    obtain ⟨hp, hr⟩ := Prod.mk.inj (Option.some.inj h)
    subst hr
    simp only [Bool.and_eq_true] at hp
    obtain ⟨hs0, hp⟩ := hp
    obtain ⟨xs0, rfl⟩ := isS_ex hs0
    simp only [deS_enS] at hp ⊢
    exact ⟨_, m68 ⟨b_Id, xs0⟩ hp⟩
  · cases h)
def T68 : Table := (68, c68) :: T8
theorem T68_sound : Table.Sound Go.Proofs.Try.prog Hx T68 := Table.sound_cons s68 T8_sound
/- BridgeOkS -/
def o64 (b : Bridge) : Bool × List Row × List Row := (decide (b.Ports.length ≤ 1048576), [[.bool (bridgeOk b)]], [])
def c64 : Contract
  | [[.int .i64 b_Id, .sl false 11 b_Ports]] => some (isS Port false b_Ports && (o64 ⟨b_Id, (deS Port b_Ports)⟩).1, (o64 ⟨b_Id, (deS Port b_Ports)⟩).2.1, (o64 ⟨b_Id, (deS Port b_Ports)⟩).2.2)
  | _ => none

noncomputable def k64_0 (n : Nat) : Ex → St → Option (List Row × List Row) := kThen (fun st ↦ runCode (Ctx.mk Go.Proofs.Try.prog Hx (64)) (Table.call T68) n (codeAt [1, 1] (bodyOf Go.Proofs.Try.f64)) (Lv.mk 4 [] 4) st (kLeave (Ctx.P (Ctx.mk Go.Proofs.Try.prog Hx (64))) (List.zip (Array.toList (Go.Func.resultTypes Go.Proofs.Try.f64)) (Array.toList (Go.Func.results Go.Proofs.Try.f64))) [] [])) (kLeave (Ctx.P (Ctx.mk Go.Proofs.Try.prog Hx (64))) (List.zip (Array.toList (Go.Func.resultTypes Go.Proofs.Try.f64)) (Array.toList (Go.Func.results Go.Proofs.Try.f64))) [] [])
noncomputable def k64_1 (n : Nat) : Ex → St → Option (List Row × List Row) := kBlock (0) (k64_0 n)
noncomputable def S64_0 (b : Bridge) (i0 : Int) : St := St.mk [TV.v false [C.undef], TV.v false [C.ptr 0 0 0 [] 2 0 0], TV.v false [C.undef], TV.v false [C.d (D.int IntKind.i64 i0)], TV.v false [C.undef], TV.v false [C.undef], TV.v false [C.undef], TV.v false [C.undef], TV.v false [C.undef], TV.v false [C.undef], TV.v false [C.undef], TV.v false [C.undef], TV.v false [C.undef], TV.v false [C.undef], TV.v false [C.undef], TV.v false [C.undef], TV.v false [C.undef], TV.v false [C.undef], TV.v false [C.undef], TV.v false [C.undef], TV.v false [C.undef], TV.v false [C.undef], TV.v false [C.undef], TV.v false [C.undef], TV.v false [C.undef], TV.v false [C.undef], TV.v false [C.undef]] [Root.mk true 2 [[D.int IntKind.i64 (Bridge.Id b), D.sl false 11 (enS false (Bridge.Ports b))]] 0 0 true true]
noncomputable def B64_0 (n : Nat) : St → (Ex → St → Option (List Row × List Row)) → Option (List Row × List Row) := runCode (Ctx.mk Go.Proofs.Try.prog Hx (64)) (Table.call T68) n (codeAt [1, 0, 1, 0, 0] (bodyOf Go.Proofs.Try.f64)) (Lv.mk 0 [(0, 2)] 4)
noncomputable def X64_2 (b : Bridge) (i0 : Int) : St := St.mk [TV.v false [C.undef], TV.v false [C.ptr 0 0 0 [] 2 0 0], TV.v false [C.d (D.bool false)], TV.v false [C.d (D.int IntKind.i64 i0)], TV.v false [C.d (D.int IntKind.i64 i0)], TV.v false [C.ptr 0 0 0 [] 2 0 1], TV.v false [C.d (D.sl false 11 (enS false (Bridge.Ports b)))], TV.v false [C.d (D.int IntKind.i64 (Int.ofNat (List.length (enS false (Bridge.Ports b)))))], TV.v false [C.d (D.bool true)], TV.v false [C.undef], TV.v false [C.undef], TV.v false [C.ptr 0 0 0 [] 2 0 1], TV.v false [C.d (D.sl false 11 (enS false (Bridge.Ports b)))], TV.v false [C.d (D.int IntKind.i64 i0)], TV.v false [C.rptr (List.getD (enS false (Bridge.Ports b)) (Int.toNat i0) [])], TV.v true [C.d (D.bool (D.flag (List.getD (List.getD (enS false (Bridge.Ports b)) (Int.toNat i0) []) 0 D.dead))), C.d (D.bool (D.flag (List.getD (List.getD (enS false (Bridge.Ports b)) (Int.toNat i0) []) 1 D.dead))), C.d (D.int IntKind.i64 (D.num (List.getD (List.getD (enS false (Bridge.Ports b)) (Int.toNat i0) []) 2 D.dead))), C.d (D.int IntKind.i64 (D.num (List.getD (List.getD (enS false (Bridge.Ports b)) (Int.toNat i0) []) 3 D.dead))), C.d (D.int IntKind.i64 (D.num (List.getD (List.getD (enS false (Bridge.Ports b)) (Int.toNat i0) []) 4 D.dead))), C.d (D.int IntKind.i64 (D.num (List.getD (List.getD (enS false (Bridge.Ports b)) (Int.toNat i0) []) 5 D.dead))), C.d (D.int IntKind.i64 (D.num (List.getD (List.getD (enS false (Bridge.Ports b)) (Int.toNat i0) []) 6 D.dead))), C.d (D.int IntKind.i64 (D.num (List.getD (List.getD (enS false (Bridge.Ports b)) (Int.toNat i0) []) 7 D.dead))), C.d (D.int IntKind.i64 (D.num (List.getD (List.getD (enS false (Bridge.Ports b)) (Int.toNat i0) []) 8 D.dead))), C.d (D.int IntKind.i64 (D.num (List.getD (List.getD (enS false (Bridge.Ports b)) (Int.toNat i0) []) 9 D.dead))), C.d (D.bool (D.flag (List.getD (List.getD (enS false (Bridge.Ports b)) (Int.toNat i0) []) 10 D.dead)))], TV.v false [C.d (D.bool (portOk (Port.mk (D.flag (List.getD (List.getD (enS false (Bridge.Ports b)) (Int.toNat i0) []) 0 D.dead)) (D.flag (List.getD (List.getD (enS false (Bridge.Ports b)) (Int.toNat i0) []) 1 D.dead)) (Vec.mk (D.num (List.getD (List.getD (enS false (Bridge.Ports b)) (Int.toNat i0) []) 2 D.dead)) (D.num (List.getD (List.getD (enS false (Bridge.Ports b)) (Int.toNat i0) []) 3 D.dead)) (D.num (List.getD (List.getD (enS false (Bridge.Ports b)) (Int.toNat i0) []) 4 D.dead)) (D.num (List.getD (List.getD (enS false (Bridge.Ports b)) (Int.toNat i0) []) 5 D.dead))) (D.num (List.getD (List.getD (enS false (Bridge.Ports b)) (Int.toNat i0) []) 6 D.dead)) (D.num (List.getD (List.getD (enS false (Bridge.Ports b)) (Int.toNat i0) []) 7 D.dead)) (D.num (List.getD (List.getD (enS false (Bridge.Ports b)) (Int.toNat i0) []) 8 D.dead)) (D.num (List.getD (List.getD (enS false (Bridge.Ports b)) (Int.toNat i0) []) 9 D.dead)) (D.flag (List.getD (List.getD (enS false (Bridge.Ports b)) (Int.toNat i0) []) 10 D.dead)))))], TV.v false [C.d (D.bool true)], TV.v false [C.undef], TV.v false [C.undef], TV.v false [C.undef], TV.v false [C.undef], TV.v false [C.undef], TV.v false [C.undef], TV.v false [C.undef], TV.v false [C.undef], TV.v false [C.undef]] [Root.mk true 2 [[D.int IntKind.i64 (Bridge.Id b), D.sl false 11 (enS false (Bridge.Ports b))]] 0 0 true true]
noncomputable def X64_3 (b : Bridge) (i0 : Int) : St := St.mk [TV.v false [C.undef], TV.v false [C.ptr 0 0 0 [] 2 0 0], TV.v false [C.undef], TV.v false [C.d (D.int IntKind.i64 i0)], TV.v false [C.d (D.int IntKind.i64 i0)], TV.v false [C.ptr 0 0 0 [] 2 0 1], TV.v false [C.d (D.sl false 11 (enS false (Bridge.Ports b)))], TV.v false [C.d (D.int IntKind.i64 (Int.ofNat (List.length (enS false (Bridge.Ports b)))))], TV.v false [C.d (D.bool false)], TV.v false [C.undef], TV.v false [C.undef], TV.v false [C.undef], TV.v false [C.undef], TV.v false [C.undef], TV.v false [C.undef], TV.v false [C.undef], TV.v false [C.undef], TV.v false [C.undef], TV.v false [C.undef], TV.v false [C.undef], TV.v false [C.undef], TV.v false [C.undef], TV.v false [C.undef], TV.v false [C.undef], TV.v false [C.undef], TV.v false [C.undef], TV.v false [C.undef]] [Root.mk true 2 [[D.int IntKind.i64 (Bridge.Id b), D.sl false 11 (enS false (Bridge.Ports b))]] 0 0 true true]
theorem q64_0 (b : Bridge) (n : Nat) (i0 : Int) (f : St → Option (List Row × List Row)) (K : Ex → St → Option (List Row × List Row)) : B64_0 n (S64_0 b i0) (@kThen (List Row × List Row) (fun st ↦ f (St.head 1 10 262140 st)) K) = bif decide (i0 < Int.ofNat (List.length (enS false (Bridge.Ports b)))) then bif decide (0 ≤ i0) && decide (i0 < Int.ofNat (List.length (enS false (Bridge.Ports b)))) then bif Leaf.fit false Leaf.bool (List.getD (List.getD (enS false (Bridge.Ports b)) (Int.toNat i0) []) 0 D.dead) && (Leaf.fit false Leaf.bool (List.getD (List.getD (enS false (Bridge.Ports b)) (Int.toNat i0) []) 1 D.dead) && (Leaf.fit false (Leaf.int IntKind.i64) (List.getD (List.getD (enS false (Bridge.Ports b)) (Int.toNat i0) []) 2 D.dead) && (Leaf.fit false (Leaf.int IntKind.i64) (List.getD (List.getD (enS false (Bridge.Ports b)) (Int.toNat i0) []) 3 D.dead) && (Leaf.fit false (Leaf.int IntKind.i64) (List.getD (List.getD (enS false (Bridge.Ports b)) (Int.toNat i0) []) 4 D.dead) && (Leaf.fit false (Leaf.int IntKind.i64) (List.getD (List.getD (enS false (Bridge.Ports b)) (Int.toNat i0) []) 5 D.dead) && (Leaf.fit false (Leaf.int IntKind.i64) (List.getD (List.getD (enS false (Bridge.Ports b)) (Int.toNat i0) []) 6 D.dead) && (Leaf.fit false (Leaf.int IntKind.i64) (List.getD (List.getD (enS false (Bridge.Ports b)) (Int.toNat i0) []) 7 D.dead) && (Leaf.fit false (Leaf.int IntKind.i64) (List.getD (List.getD (enS false (Bridge.Ports b)) (Int.toNat i0) []) 8 D.dead) && (Leaf.fit false (Leaf.int IntKind.i64) (List.getD (List.getD (enS false (Bridge.Ports b)) (Int.toNat i0) []) 9 D.dead) && (Leaf.fit false Leaf.bool (List.getD (List.getD (enS false (Bridge.Ports b)) (Int.toNat i0) []) 10 D.dead) && true)))))))))) then bif !portOk (Port.mk (D.flag (List.getD (List.getD (enS false (Bridge.Ports b)) (Int.toNat i0) []) 0 D.dead)) (D.flag (List.getD (List.getD (enS false (Bridge.Ports b)) (Int.toNat i0) []) 1 D.dead)) (Vec.mk (D.num (List.getD (List.getD (enS false (Bridge.Ports b)) (Int.toNat i0) []) 2 D.dead)) (D.num (List.getD (List.getD (enS false (Bridge.Ports b)) (Int.toNat i0) []) 3 D.dead)) (D.num (List.getD (List.getD (enS false (Bridge.Ports b)) (Int.toNat i0) []) 4 D.dead)) (D.num (List.getD (List.getD (enS false (Bridge.Ports b)) (Int.toNat i0) []) 5 D.dead))) (D.num (List.getD (List.getD (enS false (Bridge.Ports b)) (Int.toNat i0) []) 6 D.dead)) (D.num (List.getD (List.getD (enS false (Bridge.Ports b)) (Int.toNat i0) []) 7 D.dead)) (D.num (List.getD (List.getD (enS false (Bridge.Ports b)) (Int.toNat i0) []) 8 D.dead)) (D.num (List.getD (List.getD (enS false (Bridge.Ports b)) (Int.toNat i0) []) 9 D.dead)) (D.flag (List.getD (List.getD (enS false (Bridge.Ports b)) (Int.toNat i0) []) 10 D.dead))) then K Ex.ret (X64_2 b i0) else f (S64_0 b (IntKind.wrap IntKind.i64 (i0 + 1))) else none else none else K (Ex.exit 0) (X64_3 b i0) := by kernel_rfl
theorem aX64_2 (b : Bridge) (n : Nat) (i0 : Int) : k64_1 n Ex.ret (X64_2 b i0) = some ([[D.bool false]], []) := by kernel_rfl
theorem aX64_3 (b : Bridge) (n : Nat) (i0 : Int) : k64_1 n (Ex.exit 0) (X64_3 b i0) = bif inR (Bridge.Id b) (1) (9) then some ([[D.bool (inR (Int.ofNat (List.length (enS false (Bridge.Ports b)))) (1) (4))]], []) else some ([[D.bool false]], []) := by kernel_rfl
theorem r64 (b : Bridge) (n : Nat) : evFn ⟨Go.Proofs.Try.prog, Hx, 64⟩ T68.call n Go.Proofs.Try.f64 [[.int .i64 b.Id, .sl false 11 (enS false b.Ports)]] = loopRun (B64_0 n) 1 10 262140 n (S64_0 b (0)) (k64_1 n) := by kernel_rfl
theorem m64 (b : Bridge) (hpre : (o64 b).1 = true) : evFn ⟨Go.Proofs.Try.prog, Hx, 64⟩ T68.call (b.Ports.length + 1) Go.Proofs.Try.f64 [[.int .i64 b.Id, .sl false 11 (enS false b.Ports)]] = some (o64 b).2 := by
  refine (r64 b _).trans ?_
  show _ = (some ([[.bool (bridgeOk b)]], []) : Option (List Row × List Row))
  replace hpre : (decide (b.Ports.length ≤ 1048576)) = true := hpre
  have hlen := of_decide_eq_true hpre
  unfold bridgeOk
  refine loop_list (xs := b.Ports) (fun i (_ : Unit) => S64_0 b (Int.ofNat i)) (fun _ _ => True) (fun _ _ rest => some ([[D.bool (rest.all portOk && (inR b.Id 1 9 && inR (b.Ports.length : Int) 1 4))]], [])) ?_ ?_ (b.Ports.length + 1) () (by omega) trivial
  · rintro _ _ f
    refine (q64_0 b _ _ f _).trans ?_
    rw [end_lt, cond_false]
    refine (aX64_3 b _ _).trans ?_
    simp only [enS_length, List.all_nil, Bool.true_and]
    cases inR b.Id 1 9 <;> rfl
  · rintro i _ hi _ f hf
    refine (q64_0 b _ _ f _).trans ?_
    simp only [enS_length, toNat_of, dec_lt, dec_ge, decide_true, decide_false, cond_true, cond_false, Bool.and_self, Bool.and_true, Bool.true_and, Bool.not_true, Bool.not_false, Nat.lt_irrefl, Nat.zero_add, isS_enS, deS_enS, isS_nil, deS_nil, List.nil_append, lendRows_enS, deepRows_enS, noSl_u8, En.enc, List.getD_cons_zero, List.getD_cons_succ, D.num, D.flag, D.text, D.rows, Leaf.fit, List.append_eq, TReader.eta, Frame.eta, Heard.eta, Member.eta, Card.eta, Out1.eta, Vec.eta, Port.eta, Bridge.eta, In.eta, Out.eta, Link.eta, Net.eta, TEnd.eta, Minder.eta, Reg.eta, Wire.eta, Box.eta, Deed.eta, Bpdu.eta, Visit.eta, Fabric.eta, Got.eta, TRide.eta, Up.eta, Copy.eta, Bucket.eta, Snap.eta, TL9Cur.eta, TL21In.eta, enS_get _ hi, hi, wrap_succ (show i < 4611686018427387904 by omega)]
    cases hp : portOk b.Ports[i]
    · simp only [enS_length, toNat_of, dec_lt, dec_ge, decide_true, decide_false, cond_true, cond_false, Bool.and_self, Bool.and_true, Bool.true_and, Bool.not_true, Bool.not_false, Nat.lt_irrefl, Nat.zero_add, isS_enS, deS_enS, isS_nil, deS_nil, List.nil_append, lendRows_enS, deepRows_enS, noSl_u8, En.enc, List.getD_cons_zero, List.getD_cons_succ, D.num, D.flag, D.text, D.rows, Leaf.fit, List.append_eq, TReader.eta, Frame.eta, Heard.eta, Member.eta, Card.eta, Out1.eta, Vec.eta, Port.eta, Bridge.eta, In.eta, Out.eta, Link.eta, Net.eta, TEnd.eta, Minder.eta, Reg.eta, Wire.eta, Box.eta, Deed.eta, Bpdu.eta, Visit.eta, Fabric.eta, Got.eta, TRide.eta, Up.eta, Copy.eta, Bucket.eta, Snap.eta, TL9Cur.eta, TL21In.eta]
      refine (aX64_2 b _ _).trans ?_
      simp only [List.all_cons, hp, Bool.false_and]
    · simp only [enS_length, toNat_of, dec_lt, dec_ge, decide_true, decide_false, cond_true, cond_false, Bool.and_self, Bool.and_true, Bool.true_and, Bool.not_true, Bool.not_false, Nat.lt_irrefl, Nat.zero_add, isS_enS, deS_enS, isS_nil, deS_nil, List.nil_append, lendRows_enS, deepRows_enS, noSl_u8, En.enc, List.getD_cons_zero, List.getD_cons_succ, D.num, D.flag, D.text, D.rows, Leaf.fit, List.append_eq, TReader.eta, Frame.eta, Heard.eta, Member.eta, Card.eta, Out1.eta, Vec.eta, Port.eta, Bridge.eta, In.eta, Out.eta, Link.eta, Net.eta, TEnd.eta, Minder.eta, Reg.eta, Wire.eta, Box.eta, Deed.eta, Bpdu.eta, Visit.eta, Fabric.eta, Got.eta, TRide.eta, Up.eta, Copy.eta, Bucket.eta, Snap.eta, TL9Cur.eta, TL21In.eta]
      refine (hf () trivial).trans ?_
      simp only [List.all_cons, hp, Bool.true_and]
theorem s64 : SoundAt Go.Proofs.Try.prog Hx 64 c64 := soundAt_of T68_sound mixed Go.Proofs.Try.func64 (by kernel_rfl) (by
  intro rows r h
  unfold c64 at h
  split at h
  · rename_i b_Id b_Ports
    obtain ⟨hp, hr⟩ := Prod.mk.inj (Option.some.inj h)
    subst hr
    simp only [Bool.and_eq_true] at hp
    obtain ⟨hs0, hp⟩ := hp
    obtain ⟨xs0, rfl⟩ := isS_ex hs0
    simp only [deS_enS] at hp ⊢
    exact ⟨_, m64 ⟨b_Id, xs0⟩ hp⟩
  · cases h)
def T64 : Table := (64, c64) :: T68
theorem T64_sound : Table.Sound Go.Proofs.Try.prog Hx T64 := Table.sound_cons s64 T68_sound
/- SumOf -/
def o98 (b : List UInt8) : Bool × List Row × List Row := (decide (b.length ≤ 1048576), [[.int .i64 (sumOf b)]], [])
def c98 : Contract
  | [[.sl false 1 b]] => some (isS UInt8 false b && (o98 (deS UInt8 b)).1, (o98 (deS UInt8 b)).2.1, (o98 (deS UInt8 b)).2.2)
  | _ => none

noncomputable def k98_0 (n : Nat) : Ex → St → Option (List Row × List Row) := kThen (fun st ↦ runCode (Ctx.mk Go.Proofs.Try.prog Hx (98)) (Table.call T64) n (codeAt [1, 1, 1] (bodyOf Go.Proofs.Try.f98)) (Lv.mk 4 [] 4) st (kLeave (Ctx.P (Ctx.mk Go.Proofs.Try.prog Hx (98))) (List.zip (Array.toList (Go.Func.resultTypes Go.Proofs.Try.f98)) (Array.toList (Go.Func.results Go.Proofs.Try.f98))) [] [])) (kLeave (Ctx.P (Ctx.mk Go.Proofs.Try.prog Hx (98))) (List.zip (Array.toList (Go.Func.resultTypes Go.Proofs.Try.f98)) (Array.toList (Go.Func.results Go.Proofs.Try.f98))) [] [])
noncomputable def k98_1 (n : Nat) : Ex → St → Option (List Row × List Row) := kBlock (0) (k98_0 n)
noncomputable def S98_0 (b : List UInt8) (i0 : Int) (i1 : Int) (i2 : Int) : St := St.mk [TV.v false [C.undef], TV.v false [C.undef], TV.v false [C.undef], TV.v false [C.d (D.int IntKind.i64 i0)], TV.v false [C.d (D.int IntKind.i64 i1)], TV.v false [C.undef], TV.v false [C.undef], TV.v false [C.d (D.sl false 1 (enS false b))], TV.v false [C.d (D.int IntKind.i64 (Int.ofNat (List.length (enS false b))))], TV.v false [C.d (D.int IntKind.i64 i2)], TV.v false [C.undef], TV.v false [C.undef], TV.v false [C.undef], TV.v false [C.undef], TV.v false [C.undef], TV.v false [C.undef], TV.v false [C.undef], TV.v false [C.undef], TV.v false [C.undef], TV.v false [C.undef], TV.v false [C.undef], TV.v false [C.undef], TV.v false [C.undef], TV.v false [C.undef], TV.v false [C.undef], TV.v false [C.undef], TV.v false [C.undef]] []
noncomputable def B98_0 (n : Nat) : St → (Ex → St → Option (List Row × List Row)) → Option (List Row × List Row) := runCode (Ctx.mk Go.Proofs.Try.prog Hx (98)) (Table.call T64) n (codeAt [1, 1, 0, 1, 0, 0] (bodyOf Go.Proofs.Try.f98)) (Lv.mk 0 [(0, 24)] 4)
noncomputable def X98_2 (b : List UInt8) (i0 : Int) (i1 : Int) (i2 : Int) : St := St.mk [TV.v false [C.undef], TV.v false [C.undef], TV.v false [C.undef], TV.v false [C.d (D.int IntKind.i64 i0)], TV.v false [C.d (D.int IntKind.i64 i1)], TV.v false [C.undef], TV.v false [C.undef], TV.v false [C.d (D.sl false 1 (enS false b))], TV.v false [C.d (D.int IntKind.i64 (Int.ofNat (List.length (enS false b))))], TV.v false [C.d (D.int IntKind.i64 i2)], TV.v false [C.d (D.bool false)], TV.v false [C.undef], TV.v false [C.undef], TV.v false [C.undef], TV.v false [C.undef], TV.v false [C.undef], TV.v false [C.undef], TV.v false [C.undef], TV.v false [C.undef], TV.v false [C.undef], TV.v false [C.undef], TV.v false [C.undef], TV.v false [C.undef], TV.v false [C.undef], TV.v false [C.undef], TV.v false [C.undef], TV.v false [C.undef]] []
theorem q98_0 (b : List UInt8) (n : Nat) (i0 : Int) (i1 : Int) (i2 : Int) (f : St → Option (List Row × List Row)) (K : Ex → St → Option (List Row × List Row)) : B98_0 n (S98_0 b i0 i1 i2) (@kThen (List Row × List Row) (fun st ↦ f (St.head 0 920 8388184 st)) K) = bif decide (i2 < Int.ofNat (List.length (enS false b))) then bif decide (0 ≤ i2) && decide (i2 < Int.ofNat (List.length (enS false b))) then bif Leaf.fit false (Leaf.int IntKind.u8) (List.getD (List.getD (enS false b) (Int.toNat i2) []) 0 D.dead) && true then f (S98_0 b (Int.tmod (IntKind.wrap IntKind.i64 (i0 + IntKind.wrap IntKind.i64 (D.num (List.getD (List.getD (enS false b) (Int.toNat i2) []) 0 D.dead)))) (65521)) (Int.tmod (IntKind.wrap IntKind.i64 (i1 + Int.tmod (IntKind.wrap IntKind.i64 (i0 + IntKind.wrap IntKind.i64 (D.num (List.getD (List.getD (enS false b) (Int.toNat i2) []) 0 D.dead)))) (65521))) (65521)) (IntKind.wrap IntKind.i64 (i2 + 1))) else none else none else K (Ex.exit 0) (X98_2 b i0 i1 i2) := by kernel_rfl
theorem aX98_2 (b : List UInt8) (n : Nat) (i0 : Int) (i1 : Int) (i2 : Int) : k98_1 n (Ex.exit 0) (X98_2 b i0 i1 i2) = some ([[D.int IntKind.i64 (IntKind.wrap IntKind.i64 (IntKind.wrap IntKind.i64 (i1 * 65536) + i0))]], []) := by kernel_rfl
theorem r98 (b : List UInt8) (n : Nat) : evFn ⟨Go.Proofs.Try.prog, Hx, 98⟩ T64.call n Go.Proofs.Try.f98 [[.sl false 1 (enS false b)]] = loopRun (B98_0 n) 0 920 8388184 n (S98_0 b (1) (0) (0)) (k98_1 n) := by kernel_rfl
theorem m98 (b : List UInt8) (hpre : (o98 b).1 = true) : evFn ⟨Go.Proofs.Try.prog, Hx, 98⟩ T64.call (b.length + 1) Go.Proofs.Try.f98 [[.sl false 1 (enS false b)]] = some (o98 b).2 := by
  refine (r98 b _).trans ?_
  show _ = (some ([[.int .i64 (sumOf b)]], []) : Option (List Row × List Row))
  replace hpre : (decide (b.length ≤ 1048576)) = true := hpre
  have hlen := of_decide_eq_true hpre
  refine loop_list (xs := b) (fun i (v : Int × Int) => S98_0 b v.1 v.2 (Int.ofNat i)) (fun _ v => 0 ≤ v.1 ∧ v.1 < 65521 ∧ 0 ≤ v.2 ∧ v.2 < 65521) (fun _ v rest => some ([[D.int .i64 (sumL rest v.1 v.2)]], [])) ?_ ?_ (b.length + 1) (1, 0) (by omega) (by decide)
  · rintro ⟨x, y⟩ ⟨h1, h2, h3, h4⟩ f
    simp only at h1 h2 h3 h4
    refine (q98_0 b _ _ _ _ f _).trans ?_
    rw [end_lt, cond_false]
    refine (aX98_2 b _ _ _ _).trans ?_
    simp (disch := omega) only [wrap_sm]
    rfl
  · rintro i ⟨x, y⟩ hi ⟨h1, h2, h3, h4⟩ f hf
    simp only at h1 h2 h3 h4
    refine (q98_0 b _ _ _ _ f _).trans ?_
    have hb : ((b[i].toNat : Nat) : Int) ≤ 255 := by have := b[i].toNat_lt; omega
    have hm := tmod_b (x + (b[i].toNat : Int)) (by omega)
    have hm2 := tmod_b (y + (x + (b[i].toNat : Int)).tmod 65521) (by omega)
    simp only [enS_length, toNat_of, dec_lt, dec_ge, decide_true, decide_false, cond_true, cond_false, Bool.and_self, Bool.and_true, Bool.true_and, Bool.not_true, Bool.not_false, Nat.lt_irrefl, Nat.zero_add, isS_enS, deS_enS, isS_nil, deS_nil, List.nil_append, lendRows_enS, deepRows_enS, noSl_u8, En.enc, List.getD_cons_zero, List.getD_cons_succ, D.num, D.flag, D.text, D.rows, Leaf.fit, List.append_eq, TReader.eta, Frame.eta, Heard.eta, Member.eta, Card.eta, Out1.eta, Vec.eta, Port.eta, Bridge.eta, In.eta, Out.eta, Link.eta, Net.eta, TEnd.eta, Minder.eta, Reg.eta, Wire.eta, Box.eta, Deed.eta, Bpdu.eta, Visit.eta, Fabric.eta, Got.eta, TRide.eta, Up.eta, Copy.eta, Bucket.eta, Snap.eta, TL9Cur.eta, TL21In.eta, enS_get _ hi, hi, wrap_succ (show i < 4611686018427387904 by omega)]
    simp (disch := omega) only [wrap_sm]
    exact hf ((x + (b[i].toNat : Int)).tmod 65521, (y + (x + (b[i].toNat : Int)).tmod 65521).tmod 65521) ⟨hm.1, hm.2, hm2.1, hm2.2⟩
theorem s98 : SoundAt Go.Proofs.Try.prog Hx 98 c98 := soundAt_of T64_sound mixed Go.Proofs.Try.func98 (by kernel_rfl) (by
  intro rows r h
  unfold c98 at h
  split at h
  · rename_i b
    obtain ⟨hp, hr⟩ := Prod.mk.inj (Option.some.inj h)
    subst hr
    simp only [Bool.and_eq_true] at hp
    obtain ⟨hs0, hp⟩ := hp
    obtain ⟨xs0, rfl⟩ := isS_ex hs0
    simp only [deS_enS] at hp ⊢
    exact ⟨_, m98 xs0 hp⟩
  · cases h)
def T98 : Table := (98, c98) :: T64
theorem T98_sound : Table.Sound Go.Proofs.Try.prog Hx T98 := Table.sound_cons s98 T64_sound
/- SumOfS -/
def o66 (b : List UInt8) : Bool × List Row × List Row := (decide (b.length ≤ 1048576), [[.int .i64 (sumOf b)]], [])
def c66 : Contract
  | [[.sl false 1 b]] => some (isS UInt8 false b && (o66 (deS UInt8 b)).1, (o66 (deS UInt8 b)).2.1, (o66 (deS UInt8 b)).2.2)
  | _ => none

noncomputable def k66_0 (n : Nat) : Ex → St → Option (List Row × List Row) := kThen (fun st ↦ runCode (Ctx.mk Go.Proofs.Try.prog Hx (66)) (Table.call T98) n (codeAt [1, 1, 1] (bodyOf Go.Proofs.Try.f66)) (Lv.mk 4 [] 4) st (kLeave (Ctx.P (Ctx.mk Go.Proofs.Try.prog Hx (66))) (List.zip (Array.toList (Go.Func.resultTypes Go.Proofs.Try.f66)) (Array.toList (Go.Func.results Go.Proofs.Try.f66))) [] [])) (kLeave (Ctx.P (Ctx.mk Go.Proofs.Try.prog Hx (66))) (List.zip (Array.toList (Go.Func.resultTypes Go.Proofs.Try.f66)) (Array.toList (Go.Func.results Go.Proofs.Try.f66))) [] [])
noncomputable def k66_1 (n : Nat) : Ex → St → Option (List Row × List Row) := kBlock (0) (k66_0 n)
noncomputable def S66_0 (b : List UInt8) (i0 : Int) (i1 : Int) (i2 : Int) : St := St.mk [TV.v false [C.d (D.sl false 1 (enS false b))], TV.v false [C.undef], TV.v false [C.undef], TV.v false [C.d (D.int IntKind.i64 i0)], TV.v false [C.d (D.int IntKind.i64 i1)], TV.v false [C.d (D.int IntKind.i64 i2)], TV.v false [C.undef], TV.v false [C.undef], TV.v false [C.undef], TV.v false [C.undef], TV.v false [C.undef], TV.v false [C.undef], TV.v false [C.undef], TV.v false [C.undef], TV.v false [C.undef], TV.v false [C.undef], TV.v false [C.undef], TV.v false [C.undef], TV.v false [C.undef], TV.v false [C.undef], TV.v false [C.undef], TV.v false [C.undef], TV.v false [C.undef], TV.v false [C.undef], TV.v false [C.undef], TV.v false [C.undef], TV.v false [C.undef], TV.v false [C.undef]] []
noncomputable def B66_0 (n : Nat) : St → (Ex → St → Option (List Row × List Row)) → Option (List Row × List Row) := runCode (Ctx.mk Go.Proofs.Try.prog Hx (66)) (Table.call T98) n (codeAt [1, 1, 0, 1, 0, 0] (bodyOf Go.Proofs.Try.f66)) (Lv.mk 0 [(0, 24)] 4)
noncomputable def X66_2 (b : List UInt8) (i0 : Int) (i1 : Int) (i2 : Int) : St := St.mk [TV.v false [C.d (D.sl false 1 (enS false b))], TV.v false [C.undef], TV.v false [C.undef], TV.v false [C.d (D.int IntKind.i64 i0)], TV.v false [C.d (D.int IntKind.i64 i1)], TV.v false [C.d (D.int IntKind.i64 i2)], TV.v false [C.d (D.int IntKind.i64 i2)], TV.v false [C.d (D.sl false 1 (enS false b))], TV.v false [C.d (D.int IntKind.i64 (Int.ofNat (List.length (enS false b))))], TV.v false [C.d (D.bool false)], TV.v false [C.undef], TV.v false [C.undef], TV.v false [C.undef], TV.v false [C.undef], TV.v false [C.undef], TV.v false [C.undef], TV.v false [C.undef], TV.v false [C.undef], TV.v false [C.undef], TV.v false [C.undef], TV.v false [C.undef], TV.v false [C.undef], TV.v false [C.undef], TV.v false [C.undef], TV.v false [C.undef], TV.v false [C.undef], TV.v false [C.undef], TV.v false [C.undef]] []
theorem q66_0 (b : List UInt8) (n : Nat) (i0 : Int) (i1 : Int) (i2 : Int) (f : St → Option (List Row × List Row)) (K : Ex → St → Option (List Row × List Row)) : B66_0 n (S66_0 b i0 i1 i2) (@kThen (List Row × List Row) (fun st ↦ f (St.head 0 57 16777208 st)) K) = bif decide (i2 < Int.ofNat (List.length (enS false b))) then bif decide (0 ≤ i2) && decide (i2 < Int.ofNat (List.length (enS false b))) then bif Leaf.fit false (Leaf.int IntKind.u8) (List.getD (List.getD (enS false b) (Int.toNat i2) []) 0 D.dead) && true then f (S66_0 b (Int.tmod (IntKind.wrap IntKind.i64 (i0 + IntKind.wrap IntKind.i64 (D.num (List.getD (List.getD (enS false b) (Int.toNat i2) []) 0 D.dead)))) (65521)) (Int.tmod (IntKind.wrap IntKind.i64 (i1 + Int.tmod (IntKind.wrap IntKind.i64 (i0 + IntKind.wrap IntKind.i64 (D.num (List.getD (List.getD (enS false b) (Int.toNat i2) []) 0 D.dead)))) (65521))) (65521)) (IntKind.wrap IntKind.i64 (i2 + 1))) else none else none else K (Ex.exit 0) (X66_2 b i0 i1 i2) := by kernel_rfl
theorem aX66_2 (b : List UInt8) (n : Nat) (i0 : Int) (i1 : Int) (i2 : Int) : k66_1 n (Ex.exit 0) (X66_2 b i0 i1 i2) = some ([[D.int IntKind.i64 (IntKind.wrap IntKind.i64 (IntKind.wrap IntKind.i64 (i1 * 65536) + i0))]], []) := by kernel_rfl
theorem r66 (b : List UInt8) (n : Nat) : evFn ⟨Go.Proofs.Try.prog, Hx, 66⟩ T98.call n Go.Proofs.Try.f66 [[.sl false 1 (enS false b)]] = loopRun (B66_0 n) 0 57 16777208 n (S66_0 b (1) (0) (0)) (k66_1 n) := by kernel_rfl
theorem m66 (b : List UInt8) (hpre : (o66 b).1 = true) : evFn ⟨Go.Proofs.Try.prog, Hx, 66⟩ T98.call (b.length + 1) Go.Proofs.Try.f66 [[.sl false 1 (enS false b)]] = some (o66 b).2 := by
  refine (r66 b _).trans ?_
  show _ = (some ([[.int .i64 (sumOf b)]], []) : Option (List Row × List Row))
  replace hpre : (decide (b.length ≤ 1048576)) = true := hpre
  have hlen := of_decide_eq_true hpre
  refine loop_list (xs := b) (fun i (v : Int × Int) => S66_0 b v.1 v.2 (Int.ofNat i)) (fun _ v => 0 ≤ v.1 ∧ v.1 < 65521 ∧ 0 ≤ v.2 ∧ v.2 < 65521) (fun _ v rest => some ([[D.int .i64 (sumL rest v.1 v.2)]], [])) ?_ ?_ (b.length + 1) (1, 0) (by omega) (by decide)
  · rintro ⟨x, y⟩ ⟨h1, h2, h3, h4⟩ f
    simp only at h1 h2 h3 h4
    refine (q66_0 b _ _ _ _ f _).trans ?_
    rw [end_lt, cond_false]
    refine (aX66_2 b _ _ _ _).trans ?_
    simp (disch := omega) only [wrap_sm]
    rfl
  · rintro i ⟨x, y⟩ hi ⟨h1, h2, h3, h4⟩ f hf
    simp only at h1 h2 h3 h4
    refine (q66_0 b _ _ _ _ f _).trans ?_
    have hb : ((b[i].toNat : Nat) : Int) ≤ 255 := by have := b[i].toNat_lt; omega
    have hm := tmod_b (x + (b[i].toNat : Int)) (by omega)
    have hm2 := tmod_b (y + (x + (b[i].toNat : Int)).tmod 65521) (by omega)
    simp only [enS_length, toNat_of, dec_lt, dec_ge, decide_true, decide_false, cond_true, cond_false, Bool.and_self, Bool.and_true, Bool.true_and, Bool.not_true, Bool.not_false, Nat.lt_irrefl, Nat.zero_add, isS_enS, deS_enS, isS_nil, deS_nil, List.nil_append, lendRows_enS, deepRows_enS, noSl_u8, En.enc, List.getD_cons_zero, List.getD_cons_succ, D.num, D.flag, D.text, D.rows, Leaf.fit, List.append_eq, TReader.eta, Frame.eta, Heard.eta, Member.eta, Card.eta, Out1.eta, Vec.eta, Port.eta, Bridge.eta, In.eta, Out.eta, Link.eta, Net.eta, TEnd.eta, Minder.eta, Reg.eta, Wire.eta, Box.eta, Deed.eta, Bpdu.eta, Visit.eta, Fabric.eta, Got.eta, TRide.eta, Up.eta, Copy.eta, Bucket.eta, Snap.eta, TL9Cur.eta, TL21In.eta, enS_get _ hi, hi, wrap_succ (show i < 4611686018427387904 by omega)]
    simp (disch := omega) only [wrap_sm]
    exact hf ((x + (b[i].toNat : Int)).tmod 65521, (y + (x + (b[i].toNat : Int)).tmod 65521).tmod 65521) ⟨hm.1, hm.2, hm2.1, hm2.2⟩
theorem s66 : SoundAt Go.Proofs.Try.prog Hx 66 c66 := soundAt_of T98_sound mixed Go.Proofs.Try.func66 (by kernel_rfl) (by
  intro rows r h
  unfold c66 at h
  split at h
  · rename_i b
    obtain ⟨hp, hr⟩ := Prod.mk.inj (Option.some.inj h)
    subst hr
    simp only [Bool.and_eq_true] at hp
    obtain ⟨hs0, hp⟩ := hp
    obtain ⟨xs0, rfl⟩ := isS_ex hs0
    simp only [deS_enS] at hp ⊢
    exact ⟨_, m66 xs0 hp⟩
  · cases h)
def T66 : Table := (66, c66) :: T98
theorem T66_sound : Table.Sound Go.Proofs.Try.prog Hx T66 := Table.sound_cons s66 T98_sound
/- summed -/
def o69 (b : List UInt8) : Bool × List Row × List Row := (decide (b.length ≤ 1048576), [[.sl true 1 (enS true (b ++ sumBs (sumOf b)))]], [])
def c69 : Contract
  | [[.sl true 1 b]] => some (isS UInt8 true b && (o69 (deS UInt8 b)).1, (o69 (deS UInt8 b)).2.1, (o69 (deS UInt8 b)).2.2)
  | _ => none

theorem r69 (b : List UInt8) (n : Nat) : evFn ⟨Go.Proofs.Try.prog, Hx, 69⟩ T66.call n Go.Proofs.Try.f69 [[.sl true 1 (enS true b)]] = bif isS UInt8 false (lendRows (enS true b)) && decide (List.length (deS UInt8 (lendRows (enS true b))) ≤ 1048576) then bif decide ((List.length (enS true b) + 4) * 1 ≤ 140737488355328) then some ([[D.sl true 1 (List.append (enS true b) [[D.int IntKind.u8 (IntKind.wrap IntKind.u8 (sumOf (deS UInt8 (lendRows (enS true b)))))], [D.int IntKind.u8 (IntKind.wrap IntKind.u8 (Int.fdiv (sumOf (deS UInt8 (lendRows (enS true b)))) (Int.ofNat 256)))], [D.int IntKind.u8 (IntKind.wrap IntKind.u8 (Int.fdiv (sumOf (deS UInt8 (lendRows (enS true b)))) (Int.ofNat 65536)))], [D.int IntKind.u8 (IntKind.wrap IntKind.u8 (Int.fdiv (sumOf (deS UInt8 (lendRows (enS true b)))) (Int.ofNat 16777216)))]])]], []) else none else none := by kernel_rfl
theorem m69 (b : List UInt8) (hpre : (o69 b).1 = true) : evFn ⟨Go.Proofs.Try.prog, Hx, 69⟩ T66.call 0 Go.Proofs.Try.f69 [[.sl true 1 (enS true b)]] = some (o69 b).2 := by
  refine (r69 b _).trans ?_
  show _ = (some ([[.sl true 1 (enS true (b ++ sumBs (sumOf b)))]], []) : Option (List Row × List Row))
  replace hpre : (decide (b.length ≤ 1048576)) = true := hpre
  have h1 := of_decide_eq_true hpre
  have h47 : decide ((b.length + 4) * 1 ≤ 140737488355328) = true := decide_eq_true (by omega)
  simp only [isS_enS, deS_enS, lendRows_enS, enS_length, hpre, h47, cond_true, Bool.and_self, sumBs, enS_append, enS_cons, enS_nil, u8_enc]
  rfl
theorem s69 : SoundAt Go.Proofs.Try.prog Hx 69 c69 := soundAt_of T66_sound mixed Go.Proofs.Try.func69 (by kernel_rfl) (by
  intro rows r h
  unfold c69 at h
  split at h
  · rename_i b
    obtain ⟨hp, hr⟩ := Prod.mk.inj (Option.some.inj h)
    subst hr
    simp only [Bool.and_eq_true] at hp
    obtain ⟨hs0, hp⟩ := hp
    obtain ⟨xs0, rfl⟩ := isS_ex hs0
    simp only [deS_enS] at hp ⊢
    exact ⟨_, m69 xs0 hp⟩
  · cases h)
def T69 : Table := (69, c69) :: T66
theorem T69_sound : Table.Sound Go.Proofs.Try.prog Hx T69 := Table.sound_cons s69 T66_sound
/- l2Sum -/
def o65 (n_ : Int) : Bool × List Row × List Row := (true, [[.sl true 1 (enS true (sumBs n_))]], [])
def c65 : Contract
  | [[.int .i64 n_]] => some ((o65 n_).1, (o65 n_).2.1, (o65 n_).2.2)
  | _ => none

theorem r65 (n_ : Int) (n : Nat) : evFn ⟨Go.Proofs.Try.prog, Hx, 65⟩ T69.call n Go.Proofs.Try.f65 [[.int .i64 n_]] = some ([[D.sl true 1 [[D.int IntKind.u8 (IntKind.wrap IntKind.u8 (IntKind.wrap IntKind.i64 (Int.ofNat (BitVec.toNat (BitVec.and (BitVec.ofInt 64 n_) (BitVec.ofInt 64 (255)))))))], [D.int IntKind.u8 (IntKind.wrap IntKind.u8 (IntKind.wrap IntKind.i64 (Int.ofNat (BitVec.toNat (BitVec.and (BitVec.ofInt 64 (Int.fdiv n_ (Int.ofNat 256))) (BitVec.ofInt 64 (255)))))))], [D.int IntKind.u8 (IntKind.wrap IntKind.u8 (IntKind.wrap IntKind.i64 (Int.ofNat (BitVec.toNat (BitVec.and (BitVec.ofInt 64 (Int.fdiv n_ (Int.ofNat 65536))) (BitVec.ofInt 64 (255)))))))], [D.int IntKind.u8 (IntKind.wrap IntKind.u8 (IntKind.wrap IntKind.i64 (Int.ofNat (BitVec.toNat (BitVec.and (BitVec.ofInt 64 (Int.fdiv n_ (Int.ofNat 16777216))) (BitVec.ofInt 64 (255)))))))]]]], []) := by kernel_rfl
theorem m65 (n_ : Int) (hpre : (o65 n_).1 = true) : evFn ⟨Go.Proofs.Try.prog, Hx, 65⟩ T69.call 0 Go.Proofs.Try.f65 [[.int .i64 n_]] = some (o65 n_).2 := by
  refine (r65 n_ _).trans ?_
  show _ = (some ([[.sl true 1 (enS true (sumBs n_))]], []) : Option (List Row × List Row))
  replace hpre : (true) = true := hpre
  simp only [and255, sumBs, enS_cons, enS_nil, u8_enc]
  rfl
theorem s65 : SoundAt Go.Proofs.Try.prog Hx 65 c65 := soundAt_of T69_sound mixed Go.Proofs.Try.func65 (by kernel_rfl) (by
  intro rows r h
  unfold c65 at h
  split at h
  · rename_i n_
    obtain ⟨hp, hr⟩ := Prod.mk.inj (Option.some.inj h)
    subst hr
    exact ⟨_, m65 n_ hp⟩
  · cases h)
def T65 : Table := (65, c65) :: T69
theorem T65_sound : Table.Sound Go.Proofs.Try.prog Hx T65 := Table.sound_cons s65 T69_sound
end Go.Ev
end
