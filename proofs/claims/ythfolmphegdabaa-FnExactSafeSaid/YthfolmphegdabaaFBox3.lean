/- Contracts of functions, each by its evaluation. -/
import Derived.Test.YthfolmphegdabaaEvMd
import Derived.Test.YthfolmphegdabaaProg
import Derived.KernelRfl
import Derived.Test.YthfolmphegdabaaFBox2
set_option linter.unusedVariables false
set_option linter.unusedSimpArgs false
set_option maxRecDepth 100000
noncomputable section
namespace Go.Ev
open Go.RowKit Go.Md
/- Released -/
def o49 (x : Box) : Bool × List Row × List Row := (Box.small x, [[.int .i64 ((x.Line.length : Int))]], [])
def c49 : Contract
  | [[.int .i64 x_Id, .int .i64 x_Ports, .int .i64 x_Reg_Epoch, .int .i64 x_Reg_Owner, .int .i64 x_Reg_Pair, .sl false 7 x_Two, .sl false 12 x_Net, .sl false 1 x_Gates, .sl false 8 x_Line, .sl false 8 x_Said]] => some (isS Minder false x_Two && isS Wire false x_Net && isS Bool false x_Gates && isS In false x_Line && isS Out false x_Said && (o49 ⟨x_Id, x_Ports, ⟨x_Reg_Epoch, x_Reg_Owner, x_Reg_Pair⟩, (deS Minder x_Two), (deS Wire x_Net), (deS Bool x_Gates), (deS In x_Line), (deS Out x_Said)⟩).1, (o49 ⟨x_Id, x_Ports, ⟨x_Reg_Epoch, x_Reg_Owner, x_Reg_Pair⟩, (deS Minder x_Two), (deS Wire x_Net), (deS Bool x_Gates), (deS In x_Line), (deS Out x_Said)⟩).2.1, (o49 ⟨x_Id, x_Ports, ⟨x_Reg_Epoch, x_Reg_Owner, x_Reg_Pair⟩, (deS Minder x_Two), (deS Wire x_Net), (deS Bool x_Gates), (deS In x_Line), (deS Out x_Said)⟩).2.2)
  | _ => none

theorem r49 (x : Box) (n : Nat) : evFn ⟨Go.Proofs.Try.prog, Hx, 49⟩ T40.call n Go.Proofs.Try.f49 [[.int .i64 x.Id, .int .i64 x.Ports, .int .i64 x.Reg.Epoch, .int .i64 x.Reg.Owner, .int .i64 x.Reg.Pair, .sl false 7 (enS false x.Two), .sl false 12 (enS false x.Net), .sl false 1 (enS false x.Gates), .sl false 8 (enS false x.Line), .sl false 8 (enS false x.Said)]] = some ([[D.int IntKind.i64 (Int.ofNat (List.length (enS false (Box.Line x))))]], []) := by kernel_rfl
theorem m49 (x : Box) (hpre : (o49 x).1 = true) : evFn ⟨Go.Proofs.Try.prog, Hx, 49⟩ T40.call 0 Go.Proofs.Try.f49 [[.int .i64 x.Id, .int .i64 x.Ports, .int .i64 x.Reg.Epoch, .int .i64 x.Reg.Owner, .int .i64 x.Reg.Pair, .sl false 7 (enS false x.Two), .sl false 12 (enS false x.Net), .sl false 1 (enS false x.Gates), .sl false 8 (enS false x.Line), .sl false 8 (enS false x.Said)]] = some (o49 x).2 := by
  refine (r49 x _).trans ?_
  show _ = (some ([[.int .i64 ((x.Line.length : Int))]], []) : Option (List Row × List Row))
  replace hpre : (Box.small x) = true := hpre
  simp only [enS_length, toNat_of, dec_lt, dec_ge, decide_true, decide_false, cond_true, cond_false, Bool.and_self, Bool.and_true, Bool.true_and, Bool.not_true, Bool.not_false, Nat.lt_irrefl, Nat.zero_add, isS_enS, deS_enS, isS_nil, deS_nil, List.nil_append, lendRows_enS, deepRows_enS, noSl_u8, En.enc, List.getD_cons_zero, List.getD_cons_succ, D.num, D.flag, D.text, D.rows, Leaf.fit, List.append_eq, TReader.eta, Frame.eta, Heard.eta, Member.eta, Card.eta, Out1.eta, Vec.eta, Port.eta, Bridge.eta, In.eta, Out.eta, Link.eta, Net.eta, TEnd.eta, Minder.eta, Reg.eta, Wire.eta, Box.eta, Deed.eta, Bpdu.eta, Visit.eta, Fabric.eta, Got.eta, TRide.eta, Up.eta, Copy.eta, Bucket.eta, Snap.eta, TL9Cur.eta, TL21In.eta]
  all_goals rfl
theorem s49 : SoundAt Go.Proofs.Try.prog Hx 49 c49 := soundAt_of T40_sound mixed Go.Proofs.Try.func49 (by kernel_rfl) (by
  intro rows r h
  unfold c49 at h
  split at h
  · rename_i x_Id x_Ports x_Reg_Epoch x_Reg_Owner x_Reg_Pair x_Two x_Net x_Gates x_Line x_Said
    obtain ⟨hp, hr⟩ := Prod.mk.inj (Option.some.inj h)
    subst hr
    simp only [Bool.and_eq_true] at hp
    obtain ⟨⟨⟨⟨⟨hs0, hs1⟩, hs2⟩, hs3⟩, hs4⟩, hp⟩ := hp
    obtain ⟨xs0, rfl⟩ := isS_ex hs0
    obtain ⟨xs1, rfl⟩ := isS_ex hs1
    obtain ⟨xs2, rfl⟩ := isS_ex hs2
    obtain ⟨xs3, rfl⟩ := isS_ex hs3
    obtain ⟨xs4, rfl⟩ := isS_ex hs4
    simp only [deS_enS] at hp ⊢
    exact ⟨_, m49 ⟨x_Id, x_Ports, ⟨x_Reg_Epoch, x_Reg_Owner, x_Reg_Pair⟩, xs0, xs1, xs2, xs3, xs4⟩ hp⟩
  · cases h)
def T49 : Table := (49, c49) :: T40
theorem T49_sound : Table.Sound Go.Proofs.Try.prog Hx T49 := Table.sound_cons s49 T40_sound
/- Lag -/
def o11 (x : Box) : Bool × List Row × List Row := (Box.small x, [[.int .i64 (lag x)]], [])
def c11 : Contract
  | [[.int .i64 x_Id, .int .i64 x_Ports, .int .i64 x_Reg_Epoch, .int .i64 x_Reg_Owner, .int .i64 x_Reg_Pair, .sl false 7 x_Two, .sl false 12 x_Net, .sl false 1 x_Gates, .sl false 8 x_Line, .sl false 8 x_Said]] => some (isS Minder false x_Two && isS Wire false x_Net && isS Bool false x_Gates && isS In false x_Line && isS Out false x_Said && (o11 ⟨x_Id, x_Ports, ⟨x_Reg_Epoch, x_Reg_Owner, x_Reg_Pair⟩, (deS Minder x_Two), (deS Wire x_Net), (deS Bool x_Gates), (deS In x_Line), (deS Out x_Said)⟩).1, (o11 ⟨x_Id, x_Ports, ⟨x_Reg_Epoch, x_Reg_Owner, x_Reg_Pair⟩, (deS Minder x_Two), (deS Wire x_Net), (deS Bool x_Gates), (deS In x_Line), (deS Out x_Said)⟩).2.1, (o11 ⟨x_Id, x_Ports, ⟨x_Reg_Epoch, x_Reg_Owner, x_Reg_Pair⟩, (deS Minder x_Two), (deS Wire x_Net), (deS Bool x_Gates), (deS In x_Line), (deS Out x_Said)⟩).2.2)
  | _ => none

theorem r11 (x : Box) (n : Nat) : evFn ⟨Go.Proofs.Try.prog, Hx, 11⟩ T49.call n Go.Proofs.Try.f11 [[.int .i64 x.Id, .int .i64 x.Ports, .int .i64 x.Reg.Epoch, .int .i64 x.Reg.Owner, .int .i64 x.Reg.Pair, .sl false 7 (enS false x.Two), .sl false 12 (enS false x.Net), .sl false 1 (enS false x.Gates), .sl false 8 (enS false x.Line), .sl false 8 (enS false x.Said)]] = bif isS Minder false (enS false (Box.Two x)) && isS Wire false (enS false (Box.Net x)) && isS Bool false (enS false (Box.Gates x)) && isS In false (enS false (Box.Line x)) && isS Out false (enS false (Box.Said x)) && Box.small (Box.mk (Box.Id x) (Box.Ports x) (Box.Reg x) (deS Minder (enS false (Box.Two x))) (deS Wire (enS false (Box.Net x))) (deS Bool (enS false (Box.Gates x))) (deS In (enS false (Box.Line x))) (deS Out (enS false (Box.Said x)))) then bif !boxOk (Box.mk (Box.Id x) (Box.Ports x) (Box.Reg x) (deS Minder (enS false (Box.Two x))) (deS Wire (enS false (Box.Net x))) (deS Bool (enS false (Box.Gates x))) (deS In (enS false (Box.Line x))) (deS Out (enS false (Box.Said x)))) then some ([[D.int IntKind.i64 (0)]], []) else bif isS Minder false (lendRows (enS false (Box.Two x))) && isS Wire false (lendRows (enS false (Box.Net x))) && isS Bool false (lendRows (enS false (Box.Gates x))) && isS In false (lendRows (enS false (Box.Line x))) && isS Out false (lendRows (enS false (Box.Said x))) && Box.small (Box.mk (Box.Id x) (Box.Ports x) (Box.Reg x) (deS Minder (lendRows (enS false (Box.Two x)))) (deS Wire (lendRows (enS false (Box.Net x)))) (deS Bool (lendRows (enS false (Box.Gates x)))) (deS In (lendRows (enS false (Box.Line x)))) (deS Out (lendRows (enS false (Box.Said x))))) then bif decide (who (Box.mk (Box.Id x) (Box.Ports x) (Box.Reg x) (deS Minder (lendRows (enS false (Box.Two x)))) (deS Wire (lendRows (enS false (Box.Net x)))) (deS Bool (lendRows (enS false (Box.Gates x)))) (deS In (lendRows (enS false (Box.Line x)))) (deS Out (lendRows (enS false (Box.Said x))))) < 0) then some ([[D.int IntKind.i64 (0)]], []) else bif decide (0 ≤ who (Box.mk (Box.Id x) (Box.Ports x) (Box.Reg x) (deS Minder (lendRows (enS false (Box.Two x)))) (deS Wire (lendRows (enS false (Box.Net x)))) (deS Bool (lendRows (enS false (Box.Gates x)))) (deS In (lendRows (enS false (Box.Line x)))) (deS Out (lendRows (enS false (Box.Said x)))))) && decide (who (Box.mk (Box.Id x) (Box.Ports x) (Box.Reg x) (deS Minder (lendRows (enS false (Box.Two x)))) (deS Wire (lendRows (enS false (Box.Net x)))) (deS Bool (lendRows (enS false (Box.Gates x)))) (deS In (lendRows (enS false (Box.Line x)))) (deS Out (lendRows (enS false (Box.Said x))))) < Int.ofNat (List.length (enS false (Box.Two x)))) then bif Leaf.fit false (Leaf.sl 8 true) (List.getD (List.drop 3 (List.getD (enS false (Box.Two x)) (Int.toNat (who (Box.mk (Box.Id x) (Box.Ports x) (Box.Reg x) (deS Minder (lendRows (enS false (Box.Two x)))) (deS Wire (lendRows (enS false (Box.Net x)))) (deS Bool (lendRows (enS false (Box.Gates x)))) (deS In (lendRows (enS false (Box.Line x)))) (deS Out (lendRows (enS false (Box.Said x))))))) [])) 0 D.dead) && true then bif isS Minder false (enS false (Box.Two x)) && isS Wire false (enS false (Box.Net x)) && isS Bool false (enS false (Box.Gates x)) && isS In false (enS false (Box.Line x)) && isS Out false (enS false (Box.Said x)) && Box.small (Box.mk (Box.Id x) (Box.Ports x) (Box.Reg x) (deS Minder (enS false (Box.Two x))) (deS Wire (enS false (Box.Net x))) (deS Bool (enS false (Box.Gates x))) (deS In (enS false (Box.Line x))) (deS Out (enS false (Box.Said x)))) then some ([[D.int IntKind.i64 (if IntKind.wrap IntKind.i64 (Int.ofNat (List.length (D.rows (List.getD (List.drop 3 (List.getD (enS false (Box.Two x)) (Int.toNat (who (Box.mk (Box.Id x) (Box.Ports x) (Box.Reg x) (deS Minder (lendRows (enS false (Box.Two x)))) (deS Wire (lendRows (enS false (Box.Net x)))) (deS Bool (lendRows (enS false (Box.Gates x)))) (deS In (lendRows (enS false (Box.Line x)))) (deS Out (lendRows (enS false (Box.Said x))))))) [])) 0 D.dead))) - Int.ofNat (List.length (deS In (enS false (Box.Line x))))) < 0 then 0 else IntKind.wrap IntKind.i64 (Int.ofNat (List.length (D.rows (List.getD (List.drop 3 (List.getD (enS false (Box.Two x)) (Int.toNat (who (Box.mk (Box.Id x) (Box.Ports x) (Box.Reg x) (deS Minder (lendRows (enS false (Box.Two x)))) (deS Wire (lendRows (enS false (Box.Net x)))) (deS Bool (lendRows (enS false (Box.Gates x)))) (deS In (lendRows (enS false (Box.Line x)))) (deS Out (lendRows (enS false (Box.Said x))))))) [])) 0 D.dead))) - Int.ofNat (List.length (deS In (enS false (Box.Line x))))))]], []) else none else none else none else none else none := by kernel_rfl
theorem m11 (x : Box) (hpre : (o11 x).1 = true) : evFn ⟨Go.Proofs.Try.prog, Hx, 11⟩ T49.call 0 Go.Proofs.Try.f11 [[.int .i64 x.Id, .int .i64 x.Ports, .int .i64 x.Reg.Epoch, .int .i64 x.Reg.Owner, .int .i64 x.Reg.Pair, .sl false 7 (enS false x.Two), .sl false 12 (enS false x.Net), .sl false 1 (enS false x.Gates), .sl false 8 (enS false x.Line), .sl false 8 (enS false x.Said)]] = some (o11 x).2 := by
  refine (r11 x _).trans ?_
  show _ = (some ([[.int .i64 (lag x)]], []) : Option (List Row × List Row))
  replace hpre : (Box.small x) = true := hpre
  obtain ⟨hs1, hs2, hs3, hs4, hs5, hs6⟩ := box_small hpre
  simp only [cond_true, cond_false, Bool.and_true, Bool.true_and, Bool.and_self, Bool.not_true, Bool.not_false, isS_enS, deS_enS, lendRows_enS, deepRows_enS, enS_length, toNat_of, decide_true, decide_false, sameB_self, dec_ge, TReader.eta, Frame.eta, Heard.eta, Member.eta, Card.eta, Out1.eta, Vec.eta, Port.eta, Bridge.eta, In.eta, Out.eta, Link.eta, Net.eta, TEnd.eta, Minder.eta, Reg.eta, Wire.eta, Box.eta, Deed.eta, Bpdu.eta, Visit.eta, Fabric.eta, Got.eta, TRide.eta, Up.eta, Copy.eta, Bucket.eta, Snap.eta, TL9Cur.eta, TL21In.eta, hpre]
  unfold lag
  cases hb : boxOk x
  · rfl
  have hwb := who_b hb
  have h2 := two_of hb
  have hd2 : decide (x.Two.length = 2) = true := decide_eq_true h2
  simp only [hd2, Bool.not_true, Bool.and_self, cond_true, cond_false]
  generalize who x = w at hwb ⊢
  by_cases hn : w < 0
  · simp only [decide_eq_true hn, cond_true]
  obtain ⟨k, rfl⟩ := Int.eq_ofNat_of_zero_le (show 0 ≤ w by omega)
  have hk : k < x.Two.length := by omega
  have hl := hs2 _ (List.getElem_mem hk)
  have e0 : decide ((k : Int) < 0) = false := decide_eq_false hn
  have e1 : decide (0 ≤ (k : Int)) = true := decide_eq_true (by omega)
  have e2 : decide ((k : Int) < Int.ofNat x.Two.length) = true := decide_eq_true (by show (k : Int) < (x.Two.length : Int); omega)
  have hg := enS_get (α := Minder) false hk
  have hs : sel x (k : Int) = x.Two[k] := sel_nat x k hk
  have hw3 : IntKind.wrap IntKind.i64 (Int.ofNat x.Two[k].Log.length - Int.ofNat x.Line.length) = (x.Two[k].Log.length : Int) - (x.Line.length : Int) := wrap_sm (by show _ ≤ (x.Two[k].Log.length : Int) - (x.Line.length : Int); omega) (by show (x.Two[k].Log.length : Int) - (x.Line.length : Int) ≤ _; omega)
  simp only [enS_length, toNat_of, dec_lt, dec_ge, decide_true, decide_false, cond_true, cond_false, Bool.and_self, Bool.and_true, Bool.true_and, Bool.not_true, Bool.not_false, Nat.lt_irrefl, Nat.zero_add, isS_enS, deS_enS, isS_nil, deS_nil, List.nil_append, lendRows_enS, deepRows_enS, noSl_u8, En.enc, List.getD_cons_zero, List.getD_cons_succ, D.num, D.flag, D.text, D.rows, Leaf.fit, List.append_eq, TReader.eta, Frame.eta, Heard.eta, Member.eta, Card.eta, Out1.eta, Vec.eta, Port.eta, Bridge.eta, In.eta, Out.eta, Link.eta, Net.eta, TEnd.eta, Minder.eta, Reg.eta, Wire.eta, Box.eta, Deed.eta, Bpdu.eta, Visit.eta, Fabric.eta, Got.eta, TRide.eta, Up.eta, Copy.eta, Bucket.eta, Snap.eta, TL9Cur.eta, TL21In.eta, e0, e1, e2, Int.toNat_natCast, hg, hs, List.drop_succ_cons, List.drop_zero, hw3, beq_self_eq_true, hpre]
  all_goals rfl
theorem s11 : SoundAt Go.Proofs.Try.prog Hx 11 c11 := soundAt_of T49_sound mixed Go.Proofs.Try.func11 (by kernel_rfl) (by
  intro rows r h
  unfold c11 at h
  split at h
  · rename_i x_Id x_Ports x_Reg_Epoch x_Reg_Owner x_Reg_Pair x_Two x_Net x_Gates x_Line x_Said
    obtain ⟨hp, hr⟩ := Prod.mk.inj (Option.some.inj h)
    subst hr
    simp only [Bool.and_eq_true] at hp
    obtain ⟨⟨⟨⟨⟨hs0, hs1⟩, hs2⟩, hs3⟩, hs4⟩, hp⟩ := hp
    obtain ⟨xs0, rfl⟩ := isS_ex hs0
    obtain ⟨xs1, rfl⟩ := isS_ex hs1
    obtain ⟨xs2, rfl⟩ := isS_ex hs2
    obtain ⟨xs3, rfl⟩ := isS_ex hs3
    obtain ⟨xs4, rfl⟩ := isS_ex hs4
    simp only [deS_enS] at hp ⊢
    exact ⟨_, m11 ⟨x_Id, x_Ports, ⟨x_Reg_Epoch, x_Reg_Owner, x_Reg_Pair⟩, xs0, xs1, xs2, xs3, xs4⟩ hp⟩
  · cases h)
def T11 : Table := (11, c11) :: T49
theorem T11_sound : Table.Sound Go.Proofs.Try.prog Hx T11 := Table.sound_cons s11 T49_sound
/- LagS -/
def o9 (x : Box) : Bool × List Row × List Row := (Box.small x, [[.int .i64 (lag x)]], [])
def c9 : Contract
  | [[.int .i64 x_Id, .int .i64 x_Ports, .int .i64 x_Reg_Epoch, .int .i64 x_Reg_Owner, .int .i64 x_Reg_Pair, .sl false 7 x_Two, .sl false 12 x_Net, .sl false 1 x_Gates, .sl false 8 x_Line, .sl false 8 x_Said]] => some (isS Minder false x_Two && isS Wire false x_Net && isS Bool false x_Gates && isS In false x_Line && isS Out false x_Said && (o9 ⟨x_Id, x_Ports, ⟨x_Reg_Epoch, x_Reg_Owner, x_Reg_Pair⟩, (deS Minder x_Two), (deS Wire x_Net), (deS Bool x_Gates), (deS In x_Line), (deS Out x_Said)⟩).1, (o9 ⟨x_Id, x_Ports, ⟨x_Reg_Epoch, x_Reg_Owner, x_Reg_Pair⟩, (deS Minder x_Two), (deS Wire x_Net), (deS Bool x_Gates), (deS In x_Line), (deS Out x_Said)⟩).2.1, (o9 ⟨x_Id, x_Ports, ⟨x_Reg_Epoch, x_Reg_Owner, x_Reg_Pair⟩, (deS Minder x_Two), (deS Wire x_Net), (deS Bool x_Gates), (deS In x_Line), (deS Out x_Said)⟩).2.2)
  | _ => none

theorem r9 (x : Box) (n : Nat) : evFn ⟨Go.Proofs.Try.prog, Hx, 9⟩ T11.call n Go.Proofs.Try.f9 [[.int .i64 x.Id, .int .i64 x.Ports, .int .i64 x.Reg.Epoch, .int .i64 x.Reg.Owner, .int .i64 x.Reg.Pair, .sl false 7 (enS false x.Two), .sl false 12 (enS false x.Net), .sl false 1 (enS false x.Gates), .sl false 8 (enS false x.Line), .sl false 8 (enS false x.Said)]] = bif isS Minder false (enS false (Box.Two x)) && isS Wire false (enS false (Box.Net x)) && isS Bool false (enS false (Box.Gates x)) && isS In false (enS false (Box.Line x)) && isS Out false (enS false (Box.Said x)) && Box.small (Box.mk (Box.Id x) (Box.Ports x) (Box.Reg x) (deS Minder (enS false (Box.Two x))) (deS Wire (enS false (Box.Net x))) (deS Bool (enS false (Box.Gates x))) (deS In (enS false (Box.Line x))) (deS Out (enS false (Box.Said x)))) then bif boxOk (Box.mk (Box.Id x) (Box.Ports x) (Box.Reg x) (deS Minder (enS false (Box.Two x))) (deS Wire (enS false (Box.Net x))) (deS Bool (enS false (Box.Gates x))) (deS In (enS false (Box.Line x))) (deS Out (enS false (Box.Said x)))) then bif isS Minder false (enS false (Box.Two x)) && isS Wire false (enS false (Box.Net x)) && isS Bool false (enS false (Box.Gates x)) && isS In false (enS false (Box.Line x)) && isS Out false (enS false (Box.Said x)) && (Box.small (Box.mk (Box.Id x) (Box.Ports x) (Box.Reg x) (deS Minder (enS false (Box.Two x))) (deS Wire (enS false (Box.Net x))) (deS Bool (enS false (Box.Gates x))) (deS In (enS false (Box.Line x))) (deS Out (enS false (Box.Said x)))) && decide (List.length (deS Minder (enS false (Box.Two x))) = 2)) then bif decide (who (Box.mk (Box.Id x) (Box.Ports x) (Box.Reg x) (deS Minder (enS false (Box.Two x))) (deS Wire (enS false (Box.Net x))) (deS Bool (enS false (Box.Gates x))) (deS In (enS false (Box.Line x))) (deS Out (enS false (Box.Said x)))) < 0) then some ([[D.int IntKind.i64 (0)]], []) else bif decide (0 ≤ who (Box.mk (Box.Id x) (Box.Ports x) (Box.Reg x) (deS Minder (enS false (Box.Two x))) (deS Wire (enS false (Box.Net x))) (deS Bool (enS false (Box.Gates x))) (deS In (enS false (Box.Line x))) (deS Out (enS false (Box.Said x))))) && decide (who (Box.mk (Box.Id x) (Box.Ports x) (Box.Reg x) (deS Minder (enS false (Box.Two x))) (deS Wire (enS false (Box.Net x))) (deS Bool (enS false (Box.Gates x))) (deS In (enS false (Box.Line x))) (deS Out (enS false (Box.Said x)))) < Int.ofNat (List.length (enS false (Box.Two x)))) then bif Leaf.fit false (Leaf.sl 8 true) (List.getD (List.drop 3 (List.getD (enS false (Box.Two x)) (Int.toNat (who (Box.mk (Box.Id x) (Box.Ports x) (Box.Reg x) (deS Minder (enS false (Box.Two x))) (deS Wire (enS false (Box.Net x))) (deS Bool (enS false (Box.Gates x))) (deS In (enS false (Box.Line x))) (deS Out (enS false (Box.Said x)))))) [])) 0 D.dead) && true then some ([[D.int IntKind.i64 (maxI (IntKind.wrap IntKind.i64 (Int.ofNat (List.length (D.rows (List.getD (List.drop 3 (List.getD (enS false (Box.Two x)) (Int.toNat (who (Box.mk (Box.Id x) (Box.Ports x) (Box.Reg x) (deS Minder (enS false (Box.Two x))) (deS Wire (enS false (Box.Net x))) (deS Bool (enS false (Box.Gates x))) (deS In (enS false (Box.Line x))) (deS Out (enS false (Box.Said x)))))) [])) 0 D.dead))) - Int.ofNat (List.length (enS false (Box.Line x))))) (0))]], []) else none else none else none else some ([[D.int IntKind.i64 (0)]], []) else none := by kernel_rfl
theorem m9 (x : Box) (hpre : (o9 x).1 = true) : evFn ⟨Go.Proofs.Try.prog, Hx, 9⟩ T11.call 0 Go.Proofs.Try.f9 [[.int .i64 x.Id, .int .i64 x.Ports, .int .i64 x.Reg.Epoch, .int .i64 x.Reg.Owner, .int .i64 x.Reg.Pair, .sl false 7 (enS false x.Two), .sl false 12 (enS false x.Net), .sl false 1 (enS false x.Gates), .sl false 8 (enS false x.Line), .sl false 8 (enS false x.Said)]] = some (o9 x).2 := by
  refine (r9 x _).trans ?_
  show _ = (some ([[.int .i64 (lag x)]], []) : Option (List Row × List Row))
  replace hpre : (Box.small x) = true := hpre
  obtain ⟨hs1, hs2, hs3, hs4, hs5, hs6⟩ := box_small hpre
  simp only [cond_true, cond_false, Bool.and_true, Bool.true_and, Bool.and_self, Bool.not_true, Bool.not_false, isS_enS, deS_enS, lendRows_enS, deepRows_enS, enS_length, toNat_of, decide_true, decide_false, sameB_self, dec_ge, TReader.eta, Frame.eta, Heard.eta, Member.eta, Card.eta, Out1.eta, Vec.eta, Port.eta, Bridge.eta, In.eta, Out.eta, Link.eta, Net.eta, TEnd.eta, Minder.eta, Reg.eta, Wire.eta, Box.eta, Deed.eta, Bpdu.eta, Visit.eta, Fabric.eta, Got.eta, TRide.eta, Up.eta, Copy.eta, Bucket.eta, Snap.eta, TL9Cur.eta, TL21In.eta, hpre]
  unfold lag
  cases hb : boxOk x
  · rfl
  have hwb := who_b hb
  have h2 := two_of hb
  have hd2 : decide (x.Two.length = 2) = true := decide_eq_true h2
  simp only [hd2, Bool.not_true, Bool.and_self, cond_true, cond_false]
  generalize who x = w at hwb ⊢
  by_cases hn : w < 0
  · simp only [decide_eq_true hn, cond_true]
  obtain ⟨k, rfl⟩ := Int.eq_ofNat_of_zero_le (show 0 ≤ w by omega)
  have hk : k < x.Two.length := by omega
  have hl := hs2 _ (List.getElem_mem hk)
  have e0 : decide ((k : Int) < 0) = false := decide_eq_false hn
  have e1 : decide (0 ≤ (k : Int)) = true := decide_eq_true (by omega)
  have e2 : decide ((k : Int) < Int.ofNat x.Two.length) = true := decide_eq_true (by show (k : Int) < (x.Two.length : Int); omega)
  have hg := enS_get (α := Minder) false hk
  have hs : sel x (k : Int) = x.Two[k] := sel_nat x k hk
  have hw3 : IntKind.wrap IntKind.i64 (Int.ofNat x.Two[k].Log.length - Int.ofNat x.Line.length) = (x.Two[k].Log.length : Int) - (x.Line.length : Int) := wrap_sm (by show _ ≤ (x.Two[k].Log.length : Int) - (x.Line.length : Int); omega) (by show (x.Two[k].Log.length : Int) - (x.Line.length : Int) ≤ _; omega)
  simp only [enS_length, toNat_of, dec_lt, dec_ge, decide_true, decide_false, cond_true, cond_false, Bool.and_self, Bool.and_true, Bool.true_and, Bool.not_true, Bool.not_false, Nat.lt_irrefl, Nat.zero_add, isS_enS, deS_enS, isS_nil, deS_nil, List.nil_append, lendRows_enS, deepRows_enS, noSl_u8, En.enc, List.getD_cons_zero, List.getD_cons_succ, D.num, D.flag, D.text, D.rows, Leaf.fit, List.append_eq, TReader.eta, Frame.eta, Heard.eta, Member.eta, Card.eta, Out1.eta, Vec.eta, Port.eta, Bridge.eta, In.eta, Out.eta, Link.eta, Net.eta, TEnd.eta, Minder.eta, Reg.eta, Wire.eta, Box.eta, Deed.eta, Bpdu.eta, Visit.eta, Fabric.eta, Got.eta, TRide.eta, Up.eta, Copy.eta, Bucket.eta, Snap.eta, TL9Cur.eta, TL21In.eta, e0, e1, e2, Int.toNat_natCast, hg, hs, List.drop_succ_cons, List.drop_zero, hw3, beq_self_eq_true, hpre]
  all_goals rfl
theorem s9 : SoundAt Go.Proofs.Try.prog Hx 9 c9 := soundAt_of T11_sound mixed Go.Proofs.Try.func9 (by kernel_rfl) (by
  intro rows r h
  unfold c9 at h
  split at h
  · rename_i x_Id x_Ports x_Reg_Epoch x_Reg_Owner x_Reg_Pair x_Two x_Net x_Gates x_Line x_Said
    obtain ⟨hp, hr⟩ := Prod.mk.inj (Option.some.inj h)
    subst hr
    simp only [Bool.and_eq_true] at hp
    obtain ⟨⟨⟨⟨⟨hs0, hs1⟩, hs2⟩, hs3⟩, hs4⟩, hp⟩ := hp
    obtain ⟨xs0, rfl⟩ := isS_ex hs0
    obtain ⟨xs1, rfl⟩ := isS_ex hs1
    obtain ⟨xs2, rfl⟩ := isS_ex hs2
    obtain ⟨xs3, rfl⟩ := isS_ex hs3
    obtain ⟨xs4, rfl⟩ := isS_ex hs4
    simp only [deS_enS] at hp ⊢
    exact ⟨_, m9 ⟨x_Id, x_Ports, ⟨x_Reg_Epoch, x_Reg_Owner, x_Reg_Pair⟩, xs0, xs1, xs2, xs3, xs4⟩ hp⟩
  · cases h)
def T9 : Table := (9, c9) :: T11
theorem T9_sound : Table.Sound Go.Proofs.Try.prog Hx T9 := Table.sound_cons s9 T11_sound
/- Behind -/
def o14 (x : Box) : Bool × List Row × List Row := (Box.small x, [[.int .i64 (behind x)]], [])
def c14 : Contract
  | [[.int .i64 x_Id, .int .i64 x_Ports, .int .i64 x_Reg_Epoch, .int .i64 x_Reg_Owner, .int .i64 x_Reg_Pair, .sl false 7 x_Two, .sl false 12 x_Net, .sl false 1 x_Gates, .sl false 8 x_Line, .sl false 8 x_Said]] => some (isS Minder false x_Two && isS Wire false x_Net && isS Bool false x_Gates && isS In false x_Line && isS Out false x_Said && (o14 ⟨x_Id, x_Ports, ⟨x_Reg_Epoch, x_Reg_Owner, x_Reg_Pair⟩, (deS Minder x_Two), (deS Wire x_Net), (deS Bool x_Gates), (deS In x_Line), (deS Out x_Said)⟩).1, (o14 ⟨x_Id, x_Ports, ⟨x_Reg_Epoch, x_Reg_Owner, x_Reg_Pair⟩, (deS Minder x_Two), (deS Wire x_Net), (deS Bool x_Gates), (deS In x_Line), (deS Out x_Said)⟩).2.1, (o14 ⟨x_Id, x_Ports, ⟨x_Reg_Epoch, x_Reg_Owner, x_Reg_Pair⟩, (deS Minder x_Two), (deS Wire x_Net), (deS Bool x_Gates), (deS In x_Line), (deS Out x_Said)⟩).2.2)
  | _ => none

theorem r14 (x : Box) (n : Nat) : evFn ⟨Go.Proofs.Try.prog, Hx, 14⟩ T9.call n Go.Proofs.Try.f14 [[.int .i64 x.Id, .int .i64 x.Ports, .int .i64 x.Reg.Epoch, .int .i64 x.Reg.Owner, .int .i64 x.Reg.Pair, .sl false 7 (enS false x.Two), .sl false 12 (enS false x.Net), .sl false 1 (enS false x.Gates), .sl false 8 (enS false x.Line), .sl false 8 (enS false x.Said)]] = bif isS Minder false (enS false (Box.Two x)) && isS Wire false (enS false (Box.Net x)) && isS Bool false (enS false (Box.Gates x)) && isS In false (enS false (Box.Line x)) && isS Out false (enS false (Box.Said x)) && Box.small (Box.mk (Box.Id x) (Box.Ports x) (Box.Reg x) (deS Minder (enS false (Box.Two x))) (deS Wire (enS false (Box.Net x))) (deS Bool (enS false (Box.Gates x))) (deS In (enS false (Box.Line x))) (deS Out (enS false (Box.Said x)))) then bif !boxOk (Box.mk (Box.Id x) (Box.Ports x) (Box.Reg x) (deS Minder (enS false (Box.Two x))) (deS Wire (enS false (Box.Net x))) (deS Bool (enS false (Box.Gates x))) (deS In (enS false (Box.Line x))) (deS Out (enS false (Box.Said x)))) then some ([[D.int IntKind.i64 (0)]], []) else bif isS Minder false (lendRows (enS false (Box.Two x))) && isS Wire false (lendRows (enS false (Box.Net x))) && isS Bool false (lendRows (enS false (Box.Gates x))) && isS In false (lendRows (enS false (Box.Line x))) && isS Out false (lendRows (enS false (Box.Said x))) && Box.small (Box.mk (Box.Id x) (Box.Ports x) (Box.Reg x) (deS Minder (lendRows (enS false (Box.Two x)))) (deS Wire (lendRows (enS false (Box.Net x)))) (deS Bool (lendRows (enS false (Box.Gates x)))) (deS In (lendRows (enS false (Box.Line x)))) (deS Out (lendRows (enS false (Box.Said x))))) then bif decide (who (Box.mk (Box.Id x) (Box.Ports x) (Box.Reg x) (deS Minder (lendRows (enS false (Box.Two x)))) (deS Wire (lendRows (enS false (Box.Net x)))) (deS Bool (lendRows (enS false (Box.Gates x)))) (deS In (lendRows (enS false (Box.Line x)))) (deS Out (lendRows (enS false (Box.Said x))))) < 0) then some ([[D.int IntKind.i64 (0)]], []) else bif decide (0 ≤ who (Box.mk (Box.Id x) (Box.Ports x) (Box.Reg x) (deS Minder (lendRows (enS false (Box.Two x)))) (deS Wire (lendRows (enS false (Box.Net x)))) (deS Bool (lendRows (enS false (Box.Gates x)))) (deS In (lendRows (enS false (Box.Line x)))) (deS Out (lendRows (enS false (Box.Said x)))))) && decide (who (Box.mk (Box.Id x) (Box.Ports x) (Box.Reg x) (deS Minder (lendRows (enS false (Box.Two x)))) (deS Wire (lendRows (enS false (Box.Net x)))) (deS Bool (lendRows (enS false (Box.Gates x)))) (deS In (lendRows (enS false (Box.Line x)))) (deS Out (lendRows (enS false (Box.Said x))))) < Int.ofNat (List.length (enS false (Box.Two x)))) then bif Leaf.fit false (Leaf.sl 8 true) (List.getD (List.drop 3 (List.getD (enS false (Box.Two x)) (Int.toNat (who (Box.mk (Box.Id x) (Box.Ports x) (Box.Reg x) (deS Minder (lendRows (enS false (Box.Two x)))) (deS Wire (lendRows (enS false (Box.Net x)))) (deS Bool (lendRows (enS false (Box.Gates x)))) (deS In (lendRows (enS false (Box.Line x)))) (deS Out (lendRows (enS false (Box.Said x))))))) [])) 0 D.dead) && true then bif decide (0 ≤ IntKind.wrap IntKind.i64 (1 - who (Box.mk (Box.Id x) (Box.Ports x) (Box.Reg x) (deS Minder (lendRows (enS false (Box.Two x)))) (deS Wire (lendRows (enS false (Box.Net x)))) (deS Bool (lendRows (enS false (Box.Gates x)))) (deS In (lendRows (enS false (Box.Line x)))) (deS Out (lendRows (enS false (Box.Said x))))))) && decide (IntKind.wrap IntKind.i64 (1 - who (Box.mk (Box.Id x) (Box.Ports x) (Box.Reg x) (deS Minder (lendRows (enS false (Box.Two x)))) (deS Wire (lendRows (enS false (Box.Net x)))) (deS Bool (lendRows (enS false (Box.Gates x)))) (deS In (lendRows (enS false (Box.Line x)))) (deS Out (lendRows (enS false (Box.Said x)))))) < Int.ofNat (List.length (enS false (Box.Two x)))) then bif Leaf.fit false Leaf.bool (List.getD (List.getD (enS false (Box.Two x)) (Int.toNat (IntKind.wrap IntKind.i64 (1 - who (Box.mk (Box.Id x) (Box.Ports x) (Box.Reg x) (deS Minder (lendRows (enS false (Box.Two x)))) (deS Wire (lendRows (enS false (Box.Net x)))) (deS Bool (lendRows (enS false (Box.Gates x)))) (deS In (lendRows (enS false (Box.Line x)))) (deS Out (lendRows (enS false (Box.Said x)))))))) []) 0 D.dead) && (Leaf.fit false (Leaf.int IntKind.i64) (List.getD (List.getD (enS false (Box.Two x)) (Int.toNat (IntKind.wrap IntKind.i64 (1 - who (Box.mk (Box.Id x) (Box.Ports x) (Box.Reg x) (deS Minder (lendRows (enS false (Box.Two x)))) (deS Wire (lendRows (enS false (Box.Net x)))) (deS Bool (lendRows (enS false (Box.Gates x)))) (deS In (lendRows (enS false (Box.Line x)))) (deS Out (lendRows (enS false (Box.Said x)))))))) []) 1 D.dead) && (Leaf.fit false (Leaf.int IntKind.i64) (List.getD (List.getD (enS false (Box.Two x)) (Int.toNat (IntKind.wrap IntKind.i64 (1 - who (Box.mk (Box.Id x) (Box.Ports x) (Box.Reg x) (deS Minder (lendRows (enS false (Box.Two x)))) (deS Wire (lendRows (enS false (Box.Net x)))) (deS Bool (lendRows (enS false (Box.Gates x)))) (deS In (lendRows (enS false (Box.Line x)))) (deS Out (lendRows (enS false (Box.Said x)))))))) []) 2 D.dead) && (Leaf.fit false (Leaf.sl 8 true) (List.getD (List.getD (enS false (Box.Two x)) (Int.toNat (IntKind.wrap IntKind.i64 (1 - who (Box.mk (Box.Id x) (Box.Ports x) (Box.Reg x) (deS Minder (lendRows (enS false (Box.Two x)))) (deS Wire (lendRows (enS false (Box.Net x)))) (deS Bool (lendRows (enS false (Box.Gates x)))) (deS In (lendRows (enS false (Box.Line x)))) (deS Out (lendRows (enS false (Box.Said x)))))))) []) 3 D.dead) && (Leaf.fit false (Leaf.int IntKind.i64) (List.getD (List.getD (enS false (Box.Two x)) (Int.toNat (IntKind.wrap IntKind.i64 (1 - who (Box.mk (Box.Id x) (Box.Ports x) (Box.Reg x) (deS Minder (lendRows (enS false (Box.Two x)))) (deS Wire (lendRows (enS false (Box.Net x)))) (deS Bool (lendRows (enS false (Box.Gates x)))) (deS In (lendRows (enS false (Box.Line x)))) (deS Out (lendRows (enS false (Box.Said x)))))))) []) 4 D.dead) && (Leaf.fit false (Leaf.int IntKind.i64) (List.getD (List.getD (enS false (Box.Two x)) (Int.toNat (IntKind.wrap IntKind.i64 (1 - who (Box.mk (Box.Id x) (Box.Ports x) (Box.Reg x) (deS Minder (lendRows (enS false (Box.Two x)))) (deS Wire (lendRows (enS false (Box.Net x)))) (deS Bool (lendRows (enS false (Box.Gates x)))) (deS In (lendRows (enS false (Box.Line x)))) (deS Out (lendRows (enS false (Box.Said x)))))))) []) 5 D.dead) && (Leaf.fit false (Leaf.int IntKind.i64) (List.getD (List.getD (enS false (Box.Two x)) (Int.toNat (IntKind.wrap IntKind.i64 (1 - who (Box.mk (Box.Id x) (Box.Ports x) (Box.Reg x) (deS Minder (lendRows (enS false (Box.Two x)))) (deS Wire (lendRows (enS false (Box.Net x)))) (deS Bool (lendRows (enS false (Box.Gates x)))) (deS In (lendRows (enS false (Box.Line x)))) (deS Out (lendRows (enS false (Box.Said x)))))))) []) 6 D.dead) && true)))))) then bif !D.flag (List.getD (List.getD (enS false (Box.Two x)) (Int.toNat (IntKind.wrap IntKind.i64 (1 - who (Box.mk (Box.Id x) (Box.Ports x) (Box.Reg x) (deS Minder (lendRows (enS false (Box.Two x)))) (deS Wire (lendRows (enS false (Box.Net x)))) (deS Bool (lendRows (enS false (Box.Gates x)))) (deS In (lendRows (enS false (Box.Line x)))) (deS Out (lendRows (enS false (Box.Said x)))))))) []) 0 D.dead) then some ([[D.int IntKind.i64 (Int.ofNat (List.length (D.rows (List.getD (List.drop 3 (List.getD (enS false (Box.Two x)) (Int.toNat (who (Box.mk (Box.Id x) (Box.Ports x) (Box.Reg x) (deS Minder (lendRows (enS false (Box.Two x)))) (deS Wire (lendRows (enS false (Box.Net x)))) (deS Bool (lendRows (enS false (Box.Gates x)))) (deS In (lendRows (enS false (Box.Line x)))) (deS Out (lendRows (enS false (Box.Said x))))))) [])) 0 D.dead))))]], []) else bif D.num (List.getD (List.getD (enS false (Box.Two x)) (Int.toNat (IntKind.wrap IntKind.i64 (1 - who (Box.mk (Box.Id x) (Box.Ports x) (Box.Reg x) (deS Minder (lendRows (enS false (Box.Two x)))) (deS Wire (lendRows (enS false (Box.Net x)))) (deS Bool (lendRows (enS false (Box.Gates x)))) (deS In (lendRows (enS false (Box.Line x)))) (deS Out (lendRows (enS false (Box.Said x)))))))) []) 2 D.dead) != 0 then some ([[D.int IntKind.i64 (Int.ofNat (List.length (D.rows (List.getD (List.drop 3 (List.getD (enS false (Box.Two x)) (Int.toNat (who (Box.mk (Box.Id x) (Box.Ports x) (Box.Reg x) (deS Minder (lendRows (enS false (Box.Two x)))) (deS Wire (lendRows (enS false (Box.Net x)))) (deS Bool (lendRows (enS false (Box.Gates x)))) (deS In (lendRows (enS false (Box.Line x)))) (deS Out (lendRows (enS false (Box.Said x))))))) [])) 0 D.dead))))]], []) else some ([[D.int IntKind.i64 (if IntKind.wrap IntKind.i64 (Int.ofNat (List.length (D.rows (List.getD (List.drop 3 (List.getD (enS false (Box.Two x)) (Int.toNat (who (Box.mk (Box.Id x) (Box.Ports x) (Box.Reg x) (deS Minder (lendRows (enS false (Box.Two x)))) (deS Wire (lendRows (enS false (Box.Net x)))) (deS Bool (lendRows (enS false (Box.Gates x)))) (deS In (lendRows (enS false (Box.Line x)))) (deS Out (lendRows (enS false (Box.Said x))))))) [])) 0 D.dead))) - Int.ofNat (List.length (D.rows (List.getD (List.getD (enS false (Box.Two x)) (Int.toNat (IntKind.wrap IntKind.i64 (1 - who (Box.mk (Box.Id x) (Box.Ports x) (Box.Reg x) (deS Minder (lendRows (enS false (Box.Two x)))) (deS Wire (lendRows (enS false (Box.Net x)))) (deS Bool (lendRows (enS false (Box.Gates x)))) (deS In (lendRows (enS false (Box.Line x)))) (deS Out (lendRows (enS false (Box.Said x)))))))) []) 3 D.dead)))) < 0 then 0 else IntKind.wrap IntKind.i64 (Int.ofNat (List.length (D.rows (List.getD (List.drop 3 (List.getD (enS false (Box.Two x)) (Int.toNat (who (Box.mk (Box.Id x) (Box.Ports x) (Box.Reg x) (deS Minder (lendRows (enS false (Box.Two x)))) (deS Wire (lendRows (enS false (Box.Net x)))) (deS Bool (lendRows (enS false (Box.Gates x)))) (deS In (lendRows (enS false (Box.Line x)))) (deS Out (lendRows (enS false (Box.Said x))))))) [])) 0 D.dead))) - Int.ofNat (List.length (D.rows (List.getD (List.getD (enS false (Box.Two x)) (Int.toNat (IntKind.wrap IntKind.i64 (1 - who (Box.mk (Box.Id x) (Box.Ports x) (Box.Reg x) (deS Minder (lendRows (enS false (Box.Two x)))) (deS Wire (lendRows (enS false (Box.Net x)))) (deS Bool (lendRows (enS false (Box.Gates x)))) (deS In (lendRows (enS false (Box.Line x)))) (deS Out (lendRows (enS false (Box.Said x)))))))) []) 3 D.dead)))))]], []) else none else none else none else none else none else none := by kernel_rfl
theorem m14 (x : Box) (hpre : (o14 x).1 = true) : evFn ⟨Go.Proofs.Try.prog, Hx, 14⟩ T9.call 0 Go.Proofs.Try.f14 [[.int .i64 x.Id, .int .i64 x.Ports, .int .i64 x.Reg.Epoch, .int .i64 x.Reg.Owner, .int .i64 x.Reg.Pair, .sl false 7 (enS false x.Two), .sl false 12 (enS false x.Net), .sl false 1 (enS false x.Gates), .sl false 8 (enS false x.Line), .sl false 8 (enS false x.Said)]] = some (o14 x).2 := by
  refine (r14 x _).trans ?_
  show _ = (some ([[.int .i64 (behind x)]], []) : Option (List Row × List Row))
  replace hpre : (Box.small x) = true := hpre
  obtain ⟨hs1, hs2, hs3, hs4, hs5, hs6⟩ := box_small hpre
  simp only [cond_true, cond_false, Bool.and_true, Bool.true_and, Bool.and_self, Bool.not_true, Bool.not_false, isS_enS, deS_enS, lendRows_enS, deepRows_enS, enS_length, toNat_of, decide_true, decide_false, sameB_self, dec_ge, TReader.eta, Frame.eta, Heard.eta, Member.eta, Card.eta, Out1.eta, Vec.eta, Port.eta, Bridge.eta, In.eta, Out.eta, Link.eta, Net.eta, TEnd.eta, Minder.eta, Reg.eta, Wire.eta, Box.eta, Deed.eta, Bpdu.eta, Visit.eta, Fabric.eta, Got.eta, TRide.eta, Up.eta, Copy.eta, Bucket.eta, Snap.eta, TL9Cur.eta, TL21In.eta, hpre]
  unfold behind
  cases hb : boxOk x
  · rfl
  have hwb := who_b hb
  have h2 := two_of hb
  have hd2 : decide (x.Two.length = 2) = true := decide_eq_true h2
  simp only [hd2, Bool.not_true, Bool.and_self, cond_true, cond_false]
  generalize who x = w at hwb ⊢
  by_cases hn : w < 0
  · simp only [decide_eq_true hn, cond_true]
  obtain ⟨k, rfl⟩ := Int.eq_ofNat_of_zero_le (show 0 ≤ w by omega)
  have hk : k < x.Two.length := by omega
  have hl := hs2 _ (List.getElem_mem hk)
  have e0 : decide ((k : Int) < 0) = false := decide_eq_false hn
  have e1 : decide (0 ≤ (k : Int)) = true := decide_eq_true (by omega)
  have e2 : decide ((k : Int) < Int.ofNat x.Two.length) = true := decide_eq_true (by show (k : Int) < (x.Two.length : Int); omega)
  have hg := enS_get (α := Minder) false hk
  have hs : sel x (k : Int) = x.Two[k] := sel_nat x k hk
  obtain ⟨j, hj⟩ : ∃ j : Nat, 1 - (k : Int) = (j : Int) := Int.eq_ofNat_of_zero_le (by omega)
  have hjw : IntKind.wrap IntKind.i64 (j : Int) = (j : Int) := wrap_sm (by omega) (by omega)
  have hj2 : j < x.Two.length := by omega
  have hlj := hs2 _ (List.getElem_mem hj2)
  have f1 : decide (0 ≤ (j : Int)) = true := decide_eq_true (by omega)
  have f2 : decide ((j : Int) < Int.ofNat x.Two.length) = true := decide_eq_true (by show (j : Int) < (x.Two.length : Int); omega)
  have fg := enS_get (α := Minder) false hj2
  have fs : sel x (j : Int) = x.Two[j] := sel_nat x j hj2
  have he := ok_two hb hj2
  have hw3 : IntKind.wrap IntKind.i64 (Int.ofNat x.Two[k].Log.length - Int.ofNat x.Two[j].Log.length) = (x.Two[k].Log.length : Int) - (x.Two[j].Log.length : Int) := wrap_sm (by show _ ≤ (x.Two[k].Log.length : Int) - (x.Two[j].Log.length : Int); omega) (by show (x.Two[k].Log.length : Int) - (x.Two[j].Log.length : Int) ≤ _; omega)
  have hep : (decide (x.Two[j].Epoch > 0)) = !(x.Two[j].Epoch == 0) := by
    rw [Bool.eq_iff_iff]
    simp
    omega
  have hne : (x.Two[j].Epoch != 0) = !(x.Two[j].Epoch == 0) := rfl
  simp only [enS_length, toNat_of, dec_lt, dec_ge, decide_true, decide_false, cond_true, cond_false, Bool.and_self, Bool.and_true, Bool.true_and, Bool.not_true, Bool.not_false, Nat.lt_irrefl, Nat.zero_add, isS_enS, deS_enS, isS_nil, deS_nil, List.nil_append, lendRows_enS, deepRows_enS, noSl_u8, En.enc, List.getD_cons_zero, List.getD_cons_succ, D.num, D.flag, D.text, D.rows, Leaf.fit, List.append_eq, TReader.eta, Frame.eta, Heard.eta, Member.eta, Card.eta, Out1.eta, Vec.eta, Port.eta, Bridge.eta, In.eta, Out.eta, Link.eta, Net.eta, TEnd.eta, Minder.eta, Reg.eta, Wire.eta, Box.eta, Deed.eta, Bpdu.eta, Visit.eta, Fabric.eta, Got.eta, TRide.eta, Up.eta, Copy.eta, Bucket.eta, Snap.eta, TL9Cur.eta, TL21In.eta, hj, hjw, e0, e1, e2, f1, f2, Int.toNat_natCast, hg, hs, fg, fs, List.drop_succ_cons, List.drop_zero, hw3, hep, hne, beq_self_eq_true, hpre]
  cases x.Two[j].Up <;> cases (x.Two[j].Epoch == 0) <;> rfl
theorem s14 : SoundAt Go.Proofs.Try.prog Hx 14 c14 := soundAt_of T9_sound mixed Go.Proofs.Try.func14 (by kernel_rfl) (by
  intro rows r h
  unfold c14 at h
  split at h
  · rename_i x_Id x_Ports x_Reg_Epoch x_Reg_Owner x_Reg_Pair x_Two x_Net x_Gates x_Line x_Said
    obtain ⟨hp, hr⟩ := Prod.mk.inj (Option.some.inj h)
    subst hr
    simp only [Bool.and_eq_true] at hp
    obtain ⟨⟨⟨⟨⟨hs0, hs1⟩, hs2⟩, hs3⟩, hs4⟩, hp⟩ := hp
    obtain ⟨xs0, rfl⟩ := isS_ex hs0
    obtain ⟨xs1, rfl⟩ := isS_ex hs1
    obtain ⟨xs2, rfl⟩ := isS_ex hs2
    obtain ⟨xs3, rfl⟩ := isS_ex hs3
    obtain ⟨xs4, rfl⟩ := isS_ex hs4
    simp only [deS_enS] at hp ⊢
    exact ⟨_, m14 ⟨x_Id, x_Ports, ⟨x_Reg_Epoch, x_Reg_Owner, x_Reg_Pair⟩, xs0, xs1, xs2, xs3, xs4⟩ hp⟩
  · cases h)
def T14 : Table := (14, c14) :: T9
theorem T14_sound : Table.Sound Go.Proofs.Try.prog Hx T14 := Table.sound_cons s14 T9_sound
/- BehindS -/
def o13 (x : Box) : Bool × List Row × List Row := (Box.small x, [[.int .i64 (behind x)]], [])
def c13 : Contract
  | [[.int .i64 x_Id, .int .i64 x_Ports, .int .i64 x_Reg_Epoch, .int .i64 x_Reg_Owner, .int .i64 x_Reg_Pair, .sl false 7 x_Two, .sl false 12 x_Net, .sl false 1 x_Gates, .sl false 8 x_Line, .sl false 8 x_Said]] => some (isS Minder false x_Two && isS Wire false x_Net && isS Bool false x_Gates && isS In false x_Line && isS Out false x_Said && (o13 ⟨x_Id, x_Ports, ⟨x_Reg_Epoch, x_Reg_Owner, x_Reg_Pair⟩, (deS Minder x_Two), (deS Wire x_Net), (deS Bool x_Gates), (deS In x_Line), (deS Out x_Said)⟩).1, (o13 ⟨x_Id, x_Ports, ⟨x_Reg_Epoch, x_Reg_Owner, x_Reg_Pair⟩, (deS Minder x_Two), (deS Wire x_Net), (deS Bool x_Gates), (deS In x_Line), (deS Out x_Said)⟩).2.1, (o13 ⟨x_Id, x_Ports, ⟨x_Reg_Epoch, x_Reg_Owner, x_Reg_Pair⟩, (deS Minder x_Two), (deS Wire x_Net), (deS Bool x_Gates), (deS In x_Line), (deS Out x_Said)⟩).2.2)
  | _ => none

theorem r13 (x : Box) (n : Nat) : evFn ⟨Go.Proofs.Try.prog, Hx, 13⟩ T14.call n Go.Proofs.Try.f13 [[.int .i64 x.Id, .int .i64 x.Ports, .int .i64 x.Reg.Epoch, .int .i64 x.Reg.Owner, .int .i64 x.Reg.Pair, .sl false 7 (enS false x.Two), .sl false 12 (enS false x.Net), .sl false 1 (enS false x.Gates), .sl false 8 (enS false x.Line), .sl false 8 (enS false x.Said)]] = bif isS Minder false (enS false (Box.Two x)) && isS Wire false (enS false (Box.Net x)) && isS Bool false (enS false (Box.Gates x)) && isS In false (enS false (Box.Line x)) && isS Out false (enS false (Box.Said x)) && Box.small (Box.mk (Box.Id x) (Box.Ports x) (Box.Reg x) (deS Minder (enS false (Box.Two x))) (deS Wire (enS false (Box.Net x))) (deS Bool (enS false (Box.Gates x))) (deS In (enS false (Box.Line x))) (deS Out (enS false (Box.Said x)))) then bif boxOk (Box.mk (Box.Id x) (Box.Ports x) (Box.Reg x) (deS Minder (enS false (Box.Two x))) (deS Wire (enS false (Box.Net x))) (deS Bool (enS false (Box.Gates x))) (deS In (enS false (Box.Line x))) (deS Out (enS false (Box.Said x)))) then bif isS Minder false (enS false (Box.Two x)) && isS Wire false (enS false (Box.Net x)) && isS Bool false (enS false (Box.Gates x)) && isS In false (enS false (Box.Line x)) && isS Out false (enS false (Box.Said x)) && (Box.small (Box.mk (Box.Id x) (Box.Ports x) (Box.Reg x) (deS Minder (enS false (Box.Two x))) (deS Wire (enS false (Box.Net x))) (deS Bool (enS false (Box.Gates x))) (deS In (enS false (Box.Line x))) (deS Out (enS false (Box.Said x)))) && decide (List.length (deS Minder (enS false (Box.Two x))) = 2)) then bif decide (who (Box.mk (Box.Id x) (Box.Ports x) (Box.Reg x) (deS Minder (enS false (Box.Two x))) (deS Wire (enS false (Box.Net x))) (deS Bool (enS false (Box.Gates x))) (deS In (enS false (Box.Line x))) (deS Out (enS false (Box.Said x)))) < 0) then some ([[D.int IntKind.i64 (0)]], []) else bif decide (0 ≤ IntKind.wrap IntKind.i64 (1 - who (Box.mk (Box.Id x) (Box.Ports x) (Box.Reg x) (deS Minder (enS false (Box.Two x))) (deS Wire (enS false (Box.Net x))) (deS Bool (enS false (Box.Gates x))) (deS In (enS false (Box.Line x))) (deS Out (enS false (Box.Said x)))))) && decide (IntKind.wrap IntKind.i64 (1 - who (Box.mk (Box.Id x) (Box.Ports x) (Box.Reg x) (deS Minder (enS false (Box.Two x))) (deS Wire (enS false (Box.Net x))) (deS Bool (enS false (Box.Gates x))) (deS In (enS false (Box.Line x))) (deS Out (enS false (Box.Said x))))) < Int.ofNat (List.length (enS false (Box.Two x)))) then bif Leaf.fit false Leaf.bool (List.getD (List.getD (enS false (Box.Two x)) (Int.toNat (IntKind.wrap IntKind.i64 (1 - who (Box.mk (Box.Id x) (Box.Ports x) (Box.Reg x) (deS Minder (enS false (Box.Two x))) (deS Wire (enS false (Box.Net x))) (deS Bool (enS false (Box.Gates x))) (deS In (enS false (Box.Line x))) (deS Out (enS false (Box.Said x))))))) []) 0 D.dead) && (Leaf.fit false (Leaf.int IntKind.i64) (List.getD (List.getD (enS false (Box.Two x)) (Int.toNat (IntKind.wrap IntKind.i64 (1 - who (Box.mk (Box.Id x) (Box.Ports x) (Box.Reg x) (deS Minder (enS false (Box.Two x))) (deS Wire (enS false (Box.Net x))) (deS Bool (enS false (Box.Gates x))) (deS In (enS false (Box.Line x))) (deS Out (enS false (Box.Said x))))))) []) 1 D.dead) && (Leaf.fit false (Leaf.int IntKind.i64) (List.getD (List.getD (enS false (Box.Two x)) (Int.toNat (IntKind.wrap IntKind.i64 (1 - who (Box.mk (Box.Id x) (Box.Ports x) (Box.Reg x) (deS Minder (enS false (Box.Two x))) (deS Wire (enS false (Box.Net x))) (deS Bool (enS false (Box.Gates x))) (deS In (enS false (Box.Line x))) (deS Out (enS false (Box.Said x))))))) []) 2 D.dead) && (Leaf.fit false (Leaf.sl 8 true) (List.getD (List.getD (enS false (Box.Two x)) (Int.toNat (IntKind.wrap IntKind.i64 (1 - who (Box.mk (Box.Id x) (Box.Ports x) (Box.Reg x) (deS Minder (enS false (Box.Two x))) (deS Wire (enS false (Box.Net x))) (deS Bool (enS false (Box.Gates x))) (deS In (enS false (Box.Line x))) (deS Out (enS false (Box.Said x))))))) []) 3 D.dead) && (Leaf.fit false (Leaf.int IntKind.i64) (List.getD (List.getD (enS false (Box.Two x)) (Int.toNat (IntKind.wrap IntKind.i64 (1 - who (Box.mk (Box.Id x) (Box.Ports x) (Box.Reg x) (deS Minder (enS false (Box.Two x))) (deS Wire (enS false (Box.Net x))) (deS Bool (enS false (Box.Gates x))) (deS In (enS false (Box.Line x))) (deS Out (enS false (Box.Said x))))))) []) 4 D.dead) && (Leaf.fit false (Leaf.int IntKind.i64) (List.getD (List.getD (enS false (Box.Two x)) (Int.toNat (IntKind.wrap IntKind.i64 (1 - who (Box.mk (Box.Id x) (Box.Ports x) (Box.Reg x) (deS Minder (enS false (Box.Two x))) (deS Wire (enS false (Box.Net x))) (deS Bool (enS false (Box.Gates x))) (deS In (enS false (Box.Line x))) (deS Out (enS false (Box.Said x))))))) []) 5 D.dead) && (Leaf.fit false (Leaf.int IntKind.i64) (List.getD (List.getD (enS false (Box.Two x)) (Int.toNat (IntKind.wrap IntKind.i64 (1 - who (Box.mk (Box.Id x) (Box.Ports x) (Box.Reg x) (deS Minder (enS false (Box.Two x))) (deS Wire (enS false (Box.Net x))) (deS Bool (enS false (Box.Gates x))) (deS In (enS false (Box.Line x))) (deS Out (enS false (Box.Said x))))))) []) 6 D.dead) && true)))))) then bif !D.flag (List.getD (List.getD (enS false (Box.Two x)) (Int.toNat (IntKind.wrap IntKind.i64 (1 - who (Box.mk (Box.Id x) (Box.Ports x) (Box.Reg x) (deS Minder (enS false (Box.Two x))) (deS Wire (enS false (Box.Net x))) (deS Bool (enS false (Box.Gates x))) (deS In (enS false (Box.Line x))) (deS Out (enS false (Box.Said x))))))) []) 0 D.dead) then bif decide (0 ≤ who (Box.mk (Box.Id x) (Box.Ports x) (Box.Reg x) (deS Minder (enS false (Box.Two x))) (deS Wire (enS false (Box.Net x))) (deS Bool (enS false (Box.Gates x))) (deS In (enS false (Box.Line x))) (deS Out (enS false (Box.Said x))))) && decide (who (Box.mk (Box.Id x) (Box.Ports x) (Box.Reg x) (deS Minder (enS false (Box.Two x))) (deS Wire (enS false (Box.Net x))) (deS Bool (enS false (Box.Gates x))) (deS In (enS false (Box.Line x))) (deS Out (enS false (Box.Said x)))) < Int.ofNat (List.length (enS false (Box.Two x)))) then bif Leaf.fit false (Leaf.sl 8 true) (List.getD (List.drop 3 (List.getD (enS false (Box.Two x)) (Int.toNat (who (Box.mk (Box.Id x) (Box.Ports x) (Box.Reg x) (deS Minder (enS false (Box.Two x))) (deS Wire (enS false (Box.Net x))) (deS Bool (enS false (Box.Gates x))) (deS In (enS false (Box.Line x))) (deS Out (enS false (Box.Said x)))))) [])) 0 D.dead) && true then some ([[D.int IntKind.i64 (Int.ofNat (List.length (D.rows (List.getD (List.drop 3 (List.getD (enS false (Box.Two x)) (Int.toNat (who (Box.mk (Box.Id x) (Box.Ports x) (Box.Reg x) (deS Minder (enS false (Box.Two x))) (deS Wire (enS false (Box.Net x))) (deS Bool (enS false (Box.Gates x))) (deS In (enS false (Box.Line x))) (deS Out (enS false (Box.Said x)))))) [])) 0 D.dead))))]], []) else none else none else bif decide (D.num (List.getD (List.getD (enS false (Box.Two x)) (Int.toNat (IntKind.wrap IntKind.i64 (1 - who (Box.mk (Box.Id x) (Box.Ports x) (Box.Reg x) (deS Minder (enS false (Box.Two x))) (deS Wire (enS false (Box.Net x))) (deS Bool (enS false (Box.Gates x))) (deS In (enS false (Box.Line x))) (deS Out (enS false (Box.Said x))))))) []) 2 D.dead) > 0) then bif decide (0 ≤ who (Box.mk (Box.Id x) (Box.Ports x) (Box.Reg x) (deS Minder (enS false (Box.Two x))) (deS Wire (enS false (Box.Net x))) (deS Bool (enS false (Box.Gates x))) (deS In (enS false (Box.Line x))) (deS Out (enS false (Box.Said x))))) && decide (who (Box.mk (Box.Id x) (Box.Ports x) (Box.Reg x) (deS Minder (enS false (Box.Two x))) (deS Wire (enS false (Box.Net x))) (deS Bool (enS false (Box.Gates x))) (deS In (enS false (Box.Line x))) (deS Out (enS false (Box.Said x)))) < Int.ofNat (List.length (enS false (Box.Two x)))) then bif Leaf.fit false (Leaf.sl 8 true) (List.getD (List.drop 3 (List.getD (enS false (Box.Two x)) (Int.toNat (who (Box.mk (Box.Id x) (Box.Ports x) (Box.Reg x) (deS Minder (enS false (Box.Two x))) (deS Wire (enS false (Box.Net x))) (deS Bool (enS false (Box.Gates x))) (deS In (enS false (Box.Line x))) (deS Out (enS false (Box.Said x)))))) [])) 0 D.dead) && true then some ([[D.int IntKind.i64 (Int.ofNat (List.length (D.rows (List.getD (List.drop 3 (List.getD (enS false (Box.Two x)) (Int.toNat (who (Box.mk (Box.Id x) (Box.Ports x) (Box.Reg x) (deS Minder (enS false (Box.Two x))) (deS Wire (enS false (Box.Net x))) (deS Bool (enS false (Box.Gates x))) (deS In (enS false (Box.Line x))) (deS Out (enS false (Box.Said x)))))) [])) 0 D.dead))))]], []) else none else none else bif decide (0 ≤ who (Box.mk (Box.Id x) (Box.Ports x) (Box.Reg x) (deS Minder (enS false (Box.Two x))) (deS Wire (enS false (Box.Net x))) (deS Bool (enS false (Box.Gates x))) (deS In (enS false (Box.Line x))) (deS Out (enS false (Box.Said x))))) && decide (who (Box.mk (Box.Id x) (Box.Ports x) (Box.Reg x) (deS Minder (enS false (Box.Two x))) (deS Wire (enS false (Box.Net x))) (deS Bool (enS false (Box.Gates x))) (deS In (enS false (Box.Line x))) (deS Out (enS false (Box.Said x)))) < Int.ofNat (List.length (enS false (Box.Two x)))) then bif Leaf.fit false (Leaf.sl 8 true) (List.getD (List.drop 3 (List.getD (enS false (Box.Two x)) (Int.toNat (who (Box.mk (Box.Id x) (Box.Ports x) (Box.Reg x) (deS Minder (enS false (Box.Two x))) (deS Wire (enS false (Box.Net x))) (deS Bool (enS false (Box.Gates x))) (deS In (enS false (Box.Line x))) (deS Out (enS false (Box.Said x)))))) [])) 0 D.dead) && true then some ([[D.int IntKind.i64 (maxI (IntKind.wrap IntKind.i64 (Int.ofNat (List.length (D.rows (List.getD (List.drop 3 (List.getD (enS false (Box.Two x)) (Int.toNat (who (Box.mk (Box.Id x) (Box.Ports x) (Box.Reg x) (deS Minder (enS false (Box.Two x))) (deS Wire (enS false (Box.Net x))) (deS Bool (enS false (Box.Gates x))) (deS In (enS false (Box.Line x))) (deS Out (enS false (Box.Said x)))))) [])) 0 D.dead))) - Int.ofNat (List.length (D.rows (List.getD (List.getD (enS false (Box.Two x)) (Int.toNat (IntKind.wrap IntKind.i64 (1 - who (Box.mk (Box.Id x) (Box.Ports x) (Box.Reg x) (deS Minder (enS false (Box.Two x))) (deS Wire (enS false (Box.Net x))) (deS Bool (enS false (Box.Gates x))) (deS In (enS false (Box.Line x))) (deS Out (enS false (Box.Said x))))))) []) 3 D.dead))))) (0))]], []) else none else none else none else none else none else some ([[D.int IntKind.i64 (0)]], []) else none := by kernel_rfl
theorem m13 (x : Box) (hpre : (o13 x).1 = true) : evFn ⟨Go.Proofs.Try.prog, Hx, 13⟩ T14.call 0 Go.Proofs.Try.f13 [[.int .i64 x.Id, .int .i64 x.Ports, .int .i64 x.Reg.Epoch, .int .i64 x.Reg.Owner, .int .i64 x.Reg.Pair, .sl false 7 (enS false x.Two), .sl false 12 (enS false x.Net), .sl false 1 (enS false x.Gates), .sl false 8 (enS false x.Line), .sl false 8 (enS false x.Said)]] = some (o13 x).2 := by
  refine (r13 x _).trans ?_
  show _ = (some ([[.int .i64 (behind x)]], []) : Option (List Row × List Row))
  replace hpre : (Box.small x) = true := hpre
  obtain ⟨hs1, hs2, hs3, hs4, hs5, hs6⟩ := box_small hpre
  simp only [cond_true, cond_false, Bool.and_true, Bool.true_and, Bool.and_self, Bool.not_true, Bool.not_false, isS_enS, deS_enS, lendRows_enS, deepRows_enS, enS_length, toNat_of, decide_true, decide_false, sameB_self, dec_ge, TReader.eta, Frame.eta, Heard.eta, Member.eta, Card.eta, Out1.eta, Vec.eta, Port.eta, Bridge.eta, In.eta, Out.eta, Link.eta, Net.eta, TEnd.eta, Minder.eta, Reg.eta, Wire.eta, Box.eta, Deed.eta, Bpdu.eta, Visit.eta, Fabric.eta, Got.eta, TRide.eta, Up.eta, Copy.eta, Bucket.eta, Snap.eta, TL9Cur.eta, TL21In.eta, hpre]
  unfold behind
  cases hb : boxOk x
  · rfl
  have hwb := who_b hb
  have h2 := two_of hb
  have hd2 : decide (x.Two.length = 2) = true := decide_eq_true h2
  simp only [hd2, Bool.not_true, Bool.and_self, cond_true, cond_false]
  generalize who x = w at hwb ⊢
  by_cases hn : w < 0
  · simp only [decide_eq_true hn, cond_true]
  obtain ⟨k, rfl⟩ := Int.eq_ofNat_of_zero_le (show 0 ≤ w by omega)
  have hk : k < x.Two.length := by omega
  have hl := hs2 _ (List.getElem_mem hk)
  have e0 : decide ((k : Int) < 0) = false := decide_eq_false hn
  have e1 : decide (0 ≤ (k : Int)) = true := decide_eq_true (by omega)
  have e2 : decide ((k : Int) < Int.ofNat x.Two.length) = true := decide_eq_true (by show (k : Int) < (x.Two.length : Int); omega)
  have hg := enS_get (α := Minder) false hk
  have hs : sel x (k : Int) = x.Two[k] := sel_nat x k hk
  obtain ⟨j, hj⟩ : ∃ j : Nat, 1 - (k : Int) = (j : Int) := Int.eq_ofNat_of_zero_le (by omega)
  have hjw : IntKind.wrap IntKind.i64 (j : Int) = (j : Int) := wrap_sm (by omega) (by omega)
  have hj2 : j < x.Two.length := by omega
  have hlj := hs2 _ (List.getElem_mem hj2)
  have f1 : decide (0 ≤ (j : Int)) = true := decide_eq_true (by omega)
  have f2 : decide ((j : Int) < Int.ofNat x.Two.length) = true := decide_eq_true (by show (j : Int) < (x.Two.length : Int); omega)
  have fg := enS_get (α := Minder) false hj2
  have fs : sel x (j : Int) = x.Two[j] := sel_nat x j hj2
  have he := ok_two hb hj2
  have hw3 : IntKind.wrap IntKind.i64 (Int.ofNat x.Two[k].Log.length - Int.ofNat x.Two[j].Log.length) = (x.Two[k].Log.length : Int) - (x.Two[j].Log.length : Int) := wrap_sm (by show _ ≤ (x.Two[k].Log.length : Int) - (x.Two[j].Log.length : Int); omega) (by show (x.Two[k].Log.length : Int) - (x.Two[j].Log.length : Int) ≤ _; omega)
  have hep : (decide (x.Two[j].Epoch > 0)) = !(x.Two[j].Epoch == 0) := by
    rw [Bool.eq_iff_iff]
    simp
    omega
  have hne : (x.Two[j].Epoch != 0) = !(x.Two[j].Epoch == 0) := rfl
  simp only [enS_length, toNat_of, dec_lt, dec_ge, decide_true, decide_false, cond_true, cond_false, Bool.and_self, Bool.and_true, Bool.true_and, Bool.not_true, Bool.not_false, Nat.lt_irrefl, Nat.zero_add, isS_enS, deS_enS, isS_nil, deS_nil, List.nil_append, lendRows_enS, deepRows_enS, noSl_u8, En.enc, List.getD_cons_zero, List.getD_cons_succ, D.num, D.flag, D.text, D.rows, Leaf.fit, List.append_eq, TReader.eta, Frame.eta, Heard.eta, Member.eta, Card.eta, Out1.eta, Vec.eta, Port.eta, Bridge.eta, In.eta, Out.eta, Link.eta, Net.eta, TEnd.eta, Minder.eta, Reg.eta, Wire.eta, Box.eta, Deed.eta, Bpdu.eta, Visit.eta, Fabric.eta, Got.eta, TRide.eta, Up.eta, Copy.eta, Bucket.eta, Snap.eta, TL9Cur.eta, TL21In.eta, hj, hjw, e0, e1, e2, f1, f2, Int.toNat_natCast, hg, hs, fg, fs, List.drop_succ_cons, List.drop_zero, hw3, hep, hne, beq_self_eq_true, hpre]
  cases x.Two[j].Up <;> cases (x.Two[j].Epoch == 0) <;> rfl
theorem s13 : SoundAt Go.Proofs.Try.prog Hx 13 c13 := soundAt_of T14_sound mixed Go.Proofs.Try.func13 (by kernel_rfl) (by
  intro rows r h
  unfold c13 at h
  split at h
  · rename_i x_Id x_Ports x_Reg_Epoch x_Reg_Owner x_Reg_Pair x_Two x_Net x_Gates x_Line x_Said
    obtain ⟨hp, hr⟩ := Prod.mk.inj (Option.some.inj h)
    subst hr
    simp only [Bool.and_eq_true] at hp
    obtain ⟨⟨⟨⟨⟨hs0, hs1⟩, hs2⟩, hs3⟩, hs4⟩, hp⟩ := hp
    obtain ⟨xs0, rfl⟩ := isS_ex hs0
    obtain ⟨xs1, rfl⟩ := isS_ex hs1
    obtain ⟨xs2, rfl⟩ := isS_ex hs2
    obtain ⟨xs3, rfl⟩ := isS_ex hs3
    obtain ⟨xs4, rfl⟩ := isS_ex hs4
    simp only [deS_enS] at hp ⊢
    exact ⟨_, m13 ⟨x_Id, x_Ports, ⟨x_Reg_Epoch, x_Reg_Owner, x_Reg_Pair⟩, xs0, xs1, xs2, xs3, xs4⟩ hp⟩
  · cases h)
def T13 : Table := (13, c13) :: T14
theorem T13_sound : Table.Sound Go.Proofs.Try.prog Hx T13 := Table.sound_cons s13 T14_sound
/- boxheir -/
def o119 (x : Box) : Bool × List Row × List Row := (Box.small x && boxOk x, [[.bool (heirB x)]], [])
def c119 : Contract
  | [[.int .i64 x_Id, .int .i64 x_Ports, .int .i64 x_Reg_Epoch, .int .i64 x_Reg_Owner, .int .i64 x_Reg_Pair, .sl false 7 x_Two, .sl false 12 x_Net, .sl false 1 x_Gates, .sl false 8 x_Line, .sl false 8 x_Said]] => some (isS Minder false x_Two && isS Wire false x_Net && isS Bool false x_Gates && isS In false x_Line && isS Out false x_Said && (o119 ⟨x_Id, x_Ports, ⟨x_Reg_Epoch, x_Reg_Owner, x_Reg_Pair⟩, (deS Minder x_Two), (deS Wire x_Net), (deS Bool x_Gates), (deS In x_Line), (deS Out x_Said)⟩).1, (o119 ⟨x_Id, x_Ports, ⟨x_Reg_Epoch, x_Reg_Owner, x_Reg_Pair⟩, (deS Minder x_Two), (deS Wire x_Net), (deS Bool x_Gates), (deS In x_Line), (deS Out x_Said)⟩).2.1, (o119 ⟨x_Id, x_Ports, ⟨x_Reg_Epoch, x_Reg_Owner, x_Reg_Pair⟩, (deS Minder x_Two), (deS Wire x_Net), (deS Bool x_Gates), (deS In x_Line), (deS Out x_Said)⟩).2.2)
  | _ => none

theorem r119 (x : Box) (n : Nat) : evFn ⟨Go.Proofs.Try.prog, Hx, 119⟩ T13.call n Go.Proofs.Try.f119 [[.int .i64 x.Id, .int .i64 x.Ports, .int .i64 x.Reg.Epoch, .int .i64 x.Reg.Owner, .int .i64 x.Reg.Pair, .sl false 7 (enS false x.Two), .sl false 12 (enS false x.Net), .sl false 1 (enS false x.Gates), .sl false 8 (enS false x.Line), .sl false 8 (enS false x.Said)]] = bif decide (0 ≤ IntKind.wrap IntKind.i64 (1 - Reg.Owner (Box.Reg x))) && decide (IntKind.wrap IntKind.i64 (1 - Reg.Owner (Box.Reg x)) < Int.ofNat (List.length (enS false (Box.Two x)))) then bif Leaf.fit false Leaf.bool (List.getD (List.getD (enS false (Box.Two x)) (Int.toNat (IntKind.wrap IntKind.i64 (1 - Reg.Owner (Box.Reg x)))) []) 0 D.dead) && (Leaf.fit false (Leaf.int IntKind.i64) (List.getD (List.getD (enS false (Box.Two x)) (Int.toNat (IntKind.wrap IntKind.i64 (1 - Reg.Owner (Box.Reg x)))) []) 1 D.dead) && (Leaf.fit false (Leaf.int IntKind.i64) (List.getD (List.getD (enS false (Box.Two x)) (Int.toNat (IntKind.wrap IntKind.i64 (1 - Reg.Owner (Box.Reg x)))) []) 2 D.dead) && (Leaf.fit false (Leaf.sl 8 true) (List.getD (List.getD (enS false (Box.Two x)) (Int.toNat (IntKind.wrap IntKind.i64 (1 - Reg.Owner (Box.Reg x)))) []) 3 D.dead) && (Leaf.fit false (Leaf.int IntKind.i64) (List.getD (List.getD (enS false (Box.Two x)) (Int.toNat (IntKind.wrap IntKind.i64 (1 - Reg.Owner (Box.Reg x)))) []) 4 D.dead) && (Leaf.fit false (Leaf.int IntKind.i64) (List.getD (List.getD (enS false (Box.Two x)) (Int.toNat (IntKind.wrap IntKind.i64 (1 - Reg.Owner (Box.Reg x)))) []) 5 D.dead) && (Leaf.fit false (Leaf.int IntKind.i64) (List.getD (List.getD (enS false (Box.Two x)) (Int.toNat (IntKind.wrap IntKind.i64 (1 - Reg.Owner (Box.Reg x)))) []) 6 D.dead) && true)))))) then bif D.flag (List.getD (List.getD (enS false (Box.Two x)) (Int.toNat (IntKind.wrap IntKind.i64 (1 - Reg.Owner (Box.Reg x)))) []) 0 D.dead) then bif decide (D.num (List.getD (List.getD (enS false (Box.Two x)) (Int.toNat (IntKind.wrap IntKind.i64 (1 - Reg.Owner (Box.Reg x)))) []) 1 D.dead) > 0) then bif D.num (List.getD (List.getD (enS false (Box.Two x)) (Int.toNat (IntKind.wrap IntKind.i64 (1 - Reg.Owner (Box.Reg x)))) []) 1 D.dead) == Reg.Pair (Box.Reg x) then some ([[D.bool (D.num (List.getD (List.getD (enS false (Box.Two x)) (Int.toNat (IntKind.wrap IntKind.i64 (1 - Reg.Owner (Box.Reg x)))) []) 2 D.dead) == 0)]], []) else some ([[D.bool false]], []) else some ([[D.bool false]], []) else some ([[D.bool false]], []) else none else none := by kernel_rfl
theorem m119 (x : Box) (hpre : (o119 x).1 = true) : evFn ⟨Go.Proofs.Try.prog, Hx, 119⟩ T13.call 0 Go.Proofs.Try.f119 [[.int .i64 x.Id, .int .i64 x.Ports, .int .i64 x.Reg.Epoch, .int .i64 x.Reg.Owner, .int .i64 x.Reg.Pair, .sl false 7 (enS false x.Two), .sl false 12 (enS false x.Net), .sl false 1 (enS false x.Gates), .sl false 8 (enS false x.Line), .sl false 8 (enS false x.Said)]] = some (o119 x).2 := by
  refine (r119 x _).trans ?_
  show _ = (some ([[.bool (heirB x)]], []) : Option (List Row × List Row))
  replace hpre : (Box.small x && boxOk x) = true := hpre
  simp only [Bool.and_eq_true] at hpre
  obtain ⟨hsm, hb⟩ := hpre
  unfold heirB
  obtain ⟨j, hj⟩ : ∃ j : Nat, 1 - x.Reg.Owner = (j : Int) := Int.eq_ofNat_of_zero_le (by have := ok_own hb; omega)
  have h2 := two_of hb
  have ho := ok_own hb
  have hjw : IntKind.wrap IntKind.i64 (j : Int) = (j : Int) := wrap_sm (by omega) (by omega)
  have hj2 : j < x.Two.length := by omega
  have f1 : decide (0 ≤ (j : Int)) = true := decide_eq_true (by omega)
  have f2 : decide ((j : Int) < Int.ofNat x.Two.length) = true := decide_eq_true (by show (j : Int) < (x.Two.length : Int); omega)
  have fg := enS_get (α := Minder) false hj2
  have fs : sel x (j : Int) = x.Two[j] := sel_nat x j hj2
  simp only [enS_length, toNat_of, dec_lt, dec_ge, decide_true, decide_false, cond_true, cond_false, Bool.and_self, Bool.and_true, Bool.true_and, Bool.not_true, Bool.not_false, Nat.lt_irrefl, Nat.zero_add, isS_enS, deS_enS, isS_nil, deS_nil, List.nil_append, lendRows_enS, deepRows_enS, noSl_u8, En.enc, List.getD_cons_zero, List.getD_cons_succ, D.num, D.flag, D.text, D.rows, Leaf.fit, List.append_eq, TReader.eta, Frame.eta, Heard.eta, Member.eta, Card.eta, Out1.eta, Vec.eta, Port.eta, Bridge.eta, In.eta, Out.eta, Link.eta, Net.eta, TEnd.eta, Minder.eta, Reg.eta, Wire.eta, Box.eta, Deed.eta, Bpdu.eta, Visit.eta, Fabric.eta, Got.eta, TRide.eta, Up.eta, Copy.eta, Bucket.eta, Snap.eta, TL9Cur.eta, TL21In.eta, hj, hjw, f1, f2, Int.toNat_natCast, fg, fs, beq_self_eq_true]
  cases x.Two[j].Up
  · rfl
  cases decide (x.Two[j].Life > 0)
  · rfl
  cases (x.Two[j].Life == x.Reg.Pair) <;> rfl
theorem s119 : SoundAt Go.Proofs.Try.prog Hx 119 c119 := soundAt_of T13_sound mixed Go.Proofs.Try.func119 (by kernel_rfl) (by
  intro rows r h
  unfold c119 at h
  split at h
  · rename_i x_Id x_Ports x_Reg_Epoch x_Reg_Owner x_Reg_Pair x_Two x_Net x_Gates x_Line x_Said
    obtain ⟨hp, hr⟩ := Prod.mk.inj (Option.some.inj h)
    subst hr
    simp only [Bool.and_eq_true] at hp
    obtain ⟨⟨⟨⟨⟨hs0, hs1⟩, hs2⟩, hs3⟩, hs4⟩, hp⟩ := hp
    obtain ⟨xs0, rfl⟩ := isS_ex hs0
    obtain ⟨xs1, rfl⟩ := isS_ex hs1
    obtain ⟨xs2, rfl⟩ := isS_ex hs2
    obtain ⟨xs3, rfl⟩ := isS_ex hs3
    obtain ⟨xs4, rfl⟩ := isS_ex hs4
    simp only [deS_enS] at hp ⊢
    exact ⟨_, m119 ⟨x_Id, x_Ports, ⟨x_Reg_Epoch, x_Reg_Owner, x_Reg_Pair⟩, xs0, xs1, xs2, xs3, xs4⟩ hp⟩
  · cases h)
def T119 : Table := (119, c119) :: T13
theorem T119_sound : Table.Sound Go.Proofs.Try.prog Hx T119 := Table.sound_cons s119 T13_sound
/- Heir -/
def o74 (x : Box) : Bool × List Row × List Row := (Box.small x, [[.bool (heir x)]], [])
def c74 : Contract
  | [[.int .i64 x_Id, .int .i64 x_Ports, .int .i64 x_Reg_Epoch, .int .i64 x_Reg_Owner, .int .i64 x_Reg_Pair, .sl false 7 x_Two, .sl false 12 x_Net, .sl false 1 x_Gates, .sl false 8 x_Line, .sl false 8 x_Said]] => some (isS Minder false x_Two && isS Wire false x_Net && isS Bool false x_Gates && isS In false x_Line && isS Out false x_Said && (o74 ⟨x_Id, x_Ports, ⟨x_Reg_Epoch, x_Reg_Owner, x_Reg_Pair⟩, (deS Minder x_Two), (deS Wire x_Net), (deS Bool x_Gates), (deS In x_Line), (deS Out x_Said)⟩).1, (o74 ⟨x_Id, x_Ports, ⟨x_Reg_Epoch, x_Reg_Owner, x_Reg_Pair⟩, (deS Minder x_Two), (deS Wire x_Net), (deS Bool x_Gates), (deS In x_Line), (deS Out x_Said)⟩).2.1, (o74 ⟨x_Id, x_Ports, ⟨x_Reg_Epoch, x_Reg_Owner, x_Reg_Pair⟩, (deS Minder x_Two), (deS Wire x_Net), (deS Bool x_Gates), (deS In x_Line), (deS Out x_Said)⟩).2.2)
  | _ => none

theorem r74 (x : Box) (n : Nat) : evFn ⟨Go.Proofs.Try.prog, Hx, 74⟩ T119.call n Go.Proofs.Try.f74 [[.int .i64 x.Id, .int .i64 x.Ports, .int .i64 x.Reg.Epoch, .int .i64 x.Reg.Owner, .int .i64 x.Reg.Pair, .sl false 7 (enS false x.Two), .sl false 12 (enS false x.Net), .sl false 1 (enS false x.Gates), .sl false 8 (enS false x.Line), .sl false 8 (enS false x.Said)]] = bif isS Minder false (enS false (Box.Two x)) && isS Wire false (enS false (Box.Net x)) && isS Bool false (enS false (Box.Gates x)) && isS In false (enS false (Box.Line x)) && isS Out false (enS false (Box.Said x)) && Box.small (Box.mk (Box.Id x) (Box.Ports x) (Box.Reg x) (deS Minder (enS false (Box.Two x))) (deS Wire (enS false (Box.Net x))) (deS Bool (enS false (Box.Gates x))) (deS In (enS false (Box.Line x))) (deS Out (enS false (Box.Said x)))) then bif boxOk (Box.mk (Box.Id x) (Box.Ports x) (Box.Reg x) (deS Minder (enS false (Box.Two x))) (deS Wire (enS false (Box.Net x))) (deS Bool (enS false (Box.Gates x))) (deS In (enS false (Box.Line x))) (deS Out (enS false (Box.Said x)))) then bif isS Minder false (lendRows (enS false (Box.Two x))) && isS Wire false (lendRows (enS false (Box.Net x))) && isS Bool false (lendRows (enS false (Box.Gates x))) && isS In false (lendRows (enS false (Box.Line x))) && isS Out false (lendRows (enS false (Box.Said x))) && (Box.small (Box.mk (Box.Id x) (Box.Ports x) (Box.Reg x) (deS Minder (lendRows (enS false (Box.Two x)))) (deS Wire (lendRows (enS false (Box.Net x)))) (deS Bool (lendRows (enS false (Box.Gates x)))) (deS In (lendRows (enS false (Box.Line x)))) (deS Out (lendRows (enS false (Box.Said x))))) && boxOk (Box.mk (Box.Id x) (Box.Ports x) (Box.Reg x) (deS Minder (lendRows (enS false (Box.Two x)))) (deS Wire (lendRows (enS false (Box.Net x)))) (deS Bool (lendRows (enS false (Box.Gates x)))) (deS In (lendRows (enS false (Box.Line x)))) (deS Out (lendRows (enS false (Box.Said x)))))) then some ([[D.bool (heirB (Box.mk (Box.Id x) (Box.Ports x) (Box.Reg x) (deS Minder (lendRows (enS false (Box.Two x)))) (deS Wire (lendRows (enS false (Box.Net x)))) (deS Bool (lendRows (enS false (Box.Gates x)))) (deS In (lendRows (enS false (Box.Line x)))) (deS Out (lendRows (enS false (Box.Said x))))))]], []) else none else some ([[D.bool false]], []) else none := by kernel_rfl
theorem m74 (x : Box) (hpre : (o74 x).1 = true) : evFn ⟨Go.Proofs.Try.prog, Hx, 74⟩ T119.call 0 Go.Proofs.Try.f74 [[.int .i64 x.Id, .int .i64 x.Ports, .int .i64 x.Reg.Epoch, .int .i64 x.Reg.Owner, .int .i64 x.Reg.Pair, .sl false 7 (enS false x.Two), .sl false 12 (enS false x.Net), .sl false 1 (enS false x.Gates), .sl false 8 (enS false x.Line), .sl false 8 (enS false x.Said)]] = some (o74 x).2 := by
  refine (r74 x _).trans ?_
  show _ = (some ([[.bool (heir x)]], []) : Option (List Row × List Row))
  replace hpre : (Box.small x) = true := hpre
  simp only [cond_true, cond_false, Bool.and_true, Bool.true_and, Bool.and_self, Bool.not_true, Bool.not_false, isS_enS, deS_enS, lendRows_enS, deepRows_enS, enS_length, toNat_of, decide_true, decide_false, sameB_self, dec_ge, TReader.eta, Frame.eta, Heard.eta, Member.eta, Card.eta, Out1.eta, Vec.eta, Port.eta, Bridge.eta, In.eta, Out.eta, Link.eta, Net.eta, TEnd.eta, Minder.eta, Reg.eta, Wire.eta, Box.eta, Deed.eta, Bpdu.eta, Visit.eta, Fabric.eta, Got.eta, TRide.eta, Up.eta, Copy.eta, Bucket.eta, Snap.eta, TL9Cur.eta, TL21In.eta, hpre]
  unfold heir
  cases hb : boxOk x
  · rfl
  simp only [enS_length, toNat_of, dec_lt, dec_ge, decide_true, decide_false, cond_true, cond_false, Bool.and_self, Bool.and_true, Bool.true_and, Bool.not_true, Bool.not_false, Nat.lt_irrefl, Nat.zero_add, isS_enS, deS_enS, isS_nil, deS_nil, List.nil_append, lendRows_enS, deepRows_enS, noSl_u8, En.enc, List.getD_cons_zero, List.getD_cons_succ, D.num, D.flag, D.text, D.rows, Leaf.fit, List.append_eq, TReader.eta, Frame.eta, Heard.eta, Member.eta, Card.eta, Out1.eta, Vec.eta, Port.eta, Bridge.eta, In.eta, Out.eta, Link.eta, Net.eta, TEnd.eta, Minder.eta, Reg.eta, Wire.eta, Box.eta, Deed.eta, Bpdu.eta, Visit.eta, Fabric.eta, Got.eta, TRide.eta, Up.eta, Copy.eta, Bucket.eta, Snap.eta, TL9Cur.eta, TL21In.eta, hpre, hb]
theorem s74 : SoundAt Go.Proofs.Try.prog Hx 74 c74 := soundAt_of T119_sound mixed Go.Proofs.Try.func74 (by kernel_rfl) (by
  intro rows r h
  unfold c74 at h
  split at h
  · rename_i x_Id x_Ports x_Reg_Epoch x_Reg_Owner x_Reg_Pair x_Two x_Net x_Gates x_Line x_Said
    obtain ⟨hp, hr⟩ := Prod.mk.inj (Option.some.inj h)
    subst hr
    simp only [Bool.and_eq_true] at hp
    obtain ⟨⟨⟨⟨⟨hs0, hs1⟩, hs2⟩, hs3⟩, hs4⟩, hp⟩ := hp
    obtain ⟨xs0, rfl⟩ := isS_ex hs0
    obtain ⟨xs1, rfl⟩ := isS_ex hs1
    obtain ⟨xs2, rfl⟩ := isS_ex hs2
    obtain ⟨xs3, rfl⟩ := isS_ex hs3
    obtain ⟨xs4, rfl⟩ := isS_ex hs4
    simp only [deS_enS] at hp ⊢
    exact ⟨_, m74 ⟨x_Id, x_Ports, ⟨x_Reg_Epoch, x_Reg_Owner, x_Reg_Pair⟩, xs0, xs1, xs2, xs3, xs4⟩ hp⟩
  · cases h)
def T74 : Table := (74, c74) :: T119
theorem T74_sound : Table.Sound Go.Proofs.Try.prog Hx T74 := Table.sound_cons s74 T119_sound
/- HeirS -/
def o73 (x : Box) : Bool × List Row × List Row := (Box.small x, [[.bool (heir x)]], [])
def c73 : Contract
  | [[.int .i64 x_Id, .int .i64 x_Ports, .int .i64 x_Reg_Epoch, .int .i64 x_Reg_Owner, .int .i64 x_Reg_Pair, .sl false 7 x_Two, .sl false 12 x_Net, .sl false 1 x_Gates, .sl false 8 x_Line, .sl false 8 x_Said]] => some (isS Minder false x_Two && isS Wire false x_Net && isS Bool false x_Gates && isS In false x_Line && isS Out false x_Said && (o73 ⟨x_Id, x_Ports, ⟨x_Reg_Epoch, x_Reg_Owner, x_Reg_Pair⟩, (deS Minder x_Two), (deS Wire x_Net), (deS Bool x_Gates), (deS In x_Line), (deS Out x_Said)⟩).1, (o73 ⟨x_Id, x_Ports, ⟨x_Reg_Epoch, x_Reg_Owner, x_Reg_Pair⟩, (deS Minder x_Two), (deS Wire x_Net), (deS Bool x_Gates), (deS In x_Line), (deS Out x_Said)⟩).2.1, (o73 ⟨x_Id, x_Ports, ⟨x_Reg_Epoch, x_Reg_Owner, x_Reg_Pair⟩, (deS Minder x_Two), (deS Wire x_Net), (deS Bool x_Gates), (deS In x_Line), (deS Out x_Said)⟩).2.2)
  | _ => none

theorem r73 (x : Box) (n : Nat) : evFn ⟨Go.Proofs.Try.prog, Hx, 73⟩ T74.call n Go.Proofs.Try.f73 [[.int .i64 x.Id, .int .i64 x.Ports, .int .i64 x.Reg.Epoch, .int .i64 x.Reg.Owner, .int .i64 x.Reg.Pair, .sl false 7 (enS false x.Two), .sl false 12 (enS false x.Net), .sl false 1 (enS false x.Gates), .sl false 8 (enS false x.Line), .sl false 8 (enS false x.Said)]] = bif isS Minder false (enS false (Box.Two x)) && isS Wire false (enS false (Box.Net x)) && isS Bool false (enS false (Box.Gates x)) && isS In false (enS false (Box.Line x)) && isS Out false (enS false (Box.Said x)) && Box.small (Box.mk (Box.Id x) (Box.Ports x) (Box.Reg x) (deS Minder (enS false (Box.Two x))) (deS Wire (enS false (Box.Net x))) (deS Bool (enS false (Box.Gates x))) (deS In (enS false (Box.Line x))) (deS Out (enS false (Box.Said x)))) then bif !boxOk (Box.mk (Box.Id x) (Box.Ports x) (Box.Reg x) (deS Minder (enS false (Box.Two x))) (deS Wire (enS false (Box.Net x))) (deS Bool (enS false (Box.Gates x))) (deS In (enS false (Box.Line x))) (deS Out (enS false (Box.Said x)))) then some ([[D.bool false]], []) else bif decide (0 ≤ IntKind.wrap IntKind.i64 (1 - Reg.Owner (Box.Reg x))) && decide (IntKind.wrap IntKind.i64 (1 - Reg.Owner (Box.Reg x)) < Int.ofNat (List.length (enS false (Box.Two x)))) then bif Leaf.fit false Leaf.bool (List.getD (List.getD (enS false (Box.Two x)) (Int.toNat (IntKind.wrap IntKind.i64 (1 - Reg.Owner (Box.Reg x)))) []) 0 D.dead) && (Leaf.fit false (Leaf.int IntKind.i64) (List.getD (List.getD (enS false (Box.Two x)) (Int.toNat (IntKind.wrap IntKind.i64 (1 - Reg.Owner (Box.Reg x)))) []) 1 D.dead) && (Leaf.fit false (Leaf.int IntKind.i64) (List.getD (List.getD (enS false (Box.Two x)) (Int.toNat (IntKind.wrap IntKind.i64 (1 - Reg.Owner (Box.Reg x)))) []) 2 D.dead) && (Leaf.fit false (Leaf.sl 8 true) (List.getD (List.getD (enS false (Box.Two x)) (Int.toNat (IntKind.wrap IntKind.i64 (1 - Reg.Owner (Box.Reg x)))) []) 3 D.dead) && (Leaf.fit false (Leaf.int IntKind.i64) (List.getD (List.getD (enS false (Box.Two x)) (Int.toNat (IntKind.wrap IntKind.i64 (1 - Reg.Owner (Box.Reg x)))) []) 4 D.dead) && (Leaf.fit false (Leaf.int IntKind.i64) (List.getD (List.getD (enS false (Box.Two x)) (Int.toNat (IntKind.wrap IntKind.i64 (1 - Reg.Owner (Box.Reg x)))) []) 5 D.dead) && (Leaf.fit false (Leaf.int IntKind.i64) (List.getD (List.getD (enS false (Box.Two x)) (Int.toNat (IntKind.wrap IntKind.i64 (1 - Reg.Owner (Box.Reg x)))) []) 6 D.dead) && true)))))) then bif D.flag (List.getD (List.getD (enS false (Box.Two x)) (Int.toNat (IntKind.wrap IntKind.i64 (1 - Reg.Owner (Box.Reg x)))) []) 0 D.dead) then bif decide (D.num (List.getD (List.getD (enS false (Box.Two x)) (Int.toNat (IntKind.wrap IntKind.i64 (1 - Reg.Owner (Box.Reg x)))) []) 1 D.dead) > 0) then bif D.num (List.getD (List.getD (enS false (Box.Two x)) (Int.toNat (IntKind.wrap IntKind.i64 (1 - Reg.Owner (Box.Reg x)))) []) 1 D.dead) == Reg.Pair (Box.Reg x) then some ([[D.bool (D.num (List.getD (List.getD (enS false (Box.Two x)) (Int.toNat (IntKind.wrap IntKind.i64 (1 - Reg.Owner (Box.Reg x)))) []) 2 D.dead) == 0)]], []) else some ([[D.bool false]], []) else some ([[D.bool false]], []) else some ([[D.bool false]], []) else none else none else none := by kernel_rfl
theorem m73 (x : Box) (hpre : (o73 x).1 = true) : evFn ⟨Go.Proofs.Try.prog, Hx, 73⟩ T74.call 0 Go.Proofs.Try.f73 [[.int .i64 x.Id, .int .i64 x.Ports, .int .i64 x.Reg.Epoch, .int .i64 x.Reg.Owner, .int .i64 x.Reg.Pair, .sl false 7 (enS false x.Two), .sl false 12 (enS false x.Net), .sl false 1 (enS false x.Gates), .sl false 8 (enS false x.Line), .sl false 8 (enS false x.Said)]] = some (o73 x).2 := by
  refine (r73 x _).trans ?_
  show _ = (some ([[.bool (heir x)]], []) : Option (List Row × List Row))
  replace hpre : (Box.small x) = true := hpre
  simp only [cond_true, cond_false, Bool.and_true, Bool.true_and, Bool.and_self, Bool.not_true, Bool.not_false, isS_enS, deS_enS, lendRows_enS, deepRows_enS, enS_length, toNat_of, decide_true, decide_false, sameB_self, dec_ge, TReader.eta, Frame.eta, Heard.eta, Member.eta, Card.eta, Out1.eta, Vec.eta, Port.eta, Bridge.eta, In.eta, Out.eta, Link.eta, Net.eta, TEnd.eta, Minder.eta, Reg.eta, Wire.eta, Box.eta, Deed.eta, Bpdu.eta, Visit.eta, Fabric.eta, Got.eta, TRide.eta, Up.eta, Copy.eta, Bucket.eta, Snap.eta, TL9Cur.eta, TL21In.eta, hpre]
  unfold heir heirB
  cases hb : boxOk x
  · rfl
  simp only [Bool.not_true, cond_false, Bool.true_and]
  obtain ⟨j, hj⟩ : ∃ j : Nat, 1 - x.Reg.Owner = (j : Int) := Int.eq_ofNat_of_zero_le (by have := ok_own hb; omega)
  have h2 := two_of hb
  have ho := ok_own hb
  have hjw : IntKind.wrap IntKind.i64 (j : Int) = (j : Int) := wrap_sm (by omega) (by omega)
  have hj2 : j < x.Two.length := by omega
  have f1 : decide (0 ≤ (j : Int)) = true := decide_eq_true (by omega)
  have f2 : decide ((j : Int) < Int.ofNat x.Two.length) = true := decide_eq_true (by show (j : Int) < (x.Two.length : Int); omega)
  have fg := enS_get (α := Minder) false hj2
  have fs : sel x (j : Int) = x.Two[j] := sel_nat x j hj2
  simp only [enS_length, toNat_of, dec_lt, dec_ge, decide_true, decide_false, cond_true, cond_false, Bool.and_self, Bool.and_true, Bool.true_and, Bool.not_true, Bool.not_false, Nat.lt_irrefl, Nat.zero_add, isS_enS, deS_enS, isS_nil, deS_nil, List.nil_append, lendRows_enS, deepRows_enS, noSl_u8, En.enc, List.getD_cons_zero, List.getD_cons_succ, D.num, D.flag, D.text, D.rows, Leaf.fit, List.append_eq, TReader.eta, Frame.eta, Heard.eta, Member.eta, Card.eta, Out1.eta, Vec.eta, Port.eta, Bridge.eta, In.eta, Out.eta, Link.eta, Net.eta, TEnd.eta, Minder.eta, Reg.eta, Wire.eta, Box.eta, Deed.eta, Bpdu.eta, Visit.eta, Fabric.eta, Got.eta, TRide.eta, Up.eta, Copy.eta, Bucket.eta, Snap.eta, TL9Cur.eta, TL21In.eta, hj, hjw, f1, f2, Int.toNat_natCast, fg, fs, beq_self_eq_true]
  cases x.Two[j].Up
  · rfl
  cases decide (x.Two[j].Life > 0)
  · rfl
  cases (x.Two[j].Life == x.Reg.Pair) <;> rfl
theorem s73 : SoundAt Go.Proofs.Try.prog Hx 73 c73 := soundAt_of T74_sound mixed Go.Proofs.Try.func73 (by kernel_rfl) (by
  intro rows r h
  unfold c73 at h
  split at h
  · rename_i x_Id x_Ports x_Reg_Epoch x_Reg_Owner x_Reg_Pair x_Two x_Net x_Gates x_Line x_Said
    obtain ⟨hp, hr⟩ := Prod.mk.inj (Option.some.inj h)
    subst hr
    simp only [Bool.and_eq_true] at hp
    obtain ⟨⟨⟨⟨⟨hs0, hs1⟩, hs2⟩, hs3⟩, hs4⟩, hp⟩ := hp
    obtain ⟨xs0, rfl⟩ := isS_ex hs0
    obtain ⟨xs1, rfl⟩ := isS_ex hs1
    obtain ⟨xs2, rfl⟩ := isS_ex hs2
    obtain ⟨xs3, rfl⟩ := isS_ex hs3
    obtain ⟨xs4, rfl⟩ := isS_ex hs4
    simp only [deS_enS] at hp ⊢
    exact ⟨_, m73 ⟨x_Id, x_Ports, ⟨x_Reg_Epoch, x_Reg_Owner, x_Reg_Pair⟩, xs0, xs1, xs2, xs3, xs4⟩ hp⟩
  · cases h)
def T73 : Table := (73, c73) :: T74
theorem T73_sound : Table.Sound Go.Proofs.Try.prog Hx T73 := Table.sound_cons s73 T74_sound
/- Safe -/
def o25 (x : Box) : Bool × List Row × List Row := (Box.small x, [[.bool (safe x)]], [])
def c25 : Contract
  | [[.int .i64 x_Id, .int .i64 x_Ports, .int .i64 x_Reg_Epoch, .int .i64 x_Reg_Owner, .int .i64 x_Reg_Pair, .sl false 7 x_Two, .sl false 12 x_Net, .sl false 1 x_Gates, .sl false 8 x_Line, .sl false 8 x_Said]] => some (isS Minder false x_Two && isS Wire false x_Net && isS Bool false x_Gates && isS In false x_Line && isS Out false x_Said && (o25 ⟨x_Id, x_Ports, ⟨x_Reg_Epoch, x_Reg_Owner, x_Reg_Pair⟩, (deS Minder x_Two), (deS Wire x_Net), (deS Bool x_Gates), (deS In x_Line), (deS Out x_Said)⟩).1, (o25 ⟨x_Id, x_Ports, ⟨x_Reg_Epoch, x_Reg_Owner, x_Reg_Pair⟩, (deS Minder x_Two), (deS Wire x_Net), (deS Bool x_Gates), (deS In x_Line), (deS Out x_Said)⟩).2.1, (o25 ⟨x_Id, x_Ports, ⟨x_Reg_Epoch, x_Reg_Owner, x_Reg_Pair⟩, (deS Minder x_Two), (deS Wire x_Net), (deS Bool x_Gates), (deS In x_Line), (deS Out x_Said)⟩).2.2)
  | _ => none

theorem r25 (x : Box) (n : Nat) : evFn ⟨Go.Proofs.Try.prog, Hx, 25⟩ T73.call n Go.Proofs.Try.f25 [[.int .i64 x.Id, .int .i64 x.Ports, .int .i64 x.Reg.Epoch, .int .i64 x.Reg.Owner, .int .i64 x.Reg.Pair, .sl false 7 (enS false x.Two), .sl false 12 (enS false x.Net), .sl false 1 (enS false x.Gates), .sl false 8 (enS false x.Line), .sl false 8 (enS false x.Said)]] = bif isS Minder false (enS false (Box.Two x)) && isS Wire false (enS false (Box.Net x)) && isS Bool false (enS false (Box.Gates x)) && isS In false (enS false (Box.Line x)) && isS Out false (enS false (Box.Said x)) && Box.small (Box.mk (Box.Id x) (Box.Ports x) (Box.Reg x) (deS Minder (enS false (Box.Two x))) (deS Wire (enS false (Box.Net x))) (deS Bool (enS false (Box.Gates x))) (deS In (enS false (Box.Line x))) (deS Out (enS false (Box.Said x)))) then bif heir (Box.mk (Box.Id x) (Box.Ports x) (Box.Reg x) (deS Minder (enS false (Box.Two x))) (deS Wire (enS false (Box.Net x))) (deS Bool (enS false (Box.Gates x))) (deS In (enS false (Box.Line x))) (deS Out (enS false (Box.Said x)))) then bif isS Minder false (enS false (Box.Two x)) && isS Wire false (enS false (Box.Net x)) && isS Bool false (enS false (Box.Gates x)) && isS In false (enS false (Box.Line x)) && isS Out false (enS false (Box.Said x)) && Box.small (Box.mk (Box.Id x) (Box.Ports x) (Box.Reg x) (deS Minder (enS false (Box.Two x))) (deS Wire (enS false (Box.Net x))) (deS Bool (enS false (Box.Gates x))) (deS In (enS false (Box.Line x))) (deS Out (enS false (Box.Said x)))) then some ([[D.bool (behind (Box.mk (Box.Id x) (Box.Ports x) (Box.Reg x) (deS Minder (enS false (Box.Two x))) (deS Wire (enS false (Box.Net x))) (deS Bool (enS false (Box.Gates x))) (deS In (enS false (Box.Line x))) (deS Out (enS false (Box.Said x)))) == 0)]], []) else none else some ([[D.bool false]], []) else none := by kernel_rfl
theorem m25 (x : Box) (hpre : (o25 x).1 = true) : evFn ⟨Go.Proofs.Try.prog, Hx, 25⟩ T73.call 0 Go.Proofs.Try.f25 [[.int .i64 x.Id, .int .i64 x.Ports, .int .i64 x.Reg.Epoch, .int .i64 x.Reg.Owner, .int .i64 x.Reg.Pair, .sl false 7 (enS false x.Two), .sl false 12 (enS false x.Net), .sl false 1 (enS false x.Gates), .sl false 8 (enS false x.Line), .sl false 8 (enS false x.Said)]] = some (o25 x).2 := by
  refine (r25 x _).trans ?_
  show _ = (some ([[.bool (safe x)]], []) : Option (List Row × List Row))
  replace hpre : (Box.small x) = true := hpre
  simp only [cond_true, cond_false, Bool.and_true, Bool.true_and, Bool.and_self, Bool.not_true, Bool.not_false, isS_enS, deS_enS, lendRows_enS, deepRows_enS, enS_length, toNat_of, decide_true, decide_false, sameB_self, dec_ge, TReader.eta, Frame.eta, Heard.eta, Member.eta, Card.eta, Out1.eta, Vec.eta, Port.eta, Bridge.eta, In.eta, Out.eta, Link.eta, Net.eta, TEnd.eta, Minder.eta, Reg.eta, Wire.eta, Box.eta, Deed.eta, Bpdu.eta, Visit.eta, Fabric.eta, Got.eta, TRide.eta, Up.eta, Copy.eta, Bucket.eta, Snap.eta, TL9Cur.eta, TL21In.eta, hpre]
  unfold safe
  cases heir x <;> rfl
theorem s25 : SoundAt Go.Proofs.Try.prog Hx 25 c25 := soundAt_of T73_sound mixed Go.Proofs.Try.func25 (by kernel_rfl) (by
  intro rows r h
  unfold c25 at h
  split at h
  · rename_i x_Id x_Ports x_Reg_Epoch x_Reg_Owner x_Reg_Pair x_Two x_Net x_Gates x_Line x_Said
    obtain ⟨hp, hr⟩ := Prod.mk.inj (Option.some.inj h)
    subst hr
    simp only [Bool.and_eq_true] at hp
    obtain ⟨⟨⟨⟨⟨hs0, hs1⟩, hs2⟩, hs3⟩, hs4⟩, hp⟩ := hp
    obtain ⟨xs0, rfl⟩ := isS_ex hs0
    obtain ⟨xs1, rfl⟩ := isS_ex hs1
    obtain ⟨xs2, rfl⟩ := isS_ex hs2
    obtain ⟨xs3, rfl⟩ := isS_ex hs3
    obtain ⟨xs4, rfl⟩ := isS_ex hs4
    simp only [deS_enS] at hp ⊢
    exact ⟨_, m25 ⟨x_Id, x_Ports, ⟨x_Reg_Epoch, x_Reg_Owner, x_Reg_Pair⟩, xs0, xs1, xs2, xs3, xs4⟩ hp⟩
  · cases h)
def T25 : Table := (25, c25) :: T73
theorem T25_sound : Table.Sound Go.Proofs.Try.prog Hx T25 := Table.sound_cons s25 T73_sound
/- SafeS -/
def o24 (x : Box) : Bool × List Row × List Row := (Box.small x, [[.bool (safe x)]], [])
def c24 : Contract
  | [[.int .i64 x_Id, .int .i64 x_Ports, .int .i64 x_Reg_Epoch, .int .i64 x_Reg_Owner, .int .i64 x_Reg_Pair, .sl false 7 x_Two, .sl false 12 x_Net, .sl false 1 x_Gates, .sl false 8 x_Line, .sl false 8 x_Said]] => some (isS Minder false x_Two && isS Wire false x_Net && isS Bool false x_Gates && isS In false x_Line && isS Out false x_Said && (o24 ⟨x_Id, x_Ports, ⟨x_Reg_Epoch, x_Reg_Owner, x_Reg_Pair⟩, (deS Minder x_Two), (deS Wire x_Net), (deS Bool x_Gates), (deS In x_Line), (deS Out x_Said)⟩).1, (o24 ⟨x_Id, x_Ports, ⟨x_Reg_Epoch, x_Reg_Owner, x_Reg_Pair⟩, (deS Minder x_Two), (deS Wire x_Net), (deS Bool x_Gates), (deS In x_Line), (deS Out x_Said)⟩).2.1, (o24 ⟨x_Id, x_Ports, ⟨x_Reg_Epoch, x_Reg_Owner, x_Reg_Pair⟩, (deS Minder x_Two), (deS Wire x_Net), (deS Bool x_Gates), (deS In x_Line), (deS Out x_Said)⟩).2.2)
  | _ => none

theorem r24 (x : Box) (n : Nat) : evFn ⟨Go.Proofs.Try.prog, Hx, 24⟩ T25.call n Go.Proofs.Try.f24 [[.int .i64 x.Id, .int .i64 x.Ports, .int .i64 x.Reg.Epoch, .int .i64 x.Reg.Owner, .int .i64 x.Reg.Pair, .sl false 7 (enS false x.Two), .sl false 12 (enS false x.Net), .sl false 1 (enS false x.Gates), .sl false 8 (enS false x.Line), .sl false 8 (enS false x.Said)]] = bif isS Minder false (enS false (Box.Two x)) && isS Wire false (enS false (Box.Net x)) && isS Bool false (enS false (Box.Gates x)) && isS In false (enS false (Box.Line x)) && isS Out false (enS false (Box.Said x)) && Box.small (Box.mk (Box.Id x) (Box.Ports x) (Box.Reg x) (deS Minder (enS false (Box.Two x))) (deS Wire (enS false (Box.Net x))) (deS Bool (enS false (Box.Gates x))) (deS In (enS false (Box.Line x))) (deS Out (enS false (Box.Said x)))) then bif heir (Box.mk (Box.Id x) (Box.Ports x) (Box.Reg x) (deS Minder (enS false (Box.Two x))) (deS Wire (enS false (Box.Net x))) (deS Bool (enS false (Box.Gates x))) (deS In (enS false (Box.Line x))) (deS Out (enS false (Box.Said x)))) then bif isS Minder false (enS false (Box.Two x)) && isS Wire false (enS false (Box.Net x)) && isS Bool false (enS false (Box.Gates x)) && isS In false (enS false (Box.Line x)) && isS Out false (enS false (Box.Said x)) && Box.small (Box.mk (Box.Id x) (Box.Ports x) (Box.Reg x) (deS Minder (enS false (Box.Two x))) (deS Wire (enS false (Box.Net x))) (deS Bool (enS false (Box.Gates x))) (deS In (enS false (Box.Line x))) (deS Out (enS false (Box.Said x)))) then some ([[D.bool (behind (Box.mk (Box.Id x) (Box.Ports x) (Box.Reg x) (deS Minder (enS false (Box.Two x))) (deS Wire (enS false (Box.Net x))) (deS Bool (enS false (Box.Gates x))) (deS In (enS false (Box.Line x))) (deS Out (enS false (Box.Said x)))) == 0)]], []) else none else some ([[D.bool false]], []) else none := by kernel_rfl
theorem m24 (x : Box) (hpre : (o24 x).1 = true) : evFn ⟨Go.Proofs.Try.prog, Hx, 24⟩ T25.call 0 Go.Proofs.Try.f24 [[.int .i64 x.Id, .int .i64 x.Ports, .int .i64 x.Reg.Epoch, .int .i64 x.Reg.Owner, .int .i64 x.Reg.Pair, .sl false 7 (enS false x.Two), .sl false 12 (enS false x.Net), .sl false 1 (enS false x.Gates), .sl false 8 (enS false x.Line), .sl false 8 (enS false x.Said)]] = some (o24 x).2 := by
  refine (r24 x _).trans ?_
  show _ = (some ([[.bool (safe x)]], []) : Option (List Row × List Row))
  replace hpre : (Box.small x) = true := hpre
  simp only [cond_true, cond_false, Bool.and_true, Bool.true_and, Bool.and_self, Bool.not_true, Bool.not_false, isS_enS, deS_enS, lendRows_enS, deepRows_enS, enS_length, toNat_of, decide_true, decide_false, sameB_self, dec_ge, TReader.eta, Frame.eta, Heard.eta, Member.eta, Card.eta, Out1.eta, Vec.eta, Port.eta, Bridge.eta, In.eta, Out.eta, Link.eta, Net.eta, TEnd.eta, Minder.eta, Reg.eta, Wire.eta, Box.eta, Deed.eta, Bpdu.eta, Visit.eta, Fabric.eta, Got.eta, TRide.eta, Up.eta, Copy.eta, Bucket.eta, Snap.eta, TL9Cur.eta, TL21In.eta, hpre]
  unfold safe
  cases heir x <;> rfl
theorem s24 : SoundAt Go.Proofs.Try.prog Hx 24 c24 := soundAt_of T25_sound mixed Go.Proofs.Try.func24 (by kernel_rfl) (by
  intro rows r h
  unfold c24 at h
  split at h
  · rename_i x_Id x_Ports x_Reg_Epoch x_Reg_Owner x_Reg_Pair x_Two x_Net x_Gates x_Line x_Said
    obtain ⟨hp, hr⟩ := Prod.mk.inj (Option.some.inj h)
    subst hr
    simp only [Bool.and_eq_true] at hp
    obtain ⟨⟨⟨⟨⟨hs0, hs1⟩, hs2⟩, hs3⟩, hs4⟩, hp⟩ := hp
    obtain ⟨xs0, rfl⟩ := isS_ex hs0
    obtain ⟨xs1, rfl⟩ := isS_ex hs1
    obtain ⟨xs2, rfl⟩ := isS_ex hs2
    obtain ⟨xs3, rfl⟩ := isS_ex hs3
    obtain ⟨xs4, rfl⟩ := isS_ex hs4
    simp only [deS_enS] at hp ⊢
    exact ⟨_, m24 ⟨x_Id, x_Ports, ⟨x_Reg_Epoch, x_Reg_Owner, x_Reg_Pair⟩, xs0, xs1, xs2, xs3, xs4⟩ hp⟩
  · cases h)
def T24 : Table := (24, c24) :: T25
theorem T24_sound : Table.Sound Go.Proofs.Try.prog Hx T24 := Table.sound_cons s24 T25_sound
end Go.Ev
end
