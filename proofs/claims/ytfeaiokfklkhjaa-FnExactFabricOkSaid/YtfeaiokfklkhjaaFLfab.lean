/- Contracts of functions, each by its evaluation. -/
import Derived.Test.YtfeaiokfklkhjaaEvMd
import Derived.Test.YtfeaiokfklkhjaaProg
import Derived.KernelRfl
import Derived.Test.YtfeaiokfklkhjaaFFab2
set_option linter.unusedVariables false
set_option linter.unusedSimpArgs false
set_option maxRecDepth 100000
noncomputable section
open List (getD length drop take set append replicate all isEmpty)
open Int (toNat ofNat)
open Go.IntKind (i64 wrap)
open Go.Proofs.Try (prog f3 func3)
namespace Go.Ev
open Go.RowKit Go.Md
def o3 (aF : Fabric) : Bool × List Row × List Row := (Fabric.big aF, [[.bool (true)]], [])
def c3 : Contract
  | [[.sl false 2 aF_Net_Bridges, .sl false 4 aF_Net_Links, .sl false 3 aF_Cards]] => some (isS Bridge false aF_Net_Bridges && isS Link false aF_Net_Links && isS Card false aF_Cards && (o3 ⟨⟨(deS Bridge aF_Net_Bridges), (deS Link aF_Net_Links)⟩, (deS Card aF_Cards)⟩).1, (o3 ⟨⟨(deS Bridge aF_Net_Bridges), (deS Link aF_Net_Links)⟩, (deS Card aF_Cards)⟩).2.1, (o3 ⟨⟨(deS Bridge aF_Net_Bridges), (deS Link aF_Net_Links)⟩, (deS Card aF_Cards)⟩).2.2)
  | _ => none

theorem r3 (aF : Fabric) (n : Nat) : evFn ⟨prog, Hx, 3⟩ T7.call n f3 [[.sl false 2 (enS false aF.Net.Bridges), .sl false 4 (enS false aF.Net.Links), .sl false 3 (enS false aF.Cards)]] = bif isS Bridge false (enS false (Net.Bridges (Fabric.Net aF))) && isS Link false (enS false (Net.Links (Fabric.Net aF))) && isS Card false (enS false (Fabric.Cards aF)) && Fabric.big (Fabric.mk (Net.mk (deS Bridge (enS false (Net.Bridges (Fabric.Net aF)))) (deS Link (enS false (Net.Links (Fabric.Net aF))))) (deS Card (enS false (Fabric.Cards aF)))) then bif decide (szR (Fabric.wt (Fabric.mk (Net.mk (deS Bridge (enS false (Net.Bridges (Fabric.Net aF)))) (deS Link (enS false (Net.Links (Fabric.Net aF))))) (deS Card (enS false (Fabric.Cards aF))))) (1048576) < 0) then some ([[D.bool true]], []) else bif isS Bridge false (enS false (Net.Bridges (Fabric.Net aF))) && isS Link false (enS false (Net.Links (Fabric.Net aF))) && isS Card false (enS false (Fabric.Cards aF)) && Fabric.small (Fabric.mk (Net.mk (deS Bridge (enS false (Net.Bridges (Fabric.Net aF)))) (deS Link (enS false (Net.Links (Fabric.Net aF))))) (deS Card (enS false (Fabric.Cards aF)))) then bif isS Bridge false (lendRows (enS true (deS Bridge (enS false (Net.Bridges (Fabric.Net aF)))))) && isS Link false (lendRows (enS true (deS Link (enS false (Net.Links (Fabric.Net aF)))))) && isS Card false (lendRows (enS true (deS Card (enS false (Fabric.Cards aF))))) && Fabric.small (Fabric.mk (Net.mk (deS Bridge (lendRows (enS true (deS Bridge (enS false (Net.Bridges (Fabric.Net aF))))))) (deS Link (lendRows (enS true (deS Link (enS false (Net.Links (Fabric.Net aF)))))))) (deS Card (lendRows (enS true (deS Card (enS false (Fabric.Cards aF))))))) then bif isS Bridge false (enS false (Net.Bridges (Fabric.Net aF))) && isS Link false (enS false (Net.Links (Fabric.Net aF))) && isS Card false (enS false (Fabric.Cards aF)) && Fabric.small (Fabric.mk (Net.mk (deS Bridge (enS false (Net.Bridges (Fabric.Net aF)))) (deS Link (enS false (Net.Links (Fabric.Net aF))))) (deS Card (enS false (Fabric.Cards aF)))) then bif isS Bridge false (lendRows (enS true (deS Bridge (enS false (Net.Bridges (Fabric.Net aF)))))) && isS Link false (lendRows (enS true (deS Link (enS false (Net.Links (Fabric.Net aF)))))) && isS Card false (lendRows (enS true (deS Card (enS false (Fabric.Cards aF))))) && Fabric.small (Fabric.mk (Net.mk (deS Bridge (lendRows (enS true (deS Bridge (enS false (Net.Bridges (Fabric.Net aF))))))) (deS Link (lendRows (enS true (deS Link (enS false (Net.Links (Fabric.Net aF)))))))) (deS Card (lendRows (enS true (deS Card (enS false (Fabric.Cards aF))))))) then bif fabOk (Fabric.mk (Net.mk (deS Bridge (lendRows (enS true (deS Bridge (enS false (Net.Bridges (Fabric.Net aF))))))) (deS Link (lendRows (enS true (deS Link (enS false (Net.Links (Fabric.Net aF)))))))) (deS Card (lendRows (enS true (deS Card (enS false (Fabric.Cards aF))))))) != fabOk (Fabric.mk (Net.mk (deS Bridge (lendRows (enS true (deS Bridge (enS false (Net.Bridges (Fabric.Net aF))))))) (deS Link (lendRows (enS true (deS Link (enS false (Net.Links (Fabric.Net aF)))))))) (deS Card (lendRows (enS true (deS Card (enS false (Fabric.Cards aF))))))) then some ([[D.bool false]], []) else bif isS Bridge false (enS false (Net.Bridges (Fabric.Net aF))) && isS Link false (enS false (Net.Links (Fabric.Net aF))) && isS Card false (enS false (Fabric.Cards aF)) && Fabric.small (Fabric.mk (Net.mk (deS Bridge (enS false (Net.Bridges (Fabric.Net aF)))) (deS Link (enS false (Net.Links (Fabric.Net aF))))) (deS Card (enS false (Fabric.Cards aF)))) then bif isS Bridge false (lendRows (enS true (deS Bridge (enS false (Net.Bridges (Fabric.Net aF)))))) && isS Link false (lendRows (enS true (deS Link (enS false (Net.Links (Fabric.Net aF)))))) && isS Card false (lendRows (enS true (deS Card (enS false (Fabric.Cards aF))))) && isS Bridge false (lendRows (enS true (deS Bridge (enS false (Net.Bridges (Fabric.Net aF)))))) && isS Link false (lendRows (enS true (deS Link (enS false (Net.Links (Fabric.Net aF)))))) && isS Card false (lendRows (enS true (deS Card (enS false (Fabric.Cards aF))))) && (sameB (Fabric.mk (Net.mk (deS Bridge (lendRows (enS true (deS Bridge (enS false (Net.Bridges (Fabric.Net aF))))))) (deS Link (lendRows (enS true (deS Link (enS false (Net.Links (Fabric.Net aF)))))))) (deS Card (lendRows (enS true (deS Card (enS false (Fabric.Cards aF))))))) (Fabric.mk (Net.mk (deS Bridge (lendRows (enS true (deS Bridge (enS false (Net.Bridges (Fabric.Net aF))))))) (deS Link (lendRows (enS true (deS Link (enS false (Net.Links (Fabric.Net aF)))))))) (deS Card (lendRows (enS true (deS Card (enS false (Fabric.Cards aF))))))) && Fabric.small (Fabric.mk (Net.mk (deS Bridge (lendRows (enS true (deS Bridge (enS false (Net.Bridges (Fabric.Net aF))))))) (deS Link (lendRows (enS true (deS Link (enS false (Net.Links (Fabric.Net aF)))))))) (deS Card (lendRows (enS true (deS Card (enS false (Fabric.Cards aF)))))))) then some ([[D.bool true]], []) else none else none else none else none else none else none else none := by kernel_rfl
theorem m3 (aF : Fabric) (hpre : (o3 aF).1 = true) : evFn ⟨Go.Proofs.Try.prog, Hx, 3⟩ T7.call 0 f3 [[.sl false 2 (enS false aF.Net.Bridges), .sl false 4 (enS false aF.Net.Links), .sl false 3 (enS false aF.Cards)]] = some (o3 aF).2 := by
  refine (r3 aF _).trans ?_
  show _ = (some ([[.bool (true)]], []) : Option (List Row × List Row))
  replace hpre : (Fabric.big aF) = true := hpre
  rcases szR_cases (Fabric.wt aF) (1048576) (by omega) with ⟨hw0, he0, hz0⟩ | ⟨_, _, hz0⟩
  case inr => simp only [hpre, hz0, isS_enS, deS_enS, Bool.and_self, Bool.and_true, Bool.true_and, cond_true, cond_false, TReader.eta, Frame.eta, Heard.eta, Member.eta, Card.eta, Out1.eta, Vec.eta, Port.eta, Bridge.eta, In.eta, Out.eta, Link.eta, Net.eta, TEnd.eta, Minder.eta, Reg.eta, Wire.eta, Box.eta, Deed.eta, Bpdu.eta, Visit.eta, Fabric.eta, Got.eta, TRide.eta, Up.eta, Copy.eta, Bucket.eta, Snap.eta, TL9Cur.eta, TL21In.eta]
  have hsm0 := Fabric.small_of aF (by omega)
  simp only [hpre, hz0, hsm0, isS_enS, deS_enS, lendRows_enS, deepRows_enS, sameB_self, enS_length, markS_length, Bool.and_self, Bool.and_true, Bool.true_and, cond_true, cond_false, Bool.not_true, Bool.not_false, bne_self_eq_false, noSl_u8, TReader.eta, Frame.eta, Heard.eta, Member.eta, Card.eta, Out1.eta, Vec.eta, Port.eta, Bridge.eta, In.eta, Out.eta, Link.eta, Net.eta, TEnd.eta, Minder.eta, Reg.eta, Wire.eta, Box.eta, Deed.eta, Bpdu.eta, Visit.eta, Fabric.eta, Got.eta, TRide.eta, Up.eta, Copy.eta, Bucket.eta, Snap.eta, TL9Cur.eta, TL21In.eta]
theorem s3 : SoundAt Go.Proofs.Try.prog Hx 3 c3 := soundAt_of T7_sound mixed func3 (by kernel_rfl) (by
  intro rows r h
  unfold c3 at h
  split at h
  · rename_i aF_Net_Bridges aF_Net_Links aF_Cards
    obtain ⟨hp, hr⟩ := Prod.mk.inj (Option.some.inj h)
    subst hr
    simp only [Bool.and_eq_true] at hp
    obtain ⟨⟨⟨hs0, hs1⟩, hs2⟩, hp⟩ := hp
    obtain ⟨xs0, rfl⟩ := isS_ex hs0
    obtain ⟨xs1, rfl⟩ := isS_ex hs1
    obtain ⟨xs2, rfl⟩ := isS_ex hs2
    simp only [deS_enS] at hp ⊢
    exact ⟨_, m3 ⟨⟨xs0, xs1⟩, xs2⟩ hp⟩
  · cases h)
def T3 : Table := (3, c3) :: T7
theorem T3_sound : Table.Sound Go.Proofs.Try.prog Hx T3 := Table.sound_cons s3 T7_sound
end Go.Ev
end
