/- Contracts of functions, each by its evaluation. -/
import Derived.Test.YtikmcmocecalaaaEvMd
import Derived.Test.YtikmcmocecalaaaProg
import Derived.KernelRfl
import Derived.Test.YtikmcmocecalaaaFHbo
set_option linter.unusedVariables false
set_option linter.unusedSimpArgs false
set_option maxRecDepth 100000
noncomputable section
open List (getD length drop take set append replicate all isEmpty)
open Int (toNat ofNat)
open Go.IntKind (i64 wrap)
open Go.Proofs.Try (prog)
namespace Go.Ev
open Go.RowKit Go.Md
/- law -/
def o4 (aB : List UInt8) : Bool × List Row × List Row := (decide (aB.length ≤ 9223372036854775807), [[.bool (true)]], [])
def c4 : Contract
  | [[.sl false 1 aB]] => some (isS UInt8 false aB && (o4 (deS UInt8 aB)).1, (o4 (deS UInt8 aB)).2.1, (o4 (deS UInt8 aB)).2.2)
  | _ => none

theorem r4 (aB : List UInt8) (n : Nat) : evFn ⟨prog, Hx, 4⟩ T12.call n Go.Proofs.Try.f4 [[.sl false 1 (enS false aB)]] = bif decide (ofNat (length (enS false aB)) > 1048576) then some ([[D.bool true]], []) else bif isS UInt8 false (enS false aB) && decide (length (deS UInt8 (enS false aB)) ≤ 1048576) then bif isS UInt8 false (lendRows (enS true (deS UInt8 (enS false aB)))) && decide (length (deS UInt8 (lendRows (enS true (deS UInt8 (enS false aB))))) ≤ 1048576) then bif isS UInt8 false (enS false aB) && decide (length (deS UInt8 (enS false aB)) ≤ 1048576) then bif isS UInt8 false (lendRows (enS true (deS UInt8 (enS false aB)))) && decide (length (deS UInt8 (lendRows (enS true (deS UInt8 (enS false aB))))) ≤ 1048576) then bif sameB (Prod.fst (bpM (deS UInt8 (lendRows (enS true (deS UInt8 (enS false aB))))))) (Prod.fst (bpM (deS UInt8 (lendRows (enS true (deS UInt8 (enS false aB))))))) then bif Prod.snd (bpM (deS UInt8 (lendRows (enS true (deS UInt8 (enS false aB)))))) != Prod.snd (bpM (deS UInt8 (lendRows (enS true (deS UInt8 (enS false aB)))))) then some ([[D.bool false]], []) else bif isS UInt8 false (enS false aB) && decide (length (deS UInt8 (enS false aB)) ≤ 1048576) then bif isS UInt8 false (lendRows (enS true (deS UInt8 (enS false aB)))) && isS UInt8 false (lendRows (enS true (deS UInt8 (enS false aB)))) && (sameB (deS UInt8 (lendRows (enS true (deS UInt8 (enS false aB))))) (deS UInt8 (lendRows (enS true (deS UInt8 (enS false aB))))) && decide (length (deS UInt8 (lendRows (enS true (deS UInt8 (enS false aB))))) ≤ 1048576)) then some ([[D.bool true]], []) else none else none else none else none else none else none else none := by kernel_rfl
theorem m4 (aB : List UInt8) (hpre : (o4 aB).1 = true) : evFn ⟨Go.Proofs.Try.prog, Hx, 4⟩ T12.call 0 Go.Proofs.Try.f4 [[.sl false 1 (enS false aB)]] = some (o4 aB).2 := by
  refine (r4 aB _).trans ?_
  show _ = (some ([[.bool (true)]], []) : Option (List Row × List Row))
  replace hpre : (decide (aB.length ≤ 9223372036854775807)) = true := hpre
  by_cases hb : aB.length ≤ 1048576
  case neg =>
    have c0 : decide (Int.ofNat aB.length > 1048576) = true := decide_eq_true (by show ((aB.length : Nat) : Int) > 1048576; omega)
    simp only [enS_length, c0, cond_true]
  have c0 : decide (Int.ofNat aB.length > 1048576) = false := decide_eq_false (by show ¬ (((aB.length : Nat) : Int) > 1048576); omega)
  have hsm : decide (aB.length ≤ 1048576) = true := decide_eq_true hb
  simp only [enS_length, c0, hsm, hpre, isS_enS, deS_enS, lendRows_enS, deepRows_enS, sameB_self, Bool.and_self, Bool.and_true, Bool.true_and, cond_true, cond_false, Bool.not_true, Bool.not_false, bne_self_eq_false, noSl_u8, Bpdu.eta, Vec.eta]
theorem s4 : SoundAt Go.Proofs.Try.prog Hx 4 c4 := soundAt_of T12_sound mixed Go.Proofs.Try.func4 (by kernel_rfl) (by
  intro rows r h
  unfold c4 at h
  split at h
  · rename_i aB
    obtain ⟨hp, hr⟩ := Prod.mk.inj (Option.some.inj h)
    subst hr
    simp only [Bool.and_eq_true] at hp
    obtain ⟨hs0, hp⟩ := hp
    obtain ⟨xs0, rfl⟩ := isS_ex hs0
    simp only [deS_enS] at hp ⊢
    exact ⟨_, m4 xs0 hp⟩
  · cases h)
def T4 : Table := (4, c4) :: T12
theorem T4_sound : Table.Sound Go.Proofs.Try.prog Hx T4 := Table.sound_cons s4 T12_sound
end Go.Ev
end
