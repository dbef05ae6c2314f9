/- Contracts of functions, each by its evaluation. -/
import Derived.Test.YtljedfojdgfahaaEvMd
import Derived.Test.YtljedfojdgfahaaProg
import Derived.KernelRfl
import Derived.Test.YtljedfojdgfahaaFNet3
set_option linter.unusedVariables false
set_option linter.unusedSimpArgs false
set_option maxRecDepth 100000
noncomputable section
namespace Go.Ev
open Go.RowKit Go.Md
/- law -/
def o3 (aN : Net) (aB : Int) (aP : Int) : Bool × List Row × List Row := (Net.big aN, [[.bool (true)]], [])
def c3 : Contract
  | [[.sl false 2 aN_Bridges, .sl false 4 aN_Links], [.int .i64 aB], [.int .i64 aP]] => some (isS Bridge false aN_Bridges && isS Link false aN_Links && (o3 ⟨(deS Bridge aN_Bridges), (deS Link aN_Links)⟩ aB aP).1, (o3 ⟨(deS Bridge aN_Bridges), (deS Link aN_Links)⟩ aB aP).2.1, (o3 ⟨(deS Bridge aN_Bridges), (deS Link aN_Links)⟩ aB aP).2.2)
  | _ => none

theorem r3 (aN : Net) (aB : Int) (aP : Int) (n : Nat) : evFn ⟨Go.Proofs.Try.prog, Hx, 3⟩ T8.call n Go.Proofs.Try.f3 [[.sl false 2 (enS false aN.Bridges), .sl false 4 (enS false aN.Links)], [.int .i64 aB], [.int .i64 aP]] = bif isS Bridge false (enS false (Net.Bridges aN)) && isS Link false (enS false (Net.Links aN)) && Net.big (Net.mk (deS Bridge (enS false (Net.Bridges aN))) (deS Link (enS false (Net.Links aN)))) then bif decide (szR (Net.wt (Net.mk (deS Bridge (enS false (Net.Bridges aN))) (deS Link (enS false (Net.Links aN))))) (1048576) < 0) then some ([[D.bool true]], []) else bif isS Bridge false (enS false (Net.Bridges aN)) && isS Link false (enS false (Net.Links aN)) && Net.small (Net.mk (deS Bridge (enS false (Net.Bridges aN))) (deS Link (enS false (Net.Links aN)))) then bif isS Bridge false (lendRows (enS true (deS Bridge (enS false (Net.Bridges aN))))) && isS Link false (lendRows (enS true (deS Link (enS false (Net.Links aN))))) && Net.small (Net.mk (deS Bridge (lendRows (enS true (deS Bridge (enS false (Net.Bridges aN)))))) (deS Link (lendRows (enS true (deS Link (enS false (Net.Links aN))))))) then bif isS Bridge false (enS false (Net.Bridges aN)) && isS Link false (enS false (Net.Links aN)) && Net.small (Net.mk (deS Bridge (enS false (Net.Bridges aN))) (deS Link (enS false (Net.Links aN)))) then bif isS Bridge false (lendRows (enS true (deS Bridge (enS false (Net.Bridges aN))))) && isS Link false (lendRows (enS true (deS Link (enS false (Net.Links aN))))) && Net.small (Net.mk (deS Bridge (lendRows (enS true (deS Bridge (enS false (Net.Bridges aN)))))) (deS Link (lendRows (enS true (deS Link (enS false (Net.Links aN))))))) then bif TEnd.bridge (Prod.fst (acrX (Net.mk (deS Bridge (lendRows (enS true (deS Bridge (enS false (Net.Bridges aN)))))) (deS Link (lendRows (enS true (deS Link (enS false (Net.Links aN))))))) aB aP)) != TEnd.bridge (Prod.fst (acrX (Net.mk (deS Bridge (lendRows (enS true (deS Bridge (enS false (Net.Bridges aN)))))) (deS Link (lendRows (enS true (deS Link (enS false (Net.Links aN))))))) aB aP)) then some ([[D.bool false]], []) else bif TEnd.port (Prod.fst (acrX (Net.mk (deS Bridge (lendRows (enS true (deS Bridge (enS false (Net.Bridges aN)))))) (deS Link (lendRows (enS true (deS Link (enS false (Net.Links aN))))))) aB aP)) != TEnd.port (Prod.fst (acrX (Net.mk (deS Bridge (lendRows (enS true (deS Bridge (enS false (Net.Bridges aN)))))) (deS Link (lendRows (enS true (deS Link (enS false (Net.Links aN))))))) aB aP)) then some ([[D.bool false]], []) else bif Prod.snd (acrX (Net.mk (deS Bridge (lendRows (enS true (deS Bridge (enS false (Net.Bridges aN)))))) (deS Link (lendRows (enS true (deS Link (enS false (Net.Links aN))))))) aB aP) != Prod.snd (acrX (Net.mk (deS Bridge (lendRows (enS true (deS Bridge (enS false (Net.Bridges aN)))))) (deS Link (lendRows (enS true (deS Link (enS false (Net.Links aN))))))) aB aP) then some ([[D.bool false]], []) else bif isS Bridge false (enS false (Net.Bridges aN)) && isS Link false (enS false (Net.Links aN)) && Net.small (Net.mk (deS Bridge (enS false (Net.Bridges aN))) (deS Link (enS false (Net.Links aN)))) then bif isS Bridge false (lendRows (enS true (deS Bridge (enS false (Net.Bridges aN))))) && isS Link false (lendRows (enS true (deS Link (enS false (Net.Links aN))))) && isS Bridge false (lendRows (enS true (deS Bridge (enS false (Net.Bridges aN))))) && isS Link false (lendRows (enS true (deS Link (enS false (Net.Links aN))))) && (sameB (Net.mk (deS Bridge (lendRows (enS true (deS Bridge (enS false (Net.Bridges aN)))))) (deS Link (lendRows (enS true (deS Link (enS false (Net.Links aN))))))) (Net.mk (deS Bridge (lendRows (enS true (deS Bridge (enS false (Net.Bridges aN)))))) (deS Link (lendRows (enS true (deS Link (enS false (Net.Links aN))))))) && Net.small (Net.mk (deS Bridge (lendRows (enS true (deS Bridge (enS false (Net.Bridges aN)))))) (deS Link (lendRows (enS true (deS Link (enS false (Net.Links aN)))))))) then some ([[D.bool true]], []) else none else none else none else none else none else none else none := by kernel_rfl
theorem m3 (aN : Net) (aB : Int) (aP : Int) (hpre : (o3 aN aB aP).1 = true) : evFn ⟨Go.Proofs.Try.prog, Hx, 3⟩ T8.call 0 Go.Proofs.Try.f3 [[.sl false 2 (enS false aN.Bridges), .sl false 4 (enS false aN.Links)], [.int .i64 aB], [.int .i64 aP]] = some (o3 aN aB aP).2 := by
  refine (r3 aN aB aP _).trans ?_
  show _ = (some ([[.bool (true)]], []) : Option (List Row × List Row))
  replace hpre : (Net.big aN) = true := hpre
  rcases szR_cases (Net.wt aN) 1048576 (by omega) with ⟨hw, _, hz⟩ | ⟨_, _, hz⟩
  case inr => simp only [hpre, isS_enS, deS_enS, Bool.and_self, cond_true, hz, Net.eta]
  have hsm := Net.small_of aN hw
  simp only [hpre, hsm, hz, isS_enS, deS_enS, lendRows_enS, deepRows_enS, sameB_self, enS_length, Bool.and_self, Bool.and_true, Bool.true_and, cond_true, cond_false, Net.eta, Bool.not_true, bne_self_eq_false]
theorem s3 : SoundAt Go.Proofs.Try.prog Hx 3 c3 := soundAt_of T8_sound mixed Go.Proofs.Try.func3 (by kernel_rfl) (by
  intro rows r h
  unfold c3 at h
  split at h
  · rename_i aN_Bridges aN_Links aB aP
    obtain ⟨hp, hr⟩ := Prod.mk.inj (Option.some.inj h)
    subst hr
    simp only [Bool.and_eq_true] at hp
    obtain ⟨⟨hs0, hs1⟩, hp⟩ := hp
    obtain ⟨xs0, rfl⟩ := isS_ex hs0
    obtain ⟨xs1, rfl⟩ := isS_ex hs1
    simp only [deS_enS] at hp ⊢
    exact ⟨_, m3 ⟨xs0, xs1⟩ aB aP hp⟩
  · cases h)
def T3 : Table := (3, c3) :: T8
theorem T3_sound : Table.Sound Go.Proofs.Try.prog Hx T3 := Table.sound_cons s3 T8_sound
end Go.Ev
end
