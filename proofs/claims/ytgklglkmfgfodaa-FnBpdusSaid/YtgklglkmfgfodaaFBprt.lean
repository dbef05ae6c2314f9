/- Contracts of functions, each by its evaluation. -/
import Derived.Test.YtgklglkmfgfodaaEvMd
import Derived.Test.YtgklglkmfgfodaaProg
import Derived.KernelRfl
import Derived.Test.YtgklglkmfgfodaaFBpduof
set_option linter.unusedVariables false
set_option linter.unusedSimpArgs false
set_option maxRecDepth 100000
noncomputable section
open List (getD length drop take set append replicate all isEmpty)
open Int (toNat ofNat)
open Go.IntKind (i64 wrap)
open Go.Proofs.Try (prog)
namespace Go.Ev
open Go.RowKit Go.Md
end Go.Ev
namespace Go.Md
open Go Go.Ev
theorem bp_flags : ∀ (c a g l o : Bool) (r : Fin 4), (bpBit (bitI c 1 + bitI a 2 + 4 * roleB (r.val : Int) + bitI l 16 + bitI o 32 + bitI g 64) 1 = c ∧ bpBit (bitI c 1 + bitI a 2 + 4 * roleB (r.val : Int) + bitI l 16 + bitI o 32 + bitI g 64) 2 = a ∧ bpBit (bitI c 1 + bitI a 2 + 4 * roleB (r.val : Int) + bitI l 16 + bitI o 32 + bitI g 64) 64 = g ∧ bpBit (bitI c 1 + bitI a 2 + 4 * roleB (r.val : Int) + bitI l 16 + bitI o 32 + bitI g 64) 16 = l ∧ bpBit (bitI c 1 + bitI a 2 + 4 * roleB (r.val : Int) + bitI l 16 + bitI o 32 + bitI g 64) 32 = o) ∧ bpRole (bitI c 1 + bitI a 2 + 4 * roleB (r.val : Int) + bitI l 16 + bitI o 32 + bitI g 64) = (r.val : Int) ∧ IntKind.wrap IntKind.u8 (bitI c 1 + bitI a 2 + 4 * roleB (r.val : Int) + bitI l 16 + bitI o 32 + bitI g 64) = bitI c 1 + bitI a 2 + 4 * roleB (r.val : Int) + bitI l 16 + bitI o 32 + bitI g 64 := by decide
def costF (x y z w : Int) : Int := IntKind.wrap IntKind.i64 (Int.tdiv (IntKind.wrap IntKind.i64 (Int.ofNat (BitVec.toNat (BitVec.or (BitVec.ofInt 64 (IntKind.wrap IntKind.i64 (Int.ofNat (BitVec.toNat (BitVec.or (BitVec.ofInt 64 (IntKind.wrap IntKind.i64 (Int.ofNat (BitVec.toNat (BitVec.or (BitVec.ofInt 64 (IntKind.wrap IntKind.i64 (x * Int.ofNat 16777216))) (BitVec.ofInt 64 (IntKind.wrap IntKind.i64 (y * Int.ofNat 65536)))))))) (BitVec.ofInt 64 (IntKind.wrap IntKind.i64 (z * Int.ofNat 256)))))))) (BitVec.ofInt 64 w))))) 20000)
theorem cost_rt : ∀ k : Fin 21, costF (IntKind.wrap IntKind.u8 (((k.val : Int) * 20000).fdiv 16777216)) (IntKind.wrap IntKind.u8 (((k.val : Int) * 20000).fdiv 65536)) (IntKind.wrap IntKind.u8 (((k.val : Int) * 20000).fdiv 256)) (IntKind.wrap IntKind.u8 ((k.val : Int) * 20000)) = (k.val : Int) := by decide
theorem gB_u8 {b : List UInt8} {i : Nat} {x : Int} (hi : i < b.length) (hb : b.getD i 0 = u8 x) : gB b i = IntKind.wrap IntKind.u8 x := by
  unfold gB
  have h1 : b.getD i 0 = b[i] := by rw [List.getD_eq_getElem?_getD, List.getElem?_eq_getElem hi]; rfl
  rw [h1] at hb
  rw [enS_get false hi]
  show IntKind.wrap IntKind.i64 ((b[i].toNat : Nat) : Int) = _
  have := b[i].toNat_lt
  rw [wrap_of (by omega) (by omega), hb]
  exact u8_toNat x
theorem w8 {x : Int} (h0 : 0 ≤ x) (h1 : x < 256) : IntKind.wrap IntKind.u8 x = x := by
  rw [IntKind.wrap_u8]
  exact Int.emod_eq_of_lt h0 h1
theorem bp_rt {x : Bpdu} (h : bpduOk x = true) : bpM (bpduBs x) = (x, true) ∧ (bpduBs x).length = 36 := by
  have hb : bpduBs x = [0, 0, 2, 2, u8 (flagsOf x), 128, 0, 0, 0, 0, 0, 0, u8 x.Vec.Root, u8 ((x.Vec.Cost * 20000).fdiv 16777216), u8 ((x.Vec.Cost * 20000).fdiv 65536), u8 ((x.Vec.Cost * 20000).fdiv 256), u8 (x.Vec.Cost * 20000), 128, 0, 0, 0, 0, 0, 0, u8 x.Vec.Bridge, 128, u8 (x.Vec.Port + 1), u8 x.Hops, 0, 8, 0, 2, 0, 15, 0, 0] := by
    unfold bpduBs
    rw [h]
    rfl
  have hl : (bpduBs x).length = 36 := by rw [hb]; rfl
  refine ⟨?_, hl⟩
  have hk := h
  unfold bpduOk vecOk isPortB isHopsB inR at hk
  simp only [Bool.and_eq_true, decide_eq_true_eq] at hk
  obtain ⟨⟨r0, r1⟩, ⟨⟨a0, a1⟩, ⟨b0, b1⟩, _, ⟨c0, c1⟩, _, ⟨d0, d1⟩⟩, e0, e1⟩ := hk
  generalize hbs : bpduBs x = b at hb hl
  have g4 : gB b 4 = IntKind.wrap IntKind.u8 (flagsOf x) := gB_u8 (by omega) (by rw [hb]; rfl)
  have g12 : gB b 12 = IntKind.wrap IntKind.u8 x.Vec.Root := gB_u8 (by omega) (by rw [hb]; rfl)
  have g13 : gB b 13 = IntKind.wrap IntKind.u8 ((x.Vec.Cost * 20000).fdiv 16777216) := gB_u8 (by omega) (by rw [hb]; rfl)
  have g14 : gB b 14 = IntKind.wrap IntKind.u8 ((x.Vec.Cost * 20000).fdiv 65536) := gB_u8 (by omega) (by rw [hb]; rfl)
  have g15 : gB b 15 = IntKind.wrap IntKind.u8 ((x.Vec.Cost * 20000).fdiv 256) := gB_u8 (by omega) (by rw [hb]; rfl)
  have g16 : gB b 16 = IntKind.wrap IntKind.u8 (x.Vec.Cost * 20000) := gB_u8 (by omega) (by rw [hb]; rfl)
  have g24 : gB b 24 = IntKind.wrap IntKind.u8 x.Vec.Bridge := gB_u8 (by omega) (by rw [hb]; rfl)
  have g26 : gB b 26 = IntKind.wrap IntKind.u8 (x.Vec.Port + 1) := gB_u8 (by omega) (by rw [hb]; rfl)
  have g27 : gB b 27 = IntKind.wrap IntKind.u8 x.Hops := gB_u8 (by omega) (by rw [hb]; rfl)
  obtain ⟨r, hr⟩ := Int.eq_ofNat_of_zero_le r0
  obtain ⟨k, hc⟩ := Int.eq_ofNat_of_zero_le c0
  have hf := bp_flags x.Change x.Ask x.Agree x.Learn x.Open ⟨r, by omega⟩
  simp only at hf
  have hfl : flagsOf x = bitI x.Change 1 + bitI x.Ask 2 + 4 * roleB (r : Int) + bitI x.Learn 16 + bitI x.Open 32 + bitI x.Agree 64 := by unfold flagsOf; rw [hr]
  rw [← hfl] at hf
  obtain ⟨⟨f1, f2, f3, f4, f5⟩, f6, f7⟩ := hf
  have hcost : bpCost b = x.Vec.Cost := by
    have := cost_rt ⟨k, by omega⟩
    simp only at this
    rw [← hc] at this
    rw [← g13, ← g14, ← g15, ← g16] at this
    exact this
  have hx : bpX b = x := by
    unfold bpX
    rw [hcost, g4, f7, f1, f2, f3, f4, f5, f6, g12, w8 (by omega) (by omega), g24, w8 (by omega) (by omega), g26, w8 (by omega) (by omega), g27, w8 (by omega) (by omega), show x.Vec.Port + 1 - 1 = x.Vec.Port by omega, wrap_of (by omega) (by omega), ← hr]
  unfold bpM
  rw [hl, hx, h, hbs, decide_eq_true (rfl : b = b)]
  rfl
end Go.Md
namespace Go.Ev
open Go.Md
end Go.Ev
end
