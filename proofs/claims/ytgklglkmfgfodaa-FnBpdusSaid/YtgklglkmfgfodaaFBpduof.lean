/- Contracts of functions, each by its evaluation. -/
import Derived.Test.YtgklglkmfgfodaaEvMd
import Derived.Test.YtgklglkmfgfodaaProg
import Derived.KernelRfl
import Derived.Test.YtgklglkmfgfodaaFBpdu
set_option linter.unusedVariables false
set_option linter.unusedSimpArgs false
set_option maxRecDepth 100000
noncomputable section
open List (getD length drop take set append replicate all isEmpty)
open Int (toNat ofNat)
open Go.IntKind (i64 wrap)
open Go.Proofs.Try (prog f31 f32 f70 func31 func32 func70)
namespace Go.Ev
open Go.RowKit Go.Md
end Go.Ev
namespace Go.Md
open Go Go.Ev
def gB (b : List UInt8) (i : Nat) : Int := IntKind.wrap IntKind.i64 (D.num (((enS false b).getD i []).getD 0 .dead))
def bpBit (f k : Int) : Bool := IntKind.wrap IntKind.i64 (Int.ofNat (BitVec.toNat (BitVec.and (BitVec.ofInt 64 f) (BitVec.ofInt 64 k)))) != 0
def bpIx (f : Int) : Int := IntKind.wrap IntKind.i64 (Int.ofNat (BitVec.toNat (BitVec.and (BitVec.ofInt 64 (Int.fdiv f (Int.ofNat 4))) (BitVec.ofInt 64 3))))
def bpRole (f : Int) : Int := List.getD [0, 3, 1, 2] (bpIx f).toNat 0
def bpCost (b : List UInt8) : Int := IntKind.wrap IntKind.i64 (Int.tdiv (IntKind.wrap IntKind.i64 (Int.ofNat (BitVec.toNat (BitVec.or (BitVec.ofInt 64 (IntKind.wrap IntKind.i64 (Int.ofNat (BitVec.toNat (BitVec.or (BitVec.ofInt 64 (IntKind.wrap IntKind.i64 (Int.ofNat (BitVec.toNat (BitVec.or (BitVec.ofInt 64 (IntKind.wrap IntKind.i64 (gB b 13 * Int.ofNat 16777216))) (BitVec.ofInt 64 (IntKind.wrap IntKind.i64 (gB b 14 * Int.ofNat 65536)))))))) (BitVec.ofInt 64 (IntKind.wrap IntKind.i64 (gB b 15 * Int.ofNat 256)))))))) (BitVec.ofInt 64 (gB b 16)))))) 20000)
def bpX (b : List UInt8) : Bpdu := ⟨bpBit (gB b 4) 1, bpBit (gB b 4) 2, bpBit (gB b 4) 64, bpBit (gB b 4) 16, bpBit (gB b 4) 32, bpRole (gB b 4), ⟨gB b 12, bpCost b, gB b 24, IntKind.wrap IntKind.i64 (gB b 26 - 1)⟩, gB b 27⟩
def bpM (b : List UInt8) : Bpdu × Bool := bif decide (b.length = 36) && (bpduOk (bpX b) && decide (bpduBs (bpX b) = b)) then (bpX b, true) else (⟨false, false, false, false, false, 0, ⟨0, 0, 0, 0⟩, 0⟩, false)
theorem bpIx_in (f : Int) : 0 ≤ bpIx f ∧ bpIx f < 4 := by
  unfold bpIx
  have h : BitVec.toNat (BitVec.and (BitVec.ofInt 64 (Int.fdiv f (Int.ofNat 4))) (BitVec.ofInt 64 3)) = (BitVec.ofInt 64 (Int.fdiv f (Int.ofNat 4))).toNat % 4 := by
    have := BitVec.toNat_and (BitVec.ofInt 64 (Int.fdiv f (Int.ofNat 4))) (BitVec.ofInt 64 3)
    show BitVec.toNat (BitVec.ofInt 64 (Int.fdiv f (Int.ofNat 4)) &&& BitVec.ofInt 64 3) = _
    rw [this]
    exact Nat.and_two_pow_sub_one_eq_mod (BitVec.ofInt 64 (Int.fdiv f (Int.ofNat 4))).toNat 2
  rw [h]
  generalize (BitVec.ofInt 64 (Int.fdiv f (Int.ofNat 4))).toNat = m
  rw [Go.Ev.wrap_of (by show _ ≤ (((m % 4 : Nat)) : Int); omega) (by show (((m % 4 : Nat)) : Int) ≤ _; omega)]
  exact ⟨Int.natCast_nonneg _, by show (((m % 4 : Nat)) : Int) < 4; omega⟩
theorem bpIx_ok (f : Int) : (decide (0 ≤ bpIx f) && decide (bpIx f < Int.ofNat 4)) = true := by
  obtain ⟨h1, h2⟩ := bpIx_in f
  rw [decide_eq_true h1, decide_eq_true (show bpIx f < Int.ofNat 4 from h2)]
  rfl
theorem bpTab : ∀ m : Nat, m < 4 → D.num (List.getD (List.getD [[D.int .i64 0], [D.int .i64 3], [D.int .i64 1], [D.int .i64 2]] (0 + m) []) 0 D.dead) = List.getD [0, 3, 1, 2] m 0 ∧ (Leaf.fit true (Leaf.int .i64) (List.getD (List.getD [[D.int .i64 0], [D.int .i64 3], [D.int .i64 1], [D.int .i64 2]] (0 + m) []) 0 D.dead) && true) = true
  | 0, _ => ⟨rfl, rfl⟩
  | 1, _ => ⟨rfl, rfl⟩
  | 2, _ => ⟨rfl, rfl⟩
  | 3, _ => ⟨rfl, rfl⟩
theorem fitB (b : List UInt8) (i : Nat) (h : i < b.length) : (Leaf.fit false (.int .u8) (((enS false b).getD i []).getD 0 .dead) && true) = true := by
  rw [enS_get false h]
  rfl
theorem fitU (o : Bool) (x : List UInt8) : ((enS o x).all fun r => fits true [Leaf.int .u8] r) = true := List.all_eq_true.2 (fun r hr => by
  obtain ⟨y, _, rfl⟩ := List.mem_map.1 hr
  rfl)
theorem keyU (o : Bool) (x : List UInt8) : (enS o x).map (fun r => Nat.toUInt8 (Int.toNat (D.num (List.getD r 0 D.dead)))) = x := deS_enS o x
theorem strU (a b : List UInt8) : (ByteArray.toList (ByteArray.mk (Array.mk a)) == ByteArray.toList (ByteArray.mk (Array.mk b))) = decide (a = b) := by
  rw [ByteArray.toList_eq, ByteArray.toList_eq, Bool.eq_iff_iff]
  simp
end Go.Md
namespace Go.Ev
open Go.Md
def o70 (a : List UInt8) (b : List UInt8) : Bool × List Row × List Row := (true, [[.bool (decide (a = b))]], [])
def c70 : Contract
  | [[.sl false 1 a], [.sl false 1 b]] => some (isS UInt8 false a && isS UInt8 false b && (o70 (deS UInt8 a) (deS UInt8 b)).1, (o70 (deS UInt8 a) (deS UInt8 b)).2.1, (o70 (deS UInt8 a) (deS UInt8 b)).2.2)
  | _ => none

theorem r70 (a : List UInt8) (b : List UInt8) (n : Nat) : evFn ⟨prog, Hx, 70⟩ T38.call n f70 [[.sl false 1 (enS false a)], [.sl false 1 (enS false b)]] = bif all (enS false a) fun r ↦ fits true [Leaf.int IntKind.u8] r then bif all (enS false b) fun r ↦ fits true [Leaf.int IntKind.u8] r then some ([[D.bool (ByteArray.toList (ByteArray.mk (Array.mk (List.map (fun r ↦ Nat.toUInt8 (toNat (D.num (getD r (0) D.dead)))) (enS false a)))) == ByteArray.toList (ByteArray.mk (Array.mk (List.map (fun r ↦ Nat.toUInt8 (toNat (D.num (getD r (0) D.dead)))) (enS false b)))))]], []) else none else none := by kernel_rfl
theorem m70 (a : List UInt8) (b : List UInt8) (hpre : (o70 a b).1 = true) : evFn ⟨Go.Proofs.Try.prog, Hx, 70⟩ T38.call 0 f70 [[.sl false 1 (enS false a)], [.sl false 1 (enS false b)]] = some (o70 a b).2 := by
  refine (r70 a b _).trans ?_
  show _ = (some ([[.bool (decide (a = b))]], []) : Option (List Row × List Row))
  replace hpre : (true) = true := hpre
  simp only [fitU, keyU, strU, cond_true]
theorem s70 : SoundAt Go.Proofs.Try.prog Hx 70 c70 := soundAt_of T38_sound mixed func70 (by kernel_rfl) (by
  intro rows r h
  unfold c70 at h
  split at h
  · rename_i a b
    obtain ⟨hp, hr⟩ := Prod.mk.inj (Option.some.inj h)
    subst hr
    simp only [Bool.and_eq_true] at hp
    obtain ⟨⟨hs0, hs1⟩, hp⟩ := hp
    obtain ⟨xs0, rfl⟩ := isS_ex hs0
    obtain ⟨xs1, rfl⟩ := isS_ex hs1
    simp only [deS_enS] at hp ⊢
    exact ⟨_, m70 xs0 xs1 hp⟩
  · cases h)
def T70 : Table := (70, c70) :: T38
theorem T70_sound : Table.Sound Go.Proofs.Try.prog Hx T70 := Table.sound_cons s70 T38_sound
def o31 (b : List UInt8) : Bool × List Row × List Row := (decide (b.length ≤ 1048576), [[.bool ((bpM b).1).Change, .bool ((bpM b).1).Ask, .bool ((bpM b).1).Agree, .bool ((bpM b).1).Learn, .bool ((bpM b).1).Open, .int .i64 ((bpM b).1).Role, .int .i64 ((bpM b).1).Vec.Root, .int .i64 ((bpM b).1).Vec.Cost, .int .i64 ((bpM b).1).Vec.Bridge, .int .i64 ((bpM b).1).Vec.Port, .int .i64 ((bpM b).1).Hops], [.bool ((bpM b).2)]], [])
def c31 : Contract
  | [[.sl false 1 b]] => some (isS UInt8 false b && (o31 (deS UInt8 b)).1, (o31 (deS UInt8 b)).2.1, (o31 (deS UInt8 b)).2.2)
  | _ => none

theorem r31 (b : List UInt8) (n : Nat) : evFn ⟨prog, Hx, 31⟩ T70.call n f31 [[.sl false 1 (enS false b)]] = bif ofNat (length (enS false b)) != 36 then some ([[D.bool false, D.bool false, D.bool false, D.bool false, D.bool false, D.int i64 (0), D.int i64 (0), D.int i64 (0), D.int i64 (0), D.int i64 (0), D.int i64 (0)], [D.bool false]], []) else bif decide (4 < ofNat (length (enS false b))) then bif Leaf.fit false (Leaf.int IntKind.u8) (getD (getD (enS false b) (toNat (4)) []) 0 D.dead) && true then bif decide (13 < ofNat (length (enS false b))) then bif Leaf.fit false (Leaf.int IntKind.u8) (getD (getD (enS false b) (toNat (13)) []) 0 D.dead) && true then bif decide (14 < ofNat (length (enS false b))) then bif Leaf.fit false (Leaf.int IntKind.u8) (getD (getD (enS false b) (toNat (14)) []) 0 D.dead) && true then bif decide (15 < ofNat (length (enS false b))) then bif Leaf.fit false (Leaf.int IntKind.u8) (getD (getD (enS false b) (toNat (15)) []) 0 D.dead) && true then bif decide (16 < ofNat (length (enS false b))) then bif Leaf.fit false (Leaf.int IntKind.u8) (getD (getD (enS false b) (toNat (16)) []) 0 D.dead) && true then bif decide (0 ≤ wrap i64 (ofNat (BitVec.toNat (BitVec.and (BitVec.ofInt 64 (Int.fdiv (wrap i64 (D.num (getD (getD (enS false b) (toNat (4)) []) 0 D.dead))) (ofNat 4))) (BitVec.ofInt 64 (3)))))) && decide (wrap i64 (ofNat (BitVec.toNat (BitVec.and (BitVec.ofInt 64 (Int.fdiv (wrap i64 (D.num (getD (getD (enS false b) (toNat (4)) []) 0 D.dead))) (ofNat 4))) (BitVec.ofInt 64 (3))))) < ofNat 4) then bif decide (12 < ofNat (length (enS false b))) then bif Leaf.fit false (Leaf.int IntKind.u8) (getD (getD (enS false b) (toNat (12)) []) 0 D.dead) && true then bif decide (24 < ofNat (length (enS false b))) then bif Leaf.fit false (Leaf.int IntKind.u8) (getD (getD (enS false b) (toNat (24)) []) 0 D.dead) && true then bif decide (26 < ofNat (length (enS false b))) then bif Leaf.fit false (Leaf.int IntKind.u8) (getD (getD (enS false b) (toNat (26)) []) 0 D.dead) && true then bif decide (27 < ofNat (length (enS false b))) then bif Leaf.fit false (Leaf.int IntKind.u8) (getD (getD (enS false b) (toNat (27)) []) 0 D.dead) && true then bif !bpduOk (Bpdu.mk (wrap i64 (ofNat (BitVec.toNat (BitVec.and (BitVec.ofInt 64 (wrap i64 (D.num (getD (getD (enS false b) (toNat (4)) []) 0 D.dead)))) (BitVec.ofInt 64 (1))))) != 0) (wrap i64 (ofNat (BitVec.toNat (BitVec.and (BitVec.ofInt 64 (wrap i64 (D.num (getD (getD (enS false b) (toNat (4)) []) 0 D.dead)))) (BitVec.ofInt 64 (2))))) != 0) (wrap i64 (ofNat (BitVec.toNat (BitVec.and (BitVec.ofInt 64 (wrap i64 (D.num (getD (getD (enS false b) (toNat (4)) []) 0 D.dead)))) (BitVec.ofInt 64 (64))))) != 0) (wrap i64 (ofNat (BitVec.toNat (BitVec.and (BitVec.ofInt 64 (wrap i64 (D.num (getD (getD (enS false b) (toNat (4)) []) 0 D.dead)))) (BitVec.ofInt 64 (16))))) != 0) (wrap i64 (ofNat (BitVec.toNat (BitVec.and (BitVec.ofInt 64 (wrap i64 (D.num (getD (getD (enS false b) (toNat (4)) []) 0 D.dead)))) (BitVec.ofInt 64 (32))))) != 0) (getD [0, 3, 1, 2] (toNat (wrap i64 (ofNat (BitVec.toNat (BitVec.and (BitVec.ofInt 64 (Int.fdiv (wrap i64 (D.num (getD (getD (enS false b) (toNat (4)) []) 0 D.dead))) (ofNat 4))) (BitVec.ofInt 64 (3))))))) (0)) (Vec.mk (wrap i64 (D.num (getD (getD (enS false b) (toNat (12)) []) 0 D.dead))) (wrap i64 (Int.tdiv (wrap i64 (ofNat (BitVec.toNat (BitVec.or (BitVec.ofInt 64 (wrap i64 (ofNat (BitVec.toNat (BitVec.or (BitVec.ofInt 64 (wrap i64 (ofNat (BitVec.toNat (BitVec.or (BitVec.ofInt 64 (wrap i64 (wrap i64 (D.num (getD (getD (enS false b) (toNat (13)) []) 0 D.dead)) * ofNat 16777216))) (BitVec.ofInt 64 (wrap i64 (wrap i64 (D.num (getD (getD (enS false b) (toNat (14)) []) 0 D.dead)) * ofNat 65536)))))))) (BitVec.ofInt 64 (wrap i64 (wrap i64 (D.num (getD (getD (enS false b) (toNat (15)) []) 0 D.dead)) * ofNat 256)))))))) (BitVec.ofInt 64 (wrap i64 (D.num (getD (getD (enS false b) (toNat (16)) []) 0 D.dead)))))))) (20000))) (wrap i64 (D.num (getD (getD (enS false b) (toNat (24)) []) 0 D.dead))) (wrap i64 (wrap i64 (D.num (getD (getD (enS false b) (toNat (26)) []) 0 D.dead)) - 1))) (wrap i64 (D.num (getD (getD (enS false b) (toNat (27)) []) 0 D.dead)))) then some ([[D.bool false, D.bool false, D.bool false, D.bool false, D.bool false, D.int i64 (0), D.int i64 (0), D.int i64 (0), D.int i64 (0), D.int i64 (0), D.int i64 (0)], [D.bool false]], []) else bif isS UInt8 false (lendRows (enS true (bpduBs (Bpdu.mk (wrap i64 (ofNat (BitVec.toNat (BitVec.and (BitVec.ofInt 64 (wrap i64 (D.num (getD (getD (enS false b) (toNat (4)) []) 0 D.dead)))) (BitVec.ofInt 64 (1))))) != 0) (wrap i64 (ofNat (BitVec.toNat (BitVec.and (BitVec.ofInt 64 (wrap i64 (D.num (getD (getD (enS false b) (toNat (4)) []) 0 D.dead)))) (BitVec.ofInt 64 (2))))) != 0) (wrap i64 (ofNat (BitVec.toNat (BitVec.and (BitVec.ofInt 64 (wrap i64 (D.num (getD (getD (enS false b) (toNat (4)) []) 0 D.dead)))) (BitVec.ofInt 64 (64))))) != 0) (wrap i64 (ofNat (BitVec.toNat (BitVec.and (BitVec.ofInt 64 (wrap i64 (D.num (getD (getD (enS false b) (toNat (4)) []) 0 D.dead)))) (BitVec.ofInt 64 (16))))) != 0) (wrap i64 (ofNat (BitVec.toNat (BitVec.and (BitVec.ofInt 64 (wrap i64 (D.num (getD (getD (enS false b) (toNat (4)) []) 0 D.dead)))) (BitVec.ofInt 64 (32))))) != 0) (getD [0, 3, 1, 2] (toNat (wrap i64 (ofNat (BitVec.toNat (BitVec.and (BitVec.ofInt 64 (Int.fdiv (wrap i64 (D.num (getD (getD (enS false b) (toNat (4)) []) 0 D.dead))) (ofNat 4))) (BitVec.ofInt 64 (3))))))) (0)) (Vec.mk (wrap i64 (D.num (getD (getD (enS false b) (toNat (12)) []) 0 D.dead))) (wrap i64 (Int.tdiv (wrap i64 (ofNat (BitVec.toNat (BitVec.or (BitVec.ofInt 64 (wrap i64 (ofNat (BitVec.toNat (BitVec.or (BitVec.ofInt 64 (wrap i64 (ofNat (BitVec.toNat (BitVec.or (BitVec.ofInt 64 (wrap i64 (wrap i64 (D.num (getD (getD (enS false b) (toNat (13)) []) 0 D.dead)) * ofNat 16777216))) (BitVec.ofInt 64 (wrap i64 (wrap i64 (D.num (getD (getD (enS false b) (toNat (14)) []) 0 D.dead)) * ofNat 65536)))))))) (BitVec.ofInt 64 (wrap i64 (wrap i64 (D.num (getD (getD (enS false b) (toNat (15)) []) 0 D.dead)) * ofNat 256)))))))) (BitVec.ofInt 64 (wrap i64 (D.num (getD (getD (enS false b) (toNat (16)) []) 0 D.dead)))))))) (20000))) (wrap i64 (D.num (getD (getD (enS false b) (toNat (24)) []) 0 D.dead))) (wrap i64 (wrap i64 (D.num (getD (getD (enS false b) (toNat (26)) []) 0 D.dead)) - 1))) (wrap i64 (D.num (getD (getD (enS false b) (toNat (27)) []) 0 D.dead))))))) && isS UInt8 false (enS false b) && true then bif !decide (deS UInt8 (lendRows (enS true (bpduBs (Bpdu.mk (wrap i64 (ofNat (BitVec.toNat (BitVec.and (BitVec.ofInt 64 (wrap i64 (D.num (getD (getD (enS false b) (toNat (4)) []) 0 D.dead)))) (BitVec.ofInt 64 (1))))) != 0) (wrap i64 (ofNat (BitVec.toNat (BitVec.and (BitVec.ofInt 64 (wrap i64 (D.num (getD (getD (enS false b) (toNat (4)) []) 0 D.dead)))) (BitVec.ofInt 64 (2))))) != 0) (wrap i64 (ofNat (BitVec.toNat (BitVec.and (BitVec.ofInt 64 (wrap i64 (D.num (getD (getD (enS false b) (toNat (4)) []) 0 D.dead)))) (BitVec.ofInt 64 (64))))) != 0) (wrap i64 (ofNat (BitVec.toNat (BitVec.and (BitVec.ofInt 64 (wrap i64 (D.num (getD (getD (enS false b) (toNat (4)) []) 0 D.dead)))) (BitVec.ofInt 64 (16))))) != 0) (wrap i64 (ofNat (BitVec.toNat (BitVec.and (BitVec.ofInt 64 (wrap i64 (D.num (getD (getD (enS false b) (toNat (4)) []) 0 D.dead)))) (BitVec.ofInt 64 (32))))) != 0) (getD [0, 3, 1, 2] (toNat (wrap i64 (ofNat (BitVec.toNat (BitVec.and (BitVec.ofInt 64 (Int.fdiv (wrap i64 (D.num (getD (getD (enS false b) (toNat (4)) []) 0 D.dead))) (ofNat 4))) (BitVec.ofInt 64 (3))))))) (0)) (Vec.mk (wrap i64 (D.num (getD (getD (enS false b) (toNat (12)) []) 0 D.dead))) (wrap i64 (Int.tdiv (wrap i64 (ofNat (BitVec.toNat (BitVec.or (BitVec.ofInt 64 (wrap i64 (ofNat (BitVec.toNat (BitVec.or (BitVec.ofInt 64 (wrap i64 (ofNat (BitVec.toNat (BitVec.or (BitVec.ofInt 64 (wrap i64 (wrap i64 (D.num (getD (getD (enS false b) (toNat (13)) []) 0 D.dead)) * ofNat 16777216))) (BitVec.ofInt 64 (wrap i64 (wrap i64 (D.num (getD (getD (enS false b) (toNat (14)) []) 0 D.dead)) * ofNat 65536)))))))) (BitVec.ofInt 64 (wrap i64 (wrap i64 (D.num (getD (getD (enS false b) (toNat (15)) []) 0 D.dead)) * ofNat 256)))))))) (BitVec.ofInt 64 (wrap i64 (D.num (getD (getD (enS false b) (toNat (16)) []) 0 D.dead)))))))) (20000))) (wrap i64 (D.num (getD (getD (enS false b) (toNat (24)) []) 0 D.dead))) (wrap i64 (wrap i64 (D.num (getD (getD (enS false b) (toNat (26)) []) 0 D.dead)) - 1))) (wrap i64 (D.num (getD (getD (enS false b) (toNat (27)) []) 0 D.dead))))))) = deS UInt8 (enS false b)) then some ([[D.bool false, D.bool false, D.bool false, D.bool false, D.bool false, D.int i64 (0), D.int i64 (0), D.int i64 (0), D.int i64 (0), D.int i64 (0), D.int i64 (0)], [D.bool false]], []) else some ([[D.bool (wrap i64 (ofNat (BitVec.toNat (BitVec.and (BitVec.ofInt 64 (wrap i64 (D.num (getD (getD (enS false b) (toNat (4)) []) 0 D.dead)))) (BitVec.ofInt 64 (1))))) != 0), D.bool (wrap i64 (ofNat (BitVec.toNat (BitVec.and (BitVec.ofInt 64 (wrap i64 (D.num (getD (getD (enS false b) (toNat (4)) []) 0 D.dead)))) (BitVec.ofInt 64 (2))))) != 0), D.bool (wrap i64 (ofNat (BitVec.toNat (BitVec.and (BitVec.ofInt 64 (wrap i64 (D.num (getD (getD (enS false b) (toNat (4)) []) 0 D.dead)))) (BitVec.ofInt 64 (64))))) != 0), D.bool (wrap i64 (ofNat (BitVec.toNat (BitVec.and (BitVec.ofInt 64 (wrap i64 (D.num (getD (getD (enS false b) (toNat (4)) []) 0 D.dead)))) (BitVec.ofInt 64 (16))))) != 0), D.bool (wrap i64 (ofNat (BitVec.toNat (BitVec.and (BitVec.ofInt 64 (wrap i64 (D.num (getD (getD (enS false b) (toNat (4)) []) 0 D.dead)))) (BitVec.ofInt 64 (32))))) != 0), D.int i64 (getD [0, 3, 1, 2] (toNat (wrap i64 (ofNat (BitVec.toNat (BitVec.and (BitVec.ofInt 64 (Int.fdiv (wrap i64 (D.num (getD (getD (enS false b) (toNat (4)) []) 0 D.dead))) (ofNat 4))) (BitVec.ofInt 64 (3))))))) (0)), D.int i64 (wrap i64 (D.num (getD (getD (enS false b) (toNat (12)) []) 0 D.dead))), D.int i64 (wrap i64 (Int.tdiv (wrap i64 (ofNat (BitVec.toNat (BitVec.or (BitVec.ofInt 64 (wrap i64 (ofNat (BitVec.toNat (BitVec.or (BitVec.ofInt 64 (wrap i64 (ofNat (BitVec.toNat (BitVec.or (BitVec.ofInt 64 (wrap i64 (wrap i64 (D.num (getD (getD (enS false b) (toNat (13)) []) 0 D.dead)) * ofNat 16777216))) (BitVec.ofInt 64 (wrap i64 (wrap i64 (D.num (getD (getD (enS false b) (toNat (14)) []) 0 D.dead)) * ofNat 65536)))))))) (BitVec.ofInt 64 (wrap i64 (wrap i64 (D.num (getD (getD (enS false b) (toNat (15)) []) 0 D.dead)) * ofNat 256)))))))) (BitVec.ofInt 64 (wrap i64 (D.num (getD (getD (enS false b) (toNat (16)) []) 0 D.dead)))))))) (20000))), D.int i64 (wrap i64 (D.num (getD (getD (enS false b) (toNat (24)) []) 0 D.dead))), D.int i64 (wrap i64 (wrap i64 (D.num (getD (getD (enS false b) (toNat (26)) []) 0 D.dead)) - 1)), D.int i64 (wrap i64 (D.num (getD (getD (enS false b) (toNat (27)) []) 0 D.dead)))], [D.bool true]], []) else none else none else none else none else none else none else none else none else none else none else none else none else none else none else none else none else none else none else none else none := by kernel_rfl
theorem m31 (b : List UInt8) (hpre : (o31 b).1 = true) : evFn ⟨Go.Proofs.Try.prog, Hx, 31⟩ T70.call 0 f31 [[.sl false 1 (enS false b)]] = some (o31 b).2 := by
  refine (r31 b _).trans ?_
  show _ = (some ([[.bool ((bpM b).1).Change, .bool ((bpM b).1).Ask, .bool ((bpM b).1).Agree, .bool ((bpM b).1).Learn, .bool ((bpM b).1).Open, .int .i64 ((bpM b).1).Role, .int .i64 ((bpM b).1).Vec.Root, .int .i64 ((bpM b).1).Vec.Cost, .int .i64 ((bpM b).1).Vec.Bridge, .int .i64 ((bpM b).1).Vec.Port, .int .i64 ((bpM b).1).Hops], [.bool ((bpM b).2)]], []) : Option (List Row × List Row))
  replace hpre : (decide (b.length ≤ 1048576)) = true := hpre
  by_cases h : b.length = 36
  case neg =>
    refine bif_t (by rw [enS_length, bne_iff_ne]; show ((b.length : Nat) : Int) ≠ 36; omega) ?_
    unfold bpM
    rw [decide_eq_false h]
    rfl
  have hl36 : (enS false b).length = 36 := by rw [enS_length]; exact h
  refine bif_f (by rw [hl36]; rfl) (bif_t (by rw [hl36]; rfl) (bif_t (fitB b 4 (by omega)) (bif_t (by rw [hl36]; rfl) (bif_t (fitB b 13 (by omega)) (bif_t (by rw [hl36]; rfl) (bif_t (fitB b 14 (by omega)) (bif_t (by rw [hl36]; rfl) (bif_t (fitB b 15 (by omega)) (bif_t (by rw [hl36]; rfl) (bif_t (fitB b 16 (by omega)) (bif_t (bpIx_ok (gB b 4)) (bif_t (by rw [hl36]; rfl) (bif_t (fitB b 12 (by omega)) (bif_t (by rw [hl36]; rfl) (bif_t (fitB b 24 (by omega)) (bif_t (by rw [hl36]; rfl) (bif_t (fitB b 26 (by omega)) (bif_t (by rw [hl36]; rfl) (bif_t (fitB b 27 (by omega)) ?_)))))))))))))))))))
  show (bif !bpduOk (bpX b) then _ else bif isS UInt8 false (lendRows (enS true (bpduBs (bpX b)))) && isS UInt8 false (enS false b) && true then bif !decide (deS UInt8 (lendRows (enS true (bpduBs (bpX b)))) = deS UInt8 (enS false b)) then _ else _ else none) = _
  simp only [lendRows_enS, isS_enS, deS_enS, Bool.and_self, Bool.and_true, cond_true]
  unfold bpM
  rw [decide_eq_true h, Bool.true_and]
  cases bpduOk (bpX b)
  · rfl
  · cases decide (bpduBs (bpX b) = b) <;> rfl
theorem s31 : SoundAt Go.Proofs.Try.prog Hx 31 c31 := soundAt_of T70_sound mixed func31 (by kernel_rfl) (by
  intro rows r h
  unfold c31 at h
  split at h
  · rename_i b
    obtain ⟨hp, hr⟩ := Prod.mk.inj (Option.some.inj h)
    subst hr
    simp only [Bool.and_eq_true] at hp
    obtain ⟨hs0, hp⟩ := hp
    obtain ⟨xs0, rfl⟩ := isS_ex hs0
    simp only [deS_enS] at hp ⊢
    exact ⟨_, m31 xs0 hp⟩
  · cases h)
def T31 : Table := (31, c31) :: T70
theorem T31_sound : Table.Sound Go.Proofs.Try.prog Hx T31 := Table.sound_cons s31 T70_sound
def o32 (b : List UInt8) : Bool × List Row × List Row := (decide (b.length ≤ 1048576), [[.bool ((bpM b).1).Change, .bool ((bpM b).1).Ask, .bool ((bpM b).1).Agree, .bool ((bpM b).1).Learn, .bool ((bpM b).1).Open, .int .i64 ((bpM b).1).Role, .int .i64 ((bpM b).1).Vec.Root, .int .i64 ((bpM b).1).Vec.Cost, .int .i64 ((bpM b).1).Vec.Bridge, .int .i64 ((bpM b).1).Vec.Port, .int .i64 ((bpM b).1).Hops], [.bool ((bpM b).2)]], [])
def c32 : Contract
  | [[.sl false 1 b]] => some (isS UInt8 false b && (o32 (deS UInt8 b)).1, (o32 (deS UInt8 b)).2.1, (o32 (deS UInt8 b)).2.2)
  | _ => none

theorem r32 (b : List UInt8) (n : Nat) : evFn ⟨prog, Hx, 32⟩ T31.call n f32 [[.sl false 1 (enS false b)]] = bif ofNat (length (enS false b)) != 36 then some ([[D.bool false, D.bool false, D.bool false, D.bool false, D.bool false, D.int i64 (0), D.int i64 (0), D.int i64 (0), D.int i64 (0), D.int i64 (0), D.int i64 (0)], [D.bool false]], []) else bif decide (4 < ofNat (length (enS false b))) then bif Leaf.fit false (Leaf.int IntKind.u8) (getD (getD (enS false b) (toNat (4)) []) 0 D.dead) && true then bif decide (13 < ofNat (length (enS false b))) then bif Leaf.fit false (Leaf.int IntKind.u8) (getD (getD (enS false b) (toNat (13)) []) 0 D.dead) && true then bif decide (14 < ofNat (length (enS false b))) then bif Leaf.fit false (Leaf.int IntKind.u8) (getD (getD (enS false b) (toNat (14)) []) 0 D.dead) && true then bif decide (15 < ofNat (length (enS false b))) then bif Leaf.fit false (Leaf.int IntKind.u8) (getD (getD (enS false b) (toNat (15)) []) 0 D.dead) && true then bif decide (16 < ofNat (length (enS false b))) then bif Leaf.fit false (Leaf.int IntKind.u8) (getD (getD (enS false b) (toNat (16)) []) 0 D.dead) && true then bif decide (27 < ofNat (length (enS false b))) then bif Leaf.fit false (Leaf.int IntKind.u8) (getD (getD (enS false b) (toNat (27)) []) 0 D.dead) && true then bif decide (0 ≤ wrap i64 (ofNat (BitVec.toNat (BitVec.and (BitVec.ofInt 64 (Int.fdiv (wrap i64 (D.num (getD (getD (enS false b) (toNat (4)) []) 0 D.dead))) (ofNat 4))) (BitVec.ofInt 64 (3)))))) && decide (wrap i64 (ofNat (BitVec.toNat (BitVec.and (BitVec.ofInt 64 (Int.fdiv (wrap i64 (D.num (getD (getD (enS false b) (toNat (4)) []) 0 D.dead))) (ofNat 4))) (BitVec.ofInt 64 (3))))) < ofNat 4) then bif Leaf.fit true (Leaf.int i64) (getD (getD [[D.int i64 (0)], [D.int i64 (3)], [D.int i64 (1)], [D.int i64 (2)]] (0 + toNat (wrap i64 (ofNat (BitVec.toNat (BitVec.and (BitVec.ofInt 64 (Int.fdiv (wrap i64 (D.num (getD (getD (enS false b) (toNat (4)) []) 0 D.dead))) (ofNat 4))) (BitVec.ofInt 64 (3))))))) []) 0 D.dead) && true then bif decide (12 < ofNat (length (enS false b))) then bif Leaf.fit false (Leaf.int IntKind.u8) (getD (getD (enS false b) (toNat (12)) []) 0 D.dead) && true then bif decide (24 < ofNat (length (enS false b))) then bif Leaf.fit false (Leaf.int IntKind.u8) (getD (getD (enS false b) (toNat (24)) []) 0 D.dead) && true then bif decide (26 < ofNat (length (enS false b))) then bif Leaf.fit false (Leaf.int IntKind.u8) (getD (getD (enS false b) (toNat (26)) []) 0 D.dead) && true then bif all (enS true (bpduBs (Bpdu.mk (wrap i64 (ofNat (BitVec.toNat (BitVec.and (BitVec.ofInt 64 (wrap i64 (D.num (getD (getD (enS false b) (toNat (4)) []) 0 D.dead)))) (BitVec.ofInt 64 (1))))) != 0) (wrap i64 (ofNat (BitVec.toNat (BitVec.and (BitVec.ofInt 64 (wrap i64 (D.num (getD (getD (enS false b) (toNat (4)) []) 0 D.dead)))) (BitVec.ofInt 64 (2))))) != 0) (wrap i64 (ofNat (BitVec.toNat (BitVec.and (BitVec.ofInt 64 (wrap i64 (D.num (getD (getD (enS false b) (toNat (4)) []) 0 D.dead)))) (BitVec.ofInt 64 (64))))) != 0) (wrap i64 (ofNat (BitVec.toNat (BitVec.and (BitVec.ofInt 64 (wrap i64 (D.num (getD (getD (enS false b) (toNat (4)) []) 0 D.dead)))) (BitVec.ofInt 64 (16))))) != 0) (wrap i64 (ofNat (BitVec.toNat (BitVec.and (BitVec.ofInt 64 (wrap i64 (D.num (getD (getD (enS false b) (toNat (4)) []) 0 D.dead)))) (BitVec.ofInt 64 (32))))) != 0) (D.num (getD (getD [[D.int i64 (0)], [D.int i64 (3)], [D.int i64 (1)], [D.int i64 (2)]] (0 + toNat (wrap i64 (ofNat (BitVec.toNat (BitVec.and (BitVec.ofInt 64 (Int.fdiv (wrap i64 (D.num (getD (getD (enS false b) (toNat (4)) []) 0 D.dead))) (ofNat 4))) (BitVec.ofInt 64 (3))))))) []) 0 D.dead)) (Vec.mk (wrap i64 (D.num (getD (getD (enS false b) (toNat (12)) []) 0 D.dead))) (wrap i64 (Int.tdiv (wrap i64 (ofNat (BitVec.toNat (BitVec.or (BitVec.ofInt 64 (wrap i64 (ofNat (BitVec.toNat (BitVec.or (BitVec.ofInt 64 (wrap i64 (ofNat (BitVec.toNat (BitVec.or (BitVec.ofInt 64 (wrap i64 (wrap i64 (D.num (getD (getD (enS false b) (toNat (13)) []) 0 D.dead)) * ofNat 16777216))) (BitVec.ofInt 64 (wrap i64 (wrap i64 (D.num (getD (getD (enS false b) (toNat (14)) []) 0 D.dead)) * ofNat 65536)))))))) (BitVec.ofInt 64 (wrap i64 (wrap i64 (D.num (getD (getD (enS false b) (toNat (15)) []) 0 D.dead)) * ofNat 256)))))))) (BitVec.ofInt 64 (wrap i64 (D.num (getD (getD (enS false b) (toNat (16)) []) 0 D.dead)))))))) (20000))) (wrap i64 (D.num (getD (getD (enS false b) (toNat (24)) []) 0 D.dead))) (wrap i64 (wrap i64 (D.num (getD (getD (enS false b) (toNat (26)) []) 0 D.dead)) - 1))) (wrap i64 (D.num (getD (getD (enS false b) (toNat (27)) []) 0 D.dead)))))) fun r ↦ fits true [Leaf.int IntKind.u8] r then bif all (enS false b) fun r ↦ fits true [Leaf.int IntKind.u8] r then bif !ByteArray.toList (ByteArray.mk (Array.mk (List.map (fun r ↦ Nat.toUInt8 (toNat (D.num (getD r (0) D.dead)))) (enS true (bpduBs (Bpdu.mk (wrap i64 (ofNat (BitVec.toNat (BitVec.and (BitVec.ofInt 64 (wrap i64 (D.num (getD (getD (enS false b) (toNat (4)) []) 0 D.dead)))) (BitVec.ofInt 64 (1))))) != 0) (wrap i64 (ofNat (BitVec.toNat (BitVec.and (BitVec.ofInt 64 (wrap i64 (D.num (getD (getD (enS false b) (toNat (4)) []) 0 D.dead)))) (BitVec.ofInt 64 (2))))) != 0) (wrap i64 (ofNat (BitVec.toNat (BitVec.and (BitVec.ofInt 64 (wrap i64 (D.num (getD (getD (enS false b) (toNat (4)) []) 0 D.dead)))) (BitVec.ofInt 64 (64))))) != 0) (wrap i64 (ofNat (BitVec.toNat (BitVec.and (BitVec.ofInt 64 (wrap i64 (D.num (getD (getD (enS false b) (toNat (4)) []) 0 D.dead)))) (BitVec.ofInt 64 (16))))) != 0) (wrap i64 (ofNat (BitVec.toNat (BitVec.and (BitVec.ofInt 64 (wrap i64 (D.num (getD (getD (enS false b) (toNat (4)) []) 0 D.dead)))) (BitVec.ofInt 64 (32))))) != 0) (D.num (getD (getD [[D.int i64 (0)], [D.int i64 (3)], [D.int i64 (1)], [D.int i64 (2)]] (0 + toNat (wrap i64 (ofNat (BitVec.toNat (BitVec.and (BitVec.ofInt 64 (Int.fdiv (wrap i64 (D.num (getD (getD (enS false b) (toNat (4)) []) 0 D.dead))) (ofNat 4))) (BitVec.ofInt 64 (3))))))) []) 0 D.dead)) (Vec.mk (wrap i64 (D.num (getD (getD (enS false b) (toNat (12)) []) 0 D.dead))) (wrap i64 (Int.tdiv (wrap i64 (ofNat (BitVec.toNat (BitVec.or (BitVec.ofInt 64 (wrap i64 (ofNat (BitVec.toNat (BitVec.or (BitVec.ofInt 64 (wrap i64 (ofNat (BitVec.toNat (BitVec.or (BitVec.ofInt 64 (wrap i64 (wrap i64 (D.num (getD (getD (enS false b) (toNat (13)) []) 0 D.dead)) * ofNat 16777216))) (BitVec.ofInt 64 (wrap i64 (wrap i64 (D.num (getD (getD (enS false b) (toNat (14)) []) 0 D.dead)) * ofNat 65536)))))))) (BitVec.ofInt 64 (wrap i64 (wrap i64 (D.num (getD (getD (enS false b) (toNat (15)) []) 0 D.dead)) * ofNat 256)))))))) (BitVec.ofInt 64 (wrap i64 (D.num (getD (getD (enS false b) (toNat (16)) []) 0 D.dead)))))))) (20000))) (wrap i64 (D.num (getD (getD (enS false b) (toNat (24)) []) 0 D.dead))) (wrap i64 (wrap i64 (D.num (getD (getD (enS false b) (toNat (26)) []) 0 D.dead)) - 1))) (wrap i64 (D.num (getD (getD (enS false b) (toNat (27)) []) 0 D.dead))))))))) == ByteArray.toList (ByteArray.mk (Array.mk (List.map (fun r ↦ Nat.toUInt8 (toNat (D.num (getD r (0) D.dead)))) (enS false b)))) then some ([[D.bool false, D.bool false, D.bool false, D.bool false, D.bool false, D.int i64 (0), D.int i64 (0), D.int i64 (0), D.int i64 (0), D.int i64 (0), D.int i64 (0)], [D.bool false]], []) else some ([[D.bool (wrap i64 (ofNat (BitVec.toNat (BitVec.and (BitVec.ofInt 64 (wrap i64 (D.num (getD (getD (enS false b) (toNat (4)) []) 0 D.dead)))) (BitVec.ofInt 64 (1))))) != 0), D.bool (wrap i64 (ofNat (BitVec.toNat (BitVec.and (BitVec.ofInt 64 (wrap i64 (D.num (getD (getD (enS false b) (toNat (4)) []) 0 D.dead)))) (BitVec.ofInt 64 (2))))) != 0), D.bool (wrap i64 (ofNat (BitVec.toNat (BitVec.and (BitVec.ofInt 64 (wrap i64 (D.num (getD (getD (enS false b) (toNat (4)) []) 0 D.dead)))) (BitVec.ofInt 64 (64))))) != 0), D.bool (wrap i64 (ofNat (BitVec.toNat (BitVec.and (BitVec.ofInt 64 (wrap i64 (D.num (getD (getD (enS false b) (toNat (4)) []) 0 D.dead)))) (BitVec.ofInt 64 (16))))) != 0), D.bool (wrap i64 (ofNat (BitVec.toNat (BitVec.and (BitVec.ofInt 64 (wrap i64 (D.num (getD (getD (enS false b) (toNat (4)) []) 0 D.dead)))) (BitVec.ofInt 64 (32))))) != 0), D.int i64 (D.num (getD (getD [[D.int i64 (0)], [D.int i64 (3)], [D.int i64 (1)], [D.int i64 (2)]] (0 + toNat (wrap i64 (ofNat (BitVec.toNat (BitVec.and (BitVec.ofInt 64 (Int.fdiv (wrap i64 (D.num (getD (getD (enS false b) (toNat (4)) []) 0 D.dead))) (ofNat 4))) (BitVec.ofInt 64 (3))))))) []) 0 D.dead)), D.int i64 (wrap i64 (D.num (getD (getD (enS false b) (toNat (12)) []) 0 D.dead))), D.int i64 (wrap i64 (Int.tdiv (wrap i64 (ofNat (BitVec.toNat (BitVec.or (BitVec.ofInt 64 (wrap i64 (ofNat (BitVec.toNat (BitVec.or (BitVec.ofInt 64 (wrap i64 (ofNat (BitVec.toNat (BitVec.or (BitVec.ofInt 64 (wrap i64 (wrap i64 (D.num (getD (getD (enS false b) (toNat (13)) []) 0 D.dead)) * ofNat 16777216))) (BitVec.ofInt 64 (wrap i64 (wrap i64 (D.num (getD (getD (enS false b) (toNat (14)) []) 0 D.dead)) * ofNat 65536)))))))) (BitVec.ofInt 64 (wrap i64 (wrap i64 (D.num (getD (getD (enS false b) (toNat (15)) []) 0 D.dead)) * ofNat 256)))))))) (BitVec.ofInt 64 (wrap i64 (D.num (getD (getD (enS false b) (toNat (16)) []) 0 D.dead)))))))) (20000))), D.int i64 (wrap i64 (D.num (getD (getD (enS false b) (toNat (24)) []) 0 D.dead))), D.int i64 (wrap i64 (wrap i64 (D.num (getD (getD (enS false b) (toNat (26)) []) 0 D.dead)) - 1)), D.int i64 (wrap i64 (D.num (getD (getD (enS false b) (toNat (27)) []) 0 D.dead)))], [D.bool true]], []) else none else none else none else none else none else none else none else none else none else none else none else none else none else none else none else none else none else none else none else none else none else none := by kernel_rfl
theorem m32 (b : List UInt8) (hpre : (o32 b).1 = true) : evFn ⟨Go.Proofs.Try.prog, Hx, 32⟩ T31.call 0 f32 [[.sl false 1 (enS false b)]] = some (o32 b).2 := by
  refine (r32 b _).trans ?_
  show _ = (some ([[.bool ((bpM b).1).Change, .bool ((bpM b).1).Ask, .bool ((bpM b).1).Agree, .bool ((bpM b).1).Learn, .bool ((bpM b).1).Open, .int .i64 ((bpM b).1).Role, .int .i64 ((bpM b).1).Vec.Root, .int .i64 ((bpM b).1).Vec.Cost, .int .i64 ((bpM b).1).Vec.Bridge, .int .i64 ((bpM b).1).Vec.Port, .int .i64 ((bpM b).1).Hops], [.bool ((bpM b).2)]], []) : Option (List Row × List Row))
  replace hpre : (decide (b.length ≤ 1048576)) = true := hpre
  by_cases h : b.length = 36
  case neg =>
    refine bif_t (by rw [enS_length, bne_iff_ne]; show ((b.length : Nat) : Int) ≠ 36; omega) ?_
    unfold bpM
    rw [decide_eq_false h]
    rfl
  have hl36 : (enS false b).length = 36 := by rw [enS_length]; exact h
  have ht := (bpTab (bpIx (gB b 4)).toNat (by have := bpIx_in (gB b 4); omega)).1
  refine bif_f (by rw [hl36]; rfl) (bif_t (by rw [hl36]; rfl) (bif_t (fitB b 4 (by omega)) (bif_t (by rw [hl36]; rfl) (bif_t (fitB b 13 (by omega)) (bif_t (by rw [hl36]; rfl) (bif_t (fitB b 14 (by omega)) (bif_t (by rw [hl36]; rfl) (bif_t (fitB b 15 (by omega)) (bif_t (by rw [hl36]; rfl) (bif_t (fitB b 16 (by omega)) (bif_t (by rw [hl36]; rfl) (bif_t (fitB b 27 (by omega)) (bif_t (bpIx_ok (gB b 4)) (bif_t (bpTab (bpIx (gB b 4)).toNat (by have := bpIx_in (gB b 4); omega)).2 (bif_t (by rw [hl36]; rfl) (bif_t (fitB b 12 (by omega)) (bif_t (by rw [hl36]; rfl) (bif_t (fitB b 24 (by omega)) (bif_t (by rw [hl36]; rfl) (bif_t (fitB b 26 (by omega)) ?_))))))))))))))))))))
  have hx : ∀ r : Int, r = bpRole (gB b 4) → (⟨bpBit (gB b 4) 1, bpBit (gB b 4) 2, bpBit (gB b 4) 64, bpBit (gB b 4) 16, bpBit (gB b 4) 32, r, ⟨gB b 12, bpCost b, gB b 24, IntKind.wrap IntKind.i64 (gB b 26 - 1)⟩, gB b 27⟩ : Bpdu) = bpX b := fun r hr => by rw [hr]; rfl
  show (bif (enS true (bpduBs ⟨bpBit (gB b 4) 1, bpBit (gB b 4) 2, bpBit (gB b 4) 64, bpBit (gB b 4) 16, bpBit (gB b 4) 32, D.num (List.getD (List.getD [[D.int .i64 0], [D.int .i64 3], [D.int .i64 1], [D.int .i64 2]] (0 + (bpIx (gB b 4)).toNat) []) 0 D.dead), ⟨gB b 12, bpCost b, gB b 24, IntKind.wrap IntKind.i64 (gB b 26 - 1)⟩, gB b 27⟩)).all (fun r => fits true [Leaf.int .u8] r) then (bif (enS false b).all (fun r => fits true [Leaf.int .u8] r) then (bif !(ByteArray.toList (ByteArray.mk (Array.mk ((enS true (bpduBs ⟨bpBit (gB b 4) 1, bpBit (gB b 4) 2, bpBit (gB b 4) 64, bpBit (gB b 4) 16, bpBit (gB b 4) 32, D.num (List.getD (List.getD [[D.int .i64 0], [D.int .i64 3], [D.int .i64 1], [D.int .i64 2]] (0 + (bpIx (gB b 4)).toNat) []) 0 D.dead), ⟨gB b 12, bpCost b, gB b 24, IntKind.wrap IntKind.i64 (gB b 26 - 1)⟩, gB b 27⟩)).map (fun r => Nat.toUInt8 (Int.toNat (D.num (List.getD r 0 D.dead))))))) == ByteArray.toList (ByteArray.mk (Array.mk ((enS false b).map (fun r => Nat.toUInt8 (Int.toNat (D.num (List.getD r 0 D.dead)))))))) then _ else (some ([[D.bool (bpBit (gB b 4) 1), D.bool (bpBit (gB b 4) 2), D.bool (bpBit (gB b 4) 64), D.bool (bpBit (gB b 4) 16), D.bool (bpBit (gB b 4) 32), D.int .i64 (D.num (List.getD (List.getD [[D.int .i64 0], [D.int .i64 3], [D.int .i64 1], [D.int .i64 2]] (0 + (bpIx (gB b 4)).toNat) []) 0 D.dead)), D.int .i64 (gB b 12), D.int .i64 (bpCost b), D.int .i64 (gB b 24), D.int .i64 (IntKind.wrap IntKind.i64 (gB b 26 - 1)), D.int .i64 (gB b 27)], [D.bool true]], []))) else none) else none) = _
  rw [ht, hx (List.getD [0, 3, 1, 2] (bpIx (gB b 4)).toNat 0) rfl, fitU, fitU, keyU, keyU, strU, cond_true, cond_true]
  unfold bpM
  rw [decide_eq_true h, Bool.true_and]
  cases hd : decide (bpduBs (bpX b) = b)
  · cases bpduOk (bpX b) <;> rfl
  · have hok : bpduOk (bpX b) = true := by
      cases hk : bpduOk (bpX b)
      · have he := of_decide_eq_true hd
        unfold bpduBs at he
        rw [hk] at he
        rw [← he] at h
        cases h
      · rfl
    rw [hok]
    rfl
theorem s32 : SoundAt Go.Proofs.Try.prog Hx 32 c32 := soundAt_of T31_sound mixed func32 (by kernel_rfl) (by
  intro rows r h
  unfold c32 at h
  split at h
  · rename_i b
    obtain ⟨hp, hr⟩ := Prod.mk.inj (Option.some.inj h)
    subst hr
    simp only [Bool.and_eq_true] at hp
    obtain ⟨hs0, hp⟩ := hp
    obtain ⟨xs0, rfl⟩ := isS_ex hs0
    simp only [deS_enS] at hp ⊢
    exact ⟨_, m32 xs0 hp⟩
  · cases h)
def T32 : Table := (32, c32) :: T31
theorem T32_sound : Table.Sound Go.Proofs.Try.prog Hx T32 := Table.sound_cons s32 T31_sound
end Go.Ev
end
