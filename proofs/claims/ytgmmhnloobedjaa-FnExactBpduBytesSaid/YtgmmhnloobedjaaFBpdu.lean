/- Contracts of functions, each by its evaluation. -/
import Derived.Test.YtgmmhnloobedjaaEvMd
import Derived.Test.YtgmmhnloobedjaaProg
import Derived.KernelRfl
import Derived.Test.YtgmmhnloobedjaaFBase
noncomputable section
namespace Go.Ev
open Go.RowKit Go.Md
set_option linter.unusedVariables false
set_option linter.unusedSimpArgs false
set_option maxRecDepth 100000
end Go.Ev
namespace Go.Md
open Go Go.Ev
def idB (n : Int) : List UInt8 := [128, 0, 0, 0, 0, 0, 0, u8 n]
theorem bpdu_cost {b : Bpdu} (h : bpduOk b = true) : (0 ≤ b.Vec.Cost ∧ b.Vec.Cost ≤ 20) ∧ 0 ≤ b.Vec.Port ∧ b.Vec.Port ≤ 3 := by
  unfold bpduOk vecOk isPortB inR at h
  simp only [Bool.and_eq_true, decide_eq_true_eq] at h
  omega
def bpduBs (b : Bpdu) : List UInt8 := bif bpduOk b then [0, 0, 2, 2, u8 (flagsOf b)] ++ idB b.Vec.Root ++ [u8 ((b.Vec.Cost * 20000).fdiv 16777216), u8 ((b.Vec.Cost * 20000).fdiv 65536), u8 ((b.Vec.Cost * 20000).fdiv 256), u8 (b.Vec.Cost * 20000)] ++ idB b.Vec.Bridge ++ [128, u8 (b.Vec.Port + 1), u8 b.Hops, 0, 8, 0, 2, 0, 15, 0, 0] else []
end Go.Md
namespace Go.Ev
open Go.Md
/- idBytes -/
def o58 (id : Int) : Bool × List Row × List Row := (true, [[.sl true 1 (enS true (idB id))]], [])
def c58 : Contract
  | [[.int .i64 id]] => some ((o58 id).1, (o58 id).2.1, (o58 id).2.2)
  | _ => none

theorem r58 (id : Int) (n : Nat) : evFn ⟨Go.Proofs.Try.prog, Hx, 58⟩ T44.call n Go.Proofs.Try.f58 [[.int .i64 id]] = some ([[D.sl true 1 [[D.int IntKind.u8 (128)], [D.int IntKind.u8 (0)], [D.int IntKind.u8 (0)], [D.int IntKind.u8 (0)], [D.int IntKind.u8 (0)], [D.int IntKind.u8 (0)], [D.int IntKind.u8 (0)], [D.int IntKind.u8 (IntKind.wrap IntKind.u8 id)]]]], []) := by kernel_rfl
theorem m58 (id : Int) (hpre : (o58 id).1 = true) : evFn ⟨Go.Proofs.Try.prog, Hx, 58⟩ T44.call 0 Go.Proofs.Try.f58 [[.int .i64 id]] = some (o58 id).2 := by
  refine (r58 id _).trans ?_
  show _ = (some ([[.sl true 1 (enS true (idB id))]], []) : Option (List Row × List Row))
  replace hpre : (true) = true := hpre
  unfold idB
  rw [← u8_enc true]
  rfl
theorem s58 : SoundAt Go.Proofs.Try.prog Hx 58 c58 := soundAt_of T44_sound mixed Go.Proofs.Try.func58 (by kernel_rfl) (by
  intro rows r h
  unfold c58 at h
  split at h
  · rename_i id
    obtain ⟨hp, hr⟩ := Prod.mk.inj (Option.some.inj h)
    subst hr
    exact ⟨_, m58 id hp⟩
  · cases h)
def T58 : Table := (58, c58) :: T44
theorem T58_sound : Table.Sound Go.Proofs.Try.prog Hx T58 := Table.sound_cons s58 T44_sound
/- l19Who -/
def o57 (n_ : Int) : Bool × List Row × List Row := (true, [[.sl true 1 (enS true (idB n_))]], [])
def c57 : Contract
  | [[.int .i64 n_]] => some ((o57 n_).1, (o57 n_).2.1, (o57 n_).2.2)
  | _ => none

theorem r57 (n_ : Int) (n : Nat) : evFn ⟨Go.Proofs.Try.prog, Hx, 57⟩ T58.call n Go.Proofs.Try.f57 [[.int .i64 n_]] = some ([[D.sl true 1 [[D.int IntKind.u8 (128)], [D.int IntKind.u8 (0)], [D.int IntKind.u8 (0)], [D.int IntKind.u8 (0)], [D.int IntKind.u8 (0)], [D.int IntKind.u8 (0)], [D.int IntKind.u8 (0)], [D.int IntKind.u8 (IntKind.wrap IntKind.u8 n_)]]]], []) := by kernel_rfl
theorem m57 (n_ : Int) (hpre : (o57 n_).1 = true) : evFn ⟨Go.Proofs.Try.prog, Hx, 57⟩ T58.call 0 Go.Proofs.Try.f57 [[.int .i64 n_]] = some (o57 n_).2 := by
  refine (r57 n_ _).trans ?_
  show _ = (some ([[.sl true 1 (enS true (idB n_))]], []) : Option (List Row × List Row))
  replace hpre : (true) = true := hpre
  unfold idB
  rw [← u8_enc true]
  rfl
theorem s57 : SoundAt Go.Proofs.Try.prog Hx 57 c57 := soundAt_of T58_sound mixed Go.Proofs.Try.func57 (by kernel_rfl) (by
  intro rows r h
  unfold c57 at h
  split at h
  · rename_i n_
    obtain ⟨hp, hr⟩ := Prod.mk.inj (Option.some.inj h)
    subst hr
    exact ⟨_, m57 n_ hp⟩
  · cases h)
def T57 : Table := (57, c57) :: T58
theorem T57_sound : Table.Sound Go.Proofs.Try.prog Hx T57 := Table.sound_cons s57 T58_sound
/- BpduBytes -/
def o32 (b : Bpdu) : Bool × List Row × List Row := (true, [[.sl true 1 (enS true (bpduBs b))]], [])
def c32 : Contract
  | [[.bool b_Change, .bool b_Ask, .bool b_Agree, .bool b_Learn, .bool b_Open, .int .i64 b_Role, .int .i64 b_Vec_Root, .int .i64 b_Vec_Cost, .int .i64 b_Vec_Bridge, .int .i64 b_Vec_Port, .int .i64 b_Hops]] => some ((o32 ⟨b_Change, b_Ask, b_Agree, b_Learn, b_Open, b_Role, ⟨b_Vec_Root, b_Vec_Cost, b_Vec_Bridge, b_Vec_Port⟩, b_Hops⟩).1, (o32 ⟨b_Change, b_Ask, b_Agree, b_Learn, b_Open, b_Role, ⟨b_Vec_Root, b_Vec_Cost, b_Vec_Bridge, b_Vec_Port⟩, b_Hops⟩).2.1, (o32 ⟨b_Change, b_Ask, b_Agree, b_Learn, b_Open, b_Role, ⟨b_Vec_Root, b_Vec_Cost, b_Vec_Bridge, b_Vec_Port⟩, b_Hops⟩).2.2)
  | _ => none

theorem r32 (b : Bpdu) (n : Nat) : evFn ⟨Go.Proofs.Try.prog, Hx, 32⟩ T57.call n Go.Proofs.Try.f32 [[.bool b.Change, .bool b.Ask, .bool b.Agree, .bool b.Learn, .bool b.Open, .int .i64 b.Role, .int .i64 b.Vec.Root, .int .i64 b.Vec.Cost, .int .i64 b.Vec.Bridge, .int .i64 b.Vec.Port, .int .i64 b.Hops]] = bif !bpduOk b then some ([[D.sl true 1 []]], []) else bif (List.all (enS true (idB (Vec.Root (Bpdu.Vec b)))) fun r ↦ List.all r D.noSl) && true && decide ((5 + List.length (enS true (idB (Vec.Root (Bpdu.Vec b))))) * 1 ≤ 140737488355328) then bif decide ((List.length ([D.int IntKind.u8 (0)] :: [D.int IntKind.u8 (0)] :: [D.int IntKind.u8 (2)] :: [D.int IntKind.u8 (2)] :: [D.int IntKind.u8 (IntKind.wrap IntKind.u8 (flagsOf b))] :: enS true (idB (Vec.Root (Bpdu.Vec b)))) + 4) * 1 ≤ 140737488355328) then bif (List.all (enS true (idB (Vec.Bridge (Bpdu.Vec b)))) fun r ↦ List.all r D.noSl) && true && decide ((List.length ([D.int IntKind.u8 (0)] :: [D.int IntKind.u8 (0)] :: [D.int IntKind.u8 (2)] :: [D.int IntKind.u8 (2)] :: [D.int IntKind.u8 (IntKind.wrap IntKind.u8 (flagsOf b))] :: List.append (enS true (idB (Vec.Root (Bpdu.Vec b)))) [[D.int IntKind.u8 (IntKind.wrap IntKind.u8 (Int.fdiv (IntKind.wrap IntKind.i64 (Vec.Cost (Bpdu.Vec b) * 20000)) (Int.ofNat 16777216)))], [D.int IntKind.u8 (IntKind.wrap IntKind.u8 (Int.fdiv (IntKind.wrap IntKind.i64 (Vec.Cost (Bpdu.Vec b) * 20000)) (Int.ofNat 65536)))], [D.int IntKind.u8 (IntKind.wrap IntKind.u8 (Int.fdiv (IntKind.wrap IntKind.i64 (Vec.Cost (Bpdu.Vec b) * 20000)) (Int.ofNat 256)))], [D.int IntKind.u8 (IntKind.wrap IntKind.u8 (IntKind.wrap IntKind.i64 (Vec.Cost (Bpdu.Vec b) * 20000)))]]) + List.length (enS true (idB (Vec.Bridge (Bpdu.Vec b))))) * 1 ≤ 140737488355328) then bif decide ((List.length ([D.int IntKind.u8 (0)] :: [D.int IntKind.u8 (0)] :: [D.int IntKind.u8 (2)] :: [D.int IntKind.u8 (2)] :: [D.int IntKind.u8 (IntKind.wrap IntKind.u8 (flagsOf b))] :: List.append (List.append (enS true (idB (Vec.Root (Bpdu.Vec b)))) [[D.int IntKind.u8 (IntKind.wrap IntKind.u8 (Int.fdiv (IntKind.wrap IntKind.i64 (Vec.Cost (Bpdu.Vec b) * 20000)) (Int.ofNat 16777216)))], [D.int IntKind.u8 (IntKind.wrap IntKind.u8 (Int.fdiv (IntKind.wrap IntKind.i64 (Vec.Cost (Bpdu.Vec b) * 20000)) (Int.ofNat 65536)))], [D.int IntKind.u8 (IntKind.wrap IntKind.u8 (Int.fdiv (IntKind.wrap IntKind.i64 (Vec.Cost (Bpdu.Vec b) * 20000)) (Int.ofNat 256)))], [D.int IntKind.u8 (IntKind.wrap IntKind.u8 (IntKind.wrap IntKind.i64 (Vec.Cost (Bpdu.Vec b) * 20000)))]]) (enS true (idB (Vec.Bridge (Bpdu.Vec b))))) + 11) * 1 ≤ 140737488355328) then some ([[D.sl true 1 ([D.int IntKind.u8 (0)] :: [D.int IntKind.u8 (0)] :: [D.int IntKind.u8 (2)] :: [D.int IntKind.u8 (2)] :: [D.int IntKind.u8 (IntKind.wrap IntKind.u8 (flagsOf b))] :: List.append (List.append (List.append (enS true (idB (Vec.Root (Bpdu.Vec b)))) [[D.int IntKind.u8 (IntKind.wrap IntKind.u8 (Int.fdiv (IntKind.wrap IntKind.i64 (Vec.Cost (Bpdu.Vec b) * 20000)) (Int.ofNat 16777216)))], [D.int IntKind.u8 (IntKind.wrap IntKind.u8 (Int.fdiv (IntKind.wrap IntKind.i64 (Vec.Cost (Bpdu.Vec b) * 20000)) (Int.ofNat 65536)))], [D.int IntKind.u8 (IntKind.wrap IntKind.u8 (Int.fdiv (IntKind.wrap IntKind.i64 (Vec.Cost (Bpdu.Vec b) * 20000)) (Int.ofNat 256)))], [D.int IntKind.u8 (IntKind.wrap IntKind.u8 (IntKind.wrap IntKind.i64 (Vec.Cost (Bpdu.Vec b) * 20000)))]]) (enS true (idB (Vec.Bridge (Bpdu.Vec b))))) [[D.int IntKind.u8 (128)], [D.int IntKind.u8 (IntKind.wrap IntKind.u8 (IntKind.wrap IntKind.i64 (Vec.Port (Bpdu.Vec b) + 1)))], [D.int IntKind.u8 (IntKind.wrap IntKind.u8 (Bpdu.Hops b))], [D.int IntKind.u8 (0)], [D.int IntKind.u8 (8)], [D.int IntKind.u8 (0)], [D.int IntKind.u8 (2)], [D.int IntKind.u8 (0)], [D.int IntKind.u8 (15)], [D.int IntKind.u8 (0)], [D.int IntKind.u8 (0)]])]], []) else none else none else none else none := by kernel_rfl
theorem m32 (b : Bpdu) (hpre : (o32 b).1 = true) : evFn ⟨Go.Proofs.Try.prog, Hx, 32⟩ T57.call 0 Go.Proofs.Try.f32 [[.bool b.Change, .bool b.Ask, .bool b.Agree, .bool b.Learn, .bool b.Open, .int .i64 b.Role, .int .i64 b.Vec.Root, .int .i64 b.Vec.Cost, .int .i64 b.Vec.Bridge, .int .i64 b.Vec.Port, .int .i64 b.Hops]] = some (o32 b).2 := by
  refine (r32 b _).trans ?_
  show _ = (some ([[.sl true 1 (enS true (bpduBs b))]], []) : Option (List Row × List Row))
  replace hpre : (true) = true := hpre
  unfold bpduBs
  cases h : bpduOk b
  · rfl
  · have hc := bpdu_cost h
    have hl : ∀ x, (idB x).length = 8 := fun _ => rfl
    simp (disch := omega) only [wrap_sm]
    simp only [h, Bool.not_true, cond_true, cond_false, noSl_u8, List.append_eq, enS_length, hl, List.length_cons, List.length_append, List.length_nil, Nat.reduceAdd, Nat.reduceMul, Nat.reduceLeDiff, decide_true, Bool.and_self, enS_append, enS_cons, enS_nil, u8_enc]
    rfl
theorem s32 : SoundAt Go.Proofs.Try.prog Hx 32 c32 := soundAt_of T57_sound mixed Go.Proofs.Try.func32 (by kernel_rfl) (by
  intro rows r h
  unfold c32 at h
  split at h
  · rename_i b_Change b_Ask b_Agree b_Learn b_Open b_Role b_Vec_Root b_Vec_Cost b_Vec_Bridge b_Vec_Port b_Hops
    obtain ⟨hp, hr⟩ := Prod.mk.inj (Option.some.inj h)
    subst hr
    exact ⟨_, m32 ⟨b_Change, b_Ask, b_Agree, b_Learn, b_Open, b_Role, ⟨b_Vec_Root, b_Vec_Cost, b_Vec_Bridge, b_Vec_Port⟩, b_Hops⟩ hp⟩
  · cases h)
def T32 : Table := (32, c32) :: T57
theorem T32_sound : Table.Sound Go.Proofs.Try.prog Hx T32 := Table.sound_cons s32 T57_sound
/- BpduBytesS -/
def o31 (b : Bpdu) : Bool × List Row × List Row := (true, [[.sl true 1 (enS true (bpduBs b))]], [])
def c31 : Contract
  | [[.bool b_Change, .bool b_Ask, .bool b_Agree, .bool b_Learn, .bool b_Open, .int .i64 b_Role, .int .i64 b_Vec_Root, .int .i64 b_Vec_Cost, .int .i64 b_Vec_Bridge, .int .i64 b_Vec_Port, .int .i64 b_Hops]] => some ((o31 ⟨b_Change, b_Ask, b_Agree, b_Learn, b_Open, b_Role, ⟨b_Vec_Root, b_Vec_Cost, b_Vec_Bridge, b_Vec_Port⟩, b_Hops⟩).1, (o31 ⟨b_Change, b_Ask, b_Agree, b_Learn, b_Open, b_Role, ⟨b_Vec_Root, b_Vec_Cost, b_Vec_Bridge, b_Vec_Port⟩, b_Hops⟩).2.1, (o31 ⟨b_Change, b_Ask, b_Agree, b_Learn, b_Open, b_Role, ⟨b_Vec_Root, b_Vec_Cost, b_Vec_Bridge, b_Vec_Port⟩, b_Hops⟩).2.2)
  | _ => none

theorem r31 (b : Bpdu) (n : Nat) : evFn ⟨Go.Proofs.Try.prog, Hx, 31⟩ T32.call n Go.Proofs.Try.f31 [[.bool b.Change, .bool b.Ask, .bool b.Agree, .bool b.Learn, .bool b.Open, .int .i64 b.Role, .int .i64 b.Vec.Root, .int .i64 b.Vec.Cost, .int .i64 b.Vec.Bridge, .int .i64 b.Vec.Port, .int .i64 b.Hops]] = bif !bpduOk b then some ([[D.sl true 1 []]], []) else bif (List.all (enS true (idB (Vec.Root (Bpdu.Vec b)))) fun r ↦ List.all r D.noSl) && true && decide ((5 + List.length (enS true (idB (Vec.Root (Bpdu.Vec b))))) * 1 ≤ 140737488355328) then bif decide ((List.length ([D.int IntKind.u8 (0)] :: [D.int IntKind.u8 (0)] :: [D.int IntKind.u8 (2)] :: [D.int IntKind.u8 (2)] :: [D.int IntKind.u8 (IntKind.wrap IntKind.u8 (flagsOf b))] :: enS true (idB (Vec.Root (Bpdu.Vec b)))) + 4) * 1 ≤ 140737488355328) then bif (List.all (enS true (idB (Vec.Bridge (Bpdu.Vec b)))) fun r ↦ List.all r D.noSl) && true && decide ((List.length ([D.int IntKind.u8 (0)] :: [D.int IntKind.u8 (0)] :: [D.int IntKind.u8 (2)] :: [D.int IntKind.u8 (2)] :: [D.int IntKind.u8 (IntKind.wrap IntKind.u8 (flagsOf b))] :: List.append (enS true (idB (Vec.Root (Bpdu.Vec b)))) [[D.int IntKind.u8 (IntKind.wrap IntKind.u8 (IntKind.wrap IntKind.i64 (Int.ofNat (BitVec.toNat (BitVec.and (BitVec.ofInt 64 (Int.fdiv (IntKind.wrap IntKind.i64 (20000 * Vec.Cost (Bpdu.Vec b))) (Int.ofNat 16777216))) (BitVec.ofInt 64 (255)))))))], [D.int IntKind.u8 (IntKind.wrap IntKind.u8 (IntKind.wrap IntKind.i64 (Int.ofNat (BitVec.toNat (BitVec.and (BitVec.ofInt 64 (Int.fdiv (IntKind.wrap IntKind.i64 (20000 * Vec.Cost (Bpdu.Vec b))) (Int.ofNat 65536))) (BitVec.ofInt 64 (255)))))))], [D.int IntKind.u8 (IntKind.wrap IntKind.u8 (IntKind.wrap IntKind.i64 (Int.ofNat (BitVec.toNat (BitVec.and (BitVec.ofInt 64 (Int.fdiv (IntKind.wrap IntKind.i64 (20000 * Vec.Cost (Bpdu.Vec b))) (Int.ofNat 256))) (BitVec.ofInt 64 (255)))))))], [D.int IntKind.u8 (IntKind.wrap IntKind.u8 (IntKind.wrap IntKind.i64 (Int.ofNat (BitVec.toNat (BitVec.and (BitVec.ofInt 64 (IntKind.wrap IntKind.i64 (20000 * Vec.Cost (Bpdu.Vec b)))) (BitVec.ofInt 64 (255)))))))]]) + List.length (enS true (idB (Vec.Bridge (Bpdu.Vec b))))) * 1 ≤ 140737488355328) then bif decide ((List.length ([D.int IntKind.u8 (0)] :: [D.int IntKind.u8 (0)] :: [D.int IntKind.u8 (2)] :: [D.int IntKind.u8 (2)] :: [D.int IntKind.u8 (IntKind.wrap IntKind.u8 (flagsOf b))] :: List.append (List.append (enS true (idB (Vec.Root (Bpdu.Vec b)))) [[D.int IntKind.u8 (IntKind.wrap IntKind.u8 (IntKind.wrap IntKind.i64 (Int.ofNat (BitVec.toNat (BitVec.and (BitVec.ofInt 64 (Int.fdiv (IntKind.wrap IntKind.i64 (20000 * Vec.Cost (Bpdu.Vec b))) (Int.ofNat 16777216))) (BitVec.ofInt 64 (255)))))))], [D.int IntKind.u8 (IntKind.wrap IntKind.u8 (IntKind.wrap IntKind.i64 (Int.ofNat (BitVec.toNat (BitVec.and (BitVec.ofInt 64 (Int.fdiv (IntKind.wrap IntKind.i64 (20000 * Vec.Cost (Bpdu.Vec b))) (Int.ofNat 65536))) (BitVec.ofInt 64 (255)))))))], [D.int IntKind.u8 (IntKind.wrap IntKind.u8 (IntKind.wrap IntKind.i64 (Int.ofNat (BitVec.toNat (BitVec.and (BitVec.ofInt 64 (Int.fdiv (IntKind.wrap IntKind.i64 (20000 * Vec.Cost (Bpdu.Vec b))) (Int.ofNat 256))) (BitVec.ofInt 64 (255)))))))], [D.int IntKind.u8 (IntKind.wrap IntKind.u8 (IntKind.wrap IntKind.i64 (Int.ofNat (BitVec.toNat (BitVec.and (BitVec.ofInt 64 (IntKind.wrap IntKind.i64 (20000 * Vec.Cost (Bpdu.Vec b)))) (BitVec.ofInt 64 (255)))))))]]) (enS true (idB (Vec.Bridge (Bpdu.Vec b))))) + 11) * 1 ≤ 140737488355328) then some ([[D.sl true 1 ([D.int IntKind.u8 (0)] :: [D.int IntKind.u8 (0)] :: [D.int IntKind.u8 (2)] :: [D.int IntKind.u8 (2)] :: [D.int IntKind.u8 (IntKind.wrap IntKind.u8 (flagsOf b))] :: List.append (List.append (List.append (enS true (idB (Vec.Root (Bpdu.Vec b)))) [[D.int IntKind.u8 (IntKind.wrap IntKind.u8 (IntKind.wrap IntKind.i64 (Int.ofNat (BitVec.toNat (BitVec.and (BitVec.ofInt 64 (Int.fdiv (IntKind.wrap IntKind.i64 (20000 * Vec.Cost (Bpdu.Vec b))) (Int.ofNat 16777216))) (BitVec.ofInt 64 (255)))))))], [D.int IntKind.u8 (IntKind.wrap IntKind.u8 (IntKind.wrap IntKind.i64 (Int.ofNat (BitVec.toNat (BitVec.and (BitVec.ofInt 64 (Int.fdiv (IntKind.wrap IntKind.i64 (20000 * Vec.Cost (Bpdu.Vec b))) (Int.ofNat 65536))) (BitVec.ofInt 64 (255)))))))], [D.int IntKind.u8 (IntKind.wrap IntKind.u8 (IntKind.wrap IntKind.i64 (Int.ofNat (BitVec.toNat (BitVec.and (BitVec.ofInt 64 (Int.fdiv (IntKind.wrap IntKind.i64 (20000 * Vec.Cost (Bpdu.Vec b))) (Int.ofNat 256))) (BitVec.ofInt 64 (255)))))))], [D.int IntKind.u8 (IntKind.wrap IntKind.u8 (IntKind.wrap IntKind.i64 (Int.ofNat (BitVec.toNat (BitVec.and (BitVec.ofInt 64 (IntKind.wrap IntKind.i64 (20000 * Vec.Cost (Bpdu.Vec b)))) (BitVec.ofInt 64 (255)))))))]]) (enS true (idB (Vec.Bridge (Bpdu.Vec b))))) [[D.int IntKind.u8 (128)], [D.int IntKind.u8 (IntKind.wrap IntKind.u8 (IntKind.wrap IntKind.i64 (Vec.Port (Bpdu.Vec b) + 1)))], [D.int IntKind.u8 (IntKind.wrap IntKind.u8 (Bpdu.Hops b))], [D.int IntKind.u8 (0)], [D.int IntKind.u8 (8)], [D.int IntKind.u8 (0)], [D.int IntKind.u8 (2)], [D.int IntKind.u8 (0)], [D.int IntKind.u8 (15)], [D.int IntKind.u8 (0)], [D.int IntKind.u8 (0)]])]], []) else none else none else none else none := by kernel_rfl
theorem m31 (b : Bpdu) (hpre : (o31 b).1 = true) : evFn ⟨Go.Proofs.Try.prog, Hx, 31⟩ T32.call 0 Go.Proofs.Try.f31 [[.bool b.Change, .bool b.Ask, .bool b.Agree, .bool b.Learn, .bool b.Open, .int .i64 b.Role, .int .i64 b.Vec.Root, .int .i64 b.Vec.Cost, .int .i64 b.Vec.Bridge, .int .i64 b.Vec.Port, .int .i64 b.Hops]] = some (o31 b).2 := by
  refine (r31 b _).trans ?_
  show _ = (some ([[.sl true 1 (enS true (bpduBs b))]], []) : Option (List Row × List Row))
  replace hpre : (true) = true := hpre
  unfold bpduBs
  cases h : bpduOk b
  · rfl
  · have hc := bpdu_cost h
    have hl : ∀ x, (idB x).length = 8 := fun _ => rfl
    rw [Int.mul_comm 20000 b.Vec.Cost]
    simp (disch := omega) only [wrap_sm]
    simp only [and255, Int.mul_comm 20000 b.Vec.Cost, h, Bool.not_true, cond_true, cond_false, noSl_u8, List.append_eq, enS_length, hl, List.length_cons, List.length_append, List.length_nil, Nat.reduceAdd, Nat.reduceMul, Nat.reduceLeDiff, decide_true, Bool.and_self, enS_append, enS_cons, enS_nil, u8_enc]
    rfl
theorem s31 : SoundAt Go.Proofs.Try.prog Hx 31 c31 := soundAt_of T32_sound mixed Go.Proofs.Try.func31 (by kernel_rfl) (by
  intro rows r h
  unfold c31 at h
  split at h
  · rename_i b_Change b_Ask b_Agree b_Learn b_Open b_Role b_Vec_Root b_Vec_Cost b_Vec_Bridge b_Vec_Port b_Hops
    obtain ⟨hp, hr⟩ := Prod.mk.inj (Option.some.inj h)
    subst hr
    exact ⟨_, m31 ⟨b_Change, b_Ask, b_Agree, b_Learn, b_Open, b_Role, ⟨b_Vec_Root, b_Vec_Cost, b_Vec_Bridge, b_Vec_Port⟩, b_Hops⟩ hp⟩
  · cases h)
def T31 : Table := (31, c31) :: T32
theorem T31_sound : Table.Sound Go.Proofs.Try.prog Hx T31 := Table.sound_cons s31 T32_sound
end Go.Ev
end
