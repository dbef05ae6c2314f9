/- Contracts of functions, each by its evaluation. -/
import Derived.Test.YtikmcmocecalaaaEvMd
import Derived.Test.YtikmcmocecalaaaProg
import Derived.KernelRfl
import Derived.Test.YtikmcmocecalaaaFBase
set_option linter.unusedVariables false
set_option linter.unusedSimpArgs false
set_option maxRecDepth 100000
noncomputable section
open List (getD length drop take set append replicate all isEmpty)
open Int (toNat ofNat)
open Go.IntKind (i64 wrap)
open Go.Proofs.Try (prog)
namespace Go.Ev
open Go.RowKit Go.Md
end Go.Ev
namespace Go.Md
open Go Go.Ev
def idB (n : Int) : List UInt8 := [128, 0, 0, 0, 0, 0, 0, u8 n]
theorem bpdu_cost {b : Bpdu} (h : bpduOk b = true) : (0 ≤ b.Vec.Cost ∧ b.Vec.Cost ≤ 20) ∧ 0 ≤ b.Vec.Port ∧ b.Vec.Port ≤ 3 := by
  unfold bpduOk vecOk isPortB inR at h
  simp only [Bool.and_eq_true, decide_eq_true_eq] at h
  omega
def bpduBs (b : Bpdu) : List UInt8 := bif bpduOk b then [0, 0, 2, 2, u8 (flagsOf b)] ++ idB b.Vec.Root ++ [u8 ((b.Vec.Cost * 20000).fdiv 16777216), u8 ((b.Vec.Cost * 20000).fdiv 65536), u8 ((b.Vec.Cost * 20000).fdiv 256), u8 (b.Vec.Cost * 20000)] ++ idB b.Vec.Bridge ++ [128, u8 (b.Vec.Port + 1), u8 b.Hops, 0, 8, 0, 2, 0, 15, 0, 0] else []
end Go.Md
namespace Go.Ev
open Go.Md
/- idBytes -/
def o85 (id : Int) : Bool × List Row × List Row := (true, [[.sl true 1 (enS true (idB id))]], [])
def c85 : Contract
  | [[.int .i64 id]] => some ((o85 id).1, (o85 id).2.1, (o85 id).2.2)
  | _ => none

theorem r85 (id : Int) (n : Nat) : evFn ⟨prog, Hx, 85⟩ T81.call n Go.Proofs.Try.f85 [[.int .i64 id]] = some ([[D.sl true 1 [[D.int IntKind.u8 (128)], [D.int IntKind.u8 (0)], [D.int IntKind.u8 (0)], [D.int IntKind.u8 (0)], [D.int IntKind.u8 (0)], [D.int IntKind.u8 (0)], [D.int IntKind.u8 (0)], [D.int IntKind.u8 (wrap IntKind.u8 id)]]]], []) := by kernel_rfl
theorem m85 (id : Int) (hpre : (o85 id).1 = true) : evFn ⟨Go.Proofs.Try.prog, Hx, 85⟩ T81.call 0 Go.Proofs.Try.f85 [[.int .i64 id]] = some (o85 id).2 := by
  refine (r85 id _).trans ?_
  show _ = (some ([[.sl true 1 (enS true (idB id))]], []) : Option (List Row × List Row))
  replace hpre : (true) = true := hpre
  unfold idB
  rw [← u8_enc true]
  rfl
theorem s85 : SoundAt Go.Proofs.Try.prog Hx 85 c85 := soundAt_of T81_sound mixed Go.Proofs.Try.func85 (by kernel_rfl) (by
  intro rows r h
  unfold c85 at h
  split at h
  · rename_i id
    obtain ⟨hp, hr⟩ := Prod.mk.inj (Option.some.inj h)
    subst hr
    exact ⟨_, m85 id hp⟩
  · cases h)
def T85 : Table := (85, c85) :: T81
theorem T85_sound : Table.Sound Go.Proofs.Try.prog Hx T85 := Table.sound_cons s85 T81_sound
/- l19Who -/
def o83 (n_ : Int) : Bool × List Row × List Row := (true, [[.sl true 1 (enS true (idB n_))]], [])
def c83 : Contract
  | [[.int .i64 n_]] => some ((o83 n_).1, (o83 n_).2.1, (o83 n_).2.2)
  | _ => none

theorem r83 (n_ : Int) (n : Nat) : evFn ⟨prog, Hx, 83⟩ T85.call n Go.Proofs.Try.f83 [[.int .i64 n_]] = some ([[D.sl true 1 [[D.int IntKind.u8 (128)], [D.int IntKind.u8 (0)], [D.int IntKind.u8 (0)], [D.int IntKind.u8 (0)], [D.int IntKind.u8 (0)], [D.int IntKind.u8 (0)], [D.int IntKind.u8 (0)], [D.int IntKind.u8 (wrap IntKind.u8 n_)]]]], []) := by kernel_rfl
theorem m83 (n_ : Int) (hpre : (o83 n_).1 = true) : evFn ⟨Go.Proofs.Try.prog, Hx, 83⟩ T85.call 0 Go.Proofs.Try.f83 [[.int .i64 n_]] = some (o83 n_).2 := by
  refine (r83 n_ _).trans ?_
  show _ = (some ([[.sl true 1 (enS true (idB n_))]], []) : Option (List Row × List Row))
  replace hpre : (true) = true := hpre
  unfold idB
  rw [← u8_enc true]
  rfl
theorem s83 : SoundAt Go.Proofs.Try.prog Hx 83 c83 := soundAt_of T85_sound mixed Go.Proofs.Try.func83 (by kernel_rfl) (by
  intro rows r h
  unfold c83 at h
  split at h
  · rename_i n_
    obtain ⟨hp, hr⟩ := Prod.mk.inj (Option.some.inj h)
    subst hr
    exact ⟨_, m83 n_ hp⟩
  · cases h)
def T83 : Table := (83, c83) :: T85
theorem T83_sound : Table.Sound Go.Proofs.Try.prog Hx T83 := Table.sound_cons s83 T85_sound
/- BpduBytes -/
def o48 (b : Bpdu) : Bool × List Row × List Row := (true, [[.sl true 1 (enS true (bpduBs b))]], [])
def c48 : Contract
  | [[.bool b_Change, .bool b_Ask, .bool b_Agree, .bool b_Learn, .bool b_Open, .int .i64 b_Role, .int .i64 b_Vec_Root, .int .i64 b_Vec_Cost, .int .i64 b_Vec_Bridge, .int .i64 b_Vec_Port, .int .i64 b_Hops]] => some ((o48 ⟨b_Change, b_Ask, b_Agree, b_Learn, b_Open, b_Role, ⟨b_Vec_Root, b_Vec_Cost, b_Vec_Bridge, b_Vec_Port⟩, b_Hops⟩).1, (o48 ⟨b_Change, b_Ask, b_Agree, b_Learn, b_Open, b_Role, ⟨b_Vec_Root, b_Vec_Cost, b_Vec_Bridge, b_Vec_Port⟩, b_Hops⟩).2.1, (o48 ⟨b_Change, b_Ask, b_Agree, b_Learn, b_Open, b_Role, ⟨b_Vec_Root, b_Vec_Cost, b_Vec_Bridge, b_Vec_Port⟩, b_Hops⟩).2.2)
  | _ => none

theorem r48 (b : Bpdu) (n : Nat) : evFn ⟨prog, Hx, 48⟩ T83.call n Go.Proofs.Try.f48 [[.bool b.Change, .bool b.Ask, .bool b.Agree, .bool b.Learn, .bool b.Open, .int .i64 b.Role, .int .i64 b.Vec.Root, .int .i64 b.Vec.Cost, .int .i64 b.Vec.Bridge, .int .i64 b.Vec.Port, .int .i64 b.Hops]] = bif !bpduOk b then some ([[D.sl true 1 []]], []) else bif (all (enS true (idB (Vec.Root (Bpdu.Vec b)))) fun r ↦ all r D.noSl) && true && decide ((5 + length (enS true (idB (Vec.Root (Bpdu.Vec b))))) * 1 ≤ 140737488355328) then bif decide ((length ([D.int IntKind.u8 (0)] :: [D.int IntKind.u8 (0)] :: [D.int IntKind.u8 (2)] :: [D.int IntKind.u8 (2)] :: [D.int IntKind.u8 (wrap IntKind.u8 (flagsOf b))] :: enS true (idB (Vec.Root (Bpdu.Vec b)))) + 4) * 1 ≤ 140737488355328) then bif (all (enS true (idB (Vec.Bridge (Bpdu.Vec b)))) fun r ↦ all r D.noSl) && true && decide ((length ([D.int IntKind.u8 (0)] :: [D.int IntKind.u8 (0)] :: [D.int IntKind.u8 (2)] :: [D.int IntKind.u8 (2)] :: [D.int IntKind.u8 (wrap IntKind.u8 (flagsOf b))] :: append (enS true (idB (Vec.Root (Bpdu.Vec b)))) [[D.int IntKind.u8 (wrap IntKind.u8 (Int.fdiv (wrap i64 (Vec.Cost (Bpdu.Vec b) * 20000)) (ofNat 16777216)))], [D.int IntKind.u8 (wrap IntKind.u8 (Int.fdiv (wrap i64 (Vec.Cost (Bpdu.Vec b) * 20000)) (ofNat 65536)))], [D.int IntKind.u8 (wrap IntKind.u8 (Int.fdiv (wrap i64 (Vec.Cost (Bpdu.Vec b) * 20000)) (ofNat 256)))], [D.int IntKind.u8 (wrap IntKind.u8 (wrap i64 (Vec.Cost (Bpdu.Vec b) * 20000)))]]) + length (enS true (idB (Vec.Bridge (Bpdu.Vec b))))) * 1 ≤ 140737488355328) then bif decide ((length ([D.int IntKind.u8 (0)] :: [D.int IntKind.u8 (0)] :: [D.int IntKind.u8 (2)] :: [D.int IntKind.u8 (2)] :: [D.int IntKind.u8 (wrap IntKind.u8 (flagsOf b))] :: append (append (enS true (idB (Vec.Root (Bpdu.Vec b)))) [[D.int IntKind.u8 (wrap IntKind.u8 (Int.fdiv (wrap i64 (Vec.Cost (Bpdu.Vec b) * 20000)) (ofNat 16777216)))], [D.int IntKind.u8 (wrap IntKind.u8 (Int.fdiv (wrap i64 (Vec.Cost (Bpdu.Vec b) * 20000)) (ofNat 65536)))], [D.int IntKind.u8 (wrap IntKind.u8 (Int.fdiv (wrap i64 (Vec.Cost (Bpdu.Vec b) * 20000)) (ofNat 256)))], [D.int IntKind.u8 (wrap IntKind.u8 (wrap i64 (Vec.Cost (Bpdu.Vec b) * 20000)))]]) (enS true (idB (Vec.Bridge (Bpdu.Vec b))))) + 11) * 1 ≤ 140737488355328) then some ([[D.sl true 1 ([D.int IntKind.u8 (0)] :: [D.int IntKind.u8 (0)] :: [D.int IntKind.u8 (2)] :: [D.int IntKind.u8 (2)] :: [D.int IntKind.u8 (wrap IntKind.u8 (flagsOf b))] :: append (append (append (enS true (idB (Vec.Root (Bpdu.Vec b)))) [[D.int IntKind.u8 (wrap IntKind.u8 (Int.fdiv (wrap i64 (Vec.Cost (Bpdu.Vec b) * 20000)) (ofNat 16777216)))], [D.int IntKind.u8 (wrap IntKind.u8 (Int.fdiv (wrap i64 (Vec.Cost (Bpdu.Vec b) * 20000)) (ofNat 65536)))], [D.int IntKind.u8 (wrap IntKind.u8 (Int.fdiv (wrap i64 (Vec.Cost (Bpdu.Vec b) * 20000)) (ofNat 256)))], [D.int IntKind.u8 (wrap IntKind.u8 (wrap i64 (Vec.Cost (Bpdu.Vec b) * 20000)))]]) (enS true (idB (Vec.Bridge (Bpdu.Vec b))))) [[D.int IntKind.u8 (128)], [D.int IntKind.u8 (wrap IntKind.u8 (wrap i64 (Vec.Port (Bpdu.Vec b) + 1)))], [D.int IntKind.u8 (wrap IntKind.u8 (Bpdu.Hops b))], [D.int IntKind.u8 (0)], [D.int IntKind.u8 (8)], [D.int IntKind.u8 (0)], [D.int IntKind.u8 (2)], [D.int IntKind.u8 (0)], [D.int IntKind.u8 (15)], [D.int IntKind.u8 (0)], [D.int IntKind.u8 (0)]])]], []) else none else none else none else none := by kernel_rfl
theorem m48 (b : Bpdu) (hpre : (o48 b).1 = true) : evFn ⟨Go.Proofs.Try.prog, Hx, 48⟩ T83.call 0 Go.Proofs.Try.f48 [[.bool b.Change, .bool b.Ask, .bool b.Agree, .bool b.Learn, .bool b.Open, .int .i64 b.Role, .int .i64 b.Vec.Root, .int .i64 b.Vec.Cost, .int .i64 b.Vec.Bridge, .int .i64 b.Vec.Port, .int .i64 b.Hops]] = some (o48 b).2 := by
  refine (r48 b _).trans ?_
  show _ = (some ([[.sl true 1 (enS true (bpduBs b))]], []) : Option (List Row × List Row))
  replace hpre : (true) = true := hpre
  unfold bpduBs
  cases h : bpduOk b
  · rfl
  · have hc := bpdu_cost h
    have hl : ∀ x, (idB x).length = 8 := fun _ => rfl
    simp (disch := omega) only [wrap_sm]
    simp only [h, Bool.not_true, cond_true, cond_false, noSl_u8, List.append_eq, enS_length, hl, List.length_cons, List.length_append, List.length_nil, Nat.reduceAdd, Nat.reduceMul, Nat.reduceLeDiff, decide_true, Bool.and_self, enS_append, enS_cons, enS_nil, u8_enc]
    rfl
theorem s48 : SoundAt Go.Proofs.Try.prog Hx 48 c48 := soundAt_of T83_sound mixed Go.Proofs.Try.func48 (by kernel_rfl) (by
  intro rows r h
  unfold c48 at h
  split at h
  · rename_i b_Change b_Ask b_Agree b_Learn b_Open b_Role b_Vec_Root b_Vec_Cost b_Vec_Bridge b_Vec_Port b_Hops
    obtain ⟨hp, hr⟩ := Prod.mk.inj (Option.some.inj h)
    subst hr
    exact ⟨_, m48 ⟨b_Change, b_Ask, b_Agree, b_Learn, b_Open, b_Role, ⟨b_Vec_Root, b_Vec_Cost, b_Vec_Bridge, b_Vec_Port⟩, b_Hops⟩ hp⟩
  · cases h)
def T48 : Table := (48, c48) :: T83
theorem T48_sound : Table.Sound Go.Proofs.Try.prog Hx T48 := Table.sound_cons s48 T83_sound
/- BpduBytesS -/
def o45 (b : Bpdu) : Bool × List Row × List Row := (true, [[.sl true 1 (enS true (bpduBs b))]], [])
def c45 : Contract
  | [[.bool b_Change, .bool b_Ask, .bool b_Agree, .bool b_Learn, .bool b_Open, .int .i64 b_Role, .int .i64 b_Vec_Root, .int .i64 b_Vec_Cost, .int .i64 b_Vec_Bridge, .int .i64 b_Vec_Port, .int .i64 b_Hops]] => some ((o45 ⟨b_Change, b_Ask, b_Agree, b_Learn, b_Open, b_Role, ⟨b_Vec_Root, b_Vec_Cost, b_Vec_Bridge, b_Vec_Port⟩, b_Hops⟩).1, (o45 ⟨b_Change, b_Ask, b_Agree, b_Learn, b_Open, b_Role, ⟨b_Vec_Root, b_Vec_Cost, b_Vec_Bridge, b_Vec_Port⟩, b_Hops⟩).2.1, (o45 ⟨b_Change, b_Ask, b_Agree, b_Learn, b_Open, b_Role, ⟨b_Vec_Root, b_Vec_Cost, b_Vec_Bridge, b_Vec_Port⟩, b_Hops⟩).2.2)
  | _ => none

theorem r45 (b : Bpdu) (n : Nat) : evFn ⟨prog, Hx, 45⟩ T48.call n Go.Proofs.Try.f45 [[.bool b.Change, .bool b.Ask, .bool b.Agree, .bool b.Learn, .bool b.Open, .int .i64 b.Role, .int .i64 b.Vec.Root, .int .i64 b.Vec.Cost, .int .i64 b.Vec.Bridge, .int .i64 b.Vec.Port, .int .i64 b.Hops]] = bif !bpduOk b then some ([[D.sl true 1 []]], []) else bif (all (enS true (idB (Vec.Root (Bpdu.Vec b)))) fun r ↦ all r D.noSl) && true && decide ((5 + length (enS true (idB (Vec.Root (Bpdu.Vec b))))) * 1 ≤ 140737488355328) then bif decide ((length ([D.int IntKind.u8 (0)] :: [D.int IntKind.u8 (0)] :: [D.int IntKind.u8 (2)] :: [D.int IntKind.u8 (2)] :: [D.int IntKind.u8 (wrap IntKind.u8 (flagsOf b))] :: enS true (idB (Vec.Root (Bpdu.Vec b)))) + 4) * 1 ≤ 140737488355328) then bif (all (enS true (idB (Vec.Bridge (Bpdu.Vec b)))) fun r ↦ all r D.noSl) && true && decide ((length ([D.int IntKind.u8 (0)] :: [D.int IntKind.u8 (0)] :: [D.int IntKind.u8 (2)] :: [D.int IntKind.u8 (2)] :: [D.int IntKind.u8 (wrap IntKind.u8 (flagsOf b))] :: append (enS true (idB (Vec.Root (Bpdu.Vec b)))) [[D.int IntKind.u8 (wrap IntKind.u8 (wrap i64 (ofNat (BitVec.toNat (BitVec.and (BitVec.ofInt 64 (Int.fdiv (wrap i64 (20000 * Vec.Cost (Bpdu.Vec b))) (ofNat 16777216))) (BitVec.ofInt 64 (255)))))))], [D.int IntKind.u8 (wrap IntKind.u8 (wrap i64 (ofNat (BitVec.toNat (BitVec.and (BitVec.ofInt 64 (Int.fdiv (wrap i64 (20000 * Vec.Cost (Bpdu.Vec b))) (ofNat 65536))) (BitVec.ofInt 64 (255)))))))], [D.int IntKind.u8 (wrap IntKind.u8 (wrap i64 (ofNat (BitVec.toNat (BitVec.and (BitVec.ofInt 64 (Int.fdiv (wrap i64 (20000 * Vec.Cost (Bpdu.Vec b))) (ofNat 256))) (BitVec.ofInt 64 (255)))))))], [D.int IntKind.u8 (wrap IntKind.u8 (wrap i64 (ofNat (BitVec.toNat (BitVec.and (BitVec.ofInt 64 (wrap i64 (20000 * Vec.Cost (Bpdu.Vec b)))) (BitVec.ofInt 64 (255)))))))]]) + length (enS true (idB (Vec.Bridge (Bpdu.Vec b))))) * 1 ≤ 140737488355328) then bif decide ((length ([D.int IntKind.u8 (0)] :: [D.int IntKind.u8 (0)] :: [D.int IntKind.u8 (2)] :: [D.int IntKind.u8 (2)] :: [D.int IntKind.u8 (wrap IntKind.u8 (flagsOf b))] :: append (append (enS true (idB (Vec.Root (Bpdu.Vec b)))) [[D.int IntKind.u8 (wrap IntKind.u8 (wrap i64 (ofNat (BitVec.toNat (BitVec.and (BitVec.ofInt 64 (Int.fdiv (wrap i64 (20000 * Vec.Cost (Bpdu.Vec b))) (ofNat 16777216))) (BitVec.ofInt 64 (255)))))))], [D.int IntKind.u8 (wrap IntKind.u8 (wrap i64 (ofNat (BitVec.toNat (BitVec.and (BitVec.ofInt 64 (Int.fdiv (wrap i64 (20000 * Vec.Cost (Bpdu.Vec b))) (ofNat 65536))) (BitVec.ofInt 64 (255)))))))], [D.int IntKind.u8 (wrap IntKind.u8 (wrap i64 (ofNat (BitVec.toNat (BitVec.and (BitVec.ofInt 64 (Int.fdiv (wrap i64 (20000 * Vec.Cost (Bpdu.Vec b))) (ofNat 256))) (BitVec.ofInt 64 (255)))))))], [D.int IntKind.u8 (wrap IntKind.u8 (wrap i64 (ofNat (BitVec.toNat (BitVec.and (BitVec.ofInt 64 (wrap i64 (20000 * Vec.Cost (Bpdu.Vec b)))) (BitVec.ofInt 64 (255)))))))]]) (enS true (idB (Vec.Bridge (Bpdu.Vec b))))) + 11) * 1 ≤ 140737488355328) then some ([[D.sl true 1 ([D.int IntKind.u8 (0)] :: [D.int IntKind.u8 (0)] :: [D.int IntKind.u8 (2)] :: [D.int IntKind.u8 (2)] :: [D.int IntKind.u8 (wrap IntKind.u8 (flagsOf b))] :: append (append (append (enS true (idB (Vec.Root (Bpdu.Vec b)))) [[D.int IntKind.u8 (wrap IntKind.u8 (wrap i64 (ofNat (BitVec.toNat (BitVec.and (BitVec.ofInt 64 (Int.fdiv (wrap i64 (20000 * Vec.Cost (Bpdu.Vec b))) (ofNat 16777216))) (BitVec.ofInt 64 (255)))))))], [D.int IntKind.u8 (wrap IntKind.u8 (wrap i64 (ofNat (BitVec.toNat (BitVec.and (BitVec.ofInt 64 (Int.fdiv (wrap i64 (20000 * Vec.Cost (Bpdu.Vec b))) (ofNat 65536))) (BitVec.ofInt 64 (255)))))))], [D.int IntKind.u8 (wrap IntKind.u8 (wrap i64 (ofNat (BitVec.toNat (BitVec.and (BitVec.ofInt 64 (Int.fdiv (wrap i64 (20000 * Vec.Cost (Bpdu.Vec b))) (ofNat 256))) (BitVec.ofInt 64 (255)))))))], [D.int IntKind.u8 (wrap IntKind.u8 (wrap i64 (ofNat (BitVec.toNat (BitVec.and (BitVec.ofInt 64 (wrap i64 (20000 * Vec.Cost (Bpdu.Vec b)))) (BitVec.ofInt 64 (255)))))))]]) (enS true (idB (Vec.Bridge (Bpdu.Vec b))))) [[D.int IntKind.u8 (128)], [D.int IntKind.u8 (wrap IntKind.u8 (wrap i64 (Vec.Port (Bpdu.Vec b) + 1)))], [D.int IntKind.u8 (wrap IntKind.u8 (Bpdu.Hops b))], [D.int IntKind.u8 (0)], [D.int IntKind.u8 (8)], [D.int IntKind.u8 (0)], [D.int IntKind.u8 (2)], [D.int IntKind.u8 (0)], [D.int IntKind.u8 (15)], [D.int IntKind.u8 (0)], [D.int IntKind.u8 (0)]])]], []) else none else none else none else none := by kernel_rfl
theorem m45 (b : Bpdu) (hpre : (o45 b).1 = true) : evFn ⟨Go.Proofs.Try.prog, Hx, 45⟩ T48.call 0 Go.Proofs.Try.f45 [[.bool b.Change, .bool b.Ask, .bool b.Agree, .bool b.Learn, .bool b.Open, .int .i64 b.Role, .int .i64 b.Vec.Root, .int .i64 b.Vec.Cost, .int .i64 b.Vec.Bridge, .int .i64 b.Vec.Port, .int .i64 b.Hops]] = some (o45 b).2 := by
  refine (r45 b _).trans ?_
  show _ = (some ([[.sl true 1 (enS true (bpduBs b))]], []) : Option (List Row × List Row))
  replace hpre : (true) = true := hpre
  unfold bpduBs
  cases h : bpduOk b
  · rfl
  · have hc := bpdu_cost h
    have hl : ∀ x, (idB x).length = 8 := fun _ => rfl
    rw [Int.mul_comm 20000 b.Vec.Cost]
    simp (disch := omega) only [wrap_sm]
    simp only [and255, Int.mul_comm 20000 b.Vec.Cost, h, Bool.not_true, cond_true, cond_false, noSl_u8, List.append_eq, enS_length, hl, List.length_cons, List.length_append, List.length_nil, Nat.reduceAdd, Nat.reduceMul, Nat.reduceLeDiff, decide_true, Bool.and_self, enS_append, enS_cons, enS_nil, u8_enc]
    rfl
theorem s45 : SoundAt Go.Proofs.Try.prog Hx 45 c45 := soundAt_of T48_sound mixed Go.Proofs.Try.func45 (by kernel_rfl) (by
  intro rows r h
  unfold c45 at h
  split at h
  · rename_i b_Change b_Ask b_Agree b_Learn b_Open b_Role b_Vec_Root b_Vec_Cost b_Vec_Bridge b_Vec_Port b_Hops
    obtain ⟨hp, hr⟩ := Prod.mk.inj (Option.some.inj h)
    subst hr
    exact ⟨_, m45 ⟨b_Change, b_Ask, b_Agree, b_Learn, b_Open, b_Role, ⟨b_Vec_Root, b_Vec_Cost, b_Vec_Bridge, b_Vec_Port⟩, b_Hops⟩ hp⟩
  · cases h)
def T45 : Table := (45, c45) :: T48
theorem T45_sound : Table.Sound Go.Proofs.Try.prog Hx T45 := Table.sound_cons s45 T48_sound
end Go.Ev
end
