/- Contracts of functions, each by its evaluation. -/
import Derived.Test.YtgklglkmfgfodaaEvMd
import Derived.Test.YtgklglkmfgfodaaProg
import Derived.KernelRfl
import Derived.Test.YtgklglkmfgfodaaFBase
set_option linter.unusedVariables false
set_option linter.unusedSimpArgs false
set_option maxRecDepth 100000
noncomputable section
open List (getD length drop take set append replicate all isEmpty)
open Int (toNat ofNat)
open Go.IntKind (i64 wrap)
open Go.Proofs.Try (prog f29 f38 f69 f72 func29 func38 func69 func72)
namespace Go.Ev
open Go.RowKit Go.Md
end Go.Ev
namespace Go.Md
open Go Go.Ev
def idB (n : Int) : List UInt8 := [128, 0, 0, 0, 0, 0, 0, u8 n]
theorem bpdu_cost {b : Bpdu} (h : bpduOk b = true) : (0 ≤ b.Vec.Cost ∧ b.Vec.Cost ≤ 20) ∧ 0 ≤ b.Vec.Port ∧ b.Vec.Port ≤ 3 := by
  unfold bpduOk vecOk isPortB inR at h
  simp only [Bool.and_eq_true, decide_eq_true_eq] at h
  omega
def bpduBs (b : Bpdu) : List UInt8 := bif bpduOk b then [0, 0, 2, 2, u8 (flagsOf b)] ++ idB b.Vec.Root ++ [u8 ((b.Vec.Cost * 20000).fdiv 16777216), u8 ((b.Vec.Cost * 20000).fdiv 65536), u8 ((b.Vec.Cost * 20000).fdiv 256), u8 (b.Vec.Cost * 20000)] ++ idB b.Vec.Bridge ++ [128, u8 (b.Vec.Port + 1), u8 b.Hops, 0, 8, 0, 2, 0, 15, 0, 0] else []
end Go.Md
namespace Go.Ev
open Go.Md
def o69 (id : Int) : Bool × List Row × List Row := (true, [[.sl true 1 (enS true (idB id))]], [])
def c69 : Contract
  | [[.int .i64 id]] => some ((o69 id).1, (o69 id).2.1, (o69 id).2.2)
  | _ => none

theorem r69 (id : Int) (n : Nat) : evFn ⟨prog, Hx, 69⟩ T40.call n f69 [[.int .i64 id]] = some ([[D.sl true 1 [[D.int IntKind.u8 (128)], [D.int IntKind.u8 (0)], [D.int IntKind.u8 (0)], [D.int IntKind.u8 (0)], [D.int IntKind.u8 (0)], [D.int IntKind.u8 (0)], [D.int IntKind.u8 (0)], [D.int IntKind.u8 (wrap IntKind.u8 id)]]]], []) := by kernel_rfl
theorem m69 (id : Int) (hpre : (o69 id).1 = true) : evFn ⟨Go.Proofs.Try.prog, Hx, 69⟩ T40.call 0 f69 [[.int .i64 id]] = some (o69 id).2 := by
  refine (r69 id _).trans ?_
  show _ = (some ([[.sl true 1 (enS true (idB id))]], []) : Option (List Row × List Row))
  replace hpre : (true) = true := hpre
  unfold idB
  rw [← u8_enc true]
  rfl
theorem s69 : SoundAt Go.Proofs.Try.prog Hx 69 c69 := soundAt_of T40_sound mixed func69 (by kernel_rfl) (by
  intro rows r h
  unfold c69 at h
  split at h
  · rename_i id
    obtain ⟨hp, hr⟩ := Prod.mk.inj (Option.some.inj h)
    subst hr
    exact ⟨_, m69 id hp⟩
  · cases h)
def T69 : Table := (69, c69) :: T40
theorem T69_sound : Table.Sound Go.Proofs.Try.prog Hx T69 := Table.sound_cons s69 T40_sound
def o72 (n_ : Int) : Bool × List Row × List Row := (true, [[.sl true 1 (enS true (idB n_))]], [])
def c72 : Contract
  | [[.int .i64 n_]] => some ((o72 n_).1, (o72 n_).2.1, (o72 n_).2.2)
  | _ => none

theorem r72 (n_ : Int) (n : Nat) : evFn ⟨prog, Hx, 72⟩ T69.call n f72 [[.int .i64 n_]] = some ([[D.sl true 1 [[D.int IntKind.u8 (128)], [D.int IntKind.u8 (0)], [D.int IntKind.u8 (0)], [D.int IntKind.u8 (0)], [D.int IntKind.u8 (0)], [D.int IntKind.u8 (0)], [D.int IntKind.u8 (0)], [D.int IntKind.u8 (wrap IntKind.u8 n_)]]]], []) := by kernel_rfl
theorem m72 (n_ : Int) (hpre : (o72 n_).1 = true) : evFn ⟨Go.Proofs.Try.prog, Hx, 72⟩ T69.call 0 f72 [[.int .i64 n_]] = some (o72 n_).2 := by
  refine (r72 n_ _).trans ?_
  show _ = (some ([[.sl true 1 (enS true (idB n_))]], []) : Option (List Row × List Row))
  replace hpre : (true) = true := hpre
  unfold idB
  rw [← u8_enc true]
  rfl
theorem s72 : SoundAt Go.Proofs.Try.prog Hx 72 c72 := soundAt_of T69_sound mixed func72 (by kernel_rfl) (by
  intro rows r h
  unfold c72 at h
  split at h
  · rename_i n_
    obtain ⟨hp, hr⟩ := Prod.mk.inj (Option.some.inj h)
    subst hr
    exact ⟨_, m72 n_ hp⟩
  · cases h)
def T72 : Table := (72, c72) :: T69
theorem T72_sound : Table.Sound Go.Proofs.Try.prog Hx T72 := Table.sound_cons s72 T69_sound
def o29 (b : Bpdu) : Bool × List Row × List Row := (true, [[.sl true 1 (enS true (bpduBs b))]], [])
def c29 : Contract
  | [[.bool b_Change, .bool b_Ask, .bool b_Agree, .bool b_Learn, .bool b_Open, .int .i64 b_Role, .int .i64 b_Vec_Root, .int .i64 b_Vec_Cost, .int .i64 b_Vec_Bridge, .int .i64 b_Vec_Port, .int .i64 b_Hops]] => some ((o29 ⟨b_Change, b_Ask, b_Agree, b_Learn, b_Open, b_Role, ⟨b_Vec_Root, b_Vec_Cost, b_Vec_Bridge, b_Vec_Port⟩, b_Hops⟩).1, (o29 ⟨b_Change, b_Ask, b_Agree, b_Learn, b_Open, b_Role, ⟨b_Vec_Root, b_Vec_Cost, b_Vec_Bridge, b_Vec_Port⟩, b_Hops⟩).2.1, (o29 ⟨b_Change, b_Ask, b_Agree, b_Learn, b_Open, b_Role, ⟨b_Vec_Root, b_Vec_Cost, b_Vec_Bridge, b_Vec_Port⟩, b_Hops⟩).2.2)
  | _ => none

theorem r29 (b : Bpdu) (n : Nat) : evFn ⟨prog, Hx, 29⟩ T72.call n f29 [[.bool b.Change, .bool b.Ask, .bool b.Agree, .bool b.Learn, .bool b.Open, .int .i64 b.Role, .int .i64 b.Vec.Root, .int .i64 b.Vec.Cost, .int .i64 b.Vec.Bridge, .int .i64 b.Vec.Port, .int .i64 b.Hops]] = bif !bpduOk b then some ([[D.sl true 1 []]], []) else bif (all (enS true (idB (Vec.Root (Bpdu.Vec b)))) fun r ↦ all r D.noSl) && true && decide ((5 + length (enS true (idB (Vec.Root (Bpdu.Vec b))))) * 1 ≤ 140737488355328) then bif decide ((length ([D.int IntKind.u8 (0)] :: [D.int IntKind.u8 (0)] :: [D.int IntKind.u8 (2)] :: [D.int IntKind.u8 (2)] :: [D.int IntKind.u8 (wrap IntKind.u8 (flagsOf b))] :: enS true (idB (Vec.Root (Bpdu.Vec b)))) + 4) * 1 ≤ 140737488355328) then bif (all (enS true (idB (Vec.Bridge (Bpdu.Vec b)))) fun r ↦ all r D.noSl) && true && decide ((length ([D.int IntKind.u8 (0)] :: [D.int IntKind.u8 (0)] :: [D.int IntKind.u8 (2)] :: [D.int IntKind.u8 (2)] :: [D.int IntKind.u8 (wrap IntKind.u8 (flagsOf b))] :: append (enS true (idB (Vec.Root (Bpdu.Vec b)))) [[D.int IntKind.u8 (wrap IntKind.u8 (Int.fdiv (wrap i64 (Vec.Cost (Bpdu.Vec b) * 20000)) (ofNat 16777216)))], [D.int IntKind.u8 (wrap IntKind.u8 (Int.fdiv (wrap i64 (Vec.Cost (Bpdu.Vec b) * 20000)) (ofNat 65536)))], [D.int IntKind.u8 (wrap IntKind.u8 (Int.fdiv (wrap i64 (Vec.Cost (Bpdu.Vec b) * 20000)) (ofNat 256)))], [D.int IntKind.u8 (wrap IntKind.u8 (wrap i64 (Vec.Cost (Bpdu.Vec b) * 20000)))]]) + length (enS true (idB (Vec.Bridge (Bpdu.Vec b))))) * 1 ≤ 140737488355328) then bif decide ((length ([D.int IntKind.u8 (0)] :: [D.int IntKind.u8 (0)] :: [D.int IntKind.u8 (2)] :: [D.int IntKind.u8 (2)] :: [D.int IntKind.u8 (wrap IntKind.u8 (flagsOf b))] :: append (append (enS true (idB (Vec.Root (Bpdu.Vec b)))) [[D.int IntKind.u8 (wrap IntKind.u8 (Int.fdiv (wrap i64 (Vec.Cost (Bpdu.Vec b) * 20000)) (ofNat 16777216)))], [D.int IntKind.u8 (wrap IntKind.u8 (Int.fdiv (wrap i64 (Vec.Cost (Bpdu.Vec b) * 20000)) (ofNat 65536)))], [D.int IntKind.u8 (wrap IntKind.u8 (Int.fdiv (wrap i64 (Vec.Cost (Bpdu.Vec b) * 20000)) (ofNat 256)))], [D.int IntKind.u8 (wrap IntKind.u8 (wrap i64 (Vec.Cost (Bpdu.Vec b) * 20000)))]]) (enS true (idB (Vec.Bridge (Bpdu.Vec b))))) + 11) * 1 ≤ 140737488355328) then some ([[D.sl true 1 ([D.int IntKind.u8 (0)] :: [D.int IntKind.u8 (0)] :: [D.int IntKind.u8 (2)] :: [D.int IntKind.u8 (2)] :: [D.int IntKind.u8 (wrap IntKind.u8 (flagsOf b))] :: append (append (append (enS true (idB (Vec.Root (Bpdu.Vec b)))) [[D.int IntKind.u8 (wrap IntKind.u8 (Int.fdiv (wrap i64 (Vec.Cost (Bpdu.Vec b) * 20000)) (ofNat 16777216)))], [D.int IntKind.u8 (wrap IntKind.u8 (Int.fdiv (wrap i64 (Vec.Cost (Bpdu.Vec b) * 20000)) (ofNat 65536)))], [D.int IntKind.u8 (wrap IntKind.u8 (Int.fdiv (wrap i64 (Vec.Cost (Bpdu.Vec b) * 20000)) (ofNat 256)))], [D.int IntKind.u8 (wrap IntKind.u8 (wrap i64 (Vec.Cost (Bpdu.Vec b) * 20000)))]]) (enS true (idB (Vec.Bridge (Bpdu.Vec b))))) [[D.int IntKind.u8 (128)], [D.int IntKind.u8 (wrap IntKind.u8 (wrap i64 (Vec.Port (Bpdu.Vec b) + 1)))], [D.int IntKind.u8 (wrap IntKind.u8 (Bpdu.Hops b))], [D.int IntKind.u8 (0)], [D.int IntKind.u8 (8)], [D.int IntKind.u8 (0)], [D.int IntKind.u8 (2)], [D.int IntKind.u8 (0)], [D.int IntKind.u8 (15)], [D.int IntKind.u8 (0)], [D.int IntKind.u8 (0)]])]], []) else none else none else none else none := by kernel_rfl
theorem m29 (b : Bpdu) (hpre : (o29 b).1 = true) : evFn ⟨Go.Proofs.Try.prog, Hx, 29⟩ T72.call 0 f29 [[.bool b.Change, .bool b.Ask, .bool b.Agree, .bool b.Learn, .bool b.Open, .int .i64 b.Role, .int .i64 b.Vec.Root, .int .i64 b.Vec.Cost, .int .i64 b.Vec.Bridge, .int .i64 b.Vec.Port, .int .i64 b.Hops]] = some (o29 b).2 := by
  refine (r29 b _).trans ?_
  show _ = (some ([[.sl true 1 (enS true (bpduBs b))]], []) : Option (List Row × List Row))
  replace hpre : (true) = true := hpre
  unfold bpduBs
  cases h : bpduOk b
  · rfl
  · have hc := bpdu_cost h
    have hl : ∀ x, (idB x).length = 8 := fun _ => rfl
    simp (disch := omega) only [wrap_sm]
    simp only [h, Bool.not_true, cond_true, cond_false, noSl_u8, List.append_eq, enS_length, hl, List.length_cons, List.length_append, List.length_nil, Nat.reduceAdd, Nat.reduceMul, Nat.reduceLeDiff, decide_true, Bool.and_self, enS_append, enS_cons, enS_nil, u8_enc]
    rfl
theorem s29 : SoundAt Go.Proofs.Try.prog Hx 29 c29 := soundAt_of T72_sound mixed func29 (by kernel_rfl) (by
  intro rows r h
  unfold c29 at h
  split at h
  · rename_i b_Change b_Ask b_Agree b_Learn b_Open b_Role b_Vec_Root b_Vec_Cost b_Vec_Bridge b_Vec_Port b_Hops
    obtain ⟨hp, hr⟩ := Prod.mk.inj (Option.some.inj h)
    subst hr
    exact ⟨_, m29 ⟨b_Change, b_Ask, b_Agree, b_Learn, b_Open, b_Role, ⟨b_Vec_Root, b_Vec_Cost, b_Vec_Bridge, b_Vec_Port⟩, b_Hops⟩ hp⟩
  · cases h)
def T29 : Table := (29, c29) :: T72
theorem T29_sound : Table.Sound Go.Proofs.Try.prog Hx T29 := Table.sound_cons s29 T72_sound
def o38 (b : Bpdu) : Bool × List Row × List Row := (true, [[.sl true 1 (enS true (bpduBs b))]], [])
def c38 : Contract
  | [[.bool b_Change, .bool b_Ask, .bool b_Agree, .bool b_Learn, .bool b_Open, .int .i64 b_Role, .int .i64 b_Vec_Root, .int .i64 b_Vec_Cost, .int .i64 b_Vec_Bridge, .int .i64 b_Vec_Port, .int .i64 b_Hops]] => some ((o38 ⟨b_Change, b_Ask, b_Agree, b_Learn, b_Open, b_Role, ⟨b_Vec_Root, b_Vec_Cost, b_Vec_Bridge, b_Vec_Port⟩, b_Hops⟩).1, (o38 ⟨b_Change, b_Ask, b_Agree, b_Learn, b_Open, b_Role, ⟨b_Vec_Root, b_Vec_Cost, b_Vec_Bridge, b_Vec_Port⟩, b_Hops⟩).2.1, (o38 ⟨b_Change, b_Ask, b_Agree, b_Learn, b_Open, b_Role, ⟨b_Vec_Root, b_Vec_Cost, b_Vec_Bridge, b_Vec_Port⟩, b_Hops⟩).2.2)
  | _ => none

theorem r38 (b : Bpdu) (n : Nat) : evFn ⟨prog, Hx, 38⟩ T29.call n f38 [[.bool b.Change, .bool b.Ask, .bool b.Agree, .bool b.Learn, .bool b.Open, .int .i64 b.Role, .int .i64 b.Vec.Root, .int .i64 b.Vec.Cost, .int .i64 b.Vec.Bridge, .int .i64 b.Vec.Port, .int .i64 b.Hops]] = bif !bpduOk b then some ([[D.sl true 1 []]], []) else bif (all (enS true (idB (Vec.Root (Bpdu.Vec b)))) fun r ↦ all r D.noSl) && true && decide ((5 + length (enS true (idB (Vec.Root (Bpdu.Vec b))))) * 1 ≤ 140737488355328) then bif decide ((length ([D.int IntKind.u8 (0)] :: [D.int IntKind.u8 (0)] :: [D.int IntKind.u8 (2)] :: [D.int IntKind.u8 (2)] :: [D.int IntKind.u8 (wrap IntKind.u8 (flagsOf b))] :: enS true (idB (Vec.Root (Bpdu.Vec b)))) + 4) * 1 ≤ 140737488355328) then bif (all (enS true (idB (Vec.Bridge (Bpdu.Vec b)))) fun r ↦ all r D.noSl) && true && decide ((length ([D.int IntKind.u8 (0)] :: [D.int IntKind.u8 (0)] :: [D.int IntKind.u8 (2)] :: [D.int IntKind.u8 (2)] :: [D.int IntKind.u8 (wrap IntKind.u8 (flagsOf b))] :: append (enS true (idB (Vec.Root (Bpdu.Vec b)))) [[D.int IntKind.u8 (wrap IntKind.u8 (wrap i64 (ofNat (BitVec.toNat (BitVec.and (BitVec.ofInt 64 (Int.fdiv (wrap i64 (20000 * Vec.Cost (Bpdu.Vec b))) (ofNat 16777216))) (BitVec.ofInt 64 (255)))))))], [D.int IntKind.u8 (wrap IntKind.u8 (wrap i64 (ofNat (BitVec.toNat (BitVec.and (BitVec.ofInt 64 (Int.fdiv (wrap i64 (20000 * Vec.Cost (Bpdu.Vec b))) (ofNat 65536))) (BitVec.ofInt 64 (255)))))))], [D.int IntKind.u8 (wrap IntKind.u8 (wrap i64 (ofNat (BitVec.toNat (BitVec.and (BitVec.ofInt 64 (Int.fdiv (wrap i64 (20000 * Vec.Cost (Bpdu.Vec b))) (ofNat 256))) (BitVec.ofInt 64 (255)))))))], [D.int IntKind.u8 (wrap IntKind.u8 (wrap i64 (ofNat (BitVec.toNat (BitVec.and (BitVec.ofInt 64 (wrap i64 (20000 * Vec.Cost (Bpdu.Vec b)))) (BitVec.ofInt 64 (255)))))))]]) + length (enS true (idB (Vec.Bridge (Bpdu.Vec b))))) * 1 ≤ 140737488355328) then bif decide ((length ([D.int IntKind.u8 (0)] :: [D.int IntKind.u8 (0)] :: [D.int IntKind.u8 (2)] :: [D.int IntKind.u8 (2)] :: [D.int IntKind.u8 (wrap IntKind.u8 (flagsOf b))] :: append (append (enS true (idB (Vec.Root (Bpdu.Vec b)))) [[D.int IntKind.u8 (wrap IntKind.u8 (wrap i64 (ofNat (BitVec.toNat (BitVec.and (BitVec.ofInt 64 (Int.fdiv (wrap i64 (20000 * Vec.Cost (Bpdu.Vec b))) (ofNat 16777216))) (BitVec.ofInt 64 (255)))))))], [D.int IntKind.u8 (wrap IntKind.u8 (wrap i64 (ofNat (BitVec.toNat (BitVec.and (BitVec.ofInt 64 (Int.fdiv (wrap i64 (20000 * Vec.Cost (Bpdu.Vec b))) (ofNat 65536))) (BitVec.ofInt 64 (255)))))))], [D.int IntKind.u8 (wrap IntKind.u8 (wrap i64 (ofNat (BitVec.toNat (BitVec.and (BitVec.ofInt 64 (Int.fdiv (wrap i64 (20000 * Vec.Cost (Bpdu.Vec b))) (ofNat 256))) (BitVec.ofInt 64 (255)))))))], [D.int IntKind.u8 (wrap IntKind.u8 (wrap i64 (ofNat (BitVec.toNat (BitVec.and (BitVec.ofInt 64 (wrap i64 (20000 * Vec.Cost (Bpdu.Vec b)))) (BitVec.ofInt 64 (255)))))))]]) (enS true (idB (Vec.Bridge (Bpdu.Vec b))))) + 11) * 1 ≤ 140737488355328) then some ([[D.sl true 1 ([D.int IntKind.u8 (0)] :: [D.int IntKind.u8 (0)] :: [D.int IntKind.u8 (2)] :: [D.int IntKind.u8 (2)] :: [D.int IntKind.u8 (wrap IntKind.u8 (flagsOf b))] :: append (append (append (enS true (idB (Vec.Root (Bpdu.Vec b)))) [[D.int IntKind.u8 (wrap IntKind.u8 (wrap i64 (ofNat (BitVec.toNat (BitVec.and (BitVec.ofInt 64 (Int.fdiv (wrap i64 (20000 * Vec.Cost (Bpdu.Vec b))) (ofNat 16777216))) (BitVec.ofInt 64 (255)))))))], [D.int IntKind.u8 (wrap IntKind.u8 (wrap i64 (ofNat (BitVec.toNat (BitVec.and (BitVec.ofInt 64 (Int.fdiv (wrap i64 (20000 * Vec.Cost (Bpdu.Vec b))) (ofNat 65536))) (BitVec.ofInt 64 (255)))))))], [D.int IntKind.u8 (wrap IntKind.u8 (wrap i64 (ofNat (BitVec.toNat (BitVec.and (BitVec.ofInt 64 (Int.fdiv (wrap i64 (20000 * Vec.Cost (Bpdu.Vec b))) (ofNat 256))) (BitVec.ofInt 64 (255)))))))], [D.int IntKind.u8 (wrap IntKind.u8 (wrap i64 (ofNat (BitVec.toNat (BitVec.and (BitVec.ofInt 64 (wrap i64 (20000 * Vec.Cost (Bpdu.Vec b)))) (BitVec.ofInt 64 (255)))))))]]) (enS true (idB (Vec.Bridge (Bpdu.Vec b))))) [[D.int IntKind.u8 (128)], [D.int IntKind.u8 (wrap IntKind.u8 (wrap i64 (Vec.Port (Bpdu.Vec b) + 1)))], [D.int IntKind.u8 (wrap IntKind.u8 (Bpdu.Hops b))], [D.int IntKind.u8 (0)], [D.int IntKind.u8 (8)], [D.int IntKind.u8 (0)], [D.int IntKind.u8 (2)], [D.int IntKind.u8 (0)], [D.int IntKind.u8 (15)], [D.int IntKind.u8 (0)], [D.int IntKind.u8 (0)]])]], []) else none else none else none else none := by kernel_rfl
theorem m38 (b : Bpdu) (hpre : (o38 b).1 = true) : evFn ⟨Go.Proofs.Try.prog, Hx, 38⟩ T29.call 0 f38 [[.bool b.Change, .bool b.Ask, .bool b.Agree, .bool b.Learn, .bool b.Open, .int .i64 b.Role, .int .i64 b.Vec.Root, .int .i64 b.Vec.Cost, .int .i64 b.Vec.Bridge, .int .i64 b.Vec.Port, .int .i64 b.Hops]] = some (o38 b).2 := by
  refine (r38 b _).trans ?_
  show _ = (some ([[.sl true 1 (enS true (bpduBs b))]], []) : Option (List Row × List Row))
  replace hpre : (true) = true := hpre
  unfold bpduBs
  cases h : bpduOk b
  · rfl
  · have hc := bpdu_cost h
    have hl : ∀ x, (idB x).length = 8 := fun _ => rfl
    rw [Int.mul_comm 20000 b.Vec.Cost]
    simp (disch := omega) only [wrap_sm]
    simp only [and255, Int.mul_comm 20000 b.Vec.Cost, h, Bool.not_true, cond_true, cond_false, noSl_u8, List.append_eq, enS_length, hl, List.length_cons, List.length_append, List.length_nil, Nat.reduceAdd, Nat.reduceMul, Nat.reduceLeDiff, decide_true, Bool.and_self, enS_append, enS_cons, enS_nil, u8_enc]
    rfl
theorem s38 : SoundAt Go.Proofs.Try.prog Hx 38 c38 := soundAt_of T29_sound mixed func38 (by kernel_rfl) (by
  intro rows r h
  unfold c38 at h
  split at h
  · rename_i b_Change b_Ask b_Agree b_Learn b_Open b_Role b_Vec_Root b_Vec_Cost b_Vec_Bridge b_Vec_Port b_Hops
    obtain ⟨hp, hr⟩ := Prod.mk.inj (Option.some.inj h)
    subst hr
    exact ⟨_, m38 ⟨b_Change, b_Ask, b_Agree, b_Learn, b_Open, b_Role, ⟨b_Vec_Root, b_Vec_Cost, b_Vec_Bridge, b_Vec_Port⟩, b_Hops⟩ hp⟩
  · cases h)
def T38 : Table := (38, c38) :: T29
theorem T38_sound : Table.Sound Go.Proofs.Try.prog Hx T38 := Table.sound_cons s38 T29_sound
end Go.Ev
end
