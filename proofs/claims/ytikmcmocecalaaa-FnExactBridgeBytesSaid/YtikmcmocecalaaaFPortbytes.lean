/- Contracts of functions, each by its evaluation. -/
import Derived.Test.YtikmcmocecalaaaEvMd
import Derived.Test.YtikmcmocecalaaaProg
import Derived.KernelRfl
import Derived.Test.YtikmcmocecalaaaFPutnum
set_option linter.unusedVariables false
set_option linter.unusedSimpArgs false
set_option maxRecDepth 100000
noncomputable section
namespace Go.Ev
open Go.RowKit Go.Md
end Go.Ev
namespace Go.Md
open Go Go.Ev
def portBs (p : Port) : List UInt8 := bif portOk p then [u8 (bitI p.Up 1 + bitI p.Has 2 + bitI p.Open 4)] ++ putNums [p.Role, p.Wait, p.Hops, p.Left, p.Vec.Root, p.Vec.Cost, p.Vec.Bridge, p.Vec.Port] else []
theorem portBs_length (p : Port) : (portBs p).length ≤ 41 := by
  unfold portBs
  cases portOk p
  · simp
  · have := putNums_length [p.Role, p.Wait, p.Hops, p.Left, p.Vec.Root, p.Vec.Cost, p.Vec.Bridge, p.Vec.Port]
    simp only [cond_true, List.length_append, List.length_cons, List.length_nil] at this ⊢
    omega
end Go.Md
namespace Go.Ev
open Go.Md
/- PortBytes -/
def o10 (p : Port) : Bool × List Row × List Row := (true, [[.sl true 1 (enS true (portBs p))]], [])
def c10 : Contract
  | [[.bool p_Up, .bool p_Has, .int .i64 p_Vec_Root, .int .i64 p_Vec_Cost, .int .i64 p_Vec_Bridge, .int .i64 p_Vec_Port, .int .i64 p_Hops, .int .i64 p_Left, .int .i64 p_Role, .int .i64 p_Wait, .bool p_Open]] => some ((o10 ⟨p_Up, p_Has, ⟨p_Vec_Root, p_Vec_Cost, p_Vec_Bridge, p_Vec_Port⟩, p_Hops, p_Left, p_Role, p_Wait, p_Open⟩).1, (o10 ⟨p_Up, p_Has, ⟨p_Vec_Root, p_Vec_Cost, p_Vec_Bridge, p_Vec_Port⟩, p_Hops, p_Left, p_Role, p_Wait, p_Open⟩).2.1, (o10 ⟨p_Up, p_Has, ⟨p_Vec_Root, p_Vec_Cost, p_Vec_Bridge, p_Vec_Port⟩, p_Hops, p_Left, p_Role, p_Wait, p_Open⟩).2.2)
  | _ => none

theorem r10 (p : Port) (n : Nat) : evFn ⟨Go.Proofs.Try.prog, Hx, 10⟩ T40.call n Go.Proofs.Try.f10 [[.bool p.Up, .bool p.Has, .int .i64 p.Vec.Root, .int .i64 p.Vec.Cost, .int .i64 p.Vec.Bridge, .int .i64 p.Vec.Port, .int .i64 p.Hops, .int .i64 p.Left, .int .i64 p.Role, .int .i64 p.Wait, .bool p.Open]] = bif !portOk p then some ([[D.sl true 1 []]], []) else bif isS UInt8 true [[D.int IntKind.u8 (IntKind.wrap IntKind.u8 (IntKind.wrap IntKind.i64 (IntKind.wrap IntKind.i64 (bitI (Port.Up p) (1) + bitI (Port.Has p) (2)) + bitI (Port.Open p) (4))))]] && isS Int false [[D.int IntKind.i64 (Port.Role p)], [D.int IntKind.i64 (Port.Wait p)], [D.int IntKind.i64 (Port.Hops p)], [D.int IntKind.i64 (Port.Left p)], [D.int IntKind.i64 (Vec.Root (Port.Vec p))], [D.int IntKind.i64 (Vec.Cost (Port.Vec p))], [D.int IntKind.i64 (Vec.Bridge (Port.Vec p))], [D.int IntKind.i64 (Vec.Port (Port.Vec p))]] && (decide (List.length (deS UInt8 [[D.int IntKind.u8 (IntKind.wrap IntKind.u8 (IntKind.wrap IntKind.i64 (IntKind.wrap IntKind.i64 (bitI (Port.Up p) (1) + bitI (Port.Has p) (2)) + bitI (Port.Open p) (4))))]]) ≤ 1000000) && decide (List.length (deS Int [[D.int IntKind.i64 (Port.Role p)], [D.int IntKind.i64 (Port.Wait p)], [D.int IntKind.i64 (Port.Hops p)], [D.int IntKind.i64 (Port.Left p)], [D.int IntKind.i64 (Vec.Root (Port.Vec p))], [D.int IntKind.i64 (Vec.Cost (Port.Vec p))], [D.int IntKind.i64 (Vec.Bridge (Port.Vec p))], [D.int IntKind.i64 (Vec.Port (Port.Vec p))]]) ≤ 1000)) then bif deepRows (enS true (List.append (deS UInt8 [[D.int IntKind.u8 (IntKind.wrap IntKind.u8 (IntKind.wrap IntKind.i64 (IntKind.wrap IntKind.i64 (bitI (Port.Up p) (1) + bitI (Port.Has p) (2)) + bitI (Port.Open p) (4))))]]) (putNums (deS Int [[D.int IntKind.i64 (Port.Role p)], [D.int IntKind.i64 (Port.Wait p)], [D.int IntKind.i64 (Port.Hops p)], [D.int IntKind.i64 (Port.Left p)], [D.int IntKind.i64 (Vec.Root (Port.Vec p))], [D.int IntKind.i64 (Vec.Cost (Port.Vec p))], [D.int IntKind.i64 (Vec.Bridge (Port.Vec p))], [D.int IntKind.i64 (Vec.Port (Port.Vec p))]])))) && true && true && true && true then some ([[D.sl true 1 (enS true (List.append (deS UInt8 [[D.int IntKind.u8 (IntKind.wrap IntKind.u8 (IntKind.wrap IntKind.i64 (IntKind.wrap IntKind.i64 (bitI (Port.Up p) (1) + bitI (Port.Has p) (2)) + bitI (Port.Open p) (4))))]]) (putNums (deS Int [[D.int IntKind.i64 (Port.Role p)], [D.int IntKind.i64 (Port.Wait p)], [D.int IntKind.i64 (Port.Hops p)], [D.int IntKind.i64 (Port.Left p)], [D.int IntKind.i64 (Vec.Root (Port.Vec p))], [D.int IntKind.i64 (Vec.Cost (Port.Vec p))], [D.int IntKind.i64 (Vec.Bridge (Port.Vec p))], [D.int IntKind.i64 (Vec.Port (Port.Vec p))]]))))]], []) else none else none := by kernel_rfl
theorem m10 (p : Port) (hpre : (o10 p).1 = true) : evFn ⟨Go.Proofs.Try.prog, Hx, 10⟩ T40.call 0 Go.Proofs.Try.f10 [[.bool p.Up, .bool p.Has, .int .i64 p.Vec.Root, .int .i64 p.Vec.Cost, .int .i64 p.Vec.Bridge, .int .i64 p.Vec.Port, .int .i64 p.Hops, .int .i64 p.Left, .int .i64 p.Role, .int .i64 p.Wait, .bool p.Open]] = some (o10 p).2 := by
  refine (r10 p _).trans ?_
  show _ = (some ([[.sl true 1 (enS true (portBs p))]], []) : Option (List Row × List Row))
  replace hpre : (true) = true := hpre
  have h1 := bitI_b p.Up (f := 1) (by omega)
  have h2 := bitI_b p.Has (f := 2) (by omega)
  have h3 := bitI_b p.Open (f := 4) (by omega)
  unfold portBs
  cases h : portOk p
  · rfl
  simp (disch := omega) only [wrap_sm]
  have e2 : ([[D.int IntKind.i64 (Port.Role p)], [D.int IntKind.i64 (Port.Wait p)], [D.int IntKind.i64 (Port.Hops p)], [D.int IntKind.i64 (Port.Left p)], [D.int IntKind.i64 (Vec.Root (Port.Vec p))], [D.int IntKind.i64 (Vec.Cost (Port.Vec p))], [D.int IntKind.i64 (Vec.Bridge (Port.Vec p))], [D.int IntKind.i64 (Vec.Port (Port.Vec p))]] : List (List D)) = enS false [p.Role, p.Wait, p.Hops, p.Left, p.Vec.Root, p.Vec.Cost, p.Vec.Bridge, p.Vec.Port] := rfl
  have hl := putNums_length [p.Role, p.Wait, p.Hops, p.Left, p.Vec.Root, p.Vec.Cost, p.Vec.Bridge, p.Vec.Port]
  simp only [List.length_cons, List.length_nil] at hl
  have e1 : ([[D.int IntKind.u8 (IntKind.wrap IntKind.u8 (bitI p.Up 1 + bitI p.Has 2 + bitI p.Open 4))]] : List (List D)) = enS true [u8 (bitI p.Up 1 + bitI p.Has 2 + bitI p.Open 4)] := by rw [enS_one, u8_enc]
  simp only [e1, e2, isS_enS, deS_enS, deepRows_enS, List.length_cons, List.length_nil, Nat.reduceAdd, Nat.reduceLeDiff, decide_true, Bool.and_self, Bool.and_true, cond_true, cond_false, Bool.not_true]
  rfl
theorem s10 : SoundAt Go.Proofs.Try.prog Hx 10 c10 := soundAt_of T40_sound mixed Go.Proofs.Try.func10 (by kernel_rfl) (by
  intro rows r h
  unfold c10 at h
  split at h
  · rename_i p_Up p_Has p_Vec_Root p_Vec_Cost p_Vec_Bridge p_Vec_Port p_Hops p_Left p_Role p_Wait p_Open
    obtain ⟨hp, hr⟩ := Prod.mk.inj (Option.some.inj h)
    subst hr
    exact ⟨_, m10 ⟨p_Up, p_Has, ⟨p_Vec_Root, p_Vec_Cost, p_Vec_Bridge, p_Vec_Port⟩, p_Hops, p_Left, p_Role, p_Wait, p_Open⟩ hp⟩
  · cases h)
def T10 : Table := (10, c10) :: T40
theorem T10_sound : Table.Sound Go.Proofs.Try.prog Hx T10 := Table.sound_cons s10 T40_sound
/- PortBytesS -/
def o8 (p : Port) : Bool × List Row × List Row := (true, [[.sl true 1 (enS true (portBs p))]], [])
def c8 : Contract
  | [[.bool p_Up, .bool p_Has, .int .i64 p_Vec_Root, .int .i64 p_Vec_Cost, .int .i64 p_Vec_Bridge, .int .i64 p_Vec_Port, .int .i64 p_Hops, .int .i64 p_Left, .int .i64 p_Role, .int .i64 p_Wait, .bool p_Open]] => some ((o8 ⟨p_Up, p_Has, ⟨p_Vec_Root, p_Vec_Cost, p_Vec_Bridge, p_Vec_Port⟩, p_Hops, p_Left, p_Role, p_Wait, p_Open⟩).1, (o8 ⟨p_Up, p_Has, ⟨p_Vec_Root, p_Vec_Cost, p_Vec_Bridge, p_Vec_Port⟩, p_Hops, p_Left, p_Role, p_Wait, p_Open⟩).2.1, (o8 ⟨p_Up, p_Has, ⟨p_Vec_Root, p_Vec_Cost, p_Vec_Bridge, p_Vec_Port⟩, p_Hops, p_Left, p_Role, p_Wait, p_Open⟩).2.2)
  | _ => none

theorem r8 (p : Port) (n : Nat) : evFn ⟨Go.Proofs.Try.prog, Hx, 8⟩ T10.call n Go.Proofs.Try.f8 [[.bool p.Up, .bool p.Has, .int .i64 p.Vec.Root, .int .i64 p.Vec.Cost, .int .i64 p.Vec.Bridge, .int .i64 p.Vec.Port, .int .i64 p.Hops, .int .i64 p.Left, .int .i64 p.Role, .int .i64 p.Wait, .bool p.Open]] = bif !portOk p then some ([[D.sl true 1 []]], []) else bif isS Int false [[D.int IntKind.i64 (Port.Role p)], [D.int IntKind.i64 (Port.Wait p)], [D.int IntKind.i64 (Port.Hops p)], [D.int IntKind.i64 (Port.Left p)], [D.int IntKind.i64 (Vec.Root (Port.Vec p))], [D.int IntKind.i64 (Vec.Cost (Port.Vec p))], [D.int IntKind.i64 (Vec.Bridge (Port.Vec p))], [D.int IntKind.i64 (Vec.Port (Port.Vec p))]] && decide (List.length (deS Int [[D.int IntKind.i64 (Port.Role p)], [D.int IntKind.i64 (Port.Wait p)], [D.int IntKind.i64 (Port.Hops p)], [D.int IntKind.i64 (Port.Left p)], [D.int IntKind.i64 (Vec.Root (Port.Vec p))], [D.int IntKind.i64 (Vec.Cost (Port.Vec p))], [D.int IntKind.i64 (Vec.Bridge (Port.Vec p))], [D.int IntKind.i64 (Vec.Port (Port.Vec p))]]) ≤ 1000) then bif deepRows (enS true (putNums (deS Int [[D.int IntKind.i64 (Port.Role p)], [D.int IntKind.i64 (Port.Wait p)], [D.int IntKind.i64 (Port.Hops p)], [D.int IntKind.i64 (Port.Left p)], [D.int IntKind.i64 (Vec.Root (Port.Vec p))], [D.int IntKind.i64 (Vec.Cost (Port.Vec p))], [D.int IntKind.i64 (Vec.Bridge (Port.Vec p))], [D.int IntKind.i64 (Vec.Port (Port.Vec p))]]))) && true && true && true && true then bif (List.all (enS true (putNums (deS Int [[D.int IntKind.i64 (Port.Role p)], [D.int IntKind.i64 (Port.Wait p)], [D.int IntKind.i64 (Port.Hops p)], [D.int IntKind.i64 (Port.Left p)], [D.int IntKind.i64 (Vec.Root (Port.Vec p))], [D.int IntKind.i64 (Vec.Cost (Port.Vec p))], [D.int IntKind.i64 (Vec.Bridge (Port.Vec p))], [D.int IntKind.i64 (Vec.Port (Port.Vec p))]]))) fun r ↦ List.all r D.noSl) && true && decide ((1 + List.length (enS true (putNums (deS Int [[D.int IntKind.i64 (Port.Role p)], [D.int IntKind.i64 (Port.Wait p)], [D.int IntKind.i64 (Port.Hops p)], [D.int IntKind.i64 (Port.Left p)], [D.int IntKind.i64 (Vec.Root (Port.Vec p))], [D.int IntKind.i64 (Vec.Cost (Port.Vec p))], [D.int IntKind.i64 (Vec.Bridge (Port.Vec p))], [D.int IntKind.i64 (Vec.Port (Port.Vec p))]])))) * 1 ≤ 140737488355328) then some ([[D.sl true 1 ([D.int IntKind.u8 (IntKind.wrap IntKind.u8 (IntKind.wrap IntKind.i64 (IntKind.wrap IntKind.i64 (bitI (Port.Up p) (1) + IntKind.wrap IntKind.i64 (2 * bitI (Port.Has p) (1))) + IntKind.wrap IntKind.i64 (4 * bitI (Port.Open p) (1)))))] :: enS true (putNums (deS Int [[D.int IntKind.i64 (Port.Role p)], [D.int IntKind.i64 (Port.Wait p)], [D.int IntKind.i64 (Port.Hops p)], [D.int IntKind.i64 (Port.Left p)], [D.int IntKind.i64 (Vec.Root (Port.Vec p))], [D.int IntKind.i64 (Vec.Cost (Port.Vec p))], [D.int IntKind.i64 (Vec.Bridge (Port.Vec p))], [D.int IntKind.i64 (Vec.Port (Port.Vec p))]])))]], []) else none else none else none := by kernel_rfl
theorem m8 (p : Port) (hpre : (o8 p).1 = true) : evFn ⟨Go.Proofs.Try.prog, Hx, 8⟩ T10.call 0 Go.Proofs.Try.f8 [[.bool p.Up, .bool p.Has, .int .i64 p.Vec.Root, .int .i64 p.Vec.Cost, .int .i64 p.Vec.Bridge, .int .i64 p.Vec.Port, .int .i64 p.Hops, .int .i64 p.Left, .int .i64 p.Role, .int .i64 p.Wait, .bool p.Open]] = some (o8 p).2 := by
  refine (r8 p _).trans ?_
  show _ = (some ([[.sl true 1 (enS true (portBs p))]], []) : Option (List Row × List Row))
  replace hpre : (true) = true := hpre
  have h1 := bitI_b p.Up (f := 1) (by omega)
  have h2 := bitI_b p.Has (f := 2) (by omega)
  have h3 := bitI_b p.Open (f := 4) (by omega)
  unfold portBs
  cases h : portOk p
  · rfl
  simp only [bitI_mul]
  simp (disch := omega) only [wrap_sm]
  have e2 : ([[D.int IntKind.i64 (Port.Role p)], [D.int IntKind.i64 (Port.Wait p)], [D.int IntKind.i64 (Port.Hops p)], [D.int IntKind.i64 (Port.Left p)], [D.int IntKind.i64 (Vec.Root (Port.Vec p))], [D.int IntKind.i64 (Vec.Cost (Port.Vec p))], [D.int IntKind.i64 (Vec.Bridge (Port.Vec p))], [D.int IntKind.i64 (Vec.Port (Port.Vec p))]] : List (List D)) = enS false [p.Role, p.Wait, p.Hops, p.Left, p.Vec.Root, p.Vec.Cost, p.Vec.Bridge, p.Vec.Port] := rfl
  have hl := putNums_length [p.Role, p.Wait, p.Hops, p.Left, p.Vec.Root, p.Vec.Cost, p.Vec.Bridge, p.Vec.Port]
  simp only [List.length_cons, List.length_nil] at hl
  have h47 : decide ((1 + (putNums [p.Role, p.Wait, p.Hops, p.Left, p.Vec.Root, p.Vec.Cost, p.Vec.Bridge, p.Vec.Port]).length) * 1 ≤ 140737488355328) = true := decide_eq_true (by omega)
  simp only [e2, isS_enS, deS_enS, deepRows_enS, noSl_u8, enS_length, h47, List.length_cons, List.length_nil, Nat.reduceAdd, Nat.reduceLeDiff, decide_true, Bool.and_self, Bool.and_true, Bool.true_and, cond_true, cond_false, Bool.not_true, enS_append, enS_one, u8_enc]
  rfl
theorem s8 : SoundAt Go.Proofs.Try.prog Hx 8 c8 := soundAt_of T10_sound mixed Go.Proofs.Try.func8 (by kernel_rfl) (by
  intro rows r h
  unfold c8 at h
  split at h
  · rename_i p_Up p_Has p_Vec_Root p_Vec_Cost p_Vec_Bridge p_Vec_Port p_Hops p_Left p_Role p_Wait p_Open
    obtain ⟨hp, hr⟩ := Prod.mk.inj (Option.some.inj h)
    subst hr
    exact ⟨_, m8 ⟨p_Up, p_Has, ⟨p_Vec_Root, p_Vec_Cost, p_Vec_Bridge, p_Vec_Port⟩, p_Hops, p_Left, p_Role, p_Wait, p_Open⟩ hp⟩
  · cases h)
def T8 : Table := (8, c8) :: T10
theorem T8_sound : Table.Sound Go.Proofs.Try.prog Hx T8 := Table.sound_cons s8 T10_sound
end Go.Ev
end
