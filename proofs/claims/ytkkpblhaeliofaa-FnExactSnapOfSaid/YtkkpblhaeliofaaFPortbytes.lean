/- Contracts of functions, each by its evaluation. -/
import Derived.Test.YtkkpblhaeliofaaEvMd
import Derived.Test.YtkkpblhaeliofaaProg
import Derived.KernelRfl
import Derived.Test.YtkkpblhaeliofaaFPutnum
set_option linter.unusedVariables false
set_option linter.unusedSimpArgs false
set_option maxRecDepth 100000
noncomputable section
open List (getD length drop take set append replicate all isEmpty)
open Int (toNat ofNat)
open Go.IntKind (i64 wrap)
open Go.Proofs.Try (prog f31 f32 func31 func32)
namespace Go.Ev
open Go.RowKit Go.Md
end Go.Ev
namespace Go.Md
open Go Go.Ev
def portBs (p : Port) : List UInt8 := bif portOk p then [u8 (bitI p.Up 1 + bitI p.Has 2 + bitI p.Open 4)] ++ putNums [p.Role, p.Wait, p.Hops, p.Left, p.Vec.Root, p.Vec.Cost, p.Vec.Bridge, p.Vec.Port] else []
theorem portBs_length (p : Port) : (portBs p).length ≤ 41 := by
  unfold portBs
  cases portOk p
  · simp
  · have := putNums_length [p.Role, p.Wait, p.Hops, p.Left, p.Vec.Root, p.Vec.Cost, p.Vec.Bridge, p.Vec.Port]
    simp only [cond_true, List.length_append, List.length_cons, List.length_nil] at this ⊢
    omega
end Go.Md
namespace Go.Ev
open Go.Md
def o31 (p : Port) : Bool × List Row × List Row := (true, [[.sl true 1 (enS true (portBs p))]], [])
def c31 : Contract
  | [[.bool p_Up, .bool p_Has, .int .i64 p_Vec_Root, .int .i64 p_Vec_Cost, .int .i64 p_Vec_Bridge, .int .i64 p_Vec_Port, .int .i64 p_Hops, .int .i64 p_Left, .int .i64 p_Role, .int .i64 p_Wait, .bool p_Open]] => some ((o31 ⟨p_Up, p_Has, ⟨p_Vec_Root, p_Vec_Cost, p_Vec_Bridge, p_Vec_Port⟩, p_Hops, p_Left, p_Role, p_Wait, p_Open⟩).1, (o31 ⟨p_Up, p_Has, ⟨p_Vec_Root, p_Vec_Cost, p_Vec_Bridge, p_Vec_Port⟩, p_Hops, p_Left, p_Role, p_Wait, p_Open⟩).2.1, (o31 ⟨p_Up, p_Has, ⟨p_Vec_Root, p_Vec_Cost, p_Vec_Bridge, p_Vec_Port⟩, p_Hops, p_Left, p_Role, p_Wait, p_Open⟩).2.2)
  | _ => none

theorem r31 (p : Port) (n : Nat) : evFn ⟨prog, Hx, 31⟩ T63.call n f31 [[.bool p.Up, .bool p.Has, .int .i64 p.Vec.Root, .int .i64 p.Vec.Cost, .int .i64 p.Vec.Bridge, .int .i64 p.Vec.Port, .int .i64 p.Hops, .int .i64 p.Left, .int .i64 p.Role, .int .i64 p.Wait, .bool p.Open]] = bif !portOk p then some ([[D.sl true 1 []]], []) else bif isS UInt8 true [[D.int IntKind.u8 (wrap IntKind.u8 (wrap i64 (wrap i64 (bitI (Port.Up p) (1) + bitI (Port.Has p) (2)) + bitI (Port.Open p) (4))))]] && isS Int false [[D.int i64 (Port.Role p)], [D.int i64 (Port.Wait p)], [D.int i64 (Port.Hops p)], [D.int i64 (Port.Left p)], [D.int i64 (Vec.Root (Port.Vec p))], [D.int i64 (Vec.Cost (Port.Vec p))], [D.int i64 (Vec.Bridge (Port.Vec p))], [D.int i64 (Vec.Port (Port.Vec p))]] && (decide (length (deS UInt8 [[D.int IntKind.u8 (wrap IntKind.u8 (wrap i64 (wrap i64 (bitI (Port.Up p) (1) + bitI (Port.Has p) (2)) + bitI (Port.Open p) (4))))]]) ≤ 1000000) && decide (length (deS Int [[D.int i64 (Port.Role p)], [D.int i64 (Port.Wait p)], [D.int i64 (Port.Hops p)], [D.int i64 (Port.Left p)], [D.int i64 (Vec.Root (Port.Vec p))], [D.int i64 (Vec.Cost (Port.Vec p))], [D.int i64 (Vec.Bridge (Port.Vec p))], [D.int i64 (Vec.Port (Port.Vec p))]]) ≤ 1000)) then bif deepRows (enS true (append (deS UInt8 [[D.int IntKind.u8 (wrap IntKind.u8 (wrap i64 (wrap i64 (bitI (Port.Up p) (1) + bitI (Port.Has p) (2)) + bitI (Port.Open p) (4))))]]) (putNums (deS Int [[D.int i64 (Port.Role p)], [D.int i64 (Port.Wait p)], [D.int i64 (Port.Hops p)], [D.int i64 (Port.Left p)], [D.int i64 (Vec.Root (Port.Vec p))], [D.int i64 (Vec.Cost (Port.Vec p))], [D.int i64 (Vec.Bridge (Port.Vec p))], [D.int i64 (Vec.Port (Port.Vec p))]])))) && true && true && true && true then some ([[D.sl true 1 (enS true (append (deS UInt8 [[D.int IntKind.u8 (wrap IntKind.u8 (wrap i64 (wrap i64 (bitI (Port.Up p) (1) + bitI (Port.Has p) (2)) + bitI (Port.Open p) (4))))]]) (putNums (deS Int [[D.int i64 (Port.Role p)], [D.int i64 (Port.Wait p)], [D.int i64 (Port.Hops p)], [D.int i64 (Port.Left p)], [D.int i64 (Vec.Root (Port.Vec p))], [D.int i64 (Vec.Cost (Port.Vec p))], [D.int i64 (Vec.Bridge (Port.Vec p))], [D.int i64 (Vec.Port (Port.Vec p))]]))))]], []) else none else none := by kernel_rfl
theorem m31 (p : Port) (hpre : (o31 p).1 = true) : evFn ⟨Go.Proofs.Try.prog, Hx, 31⟩ T63.call 0 f31 [[.bool p.Up, .bool p.Has, .int .i64 p.Vec.Root, .int .i64 p.Vec.Cost, .int .i64 p.Vec.Bridge, .int .i64 p.Vec.Port, .int .i64 p.Hops, .int .i64 p.Left, .int .i64 p.Role, .int .i64 p.Wait, .bool p.Open]] = some (o31 p).2 := by
  refine (r31 p _).trans ?_
  show _ = (some ([[.sl true 1 (enS true (portBs p))]], []) : Option (List Row × List Row))
  replace hpre : (true) = true := hpre
  have h1 := bitI_b p.Up (f := 1) (by omega)
  have h2 := bitI_b p.Has (f := 2) (by omega)
  have h3 := bitI_b p.Open (f := 4) (by omega)
  unfold portBs
  cases h : portOk p
  · rfl
  simp (disch := omega) only [wrap_sm]
  have e2 : ([[D.int IntKind.i64 (Port.Role p)], [D.int IntKind.i64 (Port.Wait p)], [D.int IntKind.i64 (Port.Hops p)], [D.int IntKind.i64 (Port.Left p)], [D.int IntKind.i64 (Vec.Root (Port.Vec p))], [D.int IntKind.i64 (Vec.Cost (Port.Vec p))], [D.int IntKind.i64 (Vec.Bridge (Port.Vec p))], [D.int IntKind.i64 (Vec.Port (Port.Vec p))]] : List (List D)) = enS false [p.Role, p.Wait, p.Hops, p.Left, p.Vec.Root, p.Vec.Cost, p.Vec.Bridge, p.Vec.Port] := rfl
  have hl := putNums_length [p.Role, p.Wait, p.Hops, p.Left, p.Vec.Root, p.Vec.Cost, p.Vec.Bridge, p.Vec.Port]
  simp only [List.length_cons, List.length_nil] at hl
  have e1 : ([[D.int IntKind.u8 (IntKind.wrap IntKind.u8 (bitI p.Up 1 + bitI p.Has 2 + bitI p.Open 4))]] : List (List D)) = enS true [u8 (bitI p.Up 1 + bitI p.Has 2 + bitI p.Open 4)] := by rw [enS_one, u8_enc]
  simp only [e1, e2, isS_enS, deS_enS, deepRows_enS, List.length_cons, List.length_nil, Nat.reduceAdd, Nat.reduceLeDiff, decide_true, Bool.and_self, Bool.and_true, cond_true, cond_false, Bool.not_true]
  rfl
theorem s31 : SoundAt Go.Proofs.Try.prog Hx 31 c31 := soundAt_of T63_sound mixed func31 (by kernel_rfl) (by
  intro rows r h
  unfold c31 at h
  split at h
  · rename_i p_Up p_Has p_Vec_Root p_Vec_Cost p_Vec_Bridge p_Vec_Port p_Hops p_Left p_Role p_Wait p_Open
    obtain ⟨hp, hr⟩ := Prod.mk.inj (Option.some.inj h)
    subst hr
    exact ⟨_, m31 ⟨p_Up, p_Has, ⟨p_Vec_Root, p_Vec_Cost, p_Vec_Bridge, p_Vec_Port⟩, p_Hops, p_Left, p_Role, p_Wait, p_Open⟩ hp⟩
  · cases h)
def T31 : Table := (31, c31) :: T63
theorem T31_sound : Table.Sound Go.Proofs.Try.prog Hx T31 := Table.sound_cons s31 T63_sound
def o32 (p : Port) : Bool × List Row × List Row := (true, [[.sl true 1 (enS true (portBs p))]], [])
def c32 : Contract
  | [[.bool p_Up, .bool p_Has, .int .i64 p_Vec_Root, .int .i64 p_Vec_Cost, .int .i64 p_Vec_Bridge, .int .i64 p_Vec_Port, .int .i64 p_Hops, .int .i64 p_Left, .int .i64 p_Role, .int .i64 p_Wait, .bool p_Open]] => some ((o32 ⟨p_Up, p_Has, ⟨p_Vec_Root, p_Vec_Cost, p_Vec_Bridge, p_Vec_Port⟩, p_Hops, p_Left, p_Role, p_Wait, p_Open⟩).1, (o32 ⟨p_Up, p_Has, ⟨p_Vec_Root, p_Vec_Cost, p_Vec_Bridge, p_Vec_Port⟩, p_Hops, p_Left, p_Role, p_Wait, p_Open⟩).2.1, (o32 ⟨p_Up, p_Has, ⟨p_Vec_Root, p_Vec_Cost, p_Vec_Bridge, p_Vec_Port⟩, p_Hops, p_Left, p_Role, p_Wait, p_Open⟩).2.2)
  | _ => none

theorem r32 (p : Port) (n : Nat) : evFn ⟨prog, Hx, 32⟩ T31.call n f32 [[.bool p.Up, .bool p.Has, .int .i64 p.Vec.Root, .int .i64 p.Vec.Cost, .int .i64 p.Vec.Bridge, .int .i64 p.Vec.Port, .int .i64 p.Hops, .int .i64 p.Left, .int .i64 p.Role, .int .i64 p.Wait, .bool p.Open]] = bif !portOk p then some ([[D.sl true 1 []]], []) else bif isS Int false [[D.int i64 (Port.Role p)], [D.int i64 (Port.Wait p)], [D.int i64 (Port.Hops p)], [D.int i64 (Port.Left p)], [D.int i64 (Vec.Root (Port.Vec p))], [D.int i64 (Vec.Cost (Port.Vec p))], [D.int i64 (Vec.Bridge (Port.Vec p))], [D.int i64 (Vec.Port (Port.Vec p))]] && decide (length (deS Int [[D.int i64 (Port.Role p)], [D.int i64 (Port.Wait p)], [D.int i64 (Port.Hops p)], [D.int i64 (Port.Left p)], [D.int i64 (Vec.Root (Port.Vec p))], [D.int i64 (Vec.Cost (Port.Vec p))], [D.int i64 (Vec.Bridge (Port.Vec p))], [D.int i64 (Vec.Port (Port.Vec p))]]) ≤ 1000) then bif deepRows (enS true (putNums (deS Int [[D.int i64 (Port.Role p)], [D.int i64 (Port.Wait p)], [D.int i64 (Port.Hops p)], [D.int i64 (Port.Left p)], [D.int i64 (Vec.Root (Port.Vec p))], [D.int i64 (Vec.Cost (Port.Vec p))], [D.int i64 (Vec.Bridge (Port.Vec p))], [D.int i64 (Vec.Port (Port.Vec p))]]))) && true && true && true && true then bif (all (enS true (putNums (deS Int [[D.int i64 (Port.Role p)], [D.int i64 (Port.Wait p)], [D.int i64 (Port.Hops p)], [D.int i64 (Port.Left p)], [D.int i64 (Vec.Root (Port.Vec p))], [D.int i64 (Vec.Cost (Port.Vec p))], [D.int i64 (Vec.Bridge (Port.Vec p))], [D.int i64 (Vec.Port (Port.Vec p))]]))) fun r ↦ all r D.noSl) && true && decide ((1 + length (enS true (putNums (deS Int [[D.int i64 (Port.Role p)], [D.int i64 (Port.Wait p)], [D.int i64 (Port.Hops p)], [D.int i64 (Port.Left p)], [D.int i64 (Vec.Root (Port.Vec p))], [D.int i64 (Vec.Cost (Port.Vec p))], [D.int i64 (Vec.Bridge (Port.Vec p))], [D.int i64 (Vec.Port (Port.Vec p))]])))) * 1 ≤ 140737488355328) then some ([[D.sl true 1 ([D.int IntKind.u8 (wrap IntKind.u8 (wrap i64 (wrap i64 (bitI (Port.Up p) (1) + wrap i64 (2 * bitI (Port.Has p) (1))) + wrap i64 (4 * bitI (Port.Open p) (1)))))] :: enS true (putNums (deS Int [[D.int i64 (Port.Role p)], [D.int i64 (Port.Wait p)], [D.int i64 (Port.Hops p)], [D.int i64 (Port.Left p)], [D.int i64 (Vec.Root (Port.Vec p))], [D.int i64 (Vec.Cost (Port.Vec p))], [D.int i64 (Vec.Bridge (Port.Vec p))], [D.int i64 (Vec.Port (Port.Vec p))]])))]], []) else none else none else none := by kernel_rfl
theorem m32 (p : Port) (hpre : (o32 p).1 = true) : evFn ⟨Go.Proofs.Try.prog, Hx, 32⟩ T31.call 0 f32 [[.bool p.Up, .bool p.Has, .int .i64 p.Vec.Root, .int .i64 p.Vec.Cost, .int .i64 p.Vec.Bridge, .int .i64 p.Vec.Port, .int .i64 p.Hops, .int .i64 p.Left, .int .i64 p.Role, .int .i64 p.Wait, .bool p.Open]] = some (o32 p).2 := by
  refine (r32 p _).trans ?_
  show _ = (some ([[.sl true 1 (enS true (portBs p))]], []) : Option (List Row × List Row))
  replace hpre : (true) = true := hpre
  have h1 := bitI_b p.Up (f := 1) (by omega)
  have h2 := bitI_b p.Has (f := 2) (by omega)
  have h3 := bitI_b p.Open (f := 4) (by omega)
  unfold portBs
  cases h : portOk p
  · rfl
  simp only [bitI_mul]
  simp (disch := omega) only [wrap_sm]
  have e2 : ([[D.int IntKind.i64 (Port.Role p)], [D.int IntKind.i64 (Port.Wait p)], [D.int IntKind.i64 (Port.Hops p)], [D.int IntKind.i64 (Port.Left p)], [D.int IntKind.i64 (Vec.Root (Port.Vec p))], [D.int IntKind.i64 (Vec.Cost (Port.Vec p))], [D.int IntKind.i64 (Vec.Bridge (Port.Vec p))], [D.int IntKind.i64 (Vec.Port (Port.Vec p))]] : List (List D)) = enS false [p.Role, p.Wait, p.Hops, p.Left, p.Vec.Root, p.Vec.Cost, p.Vec.Bridge, p.Vec.Port] := rfl
  have hl := putNums_length [p.Role, p.Wait, p.Hops, p.Left, p.Vec.Root, p.Vec.Cost, p.Vec.Bridge, p.Vec.Port]
  simp only [List.length_cons, List.length_nil] at hl
  have h47 : decide ((1 + (putNums [p.Role, p.Wait, p.Hops, p.Left, p.Vec.Root, p.Vec.Cost, p.Vec.Bridge, p.Vec.Port]).length) * 1 ≤ 140737488355328) = true := decide_eq_true (by omega)
  simp only [e2, isS_enS, deS_enS, deepRows_enS, noSl_u8, enS_length, h47, List.length_cons, List.length_nil, Nat.reduceAdd, Nat.reduceLeDiff, decide_true, Bool.and_self, Bool.and_true, Bool.true_and, cond_true, cond_false, Bool.not_true, enS_append, enS_one, u8_enc]
  rfl
theorem s32 : SoundAt Go.Proofs.Try.prog Hx 32 c32 := soundAt_of T31_sound mixed func32 (by kernel_rfl) (by
  intro rows r h
  unfold c32 at h
  split at h
  · rename_i p_Up p_Has p_Vec_Root p_Vec_Cost p_Vec_Bridge p_Vec_Port p_Hops p_Left p_Role p_Wait p_Open
    obtain ⟨hp, hr⟩ := Prod.mk.inj (Option.some.inj h)
    subst hr
    exact ⟨_, m32 ⟨p_Up, p_Has, ⟨p_Vec_Root, p_Vec_Cost, p_Vec_Bridge, p_Vec_Port⟩, p_Hops, p_Left, p_Role, p_Wait, p_Open⟩ hp⟩
  · cases h)
def T32 : Table := (32, c32) :: T31
theorem T32_sound : Table.Sound Go.Proofs.Try.prog Hx T32 := Table.sound_cons s32 T31_sound
end Go.Ev
end
