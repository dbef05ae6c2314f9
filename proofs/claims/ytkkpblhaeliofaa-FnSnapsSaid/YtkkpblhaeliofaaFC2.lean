/- Contracts of functions, each by its evaluation. -/
import Derived.Test.YtkkpblhaeliofaaEvMd
import Derived.Test.YtkkpblhaeliofaaProg
import Derived.KernelRfl
import Derived.Test.YtkkpblhaeliofaaFC1
set_option linter.unusedVariables false
set_option linter.unusedSimpArgs false
set_option maxRecDepth 100000
noncomputable section
open List (getD length drop take set append replicate all isEmpty)
open Int (toNat ofNat)
open Go.IntKind (i64 wrap)
open Go.Proofs.Try (prog f23 f30 f31 f32 f33 f49 f62 f64 f65 f79 func23 func30 func31 func32 func33 func49 func62 func64 func65 func79)
namespace Go.Ev
open Go.RowKit Go.Md
end Go.Ev
namespace Go.Md
open Go Go.Ev
def portBs (p : Port) : List UInt8 := bif portOk p then [u8 (bitI p.Up 1 + bitI p.Has 2 + bitI p.Open 4)] ++ putNums [p.Role, p.Wait, p.Hops, p.Left, p.Vec.Root, p.Vec.Cost, p.Vec.Bridge, p.Vec.Port] else []
theorem portBs_length (p : Port) : (portBs p).length ≤ 41 := by
  unfold portBs
  cases portOk p
  · simp
  · have := putNums_length [p.Role, p.Wait, p.Hops, p.Left, p.Vec.Root, p.Vec.Cost, p.Vec.Bridge, p.Vec.Port]
    simp only [cond_true, List.length_append, List.length_cons, List.length_nil] at this ⊢
    omega
end Go.Md
namespace Go.Ev
open Go.Md
def o31 (p : Port) : Bool × List Row × List Row := (true, [[.sl true 1 (enS true (portBs p))]], [])
def c31 : Contract
  | [[.bool p_Up, .bool p_Has, .int .i64 p_Vec_Root, .int .i64 p_Vec_Cost, .int .i64 p_Vec_Bridge, .int .i64 p_Vec_Port, .int .i64 p_Hops, .int .i64 p_Left, .int .i64 p_Role, .int .i64 p_Wait, .bool p_Open]] => some ((o31 ⟨p_Up, p_Has, ⟨p_Vec_Root, p_Vec_Cost, p_Vec_Bridge, p_Vec_Port⟩, p_Hops, p_Left, p_Role, p_Wait, p_Open⟩).1, (o31 ⟨p_Up, p_Has, ⟨p_Vec_Root, p_Vec_Cost, p_Vec_Bridge, p_Vec_Port⟩, p_Hops, p_Left, p_Role, p_Wait, p_Open⟩).2.1, (o31 ⟨p_Up, p_Has, ⟨p_Vec_Root, p_Vec_Cost, p_Vec_Bridge, p_Vec_Port⟩, p_Hops, p_Left, p_Role, p_Wait, p_Open⟩).2.2)
  | _ => none

theorem r31 (p : Port) (n : Nat) : evFn ⟨prog, Hx, 31⟩ T63.call n f31 [[.bool p.Up, .bool p.Has, .int .i64 p.Vec.Root, .int .i64 p.Vec.Cost, .int .i64 p.Vec.Bridge, .int .i64 p.Vec.Port, .int .i64 p.Hops, .int .i64 p.Left, .int .i64 p.Role, .int .i64 p.Wait, .bool p.Open]] = bif !portOk p then some ([[D.sl true 1 []]], []) else bif isS UInt8 true [[D.int IntKind.u8 (wrap IntKind.u8 (wrap i64 (wrap i64 (bitI (Port.Up p) (1) + bitI (Port.Has p) (2)) + bitI (Port.Open p) (4))))]] && isS Int false [[D.int i64 (Port.Role p)], [D.int i64 (Port.Wait p)], [D.int i64 (Port.Hops p)], [D.int i64 (Port.Left p)], [D.int i64 (Vec.Root (Port.Vec p))], [D.int i64 (Vec.Cost (Port.Vec p))], [D.int i64 (Vec.Bridge (Port.Vec p))], [D.int i64 (Vec.Port (Port.Vec p))]] && (decide (length (deS UInt8 [[D.int IntKind.u8 (wrap IntKind.u8 (wrap i64 (wrap i64 (bitI (Port.Up p) (1) + bitI (Port.Has p) (2)) + bitI (Port.Open p) (4))))]]) ≤ 1000000) && decide (length (deS Int [[D.int i64 (Port.Role p)], [D.int i64 (Port.Wait p)], [D.int i64 (Port.Hops p)], [D.int i64 (Port.Left p)], [D.int i64 (Vec.Root (Port.Vec p))], [D.int i64 (Vec.Cost (Port.Vec p))], [D.int i64 (Vec.Bridge (Port.Vec p))], [D.int i64 (Vec.Port (Port.Vec p))]]) ≤ 1000)) then bif deepRows (enS true (append (deS UInt8 [[D.int IntKind.u8 (wrap IntKind.u8 (wrap i64 (wrap i64 (bitI (Port.Up p) (1) + bitI (Port.Has p) (2)) + bitI (Port.Open p) (4))))]]) (putNums (deS Int [[D.int i64 (Port.Role p)], [D.int i64 (Port.Wait p)], [D.int i64 (Port.Hops p)], [D.int i64 (Port.Left p)], [D.int i64 (Vec.Root (Port.Vec p))], [D.int i64 (Vec.Cost (Port.Vec p))], [D.int i64 (Vec.Bridge (Port.Vec p))], [D.int i64 (Vec.Port (Port.Vec p))]])))) && true && true && true && true then some ([[D.sl true 1 (enS true (append (deS UInt8 [[D.int IntKind.u8 (wrap IntKind.u8 (wrap i64 (wrap i64 (bitI (Port.Up p) (1) + bitI (Port.Has p) (2)) + bitI (Port.Open p) (4))))]]) (putNums (deS Int [[D.int i64 (Port.Role p)], [D.int i64 (Port.Wait p)], [D.int i64 (Port.Hops p)], [D.int i64 (Port.Left p)], [D.int i64 (Vec.Root (Port.Vec p))], [D.int i64 (Vec.Cost (Port.Vec p))], [D.int i64 (Vec.Bridge (Port.Vec p))], [D.int i64 (Vec.Port (Port.Vec p))]]))))]], []) else none else none := by kernel_rfl
theorem m31 (p : Port) (hpre : (o31 p).1 = true) : evFn ⟨Go.Proofs.Try.prog, Hx, 31⟩ T63.call 0 f31 [[.bool p.Up, .bool p.Has, .int .i64 p.Vec.Root, .int .i64 p.Vec.Cost, .int .i64 p.Vec.Bridge, .int .i64 p.Vec.Port, .int .i64 p.Hops, .int .i64 p.Left, .int .i64 p.Role, .int .i64 p.Wait, .bool p.Open]] = some (o31 p).2 := by
  refine (r31 p _).trans ?_
  show _ = (some ([[.sl true 1 (enS true (portBs p))]], []) : Option (List Row × List Row))
  replace hpre : (true) = true := hpre
  have h1 := bitI_b p.Up (f := 1) (by omega)
  have h2 := bitI_b p.Has (f := 2) (by omega)
  have h3 := bitI_b p.Open (f := 4) (by omega)
  unfold portBs
  cases h : portOk p
  · rfl
  simp (disch := omega) only [wrap_sm]
  have e2 : ([[D.int IntKind.i64 (Port.Role p)], [D.int IntKind.i64 (Port.Wait p)], [D.int IntKind.i64 (Port.Hops p)], [D.int IntKind.i64 (Port.Left p)], [D.int IntKind.i64 (Vec.Root (Port.Vec p))], [D.int IntKind.i64 (Vec.Cost (Port.Vec p))], [D.int IntKind.i64 (Vec.Bridge (Port.Vec p))], [D.int IntKind.i64 (Vec.Port (Port.Vec p))]] : List (List D)) = enS false [p.Role, p.Wait, p.Hops, p.Left, p.Vec.Root, p.Vec.Cost, p.Vec.Bridge, p.Vec.Port] := rfl
  have hl := putNums_length [p.Role, p.Wait, p.Hops, p.Left, p.Vec.Root, p.Vec.Cost, p.Vec.Bridge, p.Vec.Port]
  simp only [List.length_cons, List.length_nil] at hl
  have e1 : ([[D.int IntKind.u8 (IntKind.wrap IntKind.u8 (bitI p.Up 1 + bitI p.Has 2 + bitI p.Open 4))]] : List (List D)) = enS true [u8 (bitI p.Up 1 + bitI p.Has 2 + bitI p.Open 4)] := by rw [enS_one, u8_enc]
  simp only [e1, e2, isS_enS, deS_enS, deepRows_enS, List.length_cons, List.length_nil, Nat.reduceAdd, Nat.reduceLeDiff, decide_true, Bool.and_self, Bool.and_true, cond_true, cond_false, Bool.not_true]
  rfl
theorem s31 : SoundAt Go.Proofs.Try.prog Hx 31 c31 := soundAt_of T63_sound mixed func31 (by kernel_rfl) (by
  intro rows r h
  unfold c31 at h
  split at h
  · rename_i p_Up p_Has p_Vec_Root p_Vec_Cost p_Vec_Bridge p_Vec_Port p_Hops p_Left p_Role p_Wait p_Open
    obtain ⟨hp, hr⟩ := Prod.mk.inj (Option.some.inj h)
    subst hr
    exact ⟨_, m31 ⟨p_Up, p_Has, ⟨p_Vec_Root, p_Vec_Cost, p_Vec_Bridge, p_Vec_Port⟩, p_Hops, p_Left, p_Role, p_Wait, p_Open⟩ hp⟩
  · cases h)
def T31 : Table := (31, c31) :: T63
theorem T31_sound : Table.Sound Go.Proofs.Try.prog Hx T31 := Table.sound_cons s31 T63_sound
def o32 (p : Port) : Bool × List Row × List Row := (true, [[.sl true 1 (enS true (portBs p))]], [])
def c32 : Contract
  | [[.bool p_Up, .bool p_Has, .int .i64 p_Vec_Root, .int .i64 p_Vec_Cost, .int .i64 p_Vec_Bridge, .int .i64 p_Vec_Port, .int .i64 p_Hops, .int .i64 p_Left, .int .i64 p_Role, .int .i64 p_Wait, .bool p_Open]] => some ((o32 ⟨p_Up, p_Has, ⟨p_Vec_Root, p_Vec_Cost, p_Vec_Bridge, p_Vec_Port⟩, p_Hops, p_Left, p_Role, p_Wait, p_Open⟩).1, (o32 ⟨p_Up, p_Has, ⟨p_Vec_Root, p_Vec_Cost, p_Vec_Bridge, p_Vec_Port⟩, p_Hops, p_Left, p_Role, p_Wait, p_Open⟩).2.1, (o32 ⟨p_Up, p_Has, ⟨p_Vec_Root, p_Vec_Cost, p_Vec_Bridge, p_Vec_Port⟩, p_Hops, p_Left, p_Role, p_Wait, p_Open⟩).2.2)
  | _ => none

theorem r32 (p : Port) (n : Nat) : evFn ⟨prog, Hx, 32⟩ T31.call n f32 [[.bool p.Up, .bool p.Has, .int .i64 p.Vec.Root, .int .i64 p.Vec.Cost, .int .i64 p.Vec.Bridge, .int .i64 p.Vec.Port, .int .i64 p.Hops, .int .i64 p.Left, .int .i64 p.Role, .int .i64 p.Wait, .bool p.Open]] = bif !portOk p then some ([[D.sl true 1 []]], []) else bif isS Int false [[D.int i64 (Port.Role p)], [D.int i64 (Port.Wait p)], [D.int i64 (Port.Hops p)], [D.int i64 (Port.Left p)], [D.int i64 (Vec.Root (Port.Vec p))], [D.int i64 (Vec.Cost (Port.Vec p))], [D.int i64 (Vec.Bridge (Port.Vec p))], [D.int i64 (Vec.Port (Port.Vec p))]] && decide (length (deS Int [[D.int i64 (Port.Role p)], [D.int i64 (Port.Wait p)], [D.int i64 (Port.Hops p)], [D.int i64 (Port.Left p)], [D.int i64 (Vec.Root (Port.Vec p))], [D.int i64 (Vec.Cost (Port.Vec p))], [D.int i64 (Vec.Bridge (Port.Vec p))], [D.int i64 (Vec.Port (Port.Vec p))]]) ≤ 1000) then bif deepRows (enS true (putNums (deS Int [[D.int i64 (Port.Role p)], [D.int i64 (Port.Wait p)], [D.int i64 (Port.Hops p)], [D.int i64 (Port.Left p)], [D.int i64 (Vec.Root (Port.Vec p))], [D.int i64 (Vec.Cost (Port.Vec p))], [D.int i64 (Vec.Bridge (Port.Vec p))], [D.int i64 (Vec.Port (Port.Vec p))]]))) && true && true && true && true then bif (all (enS true (putNums (deS Int [[D.int i64 (Port.Role p)], [D.int i64 (Port.Wait p)], [D.int i64 (Port.Hops p)], [D.int i64 (Port.Left p)], [D.int i64 (Vec.Root (Port.Vec p))], [D.int i64 (Vec.Cost (Port.Vec p))], [D.int i64 (Vec.Bridge (Port.Vec p))], [D.int i64 (Vec.Port (Port.Vec p))]]))) fun r ↦ all r D.noSl) && true && decide ((1 + length (enS true (putNums (deS Int [[D.int i64 (Port.Role p)], [D.int i64 (Port.Wait p)], [D.int i64 (Port.Hops p)], [D.int i64 (Port.Left p)], [D.int i64 (Vec.Root (Port.Vec p))], [D.int i64 (Vec.Cost (Port.Vec p))], [D.int i64 (Vec.Bridge (Port.Vec p))], [D.int i64 (Vec.Port (Port.Vec p))]])))) * 1 ≤ 140737488355328) then some ([[D.sl true 1 ([D.int IntKind.u8 (wrap IntKind.u8 (wrap i64 (wrap i64 (bitI (Port.Up p) (1) + wrap i64 (2 * bitI (Port.Has p) (1))) + wrap i64 (4 * bitI (Port.Open p) (1)))))] :: enS true (putNums (deS Int [[D.int i64 (Port.Role p)], [D.int i64 (Port.Wait p)], [D.int i64 (Port.Hops p)], [D.int i64 (Port.Left p)], [D.int i64 (Vec.Root (Port.Vec p))], [D.int i64 (Vec.Cost (Port.Vec p))], [D.int i64 (Vec.Bridge (Port.Vec p))], [D.int i64 (Vec.Port (Port.Vec p))]])))]], []) else none else none else none := by kernel_rfl
theorem m32 (p : Port) (hpre : (o32 p).1 = true) : evFn ⟨Go.Proofs.Try.prog, Hx, 32⟩ T31.call 0 f32 [[.bool p.Up, .bool p.Has, .int .i64 p.Vec.Root, .int .i64 p.Vec.Cost, .int .i64 p.Vec.Bridge, .int .i64 p.Vec.Port, .int .i64 p.Hops, .int .i64 p.Left, .int .i64 p.Role, .int .i64 p.Wait, .bool p.Open]] = some (o32 p).2 := by
  refine (r32 p _).trans ?_
  show _ = (some ([[.sl true 1 (enS true (portBs p))]], []) : Option (List Row × List Row))
  replace hpre : (true) = true := hpre
  have h1 := bitI_b p.Up (f := 1) (by omega)
  have h2 := bitI_b p.Has (f := 2) (by omega)
  have h3 := bitI_b p.Open (f := 4) (by omega)
  unfold portBs
  cases h : portOk p
  · rfl
  simp only [bitI_mul]
  simp (disch := omega) only [wrap_sm]
  have e2 : ([[D.int IntKind.i64 (Port.Role p)], [D.int IntKind.i64 (Port.Wait p)], [D.int IntKind.i64 (Port.Hops p)], [D.int IntKind.i64 (Port.Left p)], [D.int IntKind.i64 (Vec.Root (Port.Vec p))], [D.int IntKind.i64 (Vec.Cost (Port.Vec p))], [D.int IntKind.i64 (Vec.Bridge (Port.Vec p))], [D.int IntKind.i64 (Vec.Port (Port.Vec p))]] : List (List D)) = enS false [p.Role, p.Wait, p.Hops, p.Left, p.Vec.Root, p.Vec.Cost, p.Vec.Bridge, p.Vec.Port] := rfl
  have hl := putNums_length [p.Role, p.Wait, p.Hops, p.Left, p.Vec.Root, p.Vec.Cost, p.Vec.Bridge, p.Vec.Port]
  simp only [List.length_cons, List.length_nil] at hl
  have h47 : decide ((1 + (putNums [p.Role, p.Wait, p.Hops, p.Left, p.Vec.Root, p.Vec.Cost, p.Vec.Bridge, p.Vec.Port]).length) * 1 ≤ 140737488355328) = true := decide_eq_true (by omega)
  simp only [e2, isS_enS, deS_enS, deepRows_enS, noSl_u8, enS_length, h47, List.length_cons, List.length_nil, Nat.reduceAdd, Nat.reduceLeDiff, decide_true, Bool.and_self, Bool.and_true, Bool.true_and, cond_true, cond_false, Bool.not_true, enS_append, enS_one, u8_enc]
  rfl
theorem s32 : SoundAt Go.Proofs.Try.prog Hx 32 c32 := soundAt_of T31_sound mixed func32 (by kernel_rfl) (by
  intro rows r h
  unfold c32 at h
  split at h
  · rename_i p_Up p_Has p_Vec_Root p_Vec_Cost p_Vec_Bridge p_Vec_Port p_Hops p_Left p_Role p_Wait p_Open
    obtain ⟨hp, hr⟩ := Prod.mk.inj (Option.some.inj h)
    subst hr
    exact ⟨_, m32 ⟨p_Up, p_Has, ⟨p_Vec_Root, p_Vec_Cost, p_Vec_Bridge, p_Vec_Port⟩, p_Hops, p_Left, p_Role, p_Wait, p_Open⟩ hp⟩
  · cases h)
def T32 : Table := (32, c32) :: T31
theorem T32_sound : Table.Sound Go.Proofs.Try.prog Hx T32 := Table.sound_cons s32 T31_sound
end Go.Ev
namespace Go.Md
open Go Go.Ev
def bridgeOk (b : Bridge) : Bool := b.Ports.all portOk && (inR b.Id 1 9 && inR (b.Ports.length : Int) 1 4)
def sumL : List UInt8 → Int → Int → Int
  | [], x, y => y * 65536 + x
  | b :: bs, x, y => sumL bs ((x + (b.toNat : Int)).tmod 65521) ((y + (x + (b.toNat : Int)).tmod 65521).tmod 65521)
theorem tmod_b (x : Int) (h : 0 ≤ x) : 0 ≤ x.tmod 65521 ∧ x.tmod 65521 < 65521 := ⟨Int.tmod_nonneg 65521 h, Int.tmod_lt_of_pos x (by decide)⟩
def sumOf (b : List UInt8) : Int := sumL b 1 0
def sumBs (n : Int) : List UInt8 := [u8 n, u8 (n.fdiv 256), u8 (n.fdiv 65536), u8 (n.fdiv 16777216)]
def portsBs (ps : List Port) : List UInt8 := ps.flatMap portBs
end Go.Md
namespace Go.Ev
open Go.Md
def o33 (b : Bridge) : Bool × List Row × List Row := (decide (b.Ports.length ≤ 1048576), [[.bool (bridgeOk b)]], [])
def c33 : Contract
  | [[.int .i64 b_Id, .sl false 11 b_Ports]] => some (isS Port false b_Ports && (o33 ⟨b_Id, (deS Port b_Ports)⟩).1, (o33 ⟨b_Id, (deS Port b_Ports)⟩).2.1, (o33 ⟨b_Id, (deS Port b_Ports)⟩).2.2)
  | _ => none

def k33_0 (n : Nat) : Ex → St → RR := kThen (fun st ↦ runCode (Ctx.mk prog Hx (33)) (Table.call T32) n (codeAt [1, 1] (bodyOf f33)) (Lv.mk 4 [] 4) st (kLeave (Ctx.P (Ctx.mk prog Hx (33))) (List.zip (Array.toList (Go.Func.resultTypes f33)) (Array.toList (Go.Func.results f33))) [] [])) (kLeave (Ctx.P (Ctx.mk prog Hx (33))) (List.zip (Array.toList (Go.Func.resultTypes f33)) (Array.toList (Go.Func.results f33))) [] [])
def k33_1 (n : Nat) : Ex → St → RR := kBlock (0) (k33_0 n)
def S33_0 (b : Bridge) (i0 : Int) : St := St.mk (U_ :: V_ [C.ptr 0 0 0 [] 2 0 0] :: u_ 4 (V_ [C.d (D.sl false 11 (enS false (Bridge.Ports b)))] :: I_ (ofNat (length (enS false (Bridge.Ports b)))) :: I_ i0 :: u_ 16 [])) [Root.mk true 2 [[D.int i64 (Bridge.Id b), D.sl false 11 (enS false (Bridge.Ports b))]] 0 0 true true false]
def B33_0 (n : Nat) : St → (Ex → St → RR) → RR := runCode (Ctx.mk prog Hx (33)) (Table.call T32) n (codeAt [1, 0, 1, 0, 0] (bodyOf f33)) (Lv.mk 450 [(0, 2)] 4)
def X33_2 (b : Bridge) (i0 : Int) : St := St.mk (U_ :: U_ :: B_ false :: u_ 22 []) [Root.mk true 2 [[D.int i64 (Bridge.Id b), D.sl false 11 (enS false (Bridge.Ports b))]] 0 0 true true false, Root.mk true 11 [[D.bool (D.flag (getD (getD (enS false (Bridge.Ports b)) (toNat i0) []) 0 D.dead)), D.bool (D.flag (getD (getD (enS false (Bridge.Ports b)) (toNat i0) []) 1 D.dead)), D.int i64 (D.num (getD (getD (enS false (Bridge.Ports b)) (toNat i0) []) 2 D.dead)), D.int i64 (D.num (getD (getD (enS false (Bridge.Ports b)) (toNat i0) []) 3 D.dead)), D.int i64 (D.num (getD (getD (enS false (Bridge.Ports b)) (toNat i0) []) 4 D.dead)), D.int i64 (D.num (getD (getD (enS false (Bridge.Ports b)) (toNat i0) []) 5 D.dead)), D.int i64 (D.num (getD (getD (enS false (Bridge.Ports b)) (toNat i0) []) 6 D.dead)), D.int i64 (D.num (getD (getD (enS false (Bridge.Ports b)) (toNat i0) []) 7 D.dead)), D.int i64 (D.num (getD (getD (enS false (Bridge.Ports b)) (toNat i0) []) 8 D.dead)), D.int i64 (D.num (getD (getD (enS false (Bridge.Ports b)) (toNat i0) []) 9 D.dead)), D.bool (D.flag (getD (getD (enS false (Bridge.Ports b)) (toNat i0) []) 10 D.dead))]] 0 0 true true false]
def X33_3 (b : Bridge) : St := St.mk (U_ :: V_ [C.ptr 0 0 0 [] 2 0 0] :: u_ 23 []) [Root.mk true 2 [[D.int i64 (Bridge.Id b), D.sl false 11 (enS false (Bridge.Ports b))]] 0 0 true true false]
theorem q33_0 (b : Bridge) (n : Nat) (i0 : Int) (f : St → RR) (K : Ex → St → RR) : B33_0 n (S33_0 b i0) (kThen (fun st ↦ f (St.head 1 450 65300 st)) K) = bif decide (i0 < ofNat (length (enS false (Bridge.Ports b)))) then bif decide (0 ≤ i0) && decide (i0 < ofNat (length (enS false (Bridge.Ports b)))) then bif Leaf.fit false Leaf.bool (getD (getD (enS false (Bridge.Ports b)) (toNat i0) []) 0 D.dead) && (Leaf.fit false Leaf.bool (getD (getD (enS false (Bridge.Ports b)) (toNat i0) []) 1 D.dead) && (Leaf.fit false (Leaf.int i64) (getD (getD (enS false (Bridge.Ports b)) (toNat i0) []) 2 D.dead) && (Leaf.fit false (Leaf.int i64) (getD (getD (enS false (Bridge.Ports b)) (toNat i0) []) 3 D.dead) && (Leaf.fit false (Leaf.int i64) (getD (getD (enS false (Bridge.Ports b)) (toNat i0) []) 4 D.dead) && (Leaf.fit false (Leaf.int i64) (getD (getD (enS false (Bridge.Ports b)) (toNat i0) []) 5 D.dead) && (Leaf.fit false (Leaf.int i64) (getD (getD (enS false (Bridge.Ports b)) (toNat i0) []) 6 D.dead) && (Leaf.fit false (Leaf.int i64) (getD (getD (enS false (Bridge.Ports b)) (toNat i0) []) 7 D.dead) && (Leaf.fit false (Leaf.int i64) (getD (getD (enS false (Bridge.Ports b)) (toNat i0) []) 8 D.dead) && (Leaf.fit false (Leaf.int i64) (getD (getD (enS false (Bridge.Ports b)) (toNat i0) []) 9 D.dead) && (Leaf.fit false Leaf.bool (getD (getD (enS false (Bridge.Ports b)) (toNat i0) []) 10 D.dead) && true)))))))))) then bif !portOk (Port.mk (D.flag (getD (getD (enS false (Bridge.Ports b)) (toNat i0) []) 0 D.dead)) (D.flag (getD (getD (enS false (Bridge.Ports b)) (toNat i0) []) 1 D.dead)) (Vec.mk (D.num (getD (getD (enS false (Bridge.Ports b)) (toNat i0) []) 2 D.dead)) (D.num (getD (getD (enS false (Bridge.Ports b)) (toNat i0) []) 3 D.dead)) (D.num (getD (getD (enS false (Bridge.Ports b)) (toNat i0) []) 4 D.dead)) (D.num (getD (getD (enS false (Bridge.Ports b)) (toNat i0) []) 5 D.dead))) (D.num (getD (getD (enS false (Bridge.Ports b)) (toNat i0) []) 6 D.dead)) (D.num (getD (getD (enS false (Bridge.Ports b)) (toNat i0) []) 7 D.dead)) (D.num (getD (getD (enS false (Bridge.Ports b)) (toNat i0) []) 8 D.dead)) (D.num (getD (getD (enS false (Bridge.Ports b)) (toNat i0) []) 9 D.dead)) (D.flag (getD (getD (enS false (Bridge.Ports b)) (toNat i0) []) 10 D.dead))) then K Ex.ret (X33_2 b i0) else f (S33_0 b (wrap i64 (i0 + 1))) else none else none else K (Ex.exit 0) (X33_3 b) := by kernel_rfl
theorem aX33_2 (b : Bridge) (n : Nat) (i0 : Int) : k33_1 n Ex.ret (X33_2 b i0) = some ([[D.bool false]], []) := by kernel_rfl
theorem aX33_3 (b : Bridge) (n : Nat) : k33_1 n (Ex.exit 0) (X33_3 b) = bif inR (Bridge.Id b) (1) (9) then some ([[D.bool (inR (ofNat (length (enS false (Bridge.Ports b)))) (1) (4))]], []) else some ([[D.bool false]], []) := by kernel_rfl
theorem r33 (b : Bridge) (n : Nat) : evFn ⟨prog, Hx, 33⟩ T32.call n f33 [[.int .i64 b.Id, .sl false 11 (enS false b.Ports)]] = loopRun (B33_0 n) 1 450 65300 n (S33_0 b (0)) (k33_1 n) := by kernel_rfl
theorem m33 (b : Bridge) (hpre : (o33 b).1 = true) : evFn ⟨Go.Proofs.Try.prog, Hx, 33⟩ T32.call (b.Ports.length + 1) f33 [[.int .i64 b.Id, .sl false 11 (enS false b.Ports)]] = some (o33 b).2 := by
  refine (r33 b _).trans ?_
  show _ = (some ([[.bool (bridgeOk b)]], []) : Option (List Row × List Row))
  replace hpre : (decide (b.Ports.length ≤ 1048576)) = true := hpre
  have hlen := of_decide_eq_true hpre
  unfold bridgeOk
  refine loop_list (xs := b.Ports) (fun i (_ : Unit) => S33_0 b (Int.ofNat i)) (fun _ _ => True) (fun _ _ rest => some ([[D.bool (rest.all portOk && (inR b.Id 1 9 && inR (b.Ports.length : Int) 1 4))]], [])) ?_ ?_ (b.Ports.length + 1) () (by omega) trivial
  · rintro _ _ f
    refine (q33_0 b _ _ f _).trans ?_
    rw [end_lt, cond_false]
    refine (aX33_3 _ _).trans ?_
    simp only [enS_length, List.all_nil, Bool.true_and]
    cases inR b.Id 1 9 <;> rfl
  · rintro i _ hi _ f hf
    refine (q33_0 b _ _ f _).trans ?_
    simp only [gos, En.enc, D.num, D.flag, D.text, D.rows, Leaf.fit, etas, enS_get _ hi, hi, wrap_succ (show i < 4611686018427387904 by omega)]
    cases hp : portOk b.Ports[i]
    · simp only [gos, En.enc, D.num, D.flag, D.text, D.rows, Leaf.fit, etas]
      refine (aX33_2 _ _ _).trans ?_
      simp only [List.all_cons, hp, Bool.false_and]
    · simp only [gos, En.enc, D.num, D.flag, D.text, D.rows, Leaf.fit, etas]
      refine (hf () trivial).trans ?_
      simp only [List.all_cons, hp, Bool.true_and]
theorem s33 : SoundAt Go.Proofs.Try.prog Hx 33 c33 := soundAt_of T32_sound mixed func33 (by kernel_rfl) (by
  intro rows r h
  unfold c33 at h
  split at h
  · rename_i b_Id b_Ports
    obtain ⟨hp, hr⟩ := Prod.mk.inj (Option.some.inj h)
    subst hr
    simp only [Bool.and_eq_true] at hp
    obtain ⟨hs0, hp⟩ := hp
    obtain ⟨xs0, rfl⟩ := isS_ex hs0
    simp only [deS_enS] at hp ⊢
    exact ⟨_, m33 ⟨b_Id, xs0⟩ hp⟩
  · cases h)
def T33 : Table := (33, c33) :: T32
theorem T33_sound : Table.Sound Go.Proofs.Try.prog Hx T33 := Table.sound_cons s33 T32_sound
def o62 (b : Bridge) : Bool × List Row × List Row := (decide (b.Ports.length ≤ 1048576), [[.bool (bridgeOk b)]], [])
def c62 : Contract
  | [[.int .i64 b_Id, .sl false 11 b_Ports]] => some (isS Port false b_Ports && (o62 ⟨b_Id, (deS Port b_Ports)⟩).1, (o62 ⟨b_Id, (deS Port b_Ports)⟩).2.1, (o62 ⟨b_Id, (deS Port b_Ports)⟩).2.2)
  | _ => none

def k62_0 (n : Nat) : Ex → St → RR := kThen (fun st ↦ runCode (Ctx.mk prog Hx (62)) (Table.call T33) n (codeAt [1, 1] (bodyOf f62)) (Lv.mk 4 [] 4) st (kLeave (Ctx.P (Ctx.mk prog Hx (62))) (List.zip (Array.toList (Go.Func.resultTypes f62)) (Array.toList (Go.Func.results f62))) [] [])) (kLeave (Ctx.P (Ctx.mk prog Hx (62))) (List.zip (Array.toList (Go.Func.resultTypes f62)) (Array.toList (Go.Func.results f62))) [] [])
def k62_1 (n : Nat) : Ex → St → RR := kBlock (0) (k62_0 n)
def S62_0 (b : Bridge) (i0 : Int) : St := St.mk (U_ :: V_ [C.ptr 0 0 0 [] 2 0 0] :: U_ :: I_ i0 :: u_ 23 []) [Root.mk true 2 [[D.int i64 (Bridge.Id b), D.sl false 11 (enS false (Bridge.Ports b))]] 0 0 true true false]
def B62_0 (n : Nat) : St → (Ex → St → RR) → RR := runCode (Ctx.mk prog Hx (62)) (Table.call T33) n (codeAt [1, 0, 1, 0, 0] (bodyOf f62)) (Lv.mk 10 [(0, 2)] 4)
def X62_2 (b : Bridge) : St := St.mk (U_ :: U_ :: B_ false :: u_ 24 []) [Root.mk true 2 [[D.int i64 (Bridge.Id b), D.sl false 11 (enS false (Bridge.Ports b))]] 0 0 true true false]
def X62_3 (b : Bridge) : St := St.mk (U_ :: V_ [C.ptr 0 0 0 [] 2 0 0] :: u_ 25 []) [Root.mk true 2 [[D.int i64 (Bridge.Id b), D.sl false 11 (enS false (Bridge.Ports b))]] 0 0 true true false]
theorem q62_0 (b : Bridge) (n : Nat) (i0 : Int) (f : St → RR) (K : Ex → St → RR) : B62_0 n (S62_0 b i0) (kThen (fun st ↦ f (St.head 1 10 262140 st)) K) = bif decide (i0 < ofNat (length (enS false (Bridge.Ports b)))) then bif decide (0 ≤ i0) && decide (i0 < ofNat (length (enS false (Bridge.Ports b)))) then bif Leaf.fit false Leaf.bool (getD (getD (enS false (Bridge.Ports b)) (toNat i0) []) 0 D.dead) && (Leaf.fit false Leaf.bool (getD (getD (enS false (Bridge.Ports b)) (toNat i0) []) 1 D.dead) && (Leaf.fit false (Leaf.int i64) (getD (getD (enS false (Bridge.Ports b)) (toNat i0) []) 2 D.dead) && (Leaf.fit false (Leaf.int i64) (getD (getD (enS false (Bridge.Ports b)) (toNat i0) []) 3 D.dead) && (Leaf.fit false (Leaf.int i64) (getD (getD (enS false (Bridge.Ports b)) (toNat i0) []) 4 D.dead) && (Leaf.fit false (Leaf.int i64) (getD (getD (enS false (Bridge.Ports b)) (toNat i0) []) 5 D.dead) && (Leaf.fit false (Leaf.int i64) (getD (getD (enS false (Bridge.Ports b)) (toNat i0) []) 6 D.dead) && (Leaf.fit false (Leaf.int i64) (getD (getD (enS false (Bridge.Ports b)) (toNat i0) []) 7 D.dead) && (Leaf.fit false (Leaf.int i64) (getD (getD (enS false (Bridge.Ports b)) (toNat i0) []) 8 D.dead) && (Leaf.fit false (Leaf.int i64) (getD (getD (enS false (Bridge.Ports b)) (toNat i0) []) 9 D.dead) && (Leaf.fit false Leaf.bool (getD (getD (enS false (Bridge.Ports b)) (toNat i0) []) 10 D.dead) && true)))))))))) then bif !portOk (Port.mk (D.flag (getD (getD (enS false (Bridge.Ports b)) (toNat i0) []) 0 D.dead)) (D.flag (getD (getD (enS false (Bridge.Ports b)) (toNat i0) []) 1 D.dead)) (Vec.mk (D.num (getD (getD (enS false (Bridge.Ports b)) (toNat i0) []) 2 D.dead)) (D.num (getD (getD (enS false (Bridge.Ports b)) (toNat i0) []) 3 D.dead)) (D.num (getD (getD (enS false (Bridge.Ports b)) (toNat i0) []) 4 D.dead)) (D.num (getD (getD (enS false (Bridge.Ports b)) (toNat i0) []) 5 D.dead))) (D.num (getD (getD (enS false (Bridge.Ports b)) (toNat i0) []) 6 D.dead)) (D.num (getD (getD (enS false (Bridge.Ports b)) (toNat i0) []) 7 D.dead)) (D.num (getD (getD (enS false (Bridge.Ports b)) (toNat i0) []) 8 D.dead)) (D.num (getD (getD (enS false (Bridge.Ports b)) (toNat i0) []) 9 D.dead)) (D.flag (getD (getD (enS false (Bridge.Ports b)) (toNat i0) []) 10 D.dead))) then K Ex.ret (X62_2 b) else f (S62_0 b (wrap i64 (i0 + 1))) else none else none else K (Ex.exit 0) (X62_3 b) := by kernel_rfl
theorem aX62_2 (b : Bridge) (n : Nat) : k62_1 n Ex.ret (X62_2 b) = some ([[D.bool false]], []) := by kernel_rfl
theorem aX62_3 (b : Bridge) (n : Nat) : k62_1 n (Ex.exit 0) (X62_3 b) = bif inR (Bridge.Id b) (1) (9) then some ([[D.bool (inR (ofNat (length (enS false (Bridge.Ports b)))) (1) (4))]], []) else some ([[D.bool false]], []) := by kernel_rfl
theorem r62 (b : Bridge) (n : Nat) : evFn ⟨prog, Hx, 62⟩ T33.call n f62 [[.int .i64 b.Id, .sl false 11 (enS false b.Ports)]] = loopRun (B62_0 n) 1 10 262140 n (S62_0 b (0)) (k62_1 n) := by kernel_rfl
theorem m62 (b : Bridge) (hpre : (o62 b).1 = true) : evFn ⟨Go.Proofs.Try.prog, Hx, 62⟩ T33.call (b.Ports.length + 1) f62 [[.int .i64 b.Id, .sl false 11 (enS false b.Ports)]] = some (o62 b).2 := by
  refine (r62 b _).trans ?_
  show _ = (some ([[.bool (bridgeOk b)]], []) : Option (List Row × List Row))
  replace hpre : (decide (b.Ports.length ≤ 1048576)) = true := hpre
  have hlen := of_decide_eq_true hpre
  unfold bridgeOk
  refine loop_list (xs := b.Ports) (fun i (_ : Unit) => S62_0 b (Int.ofNat i)) (fun _ _ => True) (fun _ _ rest => some ([[D.bool (rest.all portOk && (inR b.Id 1 9 && inR (b.Ports.length : Int) 1 4))]], [])) ?_ ?_ (b.Ports.length + 1) () (by omega) trivial
  · rintro _ _ f
    refine (q62_0 b _ _ f _).trans ?_
    rw [end_lt, cond_false]
    refine (aX62_3 _ _).trans ?_
    simp only [enS_length, List.all_nil, Bool.true_and]
    cases inR b.Id 1 9 <;> rfl
  · rintro i _ hi _ f hf
    refine (q62_0 b _ _ f _).trans ?_
    simp only [gos, En.enc, D.num, D.flag, D.text, D.rows, Leaf.fit, etas, enS_get _ hi, hi, wrap_succ (show i < 4611686018427387904 by omega)]
    cases hp : portOk b.Ports[i]
    · simp only [gos, En.enc, D.num, D.flag, D.text, D.rows, Leaf.fit, etas]
      refine (aX62_2 _ _).trans ?_
      simp only [List.all_cons, hp, Bool.false_and]
    · simp only [gos, En.enc, D.num, D.flag, D.text, D.rows, Leaf.fit, etas]
      refine (hf () trivial).trans ?_
      simp only [List.all_cons, hp, Bool.true_and]
theorem s62 : SoundAt Go.Proofs.Try.prog Hx 62 c62 := soundAt_of T33_sound mixed func62 (by kernel_rfl) (by
  intro rows r h
  unfold c62 at h
  split at h
  · rename_i b_Id b_Ports
    obtain ⟨hp, hr⟩ := Prod.mk.inj (Option.some.inj h)
    subst hr
    simp only [Bool.and_eq_true] at hp
    obtain ⟨hs0, hp⟩ := hp
    obtain ⟨xs0, rfl⟩ := isS_ex hs0
    simp only [deS_enS] at hp ⊢
    exact ⟨_, m62 ⟨b_Id, xs0⟩ hp⟩
  · cases h)
def T62 : Table := (62, c62) :: T33
theorem T62_sound : Table.Sound Go.Proofs.Try.prog Hx T62 := Table.sound_cons s62 T33_sound
def o79 (b : List UInt8) : Bool × List Row × List Row := (decide (b.length ≤ 1048576), [[.int .i64 (sumOf b)]], [])
def c79 : Contract
  | [[.sl false 1 b]] => some (isS UInt8 false b && (o79 (deS UInt8 b)).1, (o79 (deS UInt8 b)).2.1, (o79 (deS UInt8 b)).2.2)
  | _ => none

def k79_0 (n : Nat) : Ex → St → RR := kThen (fun st ↦ runCode (Ctx.mk prog Hx (79)) (Table.call T62) n (codeAt [1, 1, 1] (bodyOf f79)) (Lv.mk 4 [] 4) st (kLeave (Ctx.P (Ctx.mk prog Hx (79))) (List.zip (Array.toList (Go.Func.resultTypes f79)) (Array.toList (Go.Func.results f79))) [] [])) (kLeave (Ctx.P (Ctx.mk prog Hx (79))) (List.zip (Array.toList (Go.Func.resultTypes f79)) (Array.toList (Go.Func.results f79))) [] [])
def k79_1 (n : Nat) : Ex → St → RR := kBlock (0) (k79_0 n)
def S79_0 (b : List UInt8) (i0 : Int) (i1 : Int) (i2 : Int) : St := St.mk (U_ :: U_ :: U_ :: I_ i0 :: I_ i1 :: U_ :: U_ :: V_ [C.d (D.sl false 1 (enS false b))] :: I_ (ofNat (length (enS false b))) :: I_ i2 :: u_ 17 []) []
def B79_0 (n : Nat) : St → (Ex → St → RR) → RR := runCode (Ctx.mk prog Hx (79)) (Table.call T62) n (codeAt [1, 1, 0, 1, 0, 0] (bodyOf f79)) (Lv.mk 920 [(0, 24)] 4)
def X79_2 (i0 : Int) (i1 : Int) : St := St.mk (U_ :: U_ :: U_ :: I_ i0 :: I_ i1 :: u_ 22 []) []
theorem q79_0 (b : List UInt8) (n : Nat) (i0 : Int) (i1 : Int) (i2 : Int) (f : St → RR) (K : Ex → St → RR) : B79_0 n (S79_0 b i0 i1 i2) (kThen (fun st ↦ f (St.head 0 920 8388184 st)) K) = bif decide (i2 < ofNat (length (enS false b))) then bif decide (0 ≤ i2) && decide (i2 < ofNat (length (enS false b))) then bif Leaf.fit false (Leaf.int IntKind.u8) (getD (getD (enS false b) (toNat i2) []) 0 D.dead) && true then f (S79_0 b (Int.tmod (wrap i64 (i0 + wrap i64 (D.num (getD (getD (enS false b) (toNat i2) []) 0 D.dead)))) (65521)) (Int.tmod (wrap i64 (i1 + Int.tmod (wrap i64 (i0 + wrap i64 (D.num (getD (getD (enS false b) (toNat i2) []) 0 D.dead)))) (65521))) (65521)) (wrap i64 (i2 + 1))) else none else none else K (Ex.exit 0) (X79_2 i0 i1) := by kernel_rfl
theorem aX79_2 (n : Nat) (i0 : Int) (i1 : Int) : k79_1 n (Ex.exit 0) (X79_2 i0 i1) = some ([[D.int i64 (wrap i64 (wrap i64 (i1 * 65536) + i0))]], []) := by kernel_rfl
theorem r79 (b : List UInt8) (n : Nat) : evFn ⟨prog, Hx, 79⟩ T62.call n f79 [[.sl false 1 (enS false b)]] = loopRun (B79_0 n) 0 920 8388184 n (S79_0 b (1) (0) (0)) (k79_1 n) := by kernel_rfl
theorem m79 (b : List UInt8) (hpre : (o79 b).1 = true) : evFn ⟨Go.Proofs.Try.prog, Hx, 79⟩ T62.call (b.length + 1) f79 [[.sl false 1 (enS false b)]] = some (o79 b).2 := by
  refine (r79 b _).trans ?_
  show _ = (some ([[.int .i64 (sumOf b)]], []) : Option (List Row × List Row))
  replace hpre : (decide (b.length ≤ 1048576)) = true := hpre
  have hlen := of_decide_eq_true hpre
  refine loop_list (xs := b) (fun i (v : Int × Int) => S79_0 b v.1 v.2 (Int.ofNat i)) (fun _ v => 0 ≤ v.1 ∧ v.1 < 65521 ∧ 0 ≤ v.2 ∧ v.2 < 65521) (fun _ v rest => some ([[D.int .i64 (sumL rest v.1 v.2)]], [])) ?_ ?_ (b.length + 1) (1, 0) (by omega) (by decide)
  · rintro ⟨x, y⟩ ⟨h1, h2, h3, h4⟩ f
    simp only at h1 h2 h3 h4
    refine (q79_0 b _ _ _ _ f _).trans ?_
    rw [end_lt, cond_false]
    refine (aX79_2 _ _ _).trans ?_
    simp (disch := omega) only [wrap_sm]
    rfl
  · rintro i ⟨x, y⟩ hi ⟨h1, h2, h3, h4⟩ f hf
    simp only at h1 h2 h3 h4
    refine (q79_0 b _ _ _ _ f _).trans ?_
    have hb : ((b[i].toNat : Nat) : Int) ≤ 255 := by have := b[i].toNat_lt; omega
    have hm := tmod_b (x + (b[i].toNat : Int)) (by omega)
    have hm2 := tmod_b (y + (x + (b[i].toNat : Int)).tmod 65521) (by omega)
    simp only [gos, En.enc, D.num, D.flag, D.text, D.rows, Leaf.fit, etas, enS_get _ hi, hi, wrap_succ (show i < 4611686018427387904 by omega)]
    simp (disch := omega) only [wrap_sm]
    exact hf ((x + (b[i].toNat : Int)).tmod 65521, (y + (x + (b[i].toNat : Int)).tmod 65521).tmod 65521) ⟨hm.1, hm.2, hm2.1, hm2.2⟩
theorem s79 : SoundAt Go.Proofs.Try.prog Hx 79 c79 := soundAt_of T62_sound mixed func79 (by kernel_rfl) (by
  intro rows r h
  unfold c79 at h
  split at h
  · rename_i b
    obtain ⟨hp, hr⟩ := Prod.mk.inj (Option.some.inj h)
    subst hr
    simp only [Bool.and_eq_true] at hp
    obtain ⟨hs0, hp⟩ := hp
    obtain ⟨xs0, rfl⟩ := isS_ex hs0
    simp only [deS_enS] at hp ⊢
    exact ⟨_, m79 xs0 hp⟩
  · cases h)
def T79 : Table := (79, c79) :: T62
theorem T79_sound : Table.Sound Go.Proofs.Try.prog Hx T79 := Table.sound_cons s79 T62_sound
def o65 (b : List UInt8) : Bool × List Row × List Row := (decide (b.length ≤ 1048576), [[.int .i64 (sumOf b)]], [])
def c65 : Contract
  | [[.sl false 1 b]] => some (isS UInt8 false b && (o65 (deS UInt8 b)).1, (o65 (deS UInt8 b)).2.1, (o65 (deS UInt8 b)).2.2)
  | _ => none

def k65_0 (n : Nat) : Ex → St → RR := kThen (fun st ↦ runCode (Ctx.mk prog Hx (65)) (Table.call T79) n (codeAt [1, 1, 1] (bodyOf f65)) (Lv.mk 4 [] 4) st (kLeave (Ctx.P (Ctx.mk prog Hx (65))) (List.zip (Array.toList (Go.Func.resultTypes f65)) (Array.toList (Go.Func.results f65))) [] [])) (kLeave (Ctx.P (Ctx.mk prog Hx (65))) (List.zip (Array.toList (Go.Func.resultTypes f65)) (Array.toList (Go.Func.results f65))) [] [])
def k65_1 (n : Nat) : Ex → St → RR := kBlock (0) (k65_0 n)
def S65_0 (b : List UInt8) (i0 : Int) (i1 : Int) (i2 : Int) : St := St.mk (V_ [C.d (D.sl false 1 (enS false b))] :: U_ :: U_ :: I_ i0 :: I_ i1 :: I_ i2 :: u_ 22 []) []
def B65_0 (n : Nat) : St → (Ex → St → RR) → RR := runCode (Ctx.mk prog Hx (65)) (Table.call T79) n (codeAt [1, 1, 0, 1, 0, 0] (bodyOf f65)) (Lv.mk 57 [(0, 24)] 4)
def X65_2 (i0 : Int) (i1 : Int) : St := St.mk (U_ :: U_ :: U_ :: I_ i0 :: I_ i1 :: u_ 23 []) []
theorem q65_0 (b : List UInt8) (n : Nat) (i0 : Int) (i1 : Int) (i2 : Int) (f : St → RR) (K : Ex → St → RR) : B65_0 n (S65_0 b i0 i1 i2) (kThen (fun st ↦ f (St.head 0 57 16777208 st)) K) = bif decide (i2 < ofNat (length (enS false b))) then bif decide (0 ≤ i2) && decide (i2 < ofNat (length (enS false b))) then bif Leaf.fit false (Leaf.int IntKind.u8) (getD (getD (enS false b) (toNat i2) []) 0 D.dead) && true then f (S65_0 b (Int.tmod (wrap i64 (i0 + wrap i64 (D.num (getD (getD (enS false b) (toNat i2) []) 0 D.dead)))) (65521)) (Int.tmod (wrap i64 (i1 + Int.tmod (wrap i64 (i0 + wrap i64 (D.num (getD (getD (enS false b) (toNat i2) []) 0 D.dead)))) (65521))) (65521)) (wrap i64 (i2 + 1))) else none else none else K (Ex.exit 0) (X65_2 i0 i1) := by kernel_rfl
theorem aX65_2 (n : Nat) (i0 : Int) (i1 : Int) : k65_1 n (Ex.exit 0) (X65_2 i0 i1) = some ([[D.int i64 (wrap i64 (wrap i64 (i1 * 65536) + i0))]], []) := by kernel_rfl
theorem r65 (b : List UInt8) (n : Nat) : evFn ⟨prog, Hx, 65⟩ T79.call n f65 [[.sl false 1 (enS false b)]] = loopRun (B65_0 n) 0 57 16777208 n (S65_0 b (1) (0) (0)) (k65_1 n) := by kernel_rfl
theorem m65 (b : List UInt8) (hpre : (o65 b).1 = true) : evFn ⟨Go.Proofs.Try.prog, Hx, 65⟩ T79.call (b.length + 1) f65 [[.sl false 1 (enS false b)]] = some (o65 b).2 := by
  refine (r65 b _).trans ?_
  show _ = (some ([[.int .i64 (sumOf b)]], []) : Option (List Row × List Row))
  replace hpre : (decide (b.length ≤ 1048576)) = true := hpre
  have hlen := of_decide_eq_true hpre
  refine loop_list (xs := b) (fun i (v : Int × Int) => S65_0 b v.1 v.2 (Int.ofNat i)) (fun _ v => 0 ≤ v.1 ∧ v.1 < 65521 ∧ 0 ≤ v.2 ∧ v.2 < 65521) (fun _ v rest => some ([[D.int .i64 (sumL rest v.1 v.2)]], [])) ?_ ?_ (b.length + 1) (1, 0) (by omega) (by decide)
  · rintro ⟨x, y⟩ ⟨h1, h2, h3, h4⟩ f
    simp only at h1 h2 h3 h4
    refine (q65_0 b _ _ _ _ f _).trans ?_
    rw [end_lt, cond_false]
    refine (aX65_2 _ _ _).trans ?_
    simp (disch := omega) only [wrap_sm]
    rfl
  · rintro i ⟨x, y⟩ hi ⟨h1, h2, h3, h4⟩ f hf
    simp only at h1 h2 h3 h4
    refine (q65_0 b _ _ _ _ f _).trans ?_
    have hb : ((b[i].toNat : Nat) : Int) ≤ 255 := by have := b[i].toNat_lt; omega
    have hm := tmod_b (x + (b[i].toNat : Int)) (by omega)
    have hm2 := tmod_b (y + (x + (b[i].toNat : Int)).tmod 65521) (by omega)
    simp only [gos, En.enc, D.num, D.flag, D.text, D.rows, Leaf.fit, etas, enS_get _ hi, hi, wrap_succ (show i < 4611686018427387904 by omega)]
    simp (disch := omega) only [wrap_sm]
    exact hf ((x + (b[i].toNat : Int)).tmod 65521, (y + (x + (b[i].toNat : Int)).tmod 65521).tmod 65521) ⟨hm.1, hm.2, hm2.1, hm2.2⟩
theorem s65 : SoundAt Go.Proofs.Try.prog Hx 65 c65 := soundAt_of T79_sound mixed func65 (by kernel_rfl) (by
  intro rows r h
  unfold c65 at h
  split at h
  · rename_i b
    obtain ⟨hp, hr⟩ := Prod.mk.inj (Option.some.inj h)
    subst hr
    simp only [Bool.and_eq_true] at hp
    obtain ⟨hs0, hp⟩ := hp
    obtain ⟨xs0, rfl⟩ := isS_ex hs0
    simp only [deS_enS] at hp ⊢
    exact ⟨_, m65 xs0 hp⟩
  · cases h)
def T65 : Table := (65, c65) :: T79
theorem T65_sound : Table.Sound Go.Proofs.Try.prog Hx T65 := Table.sound_cons s65 T79_sound
def o49 (b : List UInt8) : Bool × List Row × List Row := (decide (b.length ≤ 1048576), [[.sl true 1 (enS true (b ++ sumBs (sumOf b)))]], [])
def c49 : Contract
  | [[.sl true 1 b]] => some (isS UInt8 true b && (o49 (deS UInt8 b)).1, (o49 (deS UInt8 b)).2.1, (o49 (deS UInt8 b)).2.2)
  | _ => none

theorem r49 (b : List UInt8) (n : Nat) : evFn ⟨prog, Hx, 49⟩ T65.call n f49 [[.sl true 1 (enS true b)]] = bif isS UInt8 false (lendRows (enS true b)) && decide (length (deS UInt8 (lendRows (enS true b))) ≤ 1048576) then bif decide ((length (enS true b) + 4) * 1 ≤ 140737488355328) then some ([[D.sl true 1 (append (enS true b) [[D.int IntKind.u8 (wrap IntKind.u8 (sumOf (deS UInt8 (lendRows (enS true b)))))], [D.int IntKind.u8 (wrap IntKind.u8 (Int.fdiv (sumOf (deS UInt8 (lendRows (enS true b)))) (ofNat 256)))], [D.int IntKind.u8 (wrap IntKind.u8 (Int.fdiv (sumOf (deS UInt8 (lendRows (enS true b)))) (ofNat 65536)))], [D.int IntKind.u8 (wrap IntKind.u8 (Int.fdiv (sumOf (deS UInt8 (lendRows (enS true b)))) (ofNat 16777216)))]])]], []) else none else none := by kernel_rfl
theorem m49 (b : List UInt8) (hpre : (o49 b).1 = true) : evFn ⟨Go.Proofs.Try.prog, Hx, 49⟩ T65.call 0 f49 [[.sl true 1 (enS true b)]] = some (o49 b).2 := by
  refine (r49 b _).trans ?_
  show _ = (some ([[.sl true 1 (enS true (b ++ sumBs (sumOf b)))]], []) : Option (List Row × List Row))
  replace hpre : (decide (b.length ≤ 1048576)) = true := hpre
  have h1 := of_decide_eq_true hpre
  have h47 : decide ((b.length + 4) * 1 ≤ 140737488355328) = true := decide_eq_true (by omega)
  simp only [isS_enS, deS_enS, lendRows_enS, enS_length, hpre, h47, cond_true, Bool.and_self, sumBs, enS_append, enS_cons, enS_nil, u8_enc]
  rfl
theorem s49 : SoundAt Go.Proofs.Try.prog Hx 49 c49 := soundAt_of T65_sound mixed func49 (by kernel_rfl) (by
  intro rows r h
  unfold c49 at h
  split at h
  · rename_i b
    obtain ⟨hp, hr⟩ := Prod.mk.inj (Option.some.inj h)
    subst hr
    simp only [Bool.and_eq_true] at hp
    obtain ⟨hs0, hp⟩ := hp
    obtain ⟨xs0, rfl⟩ := isS_ex hs0
    simp only [deS_enS] at hp ⊢
    exact ⟨_, m49 xs0 hp⟩
  · cases h)
def T49 : Table := (49, c49) :: T65
theorem T49_sound : Table.Sound Go.Proofs.Try.prog Hx T49 := Table.sound_cons s49 T65_sound
def o64 (n_ : Int) : Bool × List Row × List Row := (true, [[.sl true 1 (enS true (sumBs n_))]], [])
def c64 : Contract
  | [[.int .i64 n_]] => some ((o64 n_).1, (o64 n_).2.1, (o64 n_).2.2)
  | _ => none

theorem r64 (n_ : Int) (n : Nat) : evFn ⟨prog, Hx, 64⟩ T49.call n f64 [[.int .i64 n_]] = some ([[D.sl true 1 [[D.int IntKind.u8 (wrap IntKind.u8 (wrap i64 (ofNat (BitVec.toNat (BitVec.and (BitVec.ofInt 64 n_) (BitVec.ofInt 64 (255)))))))], [D.int IntKind.u8 (wrap IntKind.u8 (wrap i64 (ofNat (BitVec.toNat (BitVec.and (BitVec.ofInt 64 (Int.fdiv n_ (ofNat 256))) (BitVec.ofInt 64 (255)))))))], [D.int IntKind.u8 (wrap IntKind.u8 (wrap i64 (ofNat (BitVec.toNat (BitVec.and (BitVec.ofInt 64 (Int.fdiv n_ (ofNat 65536))) (BitVec.ofInt 64 (255)))))))], [D.int IntKind.u8 (wrap IntKind.u8 (wrap i64 (ofNat (BitVec.toNat (BitVec.and (BitVec.ofInt 64 (Int.fdiv n_ (ofNat 16777216))) (BitVec.ofInt 64 (255)))))))]]]], []) := by kernel_rfl
theorem m64 (n_ : Int) (hpre : (o64 n_).1 = true) : evFn ⟨Go.Proofs.Try.prog, Hx, 64⟩ T49.call 0 f64 [[.int .i64 n_]] = some (o64 n_).2 := by
  refine (r64 n_ _).trans ?_
  show _ = (some ([[.sl true 1 (enS true (sumBs n_))]], []) : Option (List Row × List Row))
  replace hpre : (true) = true := hpre
  simp only [and255, sumBs, enS_cons, enS_nil, u8_enc]
  rfl
theorem s64 : SoundAt Go.Proofs.Try.prog Hx 64 c64 := soundAt_of T49_sound mixed func64 (by kernel_rfl) (by
  intro rows r h
  unfold c64 at h
  split at h
  · rename_i n_
    obtain ⟨hp, hr⟩ := Prod.mk.inj (Option.some.inj h)
    subst hr
    exact ⟨_, m64 n_ hp⟩
  · cases h)
def T64 : Table := (64, c64) :: T49
theorem T64_sound : Table.Sound Go.Proofs.Try.prog Hx T64 := Table.sound_cons s64 T49_sound
end Go.Ev
namespace Go.Md
open Go Go.Ev
def bridgeRaw (b : Bridge) : List UInt8 := putNums [b.Id, (b.Ports.length : Int)] ++ portsBs b.Ports
def bridgeBs (b : Bridge) : List UInt8 := bif bridgeOk b then bridgeRaw b ++ sumBs (sumOf (bridgeRaw b)) else []
theorem portsBs_length : ∀ ps : List Port, (portsBs ps).length ≤ 41 * ps.length
  | [] => Nat.le_refl 0
  | p :: ps => by
    have h1 := portBs_length p
    have h2 := portsBs_length ps
    unfold portsBs at h2 ⊢
    rw [List.flatMap_cons, List.length_append, List.length_cons]
    omega
theorem bridge_four {b : Bridge} (h : bridgeOk b = true) : b.Ports.length ≤ 4 := by
  unfold bridgeOk inR at h
  simp only [Bool.and_eq_true, decide_eq_true_eq] at h
  omega
theorem bridgeRaw_length (b : Bridge) : (bridgeRaw b).length ≤ 10 + 41 * b.Ports.length := by
  have h1 := putNums_length [b.Id, (b.Ports.length : Int)]
  have h2 := portsBs_length b.Ports
  unfold bridgeRaw
  rw [List.length_append]
  simp only [List.length_cons, List.length_nil] at h1
  omega
theorem bridgeBs_length (b : Bridge) : (bridgeBs b).length ≤ 178 := by
  unfold bridgeBs
  cases h : bridgeOk b
  · simp
  · have h1 := bridge_four h
    have h2 := bridgeRaw_length b
    simp only [cond_true, List.length_append, sumBs, List.length_cons, List.length_nil]
    omega
end Go.Md
namespace Go.Ev
open Go.Md
def o23 (b : Bridge) : Bool × List Row × List Row := (decide (b.Ports.length ≤ 1048576), [[.sl true 1 (enS true (bridgeBs b))]], [])
def c23 : Contract
  | [[.int .i64 b_Id, .sl false 11 b_Ports]] => some (isS Port false b_Ports && (o23 ⟨b_Id, (deS Port b_Ports)⟩).1, (o23 ⟨b_Id, (deS Port b_Ports)⟩).2.1, (o23 ⟨b_Id, (deS Port b_Ports)⟩).2.2)
  | _ => none

def k23_0 (n : Nat) : Ex → St → RR := kThen (fun st ↦ runCode (Ctx.mk prog Hx (23)) (Table.call T64) n (codeAt [1, 1, 1, 1] (bodyOf f23)) (Lv.mk 4 [] 4) st (kLeave (Ctx.P (Ctx.mk prog Hx (23))) (List.zip (Array.toList (Go.Func.resultTypes f23)) (Array.toList (Go.Func.results f23))) [] [])) (kLeave (Ctx.P (Ctx.mk prog Hx (23))) (List.zip (Array.toList (Go.Func.resultTypes f23)) (Array.toList (Go.Func.results f23))) [] [])
def k23_1 (n : Nat) : Ex → St → RR := kBlock (0) (k23_0 n)
def S23_0 (b : Bridge) (i0 : Int) (es1 : List (List D)) : St := St.mk (U_ :: U_ :: U_ :: V_ [C.view 3 0 0 [] 1 none] :: u_ 13 (V_ [C.d (D.sl false 11 (enS false (Bridge.Ports b)))] :: I_ (ofNat (length (enS false (Bridge.Ports b)))) :: I_ i0 :: u_ 10 [])) [Root.mk true 2 [[D.int i64 (Bridge.Id b), D.sl false 11 (enS false (Bridge.Ports b))]] 0 0 true true false, Root.mk false 1 [[D.int i64 (Bridge.Id b)], [D.int i64 (ofNat (length (enS false (Bridge.Ports b))))]] 0 0 true true false, Root.mk false 1 (enS true (append (deS UInt8 []) (putNums (deS Int [[D.int i64 (Bridge.Id b)], [D.int i64 (ofNat (length (enS false (Bridge.Ports b))))]])))) 0 0 false true false, Root.mk false 1 es1 0 0 true true false]
def B23_0 (n : Nat) : St → (Ex → St → RR) → RR := runCode (Ctx.mk prog Hx (23)) (Table.call T64) n (codeAt [1, 1, 1, 0, 1, 0, 0] (bodyOf f23)) (Lv.mk 917512 [(0, 8)] 4)
def X23_2 (b : Bridge) (es1 : List (List D)) : St := St.mk (U_ :: U_ :: U_ :: V_ [C.view 3 0 0 [] 1 none] :: u_ 26 []) [Root.mk true 2 [[D.int i64 (Bridge.Id b), D.sl false 11 (enS false (Bridge.Ports b))]] 0 0 true true false, Root.mk false 1 [[D.int i64 (Bridge.Id b)], [D.int i64 (ofNat (length (enS false (Bridge.Ports b))))]] 0 0 true true false, Root.mk false 1 (enS true (append (deS UInt8 []) (putNums (deS Int [[D.int i64 (Bridge.Id b)], [D.int i64 (ofNat (length (enS false (Bridge.Ports b))))]])))) 0 0 false true false, Root.mk false 1 es1 0 0 true true false]
theorem q23_0 (b : Bridge) (n : Nat) (i0 : Int) (es1 : List (List D)) (f : St → RR) (K : Ex → St → RR) : B23_0 n (S23_0 b i0 es1) (kThen (fun st ↦ f (St.head 3 917512 267911208 st)) K) = bif decide (i0 < ofNat (length (enS false (Bridge.Ports b)))) then bif decide (0 ≤ i0) && decide (i0 < ofNat (length (enS false (Bridge.Ports b)))) then bif Leaf.fit false Leaf.bool (getD (getD (enS false (Bridge.Ports b)) (toNat i0) []) 0 D.dead) && (Leaf.fit false Leaf.bool (getD (getD (enS false (Bridge.Ports b)) (toNat i0) []) 1 D.dead) && (Leaf.fit false (Leaf.int i64) (getD (getD (enS false (Bridge.Ports b)) (toNat i0) []) 2 D.dead) && (Leaf.fit false (Leaf.int i64) (getD (getD (enS false (Bridge.Ports b)) (toNat i0) []) 3 D.dead) && (Leaf.fit false (Leaf.int i64) (getD (getD (enS false (Bridge.Ports b)) (toNat i0) []) 4 D.dead) && (Leaf.fit false (Leaf.int i64) (getD (getD (enS false (Bridge.Ports b)) (toNat i0) []) 5 D.dead) && (Leaf.fit false (Leaf.int i64) (getD (getD (enS false (Bridge.Ports b)) (toNat i0) []) 6 D.dead) && (Leaf.fit false (Leaf.int i64) (getD (getD (enS false (Bridge.Ports b)) (toNat i0) []) 7 D.dead) && (Leaf.fit false (Leaf.int i64) (getD (getD (enS false (Bridge.Ports b)) (toNat i0) []) 8 D.dead) && (Leaf.fit false (Leaf.int i64) (getD (getD (enS false (Bridge.Ports b)) (toNat i0) []) 9 D.dead) && (Leaf.fit false Leaf.bool (getD (getD (enS false (Bridge.Ports b)) (toNat i0) []) 10 D.dead) && true)))))))))) then bif (all (enS true (portBs (Port.mk (D.flag (getD (getD (enS false (Bridge.Ports b)) (toNat i0) []) 0 D.dead)) (D.flag (getD (getD (enS false (Bridge.Ports b)) (toNat i0) []) 1 D.dead)) (Vec.mk (D.num (getD (getD (enS false (Bridge.Ports b)) (toNat i0) []) 2 D.dead)) (D.num (getD (getD (enS false (Bridge.Ports b)) (toNat i0) []) 3 D.dead)) (D.num (getD (getD (enS false (Bridge.Ports b)) (toNat i0) []) 4 D.dead)) (D.num (getD (getD (enS false (Bridge.Ports b)) (toNat i0) []) 5 D.dead))) (D.num (getD (getD (enS false (Bridge.Ports b)) (toNat i0) []) 6 D.dead)) (D.num (getD (getD (enS false (Bridge.Ports b)) (toNat i0) []) 7 D.dead)) (D.num (getD (getD (enS false (Bridge.Ports b)) (toNat i0) []) 8 D.dead)) (D.num (getD (getD (enS false (Bridge.Ports b)) (toNat i0) []) 9 D.dead)) (D.flag (getD (getD (enS false (Bridge.Ports b)) (toNat i0) []) 10 D.dead))))) fun r ↦ all r D.noSl) && true && decide ((length es1 + length (enS true (portBs (Port.mk (D.flag (getD (getD (enS false (Bridge.Ports b)) (toNat i0) []) 0 D.dead)) (D.flag (getD (getD (enS false (Bridge.Ports b)) (toNat i0) []) 1 D.dead)) (Vec.mk (D.num (getD (getD (enS false (Bridge.Ports b)) (toNat i0) []) 2 D.dead)) (D.num (getD (getD (enS false (Bridge.Ports b)) (toNat i0) []) 3 D.dead)) (D.num (getD (getD (enS false (Bridge.Ports b)) (toNat i0) []) 4 D.dead)) (D.num (getD (getD (enS false (Bridge.Ports b)) (toNat i0) []) 5 D.dead))) (D.num (getD (getD (enS false (Bridge.Ports b)) (toNat i0) []) 6 D.dead)) (D.num (getD (getD (enS false (Bridge.Ports b)) (toNat i0) []) 7 D.dead)) (D.num (getD (getD (enS false (Bridge.Ports b)) (toNat i0) []) 8 D.dead)) (D.num (getD (getD (enS false (Bridge.Ports b)) (toNat i0) []) 9 D.dead)) (D.flag (getD (getD (enS false (Bridge.Ports b)) (toNat i0) []) 10 D.dead)))))) * 1 ≤ 140737488355328) then f (S23_0 b (wrap i64 (i0 + 1)) (append es1 (enS true (portBs (Port.mk (D.flag (getD (getD (enS false (Bridge.Ports b)) (toNat i0) []) 0 D.dead)) (D.flag (getD (getD (enS false (Bridge.Ports b)) (toNat i0) []) 1 D.dead)) (Vec.mk (D.num (getD (getD (enS false (Bridge.Ports b)) (toNat i0) []) 2 D.dead)) (D.num (getD (getD (enS false (Bridge.Ports b)) (toNat i0) []) 3 D.dead)) (D.num (getD (getD (enS false (Bridge.Ports b)) (toNat i0) []) 4 D.dead)) (D.num (getD (getD (enS false (Bridge.Ports b)) (toNat i0) []) 5 D.dead))) (D.num (getD (getD (enS false (Bridge.Ports b)) (toNat i0) []) 6 D.dead)) (D.num (getD (getD (enS false (Bridge.Ports b)) (toNat i0) []) 7 D.dead)) (D.num (getD (getD (enS false (Bridge.Ports b)) (toNat i0) []) 8 D.dead)) (D.num (getD (getD (enS false (Bridge.Ports b)) (toNat i0) []) 9 D.dead)) (D.flag (getD (getD (enS false (Bridge.Ports b)) (toNat i0) []) 10 D.dead))))))) else none else none else none else K (Ex.exit 0) (X23_2 b es1) := by kernel_rfl
theorem aX23_2 (b : Bridge) (n : Nat) (es1 : List (List D)) : k23_1 n (Ex.exit 0) (X23_2 b es1) = bif isS UInt8 true es1 && decide (length (deS UInt8 es1) ≤ 1048576) then some ([[D.sl true 1 (enS true (append (deS UInt8 es1) (sumBs (sumOf (deS UInt8 es1)))))]], []) else none := by kernel_rfl
theorem r23 (b : Bridge) (n : Nat) : evFn ⟨prog, Hx, 23⟩ T64.call n f23 [[.int .i64 b.Id, .sl false 11 (enS false b.Ports)]] = bif isS Port false (enS false (Bridge.Ports b)) && decide (length (deS Port (enS false (Bridge.Ports b))) ≤ 1048576) then bif !bridgeOk (Bridge.mk (Bridge.Id b) (deS Port (enS false (Bridge.Ports b)))) then some ([[D.sl true 1 []]], []) else bif isS UInt8 true [] && isS Int false [[D.int i64 (Bridge.Id b)], [D.int i64 (ofNat (length (enS false (Bridge.Ports b))))]] && decide (length (deS Int [[D.int i64 (Bridge.Id b)], [D.int i64 (ofNat (length (enS false (Bridge.Ports b))))]]) ≤ 1000) then bif deepRows (enS true (append (deS UInt8 []) (putNums (deS Int [[D.int i64 (Bridge.Id b)], [D.int i64 (ofNat (length (enS false (Bridge.Ports b))))]])))) && true && true && true && true then loopRun (B23_0 n) 3 917512 267911208 n (S23_0 b (0) (enS true (append (deS UInt8 []) (putNums (deS Int [[D.int i64 (Bridge.Id b)], [D.int i64 (ofNat (length (enS false (Bridge.Ports b))))]]))))) (k23_1 n) else none else none else none := by kernel_rfl
theorem m23 (b : Bridge) (hpre : (o23 b).1 = true) : evFn ⟨Go.Proofs.Try.prog, Hx, 23⟩ T64.call (b.Ports.length + 1) f23 [[.int .i64 b.Id, .sl false 11 (enS false b.Ports)]] = some (o23 b).2 := by
  refine (r23 b _).trans ?_
  show _ = (some ([[.sl true 1 (enS true (bridgeBs b))]], []) : Option (List Row × List Row))
  replace hpre : (decide (b.Ports.length ≤ 1048576)) = true := hpre
  have hlen := of_decide_eq_true hpre
  unfold bridgeBs
  cases h : bridgeOk b
  · simp only [gos, En.enc, D.num, D.flag, D.text, D.rows, Leaf.fit, etas, hpre, h]
    rfl
  have h4 := bridge_four h
  have hn := putNums_length [b.Id, (b.Ports.length : Int)]
  have hr := bridgeRaw_length b
  simp only [List.length_cons, List.length_nil] at hn
  have e2 : ([[D.int .i64 b.Id], [D.int .i64 (Int.ofNat b.Ports.length)]] : List (List D)) = enS false [b.Id, (b.Ports.length : Int)] := rfl
  simp only [isS_enS, deS_enS, isS_nil, deS_nil, enS_length, Bridge.eta, hpre, h, e2, List.length_cons, List.length_nil, Nat.reduceAdd, Nat.reduceLeDiff, decide_true, Bool.and_self, Bool.and_true, Bool.true_and, Bool.not_true, cond_true, cond_false, List.append_eq, List.nil_append, deepRows_enS]
  refine loop_list (xs := b.Ports) (fun i (ys : List UInt8) => S23_0 b (Int.ofNat i) (enS true ys)) (fun i ys => ys.length ≤ 10 + 41 * i ∧ ys ++ portsBs (b.Ports.drop i) = bridgeRaw b) (fun _ _ _ => some ([[D.sl true 1 (enS true (bridgeRaw b ++ sumBs (sumOf (bridgeRaw b))))]], [])) ?_ ?_ (b.Ports.length + 1) (putNums [b.Id, (b.Ports.length : Int)]) (by omega) ⟨by omega, rfl⟩
  · rintro ys ⟨h1, h2⟩ f
    refine (q23_0 b _ _ _ f _).trans ?_
    rw [end_lt, cond_false]
    refine (aX23_2 _ _ _).trans ?_
    rw [List.drop_length] at h2
    have h2 : ys = bridgeRaw b := by rw [← h2]; simp [portsBs]
    subst h2
    have h5 : decide ((bridgeRaw b).length ≤ 1048576) = true := decide_eq_true (by omega)
    simp only [gos, En.enc, D.num, D.flag, D.text, D.rows, Leaf.fit, etas, h5]
  · rintro i ys hi ⟨h1, h2⟩ f hf
    refine (q23_0 b _ _ _ f _).trans ?_
    have hp := portBs_length b.Ports[i]
    have h47 : decide ((ys.length + (portBs b.Ports[i]).length) * 1 ≤ 140737488355328) = true := decide_eq_true (by omega)
    simp only [gos, En.enc, D.num, D.flag, D.text, D.rows, Leaf.fit, etas, enS_get _ hi, hi, wrap_succ (show i < 4611686018427387904 by omega), h47]
    rw [← enS_append]
    refine hf (ys ++ portBs b.Ports[i]) ⟨by rw [List.length_append]; omega, ?_⟩
    rw [← h2, List.drop_eq_getElem_cons hi, List.append_assoc]
    rfl
theorem s23 : SoundAt Go.Proofs.Try.prog Hx 23 c23 := soundAt_of T64_sound mixed func23 (by kernel_rfl) (by
  intro rows r h
  unfold c23 at h
  split at h
  · rename_i b_Id b_Ports
    obtain ⟨hp, hr⟩ := Prod.mk.inj (Option.some.inj h)
    subst hr
    simp only [Bool.and_eq_true] at hp
    obtain ⟨hs0, hp⟩ := hp
    obtain ⟨xs0, rfl⟩ := isS_ex hs0
    simp only [deS_enS] at hp ⊢
    exact ⟨_, m23 ⟨b_Id, xs0⟩ hp⟩
  · cases h)
def T23 : Table := (23, c23) :: T64
theorem T23_sound : Table.Sound Go.Proofs.Try.prog Hx T23 := Table.sound_cons s23 T64_sound
def o30 (b : Bridge) : Bool × List Row × List Row := (decide (b.Ports.length ≤ 1048576), [[.sl true 1 (enS true (bridgeBs b))]], [])
def c30 : Contract
  | [[.int .i64 b_Id, .sl false 11 b_Ports]] => some (isS Port false b_Ports && (o30 ⟨b_Id, (deS Port b_Ports)⟩).1, (o30 ⟨b_Id, (deS Port b_Ports)⟩).2.1, (o30 ⟨b_Id, (deS Port b_Ports)⟩).2.2)
  | _ => none

def k30_0 (n : Nat) : Ex → St → RR := kThen (fun st ↦ runCode (Ctx.mk prog Hx (30)) (Table.call T23) n (codeAt [1, 1, 1, 1] (bodyOf f30)) (Lv.mk 4 [] 4) st (kLeave (Ctx.P (Ctx.mk prog Hx (30))) (List.zip (Array.toList (Go.Func.resultTypes f30)) (Array.toList (Go.Func.results f30))) [] [])) (kLeave (Ctx.P (Ctx.mk prog Hx (30))) (List.zip (Array.toList (Go.Func.resultTypes f30)) (Array.toList (Go.Func.results f30))) [] [])
def k30_1 (n : Nat) : Ex → St → RR := kBlock (0) (k30_0 n)
def S30_0 (b : Bridge) (i0 : Int) (es1 : List (List D)) : St := St.mk (U_ :: V_ [C.ptr 0 0 0 [] 2 0 0] :: U_ :: V_ [C.view 3 0 0 [] 1 none] :: I_ i0 :: u_ 31 []) [Root.mk true 2 [[D.int i64 (Bridge.Id b), D.sl false 11 (enS false (Bridge.Ports b))]] 0 0 true true false, Root.mk false 1 [[D.int i64 (Bridge.Id b)], [D.int i64 (ofNat (length (enS false (Bridge.Ports b))))]] 0 0 true true false, Root.mk false 1 (enS true (putNums (deS Int [[D.int i64 (Bridge.Id b)], [D.int i64 (ofNat (length (enS false (Bridge.Ports b))))]]))) 0 0 false true false, Root.mk false 1 es1 0 0 true true false]
def B30_0 (n : Nat) : St → (Ex → St → RR) → RR := runCode (Ctx.mk prog Hx (30)) (Table.call T23) n (codeAt [1, 1, 1, 0, 1, 0, 0] (bodyOf f30)) (Lv.mk 26 [(0, 8)] 4)
def X30_2 (b : Bridge) (es1 : List (List D)) : St := St.mk (U_ :: U_ :: U_ :: V_ [C.view 3 0 0 [] 1 none] :: u_ 32 []) [Root.mk true 2 [[D.int i64 (Bridge.Id b), D.sl false 11 (enS false (Bridge.Ports b))]] 0 0 true true false, Root.mk false 1 [[D.int i64 (Bridge.Id b)], [D.int i64 (ofNat (length (enS false (Bridge.Ports b))))]] 0 0 true true false, Root.mk false 1 (enS true (putNums (deS Int [[D.int i64 (Bridge.Id b)], [D.int i64 (ofNat (length (enS false (Bridge.Ports b))))]]))) 0 0 false true false, Root.mk false 1 es1 0 0 true true false]
theorem q30_0 (b : Bridge) (n : Nat) (i0 : Int) (es1 : List (List D)) (f : St → RR) (K : Ex → St → RR) : B30_0 n (S30_0 b i0 es1) (kThen (fun st ↦ f (St.head 3 26 2147418136 st)) K) = bif decide (i0 < ofNat (length (enS false (Bridge.Ports b)))) then bif decide (0 ≤ i0) && decide (i0 < ofNat (length (enS false (Bridge.Ports b)))) then bif Leaf.fit false Leaf.bool (getD (getD (enS false (Bridge.Ports b)) (toNat i0) []) 0 D.dead) && (Leaf.fit false Leaf.bool (getD (getD (enS false (Bridge.Ports b)) (toNat i0) []) 1 D.dead) && (Leaf.fit false (Leaf.int i64) (getD (getD (enS false (Bridge.Ports b)) (toNat i0) []) 2 D.dead) && (Leaf.fit false (Leaf.int i64) (getD (getD (enS false (Bridge.Ports b)) (toNat i0) []) 3 D.dead) && (Leaf.fit false (Leaf.int i64) (getD (getD (enS false (Bridge.Ports b)) (toNat i0) []) 4 D.dead) && (Leaf.fit false (Leaf.int i64) (getD (getD (enS false (Bridge.Ports b)) (toNat i0) []) 5 D.dead) && (Leaf.fit false (Leaf.int i64) (getD (getD (enS false (Bridge.Ports b)) (toNat i0) []) 6 D.dead) && (Leaf.fit false (Leaf.int i64) (getD (getD (enS false (Bridge.Ports b)) (toNat i0) []) 7 D.dead) && (Leaf.fit false (Leaf.int i64) (getD (getD (enS false (Bridge.Ports b)) (toNat i0) []) 8 D.dead) && (Leaf.fit false (Leaf.int i64) (getD (getD (enS false (Bridge.Ports b)) (toNat i0) []) 9 D.dead) && (Leaf.fit false Leaf.bool (getD (getD (enS false (Bridge.Ports b)) (toNat i0) []) 10 D.dead) && true)))))))))) then bif (all (enS true (portBs (Port.mk (D.flag (getD (getD (enS false (Bridge.Ports b)) (toNat i0) []) 0 D.dead)) (D.flag (getD (getD (enS false (Bridge.Ports b)) (toNat i0) []) 1 D.dead)) (Vec.mk (D.num (getD (getD (enS false (Bridge.Ports b)) (toNat i0) []) 2 D.dead)) (D.num (getD (getD (enS false (Bridge.Ports b)) (toNat i0) []) 3 D.dead)) (D.num (getD (getD (enS false (Bridge.Ports b)) (toNat i0) []) 4 D.dead)) (D.num (getD (getD (enS false (Bridge.Ports b)) (toNat i0) []) 5 D.dead))) (D.num (getD (getD (enS false (Bridge.Ports b)) (toNat i0) []) 6 D.dead)) (D.num (getD (getD (enS false (Bridge.Ports b)) (toNat i0) []) 7 D.dead)) (D.num (getD (getD (enS false (Bridge.Ports b)) (toNat i0) []) 8 D.dead)) (D.num (getD (getD (enS false (Bridge.Ports b)) (toNat i0) []) 9 D.dead)) (D.flag (getD (getD (enS false (Bridge.Ports b)) (toNat i0) []) 10 D.dead))))) fun r ↦ all r D.noSl) && true && decide ((length es1 + length (enS true (portBs (Port.mk (D.flag (getD (getD (enS false (Bridge.Ports b)) (toNat i0) []) 0 D.dead)) (D.flag (getD (getD (enS false (Bridge.Ports b)) (toNat i0) []) 1 D.dead)) (Vec.mk (D.num (getD (getD (enS false (Bridge.Ports b)) (toNat i0) []) 2 D.dead)) (D.num (getD (getD (enS false (Bridge.Ports b)) (toNat i0) []) 3 D.dead)) (D.num (getD (getD (enS false (Bridge.Ports b)) (toNat i0) []) 4 D.dead)) (D.num (getD (getD (enS false (Bridge.Ports b)) (toNat i0) []) 5 D.dead))) (D.num (getD (getD (enS false (Bridge.Ports b)) (toNat i0) []) 6 D.dead)) (D.num (getD (getD (enS false (Bridge.Ports b)) (toNat i0) []) 7 D.dead)) (D.num (getD (getD (enS false (Bridge.Ports b)) (toNat i0) []) 8 D.dead)) (D.num (getD (getD (enS false (Bridge.Ports b)) (toNat i0) []) 9 D.dead)) (D.flag (getD (getD (enS false (Bridge.Ports b)) (toNat i0) []) 10 D.dead)))))) * 1 ≤ 140737488355328) then f (S30_0 b (wrap i64 (i0 + 1)) (append es1 (enS true (portBs (Port.mk (D.flag (getD (getD (enS false (Bridge.Ports b)) (toNat i0) []) 0 D.dead)) (D.flag (getD (getD (enS false (Bridge.Ports b)) (toNat i0) []) 1 D.dead)) (Vec.mk (D.num (getD (getD (enS false (Bridge.Ports b)) (toNat i0) []) 2 D.dead)) (D.num (getD (getD (enS false (Bridge.Ports b)) (toNat i0) []) 3 D.dead)) (D.num (getD (getD (enS false (Bridge.Ports b)) (toNat i0) []) 4 D.dead)) (D.num (getD (getD (enS false (Bridge.Ports b)) (toNat i0) []) 5 D.dead))) (D.num (getD (getD (enS false (Bridge.Ports b)) (toNat i0) []) 6 D.dead)) (D.num (getD (getD (enS false (Bridge.Ports b)) (toNat i0) []) 7 D.dead)) (D.num (getD (getD (enS false (Bridge.Ports b)) (toNat i0) []) 8 D.dead)) (D.num (getD (getD (enS false (Bridge.Ports b)) (toNat i0) []) 9 D.dead)) (D.flag (getD (getD (enS false (Bridge.Ports b)) (toNat i0) []) 10 D.dead))))))) else none else none else none else K (Ex.exit 0) (X30_2 b es1) := by kernel_rfl
theorem aX30_2 (b : Bridge) (n : Nat) (es1 : List (List D)) : k30_1 n (Ex.exit 0) (X30_2 b es1) = bif isS UInt8 false (lendRows es1) && decide (length (deS UInt8 (lendRows es1)) ≤ 1048576) then bif (all (enS true (sumBs (sumOf (deS UInt8 (lendRows es1))))) fun r ↦ all r D.noSl) && true && decide ((length es1 + length (enS true (sumBs (sumOf (deS UInt8 (lendRows es1)))))) * 1 ≤ 140737488355328) then some ([[D.sl true 1 (append es1 (enS true (sumBs (sumOf (deS UInt8 (lendRows es1))))))]], []) else none else none := by kernel_rfl
theorem r30 (b : Bridge) (n : Nat) : evFn ⟨prog, Hx, 30⟩ T23.call n f30 [[.int .i64 b.Id, .sl false 11 (enS false b.Ports)]] = bif isS Port false (enS false (Bridge.Ports b)) && decide (length (deS Port (enS false (Bridge.Ports b))) ≤ 1048576) then bif !bridgeOk (Bridge.mk (Bridge.Id b) (deS Port (enS false (Bridge.Ports b)))) then some ([[D.sl true 1 []]], []) else bif isS Int false [[D.int i64 (Bridge.Id b)], [D.int i64 (ofNat (length (enS false (Bridge.Ports b))))]] && decide (length (deS Int [[D.int i64 (Bridge.Id b)], [D.int i64 (ofNat (length (enS false (Bridge.Ports b))))]]) ≤ 1000) then bif deepRows (enS true (putNums (deS Int [[D.int i64 (Bridge.Id b)], [D.int i64 (ofNat (length (enS false (Bridge.Ports b))))]]))) && true && true && true && true then loopRun (B30_0 n) 3 26 2147418136 n (S30_0 b (0) (enS true (putNums (deS Int [[D.int i64 (Bridge.Id b)], [D.int i64 (ofNat (length (enS false (Bridge.Ports b))))]])))) (k30_1 n) else none else none else none := by kernel_rfl
theorem m30 (b : Bridge) (hpre : (o30 b).1 = true) : evFn ⟨Go.Proofs.Try.prog, Hx, 30⟩ T23.call (b.Ports.length + 1) f30 [[.int .i64 b.Id, .sl false 11 (enS false b.Ports)]] = some (o30 b).2 := by
  refine (r30 b _).trans ?_
  show _ = (some ([[.sl true 1 (enS true (bridgeBs b))]], []) : Option (List Row × List Row))
  replace hpre : (decide (b.Ports.length ≤ 1048576)) = true := hpre
  have hlen := of_decide_eq_true hpre
  unfold bridgeBs
  cases h : bridgeOk b
  · simp only [gos, En.enc, D.num, D.flag, D.text, D.rows, Leaf.fit, etas, hpre, h]
    rfl
  have h4 := bridge_four h
  have hn := putNums_length [b.Id, (b.Ports.length : Int)]
  have hr := bridgeRaw_length b
  simp only [List.length_cons, List.length_nil] at hn
  have e2 : ([[D.int .i64 b.Id], [D.int .i64 (Int.ofNat b.Ports.length)]] : List (List D)) = enS false [b.Id, (b.Ports.length : Int)] := rfl
  simp only [isS_enS, deS_enS, isS_nil, deS_nil, enS_length, Bridge.eta, hpre, h, e2, List.length_cons, List.length_nil, Nat.reduceAdd, Nat.reduceLeDiff, decide_true, Bool.and_self, Bool.and_true, Bool.true_and, Bool.not_true, cond_true, cond_false, List.append_eq, List.nil_append, deepRows_enS]
  refine loop_list (xs := b.Ports) (fun i (ys : List UInt8) => S30_0 b (Int.ofNat i) (enS true ys)) (fun i ys => ys.length ≤ 10 + 41 * i ∧ ys ++ portsBs (b.Ports.drop i) = bridgeRaw b) (fun _ _ _ => some ([[D.sl true 1 (enS true (bridgeRaw b ++ sumBs (sumOf (bridgeRaw b))))]], [])) ?_ ?_ (b.Ports.length + 1) (putNums [b.Id, (b.Ports.length : Int)]) (by omega) ⟨by omega, rfl⟩
  · rintro ys ⟨h1, h2⟩ f
    refine (q30_0 b _ _ _ f _).trans ?_
    rw [end_lt, cond_false]
    refine (aX30_2 _ _ _).trans ?_
    rw [List.drop_length] at h2
    have h2 : ys = bridgeRaw b := by rw [← h2]; simp [portsBs]
    subst h2
    have h5 : decide ((bridgeRaw b).length ≤ 1048576) = true := decide_eq_true (by omega)
    have h47 : decide (((bridgeRaw b).length + (sumBs (sumOf (bridgeRaw b))).length) * 1 ≤ 140737488355328) = true := decide_eq_true (by simp only [sumBs, List.length_cons, List.length_nil]; omega)
    simp only [gos, En.enc, D.num, D.flag, D.text, D.rows, Leaf.fit, etas, h5, h47]
    rw [enS_append]
  · rintro i ys hi ⟨h1, h2⟩ f hf
    refine (q30_0 b _ _ _ f _).trans ?_
    have hp := portBs_length b.Ports[i]
    have h47 : decide ((ys.length + (portBs b.Ports[i]).length) * 1 ≤ 140737488355328) = true := decide_eq_true (by omega)
    simp only [gos, En.enc, D.num, D.flag, D.text, D.rows, Leaf.fit, etas, enS_get _ hi, hi, wrap_succ (show i < 4611686018427387904 by omega), h47]
    rw [← enS_append]
    refine hf (ys ++ portBs b.Ports[i]) ⟨by rw [List.length_append]; omega, ?_⟩
    rw [← h2, List.drop_eq_getElem_cons hi, List.append_assoc]
    rfl
theorem s30 : SoundAt Go.Proofs.Try.prog Hx 30 c30 := soundAt_of T23_sound mixed func30 (by kernel_rfl) (by
  intro rows r h
  unfold c30 at h
  split at h
  · rename_i b_Id b_Ports
    obtain ⟨hp, hr⟩ := Prod.mk.inj (Option.some.inj h)
    subst hr
    simp only [Bool.and_eq_true] at hp
    obtain ⟨hs0, hp⟩ := hp
    obtain ⟨xs0, rfl⟩ := isS_ex hs0
    simp only [deS_enS] at hp ⊢
    exact ⟨_, m30 ⟨b_Id, xs0⟩ hp⟩
  · cases h)
def T30 : Table := (30, c30) :: T23
theorem T30_sound : Table.Sound Go.Proofs.Try.prog Hx T30 := Table.sound_cons s30 T23_sound
end Go.Ev
end
