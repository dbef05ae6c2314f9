/- Contracts of functions, each by its evaluation. -/
import Derived.Test.YthfolmphegdabaaEvMd
import Derived.Test.YthfolmphegdabaaProg
import Derived.KernelRfl
import Derived.Test.YthfolmphegdabaaFBridgeok
set_option linter.unusedVariables false
set_option linter.unusedSimpArgs false
set_option maxRecDepth 100000
noncomputable section
namespace Go.Ev
open Go.RowKit Go.Md
end Go.Ev
namespace Go.Md
open Go Go.Ev
def vec0 (v : Vec) : Bool := v.Root == 0 && (v.Cost == 0 && (v.Bridge == 0 && v.Port == 0))
def in0 (x : In) : Bool := x.Kind == 0 && (x.Port == 0 && (vec0 x.Vec && (x.Hops == 0 && !x.Up)))
def inOk (x : In) : Bool := bif x.Kind == 1 then isPortB x.Port && (vecOk x.Vec && (isHopsB x.Hops && !x.Up)) else bif x.Kind == 3 then isPortB x.Port && (vec0 x.Vec && x.Hops == 0) else x.Kind == 2 && (x.Port == 0 && (vec0 x.Vec && (x.Hops == 0 && !x.Up)))
def isNumB (n : Int) : Bool := inR n 0 100000
def isSideB (s : Int) : Bool := s == 0 || s == 1
theorem side_in (s : Int) : inR s 0 1 = isSideB s := by
  unfold inR isSideB
  rw [Bool.eq_iff_iff]
  simp
  omega
def logOkB (l : List In) : Bool := l.all inOk && decide (l.length ≤ 60)
def minderOk (m : Minder) : Bool := isNumB m.Life && (isNumB m.Epoch && (isNumB m.AckLife && (logOkB m.Log && (inR m.Said 0 (m.Log.length : Int) && (inR m.Acked 0 (m.Log.length : Int) && (m.Up || (m.Epoch == 0 && (decide (m.Log.length = 0) && m.AckLife == 0))))))))
def regOk (r : Reg) : Bool := inR r.Epoch 1 100000 && (isSideB r.Owner && isNumB r.Pair)
def minds (r : Reg) (s : Int) (m : Minder) : Bool := regOk r && (minderOk m && (m.Up && (s == r.Owner && m.Epoch == r.Epoch)))
def wireOk (w : Wire) : Bool := isSideB w.From && (isNumB w.Life && (isNumB w.N && (bif w.Ack then in0 w.In else inOk w.In)))
theorem zero_len (n : Nat) : ((Int.ofNat n) == 0) = decide (n = 0) := by
  rw [Bool.eq_iff_iff]
  simp
end Go.Md
namespace Go.Ev
open Go.Md
/- InOk -/
def o135 (x : In) : Bool × List Row × List Row := (true, [[.bool (inOk x)]], [])
def c135 : Contract
  | [[.int .i64 x_Kind, .int .i64 x_Port, .int .i64 x_Vec_Root, .int .i64 x_Vec_Cost, .int .i64 x_Vec_Bridge, .int .i64 x_Vec_Port, .int .i64 x_Hops, .bool x_Up]] => some ((o135 ⟨x_Kind, x_Port, ⟨x_Vec_Root, x_Vec_Cost, x_Vec_Bridge, x_Vec_Port⟩, x_Hops, x_Up⟩).1, (o135 ⟨x_Kind, x_Port, ⟨x_Vec_Root, x_Vec_Cost, x_Vec_Bridge, x_Vec_Port⟩, x_Hops, x_Up⟩).2.1, (o135 ⟨x_Kind, x_Port, ⟨x_Vec_Root, x_Vec_Cost, x_Vec_Bridge, x_Vec_Port⟩, x_Hops, x_Up⟩).2.2)
  | _ => none

theorem r135 (x : In) (n : Nat) : evFn ⟨Go.Proofs.Try.prog, Hx, 135⟩ T104.call n Go.Proofs.Try.f135 [[.int .i64 x.Kind, .int .i64 x.Port, .int .i64 x.Vec.Root, .int .i64 x.Vec.Cost, .int .i64 x.Vec.Bridge, .int .i64 x.Vec.Port, .int .i64 x.Hops, .bool x.Up]] = bif In.Kind x == 1 then bif isPortB (In.Port x) then bif vecOk (In.Vec x) then bif isHopsB (In.Hops x) then some ([[D.bool !In.Up x]], []) else some ([[D.bool false]], []) else some ([[D.bool false]], []) else some ([[D.bool false]], []) else bif In.Kind x == 3 then bif isPortB (In.Port x) then bif Vec.Root (In.Vec x) == 0 && (Vec.Cost (In.Vec x) == 0 && (Vec.Bridge (In.Vec x) == 0 && (Vec.Port (In.Vec x) == 0 && true))) then some ([[D.bool (In.Hops x == 0)]], []) else some ([[D.bool false]], []) else some ([[D.bool false]], []) else some ([[D.bool (In.Kind x == 2 && (In.Port x == 0 && (Vec.Root (In.Vec x) == 0 && (Vec.Cost (In.Vec x) == 0 && (Vec.Bridge (In.Vec x) == 0 && (Vec.Port (In.Vec x) == 0 && true))) && (In.Hops x == 0 && (decide (In.Up x = false) && true)))))]], []) := by kernel_rfl
theorem m135 (x : In) (hpre : (o135 x).1 = true) : evFn ⟨Go.Proofs.Try.prog, Hx, 135⟩ T104.call 0 Go.Proofs.Try.f135 [[.int .i64 x.Kind, .int .i64 x.Port, .int .i64 x.Vec.Root, .int .i64 x.Vec.Cost, .int .i64 x.Vec.Bridge, .int .i64 x.Vec.Port, .int .i64 x.Hops, .bool x.Up]] = some (o135 x).2 := by
  refine (r135 x _).trans ?_
  show _ = (some ([[.bool (inOk x)]], []) : Option (List Row × List Row))
  replace hpre : (true) = true := hpre
  unfold inOk vec0
  simp only [cond_bool]
  apply bool_fin
  simp only [Bool.cond_eq_ite]
  grind
theorem s135 : SoundAt Go.Proofs.Try.prog Hx 135 c135 := soundAt_of T104_sound mixed Go.Proofs.Try.func135 (by kernel_rfl) (by
  intro rows r h
  unfold c135 at h
  split at h
  · rename_i x_Kind x_Port x_Vec_Root x_Vec_Cost x_Vec_Bridge x_Vec_Port x_Hops x_Up
    obtain ⟨hp, hr⟩ := Prod.mk.inj (Option.some.inj h)
    subst hr
    exact ⟨_, m135 ⟨x_Kind, x_Port, ⟨x_Vec_Root, x_Vec_Cost, x_Vec_Bridge, x_Vec_Port⟩, x_Hops, x_Up⟩ hp⟩
  · cases h)
def T135 : Table := (135, c135) :: T104
theorem T135_sound : Table.Sound Go.Proofs.Try.prog Hx T135 := Table.sound_cons s135 T104_sound
/- InOkS -/
def o131 (x : In) : Bool × List Row × List Row := (true, [[.bool (inOk x)]], [])
def c131 : Contract
  | [[.int .i64 x_Kind, .int .i64 x_Port, .int .i64 x_Vec_Root, .int .i64 x_Vec_Cost, .int .i64 x_Vec_Bridge, .int .i64 x_Vec_Port, .int .i64 x_Hops, .bool x_Up]] => some ((o131 ⟨x_Kind, x_Port, ⟨x_Vec_Root, x_Vec_Cost, x_Vec_Bridge, x_Vec_Port⟩, x_Hops, x_Up⟩).1, (o131 ⟨x_Kind, x_Port, ⟨x_Vec_Root, x_Vec_Cost, x_Vec_Bridge, x_Vec_Port⟩, x_Hops, x_Up⟩).2.1, (o131 ⟨x_Kind, x_Port, ⟨x_Vec_Root, x_Vec_Cost, x_Vec_Bridge, x_Vec_Port⟩, x_Hops, x_Up⟩).2.2)
  | _ => none

theorem r131 (x : In) (n : Nat) : evFn ⟨Go.Proofs.Try.prog, Hx, 131⟩ T135.call n Go.Proofs.Try.f131 [[.int .i64 x.Kind, .int .i64 x.Port, .int .i64 x.Vec.Root, .int .i64 x.Vec.Cost, .int .i64 x.Vec.Bridge, .int .i64 x.Vec.Port, .int .i64 x.Hops, .bool x.Up]] = bif In.Kind x == 1 then bif inR (In.Port x) (0) (3) then bif vecOk (In.Vec x) then bif inR (In.Hops x) (0) (8) then some ([[D.bool !In.Up x]], []) else some ([[D.bool false]], []) else some ([[D.bool false]], []) else some ([[D.bool false]], []) else bif In.Kind x == 3 then bif inR (In.Port x) (0) (3) then bif Vec.Root (In.Vec x) == 0 && (Vec.Cost (In.Vec x) == 0 && (Vec.Bridge (In.Vec x) == 0 && (Vec.Port (In.Vec x) == 0 && true))) then some ([[D.bool (In.Hops x == 0)]], []) else some ([[D.bool false]], []) else some ([[D.bool false]], []) else bif In.Kind x == 2 then some ([[D.bool (In.Kind x == 2 && (In.Port x == 0 && (Vec.Root (In.Vec x) == 0 && (Vec.Cost (In.Vec x) == 0 && (Vec.Bridge (In.Vec x) == 0 && (Vec.Port (In.Vec x) == 0 && true))) && (In.Hops x == 0 && (decide (In.Up x = false) && true)))))]], []) else some ([[D.bool false]], []) := by kernel_rfl
theorem m131 (x : In) (hpre : (o131 x).1 = true) : evFn ⟨Go.Proofs.Try.prog, Hx, 131⟩ T135.call 0 Go.Proofs.Try.f131 [[.int .i64 x.Kind, .int .i64 x.Port, .int .i64 x.Vec.Root, .int .i64 x.Vec.Cost, .int .i64 x.Vec.Bridge, .int .i64 x.Vec.Port, .int .i64 x.Hops, .bool x.Up]] = some (o131 x).2 := by
  refine (r131 x _).trans ?_
  show _ = (some ([[.bool (inOk x)]], []) : Option (List Row × List Row))
  replace hpre : (true) = true := hpre
  unfold inOk vec0 isPortB isHopsB
  simp only [cond_bool]
  apply bool_fin
  simp only [Bool.cond_eq_ite]
  grind
theorem s131 : SoundAt Go.Proofs.Try.prog Hx 131 c131 := soundAt_of T135_sound mixed Go.Proofs.Try.func131 (by kernel_rfl) (by
  intro rows r h
  unfold c131 at h
  split at h
  · rename_i x_Kind x_Port x_Vec_Root x_Vec_Cost x_Vec_Bridge x_Vec_Port x_Hops x_Up
    obtain ⟨hp, hr⟩ := Prod.mk.inj (Option.some.inj h)
    subst hr
    exact ⟨_, m131 ⟨x_Kind, x_Port, ⟨x_Vec_Root, x_Vec_Cost, x_Vec_Bridge, x_Vec_Port⟩, x_Hops, x_Up⟩ hp⟩
  · cases h)
def T131 : Table := (131, c131) :: T135
theorem T131_sound : Table.Sound Go.Proofs.Try.prog Hx T131 := Table.sound_cons s131 T135_sound
/- isNum -/
def o134 (n_ : Int) : Bool × List Row × List Row := (true, [[.bool (isNumB n_)]], [])
def c134 : Contract
  | [[.int .i64 n_]] => some ((o134 n_).1, (o134 n_).2.1, (o134 n_).2.2)
  | _ => none

theorem r134 (n_ : Int) (n : Nat) : evFn ⟨Go.Proofs.Try.prog, Hx, 134⟩ T131.call n Go.Proofs.Try.f134 [[.int .i64 n_]] = some ([[D.bool (inR n_ (0) (100000))]], []) := by kernel_rfl
theorem m134 (n_ : Int) (hpre : (o134 n_).1 = true) : evFn ⟨Go.Proofs.Try.prog, Hx, 134⟩ T131.call 0 Go.Proofs.Try.f134 [[.int .i64 n_]] = some (o134 n_).2 := by
  refine (r134 n_ _).trans ?_
  show _ = (some ([[.bool (isNumB n_)]], []) : Option (List Row × List Row))
  replace hpre : (true) = true := hpre
  rfl
theorem s134 : SoundAt Go.Proofs.Try.prog Hx 134 c134 := soundAt_of T131_sound mixed Go.Proofs.Try.func134 (by kernel_rfl) (by
  intro rows r h
  unfold c134 at h
  split at h
  · rename_i n_
    obtain ⟨hp, hr⟩ := Prod.mk.inj (Option.some.inj h)
    subst hr
    exact ⟨_, m134 n_ hp⟩
  · cases h)
def T134 : Table := (134, c134) :: T131
theorem T134_sound : Table.Sound Go.Proofs.Try.prog Hx T134 := Table.sound_cons s134 T131_sound
/- isSide -/
def o133 (s : Int) : Bool × List Row × List Row := (true, [[.bool (isSideB s)]], [])
def c133 : Contract
  | [[.int .i64 s]] => some ((o133 s).1, (o133 s).2.1, (o133 s).2.2)
  | _ => none

theorem r133 (s : Int) (n : Nat) : evFn ⟨Go.Proofs.Try.prog, Hx, 133⟩ T134.call n Go.Proofs.Try.f133 [[.int .i64 s]] = bif s == 0 then some ([[D.bool true]], []) else some ([[D.bool (s == 1)]], []) := by kernel_rfl
theorem m133 (s : Int) (hpre : (o133 s).1 = true) : evFn ⟨Go.Proofs.Try.prog, Hx, 133⟩ T134.call 0 Go.Proofs.Try.f133 [[.int .i64 s]] = some (o133 s).2 := by
  refine (r133 s _).trans ?_
  show _ = (some ([[.bool (isSideB s)]], []) : Option (List Row × List Row))
  replace hpre : (true) = true := hpre
  unfold isSideB
  simp only [cond_bool]
  apply bool_fin
  simp only [Bool.cond_eq_ite]
  grind
theorem s133 : SoundAt Go.Proofs.Try.prog Hx 133 c133 := soundAt_of T134_sound mixed Go.Proofs.Try.func133 (by kernel_rfl) (by
  intro rows r h
  unfold c133 at h
  split at h
  · rename_i s
    obtain ⟨hp, hr⟩ := Prod.mk.inj (Option.some.inj h)
    subst hr
    exact ⟨_, m133 s hp⟩
  · cases h)
def T133 : Table := (133, c133) :: T134
theorem T133_sound : Table.Sound Go.Proofs.Try.prog Hx T133 := Table.sound_cons s133 T134_sound
/- logOk -/
def o98 (list : List In) : Bool × List Row × List Row := (decide (list.length ≤ 1048576), [[.bool (logOkB list)]], [])
def c98 : Contract
  | [[.sl false 8 list]] => some (isS In false list && (o98 (deS In list)).1, (o98 (deS In list)).2.1, (o98 (deS In list)).2.2)
  | _ => none

noncomputable def k98_0 (n : Nat) : Ex → St → Option (List Row × List Row) := kThen (fun st ↦ runCode (Ctx.mk Go.Proofs.Try.prog Hx (98)) (Table.call T133) n (codeAt [1, 1] (bodyOf Go.Proofs.Try.f98)) (Lv.mk 4 [] 4) st (kLeave (Ctx.P (Ctx.mk Go.Proofs.Try.prog Hx (98))) (List.zip (Array.toList (Go.Func.resultTypes Go.Proofs.Try.f98)) (Array.toList (Go.Func.results Go.Proofs.Try.f98))) [] [])) (kLeave (Ctx.P (Ctx.mk Go.Proofs.Try.prog Hx (98))) (List.zip (Array.toList (Go.Func.resultTypes Go.Proofs.Try.f98)) (Array.toList (Go.Func.results Go.Proofs.Try.f98))) [] [])
noncomputable def k98_1 (n : Nat) : Ex → St → Option (List Row × List Row) := kBlock (0) (k98_0 n)
noncomputable def S98_0 (list : List In) (i0 : Int) : St := St.mk [TV.v false [C.d (D.sl false 8 (enS false list))], TV.v false [C.undef], TV.v false [C.undef], TV.v false [C.undef], TV.v false [C.undef], TV.v false [C.d (D.sl false 8 (enS false list))], TV.v false [C.d (D.int IntKind.i64 (Int.ofNat (List.length (enS false list))))], TV.v false [C.d (D.int IntKind.i64 i0)], TV.v false [C.undef], TV.v false [C.undef], TV.v false [C.undef], TV.v false [C.undef], TV.v false [C.undef], TV.v false [C.undef], TV.v false [C.undef], TV.v false [C.undef], TV.v false [C.undef], TV.v false [C.undef]] []
noncomputable def B98_0 (n : Nat) : St → (Ex → St → Option (List Row × List Row)) → Option (List Row × List Row) := runCode (Ctx.mk Go.Proofs.Try.prog Hx (98)) (Table.call T133) n (codeAt [1, 0, 1, 0, 0] (bodyOf Go.Proofs.Try.f98)) (Lv.mk 0 [(0, 1)] 4)
noncomputable def X98_2 (list : List In) (i0 : Int) : St := St.mk [TV.v false [C.d (D.sl false 8 (enS false list))], TV.v false [C.undef], TV.v false [C.d (D.bool false)], TV.v false [C.undef], TV.v false [C.ptr 0 0 0 [] 8 0 0], TV.v false [C.d (D.sl false 8 (enS false list))], TV.v false [C.d (D.int IntKind.i64 (Int.ofNat (List.length (enS false list))))], TV.v false [C.d (D.int IntKind.i64 i0)], TV.v false [C.d (D.bool true)], TV.v false [C.rptr (List.getD (enS false list) (Int.toNat i0) [])], TV.v true [C.d (D.int IntKind.i64 (D.num (List.getD (List.getD (enS false list) (Int.toNat i0) []) 0 D.dead))), C.d (D.int IntKind.i64 (D.num (List.getD (List.getD (enS false list) (Int.toNat i0) []) 1 D.dead))), C.d (D.int IntKind.i64 (D.num (List.getD (List.getD (enS false list) (Int.toNat i0) []) 2 D.dead))), C.d (D.int IntKind.i64 (D.num (List.getD (List.getD (enS false list) (Int.toNat i0) []) 3 D.dead))), C.d (D.int IntKind.i64 (D.num (List.getD (List.getD (enS false list) (Int.toNat i0) []) 4 D.dead))), C.d (D.int IntKind.i64 (D.num (List.getD (List.getD (enS false list) (Int.toNat i0) []) 5 D.dead))), C.d (D.int IntKind.i64 (D.num (List.getD (List.getD (enS false list) (Int.toNat i0) []) 6 D.dead))), C.d (D.bool (D.flag (List.getD (List.getD (enS false list) (Int.toNat i0) []) 7 D.dead)))], TV.v true [C.d (D.int IntKind.i64 (D.num (List.getD (List.getD (enS false list) (Int.toNat i0) []) 0 D.dead))), C.d (D.int IntKind.i64 (D.num (List.getD (List.getD (enS false list) (Int.toNat i0) []) 1 D.dead))), C.d (D.int IntKind.i64 (D.num (List.getD (List.getD (enS false list) (Int.toNat i0) []) 2 D.dead))), C.d (D.int IntKind.i64 (D.num (List.getD (List.getD (enS false list) (Int.toNat i0) []) 3 D.dead))), C.d (D.int IntKind.i64 (D.num (List.getD (List.getD (enS false list) (Int.toNat i0) []) 4 D.dead))), C.d (D.int IntKind.i64 (D.num (List.getD (List.getD (enS false list) (Int.toNat i0) []) 5 D.dead))), C.d (D.int IntKind.i64 (D.num (List.getD (List.getD (enS false list) (Int.toNat i0) []) 6 D.dead))), C.d (D.bool (D.flag (List.getD (List.getD (enS false list) (Int.toNat i0) []) 7 D.dead)))], TV.v false [C.d (D.bool (inOk (In.mk (D.num (List.getD (List.getD (enS false list) (Int.toNat i0) []) 0 D.dead)) (D.num (List.getD (List.getD (enS false list) (Int.toNat i0) []) 1 D.dead)) (Vec.mk (D.num (List.getD (List.getD (enS false list) (Int.toNat i0) []) 2 D.dead)) (D.num (List.getD (List.getD (enS false list) (Int.toNat i0) []) 3 D.dead)) (D.num (List.getD (List.getD (enS false list) (Int.toNat i0) []) 4 D.dead)) (D.num (List.getD (List.getD (enS false list) (Int.toNat i0) []) 5 D.dead))) (D.num (List.getD (List.getD (enS false list) (Int.toNat i0) []) 6 D.dead)) (D.flag (List.getD (List.getD (enS false list) (Int.toNat i0) []) 7 D.dead)))))], TV.v false [C.d (D.bool true)], TV.v false [C.undef], TV.v false [C.undef], TV.v false [C.undef], TV.v false [C.undef]] [Root.mk true 8 [[D.int IntKind.i64 (D.num (List.getD (List.getD (enS false list) (Int.toNat i0) []) 0 D.dead)), D.int IntKind.i64 (D.num (List.getD (List.getD (enS false list) (Int.toNat i0) []) 1 D.dead)), D.int IntKind.i64 (D.num (List.getD (List.getD (enS false list) (Int.toNat i0) []) 2 D.dead)), D.int IntKind.i64 (D.num (List.getD (List.getD (enS false list) (Int.toNat i0) []) 3 D.dead)), D.int IntKind.i64 (D.num (List.getD (List.getD (enS false list) (Int.toNat i0) []) 4 D.dead)), D.int IntKind.i64 (D.num (List.getD (List.getD (enS false list) (Int.toNat i0) []) 5 D.dead)), D.int IntKind.i64 (D.num (List.getD (List.getD (enS false list) (Int.toNat i0) []) 6 D.dead)), D.bool (D.flag (List.getD (List.getD (enS false list) (Int.toNat i0) []) 7 D.dead))]] 0 0 true true]
noncomputable def X98_3 (list : List In) (i0 : Int) : St := St.mk [TV.v false [C.d (D.sl false 8 (enS false list))], TV.v false [C.undef], TV.v false [C.undef], TV.v false [C.undef], TV.v false [C.undef], TV.v false [C.d (D.sl false 8 (enS false list))], TV.v false [C.d (D.int IntKind.i64 (Int.ofNat (List.length (enS false list))))], TV.v false [C.d (D.int IntKind.i64 i0)], TV.v false [C.d (D.bool false)], TV.v false [C.undef], TV.v false [C.undef], TV.v false [C.undef], TV.v false [C.undef], TV.v false [C.undef], TV.v false [C.undef], TV.v false [C.undef], TV.v false [C.undef], TV.v false [C.undef]] []
theorem q98_0 (list : List In) (n : Nat) (i0 : Int) (f : St → Option (List Row × List Row)) (K : Ex → St → Option (List Row × List Row)) : B98_0 n (S98_0 list i0) (@kThen (List Row × List Row) (fun st ↦ f (St.head 0 225 32660 st)) K) = bif decide (i0 < Int.ofNat (List.length (enS false list))) then bif decide (0 ≤ i0) && decide (i0 < Int.ofNat (List.length (enS false list))) then bif Leaf.fit false (Leaf.int IntKind.i64) (List.getD (List.getD (enS false list) (Int.toNat i0) []) 0 D.dead) && (Leaf.fit false (Leaf.int IntKind.i64) (List.getD (List.getD (enS false list) (Int.toNat i0) []) 1 D.dead) && (Leaf.fit false (Leaf.int IntKind.i64) (List.getD (List.getD (enS false list) (Int.toNat i0) []) 2 D.dead) && (Leaf.fit false (Leaf.int IntKind.i64) (List.getD (List.getD (enS false list) (Int.toNat i0) []) 3 D.dead) && (Leaf.fit false (Leaf.int IntKind.i64) (List.getD (List.getD (enS false list) (Int.toNat i0) []) 4 D.dead) && (Leaf.fit false (Leaf.int IntKind.i64) (List.getD (List.getD (enS false list) (Int.toNat i0) []) 5 D.dead) && (Leaf.fit false (Leaf.int IntKind.i64) (List.getD (List.getD (enS false list) (Int.toNat i0) []) 6 D.dead) && (Leaf.fit false Leaf.bool (List.getD (List.getD (enS false list) (Int.toNat i0) []) 7 D.dead) && true))))))) then bif !inOk (In.mk (D.num (List.getD (List.getD (enS false list) (Int.toNat i0) []) 0 D.dead)) (D.num (List.getD (List.getD (enS false list) (Int.toNat i0) []) 1 D.dead)) (Vec.mk (D.num (List.getD (List.getD (enS false list) (Int.toNat i0) []) 2 D.dead)) (D.num (List.getD (List.getD (enS false list) (Int.toNat i0) []) 3 D.dead)) (D.num (List.getD (List.getD (enS false list) (Int.toNat i0) []) 4 D.dead)) (D.num (List.getD (List.getD (enS false list) (Int.toNat i0) []) 5 D.dead))) (D.num (List.getD (List.getD (enS false list) (Int.toNat i0) []) 6 D.dead)) (D.flag (List.getD (List.getD (enS false list) (Int.toNat i0) []) 7 D.dead))) then K Ex.ret (X98_2 list i0) else f (S98_0 list (IntKind.wrap IntKind.i64 (i0 + 1))) else none else none else K (Ex.exit 0) (X98_3 list i0) := by kernel_rfl
theorem aX98_2 (list : List In) (n : Nat) (i0 : Int) : k98_1 n Ex.ret (X98_2 list i0) = some ([[D.bool false]], []) := by kernel_rfl
theorem aX98_3 (list : List In) (n : Nat) (i0 : Int) : k98_1 n (Ex.exit 0) (X98_3 list i0) = some ([[D.bool (decide (Int.ofNat (List.length (enS false list)) ≤ 60))]], []) := by kernel_rfl
theorem r98 (list : List In) (n : Nat) : evFn ⟨Go.Proofs.Try.prog, Hx, 98⟩ T133.call n Go.Proofs.Try.f98 [[.sl false 8 (enS false list)]] = loopRun (B98_0 n) 0 225 32660 n (S98_0 list (0)) (k98_1 n) := by kernel_rfl
theorem m98 (list : List In) (hpre : (o98 list).1 = true) : evFn ⟨Go.Proofs.Try.prog, Hx, 98⟩ T133.call (list.length + 1) Go.Proofs.Try.f98 [[.sl false 8 (enS false list)]] = some (o98 list).2 := by
  refine (r98 list _).trans ?_
  show _ = (some ([[.bool (logOkB list)]], []) : Option (List Row × List Row))
  replace hpre : (decide (list.length ≤ 1048576)) = true := hpre
  have hlen := of_decide_eq_true hpre
  unfold logOkB
  refine loop_list (xs := list) (fun i (_ : Unit) => S98_0 list (Int.ofNat i)) (fun _ _ => True) (fun _ _ rest => some ([[D.bool (rest.all inOk && (decide (list.length ≤ 60)))]], [])) ?_ ?_ (list.length + 1) () (by omega) trivial
  · rintro _ _ f
    refine (q98_0 list _ _ f _).trans ?_
    rw [end_lt, cond_false]
    refine (aX98_3 list _ _).trans ?_
    simp only [enS_length, List.all_nil, Bool.true_and]
    rw [show decide (Int.ofNat list.length ≤ 60) = decide (list.length ≤ 60) from by by_cases h : list.length ≤ 60 <;> simp [h] <;> omega]
  · rintro i _ hi _ f hf
    refine (q98_0 list _ _ f _).trans ?_
    simp only [enS_length, toNat_of, dec_lt, dec_ge, decide_true, decide_false, cond_true, cond_false, Bool.and_self, Bool.and_true, Bool.true_and, Bool.not_true, Bool.not_false, Nat.lt_irrefl, Nat.zero_add, isS_enS, deS_enS, isS_nil, deS_nil, List.nil_append, lendRows_enS, deepRows_enS, noSl_u8, En.enc, List.getD_cons_zero, List.getD_cons_succ, D.num, D.flag, D.text, D.rows, Leaf.fit, List.append_eq, TReader.eta, Frame.eta, Heard.eta, Member.eta, Card.eta, Out1.eta, Vec.eta, Port.eta, Bridge.eta, In.eta, Out.eta, Link.eta, Net.eta, TEnd.eta, Minder.eta, Reg.eta, Wire.eta, Box.eta, Deed.eta, Bpdu.eta, Visit.eta, Fabric.eta, Got.eta, TRide.eta, Up.eta, Copy.eta, Bucket.eta, Snap.eta, TL9Cur.eta, TL21In.eta, enS_get _ hi, hi, wrap_succ (show i < 4611686018427387904 by omega)]
    cases hp : inOk list[i]
    · simp only [enS_length, toNat_of, dec_lt, dec_ge, decide_true, decide_false, cond_true, cond_false, Bool.and_self, Bool.and_true, Bool.true_and, Bool.not_true, Bool.not_false, Nat.lt_irrefl, Nat.zero_add, isS_enS, deS_enS, isS_nil, deS_nil, List.nil_append, lendRows_enS, deepRows_enS, noSl_u8, En.enc, List.getD_cons_zero, List.getD_cons_succ, D.num, D.flag, D.text, D.rows, Leaf.fit, List.append_eq, TReader.eta, Frame.eta, Heard.eta, Member.eta, Card.eta, Out1.eta, Vec.eta, Port.eta, Bridge.eta, In.eta, Out.eta, Link.eta, Net.eta, TEnd.eta, Minder.eta, Reg.eta, Wire.eta, Box.eta, Deed.eta, Bpdu.eta, Visit.eta, Fabric.eta, Got.eta, TRide.eta, Up.eta, Copy.eta, Bucket.eta, Snap.eta, TL9Cur.eta, TL21In.eta]
      refine (aX98_2 list _ _).trans ?_
      simp only [List.all_cons, hp, Bool.false_and]
    · simp only [enS_length, toNat_of, dec_lt, dec_ge, decide_true, decide_false, cond_true, cond_false, Bool.and_self, Bool.and_true, Bool.true_and, Bool.not_true, Bool.not_false, Nat.lt_irrefl, Nat.zero_add, isS_enS, deS_enS, isS_nil, deS_nil, List.nil_append, lendRows_enS, deepRows_enS, noSl_u8, En.enc, List.getD_cons_zero, List.getD_cons_succ, D.num, D.flag, D.text, D.rows, Leaf.fit, List.append_eq, TReader.eta, Frame.eta, Heard.eta, Member.eta, Card.eta, Out1.eta, Vec.eta, Port.eta, Bridge.eta, In.eta, Out.eta, Link.eta, Net.eta, TEnd.eta, Minder.eta, Reg.eta, Wire.eta, Box.eta, Deed.eta, Bpdu.eta, Visit.eta, Fabric.eta, Got.eta, TRide.eta, Up.eta, Copy.eta, Bucket.eta, Snap.eta, TL9Cur.eta, TL21In.eta]
      refine (hf () trivial).trans ?_
      simp only [List.all_cons, hp, Bool.true_and]
theorem s98 : SoundAt Go.Proofs.Try.prog Hx 98 c98 := soundAt_of T133_sound mixed Go.Proofs.Try.func98 (by kernel_rfl) (by
  intro rows r h
  unfold c98 at h
  split at h
  · rename_i list
    obtain ⟨hp, hr⟩ := Prod.mk.inj (Option.some.inj h)
    subst hr
    simp only [Bool.and_eq_true] at hp
    obtain ⟨hs0, hp⟩ := hp
    obtain ⟨xs0, rfl⟩ := isS_ex hs0
    simp only [deS_enS] at hp ⊢
    exact ⟨_, m98 xs0 hp⟩
  · cases h)
def T98 : Table := (98, c98) :: T133
theorem T98_sound : Table.Sound Go.Proofs.Try.prog Hx T98 := Table.sound_cons s98 T133_sound
/- l12Ins -/
def o90 (list : List In) : Bool × List Row × List Row := (decide (list.length ≤ 1048576), [[.bool (logOkB list)]], [])
def c90 : Contract
  | [[.sl false 8 list]] => some (isS In false list && (o90 (deS In list)).1, (o90 (deS In list)).2.1, (o90 (deS In list)).2.2)
  | _ => none

noncomputable def k90_0 (n : Nat) : Ex → St → Option (List Row × List Row) := kThen (fun st ↦ runCode (Ctx.mk Go.Proofs.Try.prog Hx (90)) (Table.call T98) n (codeAt [1, 1] (bodyOf Go.Proofs.Try.f90)) (Lv.mk 4 [] 4) st (kLeave (Ctx.P (Ctx.mk Go.Proofs.Try.prog Hx (90))) (List.zip (Array.toList (Go.Func.resultTypes Go.Proofs.Try.f90)) (Array.toList (Go.Func.results Go.Proofs.Try.f90))) [] [])) (kLeave (Ctx.P (Ctx.mk Go.Proofs.Try.prog Hx (90))) (List.zip (Array.toList (Go.Func.resultTypes Go.Proofs.Try.f90)) (Array.toList (Go.Func.results Go.Proofs.Try.f90))) [] [])
noncomputable def k90_1 (n : Nat) : Ex → St → Option (List Row × List Row) := kBlock (0) (k90_0 n)
noncomputable def S90_0 (list : List In) (i0 : Int) : St := St.mk [TV.v false [C.d (D.sl false 8 (enS false list))], TV.v false [C.undef], TV.v false [C.undef], TV.v false [C.d (D.int IntKind.i64 i0)], TV.v false [C.undef], TV.v false [C.undef], TV.v false [C.undef], TV.v false [C.undef], TV.v false [C.undef], TV.v false [C.undef], TV.v false [C.undef], TV.v false [C.undef], TV.v false [C.undef], TV.v false [C.undef], TV.v false [C.undef], TV.v false [C.undef], TV.v false [C.undef], TV.v false [C.undef], TV.v false [C.undef]] []
noncomputable def B90_0 (n : Nat) : St → (Ex → St → Option (List Row × List Row)) → Option (List Row × List Row) := runCode (Ctx.mk Go.Proofs.Try.prog Hx (90)) (Table.call T98) n (codeAt [1, 0, 1, 0, 0] (bodyOf Go.Proofs.Try.f90)) (Lv.mk 0 [(0, 1)] 4)
noncomputable def X90_2 (list : List In) (i0 : Int) : St := St.mk [TV.v false [C.d (D.sl false 8 (enS false list))], TV.v false [C.undef], TV.v false [C.d (D.bool false)], TV.v false [C.d (D.int IntKind.i64 i0)], TV.v false [C.d (D.int IntKind.i64 i0)], TV.v false [C.d (D.sl false 8 (enS false list))], TV.v false [C.d (D.int IntKind.i64 (Int.ofNat (List.length (enS false list))))], TV.v false [C.d (D.bool true)], TV.v false [C.undef], TV.v false [C.undef], TV.v false [C.d (D.sl false 8 (enS false list))], TV.v false [C.d (D.int IntKind.i64 i0)], TV.v false [C.rptr (List.getD (enS false list) (Int.toNat i0) [])], TV.v true [C.d (D.int IntKind.i64 (D.num (List.getD (List.getD (enS false list) (Int.toNat i0) []) 0 D.dead))), C.d (D.int IntKind.i64 (D.num (List.getD (List.getD (enS false list) (Int.toNat i0) []) 1 D.dead))), C.d (D.int IntKind.i64 (D.num (List.getD (List.getD (enS false list) (Int.toNat i0) []) 2 D.dead))), C.d (D.int IntKind.i64 (D.num (List.getD (List.getD (enS false list) (Int.toNat i0) []) 3 D.dead))), C.d (D.int IntKind.i64 (D.num (List.getD (List.getD (enS false list) (Int.toNat i0) []) 4 D.dead))), C.d (D.int IntKind.i64 (D.num (List.getD (List.getD (enS false list) (Int.toNat i0) []) 5 D.dead))), C.d (D.int IntKind.i64 (D.num (List.getD (List.getD (enS false list) (Int.toNat i0) []) 6 D.dead))), C.d (D.bool (D.flag (List.getD (List.getD (enS false list) (Int.toNat i0) []) 7 D.dead)))], TV.v false [C.d (D.bool (inOk (In.mk (D.num (List.getD (List.getD (enS false list) (Int.toNat i0) []) 0 D.dead)) (D.num (List.getD (List.getD (enS false list) (Int.toNat i0) []) 1 D.dead)) (Vec.mk (D.num (List.getD (List.getD (enS false list) (Int.toNat i0) []) 2 D.dead)) (D.num (List.getD (List.getD (enS false list) (Int.toNat i0) []) 3 D.dead)) (D.num (List.getD (List.getD (enS false list) (Int.toNat i0) []) 4 D.dead)) (D.num (List.getD (List.getD (enS false list) (Int.toNat i0) []) 5 D.dead))) (D.num (List.getD (List.getD (enS false list) (Int.toNat i0) []) 6 D.dead)) (D.flag (List.getD (List.getD (enS false list) (Int.toNat i0) []) 7 D.dead)))))], TV.v false [C.d (D.bool true)], TV.v false [C.undef], TV.v false [C.undef], TV.v false [C.undef]] []
noncomputable def X90_3 (list : List In) (i0 : Int) : St := St.mk [TV.v false [C.d (D.sl false 8 (enS false list))], TV.v false [C.undef], TV.v false [C.undef], TV.v false [C.d (D.int IntKind.i64 i0)], TV.v false [C.d (D.int IntKind.i64 i0)], TV.v false [C.d (D.sl false 8 (enS false list))], TV.v false [C.d (D.int IntKind.i64 (Int.ofNat (List.length (enS false list))))], TV.v false [C.d (D.bool false)], TV.v false [C.undef], TV.v false [C.undef], TV.v false [C.undef], TV.v false [C.undef], TV.v false [C.undef], TV.v false [C.undef], TV.v false [C.undef], TV.v false [C.undef], TV.v false [C.undef], TV.v false [C.undef], TV.v false [C.undef]] []
theorem q90_0 (list : List In) (n : Nat) (i0 : Int) (f : St → Option (List Row × List Row)) (K : Ex → St → Option (List Row × List Row)) : B90_0 n (S90_0 list i0) (@kThen (List Row × List Row) (fun st ↦ f (St.head 0 9 65532 st)) K) = bif decide (i0 < Int.ofNat (List.length (enS false list))) then bif decide (0 ≤ i0) && decide (i0 < Int.ofNat (List.length (enS false list))) then bif Leaf.fit false (Leaf.int IntKind.i64) (List.getD (List.getD (enS false list) (Int.toNat i0) []) 0 D.dead) && (Leaf.fit false (Leaf.int IntKind.i64) (List.getD (List.getD (enS false list) (Int.toNat i0) []) 1 D.dead) && (Leaf.fit false (Leaf.int IntKind.i64) (List.getD (List.getD (enS false list) (Int.toNat i0) []) 2 D.dead) && (Leaf.fit false (Leaf.int IntKind.i64) (List.getD (List.getD (enS false list) (Int.toNat i0) []) 3 D.dead) && (Leaf.fit false (Leaf.int IntKind.i64) (List.getD (List.getD (enS false list) (Int.toNat i0) []) 4 D.dead) && (Leaf.fit false (Leaf.int IntKind.i64) (List.getD (List.getD (enS false list) (Int.toNat i0) []) 5 D.dead) && (Leaf.fit false (Leaf.int IntKind.i64) (List.getD (List.getD (enS false list) (Int.toNat i0) []) 6 D.dead) && (Leaf.fit false Leaf.bool (List.getD (List.getD (enS false list) (Int.toNat i0) []) 7 D.dead) && true))))))) then bif !inOk (In.mk (D.num (List.getD (List.getD (enS false list) (Int.toNat i0) []) 0 D.dead)) (D.num (List.getD (List.getD (enS false list) (Int.toNat i0) []) 1 D.dead)) (Vec.mk (D.num (List.getD (List.getD (enS false list) (Int.toNat i0) []) 2 D.dead)) (D.num (List.getD (List.getD (enS false list) (Int.toNat i0) []) 3 D.dead)) (D.num (List.getD (List.getD (enS false list) (Int.toNat i0) []) 4 D.dead)) (D.num (List.getD (List.getD (enS false list) (Int.toNat i0) []) 5 D.dead))) (D.num (List.getD (List.getD (enS false list) (Int.toNat i0) []) 6 D.dead)) (D.flag (List.getD (List.getD (enS false list) (Int.toNat i0) []) 7 D.dead))) then K Ex.ret (X90_2 list i0) else f (S90_0 list (IntKind.wrap IntKind.i64 (i0 + 1))) else none else none else K (Ex.exit 0) (X90_3 list i0) := by kernel_rfl
theorem aX90_2 (list : List In) (n : Nat) (i0 : Int) : k90_1 n Ex.ret (X90_2 list i0) = some ([[D.bool false]], []) := by kernel_rfl
theorem aX90_3 (list : List In) (n : Nat) (i0 : Int) : k90_1 n (Ex.exit 0) (X90_3 list i0) = some ([[D.bool (decide (Int.ofNat (List.length (enS false list)) ≤ 60))]], []) := by kernel_rfl
theorem r90 (list : List In) (n : Nat) : evFn ⟨Go.Proofs.Try.prog, Hx, 90⟩ T98.call n Go.Proofs.Try.f90 [[.sl false 8 (enS false list)]] = loopRun (B90_0 n) 0 9 65532 n (S90_0 list (0)) (k90_1 n) := by kernel_rfl
theorem m90 (list : List In) (hpre : (o90 list).1 = true) : evFn ⟨Go.Proofs.Try.prog, Hx, 90⟩ T98.call (list.length + 1) Go.Proofs.Try.f90 [[.sl false 8 (enS false list)]] = some (o90 list).2 := by
  refine (r90 list _).trans ?_
  show _ = (some ([[.bool (logOkB list)]], []) : Option (List Row × List Row))
  replace hpre : (decide (list.length ≤ 1048576)) = true := hpre
  have hlen := of_decide_eq_true hpre
  unfold logOkB
  refine loop_list (xs := list) (fun i (_ : Unit) => S90_0 list (Int.ofNat i)) (fun _ _ => True) (fun _ _ rest => some ([[D.bool (rest.all inOk && (decide (list.length ≤ 60)))]], [])) ?_ ?_ (list.length + 1) () (by omega) trivial
  · rintro _ _ f
    refine (q90_0 list _ _ f _).trans ?_
    rw [end_lt, cond_false]
    refine (aX90_3 list _ _).trans ?_
    simp only [enS_length, List.all_nil, Bool.true_and]
    rw [show decide (Int.ofNat list.length ≤ 60) = decide (list.length ≤ 60) from by by_cases h : list.length ≤ 60 <;> simp [h] <;> omega]
  · rintro i _ hi _ f hf
    refine (q90_0 list _ _ f _).trans ?_
    simp only [enS_length, toNat_of, dec_lt, dec_ge, decide_true, decide_false, cond_true, cond_false, Bool.and_self, Bool.and_true, Bool.true_and, Bool.not_true, Bool.not_false, Nat.lt_irrefl, Nat.zero_add, isS_enS, deS_enS, isS_nil, deS_nil, List.nil_append, lendRows_enS, deepRows_enS, noSl_u8, En.enc, List.getD_cons_zero, List.getD_cons_succ, D.num, D.flag, D.text, D.rows, Leaf.fit, List.append_eq, TReader.eta, Frame.eta, Heard.eta, Member.eta, Card.eta, Out1.eta, Vec.eta, Port.eta, Bridge.eta, In.eta, Out.eta, Link.eta, Net.eta, TEnd.eta, Minder.eta, Reg.eta, Wire.eta, Box.eta, Deed.eta, Bpdu.eta, Visit.eta, Fabric.eta, Got.eta, TRide.eta, Up.eta, Copy.eta, Bucket.eta, Snap.eta, TL9Cur.eta, TL21In.eta, enS_get _ hi, hi, wrap_succ (show i < 4611686018427387904 by omega)]
    cases hp : inOk list[i]
    · simp only [enS_length, toNat_of, dec_lt, dec_ge, decide_true, decide_false, cond_true, cond_false, Bool.and_self, Bool.and_true, Bool.true_and, Bool.not_true, Bool.not_false, Nat.lt_irrefl, Nat.zero_add, isS_enS, deS_enS, isS_nil, deS_nil, List.nil_append, lendRows_enS, deepRows_enS, noSl_u8, En.enc, List.getD_cons_zero, List.getD_cons_succ, D.num, D.flag, D.text, D.rows, Leaf.fit, List.append_eq, TReader.eta, Frame.eta, Heard.eta, Member.eta, Card.eta, Out1.eta, Vec.eta, Port.eta, Bridge.eta, In.eta, Out.eta, Link.eta, Net.eta, TEnd.eta, Minder.eta, Reg.eta, Wire.eta, Box.eta, Deed.eta, Bpdu.eta, Visit.eta, Fabric.eta, Got.eta, TRide.eta, Up.eta, Copy.eta, Bucket.eta, Snap.eta, TL9Cur.eta, TL21In.eta]
      refine (aX90_2 list _ _).trans ?_
      simp only [List.all_cons, hp, Bool.false_and]
    · simp only [enS_length, toNat_of, dec_lt, dec_ge, decide_true, decide_false, cond_true, cond_false, Bool.and_self, Bool.and_true, Bool.true_and, Bool.not_true, Bool.not_false, Nat.lt_irrefl, Nat.zero_add, isS_enS, deS_enS, isS_nil, deS_nil, List.nil_append, lendRows_enS, deepRows_enS, noSl_u8, En.enc, List.getD_cons_zero, List.getD_cons_succ, D.num, D.flag, D.text, D.rows, Leaf.fit, List.append_eq, TReader.eta, Frame.eta, Heard.eta, Member.eta, Card.eta, Out1.eta, Vec.eta, Port.eta, Bridge.eta, In.eta, Out.eta, Link.eta, Net.eta, TEnd.eta, Minder.eta, Reg.eta, Wire.eta, Box.eta, Deed.eta, Bpdu.eta, Visit.eta, Fabric.eta, Got.eta, TRide.eta, Up.eta, Copy.eta, Bucket.eta, Snap.eta, TL9Cur.eta, TL21In.eta]
      refine (hf () trivial).trans ?_
      simp only [List.all_cons, hp, Bool.true_and]
theorem s90 : SoundAt Go.Proofs.Try.prog Hx 90 c90 := soundAt_of T98_sound mixed Go.Proofs.Try.func90 (by kernel_rfl) (by
  intro rows r h
  unfold c90 at h
  split at h
  · rename_i list
    obtain ⟨hp, hr⟩ := Prod.mk.inj (Option.some.inj h)
    subst hr
    simp only [Bool.and_eq_true] at hp
    obtain ⟨hs0, hp⟩ := hp
    obtain ⟨xs0, rfl⟩ := isS_ex hs0
    simp only [deS_enS] at hp ⊢
    exact ⟨_, m90 xs0 hp⟩
  · cases h)
def T90 : Table := (90, c90) :: T98
theorem T90_sound : Table.Sound Go.Proofs.Try.prog Hx T90 := Table.sound_cons s90 T98_sound
/- implMinderOk -/
def o96 (m : Minder) : Bool × List Row × List Row := (decide (m.Log.length ≤ 1048576), [[.bool (minderOk m)]], [])
def c96 : Contract
  | [[.bool m_Up, .int .i64 m_Life, .int .i64 m_Epoch, .sl false 8 m_Log, .int .i64 m_Said, .int .i64 m_Acked, .int .i64 m_AckLife]] => some (isS In false m_Log && (o96 ⟨m_Up, m_Life, m_Epoch, (deS In m_Log), m_Said, m_Acked, m_AckLife⟩).1, (o96 ⟨m_Up, m_Life, m_Epoch, (deS In m_Log), m_Said, m_Acked, m_AckLife⟩).2.1, (o96 ⟨m_Up, m_Life, m_Epoch, (deS In m_Log), m_Said, m_Acked, m_AckLife⟩).2.2)
  | _ => none

theorem r96 (m : Minder) (n : Nat) : evFn ⟨Go.Proofs.Try.prog, Hx, 96⟩ T90.call n Go.Proofs.Try.f96 [[.bool m.Up, .int .i64 m.Life, .int .i64 m.Epoch, .sl false 8 (enS false m.Log), .int .i64 m.Said, .int .i64 m.Acked, .int .i64 m.AckLife]] = bif !isNumB (Minder.Life m) then some ([[D.bool false]], []) else bif !isNumB (Minder.Epoch m) then some ([[D.bool false]], []) else bif !isNumB (Minder.AckLife m) then some ([[D.bool false]], []) else bif isS In false (enS false (Minder.Log m)) && decide (List.length (deS In (enS false (Minder.Log m))) ≤ 1048576) then bif !logOkB (deS In (enS false (Minder.Log m))) then some ([[D.bool false]], []) else bif !inR (Minder.Said m) (0) (Int.ofNat (List.length (enS false (Minder.Log m)))) then some ([[D.bool false]], []) else bif !inR (Minder.Acked m) (0) (Int.ofNat (List.length (enS false (Minder.Log m)))) then some ([[D.bool false]], []) else bif Minder.Up m then some ([[D.bool true]], []) else bif Minder.Epoch m == 0 then bif Int.ofNat (List.length (enS false (Minder.Log m))) == 0 then some ([[D.bool (Minder.AckLife m == 0)]], []) else some ([[D.bool false]], []) else some ([[D.bool false]], []) else none := by kernel_rfl
theorem m96 (m : Minder) (hpre : (o96 m).1 = true) : evFn ⟨Go.Proofs.Try.prog, Hx, 96⟩ T90.call 0 Go.Proofs.Try.f96 [[.bool m.Up, .int .i64 m.Life, .int .i64 m.Epoch, .sl false 8 (enS false m.Log), .int .i64 m.Said, .int .i64 m.Acked, .int .i64 m.AckLife]] = some (o96 m).2 := by
  refine (r96 m _).trans ?_
  show _ = (some ([[.bool (minderOk m)]], []) : Option (List Row × List Row))
  replace hpre : (decide (m.Log.length ≤ 1048576)) = true := hpre
  unfold minderOk
  simp only [enS_length, toNat_of, dec_lt, dec_ge, decide_true, decide_false, cond_true, cond_false, Bool.and_self, Bool.and_true, Bool.true_and, Bool.not_true, Bool.not_false, Nat.lt_irrefl, Nat.zero_add, isS_enS, deS_enS, isS_nil, deS_nil, List.nil_append, lendRows_enS, deepRows_enS, noSl_u8, En.enc, List.getD_cons_zero, List.getD_cons_succ, D.num, D.flag, D.text, D.rows, Leaf.fit, List.append_eq, TReader.eta, Frame.eta, Heard.eta, Member.eta, Card.eta, Out1.eta, Vec.eta, Port.eta, Bridge.eta, In.eta, Out.eta, Link.eta, Net.eta, TEnd.eta, Minder.eta, Reg.eta, Wire.eta, Box.eta, Deed.eta, Bpdu.eta, Visit.eta, Fabric.eta, Got.eta, TRide.eta, Up.eta, Copy.eta, Bucket.eta, Snap.eta, TL9Cur.eta, TL21In.eta, hpre, zero_len, Int.ofNat_eq_natCast]
  simp only [cond_bool]
  apply bool_fin
  simp only [Bool.cond_eq_ite]
  grind
theorem s96 : SoundAt Go.Proofs.Try.prog Hx 96 c96 := soundAt_of T90_sound mixed Go.Proofs.Try.func96 (by kernel_rfl) (by
  intro rows r h
  unfold c96 at h
  split at h
  · rename_i m_Up m_Life m_Epoch m_Log m_Said m_Acked m_AckLife
    obtain ⟨hp, hr⟩ := Prod.mk.inj (Option.some.inj h)
    subst hr
    simp only [Bool.and_eq_true] at hp
    obtain ⟨hs0, hp⟩ := hp
    obtain ⟨xs0, rfl⟩ := isS_ex hs0
    simp only [deS_enS] at hp ⊢
    exact ⟨_, m96 ⟨m_Up, m_Life, m_Epoch, xs0, m_Said, m_Acked, m_AckLife⟩ hp⟩
  · cases h)
def T96 : Table := (96, c96) :: T90
theorem T96_sound : Table.Sound Go.Proofs.Try.prog Hx T96 := Table.sound_cons s96 T90_sound
/- specMinderOk -/
def o88 (m : Minder) : Bool × List Row × List Row := (decide (m.Log.length ≤ 1048576), [[.bool (minderOk m)]], [])
def c88 : Contract
  | [[.bool m_Up, .int .i64 m_Life, .int .i64 m_Epoch, .sl false 8 m_Log, .int .i64 m_Said, .int .i64 m_Acked, .int .i64 m_AckLife]] => some (isS In false m_Log && (o88 ⟨m_Up, m_Life, m_Epoch, (deS In m_Log), m_Said, m_Acked, m_AckLife⟩).1, (o88 ⟨m_Up, m_Life, m_Epoch, (deS In m_Log), m_Said, m_Acked, m_AckLife⟩).2.1, (o88 ⟨m_Up, m_Life, m_Epoch, (deS In m_Log), m_Said, m_Acked, m_AckLife⟩).2.2)
  | _ => none

theorem r88 (m : Minder) (n : Nat) : evFn ⟨Go.Proofs.Try.prog, Hx, 88⟩ T96.call n Go.Proofs.Try.f88 [[.bool m.Up, .int .i64 m.Life, .int .i64 m.Epoch, .sl false 8 (enS false m.Log), .int .i64 m.Said, .int .i64 m.Acked, .int .i64 m.AckLife]] = bif !inR (Minder.Life m) (0) (100000) then some ([[D.bool false]], []) else bif !inR (Minder.Epoch m) (0) (100000) then some ([[D.bool false]], []) else bif !inR (Minder.AckLife m) (0) (100000) then some ([[D.bool false]], []) else bif isS In false (enS false (Minder.Log m)) && decide (List.length (deS In (enS false (Minder.Log m))) ≤ 1048576) then bif !logOkB (deS In (enS false (Minder.Log m))) then some ([[D.bool false]], []) else bif !inR (Minder.Said m) (0) (Int.ofNat (List.length (enS false (Minder.Log m)))) then some ([[D.bool false]], []) else bif !inR (Minder.Acked m) (0) (Int.ofNat (List.length (enS false (Minder.Log m)))) then some ([[D.bool false]], []) else bif Minder.Up m then some ([[D.bool true]], []) else bif Minder.Epoch m == 0 then bif Int.ofNat (List.length (enS false (Minder.Log m))) == 0 then some ([[D.bool (Minder.AckLife m == 0)]], []) else some ([[D.bool false]], []) else some ([[D.bool false]], []) else none := by kernel_rfl
theorem m88 (m : Minder) (hpre : (o88 m).1 = true) : evFn ⟨Go.Proofs.Try.prog, Hx, 88⟩ T96.call 0 Go.Proofs.Try.f88 [[.bool m.Up, .int .i64 m.Life, .int .i64 m.Epoch, .sl false 8 (enS false m.Log), .int .i64 m.Said, .int .i64 m.Acked, .int .i64 m.AckLife]] = some (o88 m).2 := by
  refine (r88 m _).trans ?_
  show _ = (some ([[.bool (minderOk m)]], []) : Option (List Row × List Row))
  replace hpre : (decide (m.Log.length ≤ 1048576)) = true := hpre
  unfold minderOk isNumB
  simp only [enS_length, toNat_of, dec_lt, dec_ge, decide_true, decide_false, cond_true, cond_false, Bool.and_self, Bool.and_true, Bool.true_and, Bool.not_true, Bool.not_false, Nat.lt_irrefl, Nat.zero_add, isS_enS, deS_enS, isS_nil, deS_nil, List.nil_append, lendRows_enS, deepRows_enS, noSl_u8, En.enc, List.getD_cons_zero, List.getD_cons_succ, D.num, D.flag, D.text, D.rows, Leaf.fit, List.append_eq, TReader.eta, Frame.eta, Heard.eta, Member.eta, Card.eta, Out1.eta, Vec.eta, Port.eta, Bridge.eta, In.eta, Out.eta, Link.eta, Net.eta, TEnd.eta, Minder.eta, Reg.eta, Wire.eta, Box.eta, Deed.eta, Bpdu.eta, Visit.eta, Fabric.eta, Got.eta, TRide.eta, Up.eta, Copy.eta, Bucket.eta, Snap.eta, TL9Cur.eta, TL21In.eta, hpre, zero_len, Int.ofNat_eq_natCast]
  simp only [cond_bool]
  apply bool_fin
  simp only [Bool.cond_eq_ite]
  grind
theorem s88 : SoundAt Go.Proofs.Try.prog Hx 88 c88 := soundAt_of T96_sound mixed Go.Proofs.Try.func88 (by kernel_rfl) (by
  intro rows r h
  unfold c88 at h
  split at h
  · rename_i m_Up m_Life m_Epoch m_Log m_Said m_Acked m_AckLife
    obtain ⟨hp, hr⟩ := Prod.mk.inj (Option.some.inj h)
    subst hr
    simp only [Bool.and_eq_true] at hp
    obtain ⟨hs0, hp⟩ := hp
    obtain ⟨xs0, rfl⟩ := isS_ex hs0
    simp only [deS_enS] at hp ⊢
    exact ⟨_, m88 ⟨m_Up, m_Life, m_Epoch, xs0, m_Said, m_Acked, m_AckLife⟩ hp⟩
  · cases h)
def T88 : Table := (88, c88) :: T96
theorem T88_sound : Table.Sound Go.Proofs.Try.prog Hx T88 := Table.sound_cons s88 T96_sound
/- implRegOk -/
def o95 (r : Reg) : Bool × List Row × List Row := (true, [[.bool (regOk r)]], [])
def c95 : Contract
  | [[.int .i64 r_Epoch, .int .i64 r_Owner, .int .i64 r_Pair]] => some ((o95 ⟨r_Epoch, r_Owner, r_Pair⟩).1, (o95 ⟨r_Epoch, r_Owner, r_Pair⟩).2.1, (o95 ⟨r_Epoch, r_Owner, r_Pair⟩).2.2)
  | _ => none

theorem r95 (r : Reg) (n : Nat) : evFn ⟨Go.Proofs.Try.prog, Hx, 95⟩ T88.call n Go.Proofs.Try.f95 [[.int .i64 r.Epoch, .int .i64 r.Owner, .int .i64 r.Pair]] = bif inR (Reg.Epoch r) (1) (100000) then bif isSideB (Reg.Owner r) then some ([[D.bool (isNumB (Reg.Pair r))]], []) else some ([[D.bool false]], []) else some ([[D.bool false]], []) := by kernel_rfl
theorem m95 (r : Reg) (hpre : (o95 r).1 = true) : evFn ⟨Go.Proofs.Try.prog, Hx, 95⟩ T88.call 0 Go.Proofs.Try.f95 [[.int .i64 r.Epoch, .int .i64 r.Owner, .int .i64 r.Pair]] = some (o95 r).2 := by
  refine (r95 r _).trans ?_
  show _ = (some ([[.bool (regOk r)]], []) : Option (List Row × List Row))
  replace hpre : (true) = true := hpre
  unfold regOk
  simp only [cond_bool, side_in]
  apply bool_fin
  simp only [Bool.cond_eq_ite]
  grind
theorem s95 : SoundAt Go.Proofs.Try.prog Hx 95 c95 := soundAt_of T88_sound mixed Go.Proofs.Try.func95 (by kernel_rfl) (by
  intro rows r h
  unfold c95 at h
  split at h
  · rename_i r_Epoch r_Owner r_Pair
    obtain ⟨hp, hr⟩ := Prod.mk.inj (Option.some.inj h)
    subst hr
    exact ⟨_, m95 ⟨r_Epoch, r_Owner, r_Pair⟩ hp⟩
  · cases h)
def T95 : Table := (95, c95) :: T88
theorem T95_sound : Table.Sound Go.Proofs.Try.prog Hx T95 := Table.sound_cons s95 T88_sound
/- specRegOk -/
def o87 (r : Reg) : Bool × List Row × List Row := (true, [[.bool (regOk r)]], [])
def c87 : Contract
  | [[.int .i64 r_Epoch, .int .i64 r_Owner, .int .i64 r_Pair]] => some ((o87 ⟨r_Epoch, r_Owner, r_Pair⟩).1, (o87 ⟨r_Epoch, r_Owner, r_Pair⟩).2.1, (o87 ⟨r_Epoch, r_Owner, r_Pair⟩).2.2)
  | _ => none

theorem r87 (r : Reg) (n : Nat) : evFn ⟨Go.Proofs.Try.prog, Hx, 87⟩ T95.call n Go.Proofs.Try.f87 [[.int .i64 r.Epoch, .int .i64 r.Owner, .int .i64 r.Pair]] = bif inR (Reg.Epoch r) (1) (100000) then bif inR (Reg.Owner r) (0) (1) then some ([[D.bool (inR (Reg.Pair r) (0) (100000))]], []) else some ([[D.bool false]], []) else some ([[D.bool false]], []) := by kernel_rfl
theorem m87 (r : Reg) (hpre : (o87 r).1 = true) : evFn ⟨Go.Proofs.Try.prog, Hx, 87⟩ T95.call 0 Go.Proofs.Try.f87 [[.int .i64 r.Epoch, .int .i64 r.Owner, .int .i64 r.Pair]] = some (o87 r).2 := by
  refine (r87 r _).trans ?_
  show _ = (some ([[.bool (regOk r)]], []) : Option (List Row × List Row))
  replace hpre : (true) = true := hpre
  unfold regOk
  simp only [cond_bool, side_in]
  apply bool_fin
  unfold isNumB
  simp only [Bool.cond_eq_ite]
  grind
theorem s87 : SoundAt Go.Proofs.Try.prog Hx 87 c87 := soundAt_of T95_sound mixed Go.Proofs.Try.func87 (by kernel_rfl) (by
  intro rows r h
  unfold c87 at h
  split at h
  · rename_i r_Epoch r_Owner r_Pair
    obtain ⟨hp, hr⟩ := Prod.mk.inj (Option.some.inj h)
    subst hr
    exact ⟨_, m87 ⟨r_Epoch, r_Owner, r_Pair⟩ hp⟩
  · cases h)
def T87 : Table := (87, c87) :: T95
theorem T87_sound : Table.Sound Go.Proofs.Try.prog Hx T87 := Table.sound_cons s87 T95_sound
/- implMinds -/
def o99 (r : Reg) (s : Int) (m : Minder) : Bool × List Row × List Row := (decide (m.Log.length ≤ 1048576), [[.bool (minds r s m)]], [])
def c99 : Contract
  | [[.int .i64 r_Epoch, .int .i64 r_Owner, .int .i64 r_Pair], [.int .i64 s], [.bool m_Up, .int .i64 m_Life, .int .i64 m_Epoch, .sl false 8 m_Log, .int .i64 m_Said, .int .i64 m_Acked, .int .i64 m_AckLife]] => some (isS In false m_Log && (o99 ⟨r_Epoch, r_Owner, r_Pair⟩ s ⟨m_Up, m_Life, m_Epoch, (deS In m_Log), m_Said, m_Acked, m_AckLife⟩).1, (o99 ⟨r_Epoch, r_Owner, r_Pair⟩ s ⟨m_Up, m_Life, m_Epoch, (deS In m_Log), m_Said, m_Acked, m_AckLife⟩).2.1, (o99 ⟨r_Epoch, r_Owner, r_Pair⟩ s ⟨m_Up, m_Life, m_Epoch, (deS In m_Log), m_Said, m_Acked, m_AckLife⟩).2.2)
  | _ => none

theorem r99 (r : Reg) (s : Int) (m : Minder) (n : Nat) : evFn ⟨Go.Proofs.Try.prog, Hx, 99⟩ T87.call n Go.Proofs.Try.f99 [[.int .i64 r.Epoch, .int .i64 r.Owner, .int .i64 r.Pair], [.int .i64 s], [.bool m.Up, .int .i64 m.Life, .int .i64 m.Epoch, .sl false 8 (enS false m.Log), .int .i64 m.Said, .int .i64 m.Acked, .int .i64 m.AckLife]] = bif regOk r then bif isS In false (enS false (Minder.Log m)) && decide (List.length (deS In (enS false (Minder.Log m))) ≤ 1048576) then bif minderOk (Minder.mk (Minder.Up m) (Minder.Life m) (Minder.Epoch m) (deS In (enS false (Minder.Log m))) (Minder.Said m) (Minder.Acked m) (Minder.AckLife m)) then bif Minder.Up m then bif s == Reg.Owner r then bif decide (Minder.Epoch m > 0) then some ([[D.bool (Minder.Epoch m == Reg.Epoch r)]], []) else some ([[D.bool false]], []) else some ([[D.bool false]], []) else some ([[D.bool false]], []) else some ([[D.bool false]], []) else none else some ([[D.bool false]], []) := by kernel_rfl
theorem m99 (r : Reg) (s : Int) (m : Minder) (hpre : (o99 r s m).1 = true) : evFn ⟨Go.Proofs.Try.prog, Hx, 99⟩ T87.call 0 Go.Proofs.Try.f99 [[.int .i64 r.Epoch, .int .i64 r.Owner, .int .i64 r.Pair], [.int .i64 s], [.bool m.Up, .int .i64 m.Life, .int .i64 m.Epoch, .sl false 8 (enS false m.Log), .int .i64 m.Said, .int .i64 m.Acked, .int .i64 m.AckLife]] = some (o99 r s m).2 := by
  refine (r99 r s m _).trans ?_
  show _ = (some ([[.bool (minds r s m)]], []) : Option (List Row × List Row))
  replace hpre : (decide (m.Log.length ≤ 1048576)) = true := hpre
  unfold minds
  simp only [enS_length, toNat_of, dec_lt, dec_ge, decide_true, decide_false, cond_true, cond_false, Bool.and_self, Bool.and_true, Bool.true_and, Bool.not_true, Bool.not_false, Nat.lt_irrefl, Nat.zero_add, isS_enS, deS_enS, isS_nil, deS_nil, List.nil_append, lendRows_enS, deepRows_enS, noSl_u8, En.enc, List.getD_cons_zero, List.getD_cons_succ, D.num, D.flag, D.text, D.rows, Leaf.fit, List.append_eq, TReader.eta, Frame.eta, Heard.eta, Member.eta, Card.eta, Out1.eta, Vec.eta, Port.eta, Bridge.eta, In.eta, Out.eta, Link.eta, Net.eta, TEnd.eta, Minder.eta, Reg.eta, Wire.eta, Box.eta, Deed.eta, Bpdu.eta, Visit.eta, Fabric.eta, Got.eta, TRide.eta, Up.eta, Copy.eta, Bucket.eta, Snap.eta, TL9Cur.eta, TL21In.eta, hpre]
  simp only [cond_bool]
  apply bool_fin
  cases hr : regOk r
  · simp
  have hr' := hr
  unfold regOk inR at hr'
  simp only [Bool.and_eq_true, decide_eq_true_eq] at hr'
  simp only [Bool.cond_eq_ite]
  grind
theorem s99 : SoundAt Go.Proofs.Try.prog Hx 99 c99 := soundAt_of T87_sound mixed Go.Proofs.Try.func99 (by kernel_rfl) (by
  intro rows r h
  unfold c99 at h
  split at h
  · rename_i r_Epoch r_Owner r_Pair s m_Up m_Life m_Epoch m_Log m_Said m_Acked m_AckLife
    obtain ⟨hp, hr⟩ := Prod.mk.inj (Option.some.inj h)
    subst hr
    simp only [Bool.and_eq_true] at hp
    obtain ⟨hs0, hp⟩ := hp
    obtain ⟨xs0, rfl⟩ := isS_ex hs0
    simp only [deS_enS] at hp ⊢
    exact ⟨_, m99 ⟨r_Epoch, r_Owner, r_Pair⟩ s ⟨m_Up, m_Life, m_Epoch, xs0, m_Said, m_Acked, m_AckLife⟩ hp⟩
  · cases h)
def T99 : Table := (99, c99) :: T87
theorem T99_sound : Table.Sound Go.Proofs.Try.prog Hx T99 := Table.sound_cons s99 T87_sound
/- specMinds -/
def o132 (r : Reg) (s : Int) (m : Minder) : Bool × List Row × List Row := (decide (m.Log.length ≤ 1048576), [[.bool (minds r s m)]], [])
def c132 : Contract
  | [[.int .i64 r_Epoch, .int .i64 r_Owner, .int .i64 r_Pair], [.int .i64 s], [.bool m_Up, .int .i64 m_Life, .int .i64 m_Epoch, .sl false 8 m_Log, .int .i64 m_Said, .int .i64 m_Acked, .int .i64 m_AckLife]] => some (isS In false m_Log && (o132 ⟨r_Epoch, r_Owner, r_Pair⟩ s ⟨m_Up, m_Life, m_Epoch, (deS In m_Log), m_Said, m_Acked, m_AckLife⟩).1, (o132 ⟨r_Epoch, r_Owner, r_Pair⟩ s ⟨m_Up, m_Life, m_Epoch, (deS In m_Log), m_Said, m_Acked, m_AckLife⟩).2.1, (o132 ⟨r_Epoch, r_Owner, r_Pair⟩ s ⟨m_Up, m_Life, m_Epoch, (deS In m_Log), m_Said, m_Acked, m_AckLife⟩).2.2)
  | _ => none

theorem r132 (r : Reg) (s : Int) (m : Minder) (n : Nat) : evFn ⟨Go.Proofs.Try.prog, Hx, 132⟩ T99.call n Go.Proofs.Try.f132 [[.int .i64 r.Epoch, .int .i64 r.Owner, .int .i64 r.Pair], [.int .i64 s], [.bool m.Up, .int .i64 m.Life, .int .i64 m.Epoch, .sl false 8 (enS false m.Log), .int .i64 m.Said, .int .i64 m.Acked, .int .i64 m.AckLife]] = bif regOk r then bif isS In false (enS false (Minder.Log m)) && decide (List.length (deS In (enS false (Minder.Log m))) ≤ 1048576) then bif minderOk (Minder.mk (Minder.Up m) (Minder.Life m) (Minder.Epoch m) (deS In (enS false (Minder.Log m))) (Minder.Said m) (Minder.Acked m) (Minder.AckLife m)) then bif Minder.Up m then bif s == Reg.Owner r then some ([[D.bool (Minder.Epoch m == Reg.Epoch r)]], []) else some ([[D.bool false]], []) else some ([[D.bool false]], []) else some ([[D.bool false]], []) else none else some ([[D.bool false]], []) := by kernel_rfl
theorem m132 (r : Reg) (s : Int) (m : Minder) (hpre : (o132 r s m).1 = true) : evFn ⟨Go.Proofs.Try.prog, Hx, 132⟩ T99.call 0 Go.Proofs.Try.f132 [[.int .i64 r.Epoch, .int .i64 r.Owner, .int .i64 r.Pair], [.int .i64 s], [.bool m.Up, .int .i64 m.Life, .int .i64 m.Epoch, .sl false 8 (enS false m.Log), .int .i64 m.Said, .int .i64 m.Acked, .int .i64 m.AckLife]] = some (o132 r s m).2 := by
  refine (r132 r s m _).trans ?_
  show _ = (some ([[.bool (minds r s m)]], []) : Option (List Row × List Row))
  replace hpre : (decide (m.Log.length ≤ 1048576)) = true := hpre
  unfold minds
  simp only [enS_length, toNat_of, dec_lt, dec_ge, decide_true, decide_false, cond_true, cond_false, Bool.and_self, Bool.and_true, Bool.true_and, Bool.not_true, Bool.not_false, Nat.lt_irrefl, Nat.zero_add, isS_enS, deS_enS, isS_nil, deS_nil, List.nil_append, lendRows_enS, deepRows_enS, noSl_u8, En.enc, List.getD_cons_zero, List.getD_cons_succ, D.num, D.flag, D.text, D.rows, Leaf.fit, List.append_eq, TReader.eta, Frame.eta, Heard.eta, Member.eta, Card.eta, Out1.eta, Vec.eta, Port.eta, Bridge.eta, In.eta, Out.eta, Link.eta, Net.eta, TEnd.eta, Minder.eta, Reg.eta, Wire.eta, Box.eta, Deed.eta, Bpdu.eta, Visit.eta, Fabric.eta, Got.eta, TRide.eta, Up.eta, Copy.eta, Bucket.eta, Snap.eta, TL9Cur.eta, TL21In.eta, hpre]
  simp only [cond_bool]
  apply bool_fin
  cases hr : regOk r
  · simp
  have hr' := hr
  unfold regOk inR at hr'
  simp only [Bool.and_eq_true, decide_eq_true_eq] at hr'
  simp only [Bool.cond_eq_ite]
  grind
theorem s132 : SoundAt Go.Proofs.Try.prog Hx 132 c132 := soundAt_of T99_sound mixed Go.Proofs.Try.func132 (by kernel_rfl) (by
  intro rows r h
  unfold c132 at h
  split at h
  · rename_i r_Epoch r_Owner r_Pair s m_Up m_Life m_Epoch m_Log m_Said m_Acked m_AckLife
    obtain ⟨hp, hr⟩ := Prod.mk.inj (Option.some.inj h)
    subst hr
    simp only [Bool.and_eq_true] at hp
    obtain ⟨hs0, hp⟩ := hp
    obtain ⟨xs0, rfl⟩ := isS_ex hs0
    simp only [deS_enS] at hp ⊢
    exact ⟨_, m132 ⟨r_Epoch, r_Owner, r_Pair⟩ s ⟨m_Up, m_Life, m_Epoch, xs0, m_Said, m_Acked, m_AckLife⟩ hp⟩
  · cases h)
def T132 : Table := (132, c132) :: T99
theorem T132_sound : Table.Sound Go.Proofs.Try.prog Hx T132 := Table.sound_cons s132 T99_sound
/- wireOk -/
def o97 (w : Wire) : Bool × List Row × List Row := (true, [[.bool (wireOk w)]], [])
def c97 : Contract
  | [[.int .i64 w_From, .bool w_Ack, .int .i64 w_Life, .int .i64 w_N, .int .i64 w_In_Kind, .int .i64 w_In_Port, .int .i64 w_In_Vec_Root, .int .i64 w_In_Vec_Cost, .int .i64 w_In_Vec_Bridge, .int .i64 w_In_Vec_Port, .int .i64 w_In_Hops, .bool w_In_Up]] => some ((o97 ⟨w_From, w_Ack, w_Life, w_N, ⟨w_In_Kind, w_In_Port, ⟨w_In_Vec_Root, w_In_Vec_Cost, w_In_Vec_Bridge, w_In_Vec_Port⟩, w_In_Hops, w_In_Up⟩⟩).1, (o97 ⟨w_From, w_Ack, w_Life, w_N, ⟨w_In_Kind, w_In_Port, ⟨w_In_Vec_Root, w_In_Vec_Cost, w_In_Vec_Bridge, w_In_Vec_Port⟩, w_In_Hops, w_In_Up⟩⟩).2.1, (o97 ⟨w_From, w_Ack, w_Life, w_N, ⟨w_In_Kind, w_In_Port, ⟨w_In_Vec_Root, w_In_Vec_Cost, w_In_Vec_Bridge, w_In_Vec_Port⟩, w_In_Hops, w_In_Up⟩⟩).2.2)
  | _ => none

theorem r97 (w : Wire) (n : Nat) : evFn ⟨Go.Proofs.Try.prog, Hx, 97⟩ T132.call n Go.Proofs.Try.f97 [[.int .i64 w.From, .bool w.Ack, .int .i64 w.Life, .int .i64 w.N, .int .i64 w.In.Kind, .int .i64 w.In.Port, .int .i64 w.In.Vec.Root, .int .i64 w.In.Vec.Cost, .int .i64 w.In.Vec.Bridge, .int .i64 w.In.Vec.Port, .int .i64 w.In.Hops, .bool w.In.Up]] = bif !isSideB (Wire.From w) then some ([[D.bool false]], []) else bif !isNumB (Wire.Life w) then some ([[D.bool false]], []) else bif !isNumB (Wire.N w) then some ([[D.bool false]], []) else bif Wire.Ack w then some ([[D.bool (In.Kind (Wire.In w) == 0 && (In.Port (Wire.In w) == 0 && (Vec.Root (In.Vec (Wire.In w)) == 0 && (Vec.Cost (In.Vec (Wire.In w)) == 0 && (Vec.Bridge (In.Vec (Wire.In w)) == 0 && (Vec.Port (In.Vec (Wire.In w)) == 0 && true))) && (In.Hops (Wire.In w) == 0 && (decide (In.Up (Wire.In w) = false) && true)))))]], []) else some ([[D.bool (inOk (Wire.In w))]], []) := by kernel_rfl
theorem m97 (w : Wire) (hpre : (o97 w).1 = true) : evFn ⟨Go.Proofs.Try.prog, Hx, 97⟩ T132.call 0 Go.Proofs.Try.f97 [[.int .i64 w.From, .bool w.Ack, .int .i64 w.Life, .int .i64 w.N, .int .i64 w.In.Kind, .int .i64 w.In.Port, .int .i64 w.In.Vec.Root, .int .i64 w.In.Vec.Cost, .int .i64 w.In.Vec.Bridge, .int .i64 w.In.Vec.Port, .int .i64 w.In.Hops, .bool w.In.Up]] = some (o97 w).2 := by
  refine (r97 w _).trans ?_
  show _ = (some ([[.bool (wireOk w)]], []) : Option (List Row × List Row))
  replace hpre : (true) = true := hpre
  unfold wireOk in0 vec0
  simp only [cond_bool]
  apply bool_fin
  simp only [Bool.cond_eq_ite]
  grind
theorem s97 : SoundAt Go.Proofs.Try.prog Hx 97 c97 := soundAt_of T132_sound mixed Go.Proofs.Try.func97 (by kernel_rfl) (by
  intro rows r h
  unfold c97 at h
  split at h
  · rename_i w_From w_Ack w_Life w_N w_In_Kind w_In_Port w_In_Vec_Root w_In_Vec_Cost w_In_Vec_Bridge w_In_Vec_Port w_In_Hops w_In_Up
    obtain ⟨hp, hr⟩ := Prod.mk.inj (Option.some.inj h)
    subst hr
    exact ⟨_, m97 ⟨w_From, w_Ack, w_Life, w_N, ⟨w_In_Kind, w_In_Port, ⟨w_In_Vec_Root, w_In_Vec_Cost, w_In_Vec_Bridge, w_In_Vec_Port⟩, w_In_Hops, w_In_Up⟩⟩ hp⟩
  · cases h)
def T97 : Table := (97, c97) :: T132
theorem T97_sound : Table.Sound Go.Proofs.Try.prog Hx T97 := Table.sound_cons s97 T132_sound
end Go.Ev
end
