/- Contracts of functions, each by its evaluation. -/
import Derived.Test.YtkkpblhaeliofaaEvMd
import Derived.Test.YtkkpblhaeliofaaProg
import Derived.KernelRfl
import Derived.Test.YtkkpblhaeliofaaFRd
set_option linter.unusedVariables false
set_option linter.unusedSimpArgs false
set_option maxRecDepth 100000
noncomputable section
open List (getD length drop take set append replicate all isEmpty)
open Int (toNat ofNat)
open Go.IntKind (i64 wrap)
open Go.Proofs.Try (prog f18 f34 f76 f86 func18 func34 func76 func86)
namespace Go.Ev
open Go.RowKit Go.Md
end Go.Ev
namespace Go.Md
open Go Go.Ev
def bnOk (id ports : Int) : Bool := inR id 1 9 && inR ports 1 4
def port0 : Port := ⟨false, false, ⟨0, 0, 0, 0⟩, 0, 0, 0, 0, false⟩
def bridgeNew (id ports : Int) : Bridge := bif bnOk id ports then ⟨id, List.replicate ports.toNat port0⟩ else ⟨0, []⟩
theorem port0_ok : portOk port0 = true := rfl
theorem bridgeOk_rep (id : Int) (k : Nat) : bridgeOk ⟨id, List.replicate k port0⟩ = (inR id 1 9 && inR (k : Int) 1 4) := by
  unfold bridgeOk
  have : (List.replicate k port0).all portOk = true := by
    rw [List.all_eq_true]
    intro x hx
    rw [List.eq_of_mem_replicate hx]
    exact port0_ok
  simp only [this, List.length_replicate, Bool.true_and]
theorem in_b {x a b : Int} (h : inR x a b = true) : a ≤ x ∧ x ≤ b := by
  unfold inR at h
  simp only [Bool.and_eq_true, decide_eq_true_eq] at h
  exact h
end Go.Md
namespace Go.Ev
open Go.Md
def o18 (id : Int) (ports : Int) : Bool × List Row × List Row := (true, [[.int .i64 (bridgeNew id ports).Id, .sl true 11 (enS true (bridgeNew id ports).Ports)], [.bool (bnOk id ports)]], [])
def c18 : Contract
  | [[.int .i64 id], [.int .i64 ports]] => some ((o18 id ports).1, (o18 id ports).2.1, (o18 id ports).2.2)
  | _ => none

theorem r18 (id : Int) (ports : Int) (n : Nat) : evFn ⟨prog, Hx, 18⟩ T26.call n f18 [[.int .i64 id], [.int .i64 ports]] = bif !inR id (1) (9) then some ([[D.int i64 (0), D.sl true 11 []], [D.bool false]], []) else bif !inR ports (1) (4) then some ([[D.int i64 (0), D.sl true 11 []], [D.bool false]], []) else bif decide (0 ≤ ports) && (decide (ports ≤ ports) && decide (toNat ports * 80 ≤ 140737488355328)) then some ([[D.int i64 id, D.sl true 11 (replicate (toNat ports) [D.bool false, D.bool false, D.int i64 (0), D.int i64 (0), D.int i64 (0), D.int i64 (0), D.int i64 (0), D.int i64 (0), D.int i64 (0), D.int i64 (0), D.bool false])], [D.bool true]], []) else none := by kernel_rfl
theorem m18 (id : Int) (ports : Int) (hpre : (o18 id ports).1 = true) : evFn ⟨Go.Proofs.Try.prog, Hx, 18⟩ T26.call 0 f18 [[.int .i64 id], [.int .i64 ports]] = some (o18 id ports).2 := by
  refine (r18 id ports _).trans ?_
  show _ = (some ([[.int .i64 (bridgeNew id ports).Id, .sl true 11 (enS true (bridgeNew id ports).Ports)], [.bool (bnOk id ports)]], []) : Option (List Row × List Row))
  replace hpre : (true) = true := hpre
  unfold bridgeNew bnOk
  cases h1 : inR id 1 9
  · rfl
  cases h2 : inR ports 1 4
  · rfl
  have hb := in_b h2
  have e : (decide (0 ≤ ports) && (decide (ports ≤ ports) && decide (Int.toNat ports * 80 ≤ 140737488355328))) = true := by
    simp only [Bool.and_eq_true, decide_eq_true_eq]
    omega
  simp only [e, Bool.not_true, Bool.and_true, cond_true, cond_false]
  exact congrArg (fun r => (some ([[D.int .i64 id, D.sl true 11 r], [D.bool true]], []) : Option (List Row × List Row))) (enS_rep true ports.toNat port0)
theorem s18 : SoundAt Go.Proofs.Try.prog Hx 18 c18 := soundAt_of T26_sound mixed func18 (by kernel_rfl) (by
  intro rows r h
  unfold c18 at h
  split at h
  · rename_i id ports
    obtain ⟨hp, hr⟩ := Prod.mk.inj (Option.some.inj h)
    subst hr
    exact ⟨_, m18 id ports hp⟩
  · cases h)
def T18 : Table := (18, c18) :: T26
theorem T18_sound : Table.Sound Go.Proofs.Try.prog Hx T18 := Table.sound_cons s18 T26_sound
def o34 (id : Int) (ports : Int) : Bool × List Row × List Row := (true, [[.int .i64 (bridgeNew id ports).Id, .sl true 11 (enS true (bridgeNew id ports).Ports)], [.bool (bnOk id ports)]], [])
def c34 : Contract
  | [[.int .i64 id], [.int .i64 ports]] => some ((o34 id ports).1, (o34 id ports).2.1, (o34 id ports).2.2)
  | _ => none

def k34_0 (n : Nat) : Ex → St → RR := kThen (fun st ↦ runCode (Ctx.mk prog Hx (34)) (Table.call T18) n (codeAt [1, 1, 1] (bodyOf f34)) (Lv.mk 48 [] 48) st (kLeave (Ctx.P (Ctx.mk prog Hx (34))) (List.zip (Array.toList (Go.Func.resultTypes f34)) (Array.toList (Go.Func.results f34))) [] [])) (kLeave (Ctx.P (Ctx.mk prog Hx (34))) (List.zip (Array.toList (Go.Func.resultTypes f34)) (Array.toList (Go.Func.results f34))) [] [])
def k34_1 (n : Nat) : Ex → St → RR := kBlock (0) (k34_0 n)
def S34_0 (id : Int) (ports : Int) (i0 : Int) (es1 : List (List D)) : St := St.mk (U_ :: I_ ports :: U_ :: U_ :: V_ [C.ptr 0 0 0 [] 2 0 0] :: U_ :: V_ [C.ptr 1 0 0 [] 2 0 0] :: I_ i0 :: u_ 19 []) [Root.mk true 2 [[D.int i64 (0), D.sl true 11 []]] 0 0 true true false, Root.mk true 2 [[D.int i64 id, D.sl true 11 es1]] 0 0 true true false]
def B34_0 (n : Nat) : St → (Ex → St → RR) → RR := runCode (Ctx.mk prog Hx (34)) (Table.call T18) n (codeAt [1, 1, 0, 1, 0, 0] (bodyOf f34)) (Lv.mk 210 [(0, 80)] 48)
def X34_2 (id : Int) (es1 : List (List D)) : St := St.mk (u_ 4 (V_ [C.ptr 0 0 0 [] 2 0 0] :: U_ :: V_ [C.ptr 1 0 0 [] 2 0 0] :: u_ 20 [])) [Root.mk true 2 [[D.int i64 (0), D.sl true 11 []]] 0 0 true true false, Root.mk true 2 [[D.int i64 id, D.sl true 11 es1]] 0 0 true true false]
theorem q34_0 (id : Int) (ports : Int) (n : Nat) (i0 : Int) (es1 : List (List D)) (f : St → RR) (K : Ex → St → RR) : B34_0 n (S34_0 id ports i0 es1) (kThen (fun st ↦ f (St.head 2 210 4193408 st)) K) = bif decide (i0 < if ports < 5 then ports else 5) then bif decide ((length es1 + 1) * 80 ≤ 140737488355328) then f (S34_0 id ports (wrap i64 (i0 + 1)) (append es1 [[D.bool false, D.bool false, D.int i64 (0), D.int i64 (0), D.int i64 (0), D.int i64 (0), D.int i64 (0), D.int i64 (0), D.int i64 (0), D.int i64 (0), D.bool false]])) else none else K (Ex.exit 0) (X34_2 id es1) := by kernel_rfl
theorem aX34_2 (id : Int) (n : Nat) (es1 : List (List D)) : k34_1 n (Ex.exit 0) (X34_2 id es1) = bif isS Port false (lendRows es1) && decide (length (deS Port (lendRows es1)) ≤ 1048576) then bif !bridgeOk (Bridge.mk id (deS Port (lendRows es1))) then some ([[D.int i64 (0), D.sl true 11 []], [D.bool false]], []) else some ([[D.int i64 id, D.sl true 11 es1], [D.bool true]], []) else none := by kernel_rfl
theorem r34 (id : Int) (ports : Int) (n : Nat) : evFn ⟨prog, Hx, 34⟩ T18.call n f34 [[.int .i64 id], [.int .i64 ports]] = loopRun (B34_0 n) 2 210 4193408 n (S34_0 id ports (0) []) (k34_1 n) := by kernel_rfl
theorem m34 (id : Int) (ports : Int) (hpre : (o34 id ports).1 = true) : evFn ⟨Go.Proofs.Try.prog, Hx, 34⟩ T18.call 6 f34 [[.int .i64 id], [.int .i64 ports]] = some (o34 id ports).2 := by
  refine (r34 id ports _).trans ?_
  show _ = (some ([[.int .i64 (bridgeNew id ports).Id, .sl true 11 (enS true (bridgeNew id ports).Ports)], [.bool (bnOk id ports)]], []) : Option (List Row × List Row))
  replace hpre : (true) = true := hpre
  have h0 : ∃ n : Nat, (if ports < 5 then ports else 5).toNat = n := ⟨_, rfl⟩
  obtain ⟨n, hn⟩ := h0
  have hn5 : n ≤ 5 := by rw [← hn]; split <;> omega
  have hni : ∀ i : Nat, decide (Int.ofNat i < if ports < 5 then ports else 5) = decide (i < n) := by
    intro i
    rw [Bool.eq_iff_iff, decide_eq_true_eq, decide_eq_true_eq]
    show (i : Int) < _ ↔ _
    rw [← hn]
    split <;> omega
  have hin : inR (n : Int) 1 4 = inR ports 1 4 := by
    unfold inR
    rw [Bool.eq_iff_iff]
    simp only [Bool.and_eq_true, decide_eq_true_eq]
    rw [← hn]
    split <;> omega
  refine loop_upto (fun i (_ : Unit) => S34_0 id ports (Int.ofNat i) (enS true (List.replicate i port0))) (fun _ _ => True) (fun _ _ _ => some ([[D.int .i64 (bridgeNew id ports).Id, D.sl true 11 (enS true (bridgeNew id ports).Ports)], [D.bool (bnOk id ports)]], [])) n ?_ ?_ 6 () (by omega) trivial
  · rintro _ _ f
    refine (q34_0 id ports _ _ _ f _).trans ?_
    rw [hni, decide_eq_false (Nat.lt_irrefl n), cond_false]
    refine (aX34_2 _ _ _).trans ?_
    have hd : decide (n ≤ 1048576) = true := decide_eq_true (by omega)
    simp only [lendRows_enS, isS_enS, deS_enS, List.length_replicate, hd, bridgeOk_rep, hin, Bool.true_and, cond_true]
    unfold bridgeNew bnOk
    cases h1 : inR id 1 9
    · rfl
    cases h2 : inR ports 1 4
    · rfl
    have hb := in_b h2
    have e : n = ports.toNat := by
      rw [← hn]
      split <;> omega
    rw [e]
    rfl
  · rintro k i _ hk _ f hf
    refine (q34_0 id ports _ _ _ f _).trans ?_
    rw [hni, decide_eq_true (show i < n by omega), cond_true]
    have h2 : decide ((List.length (enS true (List.replicate i port0)) + 1) * 80 ≤ 140737488355328) = true := decide_eq_true (by rw [enS_length, List.length_replicate]; omega)
    rw [h2, cond_true, wrap_succ (show i < 4611686018427387904 by omega)]
    refine (congrArg f (congrArg (S34_0 id ports _) ?_)).trans (hf () trivial)
    refine (enS_snoc true _ port0).trans ?_
    rw [← List.replicate_succ']
theorem s34 : SoundAt Go.Proofs.Try.prog Hx 34 c34 := soundAt_of T18_sound mixed func34 (by kernel_rfl) (by
  intro rows r h
  unfold c34 at h
  split at h
  · rename_i id ports
    obtain ⟨hp, hr⟩ := Prod.mk.inj (Option.some.inj h)
    subst hr
    exact ⟨_, m34 id ports hp⟩
  · cases h)
def T34 : Table := (34, c34) :: T18
theorem T34_sound : Table.Sound Go.Proofs.Try.prog Hx T34 := Table.sound_cons s34 T18_sound
end Go.Ev
namespace Go.Md
open Go Go.Ev
def vec0 (v : Vec) : Bool := v.Root == 0 && (v.Cost == 0 && (v.Bridge == 0 && v.Port == 0))
def in0 (x : In) : Bool := x.Kind == 0 && (x.Port == 0 && (vec0 x.Vec && (x.Hops == 0 && !x.Up)))
def inOk (x : In) : Bool := bif x.Kind == 1 then isPortB x.Port && (vecOk x.Vec && (isHopsB x.Hops && !x.Up)) else bif x.Kind == 3 then isPortB x.Port && (vec0 x.Vec && x.Hops == 0) else x.Kind == 2 && (x.Port == 0 && (vec0 x.Vec && (x.Hops == 0 && !x.Up)))
def isNumB (n : Int) : Bool := inR n 0 100000
def isSideB (s : Int) : Bool := s == 0 || s == 1
theorem side_in (s : Int) : inR s 0 1 = isSideB s := by
  unfold inR isSideB
  rw [Bool.eq_iff_iff]
  simp
  omega
def logOkB (l : List In) : Bool := l.all inOk && decide (l.length ≤ 60)
def minderOk (m : Minder) : Bool := isNumB m.Life && (isNumB m.Epoch && (isNumB m.AckLife && (logOkB m.Log && (inR m.Said 0 (m.Log.length : Int) && (inR m.Acked 0 (m.Log.length : Int) && (m.Up || (m.Epoch == 0 && (decide (m.Log.length = 0) && m.AckLife == 0))))))))
def regOk (r : Reg) : Bool := inR r.Epoch 1 100000 && (isSideB r.Owner && isNumB r.Pair)
def minds (r : Reg) (s : Int) (m : Minder) : Bool := regOk r && (minderOk m && (m.Up && (s == r.Owner && m.Epoch == r.Epoch)))
def wireOk (w : Wire) : Bool := isSideB w.From && (isNumB w.Life && (isNumB w.N && (bif w.Ack then in0 w.In else inOk w.In)))
theorem zero_len (n : Nat) : ((Int.ofNat n) == 0) = decide (n = 0) := by
  rw [Bool.eq_iff_iff]
  simp
end Go.Md
namespace Go.Ev
open Go.Md
def o76 (x : In) : Bool × List Row × List Row := (true, [[.bool (inOk x)]], [])
def c76 : Contract
  | [[.int .i64 x_Kind, .int .i64 x_Port, .int .i64 x_Vec_Root, .int .i64 x_Vec_Cost, .int .i64 x_Vec_Bridge, .int .i64 x_Vec_Port, .int .i64 x_Hops, .bool x_Up]] => some ((o76 ⟨x_Kind, x_Port, ⟨x_Vec_Root, x_Vec_Cost, x_Vec_Bridge, x_Vec_Port⟩, x_Hops, x_Up⟩).1, (o76 ⟨x_Kind, x_Port, ⟨x_Vec_Root, x_Vec_Cost, x_Vec_Bridge, x_Vec_Port⟩, x_Hops, x_Up⟩).2.1, (o76 ⟨x_Kind, x_Port, ⟨x_Vec_Root, x_Vec_Cost, x_Vec_Bridge, x_Vec_Port⟩, x_Hops, x_Up⟩).2.2)
  | _ => none

theorem r76 (x : In) (n : Nat) : evFn ⟨prog, Hx, 76⟩ T34.call n f76 [[.int .i64 x.Kind, .int .i64 x.Port, .int .i64 x.Vec.Root, .int .i64 x.Vec.Cost, .int .i64 x.Vec.Bridge, .int .i64 x.Vec.Port, .int .i64 x.Hops, .bool x.Up]] = bif In.Kind x == 1 then bif isPortB (In.Port x) then bif vecOk (In.Vec x) then bif isHopsB (In.Hops x) then some ([[D.bool !In.Up x]], []) else some ([[D.bool false]], []) else some ([[D.bool false]], []) else some ([[D.bool false]], []) else bif In.Kind x == 3 then bif isPortB (In.Port x) then bif Vec.Root (In.Vec x) == 0 && (Vec.Cost (In.Vec x) == 0 && (Vec.Bridge (In.Vec x) == 0 && (Vec.Port (In.Vec x) == 0 && true))) then some ([[D.bool (In.Hops x == 0)]], []) else some ([[D.bool false]], []) else some ([[D.bool false]], []) else some ([[D.bool (In.Kind x == 2 && (In.Port x == 0 && (Vec.Root (In.Vec x) == 0 && (Vec.Cost (In.Vec x) == 0 && (Vec.Bridge (In.Vec x) == 0 && (Vec.Port (In.Vec x) == 0 && true))) && (In.Hops x == 0 && (decide (In.Up x = false) && true)))))]], []) := by kernel_rfl
theorem m76 (x : In) (hpre : (o76 x).1 = true) : evFn ⟨Go.Proofs.Try.prog, Hx, 76⟩ T34.call 0 f76 [[.int .i64 x.Kind, .int .i64 x.Port, .int .i64 x.Vec.Root, .int .i64 x.Vec.Cost, .int .i64 x.Vec.Bridge, .int .i64 x.Vec.Port, .int .i64 x.Hops, .bool x.Up]] = some (o76 x).2 := by
  refine (r76 x _).trans ?_
  show _ = (some ([[.bool (inOk x)]], []) : Option (List Row × List Row))
  replace hpre : (true) = true := hpre
  unfold inOk vec0
  simp only [cond_bool]
  apply bool_fin
  simp only [Bool.cond_eq_ite]
  grind
theorem s76 : SoundAt Go.Proofs.Try.prog Hx 76 c76 := soundAt_of T34_sound mixed func76 (by kernel_rfl) (by
  intro rows r h
  unfold c76 at h
  split at h
  · rename_i x_Kind x_Port x_Vec_Root x_Vec_Cost x_Vec_Bridge x_Vec_Port x_Hops x_Up
    obtain ⟨hp, hr⟩ := Prod.mk.inj (Option.some.inj h)
    subst hr
    exact ⟨_, m76 ⟨x_Kind, x_Port, ⟨x_Vec_Root, x_Vec_Cost, x_Vec_Bridge, x_Vec_Port⟩, x_Hops, x_Up⟩ hp⟩
  · cases h)
def T76 : Table := (76, c76) :: T34
theorem T76_sound : Table.Sound Go.Proofs.Try.prog Hx T76 := Table.sound_cons s76 T34_sound
def o86 (x : In) : Bool × List Row × List Row := (true, [[.bool (inOk x)]], [])
def c86 : Contract
  | [[.int .i64 x_Kind, .int .i64 x_Port, .int .i64 x_Vec_Root, .int .i64 x_Vec_Cost, .int .i64 x_Vec_Bridge, .int .i64 x_Vec_Port, .int .i64 x_Hops, .bool x_Up]] => some ((o86 ⟨x_Kind, x_Port, ⟨x_Vec_Root, x_Vec_Cost, x_Vec_Bridge, x_Vec_Port⟩, x_Hops, x_Up⟩).1, (o86 ⟨x_Kind, x_Port, ⟨x_Vec_Root, x_Vec_Cost, x_Vec_Bridge, x_Vec_Port⟩, x_Hops, x_Up⟩).2.1, (o86 ⟨x_Kind, x_Port, ⟨x_Vec_Root, x_Vec_Cost, x_Vec_Bridge, x_Vec_Port⟩, x_Hops, x_Up⟩).2.2)
  | _ => none

theorem r86 (x : In) (n : Nat) : evFn ⟨prog, Hx, 86⟩ T76.call n f86 [[.int .i64 x.Kind, .int .i64 x.Port, .int .i64 x.Vec.Root, .int .i64 x.Vec.Cost, .int .i64 x.Vec.Bridge, .int .i64 x.Vec.Port, .int .i64 x.Hops, .bool x.Up]] = bif In.Kind x == 1 then bif inR (In.Port x) (0) (3) then bif vecOk (In.Vec x) then bif inR (In.Hops x) (0) (8) then some ([[D.bool !In.Up x]], []) else some ([[D.bool false]], []) else some ([[D.bool false]], []) else some ([[D.bool false]], []) else bif In.Kind x == 3 then bif inR (In.Port x) (0) (3) then bif Vec.Root (In.Vec x) == 0 && (Vec.Cost (In.Vec x) == 0 && (Vec.Bridge (In.Vec x) == 0 && (Vec.Port (In.Vec x) == 0 && true))) then some ([[D.bool (In.Hops x == 0)]], []) else some ([[D.bool false]], []) else some ([[D.bool false]], []) else bif In.Kind x == 2 then some ([[D.bool (In.Kind x == 2 && (In.Port x == 0 && (Vec.Root (In.Vec x) == 0 && (Vec.Cost (In.Vec x) == 0 && (Vec.Bridge (In.Vec x) == 0 && (Vec.Port (In.Vec x) == 0 && true))) && (In.Hops x == 0 && (decide (In.Up x = false) && true)))))]], []) else some ([[D.bool false]], []) := by kernel_rfl
theorem m86 (x : In) (hpre : (o86 x).1 = true) : evFn ⟨Go.Proofs.Try.prog, Hx, 86⟩ T76.call 0 f86 [[.int .i64 x.Kind, .int .i64 x.Port, .int .i64 x.Vec.Root, .int .i64 x.Vec.Cost, .int .i64 x.Vec.Bridge, .int .i64 x.Vec.Port, .int .i64 x.Hops, .bool x.Up]] = some (o86 x).2 := by
  refine (r86 x _).trans ?_
  show _ = (some ([[.bool (inOk x)]], []) : Option (List Row × List Row))
  replace hpre : (true) = true := hpre
  unfold inOk vec0 isPortB isHopsB
  simp only [cond_bool]
  apply bool_fin
  simp only [Bool.cond_eq_ite]
  grind
theorem s86 : SoundAt Go.Proofs.Try.prog Hx 86 c86 := soundAt_of T76_sound mixed func86 (by kernel_rfl) (by
  intro rows r h
  unfold c86 at h
  split at h
  · rename_i x_Kind x_Port x_Vec_Root x_Vec_Cost x_Vec_Bridge x_Vec_Port x_Hops x_Up
    obtain ⟨hp, hr⟩ := Prod.mk.inj (Option.some.inj h)
    subst hr
    exact ⟨_, m86 ⟨x_Kind, x_Port, ⟨x_Vec_Root, x_Vec_Cost, x_Vec_Bridge, x_Vec_Port⟩, x_Hops, x_Up⟩ hp⟩
  · cases h)
def T86 : Table := (86, c86) :: T76
theorem T86_sound : Table.Sound Go.Proofs.Try.prog Hx T86 := Table.sound_cons s86 T76_sound
end Go.Ev
end
