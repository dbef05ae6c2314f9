/- Contracts of functions, each by its evaluation. -/
import Derived.Test.YtkkpblhaeliofaaEvMd
import Derived.Test.YtkkpblhaeliofaaProg
import Derived.KernelRfl
import Derived.Test.YtkkpblhaeliofaaFReact2
set_option linter.unusedVariables false
set_option linter.unusedSimpArgs false
set_option maxRecDepth 100000
noncomputable section
open List (getD length drop take set append replicate all isEmpty)
open Int (toNat ofNat)
open Go.IntKind (i64 wrap)
open Go.Proofs.Try (prog f20 f36 f7 f9 func20 func36 func7 func9)
namespace Go.Ev
open Go.RowKit Go.Md
end Go.Ev
namespace Go.Md
open Go Go.Ev
def runB (b : Bridge) (l : List In) : Bridge := l.foldl reactB b
theorem reactB_len (b : Bridge) (x : In) : (reactB b x).Ports.length = b.Ports.length := by
  unfold reactB
  cases canB b x
  · rfl
  · exact new_len b x
theorem runB_len : ∀ (l : List In) (b : Bridge), (runB b l).Ports.length = b.Ports.length
  | [], _ => rfl
  | x :: xs, b => by
    show (runB (reactB b x) xs).Ports.length = _
    rw [runB_len xs, reactB_len]
theorem runB_cons (b : Bridge) (x : In) (xs : List In) : runB b (x :: xs) = runB (reactB b x) xs := rfl
theorem runB_no {b : Bridge} (h : bridgeOk b = false) : ∀ l : List In, runB b l = b
  | [] => rfl
  | x :: xs => by
    have : reactB b x = b := by
      unfold reactB canB
      rw [h, Bool.and_false, Bool.and_false]
      rfl
    rw [runB_cons, this]
    exact runB_no h xs
theorem runB_ok {b : Bridge} (h : bridgeOk b = true) : ∀ l : List In, bridgeOk (runB b l) = true := by
  intro l
  induction l generalizing b with
  | nil => exact h
  | cons x xs ih => exact ih (react_ok h x)
theorem runB_app (b : Bridge) (l m : List In) : runB b (l ++ m) = runB (runB b l) m := by
  unfold runB
  rw [List.foldl_append]
theorem new_four (id ports : Int) : (bridgeNew id ports).Ports.length ≤ 4 := by
  unfold bridgeNew bnOk
  cases h : inR id 1 9 && inR ports 1 4
  · exact Nat.zero_le _
  · rw [Bool.and_eq_true] at h
    have := in_b h.2
    show (List.replicate ports.toNat port0).length ≤ 4
    rw [List.length_replicate]
    omega
theorem new_isok {id ports : Int} (h : bnOk id ports = true) : bridgeOk (bridgeNew id ports) = true := by
  have h' := h
  unfold bnOk at h'
  rw [Bool.and_eq_true] at h'
  have h2 := in_b h'.2
  unfold bridgeNew
  rw [h, cond_true, bridgeOk_rep, h'.1, show ((ports.toNat : Nat) : Int) = ports by omega, h'.2]
  rfl
theorem new_nok {id ports : Int} (h : bnOk id ports = false) : bridgeNew id ports = ⟨0, []⟩ := by
  unfold bridgeNew
  rw [h]
  rfl
theorem new_none (l : List In) : runB ⟨0, []⟩ l = ⟨0, []⟩ := runB_no rfl l
def snapOk (id ports : Int) (l : List In) (n : Int) : Bool := bnOk id ports && inR n 0 (l.length : Int)
def snapM (id ports : Int) (l : List In) (n : Int) : Snap := bif snapOk id ports l n then ⟨n, bridgeBs (runB (bridgeNew id ports) (l.take n.toNat))⟩ else ⟨0, []⟩
def outSn (s : Snap) (o : Bool) : Go.Ev.RR := some ([[D.int .i64 s.N, D.sl true 1 (Go.Ev.enS true s.Bytes)], [D.bool o]], [])
theorem snap_no {id ports : Int} {l : List In} {n : Int} (h : snapOk id ports l n = false) : outSn (snapM id ports l n) (snapOk id ports l n) = outSn ⟨0, []⟩ false := by unfold snapM; rw [h]; rfl
theorem snap_yes {id ports : Int} {l : List In} {n : Int} (h : snapOk id ports l n = true) : outSn (snapM id ports l n) (snapOk id ports l n) = outSn ⟨n, bridgeBs (runB (bridgeNew id ports) (l.take n.toNat))⟩ true := by unfold snapM; rw [h]; rfl
def outBr1 (c : Bridge) : Go.Ev.RR := some ([[D.int .i64 c.Id, D.sl true 11 (Go.Ev.enS true c.Ports)]], [])
end Go.Md
namespace Go.Ev
open Go.Md
def o20 (id : Int) (ports : Int) (log : List In) : Bool × List Row × List Row := (decide (log.length ≤ 1048576), [[.int .i64 (runB (bridgeNew id ports) log).Id, .sl true 11 (enS true (runB (bridgeNew id ports) log).Ports)]], [])
def c20 : Contract
  | [[.int .i64 id], [.int .i64 ports], [.sl false 8 log]] => some (isS In false log && (o20 id ports (deS In log)).1, (o20 id ports (deS In log)).2.1, (o20 id ports (deS In log)).2.2)
  | _ => none

def k20_0 (n : Nat) : Ex → St → RR := kThen (fun st ↦ runCode (Ctx.mk prog Hx (20)) (Table.call T61) n (codeAt [1, 1, 1, 1] (bodyOf f20)) (Lv.mk 64 [] 64) st (kLeave (Ctx.P (Ctx.mk prog Hx (20))) (List.zip (Array.toList (Go.Func.resultTypes f20)) (Array.toList (Go.Func.results f20))) [] [])) (kLeave (Ctx.P (Ctx.mk prog Hx (20))) (List.zip (Array.toList (Go.Func.resultTypes f20)) (Array.toList (Go.Func.results f20))) [] [])
def k20_1 (n : Nat) : Ex → St → RR := kBlock (0) (k20_0 n)
def S20_0 (id : Int) (ports : Int) (log : List In) (i0 : Int) (i1 : Int) (es2 : List (List D)) : St := St.mk (u_ 6 (V_ [C.ptr 0 0 0 [] 2 0 0] :: V_ [C.ptr 2 0 0 [] 2 0 0] :: u_ 12 (V_ [C.d (D.sl false 8 (enS false log))] :: I_ (ofNat (length (enS false log))) :: I_ i0 :: u_ 11 []))) [Root.mk true 2 [[D.int i64 (0), D.sl true 11 []]] 0 0 true true false, Root.mk false 11 (enS true (Bridge.Ports (bridgeNew id ports))) 0 0 false true false, Root.mk true 2 [[D.int i64 i1, D.sl true 11 es2]] 0 0 true true false]
def B20_0 (n : Nat) : St → (Ex → St → RR) → RR := runCode (Ctx.mk prog Hx (20)) (Table.call T61) n (codeAt [1, 1, 1, 0, 1, 0, 0] (bodyOf f20)) (Lv.mk 7340224 [(0, 192)] 64)
def X20_2 (id : Int) (ports : Int) (i1 : Int) (es2 : List (List D)) : St := St.mk (u_ 6 (V_ [C.ptr 0 0 0 [] 2 0 0] :: V_ [C.ptr 2 0 0 [] 2 0 0] :: u_ 26 [])) [Root.mk true 2 [[D.int i64 (0), D.sl true 11 []]] 0 0 true true false, Root.mk false 11 (enS true (Bridge.Ports (bridgeNew id ports))) 0 0 false true false, Root.mk true 2 [[D.int i64 i1, D.sl true 11 es2]] 0 0 true true false]
theorem q20_0 (id : Int) (ports : Int) (log : List In) (n : Nat) (i0 : Int) (i1 : Int) (es2 : List (List D)) (f : St → RR) (K : Ex → St → RR) : B20_0 n (S20_0 id ports log i0 i1 es2) (kThen (fun st ↦ f (St.head 3 7340224 8585741312 st)) K) = bif decide (i0 < ofNat (length (enS false log))) then bif decide (0 ≤ i0) && decide (i0 < ofNat (length (enS false log))) then bif Leaf.fit false (Leaf.int i64) (getD (getD (enS false log) (toNat i0) []) 0 D.dead) && (Leaf.fit false (Leaf.int i64) (getD (getD (enS false log) (toNat i0) []) 1 D.dead) && (Leaf.fit false (Leaf.int i64) (getD (getD (enS false log) (toNat i0) []) 2 D.dead) && (Leaf.fit false (Leaf.int i64) (getD (getD (enS false log) (toNat i0) []) 3 D.dead) && (Leaf.fit false (Leaf.int i64) (getD (getD (enS false log) (toNat i0) []) 4 D.dead) && (Leaf.fit false (Leaf.int i64) (getD (getD (enS false log) (toNat i0) []) 5 D.dead) && (Leaf.fit false (Leaf.int i64) (getD (getD (enS false log) (toNat i0) []) 6 D.dead) && (Leaf.fit false Leaf.bool (getD (getD (enS false log) (toNat i0) []) 7 D.dead) && true))))))) then bif isS Port false (lendRows es2) && decide (length (deS Port (lendRows es2)) ≤ 1048576) then bif deepRows (enS true (Bridge.Ports (reactB (Bridge.mk i1 (deS Port (lendRows es2))) (En.dec (getD (enS false log) (toNat i0) []))))) && true && (deepRows (enS true (reactO (Bridge.mk i1 (deS Port (lendRows es2))) (En.dec (getD (enS false log) (toNat i0) [])))) && true && true) && true && true then f (S20_0 id ports log (wrap i64 (i0 + 1)) (Bridge.Id (reactB (Bridge.mk i1 (deS Port (lendRows es2))) (En.dec (getD (enS false log) (toNat i0) [])))) (enS true (Bridge.Ports (reactB (Bridge.mk i1 (deS Port (lendRows es2))) (En.dec (getD (enS false log) (toNat i0) [])))))) else none else none else none else none else K (Ex.exit 0) (X20_2 id ports i1 es2) := by kernel_rfl
theorem aX20_2 (id : Int) (ports : Int) (n : Nat) (i1 : Int) (es2 : List (List D)) : k20_1 n (Ex.exit 0) (X20_2 id ports i1 es2) = some ([[D.int i64 i1, D.sl true 11 es2]], []) := by kernel_rfl
theorem r20 (id : Int) (ports : Int) (log : List In) (n : Nat) : evFn ⟨prog, Hx, 20⟩ T61.call n f20 [[.int .i64 id], [.int .i64 ports], [.sl false 8 (enS false log)]] = bif !bnOk id ports then some ([[D.int i64 (0), D.sl true 11 []]], []) else loopRun (B20_0 n) 3 7340224 8585741312 n (S20_0 id ports log (0) (Bridge.Id (bridgeNew id ports)) (enS true (Bridge.Ports (bridgeNew id ports)))) (k20_1 n) := by kernel_rfl
theorem m20 (id : Int) (ports : Int) (log : List In) (hpre : (o20 id ports log).1 = true) : evFn ⟨Go.Proofs.Try.prog, Hx, 20⟩ T61.call (log.length + 1) f20 [[.int .i64 id], [.int .i64 ports], [.sl false 8 (enS false log)]] = some (o20 id ports log).2 := by
  refine (r20 id ports log _).trans ?_
  show _ = (some ([[.int .i64 (runB (bridgeNew id ports) log).Id, .sl true 11 (enS true (runB (bridgeNew id ports) log).Ports)]], []) : Option (List Row × List Row))
  replace hpre : (decide (log.length ≤ 1048576)) = true := hpre
  have hll := of_decide_eq_true hpre
  show _ = outBr1 (runB (bridgeNew id ports) log)
  cases hb : bnOk id ports
  · rw [new_nok hb, new_none]
    rfl
  refine bif_f rfl ?_
  refine loop_list (xs := log) (fun i (b : Bridge) => S20_0 id ports log (Int.ofNat i) b.Id (enS true b.Ports)) (fun _ b => b.Ports.length ≤ 4) (fun _ b rest => outBr1 (runB b rest)) ?_ ?_ (log.length + 1) (bridgeNew id ports) (by omega) (new_four id ports)
  · rintro b _ f
    refine (q20_0 id ports log _ _ _ _ f _).trans ?_
    rw [end_lt, cond_false]
    exact aX20_2 _ _ _ _ _
  · rintro i b hi hbl f hf
    have hbd : decide (b.Ports.length ≤ 1048576) = true := decide_eq_true (by omega)
    refine (q20_0 id ports log _ _ _ _ f _).trans ?_
    simp only [enS_length, toNat_of, dec_lt, dec_ge, hi, decide_true, cond_true, Bool.and_self, Bool.and_true, Nat.zero_add, wrap_succ (show i < 4611686018427387904 by omega), enS_get false hi, En.dec_enc, lendRows_enS, isS_enS, deS_enS, deepRows_enS, Bridge.eta, hbd]
    refine bif_t rfl ?_
    exact hf (reactB b log[i]) (by rw [reactB_len]; exact hbl)
theorem s20 : SoundAt Go.Proofs.Try.prog Hx 20 c20 := soundAt_of T61_sound mixed func20 (by kernel_rfl) (by
  intro rows r h
  unfold c20 at h
  split at h
  · rename_i id ports log
    obtain ⟨hp, hr⟩ := Prod.mk.inj (Option.some.inj h)
    subst hr
    simp only [Bool.and_eq_true] at hp
    obtain ⟨hs0, hp⟩ := hp
    obtain ⟨xs0, rfl⟩ := isS_ex hs0
    simp only [deS_enS] at hp ⊢
    exact ⟨_, m20 id ports xs0 hp⟩
  · cases h)
def T20 : Table := (20, c20) :: T61
theorem T20_sound : Table.Sound Go.Proofs.Try.prog Hx T20 := Table.sound_cons s20 T61_sound
def o36 (id : Int) (ports : Int) (log : List In) : Bool × List Row × List Row := (decide (log.length ≤ 1048576), [[.int .i64 (runB (bridgeNew id ports) log).Id, .sl true 11 (enS true (runB (bridgeNew id ports) log).Ports)]], [])
def c36 : Contract
  | [[.int .i64 id], [.int .i64 ports], [.sl false 8 log]] => some (isS In false log && (o36 id ports (deS In log)).1, (o36 id ports (deS In log)).2.1, (o36 id ports (deS In log)).2.2)
  | _ => none

def k36_0 (n : Nat) : Ex → St → RR := kThen (fun st ↦ runCode (Ctx.mk prog Hx (36)) (Table.call T20) n (codeAt [1, 1, 1] (bodyOf f36)) (Lv.mk 64 [] 64) st (kLeave (Ctx.P (Ctx.mk prog Hx (36))) (List.zip (Array.toList (Go.Func.resultTypes f36)) (Array.toList (Go.Func.results f36))) [] [])) (kLeave (Ctx.P (Ctx.mk prog Hx (36))) (List.zip (Array.toList (Go.Func.resultTypes f36)) (Array.toList (Go.Func.results f36))) [] [])
def k36_1 (n : Nat) : Ex → St → RR := kBlock (0) (k36_0 n)
def S36_0 (id : Int) (ports : Int) (log : List In) (i0 : Int) (i1 : Int) (es2 : List (List D)) : St := St.mk (U_ :: U_ :: V_ [C.d (D.sl false 8 (enS false log))] :: U_ :: U_ :: U_ :: V_ [C.ptr 0 0 0 [] 2 0 0] :: V_ [C.ptr 2 0 0 [] 2 0 0] :: U_ :: I_ i0 :: u_ 22 []) [Root.mk true 2 [[D.int i64 (0), D.sl true 11 []]] 0 0 true true false, Root.mk false 11 (enS true (Bridge.Ports (bridgeNew id ports))) 0 0 false true false, Root.mk true 2 [[D.int i64 i1, D.sl true 11 es2]] 0 0 true true false]
def B36_0 (n : Nat) : St → (Ex → St → RR) → RR := runCode (Ctx.mk prog Hx (36)) (Table.call T20) n (codeAt [1, 1, 0, 1, 0, 0] (bodyOf f36)) (Lv.mk 708 [(0, 192)] 64)
def X36_2 (id : Int) (ports : Int) (i1 : Int) (es2 : List (List D)) : St := St.mk (u_ 6 (V_ [C.ptr 0 0 0 [] 2 0 0] :: V_ [C.ptr 2 0 0 [] 2 0 0] :: u_ 24 [])) [Root.mk true 2 [[D.int i64 (0), D.sl true 11 []]] 0 0 true true false, Root.mk false 11 (enS true (Bridge.Ports (bridgeNew id ports))) 0 0 false true false, Root.mk true 2 [[D.int i64 i1, D.sl true 11 es2]] 0 0 true true false]
theorem q36_0 (id : Int) (ports : Int) (log : List In) (n : Nat) (i0 : Int) (i1 : Int) (es2 : List (List D)) (f : St → RR) (K : Ex → St → RR) : B36_0 n (S36_0 id ports log i0 i1 es2) (kThen (fun st ↦ f (St.head 3 708 2147418624 st)) K) = bif decide (i0 < ofNat (length (enS false log))) then bif decide (0 ≤ i0) && decide (i0 < ofNat (length (enS false log))) then bif Leaf.fit false (Leaf.int i64) (getD (getD (enS false log) (toNat i0) []) 0 D.dead) && (Leaf.fit false (Leaf.int i64) (getD (getD (enS false log) (toNat i0) []) 1 D.dead) && (Leaf.fit false (Leaf.int i64) (getD (getD (enS false log) (toNat i0) []) 2 D.dead) && (Leaf.fit false (Leaf.int i64) (getD (getD (enS false log) (toNat i0) []) 3 D.dead) && (Leaf.fit false (Leaf.int i64) (getD (getD (enS false log) (toNat i0) []) 4 D.dead) && (Leaf.fit false (Leaf.int i64) (getD (getD (enS false log) (toNat i0) []) 5 D.dead) && (Leaf.fit false (Leaf.int i64) (getD (getD (enS false log) (toNat i0) []) 6 D.dead) && (Leaf.fit false Leaf.bool (getD (getD (enS false log) (toNat i0) []) 7 D.dead) && true))))))) then bif isS Port false (lendRows es2) && decide (length (deS Port (lendRows es2)) ≤ 1048576) then bif deepRows (enS true (Bridge.Ports (reactB (Bridge.mk i1 (deS Port (lendRows es2))) (En.dec (getD (enS false log) (toNat i0) []))))) && true && (deepRows (enS true (reactO (Bridge.mk i1 (deS Port (lendRows es2))) (En.dec (getD (enS false log) (toNat i0) [])))) && true && true) && true && true then f (S36_0 id ports log (wrap i64 (i0 + 1)) (Bridge.Id (reactB (Bridge.mk i1 (deS Port (lendRows es2))) (En.dec (getD (enS false log) (toNat i0) [])))) (enS true (Bridge.Ports (reactB (Bridge.mk i1 (deS Port (lendRows es2))) (En.dec (getD (enS false log) (toNat i0) [])))))) else none else none else none else none else K (Ex.exit 0) (X36_2 id ports i1 es2) := by kernel_rfl
theorem aX36_2 (id : Int) (ports : Int) (n : Nat) (i1 : Int) (es2 : List (List D)) : k36_1 n (Ex.exit 0) (X36_2 id ports i1 es2) = some ([[D.int i64 i1, D.sl true 11 es2]], []) := by kernel_rfl
theorem r36 (id : Int) (ports : Int) (log : List In) (n : Nat) : evFn ⟨prog, Hx, 36⟩ T20.call n f36 [[.int .i64 id], [.int .i64 ports], [.sl false 8 (enS false log)]] = loopRun (B36_0 n) 3 708 2147418624 n (S36_0 id ports log (0) (Bridge.Id (bridgeNew id ports)) (enS true (Bridge.Ports (bridgeNew id ports)))) (k36_1 n) := by kernel_rfl
theorem m36 (id : Int) (ports : Int) (log : List In) (hpre : (o36 id ports log).1 = true) : evFn ⟨Go.Proofs.Try.prog, Hx, 36⟩ T20.call (log.length + 1) f36 [[.int .i64 id], [.int .i64 ports], [.sl false 8 (enS false log)]] = some (o36 id ports log).2 := by
  refine (r36 id ports log _).trans ?_
  show _ = (some ([[.int .i64 (runB (bridgeNew id ports) log).Id, .sl true 11 (enS true (runB (bridgeNew id ports) log).Ports)]], []) : Option (List Row × List Row))
  replace hpre : (decide (log.length ≤ 1048576)) = true := hpre
  have hll := of_decide_eq_true hpre
  show _ = outBr1 (runB (bridgeNew id ports) log)
  refine loop_list (xs := log) (fun i (b : Bridge) => S36_0 id ports log (Int.ofNat i) b.Id (enS true b.Ports)) (fun _ b => b.Ports.length ≤ 4) (fun _ b rest => outBr1 (runB b rest)) ?_ ?_ (log.length + 1) (bridgeNew id ports) (by omega) (new_four id ports)
  · rintro b _ f
    refine (q36_0 id ports log _ _ _ _ f _).trans ?_
    rw [end_lt, cond_false]
    exact aX36_2 _ _ _ _ _
  · rintro i b hi hbl f hf
    have hbd : decide (b.Ports.length ≤ 1048576) = true := decide_eq_true (by omega)
    refine (q36_0 id ports log _ _ _ _ f _).trans ?_
    simp only [enS_length, toNat_of, dec_lt, dec_ge, hi, decide_true, cond_true, Bool.and_self, Bool.and_true, Nat.zero_add, wrap_succ (show i < 4611686018427387904 by omega), enS_get false hi, En.dec_enc, lendRows_enS, isS_enS, deS_enS, deepRows_enS, Bridge.eta, hbd]
    refine bif_t rfl ?_
    exact hf (reactB b log[i]) (by rw [reactB_len]; exact hbl)
theorem s36 : SoundAt Go.Proofs.Try.prog Hx 36 c36 := soundAt_of T20_sound mixed func36 (by kernel_rfl) (by
  intro rows r h
  unfold c36 at h
  split at h
  · rename_i id ports log
    obtain ⟨hp, hr⟩ := Prod.mk.inj (Option.some.inj h)
    subst hr
    simp only [Bool.and_eq_true] at hp
    obtain ⟨hs0, hp⟩ := hp
    obtain ⟨xs0, rfl⟩ := isS_ex hs0
    simp only [deS_enS] at hp ⊢
    exact ⟨_, m36 id ports xs0 hp⟩
  · cases h)
def T36 : Table := (36, c36) :: T20
theorem T36_sound : Table.Sound Go.Proofs.Try.prog Hx T36 := Table.sound_cons s36 T20_sound
def o9 (id : Int) (ports : Int) (log : List In) (n_ : Int) : Bool × List Row × List Row := (decide (log.length ≤ 1048576), [[.int .i64 (snapM id ports log n_).N, .sl true 1 (enS true (snapM id ports log n_).Bytes)], [.bool (snapOk id ports log n_)]], [])
def c9 : Contract
  | [[.int .i64 id], [.int .i64 ports], [.sl false 8 log], [.int .i64 n_]] => some (isS In false log && (o9 id ports (deS In log) n_).1, (o9 id ports (deS In log) n_).2.1, (o9 id ports (deS In log) n_).2.2)
  | _ => none

theorem r9 (id : Int) (ports : Int) (log : List In) (n_ : Int) (n : Nat) : evFn ⟨prog, Hx, 9⟩ T36.call n f9 [[.int .i64 id], [.int .i64 ports], [.sl false 8 (enS false log)], [.int .i64 n_]] = bif !bnOk id ports then some ([[D.int i64 (0), D.sl true 1 []], [D.bool false]], []) else bif !inR n_ (0) (ofNat (length (enS false log))) then some ([[D.int i64 (0), D.sl true 1 []], [D.bool false]], []) else bif decide (0 ≤ n_) && decide (n_ ≤ ofNat (length (enS false log))) then bif isS In false (take (toNat (n_ - 0)) (drop (toNat (0)) (enS false log))) && decide (length (deS In (take (toNat (n_ - 0)) (drop (toNat (0)) (enS false log)))) ≤ 1048576) then bif isS Port false (lendRows (enS true (Bridge.Ports (runB (bridgeNew id ports) (deS In (take (toNat (n_ - 0)) (drop (toNat (0)) (enS false log)))))))) && decide (length (deS Port (lendRows (enS true (Bridge.Ports (runB (bridgeNew id ports) (deS In (take (toNat (n_ - 0)) (drop (toNat (0)) (enS false log))))))))) ≤ 1048576) then bif deepRows (enS true (bridgeBs (Bridge.mk (Bridge.Id (runB (bridgeNew id ports) (deS In (take (toNat (n_ - 0)) (drop (toNat (0)) (enS false log)))))) (deS Port (lendRows (enS true (Bridge.Ports (runB (bridgeNew id ports) (deS In (take (toNat (n_ - 0)) (drop (toNat (0)) (enS false log)))))))))))) && true && true && true && true then some ([[D.int i64 n_, D.sl true 1 (enS true (bridgeBs (Bridge.mk (Bridge.Id (runB (bridgeNew id ports) (deS In (take (toNat (n_ - 0)) (drop (toNat (0)) (enS false log)))))) (deS Port (lendRows (enS true (Bridge.Ports (runB (bridgeNew id ports) (deS In (take (toNat (n_ - 0)) (drop (toNat (0)) (enS false log))))))))))))], [D.bool true]], []) else none else none else none else none := by kernel_rfl
theorem m9 (id : Int) (ports : Int) (log : List In) (n_ : Int) (hpre : (o9 id ports log n_).1 = true) : evFn ⟨Go.Proofs.Try.prog, Hx, 9⟩ T36.call 0 f9 [[.int .i64 id], [.int .i64 ports], [.sl false 8 (enS false log)], [.int .i64 n_]] = some (o9 id ports log n_).2 := by
  refine (r9 id ports log n_ _).trans ?_
  show _ = (some ([[.int .i64 (snapM id ports log n_).N, .sl true 1 (enS true (snapM id ports log n_).Bytes)], [.bool (snapOk id ports log n_)]], []) : Option (List Row × List Row))
  replace hpre : (decide (log.length ≤ 1048576)) = true := hpre
  have hll := of_decide_eq_true hpre
  show _ = outSn (snapM id ports log n_) (snapOk id ports log n_)
  rw [enS_length]
  cases h1 : bnOk id ports
  · rw [snap_no (by unfold snapOk; rw [h1]; rfl)]
    rfl
  refine bif_f rfl ?_
  cases h2 : inR n_ 0 (Int.ofNat log.length)
  · rw [snap_no (by unfold snapOk; rw [h1]; exact h2)]
    rfl
  rw [snap_yes (by unfold snapOk; rw [h1]; exact h2)]
  refine bif_f rfl ?_
  have h3 := in_b h2
  obtain ⟨k, rfl⟩ := Int.eq_ofNat_of_zero_le h3.1
  have hR : List.take (Int.toNat ((k : Int) - 0)) (List.drop (Int.toNat 0) (enS false log)) = enS false (log.take k) := by
    rw [Int.sub_zero, Int.toNat_natCast]
    exact enS_take false log k
  have hlk : decide ((log.take k).length ≤ 1048576) = true := decide_eq_true (by rw [List.length_take]; omega)
  have hbd : decide ((runB (bridgeNew id ports) (log.take k)).Ports.length ≤ 1048576) = true := decide_eq_true (by rw [runB_len]; have := new_four id ports; omega)
  have e1 : (decide (0 ≤ (k : Int)) && decide ((k : Int) ≤ Int.ofNat log.length)) = true := by rw [decide_eq_true h3.1, decide_eq_true h3.2]; rfl
  rw [hR]
  simp only [e1, lendRows_enS, isS_enS, deS_enS, deepRows_enS, Bridge.eta, hlk, hbd, cond_true, Bool.and_self, Bool.and_true, Bool.true_and, Int.toNat_natCast]
  rfl
theorem s9 : SoundAt Go.Proofs.Try.prog Hx 9 c9 := soundAt_of T36_sound mixed func9 (by kernel_rfl) (by
  intro rows r h
  unfold c9 at h
  split at h
  · rename_i id ports log n_
    obtain ⟨hp, hr⟩ := Prod.mk.inj (Option.some.inj h)
    subst hr
    simp only [Bool.and_eq_true] at hp
    obtain ⟨hs0, hp⟩ := hp
    obtain ⟨xs0, rfl⟩ := isS_ex hs0
    simp only [deS_enS] at hp ⊢
    exact ⟨_, m9 id ports xs0 n_ hp⟩
  · cases h)
def T9 : Table := (9, c9) :: T36
theorem T9_sound : Table.Sound Go.Proofs.Try.prog Hx T9 := Table.sound_cons s9 T36_sound
def o7 (id : Int) (ports : Int) (log : List In) (n_ : Int) : Bool × List Row × List Row := (decide (log.length ≤ 1048576), [[.int .i64 (snapM id ports log n_).N, .sl true 1 (enS true (snapM id ports log n_).Bytes)], [.bool (snapOk id ports log n_)]], [])
def c7 : Contract
  | [[.int .i64 id], [.int .i64 ports], [.sl false 8 log], [.int .i64 n_]] => some (isS In false log && (o7 id ports (deS In log) n_).1, (o7 id ports (deS In log) n_).2.1, (o7 id ports (deS In log) n_).2.2)
  | _ => none

theorem r7 (id : Int) (ports : Int) (log : List In) (n_ : Int) (n : Nat) : evFn ⟨prog, Hx, 7⟩ T9.call n f7 [[.int .i64 id], [.int .i64 ports], [.sl false 8 (enS false log)], [.int .i64 n_]] = bif !bnOk id ports then some ([[D.int i64 (0), D.sl true 1 []], [D.bool false]], []) else bif !inR n_ (0) (ofNat (length (enS false log))) then some ([[D.int i64 (0), D.sl true 1 []], [D.bool false]], []) else bif decide (0 ≤ n_) && decide (n_ ≤ ofNat (length (enS false log))) then bif isS In false (take (toNat (n_ - 0)) (drop (toNat (0)) (enS false log))) && decide (length (deS In (take (toNat (n_ - 0)) (drop (toNat (0)) (enS false log)))) ≤ 1048576) then bif isS Port false (lendRows (enS true (Bridge.Ports (runB (bridgeNew id ports) (deS In (take (toNat (n_ - 0)) (drop (toNat (0)) (enS false log)))))))) && decide (length (deS Port (lendRows (enS true (Bridge.Ports (runB (bridgeNew id ports) (deS In (take (toNat (n_ - 0)) (drop (toNat (0)) (enS false log))))))))) ≤ 1048576) then bif deepRows (enS true (bridgeBs (Bridge.mk (Bridge.Id (runB (bridgeNew id ports) (deS In (take (toNat (n_ - 0)) (drop (toNat (0)) (enS false log)))))) (deS Port (lendRows (enS true (Bridge.Ports (runB (bridgeNew id ports) (deS In (take (toNat (n_ - 0)) (drop (toNat (0)) (enS false log)))))))))))) && true && true && true && true then some ([[D.int i64 n_, D.sl true 1 (enS true (bridgeBs (Bridge.mk (Bridge.Id (runB (bridgeNew id ports) (deS In (take (toNat (n_ - 0)) (drop (toNat (0)) (enS false log)))))) (deS Port (lendRows (enS true (Bridge.Ports (runB (bridgeNew id ports) (deS In (take (toNat (n_ - 0)) (drop (toNat (0)) (enS false log))))))))))))], [D.bool true]], []) else none else none else none else none := by kernel_rfl
theorem m7 (id : Int) (ports : Int) (log : List In) (n_ : Int) (hpre : (o7 id ports log n_).1 = true) : evFn ⟨Go.Proofs.Try.prog, Hx, 7⟩ T9.call 0 f7 [[.int .i64 id], [.int .i64 ports], [.sl false 8 (enS false log)], [.int .i64 n_]] = some (o7 id ports log n_).2 := by
  refine (r7 id ports log n_ _).trans ?_
  show _ = (some ([[.int .i64 (snapM id ports log n_).N, .sl true 1 (enS true (snapM id ports log n_).Bytes)], [.bool (snapOk id ports log n_)]], []) : Option (List Row × List Row))
  replace hpre : (decide (log.length ≤ 1048576)) = true := hpre
  have hll := of_decide_eq_true hpre
  show _ = outSn (snapM id ports log n_) (snapOk id ports log n_)
  rw [enS_length]
  cases h1 : bnOk id ports
  · rw [snap_no (by unfold snapOk; rw [h1]; rfl)]
    rfl
  refine bif_f rfl ?_
  cases h2 : inR n_ 0 (Int.ofNat log.length)
  · rw [snap_no (by unfold snapOk; rw [h1]; exact h2)]
    rfl
  rw [snap_yes (by unfold snapOk; rw [h1]; exact h2)]
  refine bif_f rfl ?_
  have h3 := in_b h2
  obtain ⟨k, rfl⟩ := Int.eq_ofNat_of_zero_le h3.1
  have hR : List.take (Int.toNat ((k : Int) - 0)) (List.drop (Int.toNat 0) (enS false log)) = enS false (log.take k) := by
    rw [Int.sub_zero, Int.toNat_natCast]
    exact enS_take false log k
  have hlk : decide ((log.take k).length ≤ 1048576) = true := decide_eq_true (by rw [List.length_take]; omega)
  have hbd : decide ((runB (bridgeNew id ports) (log.take k)).Ports.length ≤ 1048576) = true := decide_eq_true (by rw [runB_len]; have := new_four id ports; omega)
  have e1 : (decide (0 ≤ (k : Int)) && decide ((k : Int) ≤ Int.ofNat log.length)) = true := by rw [decide_eq_true h3.1, decide_eq_true h3.2]; rfl
  rw [hR]
  simp only [e1, lendRows_enS, isS_enS, deS_enS, deepRows_enS, Bridge.eta, hlk, hbd, cond_true, Bool.and_self, Bool.and_true, Bool.true_and, Int.toNat_natCast]
  rfl
theorem s7 : SoundAt Go.Proofs.Try.prog Hx 7 c7 := soundAt_of T9_sound mixed func7 (by kernel_rfl) (by
  intro rows r h
  unfold c7 at h
  split at h
  · rename_i id ports log n_
    obtain ⟨hp, hr⟩ := Prod.mk.inj (Option.some.inj h)
    subst hr
    simp only [Bool.and_eq_true] at hp
    obtain ⟨hs0, hp⟩ := hp
    obtain ⟨xs0, rfl⟩ := isS_ex hs0
    simp only [deS_enS] at hp ⊢
    exact ⟨_, m7 id ports xs0 n_ hp⟩
  · cases h)
def T7 : Table := (7, c7) :: T9
theorem T7_sound : Table.Sound Go.Proofs.Try.prog Hx T7 := Table.sound_cons s7 T9_sound
end Go.Ev
end
