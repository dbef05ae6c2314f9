/- Contracts of functions, each by its evaluation. -/
import Derived.Test.YtkkpblhaeliofaaEvMd
import Derived.Test.YtkkpblhaeliofaaProg
import Derived.KernelRfl
import Derived.Test.YtkkpblhaeliofaaFRunb
set_option linter.unusedVariables false
set_option linter.unusedSimpArgs false
set_option maxRecDepth 100000
noncomputable section
open List (getD length drop take set append replicate all isEmpty)
open Int (toNat ofNat)
open Go.IntKind (i64 wrap)
open Go.Proofs.Try (prog f19 f29 func19 func29)
namespace Go.Ev
open Go.RowKit Go.Md
end Go.Ev
namespace Go.Md
open Go Go.Ev
theorem brI_len (b : List UInt8) : (brI b).1.Ports.length ≤ 4 := by
  unfold brI
  cases (rdP (min (rCnt b) 4).toNat (rGo b)).2.bad
  · cases hk : bridgeOk (brAt b (min (rCnt b) 4).toNat)
    · exact Nat.zero_le _
    · have := bridge_four hk
      cases decide (bridgeBs (brAt b (min (rCnt b) 4).toNat) = b)
      · exact Nat.zero_le _
      · exact this
  · exact Nat.zero_le _
def fsOk (s : Snap) (l : List In) : Bool := (brI s.Bytes).2 && inR s.N 0 (l.length : Int)
def fsB (s : Snap) (l : List In) : Bridge := bif fsOk s l then runB (brI s.Bytes).1 (l.drop s.N.toNat) else ⟨0, []⟩
def outFs (c : Bridge) (o : Bool) : Go.Ev.RR := some ([[D.int .i64 c.Id, D.sl true 11 (Go.Ev.enS true c.Ports)], [D.bool o]], [])
theorem fs_no {s : Snap} {l : List In} (h : fsOk s l = false) : outFs (fsB s l) (fsOk s l) = outFs ⟨0, []⟩ false := by unfold fsB; rw [h]; rfl
theorem fs_yes {s : Snap} {l : List In} (h : fsOk s l = true) : outFs (fsB s l) (fsOk s l) = outFs (runB (brI s.Bytes).1 (l.drop s.N.toNat)) true := by unfold fsB; rw [h]; rfl
theorem fsB_len (s : Snap) (l : List In) : (fsB s l).Ports.length ≤ 4 := by
  unfold fsB
  cases fsOk s l
  · exact Nat.zero_le _
  · rw [cond_true, runB_len]
    exact brI_len _
end Go.Md
namespace Go.Ev
open Go.Md
def o19 (s : Snap) (log : List In) : Bool × List Row × List Row := (decide (s.Bytes.length ≤ 1048576) && decide (log.length ≤ 1048576), [[.int .i64 (fsB s log).Id, .sl true 11 (enS true (fsB s log).Ports)], [.bool (fsOk s log)]], [])
def c19 : Contract
  | [[.int .i64 s_N, .sl false 1 s_Bytes], [.sl false 8 log]] => some (isS UInt8 false s_Bytes && isS In false log && (o19 ⟨s_N, (deS UInt8 s_Bytes)⟩ (deS In log)).1, (o19 ⟨s_N, (deS UInt8 s_Bytes)⟩ (deS In log)).2.1, (o19 ⟨s_N, (deS UInt8 s_Bytes)⟩ (deS In log)).2.2)
  | _ => none

def k19_0 (n : Nat) : Ex → St → RR := kThen (fun st ↦ runCode (Ctx.mk prog Hx (19)) (Table.call T7) n (codeAt [1, 1, 1, 1] (bodyOf f19)) (Lv.mk 48 [] 48) st (kLeave (Ctx.P (Ctx.mk prog Hx (19))) (List.zip (Array.toList (Go.Func.resultTypes f19)) (Array.toList (Go.Func.results f19))) [] [])) (kLeave (Ctx.P (Ctx.mk prog Hx (19))) (List.zip (Array.toList (Go.Func.resultTypes f19)) (Array.toList (Go.Func.results f19))) [] [])
def k19_1 (n : Nat) : Ex → St → RR := kBlock (0) (k19_0 n)
def S19_0 (s : Snap) (log : List In) (i0 : Int) (i1 : Int) (es2 : List (List D)) : St := St.mk (u_ 4 (V_ [C.ptr 1 0 0 [] 2 0 0] :: U_ :: V_ [C.ptr 3 0 0 [] 2 0 0] :: u_ 23 (V_ [C.d (D.sl false 8 (take (toNat (ofNat (length (enS false log)) - Snap.N s)) (drop (toNat (Snap.N s)) (enS false log))))] :: I_ (ofNat (length (take (toNat (ofNat (length (enS false log)) - Snap.N s)) (drop (toNat (Snap.N s)) (enS false log))))) :: I_ i0 :: u_ 11 []))) [Root.mk true 2 [En.enc false s] 0 0 true true false, Root.mk true 2 [[D.int i64 (0), D.sl true 11 []]] 0 0 true true false, Root.mk false 11 (enS true (Bridge.Ports (Prod.fst (brI (deS UInt8 (enS false (Snap.Bytes s))))))) 0 0 false true false, Root.mk true 2 [[D.int i64 i1, D.sl true 11 es2]] 0 0 true true false]
def B19_0 (n : Nat) : St → (Ex → St → RR) → RR := runCode (Ctx.mk prog Hx (19)) (Table.call T7) n (codeAt [1, 1, 1, 0, 1, 0, 0] (bodyOf f19)) (Lv.mk 7516192848 [(0, 80)] 48)
def X19_2 (s : Snap) (i1 : Int) (es2 : List (List D)) : St := St.mk (u_ 4 (V_ [C.ptr 1 0 0 [] 2 0 0] :: U_ :: V_ [C.ptr 3 0 0 [] 2 0 0] :: u_ 37 [])) [Root.mk true 2 [En.enc false s] 0 0 true true false, Root.mk true 2 [[D.int i64 (0), D.sl true 11 []]] 0 0 true true false, Root.mk false 11 (enS true (Bridge.Ports (Prod.fst (brI (deS UInt8 (enS false (Snap.Bytes s))))))) 0 0 false true false, Root.mk true 2 [[D.int i64 i1, D.sl true 11 es2]] 0 0 true true false]
theorem q19_0 (s : Snap) (log : List In) (n : Nat) (i0 : Int) (i1 : Int) (es2 : List (List D)) (f : St → RR) (K : Ex → St → RR) : B19_0 n (S19_0 s log i0 i1 es2) (kThen (fun st ↦ f (St.head 4 7516192848 8791798055424 st)) K) = bif decide (i0 < ofNat (length (take (toNat (ofNat (length (enS false log)) - Snap.N s)) (drop (toNat (Snap.N s)) (enS false log))))) then bif decide (0 ≤ i0) && decide (i0 < ofNat (length (take (toNat (ofNat (length (enS false log)) - Snap.N s)) (drop (toNat (Snap.N s)) (enS false log))))) then bif Leaf.fit false (Leaf.int i64) (getD (getD (take (toNat (ofNat (length (enS false log)) - Snap.N s)) (drop (toNat (Snap.N s)) (enS false log))) (toNat i0) []) 0 D.dead) && (Leaf.fit false (Leaf.int i64) (getD (getD (take (toNat (ofNat (length (enS false log)) - Snap.N s)) (drop (toNat (Snap.N s)) (enS false log))) (toNat i0) []) 1 D.dead) && (Leaf.fit false (Leaf.int i64) (getD (getD (take (toNat (ofNat (length (enS false log)) - Snap.N s)) (drop (toNat (Snap.N s)) (enS false log))) (toNat i0) []) 2 D.dead) && (Leaf.fit false (Leaf.int i64) (getD (getD (take (toNat (ofNat (length (enS false log)) - Snap.N s)) (drop (toNat (Snap.N s)) (enS false log))) (toNat i0) []) 3 D.dead) && (Leaf.fit false (Leaf.int i64) (getD (getD (take (toNat (ofNat (length (enS false log)) - Snap.N s)) (drop (toNat (Snap.N s)) (enS false log))) (toNat i0) []) 4 D.dead) && (Leaf.fit false (Leaf.int i64) (getD (getD (take (toNat (ofNat (length (enS false log)) - Snap.N s)) (drop (toNat (Snap.N s)) (enS false log))) (toNat i0) []) 5 D.dead) && (Leaf.fit false (Leaf.int i64) (getD (getD (take (toNat (ofNat (length (enS false log)) - Snap.N s)) (drop (toNat (Snap.N s)) (enS false log))) (toNat i0) []) 6 D.dead) && (Leaf.fit false Leaf.bool (getD (getD (take (toNat (ofNat (length (enS false log)) - Snap.N s)) (drop (toNat (Snap.N s)) (enS false log))) (toNat i0) []) 7 D.dead) && true))))))) then bif isS Port false (lendRows es2) && decide (length (deS Port (lendRows es2)) ≤ 1048576) then bif deepRows (enS true (Bridge.Ports (reactB (Bridge.mk i1 (deS Port (lendRows es2))) (En.dec (getD (take (toNat (ofNat (length (enS false log)) - Snap.N s)) (drop (toNat (Snap.N s)) (enS false log))) (toNat i0) []))))) && true && (deepRows (enS true (reactO (Bridge.mk i1 (deS Port (lendRows es2))) (En.dec (getD (take (toNat (ofNat (length (enS false log)) - Snap.N s)) (drop (toNat (Snap.N s)) (enS false log))) (toNat i0) [])))) && true && true) && true && true then f (S19_0 s log (wrap i64 (i0 + 1)) (Bridge.Id (reactB (Bridge.mk i1 (deS Port (lendRows es2))) (En.dec (getD (take (toNat (ofNat (length (enS false log)) - Snap.N s)) (drop (toNat (Snap.N s)) (enS false log))) (toNat i0) [])))) (enS true (Bridge.Ports (reactB (Bridge.mk i1 (deS Port (lendRows es2))) (En.dec (getD (take (toNat (ofNat (length (enS false log)) - Snap.N s)) (drop (toNat (Snap.N s)) (enS false log))) (toNat i0) [])))))) else none else none else none else none else K (Ex.exit 0) (X19_2 s i1 es2) := by kernel_rfl
theorem aX19_2 (s : Snap) (n : Nat) (i1 : Int) (es2 : List (List D)) : k19_1 n (Ex.exit 0) (X19_2 s i1 es2) = some ([[D.int i64 i1, D.sl true 11 es2], [D.bool true]], []) := by kernel_rfl
theorem r19 (s : Snap) (log : List In) (n : Nat) : evFn ⟨prog, Hx, 19⟩ T7.call n f19 [[.int .i64 s.N, .sl false 1 (enS false s.Bytes)], [.sl false 8 (enS false log)]] = bif isS UInt8 false (enS false (Snap.Bytes s)) && decide (length (deS UInt8 (enS false (Snap.Bytes s))) ≤ 1048576) then bif !Prod.snd (brI (deS UInt8 (enS false (Snap.Bytes s)))) then some ([[D.int i64 (0), D.sl true 11 []], [D.bool false]], []) else bif !inR (Snap.N s) (0) (ofNat (length (enS false log))) then some ([[D.int i64 (0), D.sl true 11 []], [D.bool false]], []) else bif decide (0 ≤ Snap.N s) && (decide (Snap.N s ≤ ofNat (length (enS false log))) && decide (ofNat (length (enS false log)) ≤ ofNat (length (enS false log)))) then loopRun (B19_0 n) 4 7516192848 8791798055424 n (S19_0 s log (0) (Bridge.Id (Prod.fst (brI (deS UInt8 (enS false (Snap.Bytes s)))))) (enS true (Bridge.Ports (Prod.fst (brI (deS UInt8 (enS false (Snap.Bytes s)))))))) (k19_1 n) else none else none := by kernel_rfl
theorem m19 (s : Snap) (log : List In) (hpre : (o19 s log).1 = true) : evFn ⟨Go.Proofs.Try.prog, Hx, 19⟩ T7.call (log.length + 1) f19 [[.int .i64 s.N, .sl false 1 (enS false s.Bytes)], [.sl false 8 (enS false log)]] = some (o19 s log).2 := by
  refine (r19 s log _).trans ?_
  show _ = (some ([[.int .i64 (fsB s log).Id, .sl true 11 (enS true (fsB s log).Ports)], [.bool (fsOk s log)]], []) : Option (List Row × List Row))
  replace hpre : (decide (s.Bytes.length ≤ 1048576) && decide (log.length ≤ 1048576)) = true := hpre
  rw [Bool.and_eq_true] at hpre
  obtain ⟨hb, hl⟩ := hpre
  have hll := of_decide_eq_true hl
  show _ = outFs (fsB s log) (fsOk s log)
  refine bif_t (by rw [isS_enS, deS_enS, hb]; rfl) ?_
  rw [deS_enS]
  cases h1 : (brI s.Bytes).2
  · rw [fs_no (by unfold fsOk; rw [h1]; rfl)]
    rfl
  refine bif_f rfl ?_
  rw [show Int.ofNat (enS false log).length = (log.length : Int) by rw [enS_length]; rfl]
  cases h2 : inR s.N 0 (log.length : Int)
  · rw [fs_no (by unfold fsOk; rw [h1, h2]; rfl)]
    rfl
  have hok : fsOk s log = true := by unfold fsOk; rw [h1, h2]; rfl
  rw [fs_yes hok]
  have h3 := in_b h2
  obtain ⟨k, hk⟩ := Int.eq_ofNat_of_zero_le h3.1
  have hkl : k ≤ log.length := by omega
  refine bif_f rfl (bif_t (by rw [decide_eq_true h3.1, decide_eq_true h3.2, decide_eq_true (Int.le_refl _)]; rfl) ?_)
  have hR : List.take (Int.toNat (Int.ofNat (List.length (enS false log)) - s.N)) (List.drop (Int.toNat s.N) (enS false log)) = enS false (log.drop s.N.toNat) := by
    rw [enS_drop, List.take_of_length_le]
    rw [enS_length, enS_length, List.length_drop, hk]
    show log.length - (Int.toNat (k : Int)) ≤ Int.toNat ((log.length : Int) - (k : Int))
    omega
  have hls : (log.drop s.N.toNat).length ≤ log.length := by rw [List.length_drop]; omega
  generalize log.drop s.N.toNat = ls at hR hls ⊢
  refine loop_list (xs := ls) (fun i (b : Bridge) => S19_0 s log (Int.ofNat i) b.Id (enS true b.Ports)) (fun _ b => b.Ports.length ≤ 4) (fun _ b rest => outFs (runB b rest) true) ?_ ?_ (log.length + 1) (brI s.Bytes).1 (by omega) (brI_len _)
  · rintro b _ f
    refine (q19_0 s log _ _ _ _ f _).trans ?_
    rw [hR, end_lt, cond_false]
    exact aX19_2 _ _ _ _
  · rintro i b hi hbl f hf
    have hbd : decide (b.Ports.length ≤ 1048576) = true := decide_eq_true (by omega)
    refine (q19_0 s log _ _ _ _ f _).trans ?_
    rw [hR]
    simp only [enS_length, toNat_of, dec_lt, dec_ge, hi, decide_true, cond_true, Bool.and_self, Bool.and_true, Nat.zero_add, wrap_succ (show i < 4611686018427387904 by omega), enS_get false hi, En.dec_enc, lendRows_enS, isS_enS, deS_enS, deepRows_enS, Bridge.eta, hbd]
    refine bif_t rfl ?_
    exact hf (reactB b ls[i]) (by rw [reactB_len]; exact hbl)
theorem s19 : SoundAt Go.Proofs.Try.prog Hx 19 c19 := soundAt_of T7_sound mixed func19 (by kernel_rfl) (by
  intro rows r h
  unfold c19 at h
  split at h
  · rename_i s_N s_Bytes log
    obtain ⟨hp, hr⟩ := Prod.mk.inj (Option.some.inj h)
    subst hr
    simp only [Bool.and_eq_true] at hp
    obtain ⟨⟨hs0, hs1⟩, hp⟩ := hp
    obtain ⟨xs0, rfl⟩ := isS_ex hs0
    obtain ⟨xs1, rfl⟩ := isS_ex hs1
    simp only [deS_enS] at hp ⊢
    exact ⟨_, m19 ⟨s_N, xs0⟩ xs1 hp⟩
  · cases h)
def T19 : Table := (19, c19) :: T7
theorem T19_sound : Table.Sound Go.Proofs.Try.prog Hx T19 := Table.sound_cons s19 T7_sound
def o29 (s : Snap) (log : List In) : Bool × List Row × List Row := (decide (s.Bytes.length ≤ 1048576) && decide (log.length ≤ 1048576), [[.int .i64 (fsB s log).Id, .sl true 11 (enS true (fsB s log).Ports)], [.bool (fsOk s log)]], [])
def c29 : Contract
  | [[.int .i64 s_N, .sl false 1 s_Bytes], [.sl false 8 log]] => some (isS UInt8 false s_Bytes && isS In false log && (o29 ⟨s_N, (deS UInt8 s_Bytes)⟩ (deS In log)).1, (o29 ⟨s_N, (deS UInt8 s_Bytes)⟩ (deS In log)).2.1, (o29 ⟨s_N, (deS UInt8 s_Bytes)⟩ (deS In log)).2.2)
  | _ => none

def k29_0 (n : Nat) : Ex → St → RR := kThen (fun st ↦ runCode (Ctx.mk prog Hx (29)) (Table.call T19) n (codeAt [1, 1, 1, 1] (bodyOf f29)) (Lv.mk 48 [] 48) st (kLeave (Ctx.P (Ctx.mk prog Hx (29))) (List.zip (Array.toList (Go.Func.resultTypes f29)) (Array.toList (Go.Func.results f29))) [] [])) (kLeave (Ctx.P (Ctx.mk prog Hx (29))) (List.zip (Array.toList (Go.Func.resultTypes f29)) (Array.toList (Go.Func.results f29))) [] [])
def k29_1 (n : Nat) : Ex → St → RR := kBlock (0) (k29_0 n)
def S29_0 (s : Snap) (log : List In) (i0 : Int) (i1 : Int) (es2 : List (List D)) : St := St.mk (U_ :: V_ [C.d (D.sl false 8 (enS false log))] :: U_ :: U_ :: V_ [C.ptr 1 0 0 [] 2 0 0] :: U_ :: V_ [C.ptr 3 0 0 [] 2 0 0] :: U_ :: I_ i0 :: u_ 35 []) [Root.mk true 2 [En.enc false s] 0 0 true true false, Root.mk true 2 [[D.int i64 (0), D.sl true 11 []]] 0 0 true true false, Root.mk false 11 (enS true (Bridge.Ports (Prod.fst (brS (deS UInt8 (enS false (Snap.Bytes s))))))) 0 0 false true false, Root.mk true 2 [[D.int i64 i1, D.sl true 11 es2]] 0 0 true true false]
def B29_0 (n : Nat) : St → (Ex → St → RR) → RR := runCode (Ctx.mk prog Hx (29)) (Table.call T19) n (codeAt [1, 1, 1, 0, 1, 0, 0] (bodyOf f29)) (Lv.mk 338 [(0, 80)] 48)
def X29_2 (s : Snap) (i1 : Int) (es2 : List (List D)) : St := St.mk (u_ 4 (V_ [C.ptr 1 0 0 [] 2 0 0] :: U_ :: V_ [C.ptr 3 0 0 [] 2 0 0] :: u_ 37 [])) [Root.mk true 2 [En.enc false s] 0 0 true true false, Root.mk true 2 [[D.int i64 (0), D.sl true 11 []]] 0 0 true true false, Root.mk false 11 (enS true (Bridge.Ports (Prod.fst (brS (deS UInt8 (enS false (Snap.Bytes s))))))) 0 0 false true false, Root.mk true 2 [[D.int i64 i1, D.sl true 11 es2]] 0 0 true true false]
theorem q29_0 (s : Snap) (log : List In) (n : Nat) (i0 : Int) (i1 : Int) (es2 : List (List D)) (f : St → RR) (K : Ex → St → RR) : B29_0 n (S29_0 s log i0 i1 es2) (kThen (fun st ↦ f (St.head 4 338 8795824587008 st)) K) = bif decide (i0 < ofNat (length (enS false log))) then bif decide (0 ≤ i0) && decide (i0 < ofNat (length (enS false log))) then bif Leaf.fit false (Leaf.int i64) (getD (getD (enS false log) (toNat i0) []) 0 D.dead) && (Leaf.fit false (Leaf.int i64) (getD (getD (enS false log) (toNat i0) []) 1 D.dead) && (Leaf.fit false (Leaf.int i64) (getD (getD (enS false log) (toNat i0) []) 2 D.dead) && (Leaf.fit false (Leaf.int i64) (getD (getD (enS false log) (toNat i0) []) 3 D.dead) && (Leaf.fit false (Leaf.int i64) (getD (getD (enS false log) (toNat i0) []) 4 D.dead) && (Leaf.fit false (Leaf.int i64) (getD (getD (enS false log) (toNat i0) []) 5 D.dead) && (Leaf.fit false (Leaf.int i64) (getD (getD (enS false log) (toNat i0) []) 6 D.dead) && (Leaf.fit false Leaf.bool (getD (getD (enS false log) (toNat i0) []) 7 D.dead) && true))))))) then bif isS Port false (lendRows es2) && decide (length (deS Port (lendRows es2)) ≤ 1048576) then bif deepRows (enS true (Bridge.Ports (reactB (Bridge.mk i1 (deS Port (lendRows es2))) (En.dec (getD (enS false log) (toNat i0) []))))) && true && (deepRows (enS true (reactO (Bridge.mk i1 (deS Port (lendRows es2))) (En.dec (getD (enS false log) (toNat i0) [])))) && true && true) && true && true then f (S29_0 s log (wrap i64 (i0 + 1)) (Bridge.Id (reactB (Bridge.mk i1 (deS Port (lendRows es2))) (En.dec (getD (enS false log) (toNat i0) [])))) (enS true (Bridge.Ports (reactB (Bridge.mk i1 (deS Port (lendRows es2))) (En.dec (getD (enS false log) (toNat i0) [])))))) else none else none else none else none else K (Ex.exit 0) (X29_2 s i1 es2) := by kernel_rfl
theorem aX29_2 (s : Snap) (n : Nat) (i1 : Int) (es2 : List (List D)) : k29_1 n (Ex.exit 0) (X29_2 s i1 es2) = some ([[D.int i64 i1, D.sl true 11 es2], [D.bool true]], []) := by kernel_rfl
theorem r29 (s : Snap) (log : List In) (n : Nat) : evFn ⟨prog, Hx, 29⟩ T19.call n f29 [[.int .i64 s.N, .sl false 1 (enS false s.Bytes)], [.sl false 8 (enS false log)]] = bif isS UInt8 false (enS false (Snap.Bytes s)) && decide (length (deS UInt8 (enS false (Snap.Bytes s))) ≤ 1048576) then bif !Prod.snd (brS (deS UInt8 (enS false (Snap.Bytes s)))) then some ([[D.int i64 (0), D.sl true 11 []], [D.bool false]], []) else bif !inR (Snap.N s) (0) (ofNat (length (enS false log))) then some ([[D.int i64 (0), D.sl true 11 []], [D.bool false]], []) else loopRun (B29_0 n) 4 338 8795824587008 n (S29_0 s log (Snap.N s) (Bridge.Id (Prod.fst (brS (deS UInt8 (enS false (Snap.Bytes s)))))) (enS true (Bridge.Ports (Prod.fst (brS (deS UInt8 (enS false (Snap.Bytes s)))))))) (k29_1 n) else none := by kernel_rfl
theorem m29 (s : Snap) (log : List In) (hpre : (o29 s log).1 = true) : evFn ⟨Go.Proofs.Try.prog, Hx, 29⟩ T19.call (log.length + 1) f29 [[.int .i64 s.N, .sl false 1 (enS false s.Bytes)], [.sl false 8 (enS false log)]] = some (o29 s log).2 := by
  refine (r29 s log _).trans ?_
  show _ = (some ([[.int .i64 (fsB s log).Id, .sl true 11 (enS true (fsB s log).Ports)], [.bool (fsOk s log)]], []) : Option (List Row × List Row))
  replace hpre : (decide (s.Bytes.length ≤ 1048576) && decide (log.length ≤ 1048576)) = true := hpre
  rw [Bool.and_eq_true] at hpre
  obtain ⟨hb, hl⟩ := hpre
  have hll := of_decide_eq_true hl
  show _ = outFs (fsB s log) (fsOk s log)
  refine bif_t (by rw [isS_enS, deS_enS, hb]; rfl) ?_
  rw [deS_enS, brS_eq]
  cases h1 : (brI s.Bytes).2
  · rw [fs_no (by unfold fsOk; rw [h1]; rfl)]
    rfl
  refine bif_f rfl ?_
  rw [show Int.ofNat (enS false log).length = (log.length : Int) by rw [enS_length]; rfl]
  cases h2 : inR s.N 0 (log.length : Int)
  · rw [fs_no (by unfold fsOk; rw [h1, h2]; rfl)]
    rfl
  have hok : fsOk s log = true := by unfold fsOk; rw [h1, h2]; rfl
  rw [fs_yes hok]
  have h3 := in_b h2
  obtain ⟨k, hk⟩ := Int.eq_ofNat_of_zero_le h3.1
  have hkl : k ≤ log.length := by omega
  refine bif_f rfl ?_
  rw [hk, Int.toNat_natCast]
  refine loop_rule (V := Nat × Bridge) (fun v => S29_0 s log (Int.ofNat v.1) v.2.Id (enS true v.2.Ports)) (fun v => v.1 ≤ log.length ∧ v.2.Ports.length ≤ 4) (fun v => log.length - v.1) (fun v => outFs (runB v.2 (log.drop v.1)) true) ?_ (log.length + 1) (k, (brI s.Bytes).1) ⟨hkl, brI_len _⟩ (by show log.length - k < log.length + 1; omega)
  rintro ⟨i, b⟩ ⟨hil, hbl⟩ f hf
  simp only at hil hbl
  refine (q29_0 s log _ _ _ _ f _).trans ?_
  by_cases hi : i < log.length
  · have hbd : decide (b.Ports.length ≤ 1048576) = true := decide_eq_true (by omega)
    simp only [enS_length, toNat_of, dec_lt, dec_ge, hi, decide_true, cond_true, Bool.and_self, Bool.and_true, Nat.zero_add, wrap_succ (show i < 4611686018427387904 by omega), enS_get false hi, En.dec_enc, lendRows_enS, isS_enS, deS_enS, deepRows_enS, Bridge.eta, hbd]
    refine bif_t rfl ?_
    rw [List.drop_eq_getElem_cons hi]
    exact hf (i + 1, reactB b log[i]) ⟨hi, by show (reactB b log[i]).Ports.length ≤ 4; rw [reactB_len]; exact hbl⟩ (by show log.length - (i + 1) < log.length - i; omega)
  · obtain rfl : i = log.length := by omega
    rw [end_lt, cond_false]
    refine (aX29_2 _ _ _ _).trans ?_
    rw [List.drop_length]
    rfl
theorem s29 : SoundAt Go.Proofs.Try.prog Hx 29 c29 := soundAt_of T19_sound mixed func29 (by kernel_rfl) (by
  intro rows r h
  unfold c29 at h
  split at h
  · rename_i s_N s_Bytes log
    obtain ⟨hp, hr⟩ := Prod.mk.inj (Option.some.inj h)
    subst hr
    simp only [Bool.and_eq_true] at hp
    obtain ⟨⟨hs0, hs1⟩, hp⟩ := hp
    obtain ⟨xs0, rfl⟩ := isS_ex hs0
    obtain ⟨xs1, rfl⟩ := isS_ex hs1
    simp only [deS_enS] at hp ⊢
    exact ⟨_, m29 ⟨s_N, xs0⟩ xs1 hp⟩
  · cases h)
def T29 : Table := (29, c29) :: T19
theorem T29_sound : Table.Sound Go.Proofs.Try.prog Hx T29 := Table.sound_cons s29 T19_sound
end Go.Ev
end
