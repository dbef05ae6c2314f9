/- Contracts of functions, each by its evaluation. -/
import Derived.Test.YthfolmphegdabaaEvMd
import Derived.Test.YthfolmphegdabaaProg
import Derived.KernelRfl
import Derived.Test.YthfolmphegdabaaFNum
set_option linter.unusedVariables false
set_option linter.unusedSimpArgs false
set_option maxRecDepth 100000
noncomputable section
namespace Go.Ev
open Go.RowKit Go.Md
end Go.Ev
namespace Go.Md
open Go Go.Ev
def isPortB (n : Int) : Bool := inR n 0 3
def isHopsB (n : Int) : Bool := inR n 0 8
def vecOk (v : Vec) : Bool := inR v.Root 1 9 && (inR v.Bridge 1 9 && (decide (v.Root ≤ v.Bridge) && (inR v.Cost 0 20 && (((v.Cost == 0) == (v.Root == v.Bridge)) && isPortB v.Port))))
def bitI (on : Bool) (f : Int) : Int := bif on then f else 0
def roleB (r : Int) : Int := bif r == 2 then 3 else bif r == 1 then 2 else bif r == 3 then 1 else 0
def flagsOf (b : Bpdu) : Int := bitI b.Change 1 + bitI b.Ask 2 + 4 * roleB b.Role + bitI b.Learn 16 + bitI b.Open 32 + bitI b.Agree 64
theorem bitI_b (on : Bool) {f : Int} (h : 0 ≤ f) : 0 ≤ bitI on f ∧ bitI on f ≤ f := by cases on <;> simp [bitI, h]
theorem bitI_mul (on : Bool) (k : Int) : k * bitI on 1 = bitI on k := by cases on <;> simp [bitI]
theorem roleB_b (r : Int) : 0 ≤ roleB r ∧ roleB r ≤ 3 := by unfold roleB; simp only [Bool.cond_eq_ite]; grind
def bpduOk (b : Bpdu) : Bool := inR b.Role 0 3 && (vecOk b.Vec && isHopsB b.Hops)
end Go.Md
namespace Go.Ev
open Go.Md
/- isPort -/
def o157 (n_ : Int) : Bool × List Row × List Row := (true, [[.bool (isPortB n_)]], [])
def c157 : Contract
  | [[.int .i64 n_]] => some ((o157 n_).1, (o157 n_).2.1, (o157 n_).2.2)
  | _ => none

theorem r157 (n_ : Int) (n : Nat) : evFn ⟨Go.Proofs.Try.prog, Hx, 157⟩ T58.call n Go.Proofs.Try.f157 [[.int .i64 n_]] = some ([[D.bool (inR n_ (0) (3))]], []) := by kernel_rfl
theorem m157 (n_ : Int) (hpre : (o157 n_).1 = true) : evFn ⟨Go.Proofs.Try.prog, Hx, 157⟩ T58.call 0 Go.Proofs.Try.f157 [[.int .i64 n_]] = some (o157 n_).2 := by
  refine (r157 n_ _).trans ?_
  show _ = (some ([[.bool (isPortB n_)]], []) : Option (List Row × List Row))
  replace hpre : (true) = true := hpre
  rfl
theorem s157 : SoundAt Go.Proofs.Try.prog Hx 157 c157 := soundAt_of T58_sound mixed Go.Proofs.Try.func157 (by kernel_rfl) (by
  intro rows r h
  unfold c157 at h
  split at h
  · rename_i n_
    obtain ⟨hp, hr⟩ := Prod.mk.inj (Option.some.inj h)
    subst hr
    exact ⟨_, m157 n_ hp⟩
  · cases h)
def T157 : Table := (157, c157) :: T58
theorem T157_sound : Table.Sound Go.Proofs.Try.prog Hx T157 := Table.sound_cons s157 T58_sound
/- isHops -/
def o159 (n_ : Int) : Bool × List Row × List Row := (true, [[.bool (isHopsB n_)]], [])
def c159 : Contract
  | [[.int .i64 n_]] => some ((o159 n_).1, (o159 n_).2.1, (o159 n_).2.2)
  | _ => none

theorem r159 (n_ : Int) (n : Nat) : evFn ⟨Go.Proofs.Try.prog, Hx, 159⟩ T157.call n Go.Proofs.Try.f159 [[.int .i64 n_]] = some ([[D.bool (inR n_ (0) (8))]], []) := by kernel_rfl
theorem m159 (n_ : Int) (hpre : (o159 n_).1 = true) : evFn ⟨Go.Proofs.Try.prog, Hx, 159⟩ T157.call 0 Go.Proofs.Try.f159 [[.int .i64 n_]] = some (o159 n_).2 := by
  refine (r159 n_ _).trans ?_
  show _ = (some ([[.bool (isHopsB n_)]], []) : Option (List Row × List Row))
  replace hpre : (true) = true := hpre
  rfl
theorem s159 : SoundAt Go.Proofs.Try.prog Hx 159 c159 := soundAt_of T157_sound mixed Go.Proofs.Try.func159 (by kernel_rfl) (by
  intro rows r h
  unfold c159 at h
  split at h
  · rename_i n_
    obtain ⟨hp, hr⟩ := Prod.mk.inj (Option.some.inj h)
    subst hr
    exact ⟨_, m159 n_ hp⟩
  · cases h)
def T159 : Table := (159, c159) :: T157
theorem T159_sound : Table.Sound Go.Proofs.Try.prog Hx T159 := Table.sound_cons s159 T157_sound
/- VecOk -/
def o158 (v : Vec) : Bool × List Row × List Row := (true, [[.bool (vecOk v)]], [])
def c158 : Contract
  | [[.int .i64 v_Root, .int .i64 v_Cost, .int .i64 v_Bridge, .int .i64 v_Port]] => some ((o158 ⟨v_Root, v_Cost, v_Bridge, v_Port⟩).1, (o158 ⟨v_Root, v_Cost, v_Bridge, v_Port⟩).2.1, (o158 ⟨v_Root, v_Cost, v_Bridge, v_Port⟩).2.2)
  | _ => none

theorem r158 (v : Vec) (n : Nat) : evFn ⟨Go.Proofs.Try.prog, Hx, 158⟩ T159.call n Go.Proofs.Try.f158 [[.int .i64 v.Root, .int .i64 v.Cost, .int .i64 v.Bridge, .int .i64 v.Port]] = bif !inR (Vec.Root v) (1) (9) then some ([[D.bool false]], []) else bif !inR (Vec.Bridge v) (1) (9) then some ([[D.bool false]], []) else bif decide (Vec.Root v > Vec.Bridge v) then some ([[D.bool false]], []) else bif !isPortB (Vec.Port v) then some ([[D.bool false]], []) else bif inR (Vec.Cost v) (0) (20) then some ([[D.bool (decide ((Vec.Cost v == 0) = (Vec.Root v == Vec.Bridge v)))]], []) else some ([[D.bool false]], []) := by kernel_rfl
theorem m158 (v : Vec) (hpre : (o158 v).1 = true) : evFn ⟨Go.Proofs.Try.prog, Hx, 158⟩ T159.call 0 Go.Proofs.Try.f158 [[.int .i64 v.Root, .int .i64 v.Cost, .int .i64 v.Bridge, .int .i64 v.Port]] = some (o158 v).2 := by
  refine (r158 v _).trans ?_
  show _ = (some ([[.bool (vecOk v)]], []) : Option (List Row × List Row))
  replace hpre : (true) = true := hpre
  unfold vecOk
  simp only [Bool.cond_eq_ite]
  grind
theorem s158 : SoundAt Go.Proofs.Try.prog Hx 158 c158 := soundAt_of T159_sound mixed Go.Proofs.Try.func158 (by kernel_rfl) (by
  intro rows r h
  unfold c158 at h
  split at h
  · rename_i v_Root v_Cost v_Bridge v_Port
    obtain ⟨hp, hr⟩ := Prod.mk.inj (Option.some.inj h)
    subst hr
    exact ⟨_, m158 ⟨v_Root, v_Cost, v_Bridge, v_Port⟩ hp⟩
  · cases h)
def T158 : Table := (158, c158) :: T159
theorem T158_sound : Table.Sound Go.Proofs.Try.prog Hx T158 := Table.sound_cons s158 T159_sound
/- VecOkS -/
def o156 (v : Vec) : Bool × List Row × List Row := (true, [[.bool (vecOk v)]], [])
def c156 : Contract
  | [[.int .i64 v_Root, .int .i64 v_Cost, .int .i64 v_Bridge, .int .i64 v_Port]] => some ((o156 ⟨v_Root, v_Cost, v_Bridge, v_Port⟩).1, (o156 ⟨v_Root, v_Cost, v_Bridge, v_Port⟩).2.1, (o156 ⟨v_Root, v_Cost, v_Bridge, v_Port⟩).2.2)
  | _ => none

theorem r156 (v : Vec) (n : Nat) : evFn ⟨Go.Proofs.Try.prog, Hx, 156⟩ T158.call n Go.Proofs.Try.f156 [[.int .i64 v.Root, .int .i64 v.Cost, .int .i64 v.Bridge, .int .i64 v.Port]] = bif inR (Vec.Root v) (1) (9) then bif inR (Vec.Bridge v) (1) (9) then bif decide (Vec.Root v ≤ Vec.Bridge v) then bif inR (Vec.Cost v) (0) (20) then bif decide ((Vec.Cost v == 0) = (Vec.Root v == Vec.Bridge v)) then some ([[D.bool (inR (Vec.Port v) (0) (3))]], []) else some ([[D.bool false]], []) else some ([[D.bool false]], []) else some ([[D.bool false]], []) else some ([[D.bool false]], []) else some ([[D.bool false]], []) := by kernel_rfl
theorem m156 (v : Vec) (hpre : (o156 v).1 = true) : evFn ⟨Go.Proofs.Try.prog, Hx, 156⟩ T158.call 0 Go.Proofs.Try.f156 [[.int .i64 v.Root, .int .i64 v.Cost, .int .i64 v.Bridge, .int .i64 v.Port]] = some (o156 v).2 := by
  refine (r156 v _).trans ?_
  show _ = (some ([[.bool (vecOk v)]], []) : Option (List Row × List Row))
  replace hpre : (true) = true := hpre
  unfold vecOk isPortB
  simp only [Bool.cond_eq_ite]
  grind
theorem s156 : SoundAt Go.Proofs.Try.prog Hx 156 c156 := soundAt_of T158_sound mixed Go.Proofs.Try.func156 (by kernel_rfl) (by
  intro rows r h
  unfold c156 at h
  split at h
  · rename_i v_Root v_Cost v_Bridge v_Port
    obtain ⟨hp, hr⟩ := Prod.mk.inj (Option.some.inj h)
    subst hr
    exact ⟨_, m156 ⟨v_Root, v_Cost, v_Bridge, v_Port⟩ hp⟩
  · cases h)
def T156 : Table := (156, c156) :: T158
theorem T156_sound : Table.Sound Go.Proofs.Try.prog Hx T156 := Table.sound_cons s156 T158_sound
/- bit -/
def o152 (on : Bool) (flag : Int) : Bool × List Row × List Row := (true, [[.int .i64 (bitI on flag)]], [])
def c152 : Contract
  | [[.bool on], [.int .i64 flag]] => some ((o152 on flag).1, (o152 on flag).2.1, (o152 on flag).2.2)
  | _ => none

theorem r152 (on : Bool) (flag : Int) (n : Nat) : evFn ⟨Go.Proofs.Try.prog, Hx, 152⟩ T156.call n Go.Proofs.Try.f152 [[.bool on], [.int .i64 flag]] = bif on then some ([[D.int IntKind.i64 flag]], []) else some ([[D.int IntKind.i64 (0)]], []) := by kernel_rfl
theorem m152 (on : Bool) (flag : Int) (hpre : (o152 on flag).1 = true) : evFn ⟨Go.Proofs.Try.prog, Hx, 152⟩ T156.call 0 Go.Proofs.Try.f152 [[.bool on], [.int .i64 flag]] = some (o152 on flag).2 := by
  refine (r152 on flag _).trans ?_
  show _ = (some ([[.int .i64 (bitI on flag)]], []) : Option (List Row × List Row))
  replace hpre : (true) = true := hpre
  cases on <;> rfl
theorem s152 : SoundAt Go.Proofs.Try.prog Hx 152 c152 := soundAt_of T156_sound mixed Go.Proofs.Try.func152 (by kernel_rfl) (by
  intro rows r h
  unfold c152 at h
  split at h
  · rename_i on flag
    obtain ⟨hp, hr⟩ := Prod.mk.inj (Option.some.inj h)
    subst hr
    exact ⟨_, m152 on flag hp⟩
  · cases h)
def T152 : Table := (152, c152) :: T156
theorem T152_sound : Table.Sound Go.Proofs.Try.prog Hx T152 := Table.sound_cons s152 T156_sound
/- l1Bit -/
def o106 (on : Bool) : Bool × List Row × List Row := (true, [[.int .i64 (bitI on 1)]], [])
def c106 : Contract
  | [[.bool on]] => some ((o106 on).1, (o106 on).2.1, (o106 on).2.2)
  | _ => none

theorem r106 (on : Bool) (n : Nat) : evFn ⟨Go.Proofs.Try.prog, Hx, 106⟩ T152.call n Go.Proofs.Try.f106 [[.bool on]] = bif on then some ([[D.int IntKind.i64 (1)]], []) else some ([[D.int IntKind.i64 (0)]], []) := by kernel_rfl
theorem m106 (on : Bool) (hpre : (o106 on).1 = true) : evFn ⟨Go.Proofs.Try.prog, Hx, 106⟩ T152.call 0 Go.Proofs.Try.f106 [[.bool on]] = some (o106 on).2 := by
  refine (r106 on _).trans ?_
  show _ = (some ([[.int .i64 (bitI on 1)]], []) : Option (List Row × List Row))
  replace hpre : (true) = true := hpre
  cases on <;> rfl
theorem s106 : SoundAt Go.Proofs.Try.prog Hx 106 c106 := soundAt_of T152_sound mixed Go.Proofs.Try.func106 (by kernel_rfl) (by
  intro rows r h
  unfold c106 at h
  split at h
  · rename_i on
    obtain ⟨hp, hr⟩ := Prod.mk.inj (Option.some.inj h)
    subst hr
    exact ⟨_, m106 on hp⟩
  · cases h)
def T106 : Table := (106, c106) :: T152
theorem T106_sound : Table.Sound Go.Proofs.Try.prog Hx T106 := Table.sound_cons s106 T152_sound
end Go.Ev
end
