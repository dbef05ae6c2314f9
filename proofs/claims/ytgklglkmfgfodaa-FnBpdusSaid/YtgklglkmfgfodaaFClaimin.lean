/- Contracts of functions, each by its evaluation. -/
import Derived.Test.YtgklglkmfgfodaaEvMd
import Derived.Test.YtgklglkmfgfodaaProg
import Derived.KernelRfl
import Derived.Test.YtgklglkmfgfodaaFDbpdu
set_option linter.unusedVariables false
set_option linter.unusedSimpArgs false
set_option maxRecDepth 100000
noncomputable section
open List (getD length drop take set append replicate all isEmpty)
open Int (toNat ofNat)
open Go.IntKind (i64 wrap)
open Go.Proofs.Try (prog f36 f37 func36 func37)
namespace Go.Ev
open Go.RowKit Go.Md
end Go.Ev
namespace Go.Md
open Go Go.Ev
def claimX (b : Bpdu) (p : Int) : In := ⟨1, p, b.Vec, b.Hops, false⟩
def claimOk (b : Bpdu) (p : Int) : Bool := bpduOk b && inOk (claimX b p)
def claimM (b : Bpdu) (p : Int) : In := bif claimOk b p then claimX b p else ⟨0, 0, ⟨0, 0, 0, 0⟩, 0, false⟩
end Go.Md
namespace Go.Ev
open Go.Md
def o36 (b : Bpdu) (port : Int) : Bool × List Row × List Row := (true, [[.int .i64 (claimM b port).Kind, .int .i64 (claimM b port).Port, .int .i64 (claimM b port).Vec.Root, .int .i64 (claimM b port).Vec.Cost, .int .i64 (claimM b port).Vec.Bridge, .int .i64 (claimM b port).Vec.Port, .int .i64 (claimM b port).Hops, .bool (claimM b port).Up], [.bool (claimOk b port)]], [])
def c36 : Contract
  | [[.bool b_Change, .bool b_Ask, .bool b_Agree, .bool b_Learn, .bool b_Open, .int .i64 b_Role, .int .i64 b_Vec_Root, .int .i64 b_Vec_Cost, .int .i64 b_Vec_Bridge, .int .i64 b_Vec_Port, .int .i64 b_Hops], [.int .i64 port]] => some ((o36 ⟨b_Change, b_Ask, b_Agree, b_Learn, b_Open, b_Role, ⟨b_Vec_Root, b_Vec_Cost, b_Vec_Bridge, b_Vec_Port⟩, b_Hops⟩ port).1, (o36 ⟨b_Change, b_Ask, b_Agree, b_Learn, b_Open, b_Role, ⟨b_Vec_Root, b_Vec_Cost, b_Vec_Bridge, b_Vec_Port⟩, b_Hops⟩ port).2.1, (o36 ⟨b_Change, b_Ask, b_Agree, b_Learn, b_Open, b_Role, ⟨b_Vec_Root, b_Vec_Cost, b_Vec_Bridge, b_Vec_Port⟩, b_Hops⟩ port).2.2)
  | _ => none

theorem r36 (b : Bpdu) (port : Int) (n : Nat) : evFn ⟨prog, Hx, 36⟩ T35.call n f36 [[.bool b.Change, .bool b.Ask, .bool b.Agree, .bool b.Learn, .bool b.Open, .int .i64 b.Role, .int .i64 b.Vec.Root, .int .i64 b.Vec.Cost, .int .i64 b.Vec.Bridge, .int .i64 b.Vec.Port, .int .i64 b.Hops], [.int .i64 port]] = bif !bpduOk b then some ([[D.int i64 (0), D.int i64 (0), D.int i64 (0), D.int i64 (0), D.int i64 (0), D.int i64 (0), D.int i64 (0), D.bool false], [D.bool false]], []) else bif !inOk (In.mk (1) port (Bpdu.Vec b) (Bpdu.Hops b) false) then some ([[D.int i64 (0), D.int i64 (0), D.int i64 (0), D.int i64 (0), D.int i64 (0), D.int i64 (0), D.int i64 (0), D.bool false], [D.bool false]], []) else some ([[D.int i64 (1), D.int i64 port, D.int i64 (Vec.Root (Bpdu.Vec b)), D.int i64 (Vec.Cost (Bpdu.Vec b)), D.int i64 (Vec.Bridge (Bpdu.Vec b)), D.int i64 (Vec.Port (Bpdu.Vec b)), D.int i64 (Bpdu.Hops b), D.bool false], [D.bool true]], []) := by kernel_rfl
theorem m36 (b : Bpdu) (port : Int) (hpre : (o36 b port).1 = true) : evFn ⟨Go.Proofs.Try.prog, Hx, 36⟩ T35.call 0 f36 [[.bool b.Change, .bool b.Ask, .bool b.Agree, .bool b.Learn, .bool b.Open, .int .i64 b.Role, .int .i64 b.Vec.Root, .int .i64 b.Vec.Cost, .int .i64 b.Vec.Bridge, .int .i64 b.Vec.Port, .int .i64 b.Hops], [.int .i64 port]] = some (o36 b port).2 := by
  refine (r36 b port _).trans ?_
  show _ = (some ([[.int .i64 (claimM b port).Kind, .int .i64 (claimM b port).Port, .int .i64 (claimM b port).Vec.Root, .int .i64 (claimM b port).Vec.Cost, .int .i64 (claimM b port).Vec.Bridge, .int .i64 (claimM b port).Vec.Port, .int .i64 (claimM b port).Hops, .bool (claimM b port).Up], [.bool (claimOk b port)]], []) : Option (List Row × List Row))
  replace hpre : (true) = true := hpre
  unfold claimM claimOk
  cases h1 : bpduOk b
  · rfl
  cases h2 : inOk (claimX b port)
  · unfold claimX at h2
    rw [h2]
    rfl
  · unfold claimX at h2
    rw [h2]
    rfl
theorem s36 : SoundAt Go.Proofs.Try.prog Hx 36 c36 := soundAt_of T35_sound mixed func36 (by kernel_rfl) (by
  intro rows r h
  unfold c36 at h
  split at h
  · rename_i b_Change b_Ask b_Agree b_Learn b_Open b_Role b_Vec_Root b_Vec_Cost b_Vec_Bridge b_Vec_Port b_Hops port
    obtain ⟨hp, hr⟩ := Prod.mk.inj (Option.some.inj h)
    subst hr
    exact ⟨_, m36 ⟨b_Change, b_Ask, b_Agree, b_Learn, b_Open, b_Role, ⟨b_Vec_Root, b_Vec_Cost, b_Vec_Bridge, b_Vec_Port⟩, b_Hops⟩ port hp⟩
  · cases h)
def T36 : Table := (36, c36) :: T35
theorem T36_sound : Table.Sound Go.Proofs.Try.prog Hx T36 := Table.sound_cons s36 T35_sound
def o37 (b : Bpdu) (port : Int) : Bool × List Row × List Row := (true, [[.int .i64 (claimM b port).Kind, .int .i64 (claimM b port).Port, .int .i64 (claimM b port).Vec.Root, .int .i64 (claimM b port).Vec.Cost, .int .i64 (claimM b port).Vec.Bridge, .int .i64 (claimM b port).Vec.Port, .int .i64 (claimM b port).Hops, .bool (claimM b port).Up], [.bool (claimOk b port)]], [])
def c37 : Contract
  | [[.bool b_Change, .bool b_Ask, .bool b_Agree, .bool b_Learn, .bool b_Open, .int .i64 b_Role, .int .i64 b_Vec_Root, .int .i64 b_Vec_Cost, .int .i64 b_Vec_Bridge, .int .i64 b_Vec_Port, .int .i64 b_Hops], [.int .i64 port]] => some ((o37 ⟨b_Change, b_Ask, b_Agree, b_Learn, b_Open, b_Role, ⟨b_Vec_Root, b_Vec_Cost, b_Vec_Bridge, b_Vec_Port⟩, b_Hops⟩ port).1, (o37 ⟨b_Change, b_Ask, b_Agree, b_Learn, b_Open, b_Role, ⟨b_Vec_Root, b_Vec_Cost, b_Vec_Bridge, b_Vec_Port⟩, b_Hops⟩ port).2.1, (o37 ⟨b_Change, b_Ask, b_Agree, b_Learn, b_Open, b_Role, ⟨b_Vec_Root, b_Vec_Cost, b_Vec_Bridge, b_Vec_Port⟩, b_Hops⟩ port).2.2)
  | _ => none

theorem r37 (b : Bpdu) (port : Int) (n : Nat) : evFn ⟨prog, Hx, 37⟩ T36.call n f37 [[.bool b.Change, .bool b.Ask, .bool b.Agree, .bool b.Learn, .bool b.Open, .int .i64 b.Role, .int .i64 b.Vec.Root, .int .i64 b.Vec.Cost, .int .i64 b.Vec.Bridge, .int .i64 b.Vec.Port, .int .i64 b.Hops], [.int .i64 port]] = bif !bpduOk b then some ([[D.int i64 (0), D.int i64 (0), D.int i64 (0), D.int i64 (0), D.int i64 (0), D.int i64 (0), D.int i64 (0), D.bool false], [D.bool false]], []) else bif !inOk (In.mk (1) port (Bpdu.Vec b) (Bpdu.Hops b) false) then some ([[D.int i64 (0), D.int i64 (0), D.int i64 (0), D.int i64 (0), D.int i64 (0), D.int i64 (0), D.int i64 (0), D.bool false], [D.bool false]], []) else some ([[D.int i64 (1), D.int i64 port, D.int i64 (Vec.Root (Bpdu.Vec b)), D.int i64 (Vec.Cost (Bpdu.Vec b)), D.int i64 (Vec.Bridge (Bpdu.Vec b)), D.int i64 (Vec.Port (Bpdu.Vec b)), D.int i64 (Bpdu.Hops b), D.bool false], [D.bool true]], []) := by kernel_rfl
theorem m37 (b : Bpdu) (port : Int) (hpre : (o37 b port).1 = true) : evFn ⟨Go.Proofs.Try.prog, Hx, 37⟩ T36.call 0 f37 [[.bool b.Change, .bool b.Ask, .bool b.Agree, .bool b.Learn, .bool b.Open, .int .i64 b.Role, .int .i64 b.Vec.Root, .int .i64 b.Vec.Cost, .int .i64 b.Vec.Bridge, .int .i64 b.Vec.Port, .int .i64 b.Hops], [.int .i64 port]] = some (o37 b port).2 := by
  refine (r37 b port _).trans ?_
  show _ = (some ([[.int .i64 (claimM b port).Kind, .int .i64 (claimM b port).Port, .int .i64 (claimM b port).Vec.Root, .int .i64 (claimM b port).Vec.Cost, .int .i64 (claimM b port).Vec.Bridge, .int .i64 (claimM b port).Vec.Port, .int .i64 (claimM b port).Hops, .bool (claimM b port).Up], [.bool (claimOk b port)]], []) : Option (List Row × List Row))
  replace hpre : (true) = true := hpre
  unfold claimM claimOk
  cases h1 : bpduOk b
  · rfl
  cases h2 : inOk (claimX b port)
  · unfold claimX at h2
    rw [h2]
    rfl
  · unfold claimX at h2
    rw [h2]
    rfl
theorem s37 : SoundAt Go.Proofs.Try.prog Hx 37 c37 := soundAt_of T36_sound mixed func37 (by kernel_rfl) (by
  intro rows r h
  unfold c37 at h
  split at h
  · rename_i b_Change b_Ask b_Agree b_Learn b_Open b_Role b_Vec_Root b_Vec_Cost b_Vec_Bridge b_Vec_Port b_Hops port
    obtain ⟨hp, hr⟩ := Prod.mk.inj (Option.some.inj h)
    subst hr
    exact ⟨_, m37 ⟨b_Change, b_Ask, b_Agree, b_Learn, b_Open, b_Role, ⟨b_Vec_Root, b_Vec_Cost, b_Vec_Bridge, b_Vec_Port⟩, b_Hops⟩ port hp⟩
  · cases h)
def T37 : Table := (37, c37) :: T36
theorem T37_sound : Table.Sound Go.Proofs.Try.prog Hx T37 := Table.sound_cons s37 T36_sound
end Go.Ev
end
