/- Contracts of functions, each by its evaluation. -/
import Derived.Test.YtihhlajibgoemaaEvMd
import Derived.Test.YtihhlajibgoemaaProg
import Derived.KernelRfl
import Derived.Test.YtihhlajibgoemaaFHfab
set_option linter.unusedVariables false
set_option linter.unusedSimpArgs false
set_option maxRecDepth 100000
noncomputable section
open List (getD length drop take set append replicate all isEmpty)
open Int (toNat ofNat)
open Go.IntKind (i64 wrap)
open Go.Proofs.Try (prog)
namespace Go.Ev
open Go.RowKit Go.Md
end Go.Ev
namespace Go.Md
open Go Go.Ev
def heardOk (x : Heard) : Bool := inR x.Addr 1 9 && (inR x.Vlan 1 4 && (inR x.Port 0 3 && inR x.Left 1 20))
def aheadB (a b : Heard) : Bool := decide (a.Vlan < b.Vlan) || (a.Vlan == b.Vlan && decide (a.Addr < b.Addr))
def stepsOk : Option Heard → List Heard → Bool
  | _, [] => true
  | p, x :: xs => heardOk x && ((match p with | none => true | some y => aheadB y x) && stepsOk (some x) xs)
def tableOk (l : List Heard) : Bool := stepsOk none l && decide (l.length ≤ 12)
def prevAt (l : List Heard) : Nat → Option Heard
  | 0 => none
  | i + 1 => l[i]?
theorem steps_cons (p : Option Heard) (x : Heard) (xs : List Heard) : stepsOk p (x :: xs) = (heardOk x && ((match p with | none => true | some y => aheadB y x) && stepsOk (some x) xs)) := by simp only [stepsOk]
end Go.Md
namespace Go.Ev
open Go.Md
end Go.Ev
end
