/- Contracts of functions, each by its evaluation. -/
import Derived.Test.YtgklglkmfgfodaaEvMd
import Derived.Test.YtgklglkmfgfodaaProg
import Derived.KernelRfl
import Derived.Test.YtgklglkmfgfodaaFFdb
set_option linter.unusedVariables false
set_option linter.unusedSimpArgs false
set_option maxRecDepth 100000
noncomputable section
open List (getD length drop take set append replicate all isEmpty)
open Int (toNat ofNat)
open Go.IntKind (i64 wrap)
open Go.Proofs.Try (prog)
namespace Go.Ev
open Go.RowKit Go.Md
end Go.Ev
namespace Go.Md
open Go Go.Ev
theorem hear_len (l : List Heard) (a v p : Int) (h : l.length ≤ 1048576) : (hearL l a v p).length ≤ 1048576 := by
  unfold hearL
  cases ht : tableOk (hearI l a v p)
  · exact h
  · rw [cond_true]
    unfold tableOk at ht
    rw [Bool.and_eq_true] at ht
    have := of_decide_eq_true ht.2
    omega
theorem feed_len (c : Copy) (u : Up) (h : c.Table.length ≤ 1048576) : (feedM c u).1.Table.length ≤ 1048576 := by
  unfold feedM
  cases copyOk c && (upOk u && u.Seq == c.Next)
  · exact h
  · exact hear_len _ _ _ _ h
end Go.Md
namespace Go.Ev
open Go.Md
end Go.Ev
end
