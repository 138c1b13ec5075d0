/-
  The helpers of the exact laws: copies, comparisons, sizes.
-/
import Derived.Test.YtmkjmancmiphfaaGreatDoorTaskValid
import Derived.Deep.RegionWith
namespace Go.Proofs.YtmkjmancmiphfaaGreatDoor
open Go.RowKit

theorem take_eq_succ {α : Type} (l m : List α) (k : Nat) (hl : k < l.length) (hm : k < m.length) (h : l.take k = m.take k) (e : l[k] = m[k]) : l.take (k + 1) = m.take (k + 1) := by
  rw [List.take_succ_eq_append_getElem hl, List.take_succ_eq_append_getElem hm, h, e]

end Go.Proofs.YtmkjmancmiphfaaGreatDoor
