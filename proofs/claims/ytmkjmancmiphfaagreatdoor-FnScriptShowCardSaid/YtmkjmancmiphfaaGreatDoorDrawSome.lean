/-
  l1Some: drawn tasks, sometimes ones that are not valid; l3Case, DrawLeaveTask.
-/
import Derived.Test.YtmkjmancmiphfaaGreatDoorDrawCase
import Derived.Test.YtmkjmancmiphfaaGreatDoorSortD
namespace Go.Proofs.YtmkjmancmiphfaaGreatDoor
open Go.RowKit

/-- What l3Case hands over. -/
def AtPost (w : World) (e : Ending) (w' : World) : Prop := ∃ A c l x, e = .returned (.tuple #[.slice A (List.length l) c, .int .i64 x]) ∧ OT w.heap.size w' A c l ∧ l.length ≤ 6 ∧ -1 ≤ x ∧ x ≤ 5 ∧ Below w.heap.size w w'
theorem sortD_le (l : List Tk) : (sortD l).length ≤ l.length := by
  unfold sortD
  split
  · rw [sortF_len]; exact Nat.le_refl _
  · simp

end Go.Proofs.YtmkjmancmiphfaaGreatDoor
