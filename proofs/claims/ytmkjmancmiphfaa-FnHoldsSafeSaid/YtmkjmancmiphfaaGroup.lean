/-
  group, GroupOf: the tasks of a processor.
-/
import Derived.Test.YtmkjmancmiphfaaPackValid
import Derived.Test.YtmkjmancmiphfaaAppend
namespace Go.Proofs.Ytmkjmancmiphfaa
open Go.RowKit

def grp (l : List Tk) (ws : List Int) (p : Int) : List Tk := ((l.zip ws).filter (fun x => decide (x.2 = p))).map Prod.fst
theorem grp_nil (p : Int) : grp [] [] p = [] := rfl
theorem grp_take_hit {l : List Tk} {ws : List Int} {p : Int} {k : Nat} (hk : k < l.length) (hw : k < ws.length) (h : ws[k] = p) : grp (l.take (k + 1)) (ws.take (k + 1)) p = grp (l.take k) (ws.take k) p ++ [l[k]] := by
  unfold grp
  rw [List.take_succ_eq_append_getElem hk, List.take_succ_eq_append_getElem hw, List.zip_append (by simp; omega), List.filter_append, List.map_append]
  simp [h]
theorem grp_take_miss {l : List Tk} {ws : List Int} {p : Int} {k : Nat} (hk : k < l.length) (hw : k < ws.length) (h : ws[k] ≠ p) : grp (l.take (k + 1)) (ws.take (k + 1)) p = grp (l.take k) (ws.take k) p := by
  unfold grp
  rw [List.take_succ_eq_append_getElem hk, List.take_succ_eq_append_getElem hw, List.zip_append (by simp; omega), List.filter_append, List.map_append]
  simp [h]
theorem grp_len (l : List Tk) (ws : List Int) (p : Int) : (grp l ws p).length ≤ l.length := by
  unfold grp
  rw [List.length_map]
  exact Nat.le_trans (List.length_filter_le _ _) (by rw [List.length_zip]; exact Nat.min_le_left _ _)

def gOk (l : List Tk) (ws : List Int) (p : Int) : Bool := packVld l ws 3 && decide (0 ≤ p) && decide (p ≤ 2)
def grpOf (l : List Tk) (ws : List Int) (p : Int) : List Tk := if gOk l ws p then grp l ws p else []

theorem grpOf_len (l : List Tk) (ws : List Int) (p : Int) : (grpOf l ws p).length ≤ l.length := by
  unfold grpOf
  split
  · exact grp_len l ws p
  · simp
end Go.Proofs.Ytmkjmancmiphfaa
