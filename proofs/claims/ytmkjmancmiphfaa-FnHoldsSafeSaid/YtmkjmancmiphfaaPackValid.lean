/-
  PackValid: what it returns, in the program and in the reference.
-/
import Derived.Test.YtmkjmancmiphfaaSpecValid
namespace Go.Proofs.Ytmkjmancmiphfaa
open Go.RowKit

def wok (p x : Int) : Bool := decide (0 ≤ x ∧ x < p)
def packVld (l : List Tk) (ws : List Int) (p : Int) : Bool := setVld l && decide (1 ≤ p) && decide (p ≤ 3) && decide (ws.length = l.length) && ws.all (wok p)

theorem wall_take_succ (p : Int) (l : List Int) (k : Nat) (hk : k < l.length) : (l.take (k + 1)).all (wok p) = ((l.take k).all (wok p) && wok p l[k]) := by
  rw [List.take_succ_eq_append_getElem hk, List.all_append]; simp

theorem setVld_len {l : List Tk} (h : setVld l = true) : l.length ≤ 5 := by
  simp [setVld] at h; exact h.1

def num3 (p : Int) : Bool := decide (1 ≤ p ∧ p ≤ 3)

end Go.Proofs.Ytmkjmancmiphfaa
