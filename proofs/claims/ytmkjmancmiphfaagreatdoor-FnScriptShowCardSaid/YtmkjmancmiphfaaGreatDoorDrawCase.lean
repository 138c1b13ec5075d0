/-
  l9Case: drawn tasks, ways, processors and policies; DrawPackValid, DrawGroupOf.
-/
import Derived.Test.YtmkjmancmiphfaaGreatDoorDrawPack
namespace Go.Proofs.YtmkjmancmiphfaaGreatDoor
open Go.RowKit

theorem results_tmp4 {fn : Func} {t u v x : Tmp} (h : fn.results = #[.tmp t, .tmp u, .tmp v, .tmp x]) (tmps : Array Value) (P : Program) (w : World) :
    (results fn tmps).run P w = .ok (.tuple #[tmps.getD t undef, tmps.getD u undef, tmps.getD v undef, tmps.getD x undef]) w := by simp [results, h]
theorem OT_blk {base : Nat} {w : World} {b c : Nat} {l : List Tk} (h : OT base w (some ⟨b, 0, none⟩) c l) : ∃ cs, w.heap[b]? = some (.cells cs 58 (0, 0)) := by
  rcases h.2 with ⟨hv, _⟩ | ⟨g, cap, cur, hv, hg, hh, _⟩
  · cases hv
  · injection hv with hA
    injection hA with hA
    injection hA with hb
    subst hb
    exact ⟨cur, hh⟩

/-- What l9Case hands over. -/
structure CaseOk (w w' : World) (A : Option Addr) (c : Nat) (l : List Tk) (B : Option Addr) (d : Nat) (ws : List Int) (n m : Int) : Prop where
  tasks : OT w.heap.size w' A c l
  ints : OI w.heap.size w' B d ws
  small : ∀ t ∈ l, Sm t
  ways : ∀ x ∈ ws, -100 ≤ x ∧ x ≤ 100
  len : l.length ≤ 5
  wlen : ws.length ≤ 6
  n0 : 0 ≤ n
  n4 : n ≤ 4
  m0 : 0 ≤ m
  m2 : m ≤ 2
  below : Below w.heap.size w w'
def CasePost (w : World) (e : Ending) (w' : World) : Prop := ∃ A c l B d ws n m, e = .returned (.tuple #[.slice A (List.length l) c, .slice B (List.length ws) d, .int .i64 n, .int .i64 m]) ∧ CaseOk w w' A c l B d ws n m

end Go.Proofs.YtmkjmancmiphfaaGreatDoor
