/-
  Jobs as values and as three cells; rows of jobs in memory; append of one job.
-/
import Derived.Test.YtmkjmancmiphfaaGreatDoorAppend
namespace Go.Proofs.YtmkjmancmiphfaaGreatDoor
open Go.RowKit

structure Jb where
  task : Int
  at_ : Int
  need : Int
deriving DecidableEq

def Jb.cells (t : Jb) : List Value := [.int .i64 t.task, .int .i64 t.at_, .int .i64 t.need]
abbrev Jb.val (t : Jb) : Value := .agg #[.int .i64 t.task, .int .i64 t.at_, .int .i64 t.need]
def flatJ (l : List Jb) : List Value := l.flatMap Jb.cells
theorem flatJ_length (l : List Jb) : (flatJ l).length = 3 * l.length := by
  induction l with
  | nil => rfl
  | cons t l ih => simp only [flatJ, List.flatMap_cons, List.length_append] at ih ⊢; simp [Jb.cells] at ih ⊢; omega
theorem flatJ_at (l : List Jb) (k j : Nat) (hk : k < l.length) (hj : j < 3) : (flatJ l)[k * 3 + j]? = (l[k].cells)[j]? := by
  induction l generalizing k with
  | nil => simp at hk
  | cons t l ih =>
    cases k with
    | zero =>
      simp only [flatJ, List.flatMap_cons, Nat.zero_mul, Nat.zero_add, List.getElem_cons_zero]
      rw [List.getElem?_append_left (by simp [Jb.cells]; omega)]
    | succ k =>
      simp only [flatJ, List.flatMap_cons, List.getElem_cons_succ]
      rw [List.getElem?_append_right (by simp [Jb.cells]; omega)]
      have e : (k + 1) * 3 + j - (Jb.cells t).length = k * 3 + j := by simp [Jb.cells]; omega
      rw [e]
      exact ih k (by simpa using hk)

/-- A slice's address A holds the jobs l. -/
def JS (w : World) (A : Option Addr) (l : List Jb) : Prop :=
  0 < l.length → ∃ b off, A = some ⟨b, off, none⟩ ∧ b < w.heap.size ∧ ∀ j u, (flatJ l)[j]? = some u → w.cell? ⟨b, off + j, none⟩ = some u
theorem JS.keep {w w' : World} {A : Option Addr} {l : List Jb} (h : JS w A l) (hb : Below w.heap.size w w') : JS w' A l := by
  intro hl
  obtain ⟨b, off, hA, hlt, hc⟩ := h hl
  exact ⟨b, off, hA, Nat.lt_of_lt_of_le hlt hb.size, fun j u hu => (hb.cell (p := ⟨b, off + j, none⟩) hlt).trans (hc j u hu)⟩
/-- The three cells of the job at k. -/
theorem job_cells {w : World} {b off : Nat} {l : List Jb} (hc : ∀ j u, (flatJ l)[j]? = some u → w.cell? ⟨b, off + j, none⟩ = some u) (k : Nat) (hk : k < l.length) :
    w.cell? ⟨b, off + k * 3, none⟩ = some (.int .i64 l[k].task) ∧ w.cell? ⟨b, off + k * 3 + 1, none⟩ = some (.int .i64 l[k].at_) ∧ w.cell? ⟨b, off + k * 3 + 2, none⟩ = some (.int .i64 l[k].need) := by
  have h : ∀ j u, j < 3 → (l[k].cells)[j]? = some u → w.cell? ⟨b, off + k * 3 + j, none⟩ = some u := fun j u hj hu => by
    have := hc (k * 3 + j) u ((flatJ_at l k j hk hj).trans hu)
    simpa [Nat.add_assoc] using this
  exact ⟨by simpa using h 0 _ (by omega) rfl, h 1 _ (by omega) rfl, h 2 _ (by omega) rfl⟩
/-- A row of the call's own, from block 'base' on: the slice with address A and capacity c holds the jobs l. -/
def OJ (base : Nat) (w : World) (A : Option Addr) (c : Nat) (l : List Jb) : Prop := w.ownsRow base 60 3 (.slice A l.length c) l.length (flatJ l)
theorem OJ.js {base : Nat} {w : World} {A : Option Addr} {c : Nat} {l : List Jb} (h : OJ base w A c l) : JS w A l := by
  intro hl
  rcases h.2 with ⟨_, h0⟩ | ⟨g, cap, cur, hv, hg, hh, _⟩
  · omega
  · injection hv with hA hn hc
    refine ⟨g, 0, hA, (Array.getElem?_eq_some_iff.1 hh).1, fun j u hu => ?_⟩
    have := h.cells (g := g) (by subst hA; rfl) j u hu
    have e : (⟨g, 0, none⟩ : Addr).add j = ⟨g, 0 + j, none⟩ := by unfold Addr.add; split <;> simp_all
    rw [← e]; exact this
theorem infoJobB : (Tryz.prog.info? 60).map (fun i => (i.zero, i.size, i.bytes)) = some (some (.agg #[.int .i64 0, .int .i64 0, .int .i64 0]), 3, 24) := by kernel_rfl
theorem flatJ_append (l m : List Jb) : flatJ (l ++ m) = flatJ l ++ flatJ m := by simp [flatJ]
theorem wpList_app_job (w : World) {ops : Array Oper} {rest : List Oper} {o : Oper} {a : Act} {Q : Exit → Act → World → Prop} (hgd : o.guard = none) (s x : Operand)
    (ho : o.op = .call { callee := .builtin .append, args := #[s, x], argTypes := #[24, 24] })
    (base : Nat) (A : Option Addr) (l : List Jb) (n c : Nat) (hn : l.length = n) (hs : a.eval s = .slice A n c) (hown : OJ base w A c l)
    (b c1 : Nat) (t : Jb) (cs : Array Value) (ty : TypeId) (hx : a.eval x = .slice (some ⟨b, 0, none⟩) 1 c1) (hb : w.heap[b]? = some (.cells cs ty (0, 0))) (hcs : cs.toList = t.cells)
    (hl : l.length ≤ 2000000) (hbase : base ≤ w.heap.size)
    (h : ∀ A' c' w', OJ base w' A' c' (l ++ [t]) → w.grownBy w' (Value.slice A n c).ownBlock → Below base w w' → wpList Tryz.prog ops Q rest (a.put o.dst (.slice A' (n + 1) c')) w') : wpList Tryz.prog ops Q (o :: rest) a w := by
  subst hn
  obtain ⟨i0, hi, hz0, hz1, hz2⟩ := info_parts infoJobB
  refine wpList_append_own w hgd s x 24 ho base 60 i0 _ 3 24 Tryz.underlying24 hi hz0 hz1 hz2 rfl (by decide) (.slice A l.length c) l.length (flatJ l) hs hown
    ⟨b, 0, none⟩ 1 c1 t.cells hx rfl ?_ ?_ (by unfold maxLen; omega) (by omega) hbase ?_
  · intro j u hj
    rw [addr_add0, cell_of_row w b j cs ty (0, 0) hb, ← Array.getElem?_toList, hcs]
    exact hj
  · intro u hu
    simp [Jb.cells] at hu
    rcases hu with rfl | rfl | rfl <;> rfl
  · intro v' w' hown' hg _
    obtain ⟨A', c', rfl⟩ := own_form hown'
    refine h A' c' w' ?_ hg (own_below hown hg hbase)
    unfold OJ
    rw [List.length_append, List.length_singleton, flatJ_append]
    have e : flatJ [t] = t.cells := by simp [flatJ]
    rw [e]
    exact hown'
theorem OJ_nil (base : Nat) (w : World) : OJ base w none 0 [] := World.ownsRow_nil _ _ _ _
theorem OJ_blank (w : World) (base : Nat) (hb : base ≤ w.heap.size) : OJ base (w.alloc (.cells #[] 60)) (some ⟨w.heap.size, 0, none⟩) 0 [] := own_blank w _ 3 base hb
theorem OJ_alloc {base : Nat} {w : World} {A : Option Addr} {c : Nat} {l : List Jb} (h : OJ base w A c l) (o : Obj) : OJ base (w.alloc o) A c l := World.ownsRow.alloc h o
theorem OJ_keep {base : Nat} {w w' : World} {A : Option Addr} {c : Nat} {l : List Jb} (h : OJ base w A c l) (hb : Below w.heap.size w w') : OJ base w' A c l := own_keep h hb
theorem OJ_addr {base : Nat} {w : World} {A : Option Addr} {c : Nat} {l : List Jb} (h : OJ base w A c l) (hl : 0 < l.length) : ∃ b, A = some ⟨b, 0, none⟩ ∧ base ≤ b ∧ b < w.heap.size := by
  rcases h.2 with ⟨_, h0⟩ | ⟨g, cap, cur, hv, hg, hh, _⟩
  · omega
  · injection hv with hA
    exact ⟨g, hA, hg, (Array.getElem?_eq_some_iff.1 hh).1⟩
theorem flatJ_take (l : List Jb) (k : Nat) : (flatJ l).take (k * 3) = flatJ (l.take k) := by
  induction l generalizing k with
  | nil => simp [flatJ]
  | cons t l ih =>
    cases k with
    | zero => simp [flatJ]
    | succ k =>
      have e : flatJ (t :: l) = t.cells ++ flatJ l := by simp [flatJ]
      have e2 : flatJ ((t :: l).take (k + 1)) = t.cells ++ flatJ (l.take k) := by simp [flatJ]
      rw [e, e2, ← ih, List.take_append]
      have h5 : t.cells.length = 3 := rfl
      rw [h5, List.take_of_length_le (by rw [h5]; omega)]
      congr 2
      omega
theorem OJ_take {base : Nat} {w : World} {A : Option Addr} {c : Nat} {l : List Jb} (h : OJ base w A c l) (k : Nat) (hk : k ≤ l.length) : OJ base w A c (l.take k) := by
  unfold OJ
  have e : (l.take k).length = k := by simp; omega
  rw [e, ← flatJ_take]
  exact own_take h k hk
theorem flatJ_set (l : List Jb) (k j : Nat) (hk : k < l.length) (hj : j < 3) (u : Value) (t : Jb) (ht : t.cells = l[k].cells.set j u) : flatJ (l.set k t) = (flatJ l).set (k * 3 + j) u := by
  induction l generalizing k with
  | nil => simp at hk
  | cons a l ih =>
    cases k with
    | zero =>
      have e : flatJ ((a :: l).set 0 t) = t.cells ++ flatJ l := by simp [flatJ]
      have e2 : flatJ (a :: l) = a.cells ++ flatJ l := by simp [flatJ]
      rw [e, e2, ht, Nat.zero_mul, Nat.zero_add, List.set_append_left _ _ (by simp [Jb.cells]; omega)]
      rfl
    | succ k =>
      have e : flatJ ((a :: l).set (k + 1) t) = a.cells ++ flatJ (l.set k t) := by simp [flatJ]
      have e2 : flatJ (a :: l) = a.cells ++ flatJ l := by simp [flatJ]
      have h5 : a.cells.length = 3 := rfl
      rw [e, e2, List.set_append_right _ _ (by rw [h5]; omega), ih k (by simpa using hk) (by simpa using ht)]
      congr 2
      rw [h5]; omega
/-- One field of one job stored. -/
theorem OJ_field {base : Nat} {w : World} {b c : Nat} {l : List Jb} (h : OJ base w (some ⟨b, 0, none⟩) c l) (k j : Nat) (hk : k < l.length) (hj : j < 3) (u : Value) (t : Jb) (ht : t.cells = l[k].cells.set j u) :
    OJ base (w.setCell ⟨b, k * 3 + j, none⟩ u) (some ⟨b, 0, none⟩) c (l.set k t) ∧ w.grownBy (w.setCell ⟨b, k * 3 + j, none⟩ u) (some b) := by
  have h1 := World.ownsRow.stored h (k * 3 + j) u
  refine ⟨?_, h1.2⟩
  unfold OJ
  rw [flatJ_set l k j hk hj u t ht, List.length_set]
  exact h1.1
def RetJ (w : World) (l : List Jb) (e : Ending) (w' : World) : Prop := ∃ A c, e = .returned (.slice A l.length c) ∧ OJ w.heap.size w' A c l ∧ Below w.heap.size w w'
def RetJB (w : World) (l : List Jb) (ok : Bool) (e : Ending) (w' : World) : Prop := ∃ A c, e = .returned (.tuple #[.slice A l.length c, .bool ok]) ∧ OJ w.heap.size w' A c l ∧ Below w.heap.size w w'
end Go.Proofs.YtmkjmancmiphfaaGreatDoor
