/-
  What the walks speak of: a task as a value and as five cells; a slice of tasks and a slice of integers in memory.
-/
import Derived.Test.YtmkjmancmiphfaaGreatDoorRows
import Derived.WalkKit
import Derived.Below
import Derived.Laws.OwnMore
import Derived.Deep.AppendLies
import Derived.Deep.Draws
import Derived.Deep.QuietTactic
import Derived.BigQuiet
import Derived.Outline
import Derived.WalkLawsBesides
import Derived.WalkSpells
import Derived.Lib.Hide
namespace Go.Proofs.YtmkjmancmiphfaaGreatDoor
open Go.RowKit

structure Tk where
  low : Int
  high : Int
  due : Int
  every : Int
  crit : Bool
deriving DecidableEq

def Tk.cells (t : Tk) : List Value := [.int .i64 t.low, .int .i64 t.high, .int .i64 t.due, .int .i64 t.every, .bool t.crit]
abbrev Tk.val (t : Tk) : Value := .agg #[.int .i64 t.low, .int .i64 t.high, .int .i64 t.due, .int .i64 t.every, .bool t.crit]

def flat (l : List Tk) : List Value := l.flatMap Tk.cells

theorem flat_length (l : List Tk) : (flat l).length = 5 * l.length := by
  induction l with
  | nil => rfl
  | cons t l ih => simp only [flat, List.flatMap_cons, List.length_append] at ih ⊢; simp [Tk.cells] at ih ⊢; omega

theorem flat_at (l : List Tk) (k j : Nat) (hk : k < l.length) (hj : j < 5) : (flat l)[k * 5 + j]? = (l[k].cells)[j]? := by
  induction l generalizing k with
  | nil => simp at hk
  | cons t l ih =>
    cases k with
    | zero =>
      simp only [flat, List.flatMap_cons, Nat.zero_mul, Nat.zero_add, List.getElem_cons_zero]
      rw [List.getElem?_append_left (by simp [Tk.cells]; omega)]
    | succ k =>
      simp only [flat, List.flatMap_cons, List.getElem_cons_succ]
      rw [List.getElem?_append_right (by simp [Tk.cells]; omega)]
      have e : (k + 1) * 5 + j - (Tk.cells t).length = k * 5 + j := by simp [Tk.cells]; omega
      rw [e]
      exact ih k (by simpa using hk)

/-- Two steps of 'Below', each from its own world on. -/
theorem bthru {W w1 w2 : World} (h1 : Below W.heap.size W w1) (h2 : Below w1.heap.size w1 w2) : Below W.heap.size W w2 := h1.trans (h2.mono h1.size)
theorem bal {W w1 : World} (h1 : Below W.heap.size W w1) (o : Obj) : Below W.heap.size W (w1.alloc o) := h1.alloc h1.size o
theorem bst {W w1 : World} (h1 : Below W.heap.size W w1) {p : Addr} (hp : W.heap.size ≤ p.block) (u : Value) : Below W.heap.size W (w1.setCell p u) := h1.setCell hp u
theorem bdr {W w1 : World} (h1 : Below W.heap.size W w1) (n : Nat) : Below W.heap.size W (w1.drewN n) := ⟨h1.os, h1.tape, h1.output, h1.size, h1.block⟩
theorem bcell {W w1 : World} (hb : Below W.heap.size W w1) : (∀ b o, b < W.heap.size → w1.cell? ⟨b, o, none⟩ = W.cell? ⟨b, o, none⟩) ∧ (∀ b o, b < W.heap.size → w1.frozen? ⟨b, o, none⟩ = W.frozen? ⟨b, o, none⟩) :=
  ⟨fun b o h => hb.cell (p := ⟨b, o, none⟩) h, fun b o h => hb.frozen (p := ⟨b, o, none⟩) h⟩

/-- A slice's address A holds the tasks l. -/
def TS (w : World) (A : Option Addr) (l : List Tk) : Prop :=
  0 < l.length → ∃ b off, A = some ⟨b, off, none⟩ ∧ b < w.heap.size ∧ ∀ j u, (flat l)[j]? = some u → w.cell? ⟨b, off + j, none⟩ = some u

/-- A slice's address A holds the integers l. -/
def IS (w : World) (A : Option Addr) (l : List Int) : Prop :=
  0 < l.length → ∃ b off, A = some ⟨b, off, none⟩ ∧ b < w.heap.size ∧ ∀ j u, l[j]? = some u → w.cell? ⟨b, off + j, none⟩ = some (.int .i64 u)

theorem TS.keep {w w' : World} {A : Option Addr} {l : List Tk} (h : TS w A l) (hb : Below w.heap.size w w') : TS w' A l := by
  intro hl
  obtain ⟨b, off, hA, hlt, hc⟩ := h hl
  exact ⟨b, off, hA, Nat.lt_of_lt_of_le hlt hb.size, fun j u hu => (hb.cell (p := ⟨b, off + j, none⟩) hlt).trans (hc j u hu)⟩

theorem IS.keep {w w' : World} {A : Option Addr} {l : List Int} (h : IS w A l) (hb : Below w.heap.size w w') : IS w' A l := by
  intro hl
  obtain ⟨b, off, hA, hlt, hc⟩ := h hl
  exact ⟨b, off, hA, Nat.lt_of_lt_of_le hlt hb.size, fun j u hu => (hb.cell (p := ⟨b, off + j, none⟩) hlt).trans (hc j u hu)⟩

/-- The five cells of the task at k. -/
theorem task_cells {w : World} {b off : Nat} {l : List Tk} (hc : ∀ j u, (flat l)[j]? = some u → w.cell? ⟨b, off + j, none⟩ = some u) (k : Nat) (hk : k < l.length) :
    w.cell? ⟨b, off + k * 5, none⟩ = some (.int .i64 l[k].low) ∧ w.cell? ⟨b, off + k * 5 + 1, none⟩ = some (.int .i64 l[k].high) ∧ w.cell? ⟨b, off + k * 5 + 2, none⟩ = some (.int .i64 l[k].due) ∧
    w.cell? ⟨b, off + k * 5 + 3, none⟩ = some (.int .i64 l[k].every) ∧ w.cell? ⟨b, off + k * 5 + 4, none⟩ = some (.bool l[k].crit) := by
  have h : ∀ j u, j < 5 → (l[k].cells)[j]? = some u → w.cell? ⟨b, off + k * 5 + j, none⟩ = some u := fun j u hj hu => by
    have := hc (k * 5 + j) u ((flat_at l k j hk hj).trans hu)
    simpa [Nat.add_assoc] using this
  exact ⟨by simpa using h 0 _ (by omega) rfl, h 1 _ (by omega) rfl, h 2 _ (by omega) rfl, h 3 _ (by omega) rfl, h 4 _ (by omega) rfl⟩

/-- A row of the call's own, from block 'base' on: the slice with address A and capacity c holds the tasks l. -/
def OT (base : Nat) (w : World) (A : Option Addr) (c : Nat) (l : List Tk) : Prop := w.ownsRow base 58 5 (.slice A l.length c) l.length (flat l)
/-- .. the integers l. -/
def OI (base : Nat) (w : World) (A : Option Addr) (c : Nat) (l : List Int) : Prop := w.ownsRow base 3 1 (.slice A l.length c) l.length (l.map (.int .i64))

theorem OT.ts {base : Nat} {w : World} {A : Option Addr} {c : Nat} {l : List Tk} (h : OT base w A c l) : TS w A l := by
  intro hl
  rcases h.2 with ⟨_, h0⟩ | ⟨g, cap, cur, hv, hg, hh, _⟩
  · omega
  · injection hv with hA hn hc
    refine ⟨g, 0, hA, (Array.getElem?_eq_some_iff.1 hh).1, fun j u hu => ?_⟩
    have := h.cells (g := g) (by subst hA; rfl) j u hu
    have e : (⟨g, 0, none⟩ : Addr).add j = ⟨g, 0 + j, none⟩ := by unfold Addr.add; split <;> simp_all
    rw [← e]; exact this
theorem OI.is {base : Nat} {w : World} {A : Option Addr} {c : Nat} {l : List Int} (h : OI base w A c l) : IS w A l := by
  intro hl
  rcases h.2 with ⟨_, h0⟩ | ⟨g, cap, cur, hv, hg, hh, _⟩
  · omega
  · injection hv with hA hn hc
    refine ⟨g, 0, hA, (Array.getElem?_eq_some_iff.1 hh).1, fun j u hu => ?_⟩
    have := h.cells (g := g) (by subst hA; rfl) j (.int .i64 u) (by simp [hu])
    have e : (⟨g, 0, none⟩ : Addr).add j = ⟨g, 0 + j, none⟩ := by unfold Addr.add; split <;> simp_all
    rw [← e]; exact this
theorem own_keep {base : Nat} {w w' : World} {t : TypeId} {size : Nat} {v : Value} {n : Nat} {xs : List Value} (h : w.ownsRow base t size v n xs) (hb : Below w.heap.size w w') : w'.ownsRow base t size v n xs := by
  refine ⟨h.1, ?_⟩
  rcases h.2 with hn | ⟨g, cap, cur, hv, hg, hh, rest⟩
  · exact .inl hn
  · exact .inr ⟨g, cap, cur, hv, hg, by rw [hb.block g (Array.getElem?_eq_some_iff.1 hh).1]; exact hh, rest⟩
theorem own_base {base base' : Nat} {w : World} {t : TypeId} {size : Nat} {v : Value} {n : Nat} {xs : List Value} (h : w.ownsRow base t size v n xs) (hb : base' ≤ base) : w.ownsRow base' t size v n xs := by
  refine ⟨h.1, ?_⟩
  rcases h.2 with hn | ⟨g, cap, cur, hv, hg, rest⟩
  · exact .inl hn
  · exact .inr ⟨g, cap, cur, hv, Nat.le_trans hb hg, rest⟩
theorem own_size {base : Nat} {w : World} {t : TypeId} {size : Nat} {A : Option Addr} {n c : Nat} {xs : List Value} (h : w.ownsRow base t size (.slice A n c) n xs) : n ≤ c ∧ c ≤ maxLen := by
  rcases h.2 with ⟨hn, h0⟩ | ⟨g, cap, cur, hv, hg, _, h1, h2, _⟩
  · injection hn with _ _ hc; subst hc; subst h0; exact ⟨Nat.le_refl _, Nat.zero_le _⟩
  · injection hv with _ _ hc; subst hc; exact ⟨h1, h2⟩

/-- The five cells of a row of the call's own at k, and that none is frozen. -/
theorem own_five {base : Nat} {w : World} {t : TypeId} {g n cap : Nat} {xs : List Value} (h : w.ownsRow base t 5 (.slice (some ⟨g, 0, none⟩) n cap) n xs) (k : Nat) (hk : k < n) :
    (∃ v0 v1 v2 v3 v4, w.cell? ⟨g, k * 5, none⟩ = some v0 ∧ w.cell? ⟨g, k * 5 + 1, none⟩ = some v1 ∧ w.cell? ⟨g, k * 5 + 2, none⟩ = some v2 ∧ w.cell? ⟨g, k * 5 + 3, none⟩ = some v3 ∧ w.cell? ⟨g, k * 5 + 4, none⟩ = some v4) ∧
    ∀ j, w.frozen? ⟨g, j, none⟩ = false := by
  have hx := h.1
  have hc : ∀ j (hj : j < 5), w.cell? ⟨g, k * 5 + j, none⟩ = some (xs[k * 5 + j]'(by omega)) := fun j hj => by rw [h.cellAt _ (by omega)]; exact List.getElem?_eq_getElem _
  exact ⟨⟨_, _, _, _, _, hc 0 (by omega), hc 1 (by omega), hc 2 (by omega), hc 3 (by omega), hc 4 (by omega)⟩, fun j => h.frozenAt j⟩
theorem own_store5 {base : Nat} {w : World} {t : TypeId} {g n cap : Nat} {xs : List Value} (h : w.ownsRow base t 5 (.slice (some ⟨g, 0, none⟩) n cap) n xs) (k : Nat) (hk : k < n) (v0 v1 v2 v3 v4 : Value) :
    ∃ ys, (((((w.setCell ⟨g, k * 5, none⟩ v0).setCell ⟨g, k * 5 + 1, none⟩ v1).setCell ⟨g, k * 5 + 2, none⟩ v2).setCell ⟨g, k * 5 + 3, none⟩ v3).setCell ⟨g, k * 5 + 4, none⟩ v4).ownsRow base t 5 (.slice (some ⟨g, 0, none⟩) n cap) n ys ∧
      ys.take ((k + 1) * 5) = xs.take (k * 5) ++ [v0, v1, v2, v3, v4] := by
  have hx := h.1
  refine ⟨_, (((((h.stored (k * 5) v0).1.stored (k * 5 + 1) v1).1.stored (k * 5 + 2) v2).1.stored (k * 5 + 3) v3).1.stored (k * 5 + 4) v4).1, ?_⟩
  apply List.ext_getElem?
  intro j
  have hl : (xs.take (k * 5)).length = k * 5 := by simp; omega
  rcases Nat.lt_or_ge j (k * 5) with h1 | h1
  · rw [List.getElem?_append_left (by omega), List.getElem?_take_of_lt (by omega), List.getElem?_take_of_lt h1]
    simp only [List.getElem?_set]
    repeat rw [if_neg (by omega)]
  · rw [List.getElem?_append_right (by omega), hl]
    rcases Nat.lt_or_ge j (k * 5 + 5) with h2 | h2
    · rw [List.getElem?_take_of_lt (by omega)]
      obtain ⟨d, rfl⟩ : ∃ d, j = k * 5 + d := ⟨j - k * 5, by omega⟩
      have hd : d < 5 := by omega
      have hlen : k * 5 + d < xs.length := by omega
      match d, hd with
      | 0, _ => simp [List.getElem?_set]; omega
      | 1, _ => simp [List.getElem?_set]; omega
      | 2, _ => simp [List.getElem?_set]; omega
      | 3, _ => simp [List.getElem?_set]; omega
      | 4, _ => simp [List.getElem?_set]; omega
    · rw [List.getElem?_eq_none (by simp; omega), List.getElem?_eq_none (by simp; omega)]

theorem take_five (l : List Tk) (k : Nat) (hk : k < l.length) : (flat l).take ((k + 1) * 5) = (flat l).take (k * 5) ++ l[k].cells := by
  have hl := flat_length l
  apply List.ext_getElem?
  intro j
  have hl' : ((flat l).take (k * 5)).length = k * 5 := by simp; omega
  rcases Nat.lt_or_ge j (k * 5) with h1 | h1
  · rw [List.getElem?_append_left (by omega), List.getElem?_take_of_lt (by omega), List.getElem?_take_of_lt h1]
  · rw [List.getElem?_append_right (by omega), hl']
    rcases Nat.lt_or_ge j (k * 5 + 5) with h2 | h2
    · rw [List.getElem?_take_of_lt (by omega)]
      have := flat_at l k (j - k * 5) hk (by omega)
      rw [← this]; congr 1; omega
    · rw [List.getElem?_eq_none (by simp; omega), List.getElem?_eq_none (by simp [Tk.cells]; omega)]

/-- make([]T, n): some row of n elements. -/
theorem run_make_n {P : Program} (t e : TypeId) (i : TypeInfo) (z : Value) (size : Nat) (ht : P.underlying t = some (.slice e)) (hi : P.info? e = some i) (hz : i.zero = some z) (hs : i.size = size) (hb : i.bytes ≤ 256) (n : Nat) (hn : n ≤ 16777216) :
    ∃ row : Array Value, row.size = n * size ∧ ∀ w : World, (Instr.makeSlice t (.int .i64 (n : Int)) (.int .i64 (n : Int))).run P w = .ok (.slice (some ⟨w.heap.size, 0, none⟩) n n) (w.alloc (.cells row e)) := by
  refine ⟨madeCells z.cells (n * i.size), by rw [size_madeCells, hs], fun w => ?_⟩
  have hb : (i.bytes : Int) * (n : Int) ≤ 281474976710656 := by
    have h : i.bytes * n ≤ 256 * 16777216 := Nat.mul_le_mul hb hn
    have h2 : ((i.bytes * n : Nat) : Int) ≤ 281474976710656 := by omega
    rwa [Int.natCast_mul] at h2
  have hr := run_make (P := P) w t e i z ht hi hz .i64 .i64 n n (by omega) (by omega) hb (by omega)
  simp only [Int.toNat_natCast] at hr
  exact hr
theorem own_new {w : World} {t : TypeId} {size n : Nat} {row : Array Value} (hs : row.size = n * size) (hn : n ≤ 16777216) :
    (w.alloc (.cells row t)).ownsRow w.heap.size t size (.slice (some ⟨w.heap.size, 0, none⟩) n n) n row.toList :=
  ⟨by simp [hs], .inr ⟨w.heap.size, n, row, rfl, Nat.le_refl _, heap_alloc_new w _, Nat.le_refl _, by unfold maxLen; omega, hs, by rw [List.take_of_length_le]; simp [hs]⟩⟩
/-- One cell of a row of the call's own at k. -/
theorem own_one {base : Nat} {w : World} {t : TypeId} {g n cap : Nat} {xs : List Value} (h : w.ownsRow base t 1 (.slice (some ⟨g, 0, none⟩) n cap) n xs) (k : Nat) (hk : k < n) :
    (∃ v0, w.cell? ⟨g, k, none⟩ = some v0) ∧ ∀ j, w.frozen? ⟨g, j, none⟩ = false := by
  have hx := h.1
  exact ⟨⟨_, by rw [h.cellAt _ (by omega)]; exact List.getElem?_eq_getElem (by omega)⟩, fun j => h.frozenAt j⟩
theorem own_store1 {base : Nat} {w : World} {t : TypeId} {g n cap : Nat} {xs : List Value} (h : w.ownsRow base t 1 (.slice (some ⟨g, 0, none⟩) n cap) n xs) (k : Nat) (hk : k < n) (v0 : Value) :
    ∃ ys, (w.setCell ⟨g, k, none⟩ v0).ownsRow base t 1 (.slice (some ⟨g, 0, none⟩) n cap) n ys ∧ ys.take (k + 1) = xs.take k ++ [v0] := by
  have hx := h.1
  refine ⟨_, (h.stored k v0).1, ?_⟩
  rw [List.take_succ_eq_append_getElem (by simp; omega), List.take_set_of_le (Nat.le_refl _)]
  simp

/-- What a call that hands back tasks in new memory leaves. -/
def RetT (w : World) (l : List Tk) (e : Ending) (w' : World) : Prop := ∃ A c, e = .returned (.slice A l.length c) ∧ OT w.heap.size w' A c l ∧ Below w.heap.size w w'
def RetI (w : World) (l : List Int) (e : Ending) (w' : World) : Prop := ∃ A c, e = .returned (.slice A l.length c) ∧ OI w.heap.size w' A c l ∧ Below w.heap.size w w'
def RetTB (w : World) (l : List Tk) (ok : Bool) (e : Ending) (w' : World) : Prop := ∃ A c, e = .returned (.tuple #[.slice A l.length c, .bool ok]) ∧ OT w.heap.size w' A c l ∧ Below w.heap.size w w'
def RetIB (w : World) (l : List Int) (ok : Bool) (e : Ending) (w' : World) : Prop := ∃ A c, e = .returned (.tuple #[.slice A l.length c, .bool ok]) ∧ OI w.heap.size w' A c l ∧ Below w.heap.size w w'

/-- A task is valid. -/
def vld (t : Tk) : Bool := decide (1 ≤ t.low ∧ t.low ≤ t.high ∧ t.high ≤ t.due ∧ t.due ≤ t.every ∧ t.every ≤ 20) && (t.crit || t.low == t.high)
def setVld (l : List Tk) : Bool := decide (l.length ≤ 5) && l.all vld

end Go.Proofs.YtmkjmancmiphfaaGreatDoor
