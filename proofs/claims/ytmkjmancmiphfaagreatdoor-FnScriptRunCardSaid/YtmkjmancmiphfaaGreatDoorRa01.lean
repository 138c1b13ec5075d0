/-
  What the walks speak of: a task as a value and as five cells; a slice of tasks and a slice of integers in memory.
  Append of one task, or one integer, to a row of the call's own.
  Jobs as values and as three cells; rows of jobs in memory; append of one job.
  Shares as rational numbers: plain arithmetic, no program.
  Shares: common, reduced, MakeShare, ShareValid, AddShares.
  Response times in plain Lean: the demand of a task, the sums, the least fixed point below a bound.
  TaskValid and SetValid: what they return.
  sumOf, LowShare, HighShare: the sums of shares.
  The walks of demand and l3Demand.
-/
import Derived.Test.YtmkjmancmiphfaaGreatDoorRows
import Derived.WalkKit
import Derived.Below
import Derived.Laws.OwnMore
import Derived.Deep.AppendLies
import Derived.Deep.Draws
import Derived.Deep.QuietTactic
import Derived.BigQuiet
import Derived.Outline
import Derived.WalkLawsBesides
import Derived.WalkSpells
import Derived.Lib.Hide
import Derived.RegionTactic
import Derived.BigRegion
import Derived.StillTailTactics
namespace Go.Proofs.YtmkjmancmiphfaaGreatDoor
section
open Go.RowKit

structure Tk where
  low : Int
  high : Int
  due : Int
  every : Int
  crit : Bool
deriving DecidableEq

def Tk.cells (t : Tk) : List Value := [.int .i64 t.low, .int .i64 t.high, .int .i64 t.due, .int .i64 t.every, .bool t.crit]
abbrev Tk.val (t : Tk) : Value := .agg #[.int .i64 t.low, .int .i64 t.high, .int .i64 t.due, .int .i64 t.every, .bool t.crit]

def flat (l : List Tk) : List Value := l.flatMap Tk.cells

theorem flat_length (l : List Tk) : (flat l).length = 5 * l.length := by
  induction l with
  | nil => rfl
  | cons t l ih => simp only [flat, List.flatMap_cons, List.length_append] at ih ⊢; simp [Tk.cells] at ih ⊢; omega

theorem flat_at (l : List Tk) (k j : Nat) (hk : k < l.length) (hj : j < 5) : (flat l)[k * 5 + j]? = (l[k].cells)[j]? := by
  induction l generalizing k with
  | nil => simp at hk
  | cons t l ih =>
    cases k with
    | zero =>
      simp only [flat, List.flatMap_cons, Nat.zero_mul, Nat.zero_add, List.getElem_cons_zero]
      rw [List.getElem?_append_left (by simp [Tk.cells]; omega)]
    | succ k =>
      simp only [flat, List.flatMap_cons, List.getElem_cons_succ]
      rw [List.getElem?_append_right (by simp [Tk.cells]; omega)]
      have e : (k + 1) * 5 + j - (Tk.cells t).length = k * 5 + j := by simp [Tk.cells]; omega
      rw [e]
      exact ih k (by simpa using hk)

/-- Two steps of 'Below', each from its own world on. -/
theorem bthru {W w1 w2 : World} (h1 : Below W.heap.size W w1) (h2 : Below w1.heap.size w1 w2) : Below W.heap.size W w2 := h1.trans (h2.mono h1.size)
theorem bal {W w1 : World} (h1 : Below W.heap.size W w1) (o : Obj) : Below W.heap.size W (w1.alloc o) := h1.alloc h1.size o
theorem bst {W w1 : World} (h1 : Below W.heap.size W w1) {p : Addr} (hp : W.heap.size ≤ p.block) (u : Value) : Below W.heap.size W (w1.setCell p u) := h1.setCell hp u
theorem bdr {W w1 : World} (h1 : Below W.heap.size W w1) (n : Nat) : Below W.heap.size W (w1.drewN n) := ⟨h1.os, h1.tape, h1.output, h1.size, h1.block⟩
/-- A slice's address A holds the tasks l. -/
def TS (w : World) (A : Option Addr) (l : List Tk) : Prop :=
  0 < l.length → ∃ b off, A = some ⟨b, off, none⟩ ∧ b < w.heap.size ∧ ∀ j u, (flat l)[j]? = some u → w.cell? ⟨b, off + j, none⟩ = some u

/-- A slice's address A holds the integers l. -/
def IS (w : World) (A : Option Addr) (l : List Int) : Prop :=
  0 < l.length → ∃ b off, A = some ⟨b, off, none⟩ ∧ b < w.heap.size ∧ ∀ j u, l[j]? = some u → w.cell? ⟨b, off + j, none⟩ = some (.int .i64 u)

theorem TS.keep {w w' : World} {A : Option Addr} {l : List Tk} (h : TS w A l) (hb : Below w.heap.size w w') : TS w' A l := by
  intro hl
  obtain ⟨b, off, hA, hlt, hc⟩ := h hl
  exact ⟨b, off, hA, Nat.lt_of_lt_of_le hlt hb.size, fun j u hu => (hb.cell (p := ⟨b, off + j, none⟩) hlt).trans (hc j u hu)⟩

theorem IS.keep {w w' : World} {A : Option Addr} {l : List Int} (h : IS w A l) (hb : Below w.heap.size w w') : IS w' A l := by
  intro hl
  obtain ⟨b, off, hA, hlt, hc⟩ := h hl
  exact ⟨b, off, hA, Nat.lt_of_lt_of_le hlt hb.size, fun j u hu => (hb.cell (p := ⟨b, off + j, none⟩) hlt).trans (hc j u hu)⟩

/-- The five cells of the task at k. -/
theorem task_cells {w : World} {b off : Nat} {l : List Tk} (hc : ∀ j u, (flat l)[j]? = some u → w.cell? ⟨b, off + j, none⟩ = some u) (k : Nat) (hk : k < l.length) :
    w.cell? ⟨b, off + k * 5, none⟩ = some (.int .i64 l[k].low) ∧ w.cell? ⟨b, off + k * 5 + 1, none⟩ = some (.int .i64 l[k].high) ∧ w.cell? ⟨b, off + k * 5 + 2, none⟩ = some (.int .i64 l[k].due) ∧
    w.cell? ⟨b, off + k * 5 + 3, none⟩ = some (.int .i64 l[k].every) ∧ w.cell? ⟨b, off + k * 5 + 4, none⟩ = some (.bool l[k].crit) := by
  have h : ∀ j u, j < 5 → (l[k].cells)[j]? = some u → w.cell? ⟨b, off + k * 5 + j, none⟩ = some u := fun j u hj hu => by
    have := hc (k * 5 + j) u ((flat_at l k j hk hj).trans hu)
    simpa [Nat.add_assoc] using this
  exact ⟨by simpa using h 0 _ (by omega) rfl, h 1 _ (by omega) rfl, h 2 _ (by omega) rfl, h 3 _ (by omega) rfl, h 4 _ (by omega) rfl⟩

/-- A row of the call's own, from block 'base' on: the slice with address A and capacity c holds the tasks l. -/
def OT (base : Nat) (w : World) (A : Option Addr) (c : Nat) (l : List Tk) : Prop := w.ownsRow base 58 5 (.slice A l.length c) l.length (flat l)
/-- .. the integers l. -/
def OI (base : Nat) (w : World) (A : Option Addr) (c : Nat) (l : List Int) : Prop := w.ownsRow base 3 1 (.slice A l.length c) l.length (l.map (.int .i64))

theorem OT.ts {base : Nat} {w : World} {A : Option Addr} {c : Nat} {l : List Tk} (h : OT base w A c l) : TS w A l := by
  intro hl
  rcases h.2 with ⟨_, h0⟩ | ⟨g, cap, cur, hv, hg, hh, _⟩
  · omega
  · injection hv with hA hn hc
    refine ⟨g, 0, hA, (Array.getElem?_eq_some_iff.1 hh).1, fun j u hu => ?_⟩
    have := h.cells (g := g) (by subst hA; rfl) j u hu
    have e : (⟨g, 0, none⟩ : Addr).add j = ⟨g, 0 + j, none⟩ := by unfold Addr.add; split <;> simp_all
    rw [← e]; exact this
theorem OI.is {base : Nat} {w : World} {A : Option Addr} {c : Nat} {l : List Int} (h : OI base w A c l) : IS w A l := by
  intro hl
  rcases h.2 with ⟨_, h0⟩ | ⟨g, cap, cur, hv, hg, hh, _⟩
  · omega
  · injection hv with hA hn hc
    refine ⟨g, 0, hA, (Array.getElem?_eq_some_iff.1 hh).1, fun j u hu => ?_⟩
    have := h.cells (g := g) (by subst hA; rfl) j (.int .i64 u) (by simp [hu])
    have e : (⟨g, 0, none⟩ : Addr).add j = ⟨g, 0 + j, none⟩ := by unfold Addr.add; split <;> simp_all
    rw [← e]; exact this
theorem own_keep {base : Nat} {w w' : World} {t : TypeId} {size : Nat} {v : Value} {n : Nat} {xs : List Value} (h : w.ownsRow base t size v n xs) (hb : Below w.heap.size w w') : w'.ownsRow base t size v n xs := by
  refine ⟨h.1, ?_⟩
  rcases h.2 with hn | ⟨g, cap, cur, hv, hg, hh, rest⟩
  · exact .inl hn
  · exact .inr ⟨g, cap, cur, hv, hg, by rw [hb.block g (Array.getElem?_eq_some_iff.1 hh).1]; exact hh, rest⟩
theorem own_base {base base' : Nat} {w : World} {t : TypeId} {size : Nat} {v : Value} {n : Nat} {xs : List Value} (h : w.ownsRow base t size v n xs) (hb : base' ≤ base) : w.ownsRow base' t size v n xs := by
  refine ⟨h.1, ?_⟩
  rcases h.2 with hn | ⟨g, cap, cur, hv, hg, rest⟩
  · exact .inl hn
  · exact .inr ⟨g, cap, cur, hv, Nat.le_trans hb hg, rest⟩
theorem own_size {base : Nat} {w : World} {t : TypeId} {size : Nat} {A : Option Addr} {n c : Nat} {xs : List Value} (h : w.ownsRow base t size (.slice A n c) n xs) : n ≤ c ∧ c ≤ maxLen := by
  rcases h.2 with ⟨hn, h0⟩ | ⟨g, cap, cur, hv, hg, _, h1, h2, _⟩
  · injection hn with _ _ hc; subst hc; subst h0; exact ⟨Nat.le_refl _, Nat.zero_le _⟩
  · injection hv with _ _ hc; subst hc; exact ⟨h1, h2⟩

theorem own_new {w : World} {t : TypeId} {size n : Nat} {row : Array Value} (hs : row.size = n * size) (hn : n ≤ 16777216) :
    (w.alloc (.cells row t)).ownsRow w.heap.size t size (.slice (some ⟨w.heap.size, 0, none⟩) n n) n row.toList :=
  ⟨by simp [hs], .inr ⟨w.heap.size, n, row, rfl, Nat.le_refl _, heap_alloc_new w _, Nat.le_refl _, by unfold maxLen; omega, hs, by rw [List.take_of_length_le]; simp [hs]⟩⟩
/-- What a call that hands back tasks in new memory leaves. -/
def RetT (w : World) (l : List Tk) (e : Ending) (w' : World) : Prop := ∃ A c, e = .returned (.slice A l.length c) ∧ OT w.heap.size w' A c l ∧ Below w.heap.size w w'
def RetI (w : World) (l : List Int) (e : Ending) (w' : World) : Prop := ∃ A c, e = .returned (.slice A l.length c) ∧ OI w.heap.size w' A c l ∧ Below w.heap.size w w'
def RetTB (w : World) (l : List Tk) (ok : Bool) (e : Ending) (w' : World) : Prop := ∃ A c, e = .returned (.tuple #[.slice A l.length c, .bool ok]) ∧ OT w.heap.size w' A c l ∧ Below w.heap.size w w'
/-- A task is valid. -/
def vld (t : Tk) : Bool := decide (1 ≤ t.low ∧ t.low ≤ t.high ∧ t.high ≤ t.due ∧ t.due ≤ t.every ∧ t.every ≤ 20) && (t.crit || t.low == t.high)
def setVld (l : List Tk) : Bool := decide (l.length ≤ 5) && l.all vld
end

section
open Go.RowKit

theorem infoIntB : (Tryz.prog.info? 3).map (fun i => (i.zero, i.size, i.bytes)) = some (some (.int .i64 0), 1, 8) := by kernel_rfl
theorem infoTaskB : (Tryz.prog.info? 58).map (fun i => (i.zero, i.size, i.bytes)) = some (some (.agg #[.int .i64 0, .int .i64 0, .int .i64 0, .int .i64 0, .bool false]), 5, 40) := by kernel_rfl

theorem flat_append (l m : List Tk) : flat (l ++ m) = flat l ++ flat m := by simp [flat]
theorem own_form {base : Nat} {w : World} {t : TypeId} {size : Nat} {v : Value} {n : Nat} {xs : List Value} (h : w.ownsRow base t size v n xs) : ∃ A c, v = .slice A n c := by
  rcases h.2 with ⟨rfl, rfl⟩ | ⟨g, cap, cur, rfl, _⟩
  · exact ⟨none, 0, rfl⟩
  · exact ⟨_, _, rfl⟩
theorem own_below {base : Nat} {w w' : World} {t : TypeId} {size : Nat} {v : Value} {n : Nat} {xs : List Value} (h : w.ownsRow base t size v n xs) (hg : w.grownBy w' v.ownBlock) (hb : base ≤ w.heap.size) : Below base w w' :=
  (Below.refl _ _).grown hg hb (fun k hk => (h.lt k hk).1)
theorem addr_add0 (b j : Nat) : (⟨b, 0, none⟩ : Addr).add j = ⟨b, j, none⟩ := by unfold Addr.add; split <;> simp_all

section
variable (w : World)
theorem wpList_app_task {ops : Array Oper} {rest : List Oper} {o : Oper} {a : Act} {Q : Exit → Act → World → Prop} (hgd : o.guard = none) (s x : Operand)
    (ho : o.op = .call { callee := .builtin .append, args := #[s, x], argTypes := #[23, 23] })
    (base : Nat) (A : Option Addr) (l : List Tk) (c : Nat) (hs : a.eval s = .slice A l.length c) (hown : OT base w A c l)
    (b c1 : Nat) (t : Tk) (cs : Array Value) (ty : TypeId) (hx : a.eval x = .slice (some ⟨b, 0, none⟩) 1 c1) (hb : w.heap[b]? = some (.cells cs ty (0, 0))) (hcs : cs.toList = t.cells)
    (hl : l.length ≤ 2000000) (hbase : base ≤ w.heap.size)
    (h : ∀ A' c' w', OT base w' A' c' (l ++ [t]) → w.grownBy w' (Value.slice A l.length c).ownBlock → Below base w w' → wpList Tryz.prog ops Q rest (a.put o.dst (.slice A' (l.length + 1) c')) w') : wpList Tryz.prog ops Q (o :: rest) a w := by
  obtain ⟨i0, hi, hz0, hz1, hz2⟩ := info_parts infoTaskB
  refine wpList_append_own w hgd s x 23 ho base 58 i0 _ 5 40 Tryz.underlying23 hi hz0 hz1 hz2 rfl (by decide) (.slice A l.length c) l.length (flat l) hs hown
    ⟨b, 0, none⟩ 1 c1 t.cells hx rfl ?_ ?_ (by unfold maxLen; omega) (by omega) hbase ?_
  · intro j u hj
    rw [addr_add0, cell_of_row w b j cs ty (0, 0) hb, ← Array.getElem?_toList, hcs]
    exact hj
  · intro u hu
    simp [Tk.cells] at hu
    rcases hu with rfl | rfl | rfl | rfl | rfl <;> rfl
  · intro v' w' hown' hg _
    obtain ⟨A', c', rfl⟩ := own_form hown'
    refine h A' c' w' ?_ hg (own_below hown hg hbase)
    unfold OT
    rw [List.length_append, List.length_singleton, flat_append]
    have e : flat [t] = t.cells := by simp [flat]
    rw [e]
    exact hown'

end

/-- An empty row of the call's own: nil, or a row without room. -/
theorem OT_nil (base : Nat) (w : World) : OT base w none 0 [] := World.ownsRow_nil _ _ _ _
theorem OI_nil (base : Nat) (w : World) : OI base w none 0 [] := World.ownsRow_nil _ _ _ _
theorem own_blank (w : World) (t : TypeId) (size base : Nat) (hb : base ≤ w.heap.size) : (w.alloc (.cells #[] t)).ownsRow base t size (.slice (some ⟨w.heap.size, 0, none⟩) 0 0) 0 [] :=
  ⟨by simp, .inr ⟨w.heap.size, 0, #[], rfl, hb, heap_alloc_new w _, Nat.le_refl _, by simp [maxLen], by simp, by simp⟩⟩
theorem OT_blank (w : World) (base : Nat) (hb : base ≤ w.heap.size) : OT base (w.alloc (.cells #[] 58)) (some ⟨w.heap.size, 0, none⟩) 0 [] := own_blank w _ 5 base hb
theorem OI_blank (w : World) (base : Nat) (hb : base ≤ w.heap.size) : OI base (w.alloc (.cells #[] 3)) (some ⟨w.heap.size, 0, none⟩) 0 [] := own_blank w _ 1 base hb
theorem OT_alloc {base : Nat} {w : World} {A : Option Addr} {c : Nat} {l : List Tk} (h : OT base w A c l) (o : Obj) : OT base (w.alloc o) A c l := World.ownsRow.alloc h o
theorem OI_alloc {base : Nat} {w : World} {A : Option Addr} {c : Nat} {l : List Int} (h : OI base w A c l) (o : Obj) : OI base (w.alloc o) A c l := World.ownsRow.alloc h o
theorem OT_keep {base : Nat} {w w' : World} {A : Option Addr} {c : Nat} {l : List Tk} (h : OT base w A c l) (hb : Below w.heap.size w w') : OT base w' A c l := own_keep h hb
theorem OI_keep {base : Nat} {w w' : World} {A : Option Addr} {c : Nat} {l : List Int} (h : OI base w A c l) (hb : Below w.heap.size w w') : OI base w' A c l := own_keep h hb

theorem flat_take (l : List Tk) (k : Nat) : (flat l).take (k * 5) = flat (l.take k) := by
  induction l generalizing k with
  | nil => simp [flat]
  | cons t l ih =>
    cases k with
    | zero => simp [flat]
    | succ k =>
      have e : flat (t :: l) = t.cells ++ flat l := by simp [flat]
      have e2 : flat ((t :: l).take (k + 1)) = t.cells ++ flat (l.take k) := by simp [flat]
      rw [e, e2, ← ih, List.take_append]
      have h5 : t.cells.length = 5 := rfl
      rw [h5, List.take_of_length_le (by rw [h5]; omega)]
      congr 2
      omega
theorem OT_addr {base : Nat} {w : World} {A : Option Addr} {c : Nat} {l : List Tk} (h : OT base w A c l) (hl : 0 < l.length) : ∃ b, A = some ⟨b, 0, none⟩ ∧ base ≤ b ∧ b < w.heap.size := by
  rcases h.2 with ⟨_, h0⟩ | ⟨g, cap, cur, hv, hg, hh, _⟩
  · omega
  · injection hv with hA
    exact ⟨g, hA, hg, (Array.getElem?_eq_some_iff.1 hh).1⟩
theorem flat_set (l : List Tk) (k j : Nat) (hk : k < l.length) (hj : j < 5) (u : Value) (t : Tk) (ht : t.cells = l[k].cells.set j u) : flat (l.set k t) = (flat l).set (k * 5 + j) u := by
  induction l generalizing k with
  | nil => simp at hk
  | cons a l ih =>
    cases k with
    | zero =>
      have e : flat ((a :: l).set 0 t) = t.cells ++ flat l := by simp [flat]
      have e2 : flat (a :: l) = a.cells ++ flat l := by simp [flat]
      rw [e, e2, ht, Nat.zero_mul, Nat.zero_add, List.set_append_left _ _ (by simp [Tk.cells]; omega)]
      rfl
    | succ k =>
      have e : flat ((a :: l).set (k + 1) t) = a.cells ++ flat (l.set k t) := by simp [flat]
      have e2 : flat (a :: l) = a.cells ++ flat l := by simp [flat]
      have h5 : a.cells.length = 5 := rfl
      rw [e, e2, List.set_append_right _ _ (by rw [h5]; omega), ih k (by simpa using hk) (by simpa using ht)]
      congr 2
      rw [h5]; omega
/-- One field of one task stored. -/
theorem OT_field {base : Nat} {w : World} {b c : Nat} {l : List Tk} (h : OT base w (some ⟨b, 0, none⟩) c l) (k j : Nat) (hk : k < l.length) (hj : j < 5) (u : Value) (t : Tk) (ht : t.cells = l[k].cells.set j u) :
    OT base (w.setCell ⟨b, k * 5 + j, none⟩ u) (some ⟨b, 0, none⟩) c (l.set k t) ∧ w.grownBy (w.setCell ⟨b, k * 5 + j, none⟩ u) (some b) := by
  have h1 := World.ownsRow.stored h (k * 5 + j) u
  refine ⟨?_, h1.2⟩
  unfold OT
  rw [flat_set l k j hk hj u t ht, List.length_set]
  exact h1.1
/-- A whole task stored. -/
theorem flat_setAll (l : List Tk) (k : Nat) (hk : k < l.length) (t : Tk) : flat (l.set k t) = (((((flat l).set (k * 5) (.int .i64 t.low)).set (k * 5 + 1) (.int .i64 t.high)).set (k * 5 + 2) (.int .i64 t.due)).set (k * 5 + 3) (.int .i64 t.every)).set (k * 5 + 4) (.bool t.crit) := by
  have hlen : ∀ s : Tk, (l.set k s).length = l.length := fun s => List.length_set
  have e0 := flat_set l k 0 hk (by omega) (.int .i64 t.low) ⟨t.low, l[k].high, l[k].due, l[k].every, l[k].crit⟩ rfl
  have e1 := flat_set (l.set k ⟨t.low, l[k].high, l[k].due, l[k].every, l[k].crit⟩) k 1 (by rw [hlen]; exact hk) (by omega) (.int .i64 t.high) ⟨t.low, t.high, l[k].due, l[k].every, l[k].crit⟩ (by rw [List.getElem_set_self]; rfl)
  have e2 := flat_set (l.set k ⟨t.low, t.high, l[k].due, l[k].every, l[k].crit⟩) k 2 (by rw [hlen]; exact hk) (by omega) (.int .i64 t.due) ⟨t.low, t.high, t.due, l[k].every, l[k].crit⟩ (by rw [List.getElem_set_self]; rfl)
  have e3 := flat_set (l.set k ⟨t.low, t.high, t.due, l[k].every, l[k].crit⟩) k 3 (by rw [hlen]; exact hk) (by omega) (.int .i64 t.every) ⟨t.low, t.high, t.due, t.every, l[k].crit⟩ (by rw [List.getElem_set_self]; rfl)
  have e4 := flat_set (l.set k ⟨t.low, t.high, t.due, t.every, l[k].crit⟩) k 4 (by rw [hlen]; exact hk) (by omega) (.bool t.crit) t (by rw [List.getElem_set_self]; rfl)
  simp only [List.set_set, Nat.add_zero] at e0 e1 e2 e3 e4
  rw [e4, e3, e2, e1, e0]
theorem own_set5 {base : Nat} {w : World} {ty : TypeId} {b n c : Nat} {xs : List Value} (h : w.ownsRow base ty 5 (.slice (some ⟨b, 0, none⟩) n c) n xs) (i0 i1 i2 i3 i4 : Nat) (u0 u1 u2 u3 u4 : Value) :
    (((((w.setCell ⟨b, i0, none⟩ u0).setCell ⟨b, i1, none⟩ u1).setCell ⟨b, i2, none⟩ u2).setCell ⟨b, i3, none⟩ u3).setCell ⟨b, i4, none⟩ u4).ownsRow base ty 5 (.slice (some ⟨b, 0, none⟩) n c) n (((((xs.set i0 u0).set i1 u1).set i2 u2).set i3 u3).set i4 u4) := by
  have h0 := (World.ownsRow.stored h i0 u0).1
  have h1 := (World.ownsRow.stored h0 i1 u1).1
  have h2 := (World.ownsRow.stored h1 i2 u2).1
  have h3 := (World.ownsRow.stored h2 i3 u3).1
  exact (World.ownsRow.stored h3 i4 u4).1
theorem OT_whole {base : Nat} {w : World} {b c : Nat} {l : List Tk} (h : OT base w (some ⟨b, 0, none⟩) c l) (k : Nat) (hk : k < l.length) (t : Tk) :
    OT base (((((w.setCell ⟨b, k * 5, none⟩ (.int .i64 t.low)).setCell ⟨b, k * 5 + 1, none⟩ (.int .i64 t.high)).setCell ⟨b, k * 5 + 2, none⟩ (.int .i64 t.due)).setCell ⟨b, k * 5 + 3, none⟩ (.int .i64 t.every)).setCell ⟨b, k * 5 + 4, none⟩ (.bool t.crit)) (some ⟨b, 0, none⟩) c (l.set k t) := by
  have h5 := own_set5 h (k * 5) (k * 5 + 1) (k * 5 + 2) (k * 5 + 3) (k * 5 + 4) (.int .i64 t.low) (.int .i64 t.high) (.int .i64 t.due) (.int .i64 t.every) (.bool t.crit)
  rw [← flat_setAll l k hk t] at h5
  unfold OT
  rw [List.length_set]
  exact h5
end

section
open Go.RowKit

structure Jb where
  task : Int
  at_ : Int
  need : Int
deriving DecidableEq

def Jb.cells (t : Jb) : List Value := [.int .i64 t.task, .int .i64 t.at_, .int .i64 t.need]
abbrev Jb.val (t : Jb) : Value := .agg #[.int .i64 t.task, .int .i64 t.at_, .int .i64 t.need]
def flatJ (l : List Jb) : List Value := l.flatMap Jb.cells
theorem flatJ_length (l : List Jb) : (flatJ l).length = 3 * l.length := by
  induction l with
  | nil => rfl
  | cons t l ih => simp only [flatJ, List.flatMap_cons, List.length_append] at ih ⊢; simp [Jb.cells] at ih ⊢; omega
theorem flatJ_at (l : List Jb) (k j : Nat) (hk : k < l.length) (hj : j < 3) : (flatJ l)[k * 3 + j]? = (l[k].cells)[j]? := by
  induction l generalizing k with
  | nil => simp at hk
  | cons t l ih =>
    cases k with
    | zero =>
      simp only [flatJ, List.flatMap_cons, Nat.zero_mul, Nat.zero_add, List.getElem_cons_zero]
      rw [List.getElem?_append_left (by simp [Jb.cells]; omega)]
    | succ k =>
      simp only [flatJ, List.flatMap_cons, List.getElem_cons_succ]
      rw [List.getElem?_append_right (by simp [Jb.cells]; omega)]
      have e : (k + 1) * 3 + j - (Jb.cells t).length = k * 3 + j := by simp [Jb.cells]; omega
      rw [e]
      exact ih k (by simpa using hk)

/-- A slice's address A holds the jobs l. -/
def JS (w : World) (A : Option Addr) (l : List Jb) : Prop :=
  0 < l.length → ∃ b off, A = some ⟨b, off, none⟩ ∧ b < w.heap.size ∧ ∀ j u, (flatJ l)[j]? = some u → w.cell? ⟨b, off + j, none⟩ = some u
theorem JS.keep {w w' : World} {A : Option Addr} {l : List Jb} (h : JS w A l) (hb : Below w.heap.size w w') : JS w' A l := by
  intro hl
  obtain ⟨b, off, hA, hlt, hc⟩ := h hl
  exact ⟨b, off, hA, Nat.lt_of_lt_of_le hlt hb.size, fun j u hu => (hb.cell (p := ⟨b, off + j, none⟩) hlt).trans (hc j u hu)⟩
/-- The three cells of the job at k. -/
theorem job_cells {w : World} {b off : Nat} {l : List Jb} (hc : ∀ j u, (flatJ l)[j]? = some u → w.cell? ⟨b, off + j, none⟩ = some u) (k : Nat) (hk : k < l.length) :
    w.cell? ⟨b, off + k * 3, none⟩ = some (.int .i64 l[k].task) ∧ w.cell? ⟨b, off + k * 3 + 1, none⟩ = some (.int .i64 l[k].at_) ∧ w.cell? ⟨b, off + k * 3 + 2, none⟩ = some (.int .i64 l[k].need) := by
  have h : ∀ j u, j < 3 → (l[k].cells)[j]? = some u → w.cell? ⟨b, off + k * 3 + j, none⟩ = some u := fun j u hj hu => by
    have := hc (k * 3 + j) u ((flatJ_at l k j hk hj).trans hu)
    simpa [Nat.add_assoc] using this
  exact ⟨by simpa using h 0 _ (by omega) rfl, h 1 _ (by omega) rfl, h 2 _ (by omega) rfl⟩
/-- A row of the call's own, from block 'base' on: the slice with address A and capacity c holds the jobs l. -/
def OJ (base : Nat) (w : World) (A : Option Addr) (c : Nat) (l : List Jb) : Prop := w.ownsRow base 60 3 (.slice A l.length c) l.length (flatJ l)
theorem OJ.js {base : Nat} {w : World} {A : Option Addr} {c : Nat} {l : List Jb} (h : OJ base w A c l) : JS w A l := by
  intro hl
  rcases h.2 with ⟨_, h0⟩ | ⟨g, cap, cur, hv, hg, hh, _⟩
  · omega
  · injection hv with hA hn hc
    refine ⟨g, 0, hA, (Array.getElem?_eq_some_iff.1 hh).1, fun j u hu => ?_⟩
    have := h.cells (g := g) (by subst hA; rfl) j u hu
    have e : (⟨g, 0, none⟩ : Addr).add j = ⟨g, 0 + j, none⟩ := by unfold Addr.add; split <;> simp_all
    rw [← e]; exact this
theorem infoJobB : (Tryz.prog.info? 60).map (fun i => (i.zero, i.size, i.bytes)) = some (some (.agg #[.int .i64 0, .int .i64 0, .int .i64 0]), 3, 24) := by kernel_rfl
theorem flatJ_append (l m : List Jb) : flatJ (l ++ m) = flatJ l ++ flatJ m := by simp [flatJ]
theorem wpList_app_job (w : World) {ops : Array Oper} {rest : List Oper} {o : Oper} {a : Act} {Q : Exit → Act → World → Prop} (hgd : o.guard = none) (s x : Operand)
    (ho : o.op = .call { callee := .builtin .append, args := #[s, x], argTypes := #[24, 24] })
    (base : Nat) (A : Option Addr) (l : List Jb) (n c : Nat) (hn : l.length = n) (hs : a.eval s = .slice A n c) (hown : OJ base w A c l)
    (b c1 : Nat) (t : Jb) (cs : Array Value) (ty : TypeId) (hx : a.eval x = .slice (some ⟨b, 0, none⟩) 1 c1) (hb : w.heap[b]? = some (.cells cs ty (0, 0))) (hcs : cs.toList = t.cells)
    (hl : l.length ≤ 2000000) (hbase : base ≤ w.heap.size)
    (h : ∀ A' c' w', OJ base w' A' c' (l ++ [t]) → w.grownBy w' (Value.slice A n c).ownBlock → Below base w w' → wpList Tryz.prog ops Q rest (a.put o.dst (.slice A' (n + 1) c')) w') : wpList Tryz.prog ops Q (o :: rest) a w := by
  subst hn
  obtain ⟨i0, hi, hz0, hz1, hz2⟩ := info_parts infoJobB
  refine wpList_append_own w hgd s x 24 ho base 60 i0 _ 3 24 Tryz.underlying24 hi hz0 hz1 hz2 rfl (by decide) (.slice A l.length c) l.length (flatJ l) hs hown
    ⟨b, 0, none⟩ 1 c1 t.cells hx rfl ?_ ?_ (by unfold maxLen; omega) (by omega) hbase ?_
  · intro j u hj
    rw [addr_add0, cell_of_row w b j cs ty (0, 0) hb, ← Array.getElem?_toList, hcs]
    exact hj
  · intro u hu
    simp [Jb.cells] at hu
    rcases hu with rfl | rfl | rfl <;> rfl
  · intro v' w' hown' hg _
    obtain ⟨A', c', rfl⟩ := own_form hown'
    refine h A' c' w' ?_ hg (own_below hown hg hbase)
    unfold OJ
    rw [List.length_append, List.length_singleton, flatJ_append]
    have e : flatJ [t] = t.cells := by simp [flatJ]
    rw [e]
    exact hown'
theorem OJ_blank (w : World) (base : Nat) (hb : base ≤ w.heap.size) : OJ base (w.alloc (.cells #[] 60)) (some ⟨w.heap.size, 0, none⟩) 0 [] := own_blank w _ 3 base hb
theorem OJ_alloc {base : Nat} {w : World} {A : Option Addr} {c : Nat} {l : List Jb} (h : OJ base w A c l) (o : Obj) : OJ base (w.alloc o) A c l := World.ownsRow.alloc h o
theorem OJ_keep {base : Nat} {w w' : World} {A : Option Addr} {c : Nat} {l : List Jb} (h : OJ base w A c l) (hb : Below w.heap.size w w') : OJ base w' A c l := own_keep h hb
theorem OJ_addr {base : Nat} {w : World} {A : Option Addr} {c : Nat} {l : List Jb} (h : OJ base w A c l) (hl : 0 < l.length) : ∃ b, A = some ⟨b, 0, none⟩ ∧ base ≤ b ∧ b < w.heap.size := by
  rcases h.2 with ⟨_, h0⟩ | ⟨g, cap, cur, hv, hg, hh, _⟩
  · omega
  · injection hv with hA
    exact ⟨g, hA, hg, (Array.getElem?_eq_some_iff.1 hh).1⟩
theorem flatJ_take (l : List Jb) (k : Nat) : (flatJ l).take (k * 3) = flatJ (l.take k) := by
  induction l generalizing k with
  | nil => simp [flatJ]
  | cons t l ih =>
    cases k with
    | zero => simp [flatJ]
    | succ k =>
      have e : flatJ (t :: l) = t.cells ++ flatJ l := by simp [flatJ]
      have e2 : flatJ ((t :: l).take (k + 1)) = t.cells ++ flatJ (l.take k) := by simp [flatJ]
      rw [e, e2, ← ih, List.take_append]
      have h5 : t.cells.length = 3 := rfl
      rw [h5, List.take_of_length_le (by rw [h5]; omega)]
      congr 2
      omega
theorem flatJ_set (l : List Jb) (k j : Nat) (hk : k < l.length) (hj : j < 3) (u : Value) (t : Jb) (ht : t.cells = l[k].cells.set j u) : flatJ (l.set k t) = (flatJ l).set (k * 3 + j) u := by
  induction l generalizing k with
  | nil => simp at hk
  | cons a l ih =>
    cases k with
    | zero =>
      have e : flatJ ((a :: l).set 0 t) = t.cells ++ flatJ l := by simp [flatJ]
      have e2 : flatJ (a :: l) = a.cells ++ flatJ l := by simp [flatJ]
      rw [e, e2, ht, Nat.zero_mul, Nat.zero_add, List.set_append_left _ _ (by simp [Jb.cells]; omega)]
      rfl
    | succ k =>
      have e : flatJ ((a :: l).set (k + 1) t) = a.cells ++ flatJ (l.set k t) := by simp [flatJ]
      have e2 : flatJ (a :: l) = a.cells ++ flatJ l := by simp [flatJ]
      have h5 : a.cells.length = 3 := rfl
      rw [e, e2, List.set_append_right _ _ (by rw [h5]; omega), ih k (by simpa using hk) (by simpa using ht)]
      congr 2
      rw [h5]; omega
/-- One field of one job stored. -/
theorem OJ_field {base : Nat} {w : World} {b c : Nat} {l : List Jb} (h : OJ base w (some ⟨b, 0, none⟩) c l) (k j : Nat) (hk : k < l.length) (hj : j < 3) (u : Value) (t : Jb) (ht : t.cells = l[k].cells.set j u) :
    OJ base (w.setCell ⟨b, k * 3 + j, none⟩ u) (some ⟨b, 0, none⟩) c (l.set k t) ∧ w.grownBy (w.setCell ⟨b, k * 3 + j, none⟩ u) (some b) := by
  have h1 := World.ownsRow.stored h (k * 3 + j) u
  refine ⟨?_, h1.2⟩
  unfold OJ
  rw [flatJ_set l k j hk hj u t ht, List.length_set]
  exact h1.1
def RetJB (w : World) (l : List Jb) (ok : Bool) (e : Ending) (w' : World) : Prop := ∃ A c, e = .returned (.tuple #[.slice A l.length c, .bool ok]) ∧ OJ w.heap.size w' A c l ∧ Below w.heap.size w w'
end

section
open Go.RowKit

/-- n/d in lowest terms. -/
theorem mkRat_num (n : Int) (d : Nat) (hd : d ≠ 0) : (mkRat n d).num = n / ((n.natAbs.gcd d : Nat) : Int) := by
  rw [← Rat.normalize_eq_mkRat hd, Rat.normalize_eq]
theorem mkRat_den (n : Int) (d : Nat) (hd : d ≠ 0) : (mkRat n d).den = d / n.natAbs.gcd d := by
  rw [← Rat.normalize_eq_mkRat hd, Rat.normalize_eq]
theorem rat_num_le {r : Rat} (h : 0 ≤ r) : 0 ≤ r.num := Rat.num_nonneg.2 h
theorem mkRat_nonneg' {n : Int} (hn : 0 ≤ n) (d : Nat) (hd : d ≠ 0) : 0 ≤ mkRat n d := by
  rw [← Rat.num_nonneg, mkRat_num n d hd]
  exact Int.ediv_nonneg hn (by omega)
/-- A number times a whole number that is whole: the denominator divides it. -/
theorem den_dvd_of_mkRat (n : Int) (d : Nat) (hd : d ≠ 0) : (mkRat n d).den ∣ d := by
  rw [mkRat_den n d hd]
  exact Nat.div_dvd_of_dvd (Nat.gcd_dvd_right _ _)
theorem gcd_step (a b : Nat) : Nat.gcd b (a % b) = Nat.gcd a b := by rw [Nat.gcd_comm b, ← Nat.gcd_rec, Nat.gcd_comm]
theorem add_mk (a b : Rat) : mkRat (a.num * b.den + b.num * a.den) (a.den * b.den) = a + b := by
  rw [Rat.add_def, Rat.normalize_eq_mkRat]
/-- The share of a task. -/
def shr (high : Bool) (t : Tk) : Rat := mkRat (if high then t.high else t.low) t.every.toNat
/-- The sum of the shares of the tasks that are critical, or are not. -/
def shares (crit high : Bool) : List Tk → Rat
  | [] => 0
  | t :: l => (if t.crit = crit then shr high t else 0) + shares crit high l
theorem shares_append (crit high : Bool) (l m : List Tk) : shares crit high (l ++ m) = shares crit high l + shares crit high m := by
  induction l with
  | nil => simp [shares, Rat.zero_add]
  | cons t l ih => simp only [List.cons_append, shares, ih, Rat.add_assoc]
theorem shares_take_succ (crit high : Bool) (l : List Tk) (k : Nat) (hk : k < l.length) :
    shares crit high (l.take (k + 1)) = shares crit high (l.take k) + (if l[k].crit = crit then shr high l[k] else 0) := by
  rw [List.take_succ_eq_append_getElem hk, shares_append]
  simp [shares, Rat.add_zero]
theorem den_add_dvd (a b : Rat) : (a + b).den ∣ a.den * b.den := by
  rw [← add_mk]
  exact den_dvd_of_mkRat _ _ (Nat.mul_ne_zero a.den_nz b.den_nz)
theorem vld_bd {t : Tk} (h : vld t = true) : 1 ≤ t.low ∧ t.low ≤ t.high ∧ t.high ≤ t.due ∧ t.due ≤ t.every ∧ t.every ≤ 20 := by
  simp only [vld, Bool.and_eq_true, decide_eq_true_eq] at h
  exact h.1
theorem shr_den {high : Bool} {t : Tk} (h : vld t = true) : (shr high t).den ≤ 20 := by
  have := vld_bd h
  exact Nat.le_trans (Nat.le_of_dvd (by omega) (den_dvd_of_mkRat _ _ (by omega))) (by omega)
theorem shares_den (crit high : Bool) (l : List Tk) (h : ∀ t ∈ l, vld t = true) : (shares crit high l).den ≤ 20 ^ l.length := by
  induction l with
  | nil => simp [shares]
  | cons t l ih =>
    have h1 := ih (fun s hs => h s (List.mem_cons_of_mem _ hs))
    have h2 := h t (by simp)
    simp only [shares, List.length_cons, Nat.pow_succ]
    have hx : (if t.crit = crit then shr high t else 0).den ≤ 20 := by
      split
      · exact shr_den h2
      · simp
    generalize (if t.crit = crit then shr high t else 0) = x at hx
    refine Nat.le_trans (Nat.le_of_dvd (Nat.mul_pos x.den_pos (Rat.den_pos _)) (den_add_dvd _ _)) ?_
    rw [Nat.mul_comm]
    exact Nat.mul_le_mul h1 hx
theorem shr_le {high : Bool} {t : Tk} (h : vld t = true) : 0 ≤ shr high t ∧ shr high t ≤ 1 := by
  have hb := vld_bd h
  have hn : 0 ≤ (if high = true then t.high else t.low) ∧ (if high = true then t.high else t.low) ≤ t.every := by split <;> omega
  unfold shr
  generalize (if high = true then t.high else t.low) = n at hn
  refine ⟨mkRat_nonneg' hn.1 _ (by omega), ?_⟩
  rw [Rat.le_iff, mkRat_num _ _ (by omega), mkRat_den _ _ (by omega)]
  simp only [Rat.num_ofNat, Rat.den_ofNat, Int.mul_one, Int.one_mul, Int.natCast_one, Int.natCast_ediv]
  have hg : (0 : Int) < ((n.natAbs.gcd t.every.toNat : Nat) : Int) := by
    have := Nat.gcd_pos_of_pos_right n.natAbs (show 0 < t.every.toNat by omega)
    omega
  exact Int.ediv_le_ediv hg (by omega)
theorem shares_bd (crit high : Bool) (l : List Tk) (h : ∀ t ∈ l, vld t = true) : 0 ≤ shares crit high l ∧ shares crit high l ≤ (l.length : Rat) := by
  induction l with
  | nil => simp [shares]
  | cons t l ih =>
    have h1 := ih (fun s hs => h s (List.mem_cons_of_mem _ hs))
    have h2 := shr_le (high := high) (h t (by simp))
    have hx : 0 ≤ (if t.crit = crit then shr high t else 0) ∧ (if t.crit = crit then shr high t else 0) ≤ 1 := by
      split
      · exact h2
      · grind
    simp only [shares, List.length_cons]
    generalize (if t.crit = crit then shr high t else 0) = x at hx
    have e : ((l.length + 1 : Nat) : Rat) = (l.length : Rat) + 1 := by simp
    rw [e]
    grind
theorem num_le_of_le {r : Rat} {n : Nat} (h : r ≤ (n : Rat)) : r.num ≤ (n : Int) * (r.den : Int) := by
  rw [Rat.le_iff] at h
  simpa using h

/-- A share as the program has it. -/
abbrev sv (n d : Int) : Value := .agg #[.int .i64 n, .int .i64 d]
abbrev rv (r : Rat) : Value := .agg #[.int .i64 r.num, .int .i64 (r.den : Int)]

theorem impl_common (a b : Nat) (w : World) (ha : a ≤ 4611686018427387904) (hb : b ≤ 4611686018427387904) :
    Calls Tryz.prog 105 #[.int .i64 (a : Int), .int .i64 (b : Int)] w fun e w' => e = .returned (.int .i64 ((Nat.gcd a b : Nat) : Int)) ∧ Below w.heap.size w w' := by
  go_enter Tryz.func105, Tryz.ntmps105
  go_wp2
  go_loopw [0, 1] (fun u v wr => ∃ x y : Nat, u = .int .i64 (x : Int) ∧ v = .int .i64 (y : Int) ∧ Hid (Nat.gcd x y = Nat.gcd a b) ∧ x ≤ 4611686018427387904 ∧ y ≤ 4611686018427387904 ∧ Below w.heap.size w wr) (fun _ v _ => (intOf v).toNat)
  case atStart => exact ⟨a, b, rfl, rfl, rfl, ha, hb, Below.refl _ _⟩
  case round =>
    obtain ⟨x, y, rfl, rfl, hg, hx, hy, hbl⟩ := hrel
    by_cases h0 : y = 0
    · subst h0
      go_wp2
      go_ret
      have := hg.out
      rw [Nat.gcd_zero_right] at this
      exact ⟨by rw [← this]; rfl, hbl⟩
    · have hne : ((y : Int) != 0) = true := by rw [bne_iff_ne]; omega
      have hlt := Nat.mod_lt x (show 0 < y by omega)
      have hz : ((y : Int) == 0) = false := beq_eq_false_iff_ne.2 (by omega)
      have h0' : 0 < y := by omega
      go_wp2
      go_quiet (fail)
      go_wp2
      go_roundw
      case rel => exact ⟨y, x % y, rfl, by go_num, by rw [Hid, gcd_step]; exact hg, hy, by omega, bdr hbl _⟩
      case measure => simp [intOf]; omega

theorem impl_reduced (n d : Nat) (w : World) (hd : 1 ≤ d) (hn : n ≤ 4611686018427387904) (hdm : d ≤ 4611686018427387904) :
    Calls Tryz.prog 65 #[.int .i64 (n : Int), .int .i64 (d : Int)] w fun e w' => e = .returned (rv (mkRat (n : Int) d)) ∧ Below w.heap.size w w' := by
  have hgpos : 0 < Nat.gcd n d := Nat.gcd_pos_of_pos_right _ (by omega)
  have hgle : Nat.gcd n d ≤ d := Nat.le_of_dvd (by omega) (Nat.gcd_dvd_right _ _)
  have e1 : (mkRat (n : Int) d).num = (n : Int) / ((Nat.gcd n d : Nat) : Int) := by rw [mkRat_num _ _ (by omega)]; simp
  have e2 : (((mkRat (n : Int) d).den : Nat) : Int) = (d : Int) / ((Nat.gcd n d : Nat) : Int) := by rw [mkRat_den _ _ (by omega)]; simp
  have hne : (((Nat.gcd n d : Nat) : Int) == 0) = false := beq_eq_false_iff_ne.2 (by omega)
  have E1 := Lib.hid e1
  have E2 := Lib.hid e2
  clear e1 e2
  go_enter Tryz.func65, Tryz.ntmps65
  go_wp2_with fail
  refine (impl_common n d _ hn hdm).mono ?_
  rintro e w1 ⟨rfl, b1⟩
  generalize Nat.gcd n d = c at *
  have hB : w1.heap[w.heap.size]? = some (.cells #[.int .i64 0, .int .i64 0] 54 (0, 0)) := (b1.block _ (by simp)).trans (heap_alloc_new w _)
  have k0 : w1.cell? ⟨w.heap.size, 0, none⟩ = some (.int .i64 0) := by rw [cell_of_row w1 _ 0 _ _ _ hB]; rfl
  have k1 : w1.cell? ⟨w.heap.size, 1, none⟩ = some (.int .i64 0) := by rw [cell_of_row w1 _ 1 _ _ _ hB]; rfl
  have kf : ∀ i, w1.frozen? ⟨w.heap.size, i, none⟩ = false := fun i => frozen_of_row w1 _ i _ _ hB
  clear hB
  have hq1 : IntKind.i64.wrap ((n : Int).tdiv (c : Int)) = (n : Int) / (c : Int) := IntWalk.i64_quo _ _ (by omega)
  have hq2 : IntKind.i64.wrap ((d : Int).tdiv (c : Int)) = (d : Int) / (c : Int) := IntWalk.i64_quo _ _ (by omega)
  go_wp2_with fail
  go_region
  go_wp2_with fail
  have q1 : 0 ≤ (n : Int) / (c : Int) ∧ (n : Int) / (c : Int) ≤ n := ⟨Int.ediv_nonneg (by omega) (by omega), Int.ediv_le_self _ (by omega)⟩
  have q2 : 0 ≤ (d : Int) / (c : Int) ∧ (d : Int) / (c : Int) ≤ d := ⟨Int.ediv_nonneg (by omega) (by omega), Int.ediv_le_self _ (by omega)⟩
  have p1 : wrap64 ((n : Int) / (c : Int)) = (n : Int) / (c : Int) := IntWalk.wrap64_in _ (by omega)
  have p2 : wrap64 ((d : Int) / (c : Int)) = (d : Int) / (c : Int) := IntWalk.wrap64_in _ (by omega)
  refine bodyPost_ret (v := sv ((n : Int) / (c : Int)) ((d : Int) / (c : Int))) (by simp [results, Tryz.results65, go_sem, k0, k1, p1, p2]) rfl ⟨?_, ?_⟩
  · rw [← E1.out, ← E2.out]
  · exact (bst (bst (bthru (bal (Below.refl _ _) _) b1) (Nat.le_refl _) _) (Nat.le_refl _) _).drew

/-- A share from two numbers: in lowest terms, if they are in range. -/
def shIn (n d : Int) : Bool := decide (0 ≤ n ∧ n ≤ 1000000000 ∧ 1 ≤ d ∧ d ≤ 1000000000)
def MakePost (n d : Int) (w : World) (e : Ending) (w' : World) : Prop :=
  (shIn n d = true ∧ e = .returned (.tuple #[rv (mkRat n d.toNat), .bool true]) ∧ Below w.heap.size w w') ∨ (shIn n d = false ∧ e = .returned (.tuple #[sv 0 0, .bool false]) ∧ Below w.heap.size w w')

theorem run_eql_share (a b : Int) (w : World) : (binOp .eql 54 (sv a b) (sv a b)).run Tryz.prog w = .ok (.bool true) w := by
  simp [go_sem]

/-- A share in range: not negative, both numbers at most 10^9. -/
def RIn (r : Rat) : Prop := 0 ≤ r.num ∧ r.num ≤ 1000000000 ∧ r.den ≤ 1000000000

theorem shIn_rat {r : Rat} (h : RIn r) : shIn r.num (r.den : Int) = true := by
  have := r.den_pos
  unfold RIn at h
  simp only [shIn, decide_eq_true_eq]
  omega

theorem impl_reducedI (x y : Int) (w : World) (hx : 0 ≤ x) (hy : 1 ≤ y) (hxm : x ≤ 4611686018427387904) (hym : y ≤ 4611686018427387904) :
    Calls Tryz.prog 65 #[.int .i64 x, .int .i64 y] w fun e w' => e = .returned (rv (mkRat x y.toNat)) ∧ Below w.heap.size w w' := by
  obtain ⟨n, rfl⟩ : ∃ k : Nat, x = (k : Int) := ⟨x.toNat, (Int.toNat_of_nonneg hx).symm⟩
  obtain ⟨d, rfl⟩ : ∃ k : Nat, y = (k : Int) := ⟨y.toNat, (Int.toNat_of_nonneg (by omega)).symm⟩
  rw [Int.toNat_natCast]
  exact impl_reduced n d w (by omega) (by omega) (by omega)

theorem mul_bd {x y a b : Int} (hx : 0 ≤ x) (hxa : x ≤ a) (hy : 0 ≤ y) (hyb : y ≤ b) (ha : 0 ≤ a) : 0 ≤ x * y ∧ x * y ≤ a * b :=
  ⟨Int.mul_nonneg hx hy, Int.mul_le_mul hxa hyb hy ha⟩
theorem mk_add (a b : Rat) : mkRat (a.num * (b.den : Int) + b.num * (a.den : Int)) ((a.den : Int) * (b.den : Int)).toNat = a + b := by
  rw [← Int.natCast_mul, Int.toNat_natCast, add_mk]
theorem blk_two {w : World} {b : Nat} {v0 v1 : Value} {t : TypeId} (h : w.heap[b]? = some (.cells #[v0, v1] t (0, 0))) :
    w.cell? ⟨b, 0, none⟩ = some v0 ∧ w.cell? ⟨b, 1, none⟩ = some v1 ∧ ∀ i, w.frozen? ⟨b, i, none⟩ = false :=
  ⟨by rw [cell_of_row w b 0 _ _ _ h]; rfl, by rw [cell_of_row w b 1 _ _ _ h]; rfl, fun i => frozen_of_row w b i _ _ h⟩

theorem heap3 (w : World) (A B C : Obj) : (((w.alloc A).alloc B).alloc C).heap[w.heap.size]? = some A ∧ (((w.alloc A).alloc B).alloc C).heap[w.heap.size + 1]? = some B ∧ (((w.alloc A).alloc B).alloc C).heap[w.heap.size + 1 + 1]? = some C := by
  refine ⟨?_, ?_, ?_⟩
  · show (((w.heap.push A).push B).push C)[_]? = _
    rw [Array.getElem?_push, if_neg (by simp; omega), Array.getElem?_push, if_neg (by simp), Array.getElem?_push, if_pos rfl]
  · show (((w.heap.push A).push B).push C)[_]? = _
    rw [Array.getElem?_push, if_neg (by simp), Array.getElem?_push, if_pos (by simp)]
  · show (((w.heap.push A).push B).push C)[_]? = _
    rw [Array.getElem?_push, if_pos (by simp)]
end

section
def jobsOf (t : Tk) (w : Int) : Int := (w + t.every - 1) / t.every
def needOf (t : Tk) (high : Bool) : Int := if high then t.high else t.low
def demF (t : Tk) (w : Int) (high : Bool) : Int := jobsOf t w * needOf t high
theorem vld_nums {t : Tk} (h : vld t = true) : 1 ≤ t.low ∧ t.low ≤ t.high ∧ t.high ≤ t.due ∧ t.due ≤ t.every ∧ t.every ≤ 20 := by
  have := vld_bd h
  omega
theorem jobsOf_bd {t : Tk} (h : vld t = true) {w : Int} (hw : 0 ≤ w) : 0 ≤ jobsOf t w ∧ jobsOf t w ≤ w := by
  have := vld_nums h
  unfold jobsOf
  refine ⟨Int.ediv_nonneg (by omega) (by omega), ?_⟩
  have h1 : (w + t.every - 1) / t.every < w + 1 := by
    rw [Int.ediv_lt_iff_lt_mul (by omega)]
    have : (w + 1) * t.every = w * t.every + t.every := by rw [Int.add_mul, Int.one_mul]
    have h2 : w * 1 ≤ w * t.every := Int.mul_le_mul_of_nonneg_left (by omega) hw
    omega
  omega
/-- The least fixed point from w on, at most 'most'. -/
def rise (next : Int → Int) (most : Int) : Nat → Int → Option Int
  | 0, _ => none
  | n + 1, w => if w ≤ most then (if next w = w then some w else rise next most n (next w)) else none
/-- What the program's loop gives. -/
def risen (next : Int → Int) (start most : Int) : Option Int := rise next most (most + 1 - start).toNat start
end

section
open Go.RowKit

theorem impl_TaskValid (t : Tk) (w : World) :
    Calls Tryz.prog 71 #[t.val] w fun e w' => e = .returned (.bool (vld t)) ∧ Below w.heap.size w w' := by
  obtain ⟨low, high, due, every, crit⟩ := t
  go_enter Tryz.func71, Tryz.ntmps71
  go_wp2
  all_goals go_ret
  all_goals refine ⟨?_, (Below.refl _ _).alloc (Nat.le_refl _) _⟩
  all_goals (simp [vld, *]; try omega)

theorem spec_TaskValid (t : Tk) (w : World) :
    Calls Tryz.prog 99 #[t.val] w fun e w' => e = .returned (.bool (vld t)) ∧ Below w.heap.size w w' := by
  obtain ⟨low, high, due, every, crit⟩ := t
  go_enter Tryz.func99, Tryz.ntmps99
  go_wp2
  all_goals go_ret
  all_goals refine ⟨?_, (Below.refl _ _).alloc (Nat.le_refl _) _⟩
  all_goals (simp [vld, *]; try omega)

theorem all_take_succ (l : List Tk) (k : Nat) (hk : k < l.length) : (l.take (k + 1)).all vld = ((l.take k).all vld && vld l[k]) := by
  rw [List.take_succ_eq_append_getElem hk, List.all_append]; simp

theorem impl_SetValid (A : Option Addr) (l : List Tk) (c : Nat) (w : World) (h : TS w A l) :
    Calls Tryz.prog 34 #[.slice A l.length c] w fun e w' => e = .returned (.bool (setVld l)) ∧ Below w.heap.size w w' := by
  by_cases h5 : l.length ≤ 5
  · go_enter Tryz.func34, Tryz.ntmps34
    go_wp2
    go_loopw [10] (fun i wr => ∃ k : Nat, k ≤ l.length ∧ i = .int .i64 k ∧ Hid ((l.take k).all vld = true) ∧ Below w.heap.size w wr) (fun i _ => l.length - (intOf i).toNat)
    case atStart => exact ⟨0, Nat.zero_le _, rfl, by simp [Hid], Below.refl _ _⟩
    case round =>
      obtain ⟨k, hk, rfl, hall, hb⟩ := hrel
      by_cases hlt : k < l.length
      · obtain ⟨b, off, rfl, hbl, hc⟩ := h.keep hb (by omega)
        obtain ⟨c0, c1, c2, c3, c4⟩ := task_cells hc k hlt
        clear hc
        go_wp2_with (go_at_call 71; refine (impl_TaskValid _ _).mono ?_; rintro e w' ⟨rfl, hb2⟩)
        · have hv : (!vld l[k]) = true := by assumption
          go_ret
          refine ⟨?_, bthru (bal hb _) hb2⟩
          have : l.all vld = false := List.all_eq_false.2 ⟨l[k], List.getElem_mem _, by simpa using hv⟩
          simp [setVld, this]
        · have hv : (!vld l[k]) = false := by assumption
          go_roundw
          case rel => exact ⟨k + 1, by omega, by go_num, by rw [Hid, all_take_succ l k hlt, hall.out]; simpa using hv, bthru (bal hb _) hb2⟩
          case measure => simp [intOf]; omega
      · go_wp2
        go_ret
        have : k = l.length := by omega
        subst this
        exact ⟨by simpa [setVld, h5] using hall.out, hb⟩
  · go_enter Tryz.func34, Tryz.ntmps34
    go_wp2
    go_ret
    exact ⟨by simp [setVld, h5], Below.refl _ _⟩
end

section
open Go.RowKit

/-- What sumOf hands back: the sum, or the zero value where the tasks are not valid. -/
def sumV (l : List Tk) (crit high : Bool) : Value := if setVld l then rv (shares crit high l) else sv 0 0

theorem setVld_all {l : List Tk} (h : setVld l = true) : l.length ≤ 5 ∧ ∀ t ∈ l, vld t = true := by
  simp only [setVld, Bool.and_eq_true, decide_eq_true_eq, List.all_eq_true] at h
  exact h
theorem shares_small {l : List Tk} (h : ∀ t ∈ l, vld t = true) (hl : l.length ≤ 5) (crit high : Bool) :
    0 ≤ (shares crit high l).num ∧ (shares crit high l).num ≤ 16000000 ∧ (shares crit high l).den ≤ 3200000 := by
  have h1 := shares_bd crit high l h
  have h2 := shares_den crit high l h
  have h3 := num_le_of_le h1.2
  have h4 : 20 ^ l.length ≤ 20 ^ 5 := Nat.pow_le_pow_right (by omega) hl
  have h5 : (l.length : Int) * ((shares crit high l).den : Int) ≤ 5 * ((shares crit high l).den : Int) := Int.mul_le_mul_of_nonneg_right (by omega) (by omega)
  refine ⟨rat_num_le h1.1, ?_, ?_⟩ <;> omega

theorem blk_set2 {w : World} {b : Nat} {v0 v1 : Value} {t : TypeId} (h : w.heap[b]? = some (.cells #[v0, v1] t (0, 0))) (u0 u1 : Value) : ((w.setCell ⟨b, 0, none⟩ u0).setCell ⟨b, 1, none⟩ u1).heap[b]? = some (.cells #[u0, u1] t (0, 0)) := by
  have h1 := heap_setCell_same w b 0 #[v0, v1] t u0 h
  have h2 := heap_setCell_same _ b 1 _ t u1 h1
  simpa using h2
theorem mk_shr (r : Rat) (n e : Int) (he : 1 ≤ e) : mkRat (r.num * e + n * (r.den : Int)) ((r.den : Int) * e).toNat = r + mkRat n e.toNat := by
  obtain ⟨m, rfl⟩ : ∃ m : Nat, e = (m : Int) := ⟨e.toNat, (Int.toNat_of_nonneg (by omega)).symm⟩
  have h := Rat.mkRat_add_mkRat r.num n (d₁ := r.den) (d₂ := m) r.den_nz (by omega)
  rw [Rat.mkRat_self] at h
  rw [Int.toNat_natCast, h, ← Int.natCast_mul, Int.toNat_natCast]

theorem impl_sumOf (A : Option Addr) (l : List Tk) (c : Nat) (crit high : Bool) (w : World) (h : TS w A l) :
    Calls Tryz.prog 104 #[.slice A l.length c, .bool crit, .bool high] w fun e w' => e = .returned (sumV l crit high) ∧ Below w.heap.size w w' := by
  cases hS : setVld l with
  | false =>
    have hv : sumV l crit high = sv 0 0 := by simp [sumV, hS]
    rw [hv]
    clear hv
    go_enter Tryz.func104, Tryz.ntmps104
    go_wp2_with fail
    refine (impl_SetValid A l c _ (h.keep (bal (Below.refl _ _) _))).mono ?_
    rw [hS]
    rintro e w1 ⟨rfl, b1⟩
    have hB := (b1.block w.heap.size (by simp)).trans (heap_alloc_new w _)
    obtain ⟨x0, x1, xf⟩ := blk_two hB
    clear hB
    go_wp2_with fail
    refine bodyPost_ret (v := sv 0 0) (by simp [results, Tryz.results104, go_sem, x0, x1]) rfl ⟨rfl, ?_⟩
    exact bst (bst (bthru (bal (Below.refl _ _) _) b1) (p := ⟨w.heap.size, 0, none⟩) (Nat.le_refl _) _) (p := ⟨w.heap.size, 1, none⟩) (Nat.le_refl _) _
  | true =>
    obtain ⟨hl5, hall⟩ := setVld_all hS
    have hv : sumV l crit high = rv (shares crit high l) := by simp [sumV, hS]
    rw [hv]
    have Hall := Lib.hid hall
    clear hv hall
    go_enter Tryz.func104, Tryz.ntmps104
    go_wp2_with fail
    refine (impl_SetValid A l c _ (h.keep (bal (Below.refl _ _) _))).mono ?_
    rw [hS]
    clear hS
    rintro e w1 ⟨rfl, b1⟩
    have hB := Lib.hid ((b1.block w.heap.size (by simp)).trans (heap_alloc_new w _))
    have hz1 := b1.size
    simp only [World.size_alloc] at hz1
    have hb1 := bthru (bal (Below.refl _ _) _) b1
    go_wp2_with fail
    have hBl : w.heap.size < w1.heap.size := by omega
    go_loopw [18] (fun i wr => ∃ k : Nat, i = .int .i64 (k : Int) ∧ k ≤ l.length ∧ Below w.heap.size w wr ∧ w1.heap.size < wr.heap.size ∧ Hid (wr.heap[w.heap.size]? = some (.cells #[.int .i64 0, .int .i64 0] 54 (0, 0))) ∧
      Hid (wr.heap[w1.heap.size]? = some (.cells #[.int .i64 (shares crit high (l.take k)).num, .int .i64 ((shares crit high (l.take k)).den : Int)] 54 (0, 0)))) (fun i _ => l.length - (intOf i).toNat)
    case atStart => exact ⟨0, rfl, by omega, bal hb1 _, by simp, (Below.heap_alloc _ _ _ hBl).trans hB.out, heap_alloc_new w1 _⟩
    case round =>
      clear hB
      obtain ⟨k, rfl, hk, hb, hSl, hB, hS⟩ := hrel
      by_cases hlt : k < l.length
      · obtain ⟨b, off, rfl, hbl, hc⟩ := h.keep hb (by omega)
        obtain ⟨c0, c1, c2, c3, c4⟩ := task_cells hc k hlt
        clear hc
        have hvk := vld_bd (Hall.out _ (List.getElem_mem hlt))
        obtain ⟨v0, v1, v2, v3, v4⟩ := hvk
        have hsm := shares_small (l := l.take k) (fun t ht => Hall.out t (List.mem_of_mem_take ht)) (by simp; omega) crit high
        have hts := Lib.hid (shares_take_succ crit high l k hlt)
        obtain ⟨z0, z1, z2⟩ := hsm
        obtain ⟨s0, s1, sf⟩ := blk_two hS.out
        have hd := (shares crit high (l.take k)).den_pos
        generalize shares crit high (l.take k) = r at *
        by_cases hcr : l[k].crit = crit
        · have hcb : (l[k].crit == crit) = true := by simp [hcr]
          have Hcr := Lib.hid hcr
          clear hcr
          have m1 := mul_bd z0 z1 (show 0 ≤ l[k].every by omega) v4 (by omega)
          have m2 := mul_bd (show 0 ≤ (r.den : Int) by omega) (show (r.den : Int) ≤ 3200000 by omega) (show 0 ≤ l[k].every by omega) v4 (by omega)
          have m3 := mul_bd (show 0 ≤ l[k].low by omega) (show l[k].low ≤ 20 by omega) (show 0 ≤ (r.den : Int) by omega) (show (r.den : Int) ≤ 3200000 by omega) (by omega)
          have m4 := mul_bd (show 0 ≤ l[k].high by omega) (show l[k].high ≤ 20 by omega) (show 0 ≤ (r.den : Int) by omega) (show (r.den : Int) ≤ 3200000 by omega) (by omega)
          have m5 : 1 ≤ (r.den : Int) * l[k].every := by have := Int.mul_pos (show (0 : Int) < r.den by omega) (show 0 < l[k].every by omega); omega
          obtain ⟨m10, m11⟩ := m1
          obtain ⟨m20, m21⟩ := m2
          obtain ⟨m30, m31⟩ := m3
          obtain ⟨m40, m41⟩ := m4
          cases high
          all_goals
            go_wp2_with fail
            refine (impl_reducedI _ _ _ (by omega) (by omega) (by omega) (by omega)).mono ?_
            rw [mk_shr r _ _ (by omega)]
            rintro e w2 ⟨rfl, b2⟩
            have hS2 := (b2.block _ (by simp; omega)).trans ((Below.heap_alloc _ _ _ hSl).trans hS.out)
            have hB2 := Lib.hid ((b2.block _ (by simp; omega)).trans ((Below.heap_alloc _ _ _ (by omega)).trans hB.out))
            have HS2 := Lib.hid hS2
            have hz2 := b2.size
            simp only [World.size_alloc] at hz2
            obtain ⟨p0, p1, pf⟩ := blk_two hS2
            clear s0 s1 sf hS2
            go_wp2_with fail
            go_roundw
            case rel =>
              refine ⟨k + 1, by go_num, by omega, bst (bst (bthru (bal hb _) b2) (p := ⟨w1.heap.size, 0, none⟩) (Nat.le_of_lt hBl) _) (p := ⟨w1.heap.size, 1, none⟩) (Nat.le_of_lt hBl) _, by simp; omega, ?_, ?_⟩
              · exact (Below.heap_setCell _ _ _ _ (by simp; omega)).trans ((Below.heap_setCell _ _ _ _ (by simp; omega)).trans hB2.out)
              · rw [Hid, hts.out, if_pos Hcr.out]
                exact blk_set2 HS2.out _ _
            case measure => simp [intOf]; omega
        · have hcb : (l[k].crit == crit) = false := by simp [hcr]
          have Hcr := Lib.hid hcr
          clear hcr
          go_wp2_with fail
          go_roundw
          case rel =>
            refine ⟨k + 1, by go_num, by omega, bal hb _, by simp; omega, (Below.heap_alloc _ _ _ (by omega)).trans hB.out, ?_⟩
            rw [Hid, hts.out, if_neg Hcr.out, Rat.add_zero]
            exact (Below.heap_alloc _ _ _ hSl).trans hS.out
          case measure => simp [intOf]; omega
      · have ek : k = l.length := by omega
        have hS' := hS.out
        rw [List.take_of_length_le (by omega)] at hS'
        obtain ⟨s0, s1, sf⟩ := blk_two hS'
        obtain ⟨z0, z1, zf⟩ := blk_two hB.out
        clear hS'
        go_wp2_with fail
        refine bodyPost_ret (v := rv (shares crit high l)) (by simp [results, Tryz.results104, go_sem, z0, z1]) rfl ⟨rfl, ?_⟩
        exact bst (bst hb (p := ⟨w.heap.size, 0, none⟩) (Nat.le_refl _) _) (p := ⟨w.heap.size, 1, none⟩) (Nat.le_refl _) _

theorem impl_LowShare (A : Option Addr) (l : List Tk) (c : Nat) (crit : Bool) (w : World) (h : TS w A l) :
    Calls Tryz.prog 62 #[.slice A l.length c, .bool crit] w fun e w' => e = .returned (sumV l crit false) ∧ Below w.heap.size w w' := by
  obtain ⟨a, b, hv⟩ : ∃ a b, sumV l crit false = sv a b := by
    unfold sumV
    split
    · exact ⟨_, _, rfl⟩
    · exact ⟨_, _, rfl⟩
  go_enter Tryz.func62, Tryz.ntmps62
  go_wp2_with fail
  refine (impl_sumOf A l c crit false _ (h.keep (bal (Below.refl _ _) _))).mono ?_
  rw [hv]
  rintro e w1 ⟨rfl, b1⟩
  have hB := (b1.block w.heap.size (by simp)).trans (heap_alloc_new w _)
  obtain ⟨x0, x1, xf⟩ := blk_two hB
  have Hv := Lib.hid hv
  clear hB hv
  go_wp2_with fail
  refine bodyPost_ret (v := sv a b) (by simp [results, Tryz.results62, go_sem, x0, x1]) rfl ⟨by rw [Hv.out], ?_⟩
  exact bst (bst (bthru (bal (Below.refl _ _) _) b1) (p := ⟨w.heap.size, 0, none⟩) (Nat.le_refl _) _) (p := ⟨w.heap.size, 1, none⟩) (Nat.le_refl _) _

theorem impl_HighShare (A : Option Addr) (l : List Tk) (c : Nat) (w : World) (h : TS w A l) :
    Calls Tryz.prog 103 #[.slice A l.length c] w fun e w' => e = .returned (sumV l true true) ∧ Below w.heap.size w w' := by
  obtain ⟨a, b, hv⟩ : ∃ a b, sumV l true true = sv a b := by
    unfold sumV
    split
    · exact ⟨_, _, rfl⟩
    · exact ⟨_, _, rfl⟩
  go_enter Tryz.func103, Tryz.ntmps103
  go_wp2_with fail
  refine (impl_sumOf A l c true true _ (h.keep (bal (Below.refl _ _) _))).mono ?_
  rw [hv]
  rintro e w1 ⟨rfl, b1⟩
  have hB := (b1.block w.heap.size (by simp)).trans (heap_alloc_new w _)
  obtain ⟨x0, x1, xf⟩ := blk_two hB
  have Hv := Lib.hid hv
  clear hB hv
  go_wp2_with fail
  refine bodyPost_ret (v := sv a b) (by simp [results, Tryz.results103, go_sem, x0, x1]) rfl ⟨by rw [Hv.out], ?_⟩
  exact bst (bst (bthru (bal (Below.refl _ _) _) b1) (p := ⟨w.heap.size, 0, none⟩) (Nat.le_refl _) _) (p := ⟨w.heap.size, 1, none⟩) (Nat.le_refl _) _
end

section
open Go.RowKit

/-! ### The sums, and response times -/
def tkAt (l : List Tk) (k : Nat) : Tk := l.getD k ⟨0, 0, 0, 0, false⟩
theorem tkAt_eq (l : List Tk) (k : Nat) (h : k < l.length) : tkAt l k = l[k] := by simp [tkAt, h]
theorem tkAt_vld {l : List Tk} (h : setVld l = true) {k : Nat} (hk : k < l.length) : vld (tkAt l k) = true := by
  rw [tkAt_eq l k hk]
  exact (setVld_all h).2 _ (List.getElem_mem hk)
def swDem (t : Tk) (low w : Int) : Int := if t.crit then demF t w true else demF t low false
def plc (l : List Tk) (x : Int) : Bool := setVld l && decide (0 ≤ x) && decide (x < l.length)
end
end Go.Proofs.YtmkjmancmiphfaaGreatDoor
