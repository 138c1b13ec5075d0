/-
  slices.Clone and slices.Delete (of one element): the walks of the library's own text, at tasks and at integers.
-/
import Derived.Test.YtmkjmancmiphfaaAppend
import Derived.Deep.RegionLaw
import Derived.Lib.SliceRun
namespace Go.Proofs.Ytmkjmancmiphfaa
open Go.RowKit

/-- append of a whole slice to a row of the call's own. -/
theorem wpList_app_tasks (w : World) {ops : Array Oper} {rest : List Oper} {o : Oper} {a : Act} {Q : Exit → Act → World → Prop} (hgd : o.guard = none) (s x : Operand)
    (ho : o.op = .call { callee := .builtin .append, args := #[s, x], argTypes := #[23, 23] })
    (base : Nat) (A : Option Addr) (l : List Tk) (c : Nat) (hs : a.eval s = .slice A l.length c) (hown : OT base w A c l)
    (ad : Addr) (c1 : Nat) (m : List Tk) (hx : a.eval x = .slice (some ad) m.length c1) (hm : TS w (some ad) m)
    (hl : l.length ≤ 2000000) (hlm : m.length ≤ 2000000) (hbase : base ≤ w.heap.size)
    (h : ∀ A' c' w', OT base w' A' c' (l ++ m) → w.grownBy w' (Value.slice A l.length c).ownBlock → Below base w w' → wpList Try.prog ops Q rest (a.put o.dst (.slice A' (l.length + m.length) c')) w') : wpList Try.prog ops Q (o :: rest) a w := by
  obtain ⟨i0, hi, hz0, hz1, hz2⟩ := info_parts infoTaskB
  refine wpList_append_own w hgd s x 23 ho base 43 i0 _ 5 40 Try.underlying23 hi hz0 hz1 hz2 rfl (by decide) (.slice A l.length c) l.length (flat l) hs hown
    ad m.length c1 (flat m) hx (by rw [flat_length, Nat.mul_comm]) ?_ ?_ (by unfold maxLen; omega) (by omega) hbase ?_
  · intro j u hj
    have hpos : 0 < m.length := by
      have := (List.getElem?_eq_some_iff.1 hj).1
      rw [flat_length] at this
      omega
    obtain ⟨b, off, hA, _, hc⟩ := hm hpos
    cases hA
    rw [Go.WideShapes.add_plain]
    exact hc j u hj
  · intro u hu
    simp only [flat, List.mem_flatMap, Tk.cells, List.mem_cons, List.not_mem_nil, or_false] at hu
    obtain ⟨t, _, rfl | rfl | rfl | rfl | rfl⟩ := hu <;> rfl
  · intro v' w' hown' hg _
    obtain ⟨A', c', rfl⟩ := own_form hown'
    refine h A' c' w' ?_ hg (own_below hown hg hbase)
    unfold OT
    rw [List.length_append, flat_append]
    exact hown'
theorem wpList_app_ints (w : World) {ops : Array Oper} {rest : List Oper} {o : Oper} {a : Act} {Q : Exit → Act → World → Prop} (hgd : o.guard = none) (s x : Operand)
    (ho : o.op = .call { callee := .builtin .append, args := #[s, x], argTypes := #[30, 30] })
    (base : Nat) (A : Option Addr) (l : List Int) (c : Nat) (hs : a.eval s = .slice A l.length c) (hown : OI base w A c l)
    (ad : Addr) (c1 : Nat) (m : List Int) (hx : a.eval x = .slice (some ad) m.length c1) (hm : IS w (some ad) m)
    (hl : l.length ≤ 2000000) (hlm : m.length ≤ 2000000) (hbase : base ≤ w.heap.size)
    (h : ∀ A' c' w', OI base w' A' c' (l ++ m) → w.grownBy w' (Value.slice A l.length c).ownBlock → Below base w w' → wpList Try.prog ops Q rest (a.put o.dst (.slice A' (l.length + m.length) c')) w') : wpList Try.prog ops Q (o :: rest) a w := by
  obtain ⟨i0, hi, hz0, hz1, hz2⟩ := info_parts infoIntB
  refine wpList_append_own w hgd s x 30 ho base 3 i0 _ 1 8 Try.underlying30 hi hz0 hz1 hz2 rfl (by decide) (.slice A l.length c) l.length (l.map (.int .i64)) hs hown
    ad m.length c1 (m.map (.int .i64)) hx (by simp) ?_ ?_ (by unfold maxLen; omega) (by omega) hbase ?_
  · intro j u hj
    rw [List.getElem?_map] at hj
    obtain ⟨y, hy, rfl⟩ := Option.map_eq_some_iff.1 hj
    have hpos : 0 < m.length := by
      have := (List.getElem?_eq_some_iff.1 hy).1
      omega
    obtain ⟨b, off, hA, _, hc⟩ := hm hpos
    cases hA
    rw [Go.WideShapes.add_plain]
    exact hc j y hy
  · intro u hu
    obtain ⟨y, _, rfl⟩ := List.mem_map.1 hu
    rfl
  · intro v' w' hown' hg _
    obtain ⟨A', c', rfl⟩ := own_form hown'
    refine h A' c' w' ?_ hg (own_below hown hg hbase)
    unfold OI
    rw [List.length_append, List.map_append]
    exact hown'

theorem TS_none {w : World} {l : List Tk} (h : TS w none l) : l = [] := by
  cases l with
  | nil => rfl
  | cons t l => obtain ⟨b, off, hA, _⟩ := h (by simp); cases hA
theorem IS_none {w : World} {l : List Int} (h : IS w none l) : l = [] := by
  cases l with
  | nil => rfl
  | cons t l => obtain ⟨b, off, hA, _⟩ := h (by simp); cases hA

def setL : List Value → Nat → List Value → List Value
  | xs, _, [] => xs
  | xs, o, v :: r => setL (xs.set o v) (o + 1) r
theorem setL_length (xs : List Value) (o : Nat) (vs : List Value) : (setL xs o vs).length = xs.length := by
  induction vs generalizing xs o with
  | nil => rfl
  | cons v r ih => rw [setL, ih, List.length_set]
theorem setL_at (xs : List Value) (o : Nat) (vs : List Value) (j : Nat) (h : o + vs.length ≤ xs.length) : (setL xs o vs)[j]? = if o ≤ j ∧ j < o + vs.length then vs[j - o]? else xs[j]? := by
  induction vs generalizing xs o with
  | nil => rw [setL, if_neg (by simp only [List.length_nil]; omega)]
  | cons v r ih =>
    simp only [List.length_cons] at h
    rw [setL, ih (xs.set o v) (o + 1) (by rw [List.length_set]; omega)]
    simp only [List.length_cons]
    by_cases h1 : j = o
    · subst h1
      rw [if_neg (by omega), if_pos (by omega), Nat.sub_self, List.getElem?_set_self (by omega)]
      rfl
    · by_cases h2 : o + 1 ≤ j ∧ j < o + 1 + r.length
      · rw [if_pos h2, if_pos (by omega), show j - o = (j - (o + 1)) + 1 by omega]
        simp
      · rw [if_neg h2, if_neg (by omega), List.getElem?_set_ne (by omega)]
theorem own_setCells {base : Nat} {t : TypeId} {size g n cap : Nat} : ∀ (vs : List Value) (o : Nat) {w : World} {xs : List Value}, w.ownsRow base t size (.slice (some ⟨g, 0, none⟩) n cap) n xs → (w.setCells g o vs).ownsRow base t size (.slice (some ⟨g, 0, none⟩) n cap) n (setL xs o vs)
  | [], _, _, _, h => h
  | v :: r, o, _, _, h => own_setCells r (o + 1) (h.stored o v).1
theorem gb_setCells {g : Nat} : ∀ (vs : List Value) (o : Nat) {a w : World}, a.grownBy w (some g) → a.grownBy (w.setCells g o vs) (some g)
  | [], _, _, _, h => h
  | v :: r, o, a, w, h => gb_setCells r (o + 1) (a := a) (w := w.setCell ⟨g, o, none⟩ v) ⟨h.os, h.tape, h.output, by simp [World.setCell]; exact h.size, fun i hi hne => (Below.heap_setCell w _ v i (fun e => hne (by rw [e]))).trans (h.block i hi hne)⟩
theorem flat_drop (l : List Tk) (k : Nat) (hk : k ≤ l.length) : (flat l).drop (k * 5) = flat (l.drop k) := by
  have e : flat l = flat (l.take k) ++ flat (l.drop k) := by rw [← flat_append, List.take_append_drop]
  rw [e, List.drop_left' (by rw [flat_length, List.length_take]; omega)]
theorem flat_cells (l : List Tk) : ∀ u ∈ flat l, u.oneCell' = true := by
  intro u hu
  simp only [flat, List.mem_flatMap, Tk.cells, List.mem_cons, List.not_mem_nil, or_false] at hu
  obtain ⟨t, _, rfl | rfl | rfl | rfl | rfl⟩ := hu <;> rfl
theorem take_setL (xs : List Value) (o : Nat) (vs : List Value) (h : o + vs.length ≤ xs.length) : (setL xs o vs).take (o + vs.length) = xs.take o ++ vs := by
  apply List.ext_getElem?
  intro j
  by_cases hj : j < o + vs.length
  · rw [List.getElem?_take_of_lt hj, setL_at xs o vs j h]
    by_cases h1 : o ≤ j
    · rw [if_pos ⟨h1, hj⟩, List.getElem?_append_right (by simp; omega)]
      congr 1
      simp
      omega
    · rw [if_neg (by omega), List.getElem?_append_left (by simp; omega), List.getElem?_take_of_lt (by omega)]
  · rw [List.getElem?_eq_none (by simp; omega), List.getElem?_eq_none (by simp; omega)]
theorem take_setL_lt (xs : List Value) (o n : Nat) (vs : List Value) (h : o + vs.length ≤ xs.length) (hn : n ≤ o) : (setL xs o vs).take n = xs.take n := by
  apply List.ext_getElem?
  intro j
  by_cases hj : j < n
  · rw [List.getElem?_take_of_lt hj, setL_at xs o vs j h, if_neg (by omega), List.getElem?_take_of_lt hj]
  · rw [List.getElem?_eq_none (by simp; omega), List.getElem?_eq_none (by simp; omega)]
theorem eraseIdx_split (l : List Tk) (k : Nat) : l.eraseIdx k = l.take k ++ l.drop (k + 1) := List.eraseIdx_eq_take_drop_succ l k
/-- What stands behind the one that goes moves up; the last place is cleared. -/
theorem flat_erase (l : List Tk) (k : Nat) (hk : k < l.length) (z : List Value) (hz : z.length = 5) :
    (setL (setL (flat l) (k * 5) (flat (l.drop (k + 1)))) ((l.length - 1) * 5) z).take ((l.length - 1) * 5) = flat (l.eraseIdx k) := by
  have hl := flat_length l
  have hd : (flat (l.drop (k + 1))).length = (l.length - 1 - k) * 5 := by rw [flat_length, List.length_drop]; omega
  rw [take_setL_lt _ _ _ _ (by rw [setL_length]; omega) (Nat.le_refl _)]
  have e : (l.length - 1) * 5 = k * 5 + (flat (l.drop (k + 1))).length := by rw [hd]; omega
  rw [e, take_setL _ _ _ (by omega), flat_take, ← flat_append, ← eraseIdx_split]

theorem run_clear_task (w : World) (ty : TypeId) (b o c : Nat) (hc : ∀ j, j < 5 → (w.cell? ⟨b, o + j, none⟩).isSome = true) (hf : ∀ j, j < 5 → w.frozen? ⟨b, o + j, none⟩ = false) :
    (Builtin.clear_ #[23] ty #[.slice (some ⟨b, o, none⟩) 1 c]).run Try.prog w = .ok (.tuple #[]) (w.setCells b o [.int .i64 0, .int .i64 0, .int .i64 0, .int .i64 0, .bool false]) := by
  have hzc : (Builtin.zeroCells (Value.agg #[.int .i64 0, .int .i64 0, .int .i64 0, .int .i64 0, .bool false]).cells 1).toList = [.int .i64 0, .int .i64 0, .int .i64 0, .int .i64 0, .bool false] := by kernel_rfl
  have hst := run_storeCells_cells (P := Try.prog) b o [.int .i64 0, .int .i64 0, .int .i64 0, .int .i64 0, .bool false] 0 w (by simpa using hc) (by simpa using hf) (by intro v hv; simp at hv; rcases hv with rfl | rfl <;> rfl)
  have hv : ∀ w, (zeroValue 43).run Try.prog w = .ok (.agg #[.int .i64 0, .int .i64 0, .int .i64 0, .int .i64 0, .bool false]) w := fun _ => by kernel_rfl
  simp only [Nat.add_zero] at hst
  simp [Builtin.clear_, run_underlying Try.underlying23, hv, hzc, hst]

theorem int_erase (l : List Int) (k : Nat) (hk : k < l.length) (z : List Value) (hz : z.length = 1) :
    (setL (setL (l.map (.int .i64)) k ((l.drop (k + 1)).map (.int .i64))) (l.length - 1) z).take (l.length - 1) = (l.eraseIdx k).map (.int .i64) := by
  have hl : (l.map (Value.int .i64)).length = l.length := List.length_map ..
  have hd : ((l.drop (k + 1)).map (Value.int .i64)).length = l.length - 1 - k := by rw [List.length_map, List.length_drop]; omega
  have e1 := take_setL_lt (setL (l.map (Value.int .i64)) k ((l.drop (k + 1)).map (Value.int .i64))) (l.length - 1) (l.length - 1) z (by rw [setL_length]; omega) (Nat.le_refl _)
  rw [e1]
  have e : l.length - 1 = k + ((l.drop (k + 1)).map (Value.int .i64)).length := by rw [hd]; omega
  rw [e, take_setL _ _ _ (by omega), ← List.map_take, ← List.map_append, ← List.eraseIdx_eq_take_drop_succ]

end Go.Proofs.Ytmkjmancmiphfaa
