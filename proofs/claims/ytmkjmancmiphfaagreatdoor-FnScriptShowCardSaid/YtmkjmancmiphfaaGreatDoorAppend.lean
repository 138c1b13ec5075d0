/-
  Append of one task, or one integer, to a row of the call's own.
-/
import Derived.Test.YtmkjmancmiphfaaGreatDoorBase
namespace Go.Proofs.YtmkjmancmiphfaaGreatDoor
open Go.RowKit

theorem infoIntB : (Tryz.prog.info? 3).map (fun i => (i.zero, i.size, i.bytes)) = some (some (.int .i64 0), 1, 8) := by kernel_rfl
theorem infoTaskB : (Tryz.prog.info? 58).map (fun i => (i.zero, i.size, i.bytes)) = some (some (.agg #[.int .i64 0, .int .i64 0, .int .i64 0, .int .i64 0, .bool false]), 5, 40) := by kernel_rfl

theorem flat_append (l m : List Tk) : flat (l ++ m) = flat l ++ flat m := by simp [flat]
theorem own_form {base : Nat} {w : World} {t : TypeId} {size : Nat} {v : Value} {n : Nat} {xs : List Value} (h : w.ownsRow base t size v n xs) : ∃ A c, v = .slice A n c := by
  rcases h.2 with ⟨rfl, rfl⟩ | ⟨g, cap, cur, rfl, _⟩
  · exact ⟨none, 0, rfl⟩
  · exact ⟨_, _, rfl⟩
theorem own_below {base : Nat} {w w' : World} {t : TypeId} {size : Nat} {v : Value} {n : Nat} {xs : List Value} (h : w.ownsRow base t size v n xs) (hg : w.grownBy w' v.ownBlock) (hb : base ≤ w.heap.size) : Below base w w' :=
  (Below.refl _ _).grown hg hb (fun k hk => (h.lt k hk).1)
theorem addr_add0 (b j : Nat) : (⟨b, 0, none⟩ : Addr).add j = ⟨b, j, none⟩ := by unfold Addr.add; split <;> simp_all

section
variable (w : World)
theorem wpList_app_task {ops : Array Oper} {rest : List Oper} {o : Oper} {a : Act} {Q : Exit → Act → World → Prop} (hgd : o.guard = none) (s x : Operand)
    (ho : o.op = .call { callee := .builtin .append, args := #[s, x], argTypes := #[23, 23] })
    (base : Nat) (A : Option Addr) (l : List Tk) (c : Nat) (hs : a.eval s = .slice A l.length c) (hown : OT base w A c l)
    (b c1 : Nat) (t : Tk) (cs : Array Value) (ty : TypeId) (hx : a.eval x = .slice (some ⟨b, 0, none⟩) 1 c1) (hb : w.heap[b]? = some (.cells cs ty (0, 0))) (hcs : cs.toList = t.cells)
    (hl : l.length ≤ 2000000) (hbase : base ≤ w.heap.size)
    (h : ∀ A' c' w', OT base w' A' c' (l ++ [t]) → w.grownBy w' (Value.slice A l.length c).ownBlock → Below base w w' → wpList Tryz.prog ops Q rest (a.put o.dst (.slice A' (l.length + 1) c')) w') : wpList Tryz.prog ops Q (o :: rest) a w := by
  obtain ⟨i0, hi, hz0, hz1, hz2⟩ := info_parts infoTaskB
  refine wpList_append_own w hgd s x 23 ho base 58 i0 _ 5 40 Tryz.underlying23 hi hz0 hz1 hz2 rfl (by decide) (.slice A l.length c) l.length (flat l) hs hown
    ⟨b, 0, none⟩ 1 c1 t.cells hx rfl ?_ ?_ (by unfold maxLen; omega) (by omega) hbase ?_
  · intro j u hj
    rw [addr_add0, cell_of_row w b j cs ty (0, 0) hb, ← Array.getElem?_toList, hcs]
    exact hj
  · intro u hu
    simp [Tk.cells] at hu
    rcases hu with rfl | rfl | rfl | rfl | rfl <;> rfl
  · intro v' w' hown' hg _
    obtain ⟨A', c', rfl⟩ := own_form hown'
    refine h A' c' w' ?_ hg (own_below hown hg hbase)
    unfold OT
    rw [List.length_append, List.length_singleton, flat_append]
    have e : flat [t] = t.cells := by simp [flat]
    rw [e]
    exact hown'

theorem wpList_app_int {ops : Array Oper} {rest : List Oper} {o : Oper} {a : Act} {Q : Exit → Act → World → Prop} (hgd : o.guard = none) (s x : Operand)
    (ho : o.op = .call { callee := .builtin .append, args := #[s, x], argTypes := #[27, 27] })
    (base : Nat) (A : Option Addr) (l : List Int) (c : Nat) (hs : a.eval s = .slice A l.length c) (hown : OI base w A c l)
    (b c1 : Nat) (n : Int) (ty : TypeId) (hx : a.eval x = .slice (some ⟨b, 0, none⟩) 1 c1) (hb : w.heap[b]? = some (.cells #[.int .i64 n] ty (0, 0)))
    (hl : l.length ≤ 2000000) (hbase : base ≤ w.heap.size)
    (h : ∀ A' c' w', OI base w' A' c' (l ++ [n]) → w.grownBy w' (Value.slice A l.length c).ownBlock → Below base w w' → wpList Tryz.prog ops Q rest (a.put o.dst (.slice A' (l.length + 1) c')) w') : wpList Tryz.prog ops Q (o :: rest) a w := by
  obtain ⟨i0, hi, hz0, hz1, hz2⟩ := info_parts infoIntB
  refine wpList_append_own w hgd s x 27 ho base 3 i0 _ 1 8 Tryz.underlying27 hi hz0 hz1 hz2 rfl (by decide) (.slice A l.length c) l.length (l.map (.int .i64)) hs hown
    ⟨b, 0, none⟩ 1 c1 [.int .i64 n] hx rfl ?_ ?_ (by unfold maxLen; omega) (by omega) hbase ?_
  · intro j u hj
    rw [addr_add0, cell_of_row w b j _ ty (0, 0) hb, ← Array.getElem?_toList]
    exact hj
  · intro u hu
    simp at hu
    subst hu
    rfl
  · intro v' w' hown' hg _
    obtain ⟨A', c', rfl⟩ := own_form hown'
    refine h A' c' w' ?_ hg (own_below hown hg hbase)
    unfold OI
    rw [List.length_append, List.length_singleton, List.map_append]
    exact hown'
end

/-- An empty row of the call's own: nil, or a row without room. -/
theorem OT_nil (base : Nat) (w : World) : OT base w none 0 [] := World.ownsRow_nil _ _ _ _
theorem OI_nil (base : Nat) (w : World) : OI base w none 0 [] := World.ownsRow_nil _ _ _ _
theorem own_blank (w : World) (t : TypeId) (size base : Nat) (hb : base ≤ w.heap.size) : (w.alloc (.cells #[] t)).ownsRow base t size (.slice (some ⟨w.heap.size, 0, none⟩) 0 0) 0 [] :=
  ⟨by simp, .inr ⟨w.heap.size, 0, #[], rfl, hb, heap_alloc_new w _, Nat.le_refl _, by simp [maxLen], by simp, by simp⟩⟩
theorem OT_blank (w : World) (base : Nat) (hb : base ≤ w.heap.size) : OT base (w.alloc (.cells #[] 58)) (some ⟨w.heap.size, 0, none⟩) 0 [] := own_blank w _ 5 base hb
theorem OI_blank (w : World) (base : Nat) (hb : base ≤ w.heap.size) : OI base (w.alloc (.cells #[] 3)) (some ⟨w.heap.size, 0, none⟩) 0 [] := own_blank w _ 1 base hb
theorem OT_alloc {base : Nat} {w : World} {A : Option Addr} {c : Nat} {l : List Tk} (h : OT base w A c l) (o : Obj) : OT base (w.alloc o) A c l := World.ownsRow.alloc h o
theorem OI_alloc {base : Nat} {w : World} {A : Option Addr} {c : Nat} {l : List Int} (h : OI base w A c l) (o : Obj) : OI base (w.alloc o) A c l := World.ownsRow.alloc h o
theorem OT_keep {base : Nat} {w w' : World} {A : Option Addr} {c : Nat} {l : List Tk} (h : OT base w A c l) (hb : Below w.heap.size w w') : OT base w' A c l := own_keep h hb
theorem OI_keep {base : Nat} {w w' : World} {A : Option Addr} {c : Nat} {l : List Int} (h : OI base w A c l) (hb : Below w.heap.size w w') : OI base w' A c l := own_keep h hb

theorem own_take {base : Nat} {w : World} {t : TypeId} {size : Nat} {A : Option Addr} {n c : Nat} {xs : List Value} (h : w.ownsRow base t size (.slice A n c) n xs) (k : Nat) (hk : k ≤ n) : w.ownsRow base t size (.slice A k c) k (xs.take (k * size)) := by
  have hl := h.1
  have hks : k * size ≤ n * size := Nat.mul_le_mul_right _ hk
  refine ⟨by rw [List.length_take]; omega, ?_⟩
  rcases h.2 with ⟨hv, h0⟩ | ⟨g, cap, cur, hv, hb, hh, hn, hm, hs, hx⟩
  · subst h0
    have : k = 0 := by omega
    subst this
    exact .inl ⟨hv, rfl⟩
  · injection hv with hA hn' hc
    subst hA hc
    exact .inr ⟨g, c, cur, rfl, hb, hh, by omega, hm, hs, by rw [← hx, List.take_take, Nat.min_eq_left hks]⟩
theorem flat_take (l : List Tk) (k : Nat) : (flat l).take (k * 5) = flat (l.take k) := by
  induction l generalizing k with
  | nil => simp [flat]
  | cons t l ih =>
    cases k with
    | zero => simp [flat]
    | succ k =>
      have e : flat (t :: l) = t.cells ++ flat l := by simp [flat]
      have e2 : flat ((t :: l).take (k + 1)) = t.cells ++ flat (l.take k) := by simp [flat]
      rw [e, e2, ← ih, List.take_append]
      have h5 : t.cells.length = 5 := rfl
      rw [h5, List.take_of_length_le (by rw [h5]; omega)]
      congr 2
      omega
theorem OT_take {base : Nat} {w : World} {A : Option Addr} {c : Nat} {l : List Tk} (h : OT base w A c l) (k : Nat) (hk : k ≤ l.length) : OT base w A c (l.take k) := by
  unfold OT
  have e : (l.take k).length = k := by simp; omega
  rw [e, ← flat_take]
  exact own_take h k hk
theorem OT_addr {base : Nat} {w : World} {A : Option Addr} {c : Nat} {l : List Tk} (h : OT base w A c l) (hl : 0 < l.length) : ∃ b, A = some ⟨b, 0, none⟩ ∧ base ≤ b ∧ b < w.heap.size := by
  rcases h.2 with ⟨_, h0⟩ | ⟨g, cap, cur, hv, hg, hh, _⟩
  · omega
  · injection hv with hA
    exact ⟨g, hA, hg, (Array.getElem?_eq_some_iff.1 hh).1⟩
theorem OI_addr {base : Nat} {w : World} {A : Option Addr} {c : Nat} {l : List Int} (h : OI base w A c l) (hl : 0 < l.length) : ∃ b, A = some ⟨b, 0, none⟩ ∧ base ≤ b ∧ b < w.heap.size := by
  rcases h.2 with ⟨_, h0⟩ | ⟨g, cap, cur, hv, hg, hh, _⟩
  · omega
  · injection hv with hA
    exact ⟨g, hA, hg, (Array.getElem?_eq_some_iff.1 hh).1⟩
theorem flat_set (l : List Tk) (k j : Nat) (hk : k < l.length) (hj : j < 5) (u : Value) (t : Tk) (ht : t.cells = l[k].cells.set j u) : flat (l.set k t) = (flat l).set (k * 5 + j) u := by
  induction l generalizing k with
  | nil => simp at hk
  | cons a l ih =>
    cases k with
    | zero =>
      have e : flat ((a :: l).set 0 t) = t.cells ++ flat l := by simp [flat]
      have e2 : flat (a :: l) = a.cells ++ flat l := by simp [flat]
      rw [e, e2, ht, Nat.zero_mul, Nat.zero_add, List.set_append_left _ _ (by simp [Tk.cells]; omega)]
      rfl
    | succ k =>
      have e : flat ((a :: l).set (k + 1) t) = a.cells ++ flat (l.set k t) := by simp [flat]
      have e2 : flat (a :: l) = a.cells ++ flat l := by simp [flat]
      have h5 : a.cells.length = 5 := rfl
      rw [e, e2, List.set_append_right _ _ (by rw [h5]; omega), ih k (by simpa using hk) (by simpa using ht)]
      congr 2
      rw [h5]; omega
/-- One field of one task stored. -/
theorem OT_field {base : Nat} {w : World} {b c : Nat} {l : List Tk} (h : OT base w (some ⟨b, 0, none⟩) c l) (k j : Nat) (hk : k < l.length) (hj : j < 5) (u : Value) (t : Tk) (ht : t.cells = l[k].cells.set j u) :
    OT base (w.setCell ⟨b, k * 5 + j, none⟩ u) (some ⟨b, 0, none⟩) c (l.set k t) ∧ w.grownBy (w.setCell ⟨b, k * 5 + j, none⟩ u) (some b) := by
  have h1 := World.ownsRow.stored h (k * 5 + j) u
  refine ⟨?_, h1.2⟩
  unfold OT
  rw [flat_set l k j hk hj u t ht, List.length_set]
  exact h1.1
/-- A whole task stored. -/
theorem flat_setAll (l : List Tk) (k : Nat) (hk : k < l.length) (t : Tk) : flat (l.set k t) = (((((flat l).set (k * 5) (.int .i64 t.low)).set (k * 5 + 1) (.int .i64 t.high)).set (k * 5 + 2) (.int .i64 t.due)).set (k * 5 + 3) (.int .i64 t.every)).set (k * 5 + 4) (.bool t.crit) := by
  have hlen : ∀ s : Tk, (l.set k s).length = l.length := fun s => List.length_set
  have e0 := flat_set l k 0 hk (by omega) (.int .i64 t.low) ⟨t.low, l[k].high, l[k].due, l[k].every, l[k].crit⟩ rfl
  have e1 := flat_set (l.set k ⟨t.low, l[k].high, l[k].due, l[k].every, l[k].crit⟩) k 1 (by rw [hlen]; exact hk) (by omega) (.int .i64 t.high) ⟨t.low, t.high, l[k].due, l[k].every, l[k].crit⟩ (by rw [List.getElem_set_self]; rfl)
  have e2 := flat_set (l.set k ⟨t.low, t.high, l[k].due, l[k].every, l[k].crit⟩) k 2 (by rw [hlen]; exact hk) (by omega) (.int .i64 t.due) ⟨t.low, t.high, t.due, l[k].every, l[k].crit⟩ (by rw [List.getElem_set_self]; rfl)
  have e3 := flat_set (l.set k ⟨t.low, t.high, t.due, l[k].every, l[k].crit⟩) k 3 (by rw [hlen]; exact hk) (by omega) (.int .i64 t.every) ⟨t.low, t.high, t.due, t.every, l[k].crit⟩ (by rw [List.getElem_set_self]; rfl)
  have e4 := flat_set (l.set k ⟨t.low, t.high, t.due, t.every, l[k].crit⟩) k 4 (by rw [hlen]; exact hk) (by omega) (.bool t.crit) t (by rw [List.getElem_set_self]; rfl)
  simp only [List.set_set, Nat.add_zero] at e0 e1 e2 e3 e4
  rw [e4, e3, e2, e1, e0]
theorem own_set5 {base : Nat} {w : World} {ty : TypeId} {b n c : Nat} {xs : List Value} (h : w.ownsRow base ty 5 (.slice (some ⟨b, 0, none⟩) n c) n xs) (i0 i1 i2 i3 i4 : Nat) (u0 u1 u2 u3 u4 : Value) :
    (((((w.setCell ⟨b, i0, none⟩ u0).setCell ⟨b, i1, none⟩ u1).setCell ⟨b, i2, none⟩ u2).setCell ⟨b, i3, none⟩ u3).setCell ⟨b, i4, none⟩ u4).ownsRow base ty 5 (.slice (some ⟨b, 0, none⟩) n c) n (((((xs.set i0 u0).set i1 u1).set i2 u2).set i3 u3).set i4 u4) := by
  have h0 := (World.ownsRow.stored h i0 u0).1
  have h1 := (World.ownsRow.stored h0 i1 u1).1
  have h2 := (World.ownsRow.stored h1 i2 u2).1
  have h3 := (World.ownsRow.stored h2 i3 u3).1
  exact (World.ownsRow.stored h3 i4 u4).1
theorem OT_whole {base : Nat} {w : World} {b c : Nat} {l : List Tk} (h : OT base w (some ⟨b, 0, none⟩) c l) (k : Nat) (hk : k < l.length) (t : Tk) :
    OT base (((((w.setCell ⟨b, k * 5, none⟩ (.int .i64 t.low)).setCell ⟨b, k * 5 + 1, none⟩ (.int .i64 t.high)).setCell ⟨b, k * 5 + 2, none⟩ (.int .i64 t.due)).setCell ⟨b, k * 5 + 3, none⟩ (.int .i64 t.every)).setCell ⟨b, k * 5 + 4, none⟩ (.bool t.crit)) (some ⟨b, 0, none⟩) c (l.set k t) := by
  have h5 := own_set5 h (k * 5) (k * 5 + 1) (k * 5 + 2) (k * 5 + 3) (k * 5 + 4) (.int .i64 t.low) (.int .i64 t.high) (.int .i64 t.due) (.int .i64 t.every) (.bool t.crit)
  rw [← flat_setAll l k hk t] at h5
  unfold OT
  rw [List.length_set]
  exact h5
end Go.Proofs.YtmkjmancmiphfaaGreatDoor
