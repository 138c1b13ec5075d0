/-
  slices.Clone and slices.Delete (of one element): the walks of the library's own text, at tasks and at integers.
-/
import Derived.Test.YtmkjmancmiphfaaGreatDoorAppend
import Derived.Deep.RegionLaw
import Derived.Lib.SliceRun
namespace Go.Proofs.YtmkjmancmiphfaaGreatDoor
open Go.RowKit

/-- append of a whole slice to a row of the call's own. -/
theorem wpList_app_tasks (w : World) {ops : Array Oper} {rest : List Oper} {o : Oper} {a : Act} {Q : Exit → Act → World → Prop} (hgd : o.guard = none) (s x : Operand)
    (ho : o.op = .call { callee := .builtin .append, args := #[s, x], argTypes := #[23, 23] })
    (base : Nat) (A : Option Addr) (l : List Tk) (c : Nat) (hs : a.eval s = .slice A l.length c) (hown : OT base w A c l)
    (ad : Addr) (c1 : Nat) (m : List Tk) (hx : a.eval x = .slice (some ad) m.length c1) (hm : TS w (some ad) m)
    (hl : l.length ≤ 2000000) (hlm : m.length ≤ 2000000) (hbase : base ≤ w.heap.size)
    (h : ∀ A' c' w', OT base w' A' c' (l ++ m) → w.grownBy w' (Value.slice A l.length c).ownBlock → Below base w w' → wpList Tryz.prog ops Q rest (a.put o.dst (.slice A' (l.length + m.length) c')) w') : wpList Tryz.prog ops Q (o :: rest) a w := by
  obtain ⟨i0, hi, hz0, hz1, hz2⟩ := info_parts infoTaskB
  refine wpList_append_own w hgd s x 23 ho base 58 i0 _ 5 40 Tryz.underlying23 hi hz0 hz1 hz2 rfl (by decide) (.slice A l.length c) l.length (flat l) hs hown
    ad m.length c1 (flat m) hx (by rw [flat_length, Nat.mul_comm]) ?_ ?_ (by unfold maxLen; omega) (by omega) hbase ?_
  · intro j u hj
    have hpos : 0 < m.length := by
      have := (List.getElem?_eq_some_iff.1 hj).1
      rw [flat_length] at this
      omega
    obtain ⟨b, off, hA, _, hc⟩ := hm hpos
    cases hA
    rw [Go.WideShapes.add_plain]
    exact hc j u hj
  · intro u hu
    simp only [flat, List.mem_flatMap, Tk.cells, List.mem_cons, List.not_mem_nil, or_false] at hu
    obtain ⟨t, _, rfl | rfl | rfl | rfl | rfl⟩ := hu <;> rfl
  · intro v' w' hown' hg _
    obtain ⟨A', c', rfl⟩ := own_form hown'
    refine h A' c' w' ?_ hg (own_below hown hg hbase)
    unfold OT
    rw [List.length_append, flat_append]
    exact hown'
theorem wpList_app_ints (w : World) {ops : Array Oper} {rest : List Oper} {o : Oper} {a : Act} {Q : Exit → Act → World → Prop} (hgd : o.guard = none) (s x : Operand)
    (ho : o.op = .call { callee := .builtin .append, args := #[s, x], argTypes := #[27, 27] })
    (base : Nat) (A : Option Addr) (l : List Int) (c : Nat) (hs : a.eval s = .slice A l.length c) (hown : OI base w A c l)
    (ad : Addr) (c1 : Nat) (m : List Int) (hx : a.eval x = .slice (some ad) m.length c1) (hm : IS w (some ad) m)
    (hl : l.length ≤ 2000000) (hlm : m.length ≤ 2000000) (hbase : base ≤ w.heap.size)
    (h : ∀ A' c' w', OI base w' A' c' (l ++ m) → w.grownBy w' (Value.slice A l.length c).ownBlock → Below base w w' → wpList Tryz.prog ops Q rest (a.put o.dst (.slice A' (l.length + m.length) c')) w') : wpList Tryz.prog ops Q (o :: rest) a w := by
  obtain ⟨i0, hi, hz0, hz1, hz2⟩ := info_parts infoIntB
  refine wpList_append_own w hgd s x 27 ho base 3 i0 _ 1 8 Tryz.underlying27 hi hz0 hz1 hz2 rfl (by decide) (.slice A l.length c) l.length (l.map (.int .i64)) hs hown
    ad m.length c1 (m.map (.int .i64)) hx (by simp) ?_ ?_ (by unfold maxLen; omega) (by omega) hbase ?_
  · intro j u hj
    rw [List.getElem?_map] at hj
    obtain ⟨y, hy, rfl⟩ := Option.map_eq_some_iff.1 hj
    have hpos : 0 < m.length := by
      have := (List.getElem?_eq_some_iff.1 hy).1
      omega
    obtain ⟨b, off, hA, _, hc⟩ := hm hpos
    cases hA
    rw [Go.WideShapes.add_plain]
    exact hc j y hy
  · intro u hu
    obtain ⟨y, _, rfl⟩ := List.mem_map.1 hu
    rfl
  · intro v' w' hown' hg _
    obtain ⟨A', c', rfl⟩ := own_form hown'
    refine h A' c' w' ?_ hg (own_below hown hg hbase)
    unfold OI
    rw [List.length_append, List.map_append]
    exact hown'

theorem TS_none {w : World} {l : List Tk} (h : TS w none l) : l = [] := by
  cases l with
  | nil => rfl
  | cons t l => obtain ⟨b, off, hA, _⟩ := h (by simp); cases hA
theorem IS_none {w : World} {l : List Int} (h : IS w none l) : l = [] := by
  cases l with
  | nil => rfl
  | cons t l => obtain ⟨b, off, hA, _⟩ := h (by simp); cases hA

theorem slices_CloneT (A : Option Addr) (l : List Tk) (c : Nat) (w : World) (h : TS w A l) (hl : l.length ≤ 2000000) :
    Calls Tryz.prog 172 #[.slice A l.length c] w (RetT w l) := by
  have hnil := Lib.run_eql_slice_nil (P := Tryz.prog) (t := 23) (e := 58) (a := A) (n := l.length) (c := c) (n' := 0) (c' := 0) (h := Tryz.underlying23)
  cases A with
  | none =>
    have e := TS_none h
    subst e
    simp only [List.length_nil, Option.isNone_none] at hnil ⊢
    clear h hl
    go_enter Tryz.func172, Tryz.ntmps172
    go_wp2_with fail
    go_ret
    exact ⟨none, 0, rfl, OT_nil _ _, Below.refl _ _⟩
  | some ad =>
    simp only [Option.isNone_some] at hnil
    go_enter Tryz.func172, Tryz.ntmps172
    go_wp2_with (at_builtin; refine wpList_app_tasks _ rfl _ _ rfl w.heap.size (some ⟨w.heap.size, 0, none⟩) [] 0 rfl (OT_blank w _ (Nat.le_refl _)) ad c l rfl (h.keep (bal (Below.refl _ _) _)) (by simp) (by omega) (by simp) ?_; intro A' c' w1 o1 g1 b1; rw [List.nil_append] at o1)
    have B1 : Below w.heap.size w w1 := (bal (Below.refl _ _) _).trans b1
    go_wp2_with fail
    go_ret
    exact ⟨A', c', rfl, o1, B1⟩

def setL : List Value → Nat → List Value → List Value
  | xs, _, [] => xs
  | xs, o, v :: r => setL (xs.set o v) (o + 1) r
theorem setL_length (xs : List Value) (o : Nat) (vs : List Value) : (setL xs o vs).length = xs.length := by
  induction vs generalizing xs o with
  | nil => rfl
  | cons v r ih => rw [setL, ih, List.length_set]
theorem setL_at (xs : List Value) (o : Nat) (vs : List Value) (j : Nat) (h : o + vs.length ≤ xs.length) : (setL xs o vs)[j]? = if o ≤ j ∧ j < o + vs.length then vs[j - o]? else xs[j]? := by
  induction vs generalizing xs o with
  | nil => rw [setL, if_neg (by simp only [List.length_nil]; omega)]
  | cons v r ih =>
    simp only [List.length_cons] at h
    rw [setL, ih (xs.set o v) (o + 1) (by rw [List.length_set]; omega)]
    simp only [List.length_cons]
    by_cases h1 : j = o
    · subst h1
      rw [if_neg (by omega), if_pos (by omega), Nat.sub_self, List.getElem?_set_self (by omega)]
      rfl
    · by_cases h2 : o + 1 ≤ j ∧ j < o + 1 + r.length
      · rw [if_pos h2, if_pos (by omega), show j - o = (j - (o + 1)) + 1 by omega]
        simp
      · rw [if_neg h2, if_neg (by omega), List.getElem?_set_ne (by omega)]
theorem own_setCells {base : Nat} {t : TypeId} {size g n cap : Nat} : ∀ (vs : List Value) (o : Nat) {w : World} {xs : List Value}, w.ownsRow base t size (.slice (some ⟨g, 0, none⟩) n cap) n xs → (w.setCells g o vs).ownsRow base t size (.slice (some ⟨g, 0, none⟩) n cap) n (setL xs o vs)
  | [], _, _, _, h => h
  | v :: r, o, _, _, h => own_setCells r (o + 1) (h.stored o v).1
theorem gb_setCells {g : Nat} : ∀ (vs : List Value) (o : Nat) {a w : World}, a.grownBy w (some g) → a.grownBy (w.setCells g o vs) (some g)
  | [], _, _, _, h => h
  | v :: r, o, a, w, h => gb_setCells r (o + 1) (a := a) (w := w.setCell ⟨g, o, none⟩ v) ⟨h.os, h.tape, h.output, by simp [World.setCell]; exact h.size, fun i hi hne => (Below.heap_setCell w _ v i (fun e => hne (by rw [e]))).trans (h.block i hi hne)⟩
theorem flat_drop (l : List Tk) (k : Nat) (hk : k ≤ l.length) : (flat l).drop (k * 5) = flat (l.drop k) := by
  have e : flat l = flat (l.take k) ++ flat (l.drop k) := by rw [← flat_append, List.take_append_drop]
  rw [e, List.drop_left' (by rw [flat_length, List.length_take]; omega)]
theorem flat_cells (l : List Tk) : ∀ u ∈ flat l, u.oneCell' = true := by
  intro u hu
  simp only [flat, List.mem_flatMap, Tk.cells, List.mem_cons, List.not_mem_nil, or_false] at hu
  obtain ⟨t, _, rfl | rfl | rfl | rfl | rfl⟩ := hu <;> rfl
theorem take_setL (xs : List Value) (o : Nat) (vs : List Value) (h : o + vs.length ≤ xs.length) : (setL xs o vs).take (o + vs.length) = xs.take o ++ vs := by
  apply List.ext_getElem?
  intro j
  by_cases hj : j < o + vs.length
  · rw [List.getElem?_take_of_lt hj, setL_at xs o vs j h]
    by_cases h1 : o ≤ j
    · rw [if_pos ⟨h1, hj⟩, List.getElem?_append_right (by simp; omega)]
      congr 1
      simp
      omega
    · rw [if_neg (by omega), List.getElem?_append_left (by simp; omega), List.getElem?_take_of_lt (by omega)]
  · rw [List.getElem?_eq_none (by simp; omega), List.getElem?_eq_none (by simp; omega)]
theorem take_setL_lt (xs : List Value) (o n : Nat) (vs : List Value) (h : o + vs.length ≤ xs.length) (hn : n ≤ o) : (setL xs o vs).take n = xs.take n := by
  apply List.ext_getElem?
  intro j
  by_cases hj : j < n
  · rw [List.getElem?_take_of_lt hj, setL_at xs o vs j h, if_neg (by omega), List.getElem?_take_of_lt hj]
  · rw [List.getElem?_eq_none (by simp; omega), List.getElem?_eq_none (by simp; omega)]
theorem eraseIdx_split (l : List Tk) (k : Nat) : l.eraseIdx k = l.take k ++ l.drop (k + 1) := List.eraseIdx_eq_take_drop_succ l k
/-- What stands behind the one that goes moves up; the last place is cleared. -/
theorem flat_erase (l : List Tk) (k : Nat) (hk : k < l.length) (z : List Value) (hz : z.length = 5) :
    (setL (setL (flat l) (k * 5) (flat (l.drop (k + 1)))) ((l.length - 1) * 5) z).take ((l.length - 1) * 5) = flat (l.eraseIdx k) := by
  have hl := flat_length l
  have hd : (flat (l.drop (k + 1))).length = (l.length - 1 - k) * 5 := by rw [flat_length, List.length_drop]; omega
  rw [take_setL_lt _ _ _ _ (by rw [setL_length]; omega) (Nat.le_refl _)]
  have e : (l.length - 1) * 5 = k * 5 + (flat (l.drop (k + 1))).length := by rw [hd]; omega
  rw [e, take_setL _ _ _ (by omega), flat_take, ← flat_append, ← eraseIdx_split]

theorem run_clear_task (w : World) (ty : TypeId) (b o c : Nat) (hc : ∀ j, j < 5 → (w.cell? ⟨b, o + j, none⟩).isSome = true) (hf : ∀ j, j < 5 → w.frozen? ⟨b, o + j, none⟩ = false) :
    (Builtin.clear_ #[23] ty #[.slice (some ⟨b, o, none⟩) 1 c]).run Tryz.prog w = .ok (.tuple #[]) (w.setCells b o [.int .i64 0, .int .i64 0, .int .i64 0, .int .i64 0, .bool false]) := by
  have hzc : (Builtin.zeroCells (Value.agg #[.int .i64 0, .int .i64 0, .int .i64 0, .int .i64 0, .bool false]).cells 1).toList = [.int .i64 0, .int .i64 0, .int .i64 0, .int .i64 0, .bool false] := by kernel_rfl
  have hst := run_storeCells_cells (P := Tryz.prog) b o [.int .i64 0, .int .i64 0, .int .i64 0, .int .i64 0, .bool false] 0 w (by simpa using hc) (by simpa using hf) (by intro v hv; simp at hv; rcases hv with rfl | rfl <;> rfl)
  have hv : ∀ w, (zeroValue 58).run Tryz.prog w = .ok (.agg #[.int .i64 0, .int .i64 0, .int .i64 0, .int .i64 0, .bool false]) w := fun _ => by kernel_rfl
  simp only [Nat.add_zero] at hst
  simp [Builtin.clear_, run_underlying Tryz.underlying23, hv, hzc, hst]

set_option maxHeartbeats 4000000 in
set_option maxRecDepth 1000000 in
theorem slices_DeleteT (base b c k : Nat) (l : List Tk) (w : World) (h : OT base w (some ⟨b, 0, none⟩) c l) (hk : k < l.length) (hl : l.length ≤ 2000000) :
    Calls Tryz.prog 191 #[.slice (some ⟨b, 0, none⟩) l.length c, .int .i64 (k : Int), .int .i64 ((k : Int) + 1)] w fun e w' =>
      e = .returned (.slice (some ⟨b, 0, none⟩) (l.eraseIdx k).length c) ∧ OT base w' (some ⟨b, 0, none⟩) c (l.eraseIdx k) ∧ w.grownBy w' (some b) := by
  have hlen : (l.eraseIdx k).length = l.length - 1 := List.length_eraseIdx_of_lt hk
  have hsz := own_size h
  obtain ⟨hsz1, hsz2⟩ := hsz
  unfold maxLen at hsz2
  have hx := h.1
  obtain ⟨i0, hi0, hz0, hz1, hz2⟩ := info_parts infoTaskB
  have hcell : ∀ (j : Nat), j < l.length * 5 → w.cell? ⟨b, j, none⟩ = (flat l)[j]? := fun j hj => h.cellAt _ (by omega)
  have hfro : ∀ j, w.frozen? ⟨b, j, none⟩ = false := fun j => h.frozenAt j
  obtain ⟨news, hnews⟩ : ∃ news, news = flat (l.drop (k + 1)) := ⟨_, rfl⟩
  have hnl : news.length = (l.length - (k + 1)) * 5 := by rw [hnews, flat_length, List.length_drop]; omega
  obtain ⟨A, hA, hsrc⟩ : ∃ A : Addr, (if c = k + 1 then (some (⟨b, 0, none⟩ : Addr)) else some ⟨b, (k + 1) * 5, none⟩) = some A ∧ Hid (∀ t u, news[t]? = some u → w.drew.cell? (A.add t) = some u) := by
    by_cases h1 : c = k + 1
    · refine ⟨⟨b, 0, none⟩, by simp [h1], fun t u hu => ?_⟩
      have h0 : news.length = 0 := by rw [hnl]; omega
      rw [List.length_eq_zero_iff.1 h0] at hu
      simp at hu
    · refine ⟨⟨b, (k + 1) * 5, none⟩, by simp [h1], fun t u hu => ?_⟩
      have ht : t < (l.length - (k + 1)) * 5 := by
        have := (List.getElem?_eq_some_iff.1 hu).1
        rwa [hnl] at this
      rw [Go.WideShapes.add_plain]
      show w.cell? _ = _
      rw [hcell _ (by omega), ← hu, hnews, ← flat_drop l (k + 1) (by omega), List.getElem?_drop]
  have s1 : Hid (news.length = (l.length - (k + 1)) * 5) := hnl
  have s2 : Hid (∀ u ∈ news, u.oneCell' = true) := by rw [hnews]; exact flat_cells _
  have s3 : Hid (∀ t, t < news.length → (w.drew.cell? ⟨b, 0 + k * 5 + t, none⟩).isSome = true ∧ w.drew.frozen? ⟨b, 0 + k * 5 + t, none⟩ = false) := by
    intro t ht
    rw [hnl] at ht
    refine ⟨?_, hfro _⟩
    show (w.cell? _).isSome = true
    rw [hcell _ (by omega), List.getElem?_eq_getElem (by omega)]
    rfl
  obtain ⟨W1, hW1⟩ : ∃ W1, W1 = w.drew.setCells b (0 + k * 5) news := ⟨_, rfl⟩
  have hO1 : W1.ownsRow base 58 5 (.slice (some ⟨b, 0, none⟩) l.length c) l.length (setL (flat l) (k * 5) news) := by
    rw [hW1, Nat.zero_add]
    exact own_setCells news (k * 5) (own_keep h (Below.drew (Below.refl _ _)))
  have hcl : ∀ ty, (Builtin.clear_ #[23] ty #[.slice (some ⟨b, (k + (l.length - (k + 1))) * 5, none⟩) (l.length - (k + (l.length - (k + 1)))) (c - (k + (l.length - (k + 1))))]).run Tryz.prog W1 = .ok (.tuple #[]) (W1.setCells b ((l.length - 1) * 5) [.int .i64 0, .int .i64 0, .int .i64 0, .int .i64 0, .bool false]) :=
    fun ty => by
      rw [show k + (l.length - (k + 1)) = l.length - 1 by omega, show l.length - (l.length - 1) = 1 by omega]
      exact run_clear_task W1 ty b _ _ (fun j hj => by rw [hO1.cellAt _ (by omega), List.getElem?_eq_getElem (by rw [setL_length]; omega)]; rfl) (fun j _ => hO1.frozenAt _)
  have hO2 := own_setCells [.int .i64 0, .int .i64 0, .int .i64 0, .int .i64 0, .bool false] ((l.length - 1) * 5) hO1
  have hO3 := own_take hO2 (l.length - 1) (by omega)
  rw [hnews, flat_erase l k hk _ rfl] at hO3
  have hG : w.grownBy (W1.setCells b ((l.length - 1) * 5) [.int .i64 0, .int .i64 0, .int .i64 0, .int .i64 0, .bool false]) (some b) := by
    refine gb_setCells _ _ ?_
    rw [hW1]
    exact gb_setCells _ _ ⟨rfl, rfl, rfl, Nat.le_refl _, fun _ _ _ => rfl⟩
  have HO : Hid (OT base (W1.setCells b ((l.length - 1) * 5) [.int .i64 0, .int .i64 0, .int .i64 0, .int .i64 0, .bool false]) (some ⟨b, 0, none⟩) c (l.eraseIdx k)) := by
    rw [Hid, OT, hlen]
    exact hO3
  have HG := Lib.hid hG
  have hW : Hid (W1 = w.drew.setCells b (0 + k * 5) news) := hW1
  have HL := Lib.hid hlen
  have hic : k ≤ c := by omega
  have hjc : k + 1 ≤ c := by omega
  clear hW1 hO1 hO2 hO3 hG hcell hfro hnews hnl hx h hlen
  go_enter Tryz.func191, Tryz.ntmps191
  go_wp2_with fail
  have q1 : (0 : Int) ≤ (k : Int) + 1 := by omega
  have q2 : (k : Int) + 1 ≤ (l.length : Int) := by omega
  go_region_law (refine step_append_room rfl (.tmp 22) (.tmp 25) 23 rfl 58 i0 5 Tryz.underlying23 hi0 hz1 b 0 k c (by simp [Act.eval, Act.put]) A (l.length - (k + 1)) (c - (k + 1)) news (by simp [Act.eval, Act.put]) s1.out hsrc.out s2.out (by omega) s3.out ?_; rw [← hW.out])
  go_wp2_with fail
  go_ret
  exact ⟨by rw [HL.out, show l.length - 1 = k + (l.length - (k + 1)) by omega]; rfl, HO.out, HG.out⟩
theorem int_erase (l : List Int) (k : Nat) (hk : k < l.length) (z : List Value) (hz : z.length = 1) :
    (setL (setL (l.map (.int .i64)) k ((l.drop (k + 1)).map (.int .i64))) (l.length - 1) z).take (l.length - 1) = (l.eraseIdx k).map (.int .i64) := by
  have hl : (l.map (Value.int .i64)).length = l.length := List.length_map ..
  have hd : ((l.drop (k + 1)).map (Value.int .i64)).length = l.length - 1 - k := by rw [List.length_map, List.length_drop]; omega
  have e1 := take_setL_lt (setL (l.map (Value.int .i64)) k ((l.drop (k + 1)).map (Value.int .i64))) (l.length - 1) (l.length - 1) z (by rw [setL_length]; omega) (Nat.le_refl _)
  rw [e1]
  have e : l.length - 1 = k + ((l.drop (k + 1)).map (Value.int .i64)).length := by rw [hd]; omega
  rw [e, take_setL _ _ _ (by omega), ← List.map_take, ← List.map_append, ← List.eraseIdx_eq_take_drop_succ]

set_option maxHeartbeats 4000000 in
set_option maxRecDepth 1000000 in
theorem slices_DeleteI (base b c k : Nat) (l : List Int) (w : World) (h : OI base w (some ⟨b, 0, none⟩) c l) (hk : k < l.length) (hl : l.length ≤ 2000000) :
    Calls Tryz.prog 178 #[.slice (some ⟨b, 0, none⟩) l.length c, .int .i64 (k : Int), .int .i64 ((k : Int) + 1)] w fun e w' =>
      e = .returned (.slice (some ⟨b, 0, none⟩) (l.eraseIdx k).length c) ∧ OI base w' (some ⟨b, 0, none⟩) c (l.eraseIdx k) ∧ w.grownBy w' (some b) := by
  have hlen : (l.eraseIdx k).length = l.length - 1 := List.length_eraseIdx_of_lt hk
  have hsz := own_size h
  obtain ⟨hsz1, hsz2⟩ := hsz
  unfold maxLen at hsz2
  have hx := h.1
  obtain ⟨i0, hi0, hz0, hz1, hz2⟩ := info_parts infoIntB
  have hcell : ∀ (j : Nat), j < l.length → w.cell? ⟨b, j, none⟩ = (l.map (Value.int .i64))[j]? := fun j hj => h.cellAt _ (by omega)
  have hfro : ∀ j, w.frozen? ⟨b, j, none⟩ = false := fun j => h.frozenAt j
  obtain ⟨news, hnews⟩ : ∃ news, news = (l.drop (k + 1)).map (Value.int .i64) := ⟨_, rfl⟩
  have hnl : news.length = (l.length - (k + 1)) := by rw [hnews, List.length_map, List.length_drop]
  obtain ⟨A, hA, hsrc⟩ : ∃ A : Addr, (if c = k + 1 then (some (⟨b, 0, none⟩ : Addr)) else some ⟨b, (k + 1), none⟩) = some A ∧ Hid (∀ t u, news[t]? = some u → w.drew.cell? (A.add t) = some u) := by
    by_cases h1 : c = k + 1
    · refine ⟨⟨b, 0, none⟩, by simp [h1], fun t u hu => ?_⟩
      have h0 : news.length = 0 := by rw [hnl]; omega
      rw [List.length_eq_zero_iff.1 h0] at hu
      simp at hu
    · refine ⟨⟨b, (k + 1), none⟩, by simp [h1], fun t u hu => ?_⟩
      have ht : t < (l.length - (k + 1)) := by
        have := (List.getElem?_eq_some_iff.1 hu).1
        rwa [hnl] at this
      rw [Go.WideShapes.add_plain]
      show w.cell? _ = _
      rw [hcell _ (by omega), ← hu, hnews, List.map_drop, List.getElem?_drop]
  have s1 : Hid (news.length = (l.length - (k + 1))) := hnl
  have s2 : Hid (∀ u ∈ news, u.oneCell' = true) := by 
    rw [hnews]
    intro u hu
    obtain ⟨y, _, rfl⟩ := List.mem_map.1 hu
    rfl
  have s3 : Hid (∀ t, t < news.length → (w.drew.cell? ⟨b, 0 + k * 1 + t, none⟩).isSome = true ∧ w.drew.frozen? ⟨b, 0 + k * 1 + t, none⟩ = false) := by
    intro t ht
    rw [hnl] at ht
    refine ⟨?_, hfro _⟩
    show (w.cell? _).isSome = true
    rw [hcell _ (by omega), List.getElem?_eq_getElem (by omega)]
    rfl
  obtain ⟨W1, hW1⟩ : ∃ W1, W1 = w.drew.setCells b (0 + k * 1) news := ⟨_, rfl⟩
  have hO1 : W1.ownsRow base 3 1 (.slice (some ⟨b, 0, none⟩) l.length c) l.length (setL (l.map (.int .i64)) (k) news) := by
    rw [hW1, Nat.zero_add, Nat.mul_one]
    exact own_setCells news (k) (own_keep h (Below.drew (Below.refl _ _)))
  have hcl : ∀ ty, (Builtin.clear_ #[27] ty #[.slice (some ⟨b, (k + (l.length - (k + 1))), none⟩) (l.length - (k + (l.length - (k + 1)))) (c - (k + (l.length - (k + 1))))]).run Tryz.prog W1 = .ok (.tuple #[]) (W1.setCells b ((l.length - 1)) [.int .i64 0]) :=
    fun ty => by
      rw [show k + (l.length - (k + 1)) = l.length - 1 by omega, show l.length - (l.length - 1) = 1 by omega]
      exact Lib.run_clear_slice W1 _ _ ty _ Tryz.underlying27 (fun _ => by kernel_rfl) rfl rfl b _ 1 _ (by omega) (fun j hj => by rw [hO1.cellAt _ (by omega), List.getElem?_eq_getElem (by rw [setL_length, List.length_map]; omega)]; rfl) (fun j _ => hO1.frozenAt _)
  have hO2 := own_setCells [.int .i64 0] ((l.length - 1)) hO1
  have hO3 := own_take hO2 (l.length - 1) (by omega)
  rw [hnews, Nat.mul_one, int_erase l k hk _ rfl] at hO3
  have hG : w.grownBy (W1.setCells b ((l.length - 1)) [.int .i64 0]) (some b) := by
    refine gb_setCells _ _ ?_
    rw [hW1]
    exact gb_setCells _ _ ⟨rfl, rfl, rfl, Nat.le_refl _, fun _ _ _ => rfl⟩
  have HO : Hid (OI base (W1.setCells b ((l.length - 1)) [.int .i64 0]) (some ⟨b, 0, none⟩) c (l.eraseIdx k)) := by
    rw [Hid, OI, hlen]
    exact hO3
  have HG := Lib.hid hG
  have hW : Hid (W1 = w.drew.setCells b (0 + k * 1) news) := hW1
  have HL := Lib.hid hlen
  have hic : k ≤ c := by omega
  have hjc : k + 1 ≤ c := by omega
  clear hW1 hO1 hO2 hO3 hG hcell hfro hnews hnl hx h hlen
  go_enter Tryz.func178, Tryz.ntmps178
  go_wp2_with fail
  have q1 : (0 : Int) ≤ (k : Int) + 1 := by omega
  have q2 : (k : Int) + 1 ≤ (l.length : Int) := by omega
  go_region_law (refine step_append_room rfl (.tmp 22) (.tmp 25) 27 rfl 3 i0 1 Tryz.underlying27 hi0 hz1 b 0 k c (by simp [Act.eval, Act.put]) A (l.length - (k + 1)) (c - (k + 1)) news (by simp [Act.eval, Act.put]) (by rw [Nat.mul_one]; exact s1.out) hsrc.out s2.out (by omega) s3.out ?_; rw [← hW.out])
  go_wp2_with fail
  go_ret
  exact ⟨by rw [HL.out, show l.length - 1 = k + (l.length - (k + 1)) by omega]; rfl, HO.out, HG.out⟩
end Go.Proofs.YtmkjmancmiphfaaGreatDoor
