/-
  DrawAdmitTask, DrawAdmitAll. (Printed by gen_draws2.py.)
-/
import Derived.Test.YtmlbjcjihmfcjaaGreatDoorDrawHold
import Derived.Test.YtmlbjcjihmfcjaaGreatDoorDrawSome
import Derived.Test.YtmlbjcjihmfcjaaGreatDoorStep
namespace Go.Proofs.YtmlbjcjihmfcjaaGreatDoor
open Go.RowKit

/-- l11Open, called in a later world. -/
theorem spec_l11OpenW (W : World) (A : Option Addr) (l : List Int) (c : Nat) (w : World) (hW : Below W.heap.size W w) (h : BS W A l) (hl : l.length ≤ maxLen) (hlc : l.length ≤ c) :
    Calls Tryz.prog 80 #[.slice A l.length c] w fun e w' => e = .returned (.pointer (some ⟨w.heap.size, 0, none⟩)) ∧ RD W w' w.heap.size 0 ∧ Below w.heap.size w w' := by
  unfold maxLen at hl
  have hs := hW.size
  by_cases h2 : l.length ≤ 2000
  · go_enter Tryz.func80, Tryz.ntmps80
    go_wp2
    go_ret
    exact ⟨rfl, ⟨bal hW _, hs, ⟨A, l, c, heap_alloc_new w _, h, h2⟩, by omega⟩, bal (Below.refl _ _) _⟩
  · go_enter Tryz.func80, Tryz.ntmps80
    go_wp2
    go_ret
    have e : (l.take 2000).length = 2000 := by simp; omega
    refine ⟨rfl, ⟨bal hW _, hs, ⟨A, l.take 2000, c, ?_, ?_, by omega⟩, by omega⟩, bal (Below.refl _ _) _⟩
    · rw [e]; exact heap_alloc_new w _
    · refine ⟨fun x hx => h.1 x (List.mem_of_mem_take hx), fun _ => ?_⟩
      obtain ⟨b, off, hA, hb, hc⟩ := h.2 (by omega)
      exact ⟨b, off, hA, hb, fun j u hu => hc j u (by rw [List.getElem?_take] at hu; split at hu <;> simp_all)⟩
theorem OT_setLow {base : Nat} {w : World} {A : Option Addr} {c : Nat} {l : List Tk} (h : OT base w A c l) {p : Addr} (hp : p.block < base) (u : Value) : OT base (w.setCell p u) A c l := by
  refine World.ownsRow.kept h (gb_set (g := p.block) rfl u) ?_
  rcases h.2 with ⟨hv, _⟩ | ⟨g, cap, cur, hv, hg, _⟩
  · exact .inl (by rw [hv]; rfl)
  · refine .inr ?_
    rw [hv]
    intro e
    have : g = p.block := by simpa [Value.ownBlock] using e
    omega
theorem OT_setLow5 {base : Nat} {w : World} {A : Option Addr} {c : Nat} {l : List Tk} (h : OT base w A c l) {b i0 i1 i2 i3 i4 : Nat} (hb : b < base) (u0 u1 u2 u3 u4 : Value) : OT base (((((w.setCell ⟨b, i0, none⟩ u0).setCell ⟨b, i1, none⟩ u1).setCell ⟨b, i2, none⟩ u2).setCell ⟨b, i3, none⟩ u3).setCell ⟨b, i4, none⟩ u4) A c l :=
  OT_setLow (OT_setLow (OT_setLow (OT_setLow (OT_setLow h (p := ⟨b, i0, none⟩) hb u0) (p := ⟨b, i1, none⟩) hb u1) (p := ⟨b, i2, none⟩) hb u2) (p := ⟨b, i3, none⟩) hb u3) (p := ⟨b, i4, none⟩) hb u4

set_option maxHeartbeats 4000000 in
set_option maxRecDepth 100000 in
theorem spec_DrawAdmitTaskV (A0 : Option Addr) (code : List Int) (c0 : Nat) (w : World) (h : BS w A0 code) (hl : code.length ≤ maxLen) (hlc : code.length ≤ c0) :
    Calls Tryz.prog 65 #[.slice A0 code.length c0] w fun e w' => ∃ A c l t m, e = .returned (.tuple #[.slice A (List.length l) c, Tk.val t, .int .i64 m]) ∧ OT w.heap.size w' A c l ∧ (l.length ≤ 5 ∧ setVld l = true) ∧ 0 ≤ m ∧ m ≤ 2 ∧ Below w.heap.size w w' := by
  go_enter Tryz.func65, Tryz.ntmps65
  go_wp2_with fail
  refine (spec_l11OpenW w A0 code c0 _ (bal (Below.refl _ _) _) h hl hlc).mono ?_
  rintro e w1 ⟨rfl, hr1, b1⟩
  have hR1 := Lib.hid ((b1.block w.heap.size (by simp)).trans (heap_alloc_new w _))
  have hs1 := b1.size
  clear b1
  simp only [World.size_alloc] at hr1 hs1 ⊢
  have hg1 := hr1.lt
  have hRg : w.heap.size ≠ w.heap.size + 1 := by omega
  generalize hg : w.heap.size + 1 = g at hr1 hs1 hg1 hRg ⊢
  go_wp2_with fail
  refine (spec_num w _ g 0 _ [0, 1, 0, 1, 0, 1, 2] _ (hr1.grow (bal (Below.refl _ _) _)) (by omega) (IS_lit _ _ _ _ _ rfl rfl) (by simp) (by simp) (by rintro a ⟨⟩; simp; omega)).mono ?_
  rintro e w2 ⟨m, hm, rfl, hr2, hg2⟩
  have hm : 0 ≤ m ∧ m ≤ 2 := by simp at hm; omega
  have hR2 := Lib.hid (blk_keep ((Below.heap_alloc _ _ _ (by omega)).trans hR1.out) hg2 hRg)
  clear hg2 hR1 hr1
  go_wp2_with fail
  refine (spec_l1Task w _ g 1 hr2 (by omega)).mono ?_
  rintro e w3 ⟨t0, q0, rfl, hsm0, hq0, hr3, hg3⟩
  have hR3 := Lib.hid (blk_keep hR2.out hg3 hRg)
  clear hg3 hR2 hr2
  go_wp2_with fail
  refine (spec_l1Wrong w _ g q0 t0 hsm0 hr3 (by omega)).mono ?_
  rintro e w4 ⟨t, q, rfl, hsm, hq, hr4, hg4⟩
  have hR4 := Lib.hid (blk_keep hR3.out hg4 hRg)
  have hg4l := hr4.lt
  clear hg4 hR3 hr3 hsm0 hsm
  by_cases hm1 : m = 1
  · subst hm1
    go_wp2_with fail
    refine (spec_pick w _ g q _ (hr4.grow (bal (Below.refl _ _) _)) (by omega)).mono ?_
    rintro e w5 ⟨y, rfl, hy0, hy1, _, hr5, hg5⟩
    have hR5 := Lib.hid (blk_keep ((Below.heap_alloc _ _ _ (by have := hr4.below.size; omega)).trans hR4.out) hg5 hRg)
    have hT5 := Lib.hid (blk_keep (heap_alloc_new w4 _) hg5 (by omega))
    have hTg : w4.heap.size ≠ g := by omega
    have hTw : w.heap.size < w4.heap.size := by omega
    have hT5l : w4.heap.size < w5.heap.size := by have := hg5.size; simp at this; omega
    clear hR4 hg5 hr4
    generalize w4.heap.size = T at hT5 hTg hTw hT5l ⊢
    by_cases hy : 0 < y
    · obtain ⟨t0, t1, t2, t3, t4, tf⟩ := blk_five hT5.out
      have hr6 : RD w (w5.setCell ⟨T, 2, none⟩ (.int .i64 t.every)) g (q + 1) := hr5.set (a := ⟨T, 2, none⟩) hTg.symm (Nat.le_of_lt hTw) _
      have hR6 := Lib.hid ((Below.heap_setCell w5 ⟨T, 2, none⟩ (.int .i64 t.every) w.heap.size (by simp; omega)).trans hR5.out)
      have hT6 := Lib.hid (blk_set (i := 2) hT5.out (.int .i64 t.every))
      have hs6 : T < (w5.setCell ⟨T, 2, none⟩ (.int .i64 t.every)).heap.size := by simpa [World.setCell] using hT5l
      go_upto_region 6 with fail
      generalize World.setCell w5 _ _ = w6 at hr6 hR6 hT6 hs6 ⊢
      clear hr5 hR5 hT5 t0 t1 t2 t3 t4 tf hT5l
      have hT6 : Hid (w6.heap[T]? = some (.cells #[.int .i64 t.low, .int .i64 t.high, .int .i64 t.every, .int .i64 t.every, .bool t.crit] 73 (0, 0))) := hT6
      obtain ⟨k0, k1, k2, k3, k4, kf⟩ := blk_five hT6.out
      obtain ⟨z0, z1, z2, z3, z4, zf⟩ := blk_five hR6.out
      go_region_law (refine step_call rfl 144 Tryz.func144 (by kernel_rfl) rfl _ _ rfl #[.pointer (some ⟨g, 0, none⟩), .int .i64 1] (by simp [Act.eval, Act.put]) (spec_l8SetV w (World.drew w6) g (q + 1) 1 (hr6.grow (Below.drew (Below.refl _ _))) (by omega)) ?_; rintro e w7 ⟨A, c, l, q7, rfl, hO7, hl57, hq7, hr7, hg7⟩; refine ⟨_, rfl, ?_⟩; have hT7 := Lib.hid (blk_keep (w := World.drew w6) hT6.out hg7 hTg); have hR7 := Lib.hid (blk_keep (w := World.drew w6) hR6.out hg7 hRg); obtain ⟨p0, p1, p2, p3, p4, pf⟩ := blk_five hT7.out; obtain ⟨y0, y1, y2, y3, y4, yf⟩ := blk_five hR7.out)
      all_goals go_wp2_with fail
      all_goals refine bodyPost_ret (v := .tuple #[.slice A l.length c, Tk.val ⟨t.low, t.high, t.every, t.every, t.crit⟩, .int .i64 1]) (by simp [results, Tryz.results65, go_sem, y0, y1, y2, y3, y4]) rfl ⟨A, c, l, ⟨t.low, t.high, t.every, t.every, t.crit⟩, 1, rfl, own_base (OT_setLow5 hO7 (by show w.heap.size < w6.heap.size; omega) _ _ _ _ _) (by show w.heap.size ≤ w6.heap.size; omega), hl57, by omega, by omega, (hr7.set5 (b := w.heap.size) hRg.symm (Nat.le_refl _) _ _ _ _ _).below⟩
    · go_upto_region 6 with fail
      have hr6 := hr5
      have hR6 := hR5
      have hT6 := hT5
      have hs6 := hT5l
      clear hr5 hR5 hT5 hT5l
      generalize hww : w5 = w6 at *
      obtain ⟨k0, k1, k2, k3, k4, kf⟩ := blk_five hT6.out
      obtain ⟨z0, z1, z2, z3, z4, zf⟩ := blk_five hR6.out
      go_region_law (refine step_call rfl 144 Tryz.func144 (by kernel_rfl) rfl _ _ rfl #[.pointer (some ⟨g, 0, none⟩), .int .i64 1] (by simp [Act.eval, Act.put]) (spec_l8SetV w (World.drew w6) g (q + 1) 1 (hr6.grow (Below.drew (Below.refl _ _))) (by omega)) ?_; rintro e w7 ⟨A, c, l, q7, rfl, hO7, hl57, hq7, hr7, hg7⟩; refine ⟨_, rfl, ?_⟩; have hT7 := Lib.hid (blk_keep (w := World.drew w6) hT6.out hg7 hTg); have hR7 := Lib.hid (blk_keep (w := World.drew w6) hR6.out hg7 hRg); obtain ⟨p0, p1, p2, p3, p4, pf⟩ := blk_five hT7.out; obtain ⟨y0, y1, y2, y3, y4, yf⟩ := blk_five hR7.out)
      all_goals go_wp2_with fail
      all_goals refine bodyPost_ret (v := .tuple #[.slice A l.length c, Tk.val t, .int .i64 1]) (by simp [results, Tryz.results65, go_sem, y0, y1, y2, y3, y4]) rfl ⟨A, c, l, t, 1, rfl, own_base (OT_setLow5 hO7 (by show w.heap.size < w6.heap.size; omega) _ _ _ _ _) (by show w.heap.size ≤ w6.heap.size; omega), hl57, by omega, by omega, (hr7.set5 (b := w.heap.size) hRg.symm (Nat.le_refl _) _ _ _ _ _).below⟩
  · have hm1' : (m == 1) = false := beq_eq_false_iff_ne.2 hm1
    have hR6 := Lib.hid ((Below.heap_alloc w4 (.cells #[.int .i64 t.low, .int .i64 t.high, .int .i64 t.due, .int .i64 t.every, .bool t.crit] 73 (0, 0)) w.heap.size (by omega)).trans hR4.out)
    have hT6 := Lib.hid (heap_alloc_new w4 (.cells #[.int .i64 t.low, .int .i64 t.high, .int .i64 t.due, .int .i64 t.every, .bool t.crit] 73 (0, 0)))
    have hr6 := hr4.grow (bal (Below.refl _ _) (.cells #[.int .i64 t.low, .int .i64 t.high, .int .i64 t.due, .int .i64 t.every, .bool t.crit] 73 (0, 0)))
    have hs6 : w4.heap.size < (w4.alloc (.cells #[.int .i64 t.low, .int .i64 t.high, .int .i64 t.due, .int .i64 t.every, .bool t.crit] 73 (0, 0))).heap.size := by simp
    have hTg : w4.heap.size ≠ g := by omega
    have hTw : w.heap.size < w4.heap.size := by omega
    go_upto_region 6 with fail
    generalize World.alloc w4 _ = w6 at hr6 hR6 hT6 hs6 ⊢
    generalize w4.heap.size = T at hT6 hTg hTw hs6 ⊢
    clear hr4 hR4
    obtain ⟨k0, k1, k2, k3, k4, kf⟩ := blk_five hT6.out
    obtain ⟨z0, z1, z2, z3, z4, zf⟩ := blk_five hR6.out
    go_region_law (refine step_call rfl 144 Tryz.func144 (by kernel_rfl) rfl _ _ rfl #[.pointer (some ⟨g, 0, none⟩), .int .i64 m] (by simp [Act.eval, Act.put]) (spec_l8SetV w (World.drew w6) g (q) m (hr6.grow (Below.drew (Below.refl _ _))) (by omega)) ?_; rintro e w7 ⟨A, c, l, q7, rfl, hO7, hl57, hq7, hr7, hg7⟩; refine ⟨_, rfl, ?_⟩; have hT7 := Lib.hid (blk_keep (w := World.drew w6) hT6.out hg7 hTg); have hR7 := Lib.hid (blk_keep (w := World.drew w6) hR6.out hg7 hRg); obtain ⟨p0, p1, p2, p3, p4, pf⟩ := blk_five hT7.out; obtain ⟨y0, y1, y2, y3, y4, yf⟩ := blk_five hR7.out)
    all_goals go_wp2_with fail
    all_goals refine bodyPost_ret (v := .tuple #[.slice A l.length c, Tk.val t, .int .i64 m]) (by simp [results, Tryz.results65, go_sem, y0, y1, y2, y3, y4]) rfl ⟨A, c, l, t, m, rfl, own_base (OT_setLow5 hO7 (by show w.heap.size < w6.heap.size; omega) _ _ _ _ _) (by show w.heap.size ≤ w6.heap.size; omega), hl57, by omega, by omega, (hr7.set5 (b := w.heap.size) hRg.symm (Nat.le_refl _) _ _ _ _ _).below⟩
theorem spec_DrawAdmitTask (A0 : Option Addr) (code : List Int) (c0 : Nat) (w : World) (h : BS w A0 code) (hl : code.length ≤ maxLen) (hlc : code.length ≤ c0) :
    Calls Tryz.prog 65 #[.slice A0 code.length c0] w fun e w' => ∃ A c l t m, e = .returned (.tuple #[.slice A (List.length l) c, Tk.val t, .int .i64 m]) ∧ OT w.heap.size w' A c l ∧ l.length ≤ 5 ∧ 0 ≤ m ∧ m ≤ 2 ∧ Below w.heap.size w w' := by
  refine (spec_DrawAdmitTaskV A0 code c0 w h hl hlc).mono ?_
  rintro e w1 ⟨A, c, l, t, m, h1, h2, h3, h4⟩
  exact ⟨A, c, l, t, m, h1, h2, h3.1, h4⟩

end Go.Proofs.YtmlbjcjihmfcjaaGreatDoor
