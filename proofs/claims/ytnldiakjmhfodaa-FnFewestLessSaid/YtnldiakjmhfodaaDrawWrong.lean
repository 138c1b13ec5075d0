/-
  l1Wrong: a task, sometimes one that is not valid.
-/
import Derived.Test.YtnldiakjmhfodaaDrawTask
namespace Go.Proofs.Ytnldiakjmhfodaa
open Go.RowKit

set_option maxHeartbeats 1000000 in
theorem spec_l1Wrong (W w : World) (g p : Nat) (t : Tk) (ht : Sm t) (h : RD W w g p) (hp : p + 2 ≤ 1099511627776) :
    Calls Try.prog 93 #[.pointer (some ⟨g, 0, none⟩), t.val] w (TaskPost W w g p 2) := by
  obtain ⟨low, high, due, every, crit⟩ := t
  have hgl := h.lt
  have hWw := h.below.size
  have hsm := ht
  simp only [Sm] at hsm
  obtain ⟨⟨s0, s1⟩, ⟨s2, s3⟩, ⟨s4, s5⟩, s6, s7⟩ := hsm
  go_enter Try.func93, Try.ntmps93
  go_wp2_with fail
  refine (spec_pick W _ g p _ (h.grow (bal (bal (Below.refl _ _) _) _)) (by omega)).mono ?_
  rintro e w1 ⟨x1, rfl, hx10, hx11, _, hr1, hg1⟩
  have hx11 := hx11 (by omega)
  have hT1 := Lib.hid (blk_keep ((Below.heap_alloc _ _ _ (by simp)).trans (heap_alloc_new w _)) hg1 (by omega))
  have hB1 := Lib.hid (blk_keep (heap_alloc_new (w.alloc _) _) hg1 (by simp; omega))
  have hG1 : Hid (w.grownBy w1 (some g)) := gb_trans (gb_alloc (gb_alloc (World.grownBy.refl _ _) _) _) hg1
  have hs1 : w.heap.size + 2 ≤ w1.heap.size := by have := hg1.size; simp at this; omega
  simp only [World.size_alloc] at hB1
  clear hg1
  obtain ⟨t0, t1, t2, t3, t4, tf⟩ := blk_five hT1.out
  obtain ⟨b0, b1, b2, b3, b4, bf⟩ := blk_five hB1.out
  rcases (show x1 = 0 ∨ x1 = 1 ∨ x1 = 2 ∨ x1 = 3 ∨ x1 = 4 ∨ 5 ≤ x1 from by omega) with rfl | rfl | rfl | rfl | rfl | h5
  · go_wp2_with fail
    refine (spec_num W _ g (p + 1) _ [0, -1, 21, 1] _ (hr1.grow (bal (Below.refl _ _) _)) (by omega) (IS_lit _ _ _ _ _ rfl rfl) (by simp) (by simp) (by rintro a ⟨⟩; simp; have := hr1.lt; omega)).mono ?_
    rintro e w2 ⟨x2, hx2, rfl, hr2, hg2⟩
    have hx2 : -100 ≤ x2 ∧ x2 ≤ 100 := by simp at hx2; omega
    have hT2 := Lib.hid (blk_keep ((Below.heap_alloc _ _ _ (by omega)).trans hT1.out) hg2 (by omega))
    have hB2 := Lib.hid (blk_keep ((Below.heap_alloc _ _ _ (by omega)).trans hB1.out) hg2 (by omega))
    have hG2 : Hid (w.grownBy w2 (some g)) := gb_trans (gb_alloc hG1.out _) hg2
    clear hg2 t0 t1 t2 t3 t4 tf b0 b1 b2 b3 b4 bf hT1 hB1 hG1 hr1
    obtain ⟨t0, t1, t2, t3, t4, tf⟩ := blk_five hT2.out
    obtain ⟨b0, b1, b2, b3, b4, bf⟩ := blk_five hB2.out
    go_wp2_with fail
    refine bodyPost_ret (v := Tk.val ⟨x2, high, due, every, crit⟩) (by simp [results, Try.results93, go_sem, b0, b1, b2, b3, b4]) rfl ⟨⟨x2, high, due, every, crit⟩, _, rfl, by simp only [Sm]; omega, ?_, ((hr2.set (a := ⟨w.heap.size, 0, none⟩) (by simp; omega) hWw _).set5 (b := w.heap.size + 1) (by omega) (by omega) _ _ _ _ _), gb_setOwn5 (gb_setOwn hG2.out (p := ⟨w.heap.size, 0, none⟩) (Nat.le_refl _) _) (Nat.le_succ _) _ _ _ _ _⟩
    omega
  · go_wp2_with fail
    refine (spec_num W _ g (p + 1) _ [0, 21, 5] _ (hr1.grow (bal (Below.refl _ _) _)) (by omega) (IS_lit _ _ _ _ _ rfl rfl) (by simp) (by simp) (by rintro a ⟨⟩; simp; have := hr1.lt; omega)).mono ?_
    rintro e w2 ⟨x2, hx2, rfl, hr2, hg2⟩
    have hx2 : -100 ≤ x2 ∧ x2 ≤ 100 := by simp at hx2; omega
    have hT2 := Lib.hid (blk_keep ((Below.heap_alloc _ _ _ (by omega)).trans hT1.out) hg2 (by omega))
    have hB2 := Lib.hid (blk_keep ((Below.heap_alloc _ _ _ (by omega)).trans hB1.out) hg2 (by omega))
    have hG2 : Hid (w.grownBy w2 (some g)) := gb_trans (gb_alloc hG1.out _) hg2
    clear hg2 t0 t1 t2 t3 t4 tf b0 b1 b2 b3 b4 bf hT1 hB1 hG1 hr1
    obtain ⟨t0, t1, t2, t3, t4, tf⟩ := blk_five hT2.out
    obtain ⟨b0, b1, b2, b3, b4, bf⟩ := blk_five hB2.out
    go_wp2_with fail
    refine bodyPost_ret (v := Tk.val ⟨low, x2, due, every, crit⟩) (by simp [results, Try.results93, go_sem, b0, b1, b2, b3, b4]) rfl ⟨⟨low, x2, due, every, crit⟩, _, rfl, by simp only [Sm]; omega, ?_, ((hr2.set (a := ⟨w.heap.size, 1, none⟩) (by simp; omega) hWw _).set5 (b := w.heap.size + 1) (by omega) (by omega) _ _ _ _ _), gb_setOwn5 (gb_setOwn hG2.out (p := ⟨w.heap.size, 1, none⟩) (Nat.le_refl _) _) (Nat.le_succ _) _ _ _ _ _⟩
    omega
  · go_wp2_with fail
    refine (spec_num W _ g (p + 1) _ [0, 21, 20] _ (hr1.grow (bal (Below.refl _ _) _)) (by omega) (IS_lit _ _ _ _ _ rfl rfl) (by simp) (by simp) (by rintro a ⟨⟩; simp; have := hr1.lt; omega)).mono ?_
    rintro e w2 ⟨x2, hx2, rfl, hr2, hg2⟩
    have hx2 : -100 ≤ x2 ∧ x2 ≤ 100 := by simp at hx2; omega
    have hT2 := Lib.hid (blk_keep ((Below.heap_alloc _ _ _ (by omega)).trans hT1.out) hg2 (by omega))
    have hB2 := Lib.hid (blk_keep ((Below.heap_alloc _ _ _ (by omega)).trans hB1.out) hg2 (by omega))
    have hG2 : Hid (w.grownBy w2 (some g)) := gb_trans (gb_alloc hG1.out _) hg2
    clear hg2 t0 t1 t2 t3 t4 tf b0 b1 b2 b3 b4 bf hT1 hB1 hG1 hr1
    obtain ⟨t0, t1, t2, t3, t4, tf⟩ := blk_five hT2.out
    obtain ⟨b0, b1, b2, b3, b4, bf⟩ := blk_five hB2.out
    go_wp2_with fail
    refine bodyPost_ret (v := Tk.val ⟨low, high, x2, every, crit⟩) (by simp [results, Try.results93, go_sem, b0, b1, b2, b3, b4]) rfl ⟨⟨low, high, x2, every, crit⟩, _, rfl, by simp only [Sm]; omega, ?_, ((hr2.set (a := ⟨w.heap.size, 2, none⟩) (by simp; omega) hWw _).set5 (b := w.heap.size + 1) (by omega) (by omega) _ _ _ _ _), gb_setOwn5 (gb_setOwn hG2.out (p := ⟨w.heap.size, 2, none⟩) (Nat.le_refl _) _) (Nat.le_succ _) _ _ _ _ _⟩
    omega
  · go_wp2_with fail
    refine bodyPost_ret (v := Tk.val ⟨low, high, due, every, !crit⟩) (by simp [results, Try.results93, go_sem, b0, b1, b2, b3, b4]) rfl ⟨⟨low, high, due, every, !crit⟩, _, rfl, by simp only [Sm]; omega, ?_, ((hr1.set (a := ⟨w.heap.size, 4, none⟩) (by simp; omega) hWw _).set5 (b := w.heap.size + 1) (by omega) (by omega) _ _ _ _ _), gb_setOwn5 (gb_setOwn hG1.out (p := ⟨w.heap.size, 4, none⟩) (Nat.le_refl _) _) (Nat.le_succ _) _ _ _ _ _⟩
    omega
  · go_wp2_with fail
    refine (spec_num W _ g (p + 1) _ [21, 0, 20] _ (hr1.grow (bal (Below.refl _ _) _)) (by omega) (IS_lit _ _ _ _ _ rfl rfl) (by simp) (by simp) (by rintro a ⟨⟩; simp; have := hr1.lt; omega)).mono ?_
    rintro e w2 ⟨x2, hx2, rfl, hr2, hg2⟩
    have hx2 : -100 ≤ x2 ∧ x2 ≤ 100 := by simp at hx2; omega
    have hT2 := Lib.hid (blk_keep ((Below.heap_alloc _ _ _ (by omega)).trans hT1.out) hg2 (by omega))
    have hB2 := Lib.hid (blk_keep ((Below.heap_alloc _ _ _ (by omega)).trans hB1.out) hg2 (by omega))
    have hG2 : Hid (w.grownBy w2 (some g)) := gb_trans (gb_alloc hG1.out _) hg2
    clear hg2 t0 t1 t2 t3 t4 tf b0 b1 b2 b3 b4 bf hT1 hB1 hG1 hr1
    obtain ⟨t0, t1, t2, t3, t4, tf⟩ := blk_five hT2.out
    obtain ⟨b0, b1, b2, b3, b4, bf⟩ := blk_five hB2.out
    go_wp2_with fail
    refine bodyPost_ret (v := Tk.val ⟨low, high, due, x2, crit⟩) (by simp [results, Try.results93, go_sem, b0, b1, b2, b3, b4]) rfl ⟨⟨low, high, due, x2, crit⟩, _, rfl, by simp only [Sm]; omega, ?_, ((hr2.set (a := ⟨w.heap.size, 3, none⟩) (by simp; omega) hWw _).set5 (b := w.heap.size + 1) (by omega) (by omega) _ _ _ _ _), gb_setOwn5 (gb_setOwn hG2.out (p := ⟨w.heap.size, 3, none⟩) (Nat.le_refl _) _) (Nat.le_succ _) _ _ _ _ _⟩
    omega
  · have n0 : (x1 == 0) = false := beq_eq_false_iff_ne.2 (by omega)
    have n1 : (x1 == 1) = false := beq_eq_false_iff_ne.2 (by omega)
    have n2 : (x1 == 2) = false := beq_eq_false_iff_ne.2 (by omega)
    have n3 : (x1 == 3) = false := beq_eq_false_iff_ne.2 (by omega)
    have n4 : (x1 == 4) = false := beq_eq_false_iff_ne.2 (by omega)
    go_wp2_with fail
    refine bodyPost_ret (v := Tk.val ⟨low, high, due, every, crit⟩) (by simp [results, Try.results93, go_sem, b0, b1, b2, b3, b4]) rfl ⟨⟨low, high, due, every, crit⟩, _, rfl, by simp only [Sm]; omega, ?_, hr1.set5 (b := w.heap.size + 1) (by omega) (by omega) _ _ _ _ _, gb_setOwn5 hG1.out (Nat.le_succ _) _ _ _ _ _⟩
    omega
end Go.Proofs.Ytnldiakjmhfodaa
