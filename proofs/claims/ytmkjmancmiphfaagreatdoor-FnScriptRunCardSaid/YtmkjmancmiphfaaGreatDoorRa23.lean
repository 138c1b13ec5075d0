/-
  AssignOrder: the reference's.
  l1Set: drawn tasks.
  l1Wrong: a task, sometimes one that is not valid.
  l9Where, l9Set, l9Case: drawn ways and tasks.
  SortDue, the reference's: insertion, task by task.
  Insertion by exchange is insertion: in plain Lean.
-/
import Derived.Test.YtmkjmancmiphfaaGreatDoorRa06
import Derived.Test.YtmkjmancmiphfaaGreatDoorRa03
import Derived.Test.YtmkjmancmiphfaaGreatDoorRa01
import Derived.Deep.RegionHeld3
import Derived.Deep.CutBlock
import Derived.Deep.LoopGhost
import Derived.Shelf.SlSortCmp.InsertionK
namespace Go.Proofs.YtmkjmancmiphfaaGreatDoor
section
open Go.RowKit
end

section
open Go.RowKit

theorem RD.row {W w w' : World} {g p : Nat} (h : RD W w g p) {base : Nat} {t : TypeId} {size : Nat} {v : Value} {n : Nat} {xs : List Value} (hown : w.ownsRow base t size v n xs) (hne : t ≠ 98) (hg : w.grownBy w' v.ownBlock) (hb : Below W.heap.size w w') : RD W w' g p := by
  obtain ⟨A, l, c, hh, hs, hl⟩ := h.src
  refine ⟨h.below.trans hb, h.new, ⟨A, l, c, ?_, hs, hl⟩, h.small⟩
  refine (hg.block g h.lt ?_).trans hh
  rcases hown.2 with ⟨rfl, _⟩ | ⟨g', cap, cur, rfl, _, hh', _⟩
  · simp [Value.ownBlock]
  · intro he
    have : g = g' := by simpa [Value.ownBlock] using he
    subst this
    rw [hh] at hh'
    injection hh' with hh'
    injection hh' with _ e
    exact hne e.symm
theorem gb_row {a w w' : World} {g : Nat} (h : a.grownBy w (some g)) (hb : Below a.heap.size w w') : a.grownBy w' (some g) :=
  ⟨hb.os.trans h.os, hb.tape.trans h.tape, hb.output.trans h.output, Nat.le_trans h.size hb.size, fun i hi hne => (hb.block i hi).trans (h.block i hi hne)⟩
theorem OT_only {base : Nat} {w w' : World} {A : Option Addr} {c : Nat} {l : List Tk} (h : OT base w A c l) {W : World} {g p : Nat} (hr : RD W w g p) (hg : w.grownBy w' (some g)) : OT base w' A c l := by
  obtain ⟨A', l', c', hh, _⟩ := hr.src
  exact own_only h hg hh (by decide)
/-- Tasks drawn: at most m, all small, in new memory. -/
def SetPost (W w : World) (g p k m : Nat) (e : Ending) (w' : World) : Prop :=
  ∃ (A : Option Addr) (c : Nat) (l : List Tk) (q : Nat), e = .returned (.slice A l.length c) ∧ OT w.heap.size w' A c l ∧ (∀ t ∈ l, Sm t) ∧ l.length ≤ m ∧ q ≤ p + k ∧ RD W w' g q ∧ w.grownBy w' (some g)

/-- .. that are valid. -/
def SetPostV (W w : World) (g p k m : Nat) (e : Ending) (w' : World) : Prop :=
  ∃ (A : Option Addr) (c : Nat) (l : List Tk) (q : Nat), e = .returned (.slice A l.length c) ∧ OT w.heap.size w' A c l ∧ (∀ t ∈ l, Sm t ∧ vld t = true) ∧ l.length ≤ m ∧ q ≤ p + k ∧ RD W w' g q ∧ w.grownBy w' (some g)

set_option maxHeartbeats 1000000 in
theorem spec_l1SetV (W w : World) (g p : Nat) (h : RD W w g p) (hp : p + 31 ≤ 1099511627776) :
    Calls Tryz.prog 50 #[.pointer (some ⟨g, 0, none⟩)] w (SetPostV W w g p 31 5) := by
  have hgl := h.lt
  have hWw := h.below.size
  go_enter Tryz.func50, Tryz.ntmps50
  go_wp2_with fail
  refine (spec_num W _ g p _ [3, 2, 4, 1, 5, 0] _ (h.grow (bal (bal (Below.refl _ _) _) _)) (by omega) (IS_lit _ _ _ _ _ rfl (by simp)) (by simp) (by simp) (by rintro a ⟨⟩; simp; omega)).mono ?_
  rintro e w1 ⟨nv, hnv, rfl, hr1, hg1⟩
  have hnv : 0 ≤ nv ∧ nv ≤ 5 := by simp at hnv; omega
  obtain ⟨n, rfl⟩ : ∃ n : Nat, nv = (n : Int) := ⟨nv.toNat, (Int.toNat_of_nonneg hnv.1).symm⟩
  have hn5 : n ≤ 5 := by omega
  have hO1 : OT w.heap.size w1 (some ⟨w.heap.size, 0, none⟩) 0 [] := OT_only (OT_alloc (OT_blank w _ (Nat.le_refl _)) _) (h.grow (bal (bal (Below.refl _ _) _) _)) hg1
  have hG1 : Hid (w.grownBy w1 (some g)) := gb_trans (gb_alloc (gb_alloc (World.grownBy.refl _ _) _) _) hg1
  have hs1 : w.heap.size ≤ w1.heap.size := by have := hg1.size; simp at this; omega
  clear hg1 hnv
  go_wp2_with fail
  go_loopw [3, 4] (fun v i wr => ∃ (k q : Nat) (A : Option Addr) (c : Nat) (l : List Tk), i = .int .i64 (k : Int) ∧ v = .slice A l.length c ∧ k + l.length ≤ 5 ∧ q ≤ p + 1 + 6 * l.length ∧ OT w.heap.size wr A c l ∧ (∀ t ∈ l, Sm t ∧ vld t = true) ∧ RD W wr g q ∧ Hid (w.grownBy wr (some g)) ∧ w.heap.size ≤ wr.heap.size) (fun _ i _ => (intOf i).toNat)
  case atStart => exact ⟨n, p + 1, _, 0, [], rfl, rfl, by simp; omega, by simp, hO1, by simp, hr1, hG1, hs1⟩
  case round =>
    obtain ⟨k, q, A, c, l, rfl, rfl, hkl, hq, hO, hsm, hr, hG, hs⟩ := hrel
    clear hO1 hr1 hG1 hs1
    by_cases hk : 0 < k
    · go_wp2_with fail
      refine (spec_l1TaskV W _ g q hr (by omega)).mono ?_
      rintro e w2 ⟨t, q2, rfl, hst, hvt, hq2, hr2, hg2⟩
      have hO2 := OT_only hO hr hg2
      have hG2 : Hid (w.grownBy w2 (some g)) := gb_trans hG.out hg2
      have hs2 : w.heap.size ≤ w2.heap.size := Nat.le_trans hs hg2.size
      clear hg2 hO hG hr
      go_wp2_with (at_builtin; refine wpList_app_task _ rfl _ _ rfl w.heap.size A l c rfl (OT_alloc hO2 _) w2.heap.size 1 t _ 58 rfl (heap_alloc_new w2 _) rfl (by omega) (by simp; omega) ?_; intro A3 c3 w3 hO3 hg3 hb3)
      have hr3 := (hr2.grow (bal (Below.refl _ _) _)).row (OT_alloc hO2 _) (by decide) hg3 (hb3.mono hWw)
      have hG3 : Hid (w.grownBy w3 (some g)) := gb_row (gb_alloc hG2.out _) hb3
      have hs3 : w.heap.size ≤ w3.heap.size := by have := hb3.size; simp at this; omega
      go_roundw
      case rel => exact ⟨k - 1, q2, A3, c3, l ++ [t], by go_num, by simp, by simp; omega, by simp; omega, hO3, by intro x hx; rcases List.mem_append.1 hx with hx | hx; exact hsm x hx; simp at hx; exact hx ▸ ⟨hst, hvt⟩, hr3, hG3, hs3⟩
      case measure => simp [intOf]; omega
    · go_wp2_with fail
      go_ret
      exact ⟨A, c, l, q, rfl, hO, hsm, by omega, by omega, hr, hG.out⟩
theorem spec_l1Set (W w : World) (g p : Nat) (h : RD W w g p) (hp : p + 31 ≤ 1099511627776) :
    Calls Tryz.prog 50 #[.pointer (some ⟨g, 0, none⟩)] w (SetPost W w g p 31 5) := by
  refine (spec_l1SetV W w g p h hp).mono ?_
  rintro e w1 ⟨A, c, l, q, h1, h2, h3, h4⟩
  exact ⟨A, c, l, q, h1, h2, fun t ht => (h3 t ht).1, h4⟩

set_option maxHeartbeats 1000000 in
theorem spec_l1Wrong (W w : World) (g p : Nat) (t : Tk) (ht : Sm t) (h : RD W w g p) (hp : p + 2 ≤ 1099511627776) :
    Calls Tryz.prog 59 #[.pointer (some ⟨g, 0, none⟩), t.val] w (TaskPost W w g p 2) := by
  obtain ⟨low, high, due, every, crit⟩ := t
  have hgl := h.lt
  have hWw := h.below.size
  have hsm := ht
  simp only [Sm] at hsm
  obtain ⟨⟨s0, s1⟩, ⟨s2, s3⟩, ⟨s4, s5⟩, s6, s7⟩ := hsm
  go_enter Tryz.func59, Tryz.ntmps59
  go_wp2_with fail
  refine (spec_pick W _ g p _ (h.grow (bal (bal (Below.refl _ _) _) _)) (by omega)).mono ?_
  rintro e w1 ⟨x1, rfl, hx10, hx11, _, hr1, hg1⟩
  have hx11 := hx11 (by omega)
  have hT1 := Lib.hid (blk_keep ((Below.heap_alloc _ _ _ (by simp)).trans (heap_alloc_new w _)) hg1 (by omega))
  have hB1 := Lib.hid (blk_keep (heap_alloc_new (w.alloc _) _) hg1 (by simp; omega))
  have hG1 : Hid (w.grownBy w1 (some g)) := gb_trans (gb_alloc (gb_alloc (World.grownBy.refl _ _) _) _) hg1
  have hs1 : w.heap.size + 2 ≤ w1.heap.size := by have := hg1.size; simp at this; omega
  simp only [World.size_alloc] at hB1
  clear hg1
  obtain ⟨t0, t1, t2, t3, t4, tf⟩ := blk_five hT1.out
  obtain ⟨b0, b1, b2, b3, b4, bf⟩ := blk_five hB1.out
  rcases (show x1 = 0 ∨ x1 = 1 ∨ x1 = 2 ∨ x1 = 3 ∨ x1 = 4 ∨ 5 ≤ x1 from by omega) with rfl | rfl | rfl | rfl | rfl | h5
  · go_wp2_with fail
    refine (spec_num W _ g (p + 1) _ [0, -1, 21, 1] _ (hr1.grow (bal (Below.refl _ _) _)) (by omega) (IS_lit _ _ _ _ _ rfl rfl) (by simp) (by simp) (by rintro a ⟨⟩; simp; have := hr1.lt; omega)).mono ?_
    rintro e w2 ⟨x2, hx2, rfl, hr2, hg2⟩
    have hx2 : -100 ≤ x2 ∧ x2 ≤ 100 := by simp at hx2; omega
    have hT2 := Lib.hid (blk_keep ((Below.heap_alloc _ _ _ (by omega)).trans hT1.out) hg2 (by omega))
    have hB2 := Lib.hid (blk_keep ((Below.heap_alloc _ _ _ (by omega)).trans hB1.out) hg2 (by omega))
    have hG2 : Hid (w.grownBy w2 (some g)) := gb_trans (gb_alloc hG1.out _) hg2
    clear hg2 t0 t1 t2 t3 t4 tf b0 b1 b2 b3 b4 bf hT1 hB1 hG1 hr1
    obtain ⟨t0, t1, t2, t3, t4, tf⟩ := blk_five hT2.out
    obtain ⟨b0, b1, b2, b3, b4, bf⟩ := blk_five hB2.out
    go_wp2_with fail
    refine bodyPost_ret (v := Tk.val ⟨x2, high, due, every, crit⟩) (by simp [results, Tryz.results59, go_sem, b0, b1, b2, b3, b4]) rfl ⟨⟨x2, high, due, every, crit⟩, _, rfl, by simp only [Sm]; omega, ?_, ((hr2.set (a := ⟨w.heap.size, 0, none⟩) (by simp; omega) hWw _).set5 (b := w.heap.size + 1) (by omega) (by omega) _ _ _ _ _), gb_setOwn5 (gb_setOwn hG2.out (p := ⟨w.heap.size, 0, none⟩) (Nat.le_refl _) _) (Nat.le_succ _) _ _ _ _ _⟩
    omega
  · go_wp2_with fail
    refine (spec_num W _ g (p + 1) _ [0, 21, 5] _ (hr1.grow (bal (Below.refl _ _) _)) (by omega) (IS_lit _ _ _ _ _ rfl rfl) (by simp) (by simp) (by rintro a ⟨⟩; simp; have := hr1.lt; omega)).mono ?_
    rintro e w2 ⟨x2, hx2, rfl, hr2, hg2⟩
    have hx2 : -100 ≤ x2 ∧ x2 ≤ 100 := by simp at hx2; omega
    have hT2 := Lib.hid (blk_keep ((Below.heap_alloc _ _ _ (by omega)).trans hT1.out) hg2 (by omega))
    have hB2 := Lib.hid (blk_keep ((Below.heap_alloc _ _ _ (by omega)).trans hB1.out) hg2 (by omega))
    have hG2 : Hid (w.grownBy w2 (some g)) := gb_trans (gb_alloc hG1.out _) hg2
    clear hg2 t0 t1 t2 t3 t4 tf b0 b1 b2 b3 b4 bf hT1 hB1 hG1 hr1
    obtain ⟨t0, t1, t2, t3, t4, tf⟩ := blk_five hT2.out
    obtain ⟨b0, b1, b2, b3, b4, bf⟩ := blk_five hB2.out
    go_wp2_with fail
    refine bodyPost_ret (v := Tk.val ⟨low, x2, due, every, crit⟩) (by simp [results, Tryz.results59, go_sem, b0, b1, b2, b3, b4]) rfl ⟨⟨low, x2, due, every, crit⟩, _, rfl, by simp only [Sm]; omega, ?_, ((hr2.set (a := ⟨w.heap.size, 1, none⟩) (by simp; omega) hWw _).set5 (b := w.heap.size + 1) (by omega) (by omega) _ _ _ _ _), gb_setOwn5 (gb_setOwn hG2.out (p := ⟨w.heap.size, 1, none⟩) (Nat.le_refl _) _) (Nat.le_succ _) _ _ _ _ _⟩
    omega
  · go_wp2_with fail
    refine (spec_num W _ g (p + 1) _ [0, 21, 20] _ (hr1.grow (bal (Below.refl _ _) _)) (by omega) (IS_lit _ _ _ _ _ rfl rfl) (by simp) (by simp) (by rintro a ⟨⟩; simp; have := hr1.lt; omega)).mono ?_
    rintro e w2 ⟨x2, hx2, rfl, hr2, hg2⟩
    have hx2 : -100 ≤ x2 ∧ x2 ≤ 100 := by simp at hx2; omega
    have hT2 := Lib.hid (blk_keep ((Below.heap_alloc _ _ _ (by omega)).trans hT1.out) hg2 (by omega))
    have hB2 := Lib.hid (blk_keep ((Below.heap_alloc _ _ _ (by omega)).trans hB1.out) hg2 (by omega))
    have hG2 : Hid (w.grownBy w2 (some g)) := gb_trans (gb_alloc hG1.out _) hg2
    clear hg2 t0 t1 t2 t3 t4 tf b0 b1 b2 b3 b4 bf hT1 hB1 hG1 hr1
    obtain ⟨t0, t1, t2, t3, t4, tf⟩ := blk_five hT2.out
    obtain ⟨b0, b1, b2, b3, b4, bf⟩ := blk_five hB2.out
    go_wp2_with fail
    refine bodyPost_ret (v := Tk.val ⟨low, high, x2, every, crit⟩) (by simp [results, Tryz.results59, go_sem, b0, b1, b2, b3, b4]) rfl ⟨⟨low, high, x2, every, crit⟩, _, rfl, by simp only [Sm]; omega, ?_, ((hr2.set (a := ⟨w.heap.size, 2, none⟩) (by simp; omega) hWw _).set5 (b := w.heap.size + 1) (by omega) (by omega) _ _ _ _ _), gb_setOwn5 (gb_setOwn hG2.out (p := ⟨w.heap.size, 2, none⟩) (Nat.le_refl _) _) (Nat.le_succ _) _ _ _ _ _⟩
    omega
  · go_wp2_with fail
    refine bodyPost_ret (v := Tk.val ⟨low, high, due, every, !crit⟩) (by simp [results, Tryz.results59, go_sem, b0, b1, b2, b3, b4]) rfl ⟨⟨low, high, due, every, !crit⟩, _, rfl, by simp only [Sm]; omega, ?_, ((hr1.set (a := ⟨w.heap.size, 4, none⟩) (by simp; omega) hWw _).set5 (b := w.heap.size + 1) (by omega) (by omega) _ _ _ _ _), gb_setOwn5 (gb_setOwn hG1.out (p := ⟨w.heap.size, 4, none⟩) (Nat.le_refl _) _) (Nat.le_succ _) _ _ _ _ _⟩
    omega
  · go_wp2_with fail
    refine (spec_num W _ g (p + 1) _ [21, 0, 20] _ (hr1.grow (bal (Below.refl _ _) _)) (by omega) (IS_lit _ _ _ _ _ rfl rfl) (by simp) (by simp) (by rintro a ⟨⟩; simp; have := hr1.lt; omega)).mono ?_
    rintro e w2 ⟨x2, hx2, rfl, hr2, hg2⟩
    have hx2 : -100 ≤ x2 ∧ x2 ≤ 100 := by simp at hx2; omega
    have hT2 := Lib.hid (blk_keep ((Below.heap_alloc _ _ _ (by omega)).trans hT1.out) hg2 (by omega))
    have hB2 := Lib.hid (blk_keep ((Below.heap_alloc _ _ _ (by omega)).trans hB1.out) hg2 (by omega))
    have hG2 : Hid (w.grownBy w2 (some g)) := gb_trans (gb_alloc hG1.out _) hg2
    clear hg2 t0 t1 t2 t3 t4 tf b0 b1 b2 b3 b4 bf hT1 hB1 hG1 hr1
    obtain ⟨t0, t1, t2, t3, t4, tf⟩ := blk_five hT2.out
    obtain ⟨b0, b1, b2, b3, b4, bf⟩ := blk_five hB2.out
    go_wp2_with fail
    refine bodyPost_ret (v := Tk.val ⟨low, high, due, x2, crit⟩) (by simp [results, Tryz.results59, go_sem, b0, b1, b2, b3, b4]) rfl ⟨⟨low, high, due, x2, crit⟩, _, rfl, by simp only [Sm]; omega, ?_, ((hr2.set (a := ⟨w.heap.size, 3, none⟩) (by simp; omega) hWw _).set5 (b := w.heap.size + 1) (by omega) (by omega) _ _ _ _ _), gb_setOwn5 (gb_setOwn hG2.out (p := ⟨w.heap.size, 3, none⟩) (Nat.le_refl _) _) (Nat.le_succ _) _ _ _ _ _⟩
    omega
  · have n0 : (x1 == 0) = false := beq_eq_false_iff_ne.2 (by omega)
    have n1 : (x1 == 1) = false := beq_eq_false_iff_ne.2 (by omega)
    have n2 : (x1 == 2) = false := beq_eq_false_iff_ne.2 (by omega)
    have n3 : (x1 == 3) = false := beq_eq_false_iff_ne.2 (by omega)
    have n4 : (x1 == 4) = false := beq_eq_false_iff_ne.2 (by omega)
    go_wp2_with fail
    refine bodyPost_ret (v := Tk.val ⟨low, high, due, every, crit⟩) (by simp [results, Tryz.results59, go_sem, b0, b1, b2, b3, b4]) rfl ⟨⟨low, high, due, every, crit⟩, _, rfl, by simp only [Sm]; omega, ?_, hr1.set5 (b := w.heap.size + 1) (by omega) (by omega) _ _ _ _ _, gb_setOwn5 hG1.out (Nat.le_succ _) _ _ _ _ _⟩
    omega

theorem gb_set5row {w : World} {b i0 i1 i2 i3 i4 : Nat} (u0 u1 u2 u3 u4 : Value) : w.grownBy (((((w.setCell ⟨b, i0, none⟩ u0).setCell ⟨b, i1, none⟩ u1).setCell ⟨b, i2, none⟩ u2).setCell ⟨b, i3, none⟩ u3).setCell ⟨b, i4, none⟩ u4) (some b) :=
  gb_trans (gb_trans (gb_trans (gb_trans (gb_set (p := ⟨b, i0, none⟩) rfl u0) (gb_set (p := ⟨b, i1, none⟩) rfl u1)) (gb_set (p := ⟨b, i2, none⟩) rfl u2)) (gb_set (p := ⟨b, i3, none⟩) rfl u3)) (gb_set (p := ⟨b, i4, none⟩) rfl u4)
theorem OT_cells {base : Nat} {w : World} {b c : Nat} {l : List Tk} (h : OT base w (some ⟨b, 0, none⟩) c l) (k : Nat) (hk : k < l.length) :
    w.cell? ⟨b, k * 5, none⟩ = some (.int .i64 l[k].low) ∧ w.cell? ⟨b, k * 5 + 1, none⟩ = some (.int .i64 l[k].high) ∧ w.cell? ⟨b, k * 5 + 2, none⟩ = some (.int .i64 l[k].due) ∧
    w.cell? ⟨b, k * 5 + 3, none⟩ = some (.int .i64 l[k].every) ∧ w.cell? ⟨b, k * 5 + 4, none⟩ = some (.bool l[k].crit) ∧ ∀ i, w.frozen? ⟨b, i, none⟩ = false := by
  obtain ⟨b', off, hA, _, hc⟩ := h.ts (by omega)
  injection hA with hA
  injection hA with hb ho
  subst hb ho
  obtain ⟨c0, c1, c2, c3, c4⟩ := task_cells hc k hk
  simp only [Nat.zero_add] at c0 c1 c2 c3 c4
  exact ⟨c0, c1, c2, c3, c4, fun i => World.ownsRow.frozenAt h i⟩
end

section
open Go.RowKit

def bef (s t : Tk) : Bool := if s.due = t.due then decide (s.every < t.every) else decide (s.due < t.due)
def findAt (x : Tk) (out : List Tk) : Nat → Nat
  | 0 => 0
  | n + 1 => if bef x (tkAt out n) then findAt x out n else n + 1
def insD (out : List Tk) (x : Tk) : List Tk := out.take (findAt x out out.length) ++ x :: out.drop (findAt x out out.length)
def sortF (l : List Tk) : List Tk := l.foldl insD []
def sortD (l : List Tk) : List Tk := if setVld l then sortF l else []
theorem insD_perm (out : List Tk) (x : Tk) : (insD out x).Perm (x :: out) := by
  unfold insD
  refine List.perm_middle.trans ?_
  rw [List.take_append_drop]
theorem sortF_snoc (l : List Tk) (x : Tk) : sortF (l ++ [x]) = insD (sortF l) x := by simp [sortF]
theorem sortF_perm (l : List Tk) : (sortF l).Perm l := by
  suffices hs : ∀ (n : Nat) (l : List Tk), l.length = n → (sortF l).Perm l from hs _ l rfl
  intro n
  induction n with
  | zero =>
    intro l hl
    cases l with
    | nil => exact List.Perm.refl _
    | cons => simp at hl
  | succ n ih =>
    intro l hl
    rcases List.eq_nil_or_concat l with rfl | ⟨q, t, rfl⟩
    · simp at hl
    · rw [List.concat_eq_append, sortF_snoc] at *
      refine (insD_perm _ _).trans ?_
      refine (List.Perm.cons t (ih q (by simpa using hl))).trans ?_
      exact (List.perm_append_comm (l₁ := [t]) (l₂ := q))
theorem sortF_len (l : List Tk) : (sortF l).length = l.length := (sortF_perm l).length_eq

theorem spec_l1Before (s t : Tk) (w : World) :
    Calls Tryz.prog 98 #[s.val, t.val] w fun e w' => e = .returned (.bool (bef s t)) ∧ Below w.heap.size w w' := by
  by_cases h : s.due = t.due
  · have hf : Hid (bef s t = decide (s.every < t.every)) := by simp [Hid, bef, h]
    have hne : (s.due != t.due) = false := by simp [h]
    clear h
    go_enter Tryz.func98, Tryz.ntmps98
    go_wp2_with fail
    go_ret
    exact ⟨by rw [hf.out]; rfl, bal (bal (Below.refl _ _) _) _⟩
  · have hf : Hid (bef s t = decide (s.due < t.due)) := by simp [Hid, bef, h]
    have hne : (s.due != t.due) = true := by simpa using h
    clear h
    go_enter Tryz.func98, Tryz.ntmps98
    go_wp2_with fail
    go_ret
    exact ⟨by rw [hf.out]; rfl, bal (bal (Below.refl _ _) _) _⟩

theorem wpList_app_tasks' (w : World) {ops : Array Oper} {rest : List Oper} {o : Oper} {a : Act} {Q : Exit → Act → World → Prop} (hgd : o.guard = none) (s x : Operand)
    (ho : o.op = .call { callee := .builtin .append, args := #[s, x], argTypes := #[23, 23] })
    (base : Nat) (A : Option Addr) (l : List Tk) (n c : Nat) (hn : l.length = n) (hs : a.eval s = .slice A n c) (hown : OT base w A c l)
    (ad : Addr) (j c1 : Nat) (m : List Tk) (hj : m.length = j) (hx : a.eval x = .slice (some ad) j c1) (hm : TS w (some ad) m)
    (hl : l.length ≤ 2000000) (hlm : m.length ≤ 2000000) (hbase : base ≤ w.heap.size)
    (h : ∀ A' c' w', OT base w' A' c' (l ++ m) → w.grownBy w' (Value.slice A n c).ownBlock → Below base w w' → wpList Tryz.prog ops Q rest (a.put o.dst (.slice A' (n + j) c')) w') : wpList Tryz.prog ops Q (o :: rest) a w := by
  subst hn hj
  exact wpList_app_tasks w hgd s x ho base A l c hs hown ad c1 m hx hm hl hlm hbase h

set_option maxHeartbeats 4000000 in
set_option maxRecDepth 100000 in
theorem spec_SortDue (A : Option Addr) (l : List Tk) (c : Nat) (w : World) (h : TS w A l) (hm : l.length ≤ maxLen) :
    Calls Tryz.prog 49 #[.slice A l.length c] w (RetT w (sortD l)) := by
  cases hS : setVld l with
  | false =>
    have hv : sortD l = [] := by simp [sortD, hS]
    have hne : 0 < l.length := by
      cases l with
      | nil => simp [setVld] at hS
      | cons => simp
    rw [hv]
    clear hv
    go_enter Tryz.func49, Tryz.ntmps49
    go_wp2_with fail
    go_loopw [3, 4] (fun v i wr => v = .slice (some ⟨w.heap.size, 0, none⟩) 0 0 ∧ i = .int .i64 0 ∧ Hid (OT w.heap.size wr (some ⟨w.heap.size, 0, none⟩) 0 []) ∧ Below w.heap.size w wr) (fun _ _ _ => 0)
    case atStart => exact ⟨rfl, rfl, OT_blank w _ (Nat.le_refl _), bal (Below.refl _ _) _⟩
    case round =>
      obtain ⟨rfl, rfl, hO, hb⟩ := hrel
      go_wp2_with fail
      refine (spec_SetValid A l c _ (h.keep hb) hm).mono ?_
      rw [hS]
      rintro e w1 ⟨rfl, b1⟩
      go_wp2_with fail
      go_ret
      exact ⟨_, 0, rfl, OT_keep hO.out b1, bthru hb b1⟩
  | true =>
    have hv : sortD l = sortF l := by simp [sortD, hS]
    have hl5 := (setVld_all hS).1
    have HS := Lib.hid hS
    rw [hv]
    clear hv hS
    go_enter Tryz.func49, Tryz.ntmps49
    go_wp2_with fail
    go_loopg [3, 4] l.length (fun n v i wr => ∃ (k bo c' : Nat), n + k = l.length ∧ i = .int .i64 (k : Int) ∧ v = .slice (some ⟨bo, 0, none⟩) k c' ∧ k ≤ c' ∧ OT w.heap.size wr (some ⟨bo, 0, none⟩) c' (sortF (l.take k)) ∧ Below w.heap.size w wr)
    case atStart => exact ⟨0, _, 0, by omega, rfl, rfl, by omega, OT_blank w _ (Nat.le_refl _), bal (Below.refl _ _) _⟩
    case round =>
      obtain ⟨k, bo, c', hnk, rfl, rfl, hkc, hO, hb⟩ := hrel
      obtain ⟨out, hout⟩ : ∃ out, sortF (l.take k) = out := ⟨_, rfl⟩
      have hol : Hid (out.length = k) := by rw [Hid, ← hout, sortF_len, List.length_take]; omega
      rw [hout] at hO
      have Hout := Lib.hid hout
      clear hout
      by_cases hlt : k < l.length
      · have hnext : Hid (sortF (l.take (k + 1)) = insD out (tkAt l k)) := by rw [Hid, List.take_succ_eq_append_getElem hlt, sortF_snoc, Hout.out, tkAt_eq l k hlt]
        go_wp2_with fail
        refine (spec_SetValid A l c _ (h.keep hb) hm).mono ?_
        rw [HS.out]
        rintro e w1 ⟨rfl, b1⟩
        have B1 := bthru hb b1
        have O1 := OT_keep hO b1
        clear hO
        obtain ⟨b, off, rfl, hbl, hc⟩ := h.keep B1 (by omega)
        obtain ⟨c0, c1, c2, c3, c4⟩ := cells_tk hc k hlt
        clear hc
        have hbl1 := hbl
        go_upto_block 2 with fail
        go_cut [5] from 8 to 52 (fun i wy => ∃ a : Nat, i = .int .i64 (a : Int) ∧ a ≤ k ∧ Hid (findAt (tkAt l k) out k = a) ∧ Below w1.heap.size w1 wy)
        case first =>
          go_wp2_with fail
          go_loopg [5] k (fun n i wy => ∃ a : Nat, n = a ∧ i = .int .i64 (a : Int) ∧ a ≤ k ∧ Hid (findAt (tkAt l k) out k = findAt (tkAt l k) out a) ∧ Below w1.heap.size w1 wy)
          case atStart => exact ⟨k, rfl, rfl, by omega, rfl, Below.refl _ _⟩
          case round =>
            obtain ⟨a, hga, rfl, ha, hfa, hy⟩ := hrel
            have hga' := hga.symm
            clear hga
            subst hga'
            have hB := bthru B1 hy
            have hOy := OT_keep O1 hy
            cases a with
            | zero =>
              have hfin : Hid (findAt (tkAt l k) out k = 0) := hfa
              go_wp2_with fail
              go_quiet (fail)
              go_wp2_with fail
              go_meet
              case rel => exact ⟨0, rfl, by omega, hfin, bdr hy _⟩
            | succ r =>
              have hcast : (((r + 1 : Nat) : Int)) = (r : Int) + 1 := by omega
              rw [hcast]
              have hro : r < out.length := by rw [hol.out]; omega
              obtain ⟨wy, rfl⟩ : ∃ wy : World, wy = wr := ⟨_, rfl⟩
              obtain ⟨e0, e1, e2, e3, e4, _⟩ := OT_cells hOy r hro
              rw [← tkAt_eq out r hro] at e0 e1 e2 e3 e4
              have hbow : bo < wy.heap.size := by
                obtain ⟨b', hA, _, hb'⟩ := OT_addr hOy (by omega)
                cases hA
                exact hb'
              have hblw : b < wy.heap.size := Nat.lt_of_lt_of_le hbl hy.size
              have d0 := (hy.cell (p := ⟨b, off + k * 5, none⟩) hbl).trans c0
              have d1 := (hy.cell (p := ⟨b, off + k * 5 + 1, none⟩) hbl).trans c1
              have d2 := (hy.cell (p := ⟨b, off + k * 5 + 2, none⟩) hbl).trans c2
              have d3 := (hy.cell (p := ⟨b, off + k * 5 + 3, none⟩) hbl).trans c3
              have d4 := (hy.cell (p := ⟨b, off + k * 5 + 4, none⟩) hbl).trans c4
              have S_of : ∀ w' : World, Below wy.heap.size wy w' → w'.cell? ⟨b, off + k * 5, none⟩ = some (.int .i64 (tkAt l k).low) ∧ w'.cell? ⟨b, off + k * 5 + 1, none⟩ = some (.int .i64 (tkAt l k).high) ∧ w'.cell? ⟨b, off + k * 5 + 2, none⟩ = some (.int .i64 (tkAt l k).due) ∧ w'.cell? ⟨b, off + k * 5 + 3, none⟩ = some (.int .i64 (tkAt l k).every) ∧ w'.cell? ⟨b, off + k * 5 + 4, none⟩ = some (.bool (tkAt l k).crit) ∧ w'.cell? ⟨bo, r * 5, none⟩ = some (.int .i64 (tkAt out r).low) ∧ w'.cell? ⟨bo, r * 5 + 1, none⟩ = some (.int .i64 (tkAt out r).high) ∧ w'.cell? ⟨bo, r * 5 + 2, none⟩ = some (.int .i64 (tkAt out r).due) ∧ w'.cell? ⟨bo, r * 5 + 3, none⟩ = some (.int .i64 (tkAt out r).every) ∧ w'.cell? ⟨bo, r * 5 + 4, none⟩ = some (.bool (tkAt out r).crit) ∧ Below wy.heap.size wy w' := fun w' hw =>
                ⟨(hw.cell (p := ⟨b, off + k * 5, none⟩) hblw).trans d0, (hw.cell (p := ⟨b, off + k * 5 + 1, none⟩) hblw).trans d1, (hw.cell (p := ⟨b, off + k * 5 + 2, none⟩) hblw).trans d2, (hw.cell (p := ⟨b, off + k * 5 + 3, none⟩) hblw).trans d3, (hw.cell (p := ⟨b, off + k * 5 + 4, none⟩) hblw).trans d4,
                  (hw.cell (p := ⟨bo, r * 5, none⟩) hbow).trans e0, (hw.cell (p := ⟨bo, r * 5 + 1, none⟩) hbow).trans e1, (hw.cell (p := ⟨bo, r * 5 + 2, none⟩) hbow).trans e2, (hw.cell (p := ⟨bo, r * 5 + 3, none⟩) hbow).trans e3, (hw.cell (p := ⟨bo, r * 5 + 4, none⟩) hbow).trans e4, hw⟩
              have hstep : findAt (tkAt l k) out (r + 1) = if bef (tkAt l k) (tkAt out r) then findAt (tkAt l k) out r else r + 1 := rfl
              have q0 : (0 : Int) ≤ (k : Int) := by omega
              have q1 : (k : Int) < (l.length : Int) := by omega
              have q2 : (0 : Int) ≤ (r : Int) := by omega
              have q3 : (r : Int) < (k : Int) := by omega
              have qw : IntKind.i64.wrap ((r : Int) + 1 - 1) = (r : Int) := by rw [Int.add_sub_cancel]; exact IntWalk.i64_in _ (by omega)
              have qw2 : IntKind.i64.wrap (r : Int) = (r : Int) := IntWalk.i64_in _ (by omega)
              have qw3 : (0 : Int) < (r : Int) + 1 := by omega
              clear c0 c1 c2 c3 c4 e0 e1 e2 e3 e4 d0 d1 d2 d3 d4
              cases hbf : bef (tkAt l k) (tkAt out r) with
              | true =>
                have hf2 : Hid (findAt (tkAt l k) out k = findAt (tkAt l k) out r) := by rw [Hid, hfa.out, hstep, hbf]; rfl
                clear hstep
                go_wp2_with fail
                go_region_held3 (fun w' => w'.cell? ⟨b, off + k * 5, none⟩ = some (.int .i64 (tkAt l k).low) ∧ w'.cell? ⟨b, off + k * 5 + 1, none⟩ = some (.int .i64 (tkAt l k).high) ∧ w'.cell? ⟨b, off + k * 5 + 2, none⟩ = some (.int .i64 (tkAt l k).due) ∧ w'.cell? ⟨b, off + k * 5 + 3, none⟩ = some (.int .i64 (tkAt l k).every) ∧ w'.cell? ⟨b, off + k * 5 + 4, none⟩ = some (.bool (tkAt l k).crit) ∧ w'.cell? ⟨bo, r * 5, none⟩ = some (.int .i64 (tkAt out r).low) ∧ w'.cell? ⟨bo, r * 5 + 1, none⟩ = some (.int .i64 (tkAt out r).high) ∧ w'.cell? ⟨bo, r * 5 + 2, none⟩ = some (.int .i64 (tkAt out r).due) ∧ w'.cell? ⟨bo, r * 5 + 3, none⟩ = some (.int .i64 (tkAt out r).every) ∧ w'.cell? ⟨bo, r * 5 + 4, none⟩ = some (.bool (tkAt out r).crit) ∧ Below wy.heap.size wy w')
                  ((refine S_of _ ?_; first | assumption | exact Below.drew (Below.refl _ _) | exact (by assumption : _ ∧ _ ∧ _ ∧ _ ∧ _ ∧ _ ∧ _ ∧ _ ∧ _ ∧ _ ∧ Below wy.heap.size wy _).2.2.2.2.2.2.2.2.2.2))
                  (first
                    | (go_at_call 98; refine (spec_l1Before (tkAt l k) (tkAt out r) _).mono ?_; rw [hbf]; rintro e w6 ⟨rfl, b6⟩; have B6 : Below wy.heap.size wy w6 := bthru (by first | assumption | exact (by assumption : _ ∧ _ ∧ _ ∧ _ ∧ _ ∧ _ ∧ _ ∧ _ ∧ _ ∧ _ ∧ Below wy.heap.size wy _).2.2.2.2.2.2.2.2.2.2) b6))
                clear hbf
                go_wp2_with fail
                go_roundg r
                case measure => omega
                case rel => exact ⟨r, rfl, by go_num, by omega, hf2, bthru hy (by first | assumption | exact (by assumption : _ ∧ _ ∧ _ ∧ _ ∧ _ ∧ _ ∧ _ ∧ _ ∧ _ ∧ _ ∧ Below wy.heap.size wy _).2.2.2.2.2.2.2.2.2.2)⟩
              | false =>
                have hfin : Hid (findAt (tkAt l k) out k = r + 1) := by rw [Hid, hfa.out, hstep, hbf]; rfl
                clear hstep
                go_wp2_with fail
                go_region_held3 (fun w' => w'.cell? ⟨b, off + k * 5, none⟩ = some (.int .i64 (tkAt l k).low) ∧ w'.cell? ⟨b, off + k * 5 + 1, none⟩ = some (.int .i64 (tkAt l k).high) ∧ w'.cell? ⟨b, off + k * 5 + 2, none⟩ = some (.int .i64 (tkAt l k).due) ∧ w'.cell? ⟨b, off + k * 5 + 3, none⟩ = some (.int .i64 (tkAt l k).every) ∧ w'.cell? ⟨b, off + k * 5 + 4, none⟩ = some (.bool (tkAt l k).crit) ∧ w'.cell? ⟨bo, r * 5, none⟩ = some (.int .i64 (tkAt out r).low) ∧ w'.cell? ⟨bo, r * 5 + 1, none⟩ = some (.int .i64 (tkAt out r).high) ∧ w'.cell? ⟨bo, r * 5 + 2, none⟩ = some (.int .i64 (tkAt out r).due) ∧ w'.cell? ⟨bo, r * 5 + 3, none⟩ = some (.int .i64 (tkAt out r).every) ∧ w'.cell? ⟨bo, r * 5 + 4, none⟩ = some (.bool (tkAt out r).crit) ∧ Below wy.heap.size wy w')
                  ((refine S_of _ ?_; first | assumption | exact Below.drew (Below.refl _ _) | exact (by assumption : _ ∧ _ ∧ _ ∧ _ ∧ _ ∧ _ ∧ _ ∧ _ ∧ _ ∧ _ ∧ Below wy.heap.size wy _).2.2.2.2.2.2.2.2.2.2))
                  (first
                    | (go_at_call 98; refine (spec_l1Before (tkAt l k) (tkAt out r) _).mono ?_; rw [hbf]; rintro e w6 ⟨rfl, b6⟩; have B6 : Below wy.heap.size wy w6 := bthru (by first | assumption | exact (by assumption : _ ∧ _ ∧ _ ∧ _ ∧ _ ∧ _ ∧ _ ∧ _ ∧ _ ∧ _ ∧ Below wy.heap.size wy _).2.2.2.2.2.2.2.2.2.2) b6))
                clear hbf
                go_wp2_with fail
                go_meet
                case rel => exact ⟨r + 1, by go_num, by omega, hfin, bthru hy (by first | assumption | exact (by assumption : _ ∧ _ ∧ _ ∧ _ ∧ _ ∧ _ ∧ _ ∧ _ ∧ _ ∧ _ ∧ Below wy.heap.size wy _).2.2.2.2.2.2.2.2.2.2)⟩
        case rest =>
          obtain ⟨a, rfl, hle, hfin, hyd⟩ := hcut
          have oW := OT_keep O1 hyd
          have hta : Hid ((out.take a).length = a) := by rw [Hid, List.length_take, hol.out]; omega
          have hda : Hid ((out.drop a).length = k - a) := by rw [Hid, List.length_drop, hol.out]
          obtain ⟨A5, hA5, hS5⟩ := TS_drop oW.ts a (c := c') (by rw [hol.out]; exact hkc)
          rw [Nat.zero_add] at hA5
          have HS1 := Lib.hid (TS_take oW.ts a)
          have HS5 := Lib.hid hS5
          have z0 := (hyd.cell (p := ⟨b, off + k * 5, none⟩) hbl1).trans c0
          have z1 := (hyd.cell (p := ⟨b, off + k * 5 + 1, none⟩) hbl1).trans c1
          have z2 := (hyd.cell (p := ⟨b, off + k * 5 + 2, none⟩) hbl1).trans c2
          have z3 := (hyd.cell (p := ⟨b, off + k * 5 + 3, none⟩) hbl1).trans c3
          have z4 := (hyd.cell (p := ⟨b, off + k * 5 + 4, none⟩) hbl1).trans c4
          have hins : Hid (insD out (tkAt l k) = (out.take a ++ [tkAt l k]) ++ out.drop a) := by rw [Hid, insD, hol.out, hfin.out]; simp
          have hW := bthru B1 hyd
          have hac : a ≤ c' := by omega
          have hzb : b < wc.heap.size := Nat.lt_of_lt_of_le hbl1 hyd.size
          clear c0 c1 c2 c3 c4 hS5 oW
          go_wp2_with (first
            | (at_builtin; refine wpList_app_tasks' _ rfl (.tmp 36) (.tmp 39) rfl wc.heap.size (some ⟨wc.heap.size, 0, none⟩) [] 0 0 rfl rfl (OT_blank wc _ (Nat.le_refl _)) ⟨bo, 0, none⟩ a c' (out.take a) hta.out rfl (HS1.out.keep (bal (Below.refl _ _) _)) (by simp) (by rw [hta.out]; omega) (by simp) ?_; intro A3 c3 w3 o3 g3 b3; rw [List.nil_append] at o3; have B3 : Below wc.heap.size wc w3 := (bal (Below.refl _ _) _).trans b3; have y0 := (B3.cell (p := ⟨b, off + k * 5, none⟩) hzb).trans z0; have y1 := (B3.cell (p := ⟨b, off + k * 5 + 1, none⟩) hzb).trans z1; have y2 := (B3.cell (p := ⟨b, off + k * 5 + 2, none⟩) hzb).trans z2; have y3 := (B3.cell (p := ⟨b, off + k * 5 + 3, none⟩) hzb).trans z3; have y4 := (B3.cell (p := ⟨b, off + k * 5 + 4, none⟩) hzb).trans z4)
            | (at_builtin; refine wpList_app_task' _ rfl (.tmp 41) (.tmp 46) rfl wc.heap.size A3 (out.take a) (0 + a) c3 (by rw [hta.out, Nat.zero_add]) rfl (OT_alloc o3 _) w3.heap.size 1 (tkAt l k) _ 58 rfl (heap_alloc_new w3 _) rfl (by rw [hta.out]; omega) (by have := B3.size; simp; omega) ?_; intro A4 c4 w4 o4 g4 b4; have B4 : Below wc.heap.size wc w4 := (bal B3 _).trans b4)
            | (at_builtin; refine wpList_app_task' _ rfl (.tmp 41) (.tmp 46) rfl wc.heap.size A3 (out.take a) a c3 hta.out rfl (OT_alloc o3 _) w3.heap.size 1 (tkAt l k) _ 58 rfl (heap_alloc_new w3 _) rfl (by rw [hta.out]; omega) (by have := B3.size; simp; omega) ?_; intro A4 c4 w4 o4 g4 b4; have B4 : Below wc.heap.size wc w4 := (bal B3 _).trans b4)
            | (at_builtin; refine wpList_app_tasks' _ rfl (.tmp 48) (.tmp 51) rfl wc.heap.size A4 (out.take a ++ [tkAt l k]) _ c4 (by rw [List.length_append, hta.out]; rfl) rfl o4 A5 (k - a) (c' - a) (out.drop a) hda.out rfl (HS5.out.keep B4) (by rw [List.length_append, hta.out]; simp; omega) (by rw [hda.out]; omega) B4.size ?_; intro A6 c6 w6' o6 g6 b6'; have B6' : Below wc.heap.size wc w6' := B4.trans b6'))
          rw [← hins.out, ← hnext.out] at o6
          have hl6 : (sortF (l.take (k + 1))).length = k + 1 := by rw [sortF_len, List.length_take]; omega
          obtain ⟨s61, _⟩ := own_size o6
          obtain ⟨b6, rfl, _, _⟩ := OT_addr o6 (by rw [hl6]; omega)
          have hW6 : Below w.heap.size w w6' := bthru hW B6'
          have o6' : OT w.heap.size w6' (some ⟨b6, 0, none⟩) c6 (sortF (l.take (k + 1))) := own_base o6 hW.size
          go_roundg (l.length - (k + 1))
          case measure => omega
          case rel => exact ⟨k + 1, b6, c6, by omega, by go_num, by congr 1; omega, by omega, o6', hW6⟩
      · obtain rfl : k = l.length := by omega
        go_wp2_with fail
        have e : l.take l.length = l := List.take_length
        have e2 := Hout.out
        rw [e] at e2
        have hl := hol.out
        subst e2
        go_ret
        refine ⟨some ⟨bo, 0, none⟩, c', ?_, hO, hb⟩
        rw [hl]
        rfl
end

section
open Go.RowKit

instance : Inhabited Tk := ⟨⟨0, 0, 0, 0, false⟩⟩
end
end Go.Proofs.YtmkjmancmiphfaaGreatDoor
