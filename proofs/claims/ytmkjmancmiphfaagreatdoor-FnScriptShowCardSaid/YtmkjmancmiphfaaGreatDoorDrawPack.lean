/-
  l1Set: drawn tasks.
  l1Wrong: a task, sometimes one that is not valid.
  l9Where, l9Set, l9Case: drawn ways and tasks.
-/
import Derived.Test.YtmkjmancmiphfaaGreatDoorDrawTask
import Derived.Test.YtmkjmancmiphfaaGreatDoorAppend
namespace Go.Proofs.YtmkjmancmiphfaaGreatDoor
open Go.RowKit

theorem RD.row {W w w' : World} {g p : Nat} (h : RD W w g p) {base : Nat} {t : TypeId} {size : Nat} {v : Value} {n : Nat} {xs : List Value} (hown : w.ownsRow base t size v n xs) (hne : t ≠ 98) (hg : w.grownBy w' v.ownBlock) (hb : Below W.heap.size w w') : RD W w' g p := by
  obtain ⟨A, l, c, hh, hs, hl⟩ := h.src
  refine ⟨h.below.trans hb, h.new, ⟨A, l, c, ?_, hs, hl⟩, h.small⟩
  refine (hg.block g h.lt ?_).trans hh
  rcases hown.2 with ⟨rfl, _⟩ | ⟨g', cap, cur, rfl, _, hh', _⟩
  · simp [Value.ownBlock]
  · intro he
    have : g = g' := by simpa [Value.ownBlock] using he
    subst this
    rw [hh] at hh'
    injection hh' with hh'
    injection hh' with _ e
    exact hne e.symm
theorem gb_row {a w w' : World} {g : Nat} (h : a.grownBy w (some g)) (hb : Below a.heap.size w w') : a.grownBy w' (some g) :=
  ⟨hb.os.trans h.os, hb.tape.trans h.tape, hb.output.trans h.output, Nat.le_trans h.size hb.size, fun i hi hne => (hb.block i hi).trans (h.block i hi hne)⟩
theorem OT_only {base : Nat} {w w' : World} {A : Option Addr} {c : Nat} {l : List Tk} (h : OT base w A c l) {W : World} {g p : Nat} (hr : RD W w g p) (hg : w.grownBy w' (some g)) : OT base w' A c l := by
  obtain ⟨A', l', c', hh, _⟩ := hr.src
  exact own_only h hg hh (by decide)
theorem OI_only {base : Nat} {w w' : World} {A : Option Addr} {c : Nat} {l : List Int} (h : OI base w A c l) {W : World} {g p : Nat} (hr : RD W w g p) (hg : w.grownBy w' (some g)) : OI base w' A c l := by
  obtain ⟨A', l', c', hh, _⟩ := hr.src
  exact own_only h hg hh (by decide)

/-- Tasks drawn: at most m, all small, in new memory. -/
def SetPost (W w : World) (g p k m : Nat) (e : Ending) (w' : World) : Prop :=
  ∃ (A : Option Addr) (c : Nat) (l : List Tk) (q : Nat), e = .returned (.slice A l.length c) ∧ OT w.heap.size w' A c l ∧ (∀ t ∈ l, Sm t) ∧ l.length ≤ m ∧ q ≤ p + k ∧ RD W w' g q ∧ w.grownBy w' (some g)

/-- .. that are valid. -/
def SetPostV (W w : World) (g p k m : Nat) (e : Ending) (w' : World) : Prop :=
  ∃ (A : Option Addr) (c : Nat) (l : List Tk) (q : Nat), e = .returned (.slice A l.length c) ∧ OT w.heap.size w' A c l ∧ (∀ t ∈ l, Sm t ∧ vld t = true) ∧ l.length ≤ m ∧ q ≤ p + k ∧ RD W w' g q ∧ w.grownBy w' (some g)

set_option maxHeartbeats 1000000 in
theorem spec_l1SetV (W w : World) (g p : Nat) (h : RD W w g p) (hp : p + 31 ≤ 1099511627776) :
    Calls Tryz.prog 50 #[.pointer (some ⟨g, 0, none⟩)] w (SetPostV W w g p 31 5) := by
  have hgl := h.lt
  have hWw := h.below.size
  go_enter Tryz.func50, Tryz.ntmps50
  go_wp2_with fail
  refine (spec_num W _ g p _ [3, 2, 4, 1, 5, 0] _ (h.grow (bal (bal (Below.refl _ _) _) _)) (by omega) (IS_lit _ _ _ _ _ rfl (by simp)) (by simp) (by simp) (by rintro a ⟨⟩; simp; omega)).mono ?_
  rintro e w1 ⟨nv, hnv, rfl, hr1, hg1⟩
  have hnv : 0 ≤ nv ∧ nv ≤ 5 := by simp at hnv; omega
  obtain ⟨n, rfl⟩ : ∃ n : Nat, nv = (n : Int) := ⟨nv.toNat, (Int.toNat_of_nonneg hnv.1).symm⟩
  have hn5 : n ≤ 5 := by omega
  have hO1 : OT w.heap.size w1 (some ⟨w.heap.size, 0, none⟩) 0 [] := OT_only (OT_alloc (OT_blank w _ (Nat.le_refl _)) _) (h.grow (bal (bal (Below.refl _ _) _) _)) hg1
  have hG1 : Hid (w.grownBy w1 (some g)) := gb_trans (gb_alloc (gb_alloc (World.grownBy.refl _ _) _) _) hg1
  have hs1 : w.heap.size ≤ w1.heap.size := by have := hg1.size; simp at this; omega
  clear hg1 hnv
  go_wp2_with fail
  go_loopw [3, 4] (fun v i wr => ∃ (k q : Nat) (A : Option Addr) (c : Nat) (l : List Tk), i = .int .i64 (k : Int) ∧ v = .slice A l.length c ∧ k + l.length ≤ 5 ∧ q ≤ p + 1 + 6 * l.length ∧ OT w.heap.size wr A c l ∧ (∀ t ∈ l, Sm t ∧ vld t = true) ∧ RD W wr g q ∧ Hid (w.grownBy wr (some g)) ∧ w.heap.size ≤ wr.heap.size) (fun _ i _ => (intOf i).toNat)
  case atStart => exact ⟨n, p + 1, _, 0, [], rfl, rfl, by simp; omega, by simp, hO1, by simp, hr1, hG1, hs1⟩
  case round =>
    obtain ⟨k, q, A, c, l, rfl, rfl, hkl, hq, hO, hsm, hr, hG, hs⟩ := hrel
    clear hO1 hr1 hG1 hs1
    by_cases hk : 0 < k
    · go_wp2_with fail
      refine (spec_l1TaskV W _ g q hr (by omega)).mono ?_
      rintro e w2 ⟨t, q2, rfl, hst, hvt, hq2, hr2, hg2⟩
      have hO2 := OT_only hO hr hg2
      have hG2 : Hid (w.grownBy w2 (some g)) := gb_trans hG.out hg2
      have hs2 : w.heap.size ≤ w2.heap.size := Nat.le_trans hs hg2.size
      clear hg2 hO hG hr
      go_wp2_with (at_builtin; refine wpList_app_task _ rfl _ _ rfl w.heap.size A l c rfl (OT_alloc hO2 _) w2.heap.size 1 t _ 58 rfl (heap_alloc_new w2 _) rfl (by omega) (by simp; omega) ?_; intro A3 c3 w3 hO3 hg3 hb3)
      have hr3 := (hr2.grow (bal (Below.refl _ _) _)).row (OT_alloc hO2 _) (by decide) hg3 (hb3.mono hWw)
      have hG3 : Hid (w.grownBy w3 (some g)) := gb_row (gb_alloc hG2.out _) hb3
      have hs3 : w.heap.size ≤ w3.heap.size := by have := hb3.size; simp at this; omega
      go_roundw
      case rel => exact ⟨k - 1, q2, A3, c3, l ++ [t], by go_num, by simp, by simp; omega, by simp; omega, hO3, by intro x hx; rcases List.mem_append.1 hx with hx | hx; exact hsm x hx; simp at hx; exact hx ▸ ⟨hst, hvt⟩, hr3, hG3, hs3⟩
      case measure => simp [intOf]; omega
    · go_wp2_with fail
      go_ret
      exact ⟨A, c, l, q, rfl, hO, hsm, by omega, by omega, hr, hG.out⟩
theorem spec_l1Set (W w : World) (g p : Nat) (h : RD W w g p) (hp : p + 31 ≤ 1099511627776) :
    Calls Tryz.prog 50 #[.pointer (some ⟨g, 0, none⟩)] w (SetPost W w g p 31 5) := by
  refine (spec_l1SetV W w g p h hp).mono ?_
  rintro e w1 ⟨A, c, l, q, h1, h2, h3, h4⟩
  exact ⟨A, c, l, q, h1, h2, fun t ht => (h3 t ht).1, h4⟩

set_option maxHeartbeats 1000000 in
theorem spec_l1Wrong (W w : World) (g p : Nat) (t : Tk) (ht : Sm t) (h : RD W w g p) (hp : p + 2 ≤ 1099511627776) :
    Calls Tryz.prog 59 #[.pointer (some ⟨g, 0, none⟩), t.val] w (TaskPost W w g p 2) := by
  obtain ⟨low, high, due, every, crit⟩ := t
  have hgl := h.lt
  have hWw := h.below.size
  have hsm := ht
  simp only [Sm] at hsm
  obtain ⟨⟨s0, s1⟩, ⟨s2, s3⟩, ⟨s4, s5⟩, s6, s7⟩ := hsm
  go_enter Tryz.func59, Tryz.ntmps59
  go_wp2_with fail
  refine (spec_pick W _ g p _ (h.grow (bal (bal (Below.refl _ _) _) _)) (by omega)).mono ?_
  rintro e w1 ⟨x1, rfl, hx10, hx11, _, hr1, hg1⟩
  have hx11 := hx11 (by omega)
  have hT1 := Lib.hid (blk_keep ((Below.heap_alloc _ _ _ (by simp)).trans (heap_alloc_new w _)) hg1 (by omega))
  have hB1 := Lib.hid (blk_keep (heap_alloc_new (w.alloc _) _) hg1 (by simp; omega))
  have hG1 : Hid (w.grownBy w1 (some g)) := gb_trans (gb_alloc (gb_alloc (World.grownBy.refl _ _) _) _) hg1
  have hs1 : w.heap.size + 2 ≤ w1.heap.size := by have := hg1.size; simp at this; omega
  simp only [World.size_alloc] at hB1
  clear hg1
  obtain ⟨t0, t1, t2, t3, t4, tf⟩ := blk_five hT1.out
  obtain ⟨b0, b1, b2, b3, b4, bf⟩ := blk_five hB1.out
  rcases (show x1 = 0 ∨ x1 = 1 ∨ x1 = 2 ∨ x1 = 3 ∨ x1 = 4 ∨ 5 ≤ x1 from by omega) with rfl | rfl | rfl | rfl | rfl | h5
  · go_wp2_with fail
    refine (spec_num W _ g (p + 1) _ [0, -1, 21, 1] _ (hr1.grow (bal (Below.refl _ _) _)) (by omega) (IS_lit _ _ _ _ _ rfl rfl) (by simp) (by simp) (by rintro a ⟨⟩; simp; have := hr1.lt; omega)).mono ?_
    rintro e w2 ⟨x2, hx2, rfl, hr2, hg2⟩
    have hx2 : -100 ≤ x2 ∧ x2 ≤ 100 := by simp at hx2; omega
    have hT2 := Lib.hid (blk_keep ((Below.heap_alloc _ _ _ (by omega)).trans hT1.out) hg2 (by omega))
    have hB2 := Lib.hid (blk_keep ((Below.heap_alloc _ _ _ (by omega)).trans hB1.out) hg2 (by omega))
    have hG2 : Hid (w.grownBy w2 (some g)) := gb_trans (gb_alloc hG1.out _) hg2
    clear hg2 t0 t1 t2 t3 t4 tf b0 b1 b2 b3 b4 bf hT1 hB1 hG1 hr1
    obtain ⟨t0, t1, t2, t3, t4, tf⟩ := blk_five hT2.out
    obtain ⟨b0, b1, b2, b3, b4, bf⟩ := blk_five hB2.out
    go_wp2_with fail
    refine bodyPost_ret (v := Tk.val ⟨x2, high, due, every, crit⟩) (by simp [results, Tryz.results59, go_sem, b0, b1, b2, b3, b4]) rfl ⟨⟨x2, high, due, every, crit⟩, _, rfl, by simp only [Sm]; omega, ?_, ((hr2.set (a := ⟨w.heap.size, 0, none⟩) (by simp; omega) hWw _).set5 (b := w.heap.size + 1) (by omega) (by omega) _ _ _ _ _), gb_setOwn5 (gb_setOwn hG2.out (p := ⟨w.heap.size, 0, none⟩) (Nat.le_refl _) _) (Nat.le_succ _) _ _ _ _ _⟩
    omega
  · go_wp2_with fail
    refine (spec_num W _ g (p + 1) _ [0, 21, 5] _ (hr1.grow (bal (Below.refl _ _) _)) (by omega) (IS_lit _ _ _ _ _ rfl rfl) (by simp) (by simp) (by rintro a ⟨⟩; simp; have := hr1.lt; omega)).mono ?_
    rintro e w2 ⟨x2, hx2, rfl, hr2, hg2⟩
    have hx2 : -100 ≤ x2 ∧ x2 ≤ 100 := by simp at hx2; omega
    have hT2 := Lib.hid (blk_keep ((Below.heap_alloc _ _ _ (by omega)).trans hT1.out) hg2 (by omega))
    have hB2 := Lib.hid (blk_keep ((Below.heap_alloc _ _ _ (by omega)).trans hB1.out) hg2 (by omega))
    have hG2 : Hid (w.grownBy w2 (some g)) := gb_trans (gb_alloc hG1.out _) hg2
    clear hg2 t0 t1 t2 t3 t4 tf b0 b1 b2 b3 b4 bf hT1 hB1 hG1 hr1
    obtain ⟨t0, t1, t2, t3, t4, tf⟩ := blk_five hT2.out
    obtain ⟨b0, b1, b2, b3, b4, bf⟩ := blk_five hB2.out
    go_wp2_with fail
    refine bodyPost_ret (v := Tk.val ⟨low, x2, due, every, crit⟩) (by simp [results, Tryz.results59, go_sem, b0, b1, b2, b3, b4]) rfl ⟨⟨low, x2, due, every, crit⟩, _, rfl, by simp only [Sm]; omega, ?_, ((hr2.set (a := ⟨w.heap.size, 1, none⟩) (by simp; omega) hWw _).set5 (b := w.heap.size + 1) (by omega) (by omega) _ _ _ _ _), gb_setOwn5 (gb_setOwn hG2.out (p := ⟨w.heap.size, 1, none⟩) (Nat.le_refl _) _) (Nat.le_succ _) _ _ _ _ _⟩
    omega
  · go_wp2_with fail
    refine (spec_num W _ g (p + 1) _ [0, 21, 20] _ (hr1.grow (bal (Below.refl _ _) _)) (by omega) (IS_lit _ _ _ _ _ rfl rfl) (by simp) (by simp) (by rintro a ⟨⟩; simp; have := hr1.lt; omega)).mono ?_
    rintro e w2 ⟨x2, hx2, rfl, hr2, hg2⟩
    have hx2 : -100 ≤ x2 ∧ x2 ≤ 100 := by simp at hx2; omega
    have hT2 := Lib.hid (blk_keep ((Below.heap_alloc _ _ _ (by omega)).trans hT1.out) hg2 (by omega))
    have hB2 := Lib.hid (blk_keep ((Below.heap_alloc _ _ _ (by omega)).trans hB1.out) hg2 (by omega))
    have hG2 : Hid (w.grownBy w2 (some g)) := gb_trans (gb_alloc hG1.out _) hg2
    clear hg2 t0 t1 t2 t3 t4 tf b0 b1 b2 b3 b4 bf hT1 hB1 hG1 hr1
    obtain ⟨t0, t1, t2, t3, t4, tf⟩ := blk_five hT2.out
    obtain ⟨b0, b1, b2, b3, b4, bf⟩ := blk_five hB2.out
    go_wp2_with fail
    refine bodyPost_ret (v := Tk.val ⟨low, high, x2, every, crit⟩) (by simp [results, Tryz.results59, go_sem, b0, b1, b2, b3, b4]) rfl ⟨⟨low, high, x2, every, crit⟩, _, rfl, by simp only [Sm]; omega, ?_, ((hr2.set (a := ⟨w.heap.size, 2, none⟩) (by simp; omega) hWw _).set5 (b := w.heap.size + 1) (by omega) (by omega) _ _ _ _ _), gb_setOwn5 (gb_setOwn hG2.out (p := ⟨w.heap.size, 2, none⟩) (Nat.le_refl _) _) (Nat.le_succ _) _ _ _ _ _⟩
    omega
  · go_wp2_with fail
    refine bodyPost_ret (v := Tk.val ⟨low, high, due, every, !crit⟩) (by simp [results, Tryz.results59, go_sem, b0, b1, b2, b3, b4]) rfl ⟨⟨low, high, due, every, !crit⟩, _, rfl, by simp only [Sm]; omega, ?_, ((hr1.set (a := ⟨w.heap.size, 4, none⟩) (by simp; omega) hWw _).set5 (b := w.heap.size + 1) (by omega) (by omega) _ _ _ _ _), gb_setOwn5 (gb_setOwn hG1.out (p := ⟨w.heap.size, 4, none⟩) (Nat.le_refl _) _) (Nat.le_succ _) _ _ _ _ _⟩
    omega
  · go_wp2_with fail
    refine (spec_num W _ g (p + 1) _ [21, 0, 20] _ (hr1.grow (bal (Below.refl _ _) _)) (by omega) (IS_lit _ _ _ _ _ rfl rfl) (by simp) (by simp) (by rintro a ⟨⟩; simp; have := hr1.lt; omega)).mono ?_
    rintro e w2 ⟨x2, hx2, rfl, hr2, hg2⟩
    have hx2 : -100 ≤ x2 ∧ x2 ≤ 100 := by simp at hx2; omega
    have hT2 := Lib.hid (blk_keep ((Below.heap_alloc _ _ _ (by omega)).trans hT1.out) hg2 (by omega))
    have hB2 := Lib.hid (blk_keep ((Below.heap_alloc _ _ _ (by omega)).trans hB1.out) hg2 (by omega))
    have hG2 : Hid (w.grownBy w2 (some g)) := gb_trans (gb_alloc hG1.out _) hg2
    clear hg2 t0 t1 t2 t3 t4 tf b0 b1 b2 b3 b4 bf hT1 hB1 hG1 hr1
    obtain ⟨t0, t1, t2, t3, t4, tf⟩ := blk_five hT2.out
    obtain ⟨b0, b1, b2, b3, b4, bf⟩ := blk_five hB2.out
    go_wp2_with fail
    refine bodyPost_ret (v := Tk.val ⟨low, high, due, x2, crit⟩) (by simp [results, Tryz.results59, go_sem, b0, b1, b2, b3, b4]) rfl ⟨⟨low, high, due, x2, crit⟩, _, rfl, by simp only [Sm]; omega, ?_, ((hr2.set (a := ⟨w.heap.size, 3, none⟩) (by simp; omega) hWw _).set5 (b := w.heap.size + 1) (by omega) (by omega) _ _ _ _ _), gb_setOwn5 (gb_setOwn hG2.out (p := ⟨w.heap.size, 3, none⟩) (Nat.le_refl _) _) (Nat.le_succ _) _ _ _ _ _⟩
    omega
  · have n0 : (x1 == 0) = false := beq_eq_false_iff_ne.2 (by omega)
    have n1 : (x1 == 1) = false := beq_eq_false_iff_ne.2 (by omega)
    have n2 : (x1 == 2) = false := beq_eq_false_iff_ne.2 (by omega)
    have n3 : (x1 == 3) = false := beq_eq_false_iff_ne.2 (by omega)
    have n4 : (x1 == 4) = false := beq_eq_false_iff_ne.2 (by omega)
    go_wp2_with fail
    refine bodyPost_ret (v := Tk.val ⟨low, high, due, every, crit⟩) (by simp [results, Tryz.results59, go_sem, b0, b1, b2, b3, b4]) rfl ⟨⟨low, high, due, every, crit⟩, _, rfl, by simp only [Sm]; omega, ?_, hr1.set5 (b := w.heap.size + 1) (by omega) (by omega) _ _ _ _ _, gb_setOwn5 hG1.out (Nat.le_succ _) _ _ _ _ _⟩
    omega

theorem neg_lit : (Value.int .i64 (-1)) = .int .i64 (-1) := rfl

/-- Integers drawn: small ones, in new memory. -/
def IntsPost (W w : World) (g p k m : Nat) (e : Ending) (w' : World) : Prop :=
  ∃ (A : Option Addr) (c : Nat) (l : List Int) (q : Nat), e = .returned (.slice A l.length c) ∧ OI w.heap.size w' A c l ∧ (∀ x ∈ l, -100 ≤ x ∧ x ≤ 100) ∧ l.length ≤ m ∧ q ≤ p + k ∧ RD W w' g q ∧ w.grownBy w' (some g)

theorem gb_set5row {w : World} {b i0 i1 i2 i3 i4 : Nat} (u0 u1 u2 u3 u4 : Value) : w.grownBy (((((w.setCell ⟨b, i0, none⟩ u0).setCell ⟨b, i1, none⟩ u1).setCell ⟨b, i2, none⟩ u2).setCell ⟨b, i3, none⟩ u3).setCell ⟨b, i4, none⟩ u4) (some b) :=
  gb_trans (gb_trans (gb_trans (gb_trans (gb_set (p := ⟨b, i0, none⟩) rfl u0) (gb_set (p := ⟨b, i1, none⟩) rfl u1)) (gb_set (p := ⟨b, i2, none⟩) rfl u2)) (gb_set (p := ⟨b, i3, none⟩) rfl u3)) (gb_set (p := ⟨b, i4, none⟩) rfl u4)
theorem OT_cells {base : Nat} {w : World} {b c : Nat} {l : List Tk} (h : OT base w (some ⟨b, 0, none⟩) c l) (k : Nat) (hk : k < l.length) :
    w.cell? ⟨b, k * 5, none⟩ = some (.int .i64 l[k].low) ∧ w.cell? ⟨b, k * 5 + 1, none⟩ = some (.int .i64 l[k].high) ∧ w.cell? ⟨b, k * 5 + 2, none⟩ = some (.int .i64 l[k].due) ∧
    w.cell? ⟨b, k * 5 + 3, none⟩ = some (.int .i64 l[k].every) ∧ w.cell? ⟨b, k * 5 + 4, none⟩ = some (.bool l[k].crit) ∧ ∀ i, w.frozen? ⟨b, i, none⟩ = false := by
  obtain ⟨b', off, hA, _, hc⟩ := h.ts (by omega)
  injection hA with hA
  injection hA with hb ho
  subst hb ho
  obtain ⟨c0, c1, c2, c3, c4⟩ := task_cells hc k hk
  simp only [Nat.zero_add] at c0 c1 c2 c3 c4
  exact ⟨c0, c1, c2, c3, c4, fun i => World.ownsRow.frozenAt h i⟩

end Go.Proofs.YtmkjmancmiphfaaGreatDoor
