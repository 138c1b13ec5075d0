/-
  l1Some: drawn tasks, sometimes ones that are not valid; l3Case, DrawLeaveTask.
-/
import Derived.Test.YtmlbjcjihmfcjaaGreatDoorDrawCase
import Derived.Test.YtmlbjcjihmfcjaaGreatDoorSortD
namespace Go.Proofs.YtmlbjcjihmfcjaaGreatDoor
open Go.RowKit

set_option maxHeartbeats 4000000 in
theorem spec_l1Some (W w : World) (g p : Nat) (h : RD W w g p) (hp : p + 100 ≤ 1099511627776) :
    Calls Tryz.prog 106 #[.pointer (some ⟨g, 0, none⟩)] w (SetPost W w g p 80 6) := by
  have hgl := h.lt
  have hWw := h.below.size
  go_enter Tryz.func106, Tryz.ntmps106
  go_wp2_with fail
  refine (spec_l1Set W _ g p h (by omega)).mono ?_
  rintro e w1 ⟨A, c, l, q, rfl, hO, hsm, hl5, hq, hr, hg⟩
  have hG : Hid (w.grownBy w1 (some g)) := hg
  have hs : w.heap.size ≤ w1.heap.size := hg.size
  clear hg
  by_cases hpos : 0 < l.length
  · go_wp2_with fail
    refine (spec_pick W _ g q _ hr (by omega)).mono ?_
    rintro e w2 ⟨x, rfl, hx0, hx1, _, hr2, hg2⟩
    have hx1 := hx1 (by omega)
    obtain ⟨k, rfl⟩ : ∃ k : Nat, x = (k : Int) := ⟨x.toNat, (Int.toNat_of_nonneg hx0).symm⟩
    have hk : k < l.length := by omega
    have hO2 := OT_only hO hr hg2
    have hG2 : Hid (w.grownBy w2 (some g)) := gb_trans hG.out hg2
    have hs2 : w.heap.size ≤ w2.heap.size := Nat.le_trans hs hg2.size
    clear hg2 hO hG hr hs
    obtain ⟨b, rfl, hbw, hbl⟩ := OT_addr hO2 hpos
    obtain ⟨k0, k1, k2, k3, k4, kf⟩ := OT_cells hO2 k hk
    go_wp2_with fail
    refine (spec_l1Wrong W _ _ _ l[k] (hsm _ (List.getElem_mem hk)) hr2 (by omega)).mono ?_
    rintro e w3 ⟨t3, q3, rfl, hs3, hq3, hr3, hg3⟩
    have hO3 := OT_only hO2 hr2 hg3
    have hG3 : Hid (w.grownBy w3 (some g)) := gb_trans hG2.out hg3
    have hz3 : w.heap.size ≤ w3.heap.size := Nat.le_trans hs2 hg3.size
    clear hg3 k0 k1 k2 k3 k4 kf hO2 hG2 hr2 hs2
    obtain ⟨k0, k1, k2, k3, k4, kf⟩ := OT_cells hO3 k hk
    go_wp2_with fail
    clear k0 k1 k2 k3 k4 kf
    have hO4 := OT_whole hO3 k hk t3
    have hg4 := gb_set5row (w := w3) (b := b) (i0 := k * 5) (i1 := k * 5 + 1) (i2 := k * 5 + 2) (i3 := k * 5 + 3) (i4 := k * 5 + 4) (.int .i64 t3.low) (.int .i64 t3.high) (.int .i64 t3.due) (.int .i64 t3.every) (.bool t3.crit)
    have hr4 := hr3.row hO3 (by decide) hg4 ((own_below hO3 hg4 hz3).mono hWw)
    have hG4 : Hid (w.grownBy _ (some g)) := gb_row hG3.out (own_below hO3 hg4 hz3)
    have hlen : Hid ((l.set k t3).length = l.length) := List.length_set ..
    have hsm4 : ∀ t ∈ l.set k t3, Sm t := by
      intro t ht
      rcases List.mem_or_eq_of_mem_set ht with ht | rfl
      · exact hsm t ht
      · exact hs3
    have hs4 : w.heap.size ≤ (((((w3.setCell ⟨b, k * 5, none⟩ (.int .i64 t3.low)).setCell ⟨b, k * 5 + 1, none⟩ (.int .i64 t3.high)).setCell ⟨b, k * 5 + 2, none⟩ (.int .i64 t3.due)).setCell ⟨b, k * 5 + 3, none⟩ (.int .i64 t3.every)).setCell ⟨b, k * 5 + 4, none⟩ (.bool t3.crit)).heap.size := by simp [World.setCell]; exact hz3
    clear hg4 hO3 hr3 hG3 hz3 hsm hs3
    generalize hw4 : World.setCell _ ⟨b, k * 5 + 4, none⟩ _ = w4 at hO4 hr4 hG4 hs4 ⊢
    clear hw4
    have hO := hO4
    have hr := hr4
    have hG := hG4
    have hs := hs4
    have hsm := hsm4
    obtain ⟨A, hA⟩ : ∃ A : Option Addr, A = some ⟨b, 0, none⟩ := ⟨_, rfl⟩
    rw [← hA] at hO ⊢
    rw [← hlen.out]
    clear hA hO4 hr4 hG4 hs4 hsm4
    generalize l.set k t3 = l2 at *
    have hl6 : l2.length ≤ 5 := by rw [hlen.out]; omega
    have hl61 : 1 ≤ l2.length := by rw [hlen.out]; omega
    refine (spec_pick W _ g q3 _ hr (by omega)).mono ?_
    rintro e w5 ⟨y, rfl, hy0, hy1, _, hr5, hg5⟩
    have hy1 := hy1 (by omega)
    have hO5 := OT_only hO hr hg5
    have hG5 : Hid (w.grownBy w5 (some g)) := gb_trans hG.out hg5
    have hs5 : w.heap.size ≤ w5.heap.size := Nat.le_trans hs hg5.size
    clear hg5 hO hG hr hs
    by_cases hy : y = 0
    · subst hy
      go_wp2_with fail
      go_loopw [3] (fun v wr => ∃ (q : Nat) (A : Option Addr) (c : Nat) (l : List Tk), v = .slice A l.length c ∧ l.length ≤ 6 ∧ q ≤ p + 34 + 6 * l.length ∧ OT w.heap.size wr A c l ∧ (∀ t ∈ l, Sm t) ∧ RD W wr g q ∧ Hid (w.grownBy wr (some g)) ∧ w.heap.size ≤ wr.heap.size) (fun v _ => 7 - lenOf v)
      case atStart => exact ⟨q3 + 1, A, c, _, rfl, by rw [hlen.out]; omega, by omega, hO5, hsm, hr5, hG5, hs5⟩
      case round =>
        clear hO5 hsm hr5 hG5 hs5
        obtain ⟨q, A, c, l, rfl, hl6, hq, hO, hsm, hr, hG, hs⟩ := hrel
        by_cases hk : l.length ≤ 5
        · go_wp2_with fail
          refine (spec_l1Task W _ g q hr (by omega)).mono ?_
          rintro e w6 ⟨t, q2, rfl, hst, hq2, hr2, hg2⟩
          have hO2 := OT_only hO hr hg2
          have hG2 : Hid (w.grownBy w6 (some g)) := gb_trans hG.out hg2
          have hs2 : w.heap.size ≤ w6.heap.size := Nat.le_trans hs hg2.size
          clear hg2 hO hG hr
          go_wp2_with (at_builtin; refine wpList_app_task _ rfl _ _ rfl w.heap.size A l c rfl (OT_alloc hO2 _) w6.heap.size 1 t _ 73 rfl (heap_alloc_new w6 _) rfl (by omega) (by simp; omega) ?_; intro A3 c3 w7 hO3 hg3 hb3)
          have hr3 := (hr2.grow (bal (Below.refl _ _) _)).row (OT_alloc hO2 _) (by decide) hg3 (hb3.mono hWw)
          have hG3 : Hid (w.grownBy w7 (some g)) := gb_row (gb_alloc hG2.out _) hb3
          have hs3 : w.heap.size ≤ w7.heap.size := by have := hb3.size; simp at this; omega
          go_roundw
          case rel => exact ⟨q2, A3, c3, l ++ [t], by simp, by simp; omega, by simp; omega, hO3, by intro x hx; rcases List.mem_append.1 hx with hx | hx; exact hsm x hx; simp at hx; exact hx ▸ hst, hr3, hG3, hs3⟩
          case measure => simp [lenOf]; omega
        · go_wp2_with fail
          go_ret
          exact ⟨A, c, l, q, rfl, hO, hsm, by omega, by omega, hr, hG.out⟩
    · have hy' : (y == 0) = false := beq_eq_false_iff_ne.2 hy
      go_wp2_with fail
      go_ret
      exact ⟨A, c, _, q3 + 1, rfl, hO5, hsm, by rw [hlen.out]; omega, by omega, hr5, hG5.out⟩
  · have hl0 : l.length = 0 := by omega
    have hl5' : l.length ≤ 5 := hl5
    go_wp2_with fail
    refine (spec_pick W _ g q _ hr (by omega)).mono ?_
    rintro e w5 ⟨y, rfl, hy0, hy1, _, hr5, hg5⟩
    have hy1 := hy1 (by omega)
    have hO5 := OT_only hO hr hg5
    have hG5 : Hid (w.grownBy w5 (some g)) := gb_trans hG.out hg5
    have hs5 : w.heap.size ≤ w5.heap.size := Nat.le_trans hs hg5.size
    clear hg5 hO hG hr hs
    by_cases hy : y = 0
    · subst hy
      go_wp2_with fail
      go_loopw [3] (fun v wr => ∃ (q : Nat) (A : Option Addr) (c : Nat) (l : List Tk), v = .slice A l.length c ∧ l.length ≤ 6 ∧ q ≤ p + 34 + 6 * l.length ∧ OT w.heap.size wr A c l ∧ (∀ t ∈ l, Sm t) ∧ RD W wr g q ∧ Hid (w.grownBy wr (some g)) ∧ w.heap.size ≤ wr.heap.size) (fun v _ => 7 - lenOf v)
      case atStart => exact ⟨q + 1, A, c, _, by rw [hl0], by omega, by omega, hO5, hsm, hr5, hG5, hs5⟩
      case round =>
        clear hO5 hsm hr5 hG5 hs5
        obtain ⟨q, A, c, l, rfl, hl6, hq, hO, hsm, hr, hG, hs⟩ := hrel
        by_cases hk : l.length ≤ 5
        · go_wp2_with fail
          refine (spec_l1Task W _ g q hr (by omega)).mono ?_
          rintro e w6 ⟨t, q2, rfl, hst, hq2, hr2, hg2⟩
          have hO2 := OT_only hO hr hg2
          have hG2 : Hid (w.grownBy w6 (some g)) := gb_trans hG.out hg2
          have hs2 : w.heap.size ≤ w6.heap.size := Nat.le_trans hs hg2.size
          clear hg2 hO hG hr
          go_wp2_with (at_builtin; refine wpList_app_task _ rfl _ _ rfl w.heap.size A l c rfl (OT_alloc hO2 _) w6.heap.size 1 t _ 73 rfl (heap_alloc_new w6 _) rfl (by omega) (by simp; omega) ?_; intro A3 c3 w7 hO3 hg3 hb3)
          have hr3 := (hr2.grow (bal (Below.refl _ _) _)).row (OT_alloc hO2 _) (by decide) hg3 (hb3.mono hWw)
          have hG3 : Hid (w.grownBy w7 (some g)) := gb_row (gb_alloc hG2.out _) hb3
          have hs3 : w.heap.size ≤ w7.heap.size := by have := hb3.size; simp at this; omega
          go_roundw
          case rel => exact ⟨q2, A3, c3, l ++ [t], by simp, by simp; omega, by simp; omega, hO3, by intro x hx; rcases List.mem_append.1 hx with hx | hx; exact hsm x hx; simp at hx; exact hx ▸ hst, hr3, hG3, hs3⟩
          case measure => simp [lenOf]; omega
        · go_wp2_with fail
          go_ret
          exact ⟨A, c, l, q, rfl, hO, hsm, by omega, by omega, hr, hG.out⟩
    · have hy' : (y == 0) = false := beq_eq_false_iff_ne.2 hy
      go_wp2_with fail
      go_ret
      exact ⟨A, c, _, q + 1, by rw [hl0]; rfl, hO5, hsm, by omega, by omega, hr5, hG5.out⟩

/-- What l3Case hands over. -/
def AtPost (w : World) (e : Ending) (w' : World) : Prop := ∃ A c l x, e = .returned (.tuple #[.slice A (List.length l) c, .int .i64 x]) ∧ OT w.heap.size w' A c l ∧ l.length ≤ 6 ∧ -1 ≤ x ∧ x ≤ 5 ∧ Below w.heap.size w w'
theorem sortD_le (l : List Tk) : (sortD l).length ≤ l.length := by
  unfold sortD
  split
  · rw [sortF_len]; exact Nat.le_refl _
  · simp

set_option maxHeartbeats 2000000 in
theorem spec_l3Case (A0 : Option Addr) (code : List Int) (c0 : Nat) (w : World) (h : BS w A0 code) (hl : code.length ≤ maxLen) (hlc : code.length ≤ c0) :
    Calls Tryz.prog 118 #[.slice A0 code.length c0] w (AtPost w) := by
  go_enter Tryz.func118, Tryz.ntmps118
  go_wp2_with fail
  refine (spec_l11Open A0 code c0 w h hl hlc).mono ?_
  rintro e w1 ⟨rfl, hr1⟩
  go_wp2_with fail
  refine (spec_l1Some w _ _ 0 hr1 (by omega)).mono ?_
  rintro e w2 ⟨A, c, l, q, rfl, hO2, hsm, hl6, hq, hr2, hg2⟩
  have hO2 := own_base hO2 hr1.below.size
  clear hg2 hsm
  go_wp2_with fail
  refine (spec_num w _ _ q _ [1, 0, 2, 3, -1, 5] _ (hr2.grow (bal (Below.refl _ _) _)) (by omega) (IS_lit _ _ _ _ _ rfl rfl) (by simp) (by simp) (by rintro a ⟨⟩; have := hr2.lt; simp; omega)).mono ?_
  rintro e w3 ⟨x, hx, rfl, hr3, hg3⟩
  have hx : -1 ≤ x ∧ x ≤ 5 := by simp at hx; omega
  have hO3 : OT w.heap.size w3 A c l := OT_only (OT_alloc hO2 _) (hr2.grow (bal (Below.refl _ _) _)) hg3
  clear hg3 hO2 hr2
  go_wp2_with fail
  refine (spec_pick w _ _ _ _ hr3 (by omega)).mono ?_
  rintro e w4 ⟨y, rfl, hy0, hy1, _, hr4, hg4⟩
  have hO4 := OT_only hO3 hr3 hg4
  clear hg4 hO3 hr3
  by_cases hy : 0 < y
  · go_wp2_with fail
    refine (spec_l1Set w _ _ _ hr4 (by omega)).mono ?_
    rintro e w5 ⟨A5, c5, l5, q5, rfl, hO5, hsm5, hl5, hq5, hr5, hg5⟩
    clear hO4 hg5 hsm5
    go_wp2_with fail
    refine (spec_SortDue A5 l5 c5 _ hO5.ts (by unfold maxLen; omega)).mono ?_
    rintro e w6 ⟨A6, c6, rfl, hO6, hb6⟩
    have hO6 := own_base hO6 hr5.below.size
    have hb6 := bthru hr5.below hb6
    have hle := sortD_le l5
    generalize sortD l5 = l6 at *
    go_wp2_with fail
    refine bodyPost_ret (results_tmp2 rfl _ _ _) rfl ?_
    exact ⟨A6, c6, l6, x, rfl, hO6, by omega, hx.1, hx.2, hb6⟩
  · go_wp2_with fail
    refine bodyPost_ret (results_tmp2 rfl _ _ _) rfl ?_
    exact ⟨A, c, l, x, rfl, hO4, hl6, hx.1, hx.2, hr4.below⟩

theorem spec_DrawLeaveTask (A0 : Option Addr) (code : List Int) (c0 : Nat) (w : World) (h : BS w A0 code) (hl : code.length ≤ maxLen) (hlc : code.length ≤ c0) :
    Calls Tryz.prog 48 #[.slice A0 code.length c0] w (AtPost w) := by
  go_enter Tryz.func48, Tryz.ntmps48
  go_wp2_with fail
  refine (spec_l3Case A0 code c0 w h hl hlc).mono ?_
  rintro e w1 ⟨A, c, l, x, rfl, hO, hl6, hx0, hx1, hb⟩
  go_wp2_with fail
  refine bodyPost_ret (results_tmp2 rfl _ _ _) rfl ?_
  exact ⟨A, c, l, x, rfl, hO, hl6, hx0, hx1, hb⟩
end Go.Proofs.YtmlbjcjihmfcjaaGreatDoor
