/-
  Draws of a list of tasks, often ones that are due when their next job comes: l5Set, DrawFactorOf.
-/
import Derived.Test.YtmlbjcjihmfcjaaGreatDoorDrawSome
import Derived.Test.YtmlbjcjihmfcjaaGreatDoorDrawHold
namespace Go.Proofs.YtmlbjcjihmfcjaaGreatDoor
open Go.RowKit

set_option maxHeartbeats 4000000 in
theorem spec_l5Set (W w : World) (g p : Nat) (h : RD W w g p) (hp : p + 200 ≤ 1099511627776) :
    Calls Tryz.prog 131 #[.pointer (some ⟨g, 0, none⟩)] w fun e w' => ∃ (A : Option Addr) (c : Nat) (l : List Tk), e = .returned (.slice A l.length c) ∧ OT w.heap.size w' A c l ∧ l.length ≤ 6 ∧ Below W.heap.size W w' := by
  have hgl := h.lt
  have hWw := h.below.size
  go_enter Tryz.func131, Tryz.ntmps131
  go_wp2_with fail
  refine (spec_l1Some W _ g p h (by omega)).mono ?_
  rintro e w1 ⟨A, c, l, q, rfl, hO, hsm, hl6, hq, hr, hg⟩
  have hs : w.heap.size ≤ w1.heap.size := hg.size
  clear hg hsm
  go_wp2_with fail
  refine (spec_pick W _ g q _ hr (by omega)).mono ?_
  rintro e w4 ⟨y, rfl, hy0, hy1, _, hr4, hg4⟩
  have hO4 := OT_only hO hr hg4
  have hs4 : w.heap.size ≤ w4.heap.size := Nat.le_trans hs hg4.size
  clear hg4 hO hr hs
  by_cases hy : 0 < y
  · go_wp2_with fail
    go_loopw [4] (fun i wr => ∃ (k : Nat) (l3 : List Tk), i = .int .i64 (k : Int) ∧ k ≤ l.length ∧ Hid (l3.length = l.length) ∧ OT w.heap.size wr A c l3 ∧ RD W wr g (q + 1) ∧ w.heap.size ≤ wr.heap.size) (fun i _ => 7 - (intOf i).toNat)
    case atStart => exact ⟨0, l, rfl, by omega, rfl, hO4, hr4, hs4⟩
    case round =>
      clear hO4 hr4 hs4
      obtain ⟨k, l3, rfl, hk, hL, hO, hr, hs⟩ := hrel
      by_cases hkl : k < l.length
      · have hkl2 : k < l3.length := by rw [hL.out]; exact hkl
        obtain ⟨b, rfl, hbw, hbl⟩ := OT_addr hO (by omega)
        obtain ⟨c0, c1, c2', c3, c4, cf⟩ := OT_cells hO k hkl2
        go_wp2_with fail
        go_roundw
        case rel =>
          obtain ⟨hO3, hg3⟩ := OT_field hO k 2 hkl2 (by omega) (.int .i64 l3[k].every) ⟨l3[k].low, l3[k].high, l3[k].every, l3[k].every, l3[k].crit⟩ rfl
          exact ⟨k + 1, _, by go_num, by omega, by rw [Hid, List.length_set]; exact hL.out, hO3, hr.row hO (by decide) hg3 (own_below hO hg3 hs |>.mono hWw), by simp; omega⟩
        case measure => simp [intOf]; omega
      · go_wp2_with fail
        go_ret
        exact ⟨A, c, l3, by rw [hL.out]; rfl, hO, by rw [hL.out]; exact hl6, hr.below⟩
  · go_wp2_with fail
    go_ret
    exact ⟨A, c, l, rfl, hO4, hl6, hr4.below⟩
theorem spec_DrawFactorOf (A0 : Option Addr) (code : List Int) (c0 : Nat) (w : World) (h : BS w A0 code) (hl : code.length ≤ maxLen) (hlc : code.length ≤ c0) :
    Calls Tryz.prog 59 #[.slice A0 code.length c0] w fun e w' => ∃ A c l, e = .returned (.slice A (List.length l) c) ∧ OT w.heap.size w' A c l ∧ l.length ≤ 6 ∧ Below w.heap.size w w' := by
  go_enter Tryz.func59, Tryz.ntmps59
  go_wp2_with fail
  refine (spec_l11Open A0 code c0 w h hl hlc).mono ?_
  rintro e w1 ⟨rfl, hr1⟩
  go_wp2_with fail
  refine (spec_l5Set w _ _ 0 hr1 (by omega)).mono ?_
  rintro e w2 ⟨A, c, l, rfl, hO2, hl6, hb2⟩
  go_wp2_with fail
  go_ret
  exact ⟨A, c, l, rfl, own_base hO2 hr1.below.size, hl6, hb2⟩
end Go.Proofs.YtmlbjcjihmfcjaaGreatDoor
