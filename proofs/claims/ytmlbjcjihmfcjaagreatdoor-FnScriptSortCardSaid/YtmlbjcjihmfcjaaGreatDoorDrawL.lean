/-
  Draws of a list of tasks: DrawFormatSet, DrawSortDue, DrawHighShare, DrawAssignOrder.
-/
import Derived.Test.YtmlbjcjihmfcjaaGreatDoorDrawSome
namespace Go.Proofs.YtmlbjcjihmfcjaaGreatDoor
open Go.RowKit

theorem spec_DrawFormatSet (A0 : Option Addr) (code : List Int) (c0 : Nat) (w : World) (h : BS w A0 code) (hl : code.length ≤ maxLen) (hlc : code.length ≤ c0) :
    Calls Tryz.prog 37 #[.slice A0 code.length c0] w fun e w' => ∃ A c l, e = .returned (.slice A (List.length l) c) ∧ OT w.heap.size w' A c l ∧ l.length ≤ 6 ∧ Below w.heap.size w w' := by
  go_enter Tryz.func37, Tryz.ntmps37
  go_wp2_with fail
  refine (spec_l11Open A0 code c0 w h hl hlc).mono ?_
  rintro e w1 ⟨rfl, hr1⟩
  go_wp2_with fail
  refine (spec_l1Some w _ _ 0 hr1 (by omega)).mono ?_
  rintro e w2 ⟨A, c, l, q, rfl, hO2, hsm, hl6, hq, hr2, hg2⟩
  go_wp2_with fail
  go_ret
  exact ⟨A, c, l, rfl, own_base hO2 hr1.below.size, hl6, hr2.below⟩
theorem spec_DrawSortDue (A0 : Option Addr) (code : List Int) (c0 : Nat) (w : World) (h : BS w A0 code) (hl : code.length ≤ maxLen) (hlc : code.length ≤ c0) :
    Calls Tryz.prog 32 #[.slice A0 code.length c0] w fun e w' => ∃ A c l, e = .returned (.slice A (List.length l) c) ∧ OT w.heap.size w' A c l ∧ l.length ≤ 6 ∧ Below w.heap.size w w' := by
  go_enter Tryz.func32, Tryz.ntmps32
  go_wp2_with fail
  refine (spec_l11Open A0 code c0 w h hl hlc).mono ?_
  rintro e w1 ⟨rfl, hr1⟩
  go_wp2_with fail
  refine (spec_l1Some w _ _ 0 hr1 (by omega)).mono ?_
  rintro e w2 ⟨A, c, l, q, rfl, hO2, hsm, hl6, hq, hr2, hg2⟩
  go_wp2_with fail
  go_ret
  exact ⟨A, c, l, rfl, own_base hO2 hr1.below.size, hl6, hr2.below⟩
theorem spec_DrawHighShare (A0 : Option Addr) (code : List Int) (c0 : Nat) (w : World) (h : BS w A0 code) (hl : code.length ≤ maxLen) (hlc : code.length ≤ c0) :
    Calls Tryz.prog 43 #[.slice A0 code.length c0] w fun e w' => ∃ A c l, e = .returned (.slice A (List.length l) c) ∧ OT w.heap.size w' A c l ∧ l.length ≤ 6 ∧ Below w.heap.size w w' := by
  go_enter Tryz.func43, Tryz.ntmps43
  go_wp2_with fail
  refine (spec_l11Open A0 code c0 w h hl hlc).mono ?_
  rintro e w1 ⟨rfl, hr1⟩
  go_wp2_with fail
  refine (spec_l1Some w _ _ 0 hr1 (by omega)).mono ?_
  rintro e w2 ⟨A, c, l, q, rfl, hO2, hsm, hl6, hq, hr2, hg2⟩
  go_wp2_with fail
  go_ret
  exact ⟨A, c, l, rfl, own_base hO2 hr1.below.size, hl6, hr2.below⟩
theorem spec_DrawAssignOrder (A0 : Option Addr) (code : List Int) (c0 : Nat) (w : World) (h : BS w A0 code) (hl : code.length ≤ maxLen) (hlc : code.length ≤ c0) :
    Calls Tryz.prog 54 #[.slice A0 code.length c0] w fun e w' => ∃ A c l, e = .returned (.slice A (List.length l) c) ∧ OT w.heap.size w' A c l ∧ l.length ≤ 6 ∧ Below w.heap.size w w' := by
  go_enter Tryz.func54, Tryz.ntmps54
  go_wp2_with fail
  refine (spec_l11Open A0 code c0 w h hl hlc).mono ?_
  rintro e w1 ⟨rfl, hr1⟩
  go_wp2_with fail
  refine (spec_l1Some w _ _ 0 hr1 (by omega)).mono ?_
  rintro e w2 ⟨A, c, l, q, rfl, hO2, hsm, hl6, hq, hr2, hg2⟩
  go_wp2_with fail
  go_ret
  exact ⟨A, c, l, rfl, own_base hO2 hr1.below.size, hl6, hr2.below⟩
end Go.Proofs.YtmlbjcjihmfcjaaGreatDoor
