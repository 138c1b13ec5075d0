/-
  DrawPackHolds, DrawPackFirst, DrawPackAny, DrawFewestFor.
-/
import Derived.Test.YtmlbjcjihmfcjaaGreatDoorDrawCase
namespace Go.Proofs.YtmlbjcjihmfcjaaGreatDoor
open Go.RowKit

theorem spec_DrawPackFirst (A0 : Option Addr) (code : List Int) (c0 : Nat) (w : World) (h : BS w A0 code) (hl : code.length ≤ maxLen) (hlc : code.length ≤ c0) :
    Calls Tryz.prog 73 #[.slice A0 code.length c0] w fun e w' => ∃ A c l n m, e = .returned (.tuple #[.slice A (List.length l) c, .int .i64 n, .int .i64 m]) ∧ OT w.heap.size w' A c l ∧ l.length ≤ 5 ∧ 0 ≤ n ∧ n ≤ 4 ∧ 0 ≤ m ∧ m ≤ 2 ∧ Below w.heap.size w w' := by
  go_enter Tryz.func73, Tryz.ntmps73
  go_wp2_with fail
  refine (spec_l9Case A0 code c0 w h hl hlc).mono ?_
  rintro e w1 ⟨A, c, l, B, d, ws, n, m, rfl, hk⟩
  go_wp2_with fail
  go_ret3
  exact ⟨A, c, l, n, m, rfl, hk.tasks, hk.len, hk.n0, hk.n4, hk.m0, hk.m2, hk.below⟩
theorem spec_DrawFewestFor (A0 : Option Addr) (code : List Int) (c0 : Nat) (w : World) (h : BS w A0 code) (hl : code.length ≤ maxLen) (hlc : code.length ≤ c0) :
    Calls Tryz.prog 77 #[.slice A0 code.length c0] w fun e w' => ∃ A c l m, e = .returned (.tuple #[.slice A (List.length l) c, .int .i64 m]) ∧ OT w.heap.size w' A c l ∧ l.length ≤ 5 ∧ 0 ≤ m ∧ m ≤ 2 ∧ Below w.heap.size w w' := by
  go_enter Tryz.func77, Tryz.ntmps77
  go_wp2_with fail
  refine (spec_l9Case A0 code c0 w h hl hlc).mono ?_
  rintro e w1 ⟨A, c, l, B, d, ws, n, m, rfl, hk⟩
  go_wp2_with fail
  go_ret2
  exact ⟨A, c, l, m, rfl, hk.tasks, hk.len, hk.m0, hk.m2, hk.below⟩
end Go.Proofs.YtmlbjcjihmfcjaaGreatDoor
