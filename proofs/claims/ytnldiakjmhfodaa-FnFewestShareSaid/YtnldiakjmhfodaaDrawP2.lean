/-
  DrawPackHolds, DrawPackFirst, DrawPackAny, DrawFewestFor.
-/
import Derived.Test.YtnldiakjmhfodaaDrawCase
namespace Go.Proofs.Ytnldiakjmhfodaa
open Go.RowKit

theorem spec_DrawPackHolds (A0 : Option Addr) (code : List Int) (c0 : Nat) (w : World) (h : BS w A0 code) (hl : code.length ≤ maxLen) (hlc : code.length ≤ c0) :
    Calls Try.prog 42 #[.slice A0 code.length c0] w (CasePost w) := by
  go_enter Try.func42, Try.ntmps42
  go_wp2_with fail
  refine (spec_l9Case A0 code c0 w h hl hlc).mono ?_
  rintro e w1 ⟨A, c, l, B, d, ws, n, m, rfl, hk⟩
  go_wp2_with fail
  refine bodyPost_ret (results_tmp4 rfl _ _ _) rfl ?_
  exact ⟨A, c, l, B, d, ws, n, m, rfl, hk⟩
theorem spec_DrawPackFirst (A0 : Option Addr) (code : List Int) (c0 : Nat) (w : World) (h : BS w A0 code) (hl : code.length ≤ maxLen) (hlc : code.length ≤ c0) :
    Calls Try.prog 48 #[.slice A0 code.length c0] w fun e w' => ∃ A c l n m, e = .returned (.tuple #[.slice A (List.length l) c, .int .i64 n, .int .i64 m]) ∧ OT w.heap.size w' A c l ∧ l.length ≤ 5 ∧ 0 ≤ n ∧ n ≤ 4 ∧ 0 ≤ m ∧ m ≤ 2 ∧ Below w.heap.size w w' := by
  go_enter Try.func48, Try.ntmps48
  go_wp2_with fail
  refine (spec_l9Case A0 code c0 w h hl hlc).mono ?_
  rintro e w1 ⟨A, c, l, B, d, ws, n, m, rfl, hk⟩
  go_wp2_with fail
  go_ret3
  exact ⟨A, c, l, n, m, rfl, hk.tasks, hk.len, hk.n0, hk.n4, hk.m0, hk.m2, hk.below⟩
theorem spec_DrawPackAny (A0 : Option Addr) (code : List Int) (c0 : Nat) (w : World) (h : BS w A0 code) (hl : code.length ≤ maxLen) (hlc : code.length ≤ c0) :
    Calls Try.prog 69 #[.slice A0 code.length c0] w fun e w' => ∃ A c l n m, e = .returned (.tuple #[.slice A (List.length l) c, .int .i64 n, .int .i64 m]) ∧ OT w.heap.size w' A c l ∧ l.length ≤ 5 ∧ 0 ≤ n ∧ n ≤ 4 ∧ 0 ≤ m ∧ m ≤ 2 ∧ Below w.heap.size w w' := by
  go_enter Try.func69, Try.ntmps69
  go_wp2_with fail
  refine (spec_DrawPackFirst A0 code c0 w h hl hlc).mono ?_
  rintro e w1 ⟨A, c, l, n, m, rfl, hO, hl5, n0, n4, m0, m2, hb⟩
  go_wp2_with fail
  go_ret3
  exact ⟨A, c, l, n, m, rfl, hO, hl5, n0, n4, m0, m2, hb⟩
theorem spec_DrawFewestFor (A0 : Option Addr) (code : List Int) (c0 : Nat) (w : World) (h : BS w A0 code) (hl : code.length ≤ maxLen) (hlc : code.length ≤ c0) :
    Calls Try.prog 71 #[.slice A0 code.length c0] w fun e w' => ∃ A c l m, e = .returned (.tuple #[.slice A (List.length l) c, .int .i64 m]) ∧ OT w.heap.size w' A c l ∧ l.length ≤ 5 ∧ 0 ≤ m ∧ m ≤ 2 ∧ Below w.heap.size w w' := by
  go_enter Try.func71, Try.ntmps71
  go_wp2_with fail
  refine (spec_l9Case A0 code c0 w h hl hlc).mono ?_
  rintro e w1 ⟨A, c, l, B, d, ws, n, m, rfl, hk⟩
  go_wp2_with fail
  go_ret2
  exact ⟨A, c, l, m, rfl, hk.tasks, hk.len, hk.m0, hk.m2, hk.below⟩
end Go.Proofs.Ytnldiakjmhfodaa
