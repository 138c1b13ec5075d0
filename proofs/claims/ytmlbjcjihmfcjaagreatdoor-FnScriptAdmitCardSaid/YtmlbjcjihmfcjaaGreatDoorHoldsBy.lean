/-
  HoldsBy, CanHold: the program's and the reference's.
-/
import Derived.Test.YtmlbjcjihmfcjaaGreatDoorHVirtS
import Derived.Test.YtmlbjcjihmfcjaaGreatDoorAsgS
import Derived.Test.YtmlbjcjihmfcjaaGreatDoorHoldsBoth
namespace Go.Proofs.YtmlbjcjihmfcjaaGreatDoor
open Go.RowKit

theorem impl_HoldsBy (A : Option Addr) (l : List Tk) (c : Nat) (p : Int) (w : World) (h : TS w A l) (hm : l.length ≤ maxLen) (hlc : l.length ≤ c) :
    Calls Tryz.prog 63 #[.slice A l.length c, .int .i64 p] w fun e w' => e = .returned (.bool (hldBy l p)) ∧ Below w.heap.size w w' := by
  by_cases h0 : p = 0
  · subst h0
    have Hf : Hid (hldBy l 0 = hldBoth l) := rfl
    go_enter Tryz.func63, Tryz.ntmps63
    go_wp2_with fail
    refine (impl_HoldsBoth A l c _ h hlc).mono ?_
    rintro e w1 ⟨rfl, b1⟩
    go_wp2_with fail
    go_ret
    exact ⟨by rw [Hf.out]; rfl, b1⟩
  · have e0 : (p == 0) = false := beq_eq_false_iff_ne.2 h0
    by_cases h1 : p = 1
    · subst h1
      have Hf : Hid (hldBy l 1 = hldVirt l) := rfl
      go_enter Tryz.func63, Tryz.ntmps63
      go_wp2_with fail
      refine (impl_HoldsVirtual A l c _ h hm).mono ?_
      rintro e w1 ⟨rfl, b1⟩
      go_wp2_with fail
      go_ret
      exact ⟨by rw [Hf.out]; rfl, b1⟩
    · have e1 : (p == 1) = false := beq_eq_false_iff_ne.2 h1
      have Hf : Hid (hldBy l p = false) := by simp [Hid, hldBy, h0, h1]
      clear h0 h1
      go_enter Tryz.func63, Tryz.ntmps63
      go_wp2_with fail
      go_ret
      exact ⟨by rw [Hf.out]; rfl, Below.refl _ _⟩
theorem spec_HoldsBy (A : Option Addr) (l : List Tk) (c : Nat) (p : Int) (w : World) (h : TS w A l) (hm : l.length ≤ maxLen) :
    Calls Tryz.prog 64 #[.slice A l.length c, .int .i64 p] w fun e w' => e = .returned (.bool (hldBy l p)) ∧ Below w.heap.size w w' := by
  by_cases h0 : p = 0
  · subst h0
    have Hf : Hid (hldBy l 0 = hldBoth l) := rfl
    go_enter Tryz.func64, Tryz.ntmps64
    go_wp2_with fail
    refine (spec_HoldsBoth A l c _ h hm).mono ?_
    rintro e w1 ⟨rfl, b1⟩
    go_wp2_with fail
    go_ret
    exact ⟨by rw [Hf.out]; rfl, b1⟩
  · have e0 : (p == 0) = false := beq_eq_false_iff_ne.2 h0
    by_cases h1 : p = 1
    · subst h1
      have Hf : Hid (hldBy l 1 = hldVirt l) := rfl
      go_enter Tryz.func64, Tryz.ntmps64
      go_wp2_with fail
      refine (spec_HoldsVirtual A l c _ h hm).mono ?_
      rintro e w1 ⟨rfl, b1⟩
      go_wp2_with fail
      go_ret
      exact ⟨by rw [Hf.out]; rfl, b1⟩
    · have e1 : (p == 1) = false := beq_eq_false_iff_ne.2 h1
      have Hf : Hid (hldBy l p = false) := by simp [Hid, hldBy, h0, h1]
      clear h0 h1
      go_enter Tryz.func64, Tryz.ntmps64
      go_wp2_with fail
      go_ret
      exact ⟨by rw [Hf.out]; rfl, Below.refl _ _⟩
theorem impl_CanHold (A : Option Addr) (l : List Tk) (c : Nat) (p : Int) (w : World) (h : TS w A l) (hm : l.length ≤ maxLen) (hlc : l.length ≤ c) :
    Calls Tryz.prog 154 #[.slice A l.length c, .int .i64 p] w fun e w' => e = .returned (.bool (canH l p)) ∧ Below w.heap.size w w' := by
  by_cases h0 : p = 0
  · subst h0
    have Hf : Hid (canH l 0 = (assign l).isSome) := rfl
    go_enter Tryz.func154, Tryz.ntmps154
    go_wp2_with fail
    refine (impl_AssignOrder A l c _ h).mono ?_
    rintro e w1 ⟨A1, c1, rfl, o1, b1⟩
    go_wp2_with fail
    go_ret
    exact ⟨by rw [Hf.out]; rfl, b1⟩
  · have e0 : (p == 0) = false := beq_eq_false_iff_ne.2 h0
    have Hf : Hid (canH l p = hldBy l p) := by simp [Hid, canH, h0]
    clear h0
    go_enter Tryz.func154, Tryz.ntmps154
    go_wp2_with fail
    refine (impl_HoldsBy A l c p _ h hm hlc).mono ?_
    rintro e w1 ⟨rfl, b1⟩
    go_wp2_with fail
    go_ret
    exact ⟨by rw [Hf.out]; rfl, b1⟩
theorem spec_CanHold (A : Option Addr) (l : List Tk) (c : Nat) (p : Int) (w : World) (h : TS w A l) (hm : l.length ≤ maxLen) :
    Calls Tryz.prog 159 #[.slice A l.length c, .int .i64 p] w fun e w' => e = .returned (.bool (canH l p)) ∧ Below w.heap.size w w' := by
  by_cases h0 : p = 0
  · subst h0
    have Hf : Hid (canH l 0 = (assign l).isSome) := rfl
    go_enter Tryz.func159, Tryz.ntmps159
    go_wp2_with fail
    refine (spec_AssignOrder A l c _ h hm).mono ?_
    rintro e w1 ⟨A1, c1, rfl, o1, b1⟩
    go_wp2_with fail
    go_ret
    exact ⟨by rw [Hf.out]; rfl, b1⟩
  · have e0 : (p == 0) = false := beq_eq_false_iff_ne.2 h0
    have Hf : Hid (canH l p = hldBy l p) := by simp [Hid, canH, h0]
    clear h0
    go_enter Tryz.func159, Tryz.ntmps159
    go_wp2_with fail
    refine (spec_HoldsBy A l c p _ h hm).mono ?_
    rintro e w1 ⟨rfl, b1⟩
    go_wp2_with fail
    go_ret
    exact ⟨by rw [Hf.out]; rfl, b1⟩
end Go.Proofs.YtmlbjcjihmfcjaaGreatDoor
