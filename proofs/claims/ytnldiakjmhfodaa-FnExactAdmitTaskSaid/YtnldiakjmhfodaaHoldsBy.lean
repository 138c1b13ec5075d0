/-
  HoldsBy, CanHold: the program's and the reference's.
-/
import Derived.Test.YtnldiakjmhfodaaHVirtS
import Derived.Test.YtnldiakjmhfodaaAsgS
import Derived.Test.YtnldiakjmhfodaaHoldsBoth
namespace Go.Proofs.Ytnldiakjmhfodaa
open Go.RowKit

theorem impl_HoldsBy (A : Option Addr) (l : List Tk) (c : Nat) (p : Int) (w : World) (h : TS w A l) (hm : l.length ≤ maxLen) (hlc : l.length ≤ c) :
    Calls Try.prog 55 #[.slice A l.length c, .int .i64 p] w fun e w' => e = .returned (.bool (hldBy l p)) ∧ Below w.heap.size w w' := by
  by_cases h0 : p = 0
  · subst h0
    have Hf : Hid (hldBy l 0 = hldBoth l) := rfl
    go_enter Try.func55, Try.ntmps55
    go_wp2_with fail
    refine (impl_HoldsBoth A l c _ h hlc).mono ?_
    rintro e w1 ⟨rfl, b1⟩
    go_wp2_with fail
    go_ret
    exact ⟨by rw [Hf.out]; rfl, b1⟩
  · have e0 : (p == 0) = false := beq_eq_false_iff_ne.2 h0
    by_cases h1 : p = 1
    · subst h1
      have Hf : Hid (hldBy l 1 = hldVirt l) := rfl
      go_enter Try.func55, Try.ntmps55
      go_wp2_with fail
      refine (impl_HoldsVirtual A l c _ h hm).mono ?_
      rintro e w1 ⟨rfl, b1⟩
      go_wp2_with fail
      go_ret
      exact ⟨by rw [Hf.out]; rfl, b1⟩
    · have e1 : (p == 1) = false := beq_eq_false_iff_ne.2 h1
      have Hf : Hid (hldBy l p = false) := by simp [Hid, hldBy, h0, h1]
      clear h0 h1
      go_enter Try.func55, Try.ntmps55
      go_wp2_with fail
      go_ret
      exact ⟨by rw [Hf.out]; rfl, Below.refl _ _⟩
theorem spec_HoldsBy (A : Option Addr) (l : List Tk) (c : Nat) (p : Int) (w : World) (h : TS w A l) (hm : l.length ≤ maxLen) :
    Calls Try.prog 63 #[.slice A l.length c, .int .i64 p] w fun e w' => e = .returned (.bool (hldBy l p)) ∧ Below w.heap.size w w' := by
  by_cases h0 : p = 0
  · subst h0
    have Hf : Hid (hldBy l 0 = hldBoth l) := rfl
    go_enter Try.func63, Try.ntmps63
    go_wp2_with fail
    refine (spec_HoldsBoth A l c _ h hm).mono ?_
    rintro e w1 ⟨rfl, b1⟩
    go_wp2_with fail
    go_ret
    exact ⟨by rw [Hf.out]; rfl, b1⟩
  · have e0 : (p == 0) = false := beq_eq_false_iff_ne.2 h0
    by_cases h1 : p = 1
    · subst h1
      have Hf : Hid (hldBy l 1 = hldVirt l) := rfl
      go_enter Try.func63, Try.ntmps63
      go_wp2_with fail
      refine (spec_HoldsVirtual A l c _ h hm).mono ?_
      rintro e w1 ⟨rfl, b1⟩
      go_wp2_with fail
      go_ret
      exact ⟨by rw [Hf.out]; rfl, b1⟩
    · have e1 : (p == 1) = false := beq_eq_false_iff_ne.2 h1
      have Hf : Hid (hldBy l p = false) := by simp [Hid, hldBy, h0, h1]
      clear h0 h1
      go_enter Try.func63, Try.ntmps63
      go_wp2_with fail
      go_ret
      exact ⟨by rw [Hf.out]; rfl, Below.refl _ _⟩
theorem impl_CanHold (A : Option Addr) (l : List Tk) (c : Nat) (p : Int) (w : World) (h : TS w A l) (hm : l.length ≤ maxLen) (hlc : l.length ≤ c) :
    Calls Try.prog 47 #[.slice A l.length c, .int .i64 p] w fun e w' => e = .returned (.bool (canH l p)) ∧ Below w.heap.size w w' := by
  by_cases h0 : p = 0
  · subst h0
    have Hf : Hid (canH l 0 = (assign l).isSome) := rfl
    go_enter Try.func47, Try.ntmps47
    go_wp2_with fail
    refine (impl_AssignOrder A l c _ h).mono ?_
    rintro e w1 ⟨A1, c1, rfl, o1, b1⟩
    go_wp2_with fail
    go_ret
    exact ⟨by rw [Hf.out]; rfl, b1⟩
  · have e0 : (p == 0) = false := beq_eq_false_iff_ne.2 h0
    have Hf : Hid (canH l p = hldBy l p) := by simp [Hid, canH, h0]
    clear h0
    go_enter Try.func47, Try.ntmps47
    go_wp2_with fail
    refine (impl_HoldsBy A l c p _ h hm hlc).mono ?_
    rintro e w1 ⟨rfl, b1⟩
    go_wp2_with fail
    go_ret
    exact ⟨by rw [Hf.out]; rfl, b1⟩
theorem spec_CanHold (A : Option Addr) (l : List Tk) (c : Nat) (p : Int) (w : World) (h : TS w A l) (hm : l.length ≤ maxLen) :
    Calls Try.prog 86 #[.slice A l.length c, .int .i64 p] w fun e w' => e = .returned (.bool (canH l p)) ∧ Below w.heap.size w w' := by
  by_cases h0 : p = 0
  · subst h0
    have Hf : Hid (canH l 0 = (assign l).isSome) := rfl
    go_enter Try.func86, Try.ntmps86
    go_wp2_with fail
    refine (spec_AssignOrder A l c _ h hm).mono ?_
    rintro e w1 ⟨A1, c1, rfl, o1, b1⟩
    go_wp2_with fail
    go_ret
    exact ⟨by rw [Hf.out]; rfl, b1⟩
  · have e0 : (p == 0) = false := beq_eq_false_iff_ne.2 h0
    have Hf : Hid (canH l p = hldBy l p) := by simp [Hid, canH, h0]
    clear h0
    go_enter Try.func86, Try.ntmps86
    go_wp2_with fail
    refine (spec_HoldsBy A l c p _ h hm).mono ?_
    rintro e w1 ⟨rfl, b1⟩
    go_wp2_with fail
    go_ret
    exact ⟨by rw [Hf.out]; rfl, b1⟩
end Go.Proofs.Ytnldiakjmhfodaa
