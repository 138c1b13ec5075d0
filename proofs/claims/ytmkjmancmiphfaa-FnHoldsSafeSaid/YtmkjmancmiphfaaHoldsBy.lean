/-
  HoldsBy, CanHold: the program's and the reference's.
-/
import Derived.Test.YtmkjmancmiphfaaHVirtS
import Derived.Test.YtmkjmancmiphfaaAsgS
import Derived.Test.YtmkjmancmiphfaaHoldsBoth
namespace Go.Proofs.Ytmkjmancmiphfaa
open Go.RowKit

theorem impl_HoldsBy (A : Option Addr) (l : List Tk) (c : Nat) (p : Int) (w : World) (h : TS w A l) (hm : l.length ≤ maxLen) (hlc : l.length ≤ c) :
    Calls Try.prog 5 #[.slice A l.length c, .int .i64 p] w fun e w' => e = .returned (.bool (hldBy l p)) ∧ Below w.heap.size w w' := by
  by_cases h0 : p = 0
  · subst h0
    have Hf : Hid (hldBy l 0 = hldBoth l) := rfl
    go_enter Try.func5, Try.ntmps5
    go_wp2_with fail
    refine (impl_HoldsBoth A l c _ h hlc).mono ?_
    rintro e w1 ⟨rfl, b1⟩
    go_wp2_with fail
    go_ret
    exact ⟨by rw [Hf.out]; rfl, b1⟩
  · have e0 : (p == 0) = false := beq_eq_false_iff_ne.2 h0
    by_cases h1 : p = 1
    · subst h1
      have Hf : Hid (hldBy l 1 = hldVirt l) := rfl
      go_enter Try.func5, Try.ntmps5
      go_wp2_with fail
      refine (impl_HoldsVirtual A l c _ h hm).mono ?_
      rintro e w1 ⟨rfl, b1⟩
      go_wp2_with fail
      go_ret
      exact ⟨by rw [Hf.out]; rfl, b1⟩
    · have e1 : (p == 1) = false := beq_eq_false_iff_ne.2 h1
      have Hf : Hid (hldBy l p = false) := by simp [Hid, hldBy, h0, h1]
      clear h0 h1
      go_enter Try.func5, Try.ntmps5
      go_wp2_with fail
      go_ret
      exact ⟨by rw [Hf.out]; rfl, Below.refl _ _⟩
theorem spec_HoldsBy (A : Option Addr) (l : List Tk) (c : Nat) (p : Int) (w : World) (h : TS w A l) (hm : l.length ≤ maxLen) :
    Calls Try.prog 6 #[.slice A l.length c, .int .i64 p] w fun e w' => e = .returned (.bool (hldBy l p)) ∧ Below w.heap.size w w' := by
  by_cases h0 : p = 0
  · subst h0
    have Hf : Hid (hldBy l 0 = hldBoth l) := rfl
    go_enter Try.func6, Try.ntmps6
    go_wp2_with fail
    refine (spec_HoldsBoth A l c _ h hm).mono ?_
    rintro e w1 ⟨rfl, b1⟩
    go_wp2_with fail
    go_ret
    exact ⟨by rw [Hf.out]; rfl, b1⟩
  · have e0 : (p == 0) = false := beq_eq_false_iff_ne.2 h0
    by_cases h1 : p = 1
    · subst h1
      have Hf : Hid (hldBy l 1 = hldVirt l) := rfl
      go_enter Try.func6, Try.ntmps6
      go_wp2_with fail
      refine (spec_HoldsVirtual A l c _ h hm).mono ?_
      rintro e w1 ⟨rfl, b1⟩
      go_wp2_with fail
      go_ret
      exact ⟨by rw [Hf.out]; rfl, b1⟩
    · have e1 : (p == 1) = false := beq_eq_false_iff_ne.2 h1
      have Hf : Hid (hldBy l p = false) := by simp [Hid, hldBy, h0, h1]
      clear h0 h1
      go_enter Try.func6, Try.ntmps6
      go_wp2_with fail
      go_ret
      exact ⟨by rw [Hf.out]; rfl, Below.refl _ _⟩
end Go.Proofs.Ytmkjmancmiphfaa
