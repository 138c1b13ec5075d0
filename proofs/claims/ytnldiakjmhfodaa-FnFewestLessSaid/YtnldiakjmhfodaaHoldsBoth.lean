/-
  The walks of FirstBad and HoldsBoth.
-/
import Derived.Test.YtnldiakjmhfodaaHolds
namespace Go.Proofs.Ytnldiakjmhfodaa
open Go.RowKit

def allH (l : List Tk) (n : Nat) : Bool := (List.range n).all (holdsAt l)
theorem allH_iff {l : List Tk} {n : Nat} : allH l n = true ↔ ∀ k, k < n → holdsAt l k = true := by simp [allH]
theorem allH_succ {l : List Tk} {n : Nat} (h : allH l n = true) (hk : holdsAt l n = true) : allH l (n + 1) = true := by
  rw [allH_iff] at h ⊢
  intro k h1
  by_cases e : k = n
  · subst e; exact hk
  · exact h k (by omega)
theorem allH_bad {l : List Tk} {n k : Nat} (hk : k < n) (h : holdsAt l k = false) : allH l n = false := by
  cases e : allH l n with
  | false => rfl
  | true => rw [allH_iff.1 e k hk] at h; cases h
theorem hldBoth_no {l : List Tk} (h : setVld l = false) : hldBoth l = false := by simp [hldBoth, h]
theorem hldBoth_yes {l : List Tk} (h : setVld l = true) : hldBoth l = allH l l.length := by simp [hldBoth, allH, h]

theorem impl_FirstBad (A : Option Addr) (l : List Tk) (c : Nat) (w : World) (h : TS w A l) (hlc : l.length ≤ c) :
    Calls Try.prog 135 #[.slice A l.length c] w fun e w' => (∃ r : Int, e = .returned (.tuple #[.int .i64 r, .bool (setVld l && !allH l l.length)])) ∧ Below w.heap.size w w' := by
  cases hS : setVld l with
  | false =>
    go_enter Try.func135, Try.ntmps135
    go_wp2_with fail
    refine (impl_SetValid A l c _ h).mono ?_
    rw [hS]
    rintro e w1 ⟨rfl, b1⟩
    go_wp2_with fail
    go_ret2
    exact ⟨⟨0, rfl⟩, b1⟩
  | true =>
    have hl5 := (setVld_all hS).1
    have Hs := Lib.hid hS
    go_enter Try.func135, Try.ntmps135
    go_wp2_with fail
    refine (impl_SetValid A l c _ h).mono ?_
    rw [hS]
    clear hS
    rintro e w1 ⟨rfl, b1⟩
    go_wp2_with fail
    go_loopw [10] (fun i wr => ∃ k : Nat, k ≤ l.length ∧ i = .int .i64 (k : Int) ∧ Hid (allH l k = true) ∧ Below w.heap.size w wr) (fun i _ => l.length - (intOf i).toNat)
    case atStart => exact ⟨0, by omega, rfl, rfl, b1⟩
    case round =>
      obtain ⟨k, hk, rfl, hall, hb⟩ := hrel
      by_cases hlt : k < l.length
      · have hx := Lib.hid (holdsX_nat Hs.out hlt)
        cases hh : holdsAt l k with
        | false =>
          have hbad := Lib.hid (allH_bad hlt hh)
          have Hh := Lib.hid hh
          clear hh
          go_wp2_with fail
          refine (impl_holds A l c k _ (h.keep hb) hlc).mono ?_
          rw [hx.out, Hh.out]
          rintro e w2 ⟨rfl, b2⟩
          go_wp2_with fail
          go_ret2
          exact ⟨⟨(k : Int), by rw [hbad.out]; rfl⟩, bthru hb b2⟩
        | true =>
          have hgood := Lib.hid (allH_succ hall.out hh)
          have Hh := Lib.hid hh
          clear hh
          go_wp2_with fail
          refine (impl_holds A l c k _ (h.keep hb) hlc).mono ?_
          rw [hx.out, Hh.out]
          rintro e w2 ⟨rfl, b2⟩
          go_wp2_with fail
          go_roundw
          case rel => exact ⟨k + 1, by omega, by go_num, hgood, bthru hb b2⟩
          case measure => simp [intOf]; omega
      · have hk' : Hid (k = l.length) := show k = l.length by omega
        go_wp2_with fail
        go_ret2
        have ha := hall.out
        rw [hk'.out] at ha
        exact ⟨⟨0, by rw [ha]; rfl⟩, hb⟩

theorem impl_HoldsBoth (A : Option Addr) (l : List Tk) (c : Nat) (w : World) (h : TS w A l) (hlc : l.length ≤ c) :
    Calls Try.prog 99 #[.slice A l.length c] w fun e w' => e = .returned (.bool (hldBoth l)) ∧ Below w.heap.size w w' := by
  cases hS : setVld l with
  | false =>
    have Hf := Lib.hid (hldBoth_no hS)
    go_enter Try.func99, Try.ntmps99
    go_wp2_with fail
    refine (impl_FirstBad A l c _ h hlc).mono ?_
    rintro e w1 ⟨⟨r, rfl⟩, b1⟩
    go_wp2_with fail
    refine (impl_SetValid A l c _ (h.keep b1)).mono ?_
    rw [hS]
    rintro e w2 ⟨rfl, b2⟩
    go_wp2_with fail
    go_ret
    exact ⟨by rw [Hf.out]; rfl, bthru b1 b2⟩
  | true =>
    have Hf := Lib.hid (hldBoth_yes hS)
    go_enter Try.func99, Try.ntmps99
    go_wp2_with fail
    refine (impl_FirstBad A l c _ h hlc).mono ?_
    rw [hS]
    generalize allH l l.length = y at *
    simp only [Bool.true_and]
    rintro e w1 ⟨⟨r, rfl⟩, b1⟩
    go_wp2_with fail
    refine (impl_SetValid A l c _ (h.keep b1)).mono ?_
    rw [hS]
    rintro e w2 ⟨rfl, b2⟩
    go_wp2_with fail
    go_ret
    exact ⟨by rw [Hf.out]; simp, bthru b1 b2⟩

theorem spec_HoldsBoth (A : Option Addr) (l : List Tk) (c : Nat) (w : World) (h : TS w A l) (hm : l.length ≤ maxLen) :
    Calls Try.prog 104 #[.slice A l.length c] w fun e w' => e = .returned (.bool (hldBoth l)) ∧ Below w.heap.size w w' := by
  cases hS : setVld l with
  | false =>
    have Hf := Lib.hid (hldBoth_no hS)
    have hne : 0 < l.length := by
      cases l with
      | nil => simp [setVld] at hS
      | cons => simp
    go_enter Try.func104, Try.ntmps104
    go_wp2_with fail
    go_loopw [3] (fun i wr => i = .int .i64 0 ∧ Below w.heap.size w wr) (fun _ _ => 0)
    case atStart => exact ⟨rfl, Below.refl _ _⟩
    case round =>
      obtain ⟨rfl, hb⟩ := hrel
      go_wp2_with fail
      refine (spec_SetValid A l c _ (h.keep hb) hm).mono ?_
      rw [hS]
      rintro e w1 ⟨rfl, b1⟩
      go_wp2_with fail
      refine (spec_SetValid A l c _ (h.keep (bthru hb b1)) hm).mono ?_
      rw [hS]
      rintro e w2 ⟨rfl, b2⟩
      go_wp2_with fail
      go_ret
      exact ⟨by rw [Hf.out]; rfl, bthru (bthru hb b1) b2⟩
  | true =>
    have hl5 := (setVld_all hS).1
    have Hs := Lib.hid hS
    have Hf := Lib.hid (hldBoth_yes hS)
    clear hS
    go_enter Try.func104, Try.ntmps104
    go_wp2_with fail
    go_loopw [3] (fun i wr => ∃ k : Nat, k ≤ l.length ∧ i = .int .i64 (k : Int) ∧ Hid (allH l k = true) ∧ Below w.heap.size w wr) (fun i _ => l.length - (intOf i).toNat)
    case atStart => exact ⟨0, by omega, rfl, rfl, Below.refl _ _⟩
    case round =>
      obtain ⟨k, hk, rfl, hall, hb⟩ := hrel
      by_cases hlt : k < l.length
      · cases hh : holdsAt l k with
        | false =>
          have hbad := Lib.hid (allH_bad hlt hh)
          have Hh := Lib.hid hh
          clear hh
          go_wp2_with fail
          refine (spec_SetValid A l c _ (h.keep hb) hm).mono ?_
          rw [Hs.out]
          rintro e w1 ⟨rfl, b1⟩
          go_wp2_with fail
          refine (spec_l3Both A l c k _ (h.keep (bthru hb b1)) Hs.out hlt).mono ?_
          rw [Hh.out]
          rintro e w2 ⟨rfl, b2⟩
          go_wp2_with fail
          go_ret
          exact ⟨by rw [Hf.out, hbad.out]; rfl, bthru (bthru hb b1) b2⟩
        | true =>
          have hgood := Lib.hid (allH_succ hall.out hh)
          have Hh := Lib.hid hh
          clear hh
          go_wp2_with fail
          refine (spec_SetValid A l c _ (h.keep hb) hm).mono ?_
          rw [Hs.out]
          rintro e w1 ⟨rfl, b1⟩
          go_wp2_with fail
          refine (spec_l3Both A l c k _ (h.keep (bthru hb b1)) Hs.out hlt).mono ?_
          rw [Hh.out]
          rintro e w2 ⟨rfl, b2⟩
          go_wp2_with fail
          go_roundw
          case rel => exact ⟨k + 1, by omega, by go_num, hgood, bthru (bthru hb b1) b2⟩
          case measure => simp [intOf]; omega
      · have hk' : Hid (k = l.length) := show k = l.length by omega
        go_wp2_with fail
        refine (spec_SetValid A l c _ (h.keep hb) hm).mono ?_
        rw [Hs.out]
        rintro e w1 ⟨rfl, b1⟩
        go_wp2_with fail
        go_ret
        have ha := hall.out
        rw [hk'.out] at ha
        exact ⟨by rw [Hf.out, ha]; rfl, bthru hb b1⟩
end Go.Proofs.Ytnldiakjmhfodaa
