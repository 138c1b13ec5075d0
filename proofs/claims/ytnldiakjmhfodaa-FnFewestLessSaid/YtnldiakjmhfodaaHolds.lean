/-
  The walks of holds, FirstBad, HoldsBoth: the program's and the reference's.
-/
import Derived.Test.YtnldiakjmhfodaaRespSwI
namespace Go.Proofs.Ytnldiakjmhfodaa
open Go.RowKit

theorem optV_shape (r : Option Int) : ∃ p, optV r = .tuple #[.int .i64 p, .bool r.isSome] := by cases r <;> exact ⟨_, rfl⟩
theorem plc_nat {l : List Tk} (hs : setVld l = true) {n : Nat} (hn : n < l.length) : plc l (n : Int) = true := by simp [plc, hs, hn]
theorem holdsX_crit {l : List Tk} {n : Nat} (hp : plc l (n : Int) = true) (hc : (tkAt l n).crit = true) : holdsX l (n : Int) = (rSw l (n : Int)).isSome := by
  simp [holdsX, hp, holdsAt, hc, rSw]
theorem holdsX_low {l : List Tk} {n : Nat} (hp : plc l (n : Int) = true) (hc : (tkAt l n).crit = false) : holdsX l (n : Int) = (rLow l (n : Int)).isSome := by
  simp [holdsX, hp, holdsAt, hc, rLow]
theorem holdsX_nat {l : List Tk} (hs : setVld l = true) {n : Nat} (hn : n < l.length) : holdsX l (n : Int) = holdsAt l n := by
  simp [holdsX, plc_nat hs hn]

theorem impl_holds (A : Option Addr) (l : List Tk) (c : Nat) (x : Int) (w : World) (h : TS w A l) (hlc : l.length ≤ c) :
    Calls Try.prog 146 #[.slice A l.length c, .int .i64 x] w fun e w' => e = .returned (.bool (holdsX l x)) ∧ Below w.heap.size w w' := by
  cases hP : plc l x with
  | false =>
    have hf : Hid (holdsX l x = false) := by simp [Hid, holdsX, hP]
    go_enter Try.func146, Try.ntmps146
    go_wp2_with fail
    refine (impl_placed A l c x _ h).mono ?_
    rw [hP]
    rintro e w1 ⟨rfl, b1⟩
    go_wp2_with fail
    go_ret
    exact ⟨by rw [hf.out]; rfl, b1⟩
  | true =>
    obtain ⟨hs, hl5, hlt, hx⟩ := plc_yes hP
    have Hs := Lib.hid hs
    have HP := Lib.hid hP
    obtain ⟨n, rfl⟩ : ∃ n : Nat, x = (n : Int) := ⟨_, hx⟩
    rw [Int.toNat_natCast] at *
    clear hx hs hP
    obtain ⟨p, hp⟩ := optV_shape (rSw l n)
    obtain ⟨q, hq⟩ := optV_shape (rLow l n)
    have Hp := Lib.hid hp
    have Hq := Lib.hid hq
    clear hp hq
    go_enter Try.func146, Try.ntmps146
    go_wp2_with fail
    refine (impl_placed A l c n _ h).mono ?_
    rw [HP.out]
    rintro e w1 ⟨rfl, b1⟩
    obtain ⟨b, off, rfl, hbl, hc⟩ := h.keep b1 (by omega)
    obtain ⟨c0, c1, c2, c3, c4⟩ := cells_tk hc n hlt
    clear hc
    cases hcr : (tkAt l n).crit with
    | true =>
      rw [hcr] at c4
      have hf := Lib.hid (holdsX_crit HP.out hcr)
      clear hcr
      go_wp2_with fail
      refine (impl_ResponseSwitch _ l c n _ (h.keep b1) hlc).mono ?_
      rw [Hp.out]
      rintro e w2 ⟨rfl, b2⟩
      go_wp2_with fail
      go_ret
      exact ⟨by rw [hf.out]; rfl, bthru b1 b2⟩
    | false =>
      rw [hcr] at c4
      have hf := Lib.hid (holdsX_low HP.out hcr)
      clear hcr
      go_wp2_with fail
      refine (impl_ResponseLow _ l c n _ (h.keep b1) hlc).mono ?_
      rw [Hq.out]
      rintro e w2 ⟨rfl, b2⟩
      go_wp2_with fail
      go_ret
      exact ⟨by rw [hf.out]; rfl, bthru b1 b2⟩

theorem spec_l3Low (A : Option Addr) (l : List Tk) (c : Nat) (x : Int) (w : World) (h : TS w A l) (hm : l.length ≤ maxLen) :
    Calls Try.prog 148 #[.slice A l.length c, .int .i64 x] w fun e w' => e = .returned (.bool (rLow l x).isSome) ∧ Below w.heap.size w w' := by
  obtain ⟨q, hq⟩ := optV_shape (rLow l x)
  have Hq := Lib.hid hq
  clear hq
  go_enter Try.func148, Try.ntmps148
  go_wp2_with fail
  refine (spec_ResponseLow _ l c x _ h hm).mono ?_
  rw [Hq.out]
  rintro e w2 ⟨rfl, b2⟩
  go_wp2_with fail
  go_ret
  exact ⟨rfl, b2⟩

theorem spec_l3Both (A : Option Addr) (l : List Tk) (c n : Nat) (w : World) (h : TS w A l) (hs : setVld l = true) (hn : n < l.length) :
    Calls Try.prog 136 #[.slice A l.length c, .int .i64 (n : Int)] w fun e w' => e = .returned (.bool (holdsAt l n)) ∧ Below w.heap.size w w' := by
  have hl5 := (setVld_all hs).1
  have hm : l.length ≤ maxLen := by unfold maxLen; omega
  have HP := Lib.hid (plc_nat hs hn)
  have Hx := Lib.hid (holdsX_nat hs hn)
  clear hs
  obtain ⟨p, hp⟩ := optV_shape (rSw l n)
  have Hp := Lib.hid hp
  clear hp
  obtain ⟨b, off, rfl, hbl, hc⟩ := h (by omega)
  obtain ⟨c0, c1, c2, c3, c4⟩ := cells_tk hc n hn
  clear hc
  cases hcr : (tkAt l n).crit with
  | true =>
    rw [hcr] at c4
    have hf := Lib.hid (holdsX_crit HP.out hcr)
    clear hcr
    go_enter Try.func136, Try.ntmps136
    go_wp2_with fail
    refine (spec_ResponseSwitch _ l c n _ h hm).mono ?_
    rw [Hp.out]
    rintro e w2 ⟨rfl, b2⟩
    go_wp2_with fail
    go_ret
    exact ⟨by rw [← Hx.out, hf.out]; rfl, b2⟩
  | false =>
    rw [hcr] at c4
    have hf := Lib.hid (holdsX_low HP.out hcr)
    clear hcr
    go_enter Try.func136, Try.ntmps136
    go_wp2_with fail
    refine (spec_l3Low _ l c n _ h hm).mono ?_
    rintro e w2 ⟨rfl, b2⟩
    go_wp2_with fail
    go_ret
    exact ⟨by rw [← Hx.out, hf.out]; rfl, b2⟩
end Go.Proofs.Ytnldiakjmhfodaa
