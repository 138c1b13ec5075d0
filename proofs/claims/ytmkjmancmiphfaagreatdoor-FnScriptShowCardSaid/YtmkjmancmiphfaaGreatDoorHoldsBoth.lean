/-
  The walks of holds, FirstBad, HoldsBoth: the program's and the reference's.
  The walks of FirstBad and HoldsBoth.
-/
import Derived.Test.YtmkjmancmiphfaaGreatDoorRespSwI
namespace Go.Proofs.YtmkjmancmiphfaaGreatDoor
open Go.RowKit

theorem optV_shape (r : Option Int) : ∃ p, optV r = .tuple #[.int .i64 p, .bool r.isSome] := by cases r <;> exact ⟨_, rfl⟩
theorem plc_nat {l : List Tk} (hs : setVld l = true) {n : Nat} (hn : n < l.length) : plc l (n : Int) = true := by simp [plc, hs, hn]
theorem holdsX_crit {l : List Tk} {n : Nat} (hp : plc l (n : Int) = true) (hc : (tkAt l n).crit = true) : holdsX l (n : Int) = (rSw l (n : Int)).isSome := by
  simp [holdsX, hp, holdsAt, hc, rSw]
theorem holdsX_low {l : List Tk} {n : Nat} (hp : plc l (n : Int) = true) (hc : (tkAt l n).crit = false) : holdsX l (n : Int) = (rLow l (n : Int)).isSome := by
  simp [holdsX, hp, holdsAt, hc, rLow]
theorem holdsX_nat {l : List Tk} (hs : setVld l = true) {n : Nat} (hn : n < l.length) : holdsX l (n : Int) = holdsAt l n := by
  simp [holdsX, plc_nat hs hn]

theorem impl_holds (A : Option Addr) (l : List Tk) (c : Nat) (x : Int) (w : World) (h : TS w A l) (hlc : l.length ≤ c) :
    Calls Tryz.prog 226 #[.slice A l.length c, .int .i64 x] w fun e w' => e = .returned (.bool (holdsX l x)) ∧ Below w.heap.size w w' := by
  cases hP : plc l x with
  | false =>
    have hf : Hid (holdsX l x = false) := by simp [Hid, holdsX, hP]
    go_enter Tryz.func226, Tryz.ntmps226
    go_wp2_with fail
    refine (impl_placed A l c x _ h).mono ?_
    rw [hP]
    rintro e w1 ⟨rfl, b1⟩
    go_wp2_with fail
    go_ret
    exact ⟨by rw [hf.out]; rfl, b1⟩
  | true =>
    obtain ⟨hs, hl5, hlt, hx⟩ := plc_yes hP
    have Hs := Lib.hid hs
    have HP := Lib.hid hP
    obtain ⟨n, rfl⟩ : ∃ n : Nat, x = (n : Int) := ⟨_, hx⟩
    rw [Int.toNat_natCast] at *
    clear hx hs hP
    obtain ⟨p, hp⟩ := optV_shape (rSw l n)
    obtain ⟨q, hq⟩ := optV_shape (rLow l n)
    have Hp := Lib.hid hp
    have Hq := Lib.hid hq
    clear hp hq
    go_enter Tryz.func226, Tryz.ntmps226
    go_wp2_with fail
    refine (impl_placed A l c n _ h).mono ?_
    rw [HP.out]
    rintro e w1 ⟨rfl, b1⟩
    obtain ⟨b, off, rfl, hbl, hc⟩ := h.keep b1 (by omega)
    obtain ⟨c0, c1, c2, c3, c4⟩ := cells_tk hc n hlt
    clear hc
    cases hcr : (tkAt l n).crit with
    | true =>
      rw [hcr] at c4
      have hf := Lib.hid (holdsX_crit HP.out hcr)
      clear hcr
      go_wp2_with fail
      refine (impl_ResponseSwitch _ l c n _ (h.keep b1) hlc).mono ?_
      rw [Hp.out]
      rintro e w2 ⟨rfl, b2⟩
      go_wp2_with fail
      go_ret
      exact ⟨by rw [hf.out]; rfl, bthru b1 b2⟩
    | false =>
      rw [hcr] at c4
      have hf := Lib.hid (holdsX_low HP.out hcr)
      clear hcr
      go_wp2_with fail
      refine (impl_ResponseLow _ l c n _ (h.keep b1) hlc).mono ?_
      rw [Hq.out]
      rintro e w2 ⟨rfl, b2⟩
      go_wp2_with fail
      go_ret
      exact ⟨by rw [hf.out]; rfl, bthru b1 b2⟩

theorem spec_l3Low (A : Option Addr) (l : List Tk) (c : Nat) (x : Int) (w : World) (h : TS w A l) (hm : l.length ≤ maxLen) :
    Calls Tryz.prog 237 #[.slice A l.length c, .int .i64 x] w fun e w' => e = .returned (.bool (rLow l x).isSome) ∧ Below w.heap.size w w' := by
  obtain ⟨q, hq⟩ := optV_shape (rLow l x)
  have Hq := Lib.hid hq
  clear hq
  go_enter Tryz.func237, Tryz.ntmps237
  go_wp2_with fail
  refine (spec_ResponseLow _ l c x _ h hm).mono ?_
  rw [Hq.out]
  rintro e w2 ⟨rfl, b2⟩
  go_wp2_with fail
  go_ret
  exact ⟨rfl, b2⟩

theorem spec_l3Both (A : Option Addr) (l : List Tk) (c n : Nat) (w : World) (h : TS w A l) (hs : setVld l = true) (hn : n < l.length) :
    Calls Tryz.prog 200 #[.slice A l.length c, .int .i64 (n : Int)] w fun e w' => e = .returned (.bool (holdsAt l n)) ∧ Below w.heap.size w w' := by
  have hl5 := (setVld_all hs).1
  have hm : l.length ≤ maxLen := by unfold maxLen; omega
  have HP := Lib.hid (plc_nat hs hn)
  have Hx := Lib.hid (holdsX_nat hs hn)
  clear hs
  obtain ⟨p, hp⟩ := optV_shape (rSw l n)
  have Hp := Lib.hid hp
  clear hp
  obtain ⟨b, off, rfl, hbl, hc⟩ := h (by omega)
  obtain ⟨c0, c1, c2, c3, c4⟩ := cells_tk hc n hn
  clear hc
  cases hcr : (tkAt l n).crit with
  | true =>
    rw [hcr] at c4
    have hf := Lib.hid (holdsX_crit HP.out hcr)
    clear hcr
    go_enter Tryz.func200, Tryz.ntmps200
    go_wp2_with fail
    refine (spec_ResponseSwitch _ l c n _ h hm).mono ?_
    rw [Hp.out]
    rintro e w2 ⟨rfl, b2⟩
    go_wp2_with fail
    go_ret
    exact ⟨by rw [← Hx.out, hf.out]; rfl, b2⟩
  | false =>
    rw [hcr] at c4
    have hf := Lib.hid (holdsX_low HP.out hcr)
    clear hcr
    go_enter Tryz.func200, Tryz.ntmps200
    go_wp2_with fail
    refine (spec_l3Low _ l c n _ h hm).mono ?_
    rintro e w2 ⟨rfl, b2⟩
    go_wp2_with fail
    go_ret
    exact ⟨by rw [← Hx.out, hf.out]; rfl, b2⟩

def allH (l : List Tk) (n : Nat) : Bool := (List.range n).all (holdsAt l)
theorem allH_iff {l : List Tk} {n : Nat} : allH l n = true ↔ ∀ k, k < n → holdsAt l k = true := by simp [allH]
theorem allH_succ {l : List Tk} {n : Nat} (h : allH l n = true) (hk : holdsAt l n = true) : allH l (n + 1) = true := by
  rw [allH_iff] at h ⊢
  intro k h1
  by_cases e : k = n
  · subst e; exact hk
  · exact h k (by omega)
theorem allH_bad {l : List Tk} {n k : Nat} (hk : k < n) (h : holdsAt l k = false) : allH l n = false := by
  cases e : allH l n with
  | false => rfl
  | true => rw [allH_iff.1 e k hk] at h; cases h
theorem hldBoth_no {l : List Tk} (h : setVld l = false) : hldBoth l = false := by simp [hldBoth, h]
theorem hldBoth_yes {l : List Tk} (h : setVld l = true) : hldBoth l = allH l l.length := by simp [hldBoth, allH, h]

theorem impl_FirstBad (A : Option Addr) (l : List Tk) (c : Nat) (w : World) (h : TS w A l) (hlc : l.length ≤ c) :
    Calls Tryz.prog 227 #[.slice A l.length c] w fun e w' => (∃ r : Int, e = .returned (.tuple #[.int .i64 r, .bool (setVld l && !allH l l.length)])) ∧ Below w.heap.size w w' := by
  cases hS : setVld l with
  | false =>
    go_enter Tryz.func227, Tryz.ntmps227
    go_wp2_with fail
    refine (impl_SetValid A l c _ h).mono ?_
    rw [hS]
    rintro e w1 ⟨rfl, b1⟩
    go_wp2_with fail
    go_ret2
    exact ⟨⟨0, rfl⟩, b1⟩
  | true =>
    have hl5 := (setVld_all hS).1
    have Hs := Lib.hid hS
    go_enter Tryz.func227, Tryz.ntmps227
    go_wp2_with fail
    refine (impl_SetValid A l c _ h).mono ?_
    rw [hS]
    clear hS
    rintro e w1 ⟨rfl, b1⟩
    go_wp2_with fail
    go_loopw [10] (fun i wr => ∃ k : Nat, k ≤ l.length ∧ i = .int .i64 (k : Int) ∧ Hid (allH l k = true) ∧ Below w.heap.size w wr) (fun i _ => l.length - (intOf i).toNat)
    case atStart => exact ⟨0, by omega, rfl, rfl, b1⟩
    case round =>
      obtain ⟨k, hk, rfl, hall, hb⟩ := hrel
      by_cases hlt : k < l.length
      · have hx := Lib.hid (holdsX_nat Hs.out hlt)
        cases hh : holdsAt l k with
        | false =>
          have hbad := Lib.hid (allH_bad hlt hh)
          have Hh := Lib.hid hh
          clear hh
          go_wp2_with fail
          refine (impl_holds A l c k _ (h.keep hb) hlc).mono ?_
          rw [hx.out, Hh.out]
          rintro e w2 ⟨rfl, b2⟩
          go_wp2_with fail
          go_ret2
          exact ⟨⟨(k : Int), by rw [hbad.out]; rfl⟩, bthru hb b2⟩
        | true =>
          have hgood := Lib.hid (allH_succ hall.out hh)
          have Hh := Lib.hid hh
          clear hh
          go_wp2_with fail
          refine (impl_holds A l c k _ (h.keep hb) hlc).mono ?_
          rw [hx.out, Hh.out]
          rintro e w2 ⟨rfl, b2⟩
          go_wp2_with fail
          go_roundw
          case rel => exact ⟨k + 1, by omega, by go_num, hgood, bthru hb b2⟩
          case measure => simp [intOf]; omega
      · have hk' : Hid (k = l.length) := show k = l.length by omega
        go_wp2_with fail
        go_ret2
        have ha := hall.out
        rw [hk'.out] at ha
        exact ⟨⟨0, by rw [ha]; rfl⟩, hb⟩

theorem impl_HoldsBoth (A : Option Addr) (l : List Tk) (c : Nat) (w : World) (h : TS w A l) (hlc : l.length ≤ c) :
    Calls Tryz.prog 180 #[.slice A l.length c] w fun e w' => e = .returned (.bool (hldBoth l)) ∧ Below w.heap.size w w' := by
  cases hS : setVld l with
  | false =>
    have Hf := Lib.hid (hldBoth_no hS)
    go_enter Tryz.func180, Tryz.ntmps180
    go_wp2_with fail
    refine (impl_FirstBad A l c _ h hlc).mono ?_
    rintro e w1 ⟨⟨r, rfl⟩, b1⟩
    go_wp2_with fail
    refine (impl_SetValid A l c _ (h.keep b1)).mono ?_
    rw [hS]
    rintro e w2 ⟨rfl, b2⟩
    go_wp2_with fail
    go_ret
    exact ⟨by rw [Hf.out]; rfl, bthru b1 b2⟩
  | true =>
    have Hf := Lib.hid (hldBoth_yes hS)
    go_enter Tryz.func180, Tryz.ntmps180
    go_wp2_with fail
    refine (impl_FirstBad A l c _ h hlc).mono ?_
    rw [hS]
    generalize allH l l.length = y at *
    simp only [Bool.true_and]
    rintro e w1 ⟨⟨r, rfl⟩, b1⟩
    go_wp2_with fail
    refine (impl_SetValid A l c _ (h.keep b1)).mono ?_
    rw [hS]
    rintro e w2 ⟨rfl, b2⟩
    go_wp2_with fail
    go_ret
    exact ⟨by rw [Hf.out]; simp, bthru b1 b2⟩

theorem spec_HoldsBoth (A : Option Addr) (l : List Tk) (c : Nat) (w : World) (h : TS w A l) (hm : l.length ≤ maxLen) :
    Calls Tryz.prog 147 #[.slice A l.length c] w fun e w' => e = .returned (.bool (hldBoth l)) ∧ Below w.heap.size w w' := by
  cases hS : setVld l with
  | false =>
    have Hf := Lib.hid (hldBoth_no hS)
    have hne : 0 < l.length := by
      cases l with
      | nil => simp [setVld] at hS
      | cons => simp
    go_enter Tryz.func147, Tryz.ntmps147
    go_wp2_with fail
    go_loopw [3] (fun i wr => i = .int .i64 0 ∧ Below w.heap.size w wr) (fun _ _ => 0)
    case atStart => exact ⟨rfl, Below.refl _ _⟩
    case round =>
      obtain ⟨rfl, hb⟩ := hrel
      go_wp2_with fail
      refine (spec_SetValid A l c _ (h.keep hb) hm).mono ?_
      rw [hS]
      rintro e w1 ⟨rfl, b1⟩
      go_wp2_with fail
      refine (spec_SetValid A l c _ (h.keep (bthru hb b1)) hm).mono ?_
      rw [hS]
      rintro e w2 ⟨rfl, b2⟩
      go_wp2_with fail
      go_ret
      exact ⟨by rw [Hf.out]; rfl, bthru (bthru hb b1) b2⟩
  | true =>
    have hl5 := (setVld_all hS).1
    have Hs := Lib.hid hS
    have Hf := Lib.hid (hldBoth_yes hS)
    clear hS
    go_enter Tryz.func147, Tryz.ntmps147
    go_wp2_with fail
    go_loopw [3] (fun i wr => ∃ k : Nat, k ≤ l.length ∧ i = .int .i64 (k : Int) ∧ Hid (allH l k = true) ∧ Below w.heap.size w wr) (fun i _ => l.length - (intOf i).toNat)
    case atStart => exact ⟨0, by omega, rfl, rfl, Below.refl _ _⟩
    case round =>
      obtain ⟨k, hk, rfl, hall, hb⟩ := hrel
      by_cases hlt : k < l.length
      · cases hh : holdsAt l k with
        | false =>
          have hbad := Lib.hid (allH_bad hlt hh)
          have Hh := Lib.hid hh
          clear hh
          go_wp2_with fail
          refine (spec_SetValid A l c _ (h.keep hb) hm).mono ?_
          rw [Hs.out]
          rintro e w1 ⟨rfl, b1⟩
          go_wp2_with fail
          refine (spec_l3Both A l c k _ (h.keep (bthru hb b1)) Hs.out hlt).mono ?_
          rw [Hh.out]
          rintro e w2 ⟨rfl, b2⟩
          go_wp2_with fail
          go_ret
          exact ⟨by rw [Hf.out, hbad.out]; rfl, bthru (bthru hb b1) b2⟩
        | true =>
          have hgood := Lib.hid (allH_succ hall.out hh)
          have Hh := Lib.hid hh
          clear hh
          go_wp2_with fail
          refine (spec_SetValid A l c _ (h.keep hb) hm).mono ?_
          rw [Hs.out]
          rintro e w1 ⟨rfl, b1⟩
          go_wp2_with fail
          refine (spec_l3Both A l c k _ (h.keep (bthru hb b1)) Hs.out hlt).mono ?_
          rw [Hh.out]
          rintro e w2 ⟨rfl, b2⟩
          go_wp2_with fail
          go_roundw
          case rel => exact ⟨k + 1, by omega, by go_num, hgood, bthru (bthru hb b1) b2⟩
          case measure => simp [intOf]; omega
      · have hk' : Hid (k = l.length) := show k = l.length by omega
        go_wp2_with fail
        refine (spec_SetValid A l c _ (h.keep hb) hm).mono ?_
        rw [Hs.out]
        rintro e w1 ⟨rfl, b1⟩
        go_wp2_with fail
        go_ret
        have ha := hall.out
        rw [hk'.out] at ha
        exact ⟨by rw [Hf.out, ha]; rfl, bthru hb b1⟩
end Go.Proofs.YtmkjmancmiphfaaGreatDoor
