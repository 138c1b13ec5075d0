/-
  The walks of ResponseLow, the program's: the closure, rises.
-/
import Derived.Test.YtnldiakjmhfodaaRespLow
import Derived.Deep.RegionHeld3
namespace Go.Proofs.Ytnldiakjmhfodaa
open Go.RowKit

theorem impl_ResponseLow_1 (A : Option Addr) (l : List Tk) (c n L I : Nat) (v : Int) (w : World) (h : TS w A l) (hs : setVld l = true) (hn : n < l.length) (hlc : l.length ≤ c) (h0 : 0 ≤ v) (h1 : v ≤ 20)
    (hL : w.heap[L]? = some (.cells #[.slice A l.length c] 26 (0, 0))) (hI : w.heap[I]? = some (.cells #[.int .i64 (n : Int)] 3 (0, 0))) :
    Calls Try.prog 157 #[.int .i64 v, .pointer (some ⟨L, 0, none⟩), .pointer (some ⟨I, 0, none⟩)] w fun e w' => e = .returned (.int .i64 (nextLow l n v)) ∧ Below w.heap.size w w' := by
  have hl5 := (setVld_all hs).1
  have Hs := Lib.hid hs
  have HL := Lib.hid hL
  have HI := Lib.hid hI
  have l0 := cell_of_one hL
  have i0 := cell_of_one hI
  clear hL hI hs
  obtain ⟨b, off, rfl, hbl, hc⟩ := h (by omega)
  obtain ⟨c0, c1, c2, c3, c4⟩ := cells_tk hc n hn
  clear hc
  go_enter Try.func157, Try.ntmps157
  go_wp2_with fail
  clear c0 c1 c2 c3 c4
  go_loopw [5, 17] (fun i j wx => ∃ k : Nat, k ≤ n ∧ j = .int .i64 (k : Int) ∧ i = .int .i64 ((tkAt l n).low + lowSum l k v) ∧ Below w.heap.size w wx) (fun _ j _ => n - (intOf j).toNat)
  case atStart => exact ⟨0, by omega, rfl, by simp [lowSum, sumTo], Below.refl _ _⟩
  case round =>
    obtain ⟨k, hk, rfl, rfl, hbx⟩ := hrel
    have hvn := vld_nums (tkAt_vld Hs.out hn)
    have hsm := lowSum_bd Hs.out (show k ≤ l.length by omega) h0 h1
    obtain ⟨s0, s1⟩ := hsm
    obtain ⟨n1, n2, n3, n4, n5⟩ := hvn
    by_cases hkn : k < n
    · obtain ⟨b', off', e', hbl', hc⟩ := h.keep hbx (by omega)
      cases e'
      obtain ⟨c0, c1, c2, c3, c4⟩ := cells_tk hc k (by omega)
      clear hc
      have hvk := Lib.hid (tkAt_vld Hs.out (show k < l.length by omega))
      have hd := demF_bd hvk.out false h0
      obtain ⟨d0, d1⟩ := hd
      have hst : Hid (lowSum l (k + 1) v = lowSum l k v + demF (tkAt l k) v false) := rfl
      go_wp2_with fail
      refine (impl_demand (tkAt l k) v false _ hvk.out (by omega) (by omega)).mono ?_
      rintro e w5 ⟨rfl, b5⟩
      clear c0 c1 c2 c3 c4
      go_wp2_with fail
      go_roundw
      case rel => exact ⟨k + 1, by omega, by go_num, by rw [hst.out]; go_num, bthru (bal hbx _) b5⟩
      case measure => simp [intOf]; omega
    · have hk' : k = n := by omega
      subst hk'
      go_wp2_with fail
      go_ret
      exact ⟨rfl, hbx⟩

theorem impl_rises_low (A : Option Addr) (l : List Tk) (c n L I : Nat) (w : World) (h : TS w A l) (hs : setVld l = true) (hn : n < l.length) (hlc : l.length ≤ c)
    (hL : w.heap[L]? = some (.cells #[.slice A l.length c] 26 (0, 0))) (hI : w.heap[I]? = some (.cells #[.int .i64 (n : Int)] 3 (0, 0))) (hLl : L < w.heap.size) (hIl : I < w.heap.size) :
    Calls Try.prog 154 #[.int .i64 (tkAt l n).low, .int .i64 (tkAt l n).due, .func (.func 157) #[] #[.pointer (some ⟨L, 0, none⟩), .pointer (some ⟨I, 0, none⟩)]] w fun e w' => e = .returned (optV (respLow l n)) ∧ Below w.heap.size w w' := by
  have hv := tkAt_vld hs hn
  obtain ⟨n1, n2, n3, n4, n5⟩ := vld_nums hv
  have hl5 := (setVld_all hs).1
  have Hs := Lib.hid hs
  have HL := Lib.hid hL
  have HI := Lib.hid hI
  clear hL hI hs
  go_enter Try.func154, Try.ntmps154
  go_wp2_with fail
  go_loopw [8] (fun i wr => ∃ v : Int, i = .int .i64 v ∧ (tkAt l n).low ≤ v ∧ v ≤ 2020 ∧ Hid (respLow l n = risen (nextLow l n) v (tkAt l n).due) ∧ Hid (v ≤ nextLow l n v) ∧ Below w.heap.size w wr) (fun i _ => ((tkAt l n).due + 1 - intOf i).toNat)
  case atStart =>
    refine ⟨_, rfl, Int.le_refl _, by omega, rfl, ?_, Below.refl _ _⟩
    have := lowSum_bd Hs.out (show n ≤ l.length by omega) (show 0 ≤ (tkAt l n).low by omega) (by omega)
    simp only [Hid, nextLow]
    omega
  case round =>
    obtain ⟨v, rfl, hv1, hv2, hR, hN, hb⟩ := hrel
    by_cases hle : v ≤ (tkAt l n).due
    · have hsm := lowSum_bd Hs.out (show n ≤ l.length by omega) (show 0 ≤ v by omega) (by omega)
      have hnx : (tkAt l n).low + lowSum l n v = nextLow l n v := rfl
      have hN' := hN.out
      have hb2 : nextLow l n v ≤ 2020 := by rw [← hnx]; omega
      clear hsm hnx
      go_wp2_with fail
      refine (impl_ResponseLow_1 A l c n L I v _ (h.keep hb) Hs.out hn hlc (by omega) (by omega) ((hb.block _ hLl).trans HL.out) ((hb.block _ hIl).trans HI.out)).mono ?_
      rintro e w5 ⟨rfl, b5⟩
      have hbx := bthru hb b5
      by_cases hfix : nextLow l n v = v
      · have hfin : Hid (respLow l n = some v) := by
          have := hR.out
          rw [risen_fix hle hfix] at this
          exact this
        have hfb : (nextLow l n v == v) = true := beq_iff_eq.2 hfix
        have Hfix := Lib.hid hfix
        clear hfix hN'
        go_wp2_with fail
        go_ret2
        exact ⟨by rw [hfin.out]; rfl, hbx⟩
      · have hR2 : Hid (respLow l n = risen (nextLow l n) (nextLow l n v) (tkAt l n).due) := by
          rw [Hid, hR.out]
          exact risen_step hle (by omega) fun a b hab => nextLow_mono Hs.out (by omega) hab
        have hN2 : Hid (nextLow l n v ≤ nextLow l n (nextLow l n v)) := nextLow_mono Hs.out (by omega) hN'
        have hfb : (nextLow l n v == v) = false := beq_eq_false_iff_ne.2 hfix
        go_wp2_with fail
        go_roundw
        case rel => exact ⟨_, rfl, by omega, hb2, hR2, hN2, hbx⟩
        case measure => simp [intOf]; omega
    · have hfin : Hid (respLow l n = none) := by
        have := hR.out
        rw [risen_over (by omega)] at this
        exact this
      go_wp2_with fail
      go_ret2
      exact ⟨by rw [hfin.out]; rfl, hb⟩

theorem impl_ResponseLow (A : Option Addr) (l : List Tk) (c : Nat) (x : Int) (w : World) (h : TS w A l) (hlc : l.length ≤ c) :
    Calls Try.prog 151 #[.slice A l.length c, .int .i64 x] w fun e w' => e = .returned (optV (rLow l x)) ∧ Below w.heap.size w w' := by
  cases hP : plc l x with
  | false =>
    go_enter Try.func151, Try.ntmps151
    go_wp2_with fail
    refine (impl_placed A l c x _ (h.keep (bal (bal (Below.refl _ _) _) _))).mono ?_
    rw [hP]
    rintro e w1 ⟨rfl, b1⟩
    go_wp2_with fail
    go_ret2
    exact ⟨by simp [rLow, hP, optV], bthru (bal (bal (Below.refl _ _) _) _) b1⟩
  | true =>
    obtain ⟨hs, hl5, hlt, hx⟩ := plc_yes hP
    have Hs := Lib.hid hs
    have Hr : Hid (rLow l x = respLow l x.toNat) := by simp [Hid, rLow, hP]
    obtain ⟨n, rfl⟩ : ∃ n : Nat, x = (n : Int) := ⟨_, hx⟩
    rw [Int.toNat_natCast] at *
    clear hx hs
    go_enter Try.func151, Try.ntmps151
    go_wp2_with fail
    refine (impl_placed A l c _ _ (h.keep (bal (bal (Below.refl _ _) _) _))).mono ?_
    rw [hP]
    clear hP
    rintro e w1 ⟨rfl, b1⟩
    have hB1 := bthru (bal (bal (Below.refl w.heap.size w) _) _) b1
    have hz1 := b1.size
    simp only [World.size_alloc] at hz1
    obtain ⟨b, off, rfl, hbl, hc⟩ := h.keep hB1 (by omega)
    obtain ⟨c0, c1, c2, c3, c4⟩ := cells_tk hc n hlt
    clear hc
    have hL : w1.heap[w.heap.size]? = some (.cells #[.slice (some ⟨b, off, none⟩) l.length c] 26 (0, 0)) := (b1.block _ (by simp; omega)).trans ((Below.heap_alloc _ _ _ (by simp)).trans (heap_alloc_new w _))
    have hI : w1.heap[w.heap.size + 1]? = some (.cells #[.int .i64 (n : Int)] 3 (0, 0)) := (b1.block _ (by simp)).trans (by have := heap_alloc_new (w.alloc (.cells #[.slice (some ⟨b, off, none⟩) l.length c] 26 (0, 0))) (.cells #[.int .i64 (n : Int)] 3 (0, 0)); rw [World.size_alloc] at this; exact this)
    have hx1 : w.heap.size < w1.heap.size := by omega
    have hx2 : w.heap.size + 1 < w1.heap.size := by omega
    have l0 := cell_of_one hL
    have i0 := cell_of_one hI
    have HL := Lib.hid hL
    have HI := Lib.hid hI
    clear hL hI
    go_wp2_with fail
    obtain ⟨p, q, hro⟩ : ∃ p q, optV (respLow l n) = .tuple #[.int .i64 p, .bool q] := by cases respLow l n <;> exact ⟨_, _, rfl⟩
    go_region_held3 (fun w' => w'.cell? ⟨w.heap.size, 0, none⟩ = some (.slice (some ⟨b, off, none⟩) l.length c) ∧ w'.cell? ⟨w.heap.size + 1, 0, none⟩ = some (.int .i64 (n : Int)) ∧ w'.cell? ⟨b, off + n * 5, none⟩ = some (.int .i64 (tkAt l n).low) ∧ w'.cell? ⟨b, off + n * 5 + 2, none⟩ = some (.int .i64 (tkAt l n).due) ∧ Below w1.heap.size w1 w')
      ((first | exact ⟨l0, i0, c0, c2, Below.drew (Below.refl _ _)⟩ | exact ⟨(B5.cell (p := ⟨w.heap.size, 0, none⟩) hx1).trans l0, (B5.cell (p := ⟨w.heap.size + 1, 0, none⟩) hx2).trans i0, (B5.cell (p := ⟨b, off + n * 5, none⟩) hbl).trans c0, (B5.cell (p := ⟨b, off + n * 5 + 2, none⟩) hbl).trans c2, B5⟩))
      (first
        | (go_at_call 154; refine (impl_rises_low (some ⟨b, off, none⟩) l c n w.heap.size (w.heap.size + 1) _ (h.keep (Below.drew hB1)) Hs.out hlt hlc HL.out HI.out hx1 hx2).mono ?_; rintro e w5 ⟨rfl, b5⟩; have B5 : Below w1.heap.size w1 w5 := bthru (Below.drew (Below.refl _ _)) b5; rw [hro]))
    go_wp2_with fail
    go_ret2
    exact ⟨by rw [Hr.out, hro]; simp, bthru hB1 B5⟩
end Go.Proofs.Ytnldiakjmhfodaa
