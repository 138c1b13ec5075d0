/-
  The walks of ResponseLow, the reference's.
  The walks of ResponseLow, the program's: the closure, rises.
  The walks of ResponseSwitch.
  The walks of ResponseSwitch, the program's.
-/
import Derived.Test.YtmkjmancmiphfaaGreatDoorDemand
import Derived.Test.YtmkjmancmiphfaaGreatDoorSpecValid
import Derived.Deep.RegionHeld3
namespace Go.Proofs.YtmkjmancmiphfaaGreatDoor
open Go.RowKit

def optV (r : Option Int) : Value :=
  match r with
  | none => .tuple #[.int .i64 0, .bool false]
  | some x => .tuple #[.int .i64 x, .bool true]

theorem cells_tk {w : World} {b off : Nat} {l : List Tk} (hc : ∀ j u, (flat l)[j]? = some u → w.cell? ⟨b, off + j, none⟩ = some u) (k : Nat) (hk : k < l.length) :
    w.cell? ⟨b, off + k * 5, none⟩ = some (.int .i64 (tkAt l k).low) ∧ w.cell? ⟨b, off + k * 5 + 1, none⟩ = some (.int .i64 (tkAt l k).high) ∧ w.cell? ⟨b, off + k * 5 + 2, none⟩ = some (.int .i64 (tkAt l k).due) ∧
    w.cell? ⟨b, off + k * 5 + 3, none⟩ = some (.int .i64 (tkAt l k).every) ∧ w.cell? ⟨b, off + k * 5 + 4, none⟩ = some (.bool (tkAt l k).crit) := by
  rw [tkAt_eq l k hk]
  exact task_cells hc k hk

theorem plc_yes {l : List Tk} {x : Int} (h : plc l x = true) : setVld l = true ∧ l.length ≤ 5 ∧ x.toNat < l.length ∧ x = (x.toNat : Int) := by
  simp only [plc, Bool.and_eq_true, decide_eq_true_eq] at h
  exact ⟨h.1.1, (setVld_all h.1.1).1, by omega, by omega⟩

theorem impl_placed (A : Option Addr) (l : List Tk) (c : Nat) (x : Int) (w : World) (h : TS w A l) :
    Calls Tryz.prog 100 #[.slice A l.length c, .int .i64 x] w fun e w' => e = .returned (.bool (plc l x)) ∧ Below w.heap.size w w' := by
  cases hS : setVld l with
  | false =>
    go_enter Tryz.func100, Tryz.ntmps100
    go_wp2_with fail
    refine (impl_SetValid A l c _ h).mono ?_
    rw [hS]
    rintro e w1 ⟨rfl, b1⟩
    go_wp2_with fail
    go_ret
    exact ⟨by simp [plc, hS], b1⟩
  | true =>
    by_cases h0 : 0 ≤ x
    · have e0 : decide (0 ≤ x) = true := decide_eq_true h0
      go_enter Tryz.func100, Tryz.ntmps100
      go_wp2_with fail
      refine (impl_SetValid A l c _ h).mono ?_
      rw [hS]
      rintro e w1 ⟨rfl, b1⟩
      go_wp2_with fail
      go_ret
      exact ⟨by simp [plc, hS, h0], b1⟩
    · have e0 : decide (0 ≤ x) = false := decide_eq_false h0
      have ef : plc l x = false := by simp [plc, h0]
      have Ef := Lib.hid ef
      clear ef
      go_enter Tryz.func100, Tryz.ntmps100
      go_wp2_with fail
      refine (impl_SetValid A l c _ h).mono ?_
      rw [hS]
      rintro e w1 ⟨rfl, b1⟩
      go_wp2_with fail
      go_ret
      exact ⟨by rw [Ef.out]; simp, b1⟩

theorem spec_l3At (A : Option Addr) (l : List Tk) (c : Nat) (x : Int) (w : World) (h : TS w A l) (hm : l.length ≤ maxLen) :
    Calls Tryz.prog 198 #[.slice A l.length c, .int .i64 x] w fun e w' => e = .returned (.bool (plc l x)) ∧ Below w.heap.size w w' := by
  cases hS : setVld l with
  | false =>
    go_enter Tryz.func198, Tryz.ntmps198
    go_wp2_with fail
    refine (spec_SetValid A l c _ h hm).mono ?_
    rw [hS]
    rintro e w1 ⟨rfl, b1⟩
    go_wp2_with fail
    go_ret
    exact ⟨by simp [plc, hS], b1⟩
  | true =>
    by_cases h0 : 0 ≤ x
    · have e0 : decide (0 ≤ x) = true := decide_eq_true h0
      go_enter Tryz.func198, Tryz.ntmps198
      go_wp2_with fail
      refine (spec_SetValid A l c _ h hm).mono ?_
      rw [hS]
      rintro e w1 ⟨rfl, b1⟩
      go_wp2_with fail
      go_ret
      exact ⟨by simp [plc, hS, h0], b1⟩
    · have e0 : decide (0 ≤ x) = false := decide_eq_false h0
      have ef : plc l x = false := by simp [plc, h0]
      have Ef := Lib.hid ef
      clear ef
      go_enter Tryz.func198, Tryz.ntmps198
      go_wp2_with fail
      refine (spec_SetValid A l c _ h hm).mono ?_
      rw [hS]
      rintro e w1 ⟨rfl, b1⟩
      go_wp2_with fail
      go_ret
      exact ⟨by rw [Ef.out]; simp, b1⟩

theorem spec_ResponseLow (A : Option Addr) (l : List Tk) (c : Nat) (x : Int) (w : World) (h : TS w A l) (hm : l.length ≤ maxLen) :
    Calls Tryz.prog 149 #[.slice A l.length c, .int .i64 x] w fun e w' => e = .returned (optV (rLow l x)) ∧ Below w.heap.size w w' := by
  cases hP : plc l x with
  | false =>
    go_enter Tryz.func149, Tryz.ntmps149
    go_wp2_with fail
    refine (spec_l3At A l c x _ h hm).mono ?_
    rw [hP]
    rintro e w1 ⟨rfl, b1⟩
    go_wp2_with fail
    go_ret2
    exact ⟨by simp [rLow, hP, optV], b1⟩
  | true =>
    obtain ⟨hs, hl5, hlt, hx⟩ := plc_yes hP
    have Hs := Lib.hid hs
    have Hr : Hid (rLow l x = respLow l x.toNat) := by simp [Hid, rLow, hP]
    obtain ⟨n, rfl⟩ : ∃ n : Nat, x = (n : Int) := ⟨_, hx⟩
    rw [Int.toNat_natCast] at *
    clear hx hs
    have hv := tkAt_vld Hs.out hlt
    obtain ⟨n1, n2, n3, n4, n5⟩ := vld_nums hv
    go_enter Tryz.func149, Tryz.ntmps149
    go_wp2_with fail
    refine (spec_l3At A l c _ _ h hm).mono ?_
    rw [hP]
    clear hP
    rintro e w1 ⟨rfl, b1⟩
    obtain ⟨b, off, rfl, hbl, hc⟩ := h.keep b1 (by omega)
    obtain ⟨c0, c1, c2, c3, c4⟩ := cells_tk hc n hlt
    clear hc
    go_wp2_with fail
    clear c0 c1 c2 c3 c4
    go_loopw [6] (fun i wr => ∃ v : Int, i = .int .i64 v ∧ (tkAt l n).low ≤ v ∧ v ≤ 2020 ∧ Hid (respLow l n = risen (nextLow l n) v (tkAt l n).due) ∧ Hid (v ≤ nextLow l n v) ∧ Below w.heap.size w wr) (fun i _ => ((tkAt l n).due + 1 - intOf i).toNat)
    case atStart => 
      refine ⟨_, rfl, Int.le_refl _, by omega, rfl, ?_, b1⟩
      have := lowSum_bd Hs.out (show n ≤ l.length by omega) (show 0 ≤ (tkAt l n).low by omega) (by omega)
      simp only [Hid, nextLow]
      omega
    case round =>
      obtain ⟨v, rfl, hv1, hv2, hR, hN, hb⟩ := hrel
      obtain ⟨b', off', e', hbl', hc⟩ := h.keep hb (by omega)
      cases e'
      obtain ⟨c0, c1, c2, c3, c4⟩ := cells_tk hc n hlt
      clear hc
      by_cases hle : v ≤ (tkAt l n).due
      · go_wp2_with fail
        clear c0 c1 c2 c3 c4
        go_loopw [7, 8] (fun i j wx => ∃ k : Nat, k ≤ n ∧ j = .int .i64 (k : Int) ∧ i = .int .i64 ((tkAt l n).low + lowSum l k v) ∧ Below w.heap.size w wx) (fun _ j _ => n - (intOf j).toNat)
        case atStart => exact ⟨0, by omega, rfl, by simp [lowSum, sumTo], hb⟩
        case round =>
          obtain ⟨k, hk, rfl, rfl, hbx⟩ := hrel
          have hsm := lowSum_bd Hs.out (show k ≤ l.length by omega) (show 0 ≤ v by omega) (by omega)
          obtain ⟨s0, s1⟩ := hsm
          by_cases hkn : k < n
          · obtain ⟨b', off', e', hbl', hc⟩ := h.keep hbx (by omega)
            cases e'
            obtain ⟨c0, c1, c2, c3, c4⟩ := cells_tk hc k (by omega)
            clear hc
            have hvk := Lib.hid (tkAt_vld Hs.out (show k < l.length by omega))
            have hd := demF_bd hvk.out false (show 0 ≤ v by omega)
            obtain ⟨d0, d1⟩ := hd
            have hst : Hid (lowSum l (k + 1) v = lowSum l k v + demF (tkAt l k) v false) := rfl
            go_wp2_with fail
            refine (spec_l3Demand (tkAt l k) v false _ hvk.out (by omega) (by omega)).mono ?_
            rintro e w5 ⟨rfl, b5⟩
            clear c0 c1 c2 c3 c4
            go_wp2_with fail
            go_roundw
            case rel => exact ⟨k + 1, by omega, by go_num, by rw [hst.out]; go_num, bthru hbx b5⟩
            case measure => simp [intOf]; omega
          · have hk' : k = n := by omega
            subst hk'
            have hnx : (tkAt l k).low + lowSum l k v = nextLow l k v := rfl
            have hN' := hN.out
            rw [hnx]
            have hb2 : nextLow l k v ≤ 2020 := by rw [← hnx]; omega
            clear s0 s1
            have Hnx := Lib.hid hnx
            clear hnx
            by_cases hfix : nextLow l k v = v
            · have hfin : Hid (respLow l k = some v) := by
                have := hR.out
                rw [risen_fix hle hfix] at this
                exact this
              have hfb : (nextLow l k v == v) = true := beq_iff_eq.2 hfix
              have Hfix := Lib.hid hfix
              clear hfix hN'
              go_wp2_with fail
              go_ret2
              exact ⟨by rw [Hr.out, hfin.out]; rfl, hbx⟩
            · have hR2 : Hid (respLow l k = risen (nextLow l k) (nextLow l k v) (tkAt l k).due) := by
                rw [Hid, hR.out]
                exact risen_step hle (by omega) fun a b hab => nextLow_mono Hs.out (by omega) hab
              have hN2 : Hid (nextLow l k v ≤ nextLow l k (nextLow l k v)) := nextLow_mono Hs.out (by omega) hN'
              have hfb : (nextLow l k v == v) = false := beq_eq_false_iff_ne.2 hfix
              go_wp2_with fail
              go_roundw
              case rel => exact ⟨_, rfl, by omega, hb2, hR2, hN2, hbx⟩
              case measure => simp [intOf]; omega
      · have hfin : Hid (respLow l n = none) := by
          have := hR.out
          rw [risen_over (by omega)] at this
          exact this
        go_wp2_with fail
        go_ret2
        exact ⟨by rw [Hr.out, hfin.out]; rfl, hb⟩

theorem impl_ResponseLow_1 (A : Option Addr) (l : List Tk) (c n L I : Nat) (v : Int) (w : World) (h : TS w A l) (hs : setVld l = true) (hn : n < l.length) (hlc : l.length ≤ c) (h0 : 0 ≤ v) (h1 : v ≤ 20)
    (hL : w.heap[L]? = some (.cells #[.slice A l.length c] 23 (0, 0))) (hI : w.heap[I]? = some (.cells #[.int .i64 (n : Int)] 3 (0, 0))) :
    Calls Tryz.prog 183 #[.int .i64 v, .pointer (some ⟨L, 0, none⟩), .pointer (some ⟨I, 0, none⟩)] w fun e w' => e = .returned (.int .i64 (nextLow l n v)) ∧ Below w.heap.size w w' := by
  have hl5 := (setVld_all hs).1
  have Hs := Lib.hid hs
  have HL := Lib.hid hL
  have HI := Lib.hid hI
  have l0 := cell_of_one hL
  have i0 := cell_of_one hI
  clear hL hI hs
  obtain ⟨b, off, rfl, hbl, hc⟩ := h (by omega)
  obtain ⟨c0, c1, c2, c3, c4⟩ := cells_tk hc n hn
  clear hc
  go_enter Tryz.func183, Tryz.ntmps183
  go_wp2_with fail
  clear c0 c1 c2 c3 c4
  go_loopw [5, 17] (fun i j wx => ∃ k : Nat, k ≤ n ∧ j = .int .i64 (k : Int) ∧ i = .int .i64 ((tkAt l n).low + lowSum l k v) ∧ Below w.heap.size w wx) (fun _ j _ => n - (intOf j).toNat)
  case atStart => exact ⟨0, by omega, rfl, by simp [lowSum, sumTo], Below.refl _ _⟩
  case round =>
    obtain ⟨k, hk, rfl, rfl, hbx⟩ := hrel
    have hvn := vld_nums (tkAt_vld Hs.out hn)
    have hsm := lowSum_bd Hs.out (show k ≤ l.length by omega) h0 h1
    obtain ⟨s0, s1⟩ := hsm
    obtain ⟨n1, n2, n3, n4, n5⟩ := hvn
    by_cases hkn : k < n
    · obtain ⟨b', off', e', hbl', hc⟩ := h.keep hbx (by omega)
      cases e'
      obtain ⟨c0, c1, c2, c3, c4⟩ := cells_tk hc k (by omega)
      clear hc
      have hvk := Lib.hid (tkAt_vld Hs.out (show k < l.length by omega))
      have hd := demF_bd hvk.out false h0
      obtain ⟨d0, d1⟩ := hd
      have hst : Hid (lowSum l (k + 1) v = lowSum l k v + demF (tkAt l k) v false) := rfl
      go_wp2_with fail
      refine (impl_demand (tkAt l k) v false _ hvk.out (by omega) (by omega)).mono ?_
      rintro e w5 ⟨rfl, b5⟩
      clear c0 c1 c2 c3 c4
      go_wp2_with fail
      go_roundw
      case rel => exact ⟨k + 1, by omega, by go_num, by rw [hst.out]; go_num, bthru (bal hbx _) b5⟩
      case measure => simp [intOf]; omega
    · have hk' : k = n := by omega
      subst hk'
      go_wp2_with fail
      go_ret
      exact ⟨rfl, hbx⟩

theorem impl_rises_low (A : Option Addr) (l : List Tk) (c n L I : Nat) (w : World) (h : TS w A l) (hs : setVld l = true) (hn : n < l.length) (hlc : l.length ≤ c)
    (hL : w.heap[L]? = some (.cells #[.slice A l.length c] 23 (0, 0))) (hI : w.heap[I]? = some (.cells #[.int .i64 (n : Int)] 3 (0, 0))) (hLl : L < w.heap.size) (hIl : I < w.heap.size) :
    Calls Tryz.prog 182 #[.int .i64 (tkAt l n).low, .int .i64 (tkAt l n).due, .func (.func 183) #[] #[.pointer (some ⟨L, 0, none⟩), .pointer (some ⟨I, 0, none⟩)]] w fun e w' => e = .returned (optV (respLow l n)) ∧ Below w.heap.size w w' := by
  have hv := tkAt_vld hs hn
  obtain ⟨n1, n2, n3, n4, n5⟩ := vld_nums hv
  have hl5 := (setVld_all hs).1
  have Hs := Lib.hid hs
  have HL := Lib.hid hL
  have HI := Lib.hid hI
  clear hL hI hs
  go_enter Tryz.func182, Tryz.ntmps182
  go_wp2_with fail
  go_loopw [8] (fun i wr => ∃ v : Int, i = .int .i64 v ∧ (tkAt l n).low ≤ v ∧ v ≤ 2020 ∧ Hid (respLow l n = risen (nextLow l n) v (tkAt l n).due) ∧ Hid (v ≤ nextLow l n v) ∧ Below w.heap.size w wr) (fun i _ => ((tkAt l n).due + 1 - intOf i).toNat)
  case atStart =>
    refine ⟨_, rfl, Int.le_refl _, by omega, rfl, ?_, Below.refl _ _⟩
    have := lowSum_bd Hs.out (show n ≤ l.length by omega) (show 0 ≤ (tkAt l n).low by omega) (by omega)
    simp only [Hid, nextLow]
    omega
  case round =>
    obtain ⟨v, rfl, hv1, hv2, hR, hN, hb⟩ := hrel
    by_cases hle : v ≤ (tkAt l n).due
    · have hsm := lowSum_bd Hs.out (show n ≤ l.length by omega) (show 0 ≤ v by omega) (by omega)
      have hnx : (tkAt l n).low + lowSum l n v = nextLow l n v := rfl
      have hN' := hN.out
      have hb2 : nextLow l n v ≤ 2020 := by rw [← hnx]; omega
      clear hsm hnx
      go_wp2_with fail
      refine (impl_ResponseLow_1 A l c n L I v _ (h.keep hb) Hs.out hn hlc (by omega) (by omega) ((hb.block _ hLl).trans HL.out) ((hb.block _ hIl).trans HI.out)).mono ?_
      rintro e w5 ⟨rfl, b5⟩
      have hbx := bthru hb b5
      by_cases hfix : nextLow l n v = v
      · have hfin : Hid (respLow l n = some v) := by
          have := hR.out
          rw [risen_fix hle hfix] at this
          exact this
        have hfb : (nextLow l n v == v) = true := beq_iff_eq.2 hfix
        have Hfix := Lib.hid hfix
        clear hfix hN'
        go_wp2_with fail
        go_ret2
        exact ⟨by rw [hfin.out]; rfl, hbx⟩
      · have hR2 : Hid (respLow l n = risen (nextLow l n) (nextLow l n v) (tkAt l n).due) := by
          rw [Hid, hR.out]
          exact risen_step hle (by omega) fun a b hab => nextLow_mono Hs.out (by omega) hab
        have hN2 : Hid (nextLow l n v ≤ nextLow l n (nextLow l n v)) := nextLow_mono Hs.out (by omega) hN'
        have hfb : (nextLow l n v == v) = false := beq_eq_false_iff_ne.2 hfix
        go_wp2_with fail
        go_roundw
        case rel => exact ⟨_, rfl, by omega, hb2, hR2, hN2, hbx⟩
        case measure => simp [intOf]; omega
    · have hfin : Hid (respLow l n = none) := by
        have := hR.out
        rw [risen_over (by omega)] at this
        exact this
      go_wp2_with fail
      go_ret2
      exact ⟨by rw [hfin.out]; rfl, hb⟩

theorem impl_ResponseLow (A : Option Addr) (l : List Tk) (c : Nat) (x : Int) (w : World) (h : TS w A l) (hlc : l.length ≤ c) :
    Calls Tryz.prog 126 #[.slice A l.length c, .int .i64 x] w fun e w' => e = .returned (optV (rLow l x)) ∧ Below w.heap.size w w' := by
  cases hP : plc l x with
  | false =>
    go_enter Tryz.func126, Tryz.ntmps126
    go_wp2_with fail
    refine (impl_placed A l c x _ (h.keep (bal (bal (Below.refl _ _) _) _))).mono ?_
    rw [hP]
    rintro e w1 ⟨rfl, b1⟩
    go_wp2_with fail
    go_ret2
    exact ⟨by simp [rLow, hP, optV], bthru (bal (bal (Below.refl _ _) _) _) b1⟩
  | true =>
    obtain ⟨hs, hl5, hlt, hx⟩ := plc_yes hP
    have Hs := Lib.hid hs
    have Hr : Hid (rLow l x = respLow l x.toNat) := by simp [Hid, rLow, hP]
    obtain ⟨n, rfl⟩ : ∃ n : Nat, x = (n : Int) := ⟨_, hx⟩
    rw [Int.toNat_natCast] at *
    clear hx hs
    go_enter Tryz.func126, Tryz.ntmps126
    go_wp2_with fail
    refine (impl_placed A l c _ _ (h.keep (bal (bal (Below.refl _ _) _) _))).mono ?_
    rw [hP]
    clear hP
    rintro e w1 ⟨rfl, b1⟩
    have hB1 := bthru (bal (bal (Below.refl w.heap.size w) _) _) b1
    have hz1 := b1.size
    simp only [World.size_alloc] at hz1
    obtain ⟨b, off, rfl, hbl, hc⟩ := h.keep hB1 (by omega)
    obtain ⟨c0, c1, c2, c3, c4⟩ := cells_tk hc n hlt
    clear hc
    have hL : w1.heap[w.heap.size]? = some (.cells #[.slice (some ⟨b, off, none⟩) l.length c] 23 (0, 0)) := (b1.block _ (by simp; omega)).trans ((Below.heap_alloc _ _ _ (by simp)).trans (heap_alloc_new w _))
    have hI : w1.heap[w.heap.size + 1]? = some (.cells #[.int .i64 (n : Int)] 3 (0, 0)) := (b1.block _ (by simp)).trans (by have := heap_alloc_new (w.alloc (.cells #[.slice (some ⟨b, off, none⟩) l.length c] 23 (0, 0))) (.cells #[.int .i64 (n : Int)] 3 (0, 0)); rw [World.size_alloc] at this; exact this)
    have hx1 : w.heap.size < w1.heap.size := by omega
    have hx2 : w.heap.size + 1 < w1.heap.size := by omega
    have l0 := cell_of_one hL
    have i0 := cell_of_one hI
    have HL := Lib.hid hL
    have HI := Lib.hid hI
    clear hL hI
    go_wp2_with fail
    obtain ⟨p, q, hro⟩ : ∃ p q, optV (respLow l n) = .tuple #[.int .i64 p, .bool q] := by cases respLow l n <;> exact ⟨_, _, rfl⟩
    go_region_held3 (fun w' => w'.cell? ⟨w.heap.size, 0, none⟩ = some (.slice (some ⟨b, off, none⟩) l.length c) ∧ w'.cell? ⟨w.heap.size + 1, 0, none⟩ = some (.int .i64 (n : Int)) ∧ w'.cell? ⟨b, off + n * 5, none⟩ = some (.int .i64 (tkAt l n).low) ∧ w'.cell? ⟨b, off + n * 5 + 2, none⟩ = some (.int .i64 (tkAt l n).due) ∧ Below w1.heap.size w1 w')
      ((first | exact ⟨l0, i0, c0, c2, Below.drew (Below.refl _ _)⟩ | exact ⟨(B5.cell (p := ⟨w.heap.size, 0, none⟩) hx1).trans l0, (B5.cell (p := ⟨w.heap.size + 1, 0, none⟩) hx2).trans i0, (B5.cell (p := ⟨b, off + n * 5, none⟩) hbl).trans c0, (B5.cell (p := ⟨b, off + n * 5 + 2, none⟩) hbl).trans c2, B5⟩))
      (first
        | (go_at_call 182; refine (impl_rises_low (some ⟨b, off, none⟩) l c n w.heap.size (w.heap.size + 1) _ (h.keep (Below.drew hB1)) Hs.out hlt hlc HL.out HI.out hx1 hx2).mono ?_; rintro e w5 ⟨rfl, b5⟩; have B5 : Below w1.heap.size w1 w5 := bthru (Below.drew (Below.refl _ _)) b5; rw [hro]))
    go_wp2_with fail
    go_ret2
    exact ⟨by rw [Hr.out, hro]; simp, bthru hB1 B5⟩

theorem mk_crit (t : Tk) (b : Bool) (h : t.crit = b) : (⟨t.low, t.high, t.due, t.every, b⟩ : Tk) = t := by subst h; rfl

theorem respLow_bd {l : List Tk} (hs : setVld l = true) {n : Nat} (hn : n < l.length) {r : Int} (h : respLow l n = some r) : (tkAt l n).low ≤ r ∧ r ≤ (tkAt l n).due := by
  have hv := vld_nums (tkAt_vld hs hn)
  have h0 := (lowSum_bd hs (show n ≤ l.length by omega) (show 0 ≤ (tkAt l n).low by omega) (by omega)).1
  have := (risen_some (fun a b hab => nextLow_mono hs (show n ≤ l.length by omega) hab) (by simp only [nextLow]; omega) r).1 h
  exact ⟨this.1, this.2.1⟩
theorem rLow_some {l : List Tk} {x low : Int} (h : rLow l x = some low) : plc l x = true ∧ respLow l x.toNat = some low := by
  unfold rLow at h
  by_cases hp : plc l x = true
  · rw [if_pos hp] at h
    exact ⟨hp, h⟩
  · rw [if_neg hp] at h
    cases h
theorem rSw_none {l : List Tk} {x : Int} (h : rLow l x = none) : rSw l x = none := by
  unfold rSw
  by_cases hp : plc l x = true
  · rw [if_pos hp]
    unfold rLow at h
    rw [if_pos hp] at h
    simp [respSw, h]
  · rw [if_neg hp]
theorem rSw_some {l : List Tk} {x low : Int} (h : rLow l x = some low) : rSw l x = if (tkAt l x.toNat).crit then risen (nextSw l low x.toNat) (tkAt l x.toNat).high (tkAt l x.toNat).due else none := by
  obtain ⟨hp, hl⟩ := rLow_some h
  unfold rSw
  rw [if_pos hp]
  simp [respSw, hl]

theorem spec_ResponseSwitch (A : Option Addr) (l : List Tk) (c : Nat) (x : Int) (w : World) (h : TS w A l) (hm : l.length ≤ maxLen) :
    Calls Tryz.prog 150 #[.slice A l.length c, .int .i64 x] w fun e w' => e = .returned (optV (rSw l x)) ∧ Below w.heap.size w w' := by
  cases hR0 : rLow l x with
  | none =>
    rw [rSw_none hR0]
    go_enter Tryz.func150, Tryz.ntmps150
    go_wp2_with fail
    refine (spec_ResponseLow A l c x _ h hm).mono ?_
    rw [hR0]
    simp only [optV]
    rintro e w1 ⟨rfl, b1⟩
    go_wp2_with fail
    go_ret2
    exact ⟨by simp [optV], b1⟩
  | some low =>
    obtain ⟨hP, hlow⟩ := rLow_some hR0
    obtain ⟨hs, hl5, hlt, hx⟩ := plc_yes hP
    have hbd := respLow_bd hs hlt hlow
    have Hs := Lib.hid hs
    have Hr := Lib.hid (rSw_some hR0)
    have HR0 := Lib.hid hR0
    clear hlow hR0
    obtain ⟨n, rfl⟩ : ∃ n : Nat, x = (n : Int) := ⟨_, hx⟩
    rw [Int.toNat_natCast] at *
    clear hx hs hP
    have hv := tkAt_vld Hs.out hlt
    obtain ⟨n1, n2, n3, n4, n5⟩ := vld_nums hv
    obtain ⟨l1, l2⟩ := hbd
    go_enter Tryz.func150, Tryz.ntmps150
    go_wp2_with fail
    refine (spec_ResponseLow A l c n _ h hm).mono ?_
    rw [HR0.out]
    simp only [optV]
    rintro e w1 ⟨rfl, b1⟩
    obtain ⟨b, off, rfl, hbl, hc⟩ := h.keep b1 (by omega)
    obtain ⟨c0, c1, c2, c3, c4⟩ := cells_tk hc n hlt
    clear hc
    cases hcr : (tkAt l n).crit with
    | false =>
      rw [hcr] at c4
      have Hr' : Hid (rSw l n = none) := by rw [Hid, Hr.out, hcr]; rfl
      go_wp2_with fail
      go_ret2
      exact ⟨by rw [Hr'.out]; rfl, b1⟩
    | true =>
      rw [hcr] at c4
      have Hr' : Hid (rSw l n = risen (nextSw l low n) (tkAt l n).high (tkAt l n).due) := by rw [Hid, Hr.out, hcr]; rfl
      clear hcr
      go_wp2_with fail
      clear c0 c1 c2 c3 c4
      go_loopw [8] (fun i wr => ∃ v : Int, i = .int .i64 v ∧ (tkAt l n).high ≤ v ∧ v ≤ 2020 ∧ Hid (rSw l n = risen (nextSw l low n) v (tkAt l n).due) ∧ Hid (v ≤ nextSw l low n v) ∧ Below w.heap.size w wr) (fun i _ => ((tkAt l n).due + 1 - intOf i).toNat)
      case atStart =>
        refine ⟨_, rfl, Int.le_refl _, by omega, Hr'.out, ?_, b1⟩
        have := swSum_bd Hs.out (show 0 ≤ low by omega) (by omega) (show n ≤ l.length by omega) (show 0 ≤ (tkAt l n).high by omega) (by omega)
        simp only [Hid, nextSw]
        omega
      case round =>
        obtain ⟨v, rfl, hv1, hv2, hR, hN, hb⟩ := hrel
        obtain ⟨b', off', e', hbl', hc⟩ := h.keep hb (by omega)
        cases e'
        obtain ⟨c0, c1, c2, c3, c4⟩ := cells_tk hc n hlt
        clear hc
        by_cases hle : v ≤ (tkAt l n).due
        · go_wp2_with fail
          clear c0 c1 c2 c3 c4
          go_loopw [9, 10] (fun i j wx => ∃ k : Nat, k ≤ n ∧ j = .int .i64 (k : Int) ∧ i = .int .i64 ((tkAt l n).high + swSum l low k v) ∧ Below w.heap.size w wx) (fun _ j _ => n - (intOf j).toNat)
          case atStart => exact ⟨0, by omega, rfl, by simp [swSum, sumTo], hb⟩
          case round =>
            obtain ⟨k, hk, rfl, rfl, hbx⟩ := hrel
            have hsm := swSum_bd Hs.out (show 0 ≤ low by omega) (by omega) (show k ≤ l.length by omega) (show 0 ≤ v by omega) (by omega)
            obtain ⟨s0, s1⟩ := hsm
            by_cases hkn : k < n
            · obtain ⟨b', off', e', hbl', hc⟩ := h.keep hbx (by omega)
              cases e'
              obtain ⟨c0, c1, c2, c3, c4⟩ := cells_tk hc k (by omega)
              clear hc
              have hvk := Lib.hid (tkAt_vld Hs.out (show k < l.length by omega))
              have hst : Hid (swSum l low (k + 1) v = swSum l low k v + swDem (tkAt l k) low v) := rfl
              cases hck : (tkAt l k).crit with
              | true =>
                have hd := demF_bd hvk.out true (show 0 ≤ v by omega)
                obtain ⟨d0, d1⟩ := hd
                have hsd : Hid (swDem (tkAt l k) low v = demF (tkAt l k) v true) := by simp [Hid, swDem, hck]
                rw [hck] at c4
                have Hck := Lib.hid hck
                clear hck
                go_wp2_with fail
                refine (spec_l3Demand ⟨(tkAt l k).low, (tkAt l k).high, (tkAt l k).due, (tkAt l k).every, true⟩ v true _ (by rw [mk_crit _ _ Hck.out]; exact hvk.out) (by omega) (by omega)).mono ?_
                rw [mk_crit _ _ Hck.out]
                rintro e w5 ⟨rfl, b5⟩
                clear c0 c1 c2 c3 c4
                go_wp2_with fail
                go_roundw
                case rel => exact ⟨k + 1, by omega, by go_num, by rw [hst.out, hsd.out]; go_num, bthru hbx b5⟩
                case measure => simp [intOf]; omega
              | false =>
                have hd := demF_bd hvk.out false (show 0 ≤ low by omega)
                obtain ⟨d0, d1⟩ := hd
                have hsd : Hid (swDem (tkAt l k) low v = demF (tkAt l k) low false) := by simp [Hid, swDem, hck]
                rw [hck] at c4
                have Hck := Lib.hid hck
                clear hck
                go_wp2_with fail
                refine (spec_l3Demand ⟨(tkAt l k).low, (tkAt l k).high, (tkAt l k).due, (tkAt l k).every, false⟩ low false _ (by rw [mk_crit _ _ Hck.out]; exact hvk.out) (by omega) (by omega)).mono ?_
                rw [mk_crit _ _ Hck.out]
                rintro e w5 ⟨rfl, b5⟩
                clear c0 c1 c2 c3 c4
                go_wp2_with fail
                go_roundw
                case rel => exact ⟨k + 1, by omega, by go_num, by rw [hst.out, hsd.out]; go_num, bthru hbx b5⟩
                case measure => simp [intOf]; omega
            · have hk' : k = n := by omega
              subst hk'
              have hnx : (tkAt l k).high + swSum l low k v = nextSw l low k v := rfl
              have hN' := hN.out
              rw [hnx]
              have hb2 : nextSw l low k v ≤ 2020 := by rw [← hnx]; omega
              clear s0 s1
              have Hnx := Lib.hid hnx
              clear hnx
              by_cases hfix : nextSw l low k v = v
              · have hfin : Hid (rSw l k = some v) := by
                  have := hR.out
                  rw [risen_fix hle hfix] at this
                  exact this
                have hfb : (nextSw l low k v == v) = true := beq_iff_eq.2 hfix
                have Hfix := Lib.hid hfix
                clear hfix hN'
                go_wp2_with fail
                go_ret2
                exact ⟨by rw [hfin.out]; rfl, hbx⟩
              · have hR2 : Hid (rSw l k = risen (nextSw l low k) (nextSw l low k v) (tkAt l k).due) := by
                  rw [Hid, hR.out]
                  exact risen_step hle (by omega) fun a b hab => nextSw_mono Hs.out low (by omega) hab
                have hN2 : Hid (nextSw l low k v ≤ nextSw l low k (nextSw l low k v)) := nextSw_mono Hs.out low (by omega) hN'
                have hfb : (nextSw l low k v == v) = false := beq_eq_false_iff_ne.2 hfix
                go_wp2_with fail
                go_roundw
                case rel => exact ⟨_, rfl, by omega, hb2, hR2, hN2, hbx⟩
                case measure => simp [intOf]; omega
        · have hfin : Hid (rSw l n = none) := by
            have := hR.out
            rw [risen_over (by omega)] at this
            exact this
          go_wp2_with fail
          go_ret2
          exact ⟨by rw [hfin.out]; rfl, hb⟩

theorem impl_ResponseSwitch_1 (A : Option Addr) (l : List Tk) (c n L I W : Nat) (v low : Int) (w : World) (h : TS w A l) (hs : setVld l = true) (hn : n < l.length) (hlc : l.length ≤ c) (h0 : 0 ≤ v) (h1 : v ≤ 20) (hl0 : 0 ≤ low) (hl1 : low ≤ 20)
    (hL : w.heap[L]? = some (.cells #[.slice A l.length c] 23 (0, 0))) (hI : w.heap[I]? = some (.cells #[.int .i64 (n : Int)] 3 (0, 0))) (hW : w.heap[W]? = some (.cells #[.int .i64 low] 3 (0, 0))) (hWl : W < w.heap.size) :
    Calls Tryz.prog 185 #[.int .i64 v, .pointer (some ⟨L, 0, none⟩), .pointer (some ⟨I, 0, none⟩), .pointer (some ⟨W, 0, none⟩)] w fun e w' => e = .returned (.int .i64 (nextSw l low n v)) ∧ Below w.heap.size w w' := by
  have hl5 := (setVld_all hs).1
  have Hs := Lib.hid hs
  have HW := Lib.hid hW
  have l0 := cell_of_one hL
  have i0 := cell_of_one hI
  clear hL hI hs hW
  obtain ⟨b, off, rfl, hbl, hc⟩ := h (by omega)
  obtain ⟨c0, c1, c2, c3, c4⟩ := cells_tk hc n hn
  clear hc
  go_enter Tryz.func185, Tryz.ntmps185
  go_wp2_with fail
  clear c0 c1 c2 c3 c4
  go_loopw [6, 18] (fun i j wx => ∃ k : Nat, k ≤ n ∧ j = .int .i64 (k : Int) ∧ i = .int .i64 ((tkAt l n).high + swSum l low k v) ∧ Below w.heap.size w wx) (fun _ j _ => n - (intOf j).toNat)
  case atStart => exact ⟨0, by omega, rfl, by simp [swSum, sumTo], Below.refl _ _⟩
  case round =>
    obtain ⟨k, hk, rfl, rfl, hbx⟩ := hrel
    have hvn := vld_nums (tkAt_vld Hs.out hn)
    have hsm := swSum_bd Hs.out hl0 hl1 (show k ≤ l.length by omega) h0 h1
    obtain ⟨s0, s1⟩ := hsm
    obtain ⟨n1, n2, n3, n4, n5⟩ := hvn
    by_cases hkn : k < n
    · obtain ⟨b', off', e', hbl', hc⟩ := h.keep hbx (by omega)
      cases e'
      obtain ⟨c0, c1, c2, c3, c4⟩ := cells_tk hc k (by omega)
      clear hc
      have hzx := hbx.size
      have hWr : W < wr.heap.size := by omega
      have hWn : W ≠ wr.heap.size := by omega
      have wc := cell_of_one ((hbx.block _ hWl).trans HW.out)
      have hvk := Lib.hid (tkAt_vld Hs.out (show k < l.length by omega))
      have hst : Hid (swSum l low (k + 1) v = swSum l low k v + swDem (tkAt l k) low v) := rfl
      cases hck : (tkAt l k).crit with
      | true =>
        have hd := demF_bd hvk.out true h0
        obtain ⟨d0, d1⟩ := hd
        have hsd : Hid (swDem (tkAt l k) low v = demF (tkAt l k) v true) := by simp [Hid, swDem, hck]
        rw [hck] at c4
        have Hck := Lib.hid hck
        clear hck
        go_wp2_with fail
        refine (impl_demand ⟨(tkAt l k).low, (tkAt l k).high, (tkAt l k).due, (tkAt l k).every, true⟩ v true _ (by rw [mk_crit _ _ Hck.out]; exact hvk.out) (by omega) (by omega)).mono ?_
        rw [mk_crit _ _ Hck.out]
        rintro e w5 ⟨rfl, b5⟩
        clear c0 c1 c2 c3 c4
        go_wp2_with fail
        go_roundw
        case rel => exact ⟨k + 1, by omega, by go_num, by rw [hst.out, hsd.out]; go_num, bthru (bal hbx _) b5⟩
        case measure => simp [intOf]; omega
      | false =>
        have hd := demF_bd hvk.out false hl0
        obtain ⟨d0, d1⟩ := hd
        have hsd : Hid (swDem (tkAt l k) low v = demF (tkAt l k) low false) := by simp [Hid, swDem, hck]
        rw [hck] at c4
        have Hck := Lib.hid hck
        clear hck
        go_wp2_with fail
        refine (impl_demand ⟨(tkAt l k).low, (tkAt l k).high, (tkAt l k).due, (tkAt l k).every, false⟩ low false _ (by rw [mk_crit _ _ Hck.out]; exact hvk.out) (by omega) (by omega)).mono ?_
        rw [mk_crit _ _ Hck.out]
        rintro e w5 ⟨rfl, b5⟩
        clear c0 c1 c2 c3 c4
        go_wp2_with fail
        go_roundw
        case rel => exact ⟨k + 1, by omega, by go_num, by rw [hst.out, hsd.out]; go_num, bthru (bal hbx _) b5⟩
        case measure => simp [intOf]; omega
    · have hk' : k = n := by omega
      subst hk'
      go_wp2_with fail
      go_ret
      exact ⟨rfl, hbx⟩

theorem impl_rises_sw (A : Option Addr) (l : List Tk) (c n L I W : Nat) (low : Int) (w : World) (h : TS w A l) (hs : setVld l = true) (hn : n < l.length) (hlc : l.length ≤ c) (hl0 : 0 ≤ low) (hl1 : low ≤ 20)
    (hL : w.heap[L]? = some (.cells #[.slice A l.length c] 23 (0, 0))) (hI : w.heap[I]? = some (.cells #[.int .i64 (n : Int)] 3 (0, 0))) (hW : w.heap[W]? = some (.cells #[.int .i64 low] 3 (0, 0))) (hLl : L < w.heap.size) (hIl : I < w.heap.size) (hWl : W < w.heap.size) :
    Calls Tryz.prog 182 #[.int .i64 (tkAt l n).high, .int .i64 (tkAt l n).due, .func (.func 185) #[] #[.pointer (some ⟨L, 0, none⟩), .pointer (some ⟨I, 0, none⟩), .pointer (some ⟨W, 0, none⟩)]] w fun e w' => e = .returned (optV (risen (nextSw l low n) (tkAt l n).high (tkAt l n).due)) ∧ Below w.heap.size w w' := by
  have hv := tkAt_vld hs hn
  obtain ⟨n1, n2, n3, n4, n5⟩ := vld_nums hv
  have hl5 := (setVld_all hs).1
  have Hs := Lib.hid hs
  have HL := Lib.hid hL
  have HI := Lib.hid hI
  have HW := Lib.hid hW
  clear hL hI hW hs
  obtain ⟨R, hRR⟩ : ∃ R, risen (nextSw l low n) (tkAt l n).high (tkAt l n).due = R := ⟨_, rfl⟩
  rw [hRR]
  have HRR := Lib.hid hRR
  clear hRR
  go_enter Tryz.func182, Tryz.ntmps182
  go_wp2_with fail
  go_loopw [8] (fun i wr => ∃ v : Int, i = .int .i64 v ∧ (tkAt l n).high ≤ v ∧ v ≤ 2020 ∧ Hid (R = risen (nextSw l low n) v (tkAt l n).due) ∧ Hid (v ≤ nextSw l low n v) ∧ Below w.heap.size w wr) (fun i _ => ((tkAt l n).due + 1 - intOf i).toNat)
  case atStart =>
    refine ⟨_, rfl, Int.le_refl _, by omega, HRR.out.symm, ?_, Below.refl _ _⟩
    have := swSum_bd Hs.out hl0 hl1 (show n ≤ l.length by omega) (show 0 ≤ (tkAt l n).high by omega) (by omega)
    simp only [Hid, nextSw]
    omega
  case round =>
    obtain ⟨v, rfl, hv1, hv2, hR, hN, hb⟩ := hrel
    by_cases hle : v ≤ (tkAt l n).due
    · have hsm := swSum_bd Hs.out hl0 hl1 (show n ≤ l.length by omega) (show 0 ≤ v by omega) (by omega)
      have hnx : (tkAt l n).high + swSum l low n v = nextSw l low n v := rfl
      have hN' := hN.out
      have hb2 : nextSw l low n v ≤ 2020 := by rw [← hnx]; omega
      clear hsm hnx
      go_wp2_with fail
      refine (impl_ResponseSwitch_1 A l c n L I W v low _ (h.keep hb) Hs.out hn hlc (by omega) (by omega) hl0 hl1 ((hb.block _ hLl).trans HL.out) ((hb.block _ hIl).trans HI.out) ((hb.block _ hWl).trans HW.out) (Nat.lt_of_lt_of_le hWl hb.size)).mono ?_
      rintro e w5 ⟨rfl, b5⟩
      have hbx := bthru hb b5
      by_cases hfix : nextSw l low n v = v
      · have hfin : Hid (R = some v) := by
          have := hR.out
          rw [risen_fix hle hfix] at this
          exact this
        have hfb : (nextSw l low n v == v) = true := beq_iff_eq.2 hfix
        have Hfix := Lib.hid hfix
        clear hfix hN'
        go_wp2_with fail
        go_ret2
        exact ⟨by rw [hfin.out]; rfl, hbx⟩
      · have hR2 : Hid (R = risen (nextSw l low n) (nextSw l low n v) (tkAt l n).due) := by
          rw [Hid, hR.out]
          exact risen_step hle (by omega) fun a b hab => nextSw_mono Hs.out low (by omega) hab
        have hN2 : Hid (nextSw l low n v ≤ nextSw l low n (nextSw l low n v)) := nextSw_mono Hs.out low (by omega) hN'
        have hfb : (nextSw l low n v == v) = false := beq_eq_false_iff_ne.2 hfix
        go_wp2_with fail
        go_roundw
        case rel => exact ⟨_, rfl, by omega, hb2, hR2, hN2, hbx⟩
        case measure => simp [intOf]; omega
    · have hfin : Hid (R = none) := by
        have := hR.out
        rw [risen_over (by omega)] at this
        exact this
      go_wp2_with fail
      go_ret2
      exact ⟨by rw [hfin.out]; rfl, hb⟩

theorem impl_ResponseSwitch (A : Option Addr) (l : List Tk) (c : Nat) (x : Int) (w : World) (h : TS w A l) (hlc : l.length ≤ c) :
    Calls Tryz.prog 127 #[.slice A l.length c, .int .i64 x] w fun e w' => e = .returned (optV (rSw l x)) ∧ Below w.heap.size w w' := by
  cases hR0 : rLow l x with
  | none =>
    rw [rSw_none hR0]
    go_enter Tryz.func127, Tryz.ntmps127
    go_wp2_with fail
    refine (impl_ResponseLow A l c x _ (h.keep (bal (bal (Below.refl _ _) _) _)) hlc).mono ?_
    rw [hR0]
    simp only [optV]
    rintro e w1 ⟨rfl, b1⟩
    go_wp2_with fail
    go_ret2
    exact ⟨by simp [optV], bal (bthru (bal (bal (Below.refl _ _) _) _) b1) _⟩
  | some low =>
    obtain ⟨hP, hlow⟩ := rLow_some hR0
    obtain ⟨hs, hl5, hlt, hx⟩ := plc_yes hP
    have hbd := respLow_bd hs hlt hlow
    have Hs := Lib.hid hs
    have Hr := Lib.hid (rSw_some hR0)
    have HR0 := Lib.hid hR0
    clear hlow hR0
    obtain ⟨n, rfl⟩ : ∃ n : Nat, x = (n : Int) := ⟨_, hx⟩
    rw [Int.toNat_natCast] at *
    clear hx hs hP
    have hv := tkAt_vld Hs.out hlt
    obtain ⟨n1, n2, n3, n4, n5⟩ := vld_nums hv
    obtain ⟨l1, l2⟩ := hbd
    go_enter Tryz.func127, Tryz.ntmps127
    go_wp2_with fail
    refine (impl_ResponseLow A l c n _ (h.keep (bal (bal (Below.refl _ _) _) _)) hlc).mono ?_
    rw [HR0.out]
    simp only [optV]
    rintro e w1 ⟨rfl, b1⟩
    have hB1 := bthru (bal (bal (Below.refl w.heap.size w) _) _) b1
    have hz1 := b1.size
    simp only [World.size_alloc] at hz1
    obtain ⟨b, off, rfl, hbl, hc⟩ := h.keep hB1 (by omega)
    obtain ⟨c0, c1, c2, c3, c4⟩ := cells_tk hc n hlt
    clear hc
    have hL : w1.heap[w.heap.size]? = some (.cells #[.slice (some ⟨b, off, none⟩) l.length c] 23 (0, 0)) := (b1.block _ (by simp; omega)).trans ((Below.heap_alloc _ _ _ (by simp)).trans (heap_alloc_new w _))
    have hI : w1.heap[w.heap.size + 1]? = some (.cells #[.int .i64 (n : Int)] 3 (0, 0)) := (b1.block _ (by simp)).trans (by have := heap_alloc_new (w.alloc (.cells #[.slice (some ⟨b, off, none⟩) l.length c] 23 (0, 0))) (.cells #[.int .i64 (n : Int)] 3 (0, 0)); rw [World.size_alloc] at this; exact this)
    have hx1 : w.heap.size < w1.heap.size := by omega
    have hx2 : w.heap.size + 1 < w1.heap.size := by omega
    have l0 := cell_of_one hL
    have i0 := cell_of_one hI
    have HL := Lib.hid hL
    have HI := Lib.hid hI
    clear hL hI
    cases hcr : (tkAt l n).crit with
    | false =>
      rw [hcr] at c4
      have Hr' : Hid (rSw l n = none) := by rw [Hid, Hr.out, hcr]; rfl
      go_wp2_with fail
      go_ret2
      exact ⟨by rw [Hr'.out]; rfl, bal hB1 _⟩
    | true =>
      rw [hcr] at c4
      have Hr' : Hid (rSw l n = risen (nextSw l low n) (tkAt l n).high (tkAt l n).due) := by rw [Hid, Hr.out, hcr]; rfl
      clear hcr
      go_wp2_with fail
      have hB2 : Below w.heap.size w (w1.alloc (.cells #[.int .i64 low] 3 (0, 0))) := bal hB1 _
      have hL2 := (Below.heap_alloc w1 (.cells #[.int .i64 low] 3 (0, 0)) _ hx1).trans HL.out
      have hI2 := (Below.heap_alloc w1 (.cells #[.int .i64 low] 3 (0, 0)) _ hx2).trans HI.out
      have hW2 := heap_alloc_new w1 (.cells #[.int .i64 low] 3 (0, 0))
      have hz2 : (w1.alloc (.cells #[.int .i64 low] 3 (0, 0))).heap.size = w1.heap.size + 1 := World.size_alloc _ _
      obtain ⟨b2, off2, e2, hbl2, hc2⟩ := h.keep hB2 (by omega)
      cases e2
      clear l0 i0 c0 c1 c2 c3 c4
      generalize World.alloc w1 _ = w2 at *
      obtain ⟨c0, c1, c2, c3, c4⟩ := cells_tk hc2 n hlt
      clear hc2
      have hy1 : w.heap.size < w2.heap.size := by omega
      have hy2 : w.heap.size + 1 < w2.heap.size := by omega
      have hy3 : w1.heap.size < w2.heap.size := by omega
      have l0 := cell_of_one hL2
      have i0 := cell_of_one hI2
      have HL2 := Lib.hid hL2
      have HI2 := Lib.hid hI2
      have HW2 := Lib.hid hW2
      have Hz2 := Lib.hid hz2
      clear hL2 hI2 hW2 hz2
      obtain ⟨p, q, hro⟩ : ∃ p q, optV (risen (nextSw l low n) (tkAt l n).high (tkAt l n).due) = .tuple #[.int .i64 p, .bool q] := by cases risen (nextSw l low n) (tkAt l n).high (tkAt l n).due <;> exact ⟨_, _, rfl⟩
      go_region_held3 (fun w' => w'.cell? ⟨w.heap.size, 0, none⟩ = some (.slice (some ⟨b, off, none⟩) l.length c) ∧ w'.cell? ⟨w.heap.size + 1, 0, none⟩ = some (.int .i64 (n : Int)) ∧ w'.cell? ⟨b, off + n * 5 + 1, none⟩ = some (.int .i64 (tkAt l n).high) ∧ w'.cell? ⟨b, off + n * 5 + 2, none⟩ = some (.int .i64 (tkAt l n).due) ∧ Below w2.heap.size w2 w')
        ((first | exact ⟨l0, i0, c1, c2, Below.drew (Below.refl _ _)⟩ | exact ⟨(B5.cell (p := ⟨w.heap.size, 0, none⟩) hy1).trans l0, (B5.cell (p := ⟨w.heap.size + 1, 0, none⟩) hy2).trans i0, (B5.cell (p := ⟨b, off + n * 5 + 1, none⟩) hbl2).trans c1, (B5.cell (p := ⟨b, off + n * 5 + 2, none⟩) hbl2).trans c2, B5⟩))
        (first
          | (go_at_call 182; refine (impl_rises_sw (some ⟨b, off, none⟩) l c n w.heap.size (w.heap.size + 1) w1.heap.size low _ (h.keep (Below.drew hB2)) Hs.out hlt hlc (by omega) (by omega) HL2.out HI2.out HW2.out hy1 hy2 hy3).mono ?_; rintro e w5 ⟨rfl, b5⟩; have B5 : Below w2.heap.size w2 w5 := bthru (Below.drew (Below.refl _ _)) b5; rw [hro]))
      go_wp2_with fail
      go_ret2
      exact ⟨by rw [Hr'.out, hro]; simp, bthru hB2 B5⟩
end Go.Proofs.YtmkjmancmiphfaaGreatDoor
