/-
  The walks of ResponseSwitch.
-/
import Derived.Test.YtnldiakjmhfodaaRespLowI
namespace Go.Proofs.Ytnldiakjmhfodaa
open Go.RowKit

theorem mk_crit (t : Tk) (b : Bool) (h : t.crit = b) : (⟨t.low, t.high, t.due, t.every, b⟩ : Tk) = t := by subst h; rfl

theorem respLow_bd {l : List Tk} (hs : setVld l = true) {n : Nat} (hn : n < l.length) {r : Int} (h : respLow l n = some r) : (tkAt l n).low ≤ r ∧ r ≤ (tkAt l n).due := by
  have hv := vld_nums (tkAt_vld hs hn)
  have h0 := (lowSum_bd hs (show n ≤ l.length by omega) (show 0 ≤ (tkAt l n).low by omega) (by omega)).1
  have := (risen_some (fun a b hab => nextLow_mono hs (show n ≤ l.length by omega) hab) (by simp only [nextLow]; omega) r).1 h
  exact ⟨this.1, this.2.1⟩
theorem rLow_some {l : List Tk} {x low : Int} (h : rLow l x = some low) : plc l x = true ∧ respLow l x.toNat = some low := by
  unfold rLow at h
  by_cases hp : plc l x = true
  · rw [if_pos hp] at h
    exact ⟨hp, h⟩
  · rw [if_neg hp] at h
    cases h
theorem rSw_none {l : List Tk} {x : Int} (h : rLow l x = none) : rSw l x = none := by
  unfold rSw
  by_cases hp : plc l x = true
  · rw [if_pos hp]
    unfold rLow at h
    rw [if_pos hp] at h
    simp [respSw, h]
  · rw [if_neg hp]
theorem rSw_some {l : List Tk} {x low : Int} (h : rLow l x = some low) : rSw l x = if (tkAt l x.toNat).crit then risen (nextSw l low x.toNat) (tkAt l x.toNat).high (tkAt l x.toNat).due else none := by
  obtain ⟨hp, hl⟩ := rLow_some h
  unfold rSw
  rw [if_pos hp]
  simp [respSw, hl]

theorem spec_ResponseSwitch (A : Option Addr) (l : List Tk) (c : Nat) (x : Int) (w : World) (h : TS w A l) (hm : l.length ≤ maxLen) :
    Calls Try.prog 149 #[.slice A l.length c, .int .i64 x] w fun e w' => e = .returned (optV (rSw l x)) ∧ Below w.heap.size w w' := by
  cases hR0 : rLow l x with
  | none =>
    rw [rSw_none hR0]
    go_enter Try.func149, Try.ntmps149
    go_wp2_with fail
    refine (spec_ResponseLow A l c x _ h hm).mono ?_
    rw [hR0]
    simp only [optV]
    rintro e w1 ⟨rfl, b1⟩
    go_wp2_with fail
    go_ret2
    exact ⟨by simp [optV], b1⟩
  | some low =>
    obtain ⟨hP, hlow⟩ := rLow_some hR0
    obtain ⟨hs, hl5, hlt, hx⟩ := plc_yes hP
    have hbd := respLow_bd hs hlt hlow
    have Hs := Lib.hid hs
    have Hr := Lib.hid (rSw_some hR0)
    have HR0 := Lib.hid hR0
    clear hlow hR0
    obtain ⟨n, rfl⟩ : ∃ n : Nat, x = (n : Int) := ⟨_, hx⟩
    rw [Int.toNat_natCast] at *
    clear hx hs hP
    have hv := tkAt_vld Hs.out hlt
    obtain ⟨n1, n2, n3, n4, n5⟩ := vld_nums hv
    obtain ⟨l1, l2⟩ := hbd
    go_enter Try.func149, Try.ntmps149
    go_wp2_with fail
    refine (spec_ResponseLow A l c n _ h hm).mono ?_
    rw [HR0.out]
    simp only [optV]
    rintro e w1 ⟨rfl, b1⟩
    obtain ⟨b, off, rfl, hbl, hc⟩ := h.keep b1 (by omega)
    obtain ⟨c0, c1, c2, c3, c4⟩ := cells_tk hc n hlt
    clear hc
    cases hcr : (tkAt l n).crit with
    | false =>
      rw [hcr] at c4
      have Hr' : Hid (rSw l n = none) := by rw [Hid, Hr.out, hcr]; rfl
      go_wp2_with fail
      go_ret2
      exact ⟨by rw [Hr'.out]; rfl, b1⟩
    | true =>
      rw [hcr] at c4
      have Hr' : Hid (rSw l n = risen (nextSw l low n) (tkAt l n).high (tkAt l n).due) := by rw [Hid, Hr.out, hcr]; rfl
      clear hcr
      go_wp2_with fail
      clear c0 c1 c2 c3 c4
      go_loopw [8] (fun i wr => ∃ v : Int, i = .int .i64 v ∧ (tkAt l n).high ≤ v ∧ v ≤ 2020 ∧ Hid (rSw l n = risen (nextSw l low n) v (tkAt l n).due) ∧ Hid (v ≤ nextSw l low n v) ∧ Below w.heap.size w wr) (fun i _ => ((tkAt l n).due + 1 - intOf i).toNat)
      case atStart =>
        refine ⟨_, rfl, Int.le_refl _, by omega, Hr'.out, ?_, b1⟩
        have := swSum_bd Hs.out (show 0 ≤ low by omega) (by omega) (show n ≤ l.length by omega) (show 0 ≤ (tkAt l n).high by omega) (by omega)
        simp only [Hid, nextSw]
        omega
      case round =>
        obtain ⟨v, rfl, hv1, hv2, hR, hN, hb⟩ := hrel
        obtain ⟨b', off', e', hbl', hc⟩ := h.keep hb (by omega)
        cases e'
        obtain ⟨c0, c1, c2, c3, c4⟩ := cells_tk hc n hlt
        clear hc
        by_cases hle : v ≤ (tkAt l n).due
        · go_wp2_with fail
          clear c0 c1 c2 c3 c4
          go_loopw [9, 10] (fun i j wx => ∃ k : Nat, k ≤ n ∧ j = .int .i64 (k : Int) ∧ i = .int .i64 ((tkAt l n).high + swSum l low k v) ∧ Below w.heap.size w wx) (fun _ j _ => n - (intOf j).toNat)
          case atStart => exact ⟨0, by omega, rfl, by simp [swSum, sumTo], hb⟩
          case round =>
            obtain ⟨k, hk, rfl, rfl, hbx⟩ := hrel
            have hsm := swSum_bd Hs.out (show 0 ≤ low by omega) (by omega) (show k ≤ l.length by omega) (show 0 ≤ v by omega) (by omega)
            obtain ⟨s0, s1⟩ := hsm
            by_cases hkn : k < n
            · obtain ⟨b', off', e', hbl', hc⟩ := h.keep hbx (by omega)
              cases e'
              obtain ⟨c0, c1, c2, c3, c4⟩ := cells_tk hc k (by omega)
              clear hc
              have hvk := Lib.hid (tkAt_vld Hs.out (show k < l.length by omega))
              have hst : Hid (swSum l low (k + 1) v = swSum l low k v + swDem (tkAt l k) low v) := rfl
              cases hck : (tkAt l k).crit with
              | true =>
                have hd := demF_bd hvk.out true (show 0 ≤ v by omega)
                obtain ⟨d0, d1⟩ := hd
                have hsd : Hid (swDem (tkAt l k) low v = demF (tkAt l k) v true) := by simp [Hid, swDem, hck]
                rw [hck] at c4
                have Hck := Lib.hid hck
                clear hck
                go_wp2_with fail
                refine (spec_l3Demand ⟨(tkAt l k).low, (tkAt l k).high, (tkAt l k).due, (tkAt l k).every, true⟩ v true _ (by rw [mk_crit _ _ Hck.out]; exact hvk.out) (by omega) (by omega)).mono ?_
                rw [mk_crit _ _ Hck.out]
                rintro e w5 ⟨rfl, b5⟩
                clear c0 c1 c2 c3 c4
                go_wp2_with fail
                go_roundw
                case rel => exact ⟨k + 1, by omega, by go_num, by rw [hst.out, hsd.out]; go_num, bthru hbx b5⟩
                case measure => simp [intOf]; omega
              | false =>
                have hd := demF_bd hvk.out false (show 0 ≤ low by omega)
                obtain ⟨d0, d1⟩ := hd
                have hsd : Hid (swDem (tkAt l k) low v = demF (tkAt l k) low false) := by simp [Hid, swDem, hck]
                rw [hck] at c4
                have Hck := Lib.hid hck
                clear hck
                go_wp2_with fail
                refine (spec_l3Demand ⟨(tkAt l k).low, (tkAt l k).high, (tkAt l k).due, (tkAt l k).every, false⟩ low false _ (by rw [mk_crit _ _ Hck.out]; exact hvk.out) (by omega) (by omega)).mono ?_
                rw [mk_crit _ _ Hck.out]
                rintro e w5 ⟨rfl, b5⟩
                clear c0 c1 c2 c3 c4
                go_wp2_with fail
                go_roundw
                case rel => exact ⟨k + 1, by omega, by go_num, by rw [hst.out, hsd.out]; go_num, bthru hbx b5⟩
                case measure => simp [intOf]; omega
            · have hk' : k = n := by omega
              subst hk'
              have hnx : (tkAt l k).high + swSum l low k v = nextSw l low k v := rfl
              have hN' := hN.out
              rw [hnx]
              have hb2 : nextSw l low k v ≤ 2020 := by rw [← hnx]; omega
              clear s0 s1
              have Hnx := Lib.hid hnx
              clear hnx
              by_cases hfix : nextSw l low k v = v
              · have hfin : Hid (rSw l k = some v) := by
                  have := hR.out
                  rw [risen_fix hle hfix] at this
                  exact this
                have hfb : (nextSw l low k v == v) = true := beq_iff_eq.2 hfix
                have Hfix := Lib.hid hfix
                clear hfix hN'
                go_wp2_with fail
                go_ret2
                exact ⟨by rw [hfin.out]; rfl, hbx⟩
              · have hR2 : Hid (rSw l k = risen (nextSw l low k) (nextSw l low k v) (tkAt l k).due) := by
                  rw [Hid, hR.out]
                  exact risen_step hle (by omega) fun a b hab => nextSw_mono Hs.out low (by omega) hab
                have hN2 : Hid (nextSw l low k v ≤ nextSw l low k (nextSw l low k v)) := nextSw_mono Hs.out low (by omega) hN'
                have hfb : (nextSw l low k v == v) = false := beq_eq_false_iff_ne.2 hfix
                go_wp2_with fail
                go_roundw
                case rel => exact ⟨_, rfl, by omega, hb2, hR2, hN2, hbx⟩
                case measure => simp [intOf]; omega
        · have hfin : Hid (rSw l n = none) := by
            have := hR.out
            rw [risen_over (by omega)] at this
            exact this
          go_wp2_with fail
          go_ret2
          exact ⟨by rw [hfin.out]; rfl, hb⟩
end Go.Proofs.Ytnldiakjmhfodaa
