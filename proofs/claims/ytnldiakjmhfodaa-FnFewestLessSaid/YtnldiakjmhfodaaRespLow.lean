/-
  The walks of ResponseLow, the reference's.
-/
import Derived.Test.YtnldiakjmhfodaaDemand
import Derived.Test.YtnldiakjmhfodaaSpecValid
namespace Go.Proofs.Ytnldiakjmhfodaa
open Go.RowKit

def optV (r : Option Int) : Value :=
  match r with
  | none => .tuple #[.int .i64 0, .bool false]
  | some x => .tuple #[.int .i64 x, .bool true]

theorem cells_tk {w : World} {b off : Nat} {l : List Tk} (hc : ∀ j u, (flat l)[j]? = some u → w.cell? ⟨b, off + j, none⟩ = some u) (k : Nat) (hk : k < l.length) :
    w.cell? ⟨b, off + k * 5, none⟩ = some (.int .i64 (tkAt l k).low) ∧ w.cell? ⟨b, off + k * 5 + 1, none⟩ = some (.int .i64 (tkAt l k).high) ∧ w.cell? ⟨b, off + k * 5 + 2, none⟩ = some (.int .i64 (tkAt l k).due) ∧
    w.cell? ⟨b, off + k * 5 + 3, none⟩ = some (.int .i64 (tkAt l k).every) ∧ w.cell? ⟨b, off + k * 5 + 4, none⟩ = some (.bool (tkAt l k).crit) := by
  rw [tkAt_eq l k hk]
  exact task_cells hc k hk

theorem plc_yes {l : List Tk} {x : Int} (h : plc l x = true) : setVld l = true ∧ l.length ≤ 5 ∧ x.toNat < l.length ∧ x = (x.toNat : Int) := by
  simp only [plc, Bool.and_eq_true, decide_eq_true_eq] at h
  exact ⟨h.1.1, (setVld_all h.1.1).1, by omega, by omega⟩

theorem impl_placed (A : Option Addr) (l : List Tk) (c : Nat) (x : Int) (w : World) (h : TS w A l) :
    Calls Try.prog 97 #[.slice A l.length c, .int .i64 x] w fun e w' => e = .returned (.bool (plc l x)) ∧ Below w.heap.size w w' := by
  cases hS : setVld l with
  | false =>
    go_enter Try.func97, Try.ntmps97
    go_wp2_with fail
    refine (impl_SetValid A l c _ h).mono ?_
    rw [hS]
    rintro e w1 ⟨rfl, b1⟩
    go_wp2_with fail
    go_ret
    exact ⟨by simp [plc, hS], b1⟩
  | true =>
    by_cases h0 : 0 ≤ x
    · have e0 : decide (0 ≤ x) = true := decide_eq_true h0
      go_enter Try.func97, Try.ntmps97
      go_wp2_with fail
      refine (impl_SetValid A l c _ h).mono ?_
      rw [hS]
      rintro e w1 ⟨rfl, b1⟩
      go_wp2_with fail
      go_ret
      exact ⟨by simp [plc, hS, h0], b1⟩
    · have e0 : decide (0 ≤ x) = false := decide_eq_false h0
      have ef : plc l x = false := by simp [plc, h0]
      have Ef := Lib.hid ef
      clear ef
      go_enter Try.func97, Try.ntmps97
      go_wp2_with fail
      refine (impl_SetValid A l c _ h).mono ?_
      rw [hS]
      rintro e w1 ⟨rfl, b1⟩
      go_wp2_with fail
      go_ret
      exact ⟨by rw [Ef.out]; simp, b1⟩

theorem spec_l3At (A : Option Addr) (l : List Tk) (c : Nat) (x : Int) (w : World) (h : TS w A l) (hm : l.length ≤ maxLen) :
    Calls Try.prog 144 #[.slice A l.length c, .int .i64 x] w fun e w' => e = .returned (.bool (plc l x)) ∧ Below w.heap.size w w' := by
  cases hS : setVld l with
  | false =>
    go_enter Try.func144, Try.ntmps144
    go_wp2_with fail
    refine (spec_SetValid A l c _ h hm).mono ?_
    rw [hS]
    rintro e w1 ⟨rfl, b1⟩
    go_wp2_with fail
    go_ret
    exact ⟨by simp [plc, hS], b1⟩
  | true =>
    by_cases h0 : 0 ≤ x
    · have e0 : decide (0 ≤ x) = true := decide_eq_true h0
      go_enter Try.func144, Try.ntmps144
      go_wp2_with fail
      refine (spec_SetValid A l c _ h hm).mono ?_
      rw [hS]
      rintro e w1 ⟨rfl, b1⟩
      go_wp2_with fail
      go_ret
      exact ⟨by simp [plc, hS, h0], b1⟩
    · have e0 : decide (0 ≤ x) = false := decide_eq_false h0
      have ef : plc l x = false := by simp [plc, h0]
      have Ef := Lib.hid ef
      clear ef
      go_enter Try.func144, Try.ntmps144
      go_wp2_with fail
      refine (spec_SetValid A l c _ h hm).mono ?_
      rw [hS]
      rintro e w1 ⟨rfl, b1⟩
      go_wp2_with fail
      go_ret
      exact ⟨by rw [Ef.out]; simp, b1⟩

theorem spec_ResponseLow (A : Option Addr) (l : List Tk) (c : Nat) (x : Int) (w : World) (h : TS w A l) (hm : l.length ≤ maxLen) :
    Calls Try.prog 152 #[.slice A l.length c, .int .i64 x] w fun e w' => e = .returned (optV (rLow l x)) ∧ Below w.heap.size w w' := by
  cases hP : plc l x with
  | false =>
    go_enter Try.func152, Try.ntmps152
    go_wp2_with fail
    refine (spec_l3At A l c x _ h hm).mono ?_
    rw [hP]
    rintro e w1 ⟨rfl, b1⟩
    go_wp2_with fail
    go_ret2
    exact ⟨by simp [rLow, hP, optV], b1⟩
  | true =>
    obtain ⟨hs, hl5, hlt, hx⟩ := plc_yes hP
    have Hs := Lib.hid hs
    have Hr : Hid (rLow l x = respLow l x.toNat) := by simp [Hid, rLow, hP]
    obtain ⟨n, rfl⟩ : ∃ n : Nat, x = (n : Int) := ⟨_, hx⟩
    rw [Int.toNat_natCast] at *
    clear hx hs
    have hv := tkAt_vld Hs.out hlt
    obtain ⟨n1, n2, n3, n4, n5⟩ := vld_nums hv
    go_enter Try.func152, Try.ntmps152
    go_wp2_with fail
    refine (spec_l3At A l c _ _ h hm).mono ?_
    rw [hP]
    clear hP
    rintro e w1 ⟨rfl, b1⟩
    obtain ⟨b, off, rfl, hbl, hc⟩ := h.keep b1 (by omega)
    obtain ⟨c0, c1, c2, c3, c4⟩ := cells_tk hc n hlt
    clear hc
    go_wp2_with fail
    clear c0 c1 c2 c3 c4
    go_loopw [6] (fun i wr => ∃ v : Int, i = .int .i64 v ∧ (tkAt l n).low ≤ v ∧ v ≤ 2020 ∧ Hid (respLow l n = risen (nextLow l n) v (tkAt l n).due) ∧ Hid (v ≤ nextLow l n v) ∧ Below w.heap.size w wr) (fun i _ => ((tkAt l n).due + 1 - intOf i).toNat)
    case atStart => 
      refine ⟨_, rfl, Int.le_refl _, by omega, rfl, ?_, b1⟩
      have := lowSum_bd Hs.out (show n ≤ l.length by omega) (show 0 ≤ (tkAt l n).low by omega) (by omega)
      simp only [Hid, nextLow]
      omega
    case round =>
      obtain ⟨v, rfl, hv1, hv2, hR, hN, hb⟩ := hrel
      obtain ⟨b', off', e', hbl', hc⟩ := h.keep hb (by omega)
      cases e'
      obtain ⟨c0, c1, c2, c3, c4⟩ := cells_tk hc n hlt
      clear hc
      by_cases hle : v ≤ (tkAt l n).due
      · go_wp2_with fail
        clear c0 c1 c2 c3 c4
        go_loopw [7, 8] (fun i j wx => ∃ k : Nat, k ≤ n ∧ j = .int .i64 (k : Int) ∧ i = .int .i64 ((tkAt l n).low + lowSum l k v) ∧ Below w.heap.size w wx) (fun _ j _ => n - (intOf j).toNat)
        case atStart => exact ⟨0, by omega, rfl, by simp [lowSum, sumTo], hb⟩
        case round =>
          obtain ⟨k, hk, rfl, rfl, hbx⟩ := hrel
          have hsm := lowSum_bd Hs.out (show k ≤ l.length by omega) (show 0 ≤ v by omega) (by omega)
          obtain ⟨s0, s1⟩ := hsm
          by_cases hkn : k < n
          · obtain ⟨b', off', e', hbl', hc⟩ := h.keep hbx (by omega)
            cases e'
            obtain ⟨c0, c1, c2, c3, c4⟩ := cells_tk hc k (by omega)
            clear hc
            have hvk := Lib.hid (tkAt_vld Hs.out (show k < l.length by omega))
            have hd := demF_bd hvk.out false (show 0 ≤ v by omega)
            obtain ⟨d0, d1⟩ := hd
            have hst : Hid (lowSum l (k + 1) v = lowSum l k v + demF (tkAt l k) v false) := rfl
            go_wp2_with fail
            refine (spec_l3Demand (tkAt l k) v false _ hvk.out (by omega) (by omega)).mono ?_
            rintro e w5 ⟨rfl, b5⟩
            clear c0 c1 c2 c3 c4
            go_wp2_with fail
            go_roundw
            case rel => exact ⟨k + 1, by omega, by go_num, by rw [hst.out]; go_num, bthru hbx b5⟩
            case measure => simp [intOf]; omega
          · have hk' : k = n := by omega
            subst hk'
            have hnx : (tkAt l k).low + lowSum l k v = nextLow l k v := rfl
            have hN' := hN.out
            rw [hnx]
            have hb2 : nextLow l k v ≤ 2020 := by rw [← hnx]; omega
            clear s0 s1
            have Hnx := Lib.hid hnx
            clear hnx
            by_cases hfix : nextLow l k v = v
            · have hfin : Hid (respLow l k = some v) := by
                have := hR.out
                rw [risen_fix hle hfix] at this
                exact this
              have hfb : (nextLow l k v == v) = true := beq_iff_eq.2 hfix
              have Hfix := Lib.hid hfix
              clear hfix hN'
              go_wp2_with fail
              go_ret2
              exact ⟨by rw [Hr.out, hfin.out]; rfl, hbx⟩
            · have hR2 : Hid (respLow l k = risen (nextLow l k) (nextLow l k v) (tkAt l k).due) := by
                rw [Hid, hR.out]
                exact risen_step hle (by omega) fun a b hab => nextLow_mono Hs.out (by omega) hab
              have hN2 : Hid (nextLow l k v ≤ nextLow l k (nextLow l k v)) := nextLow_mono Hs.out (by omega) hN'
              have hfb : (nextLow l k v == v) = false := beq_eq_false_iff_ne.2 hfix
              go_wp2_with fail
              go_roundw
              case rel => exact ⟨_, rfl, by omega, hb2, hR2, hN2, hbx⟩
              case measure => simp [intOf]; omega
      · have hfin : Hid (respLow l n = none) := by
          have := hR.out
          rw [risen_over (by omega)] at this
          exact this
        go_wp2_with fail
        go_ret2
        exact ⟨by rw [Hr.out, hfin.out]; rfl, hb⟩
end Go.Proofs.Ytnldiakjmhfodaa
