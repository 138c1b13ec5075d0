/-
  l8Most, MostHigh, MostLow: the reference's.
-/
import Derived.Test.YtmlbjcjihmfcjaaGreatDoorMostI
import Derived.Test.YtmlbjcjihmfcjaaGreatDoorDrawPack
namespace Go.Proofs.YtmlbjcjihmfcjaaGreatDoor
open Go.RowKit

def bestV (r : Option Int) : Int := match r with | none => 0 | some x => x
theorem bestV_bd (g : Int → Bool) (n : Nat) : 0 ≤ bestV (topP g n) ∧ bestV (topP g n) ≤ n := by
  cases h : topP g n with
  | none => simp [bestV]
  | some k =>
    have := topP_lt h
    simp only [bestV]
    omega
theorem optV_best (g : Int → Bool) (n : Nat) : optV (topP g n) = .tuple #[.int .i64 (bestV (topP g n)), .bool (decide (0 < bestV (topP g n)))] := by
  cases h : topP g n with
  | none => rfl
  | some k =>
    have := topP_lt h
    have e : decide (0 < k) = true := by simp; omega
    show Value.tuple #[.int .i64 k, .bool true] = Value.tuple #[.int .i64 k, .bool (decide (0 < k))]
    rw [e]

set_option maxHeartbeats 2000000 in
set_option maxRecDepth 100000 in
theorem spec_l8Most_High (A : Option Addr) (l : List Tk) (c : Nat) (x p : Int) (w : World) (h : TS w A l) (hm : l.length ≤ maxLen) :
    Calls Tryz.prog 152 #[.slice A l.length c, .int .i64 x, .int .i64 p, .bool true] w fun e w' => e = .returned (optV (if plc l x && hldBy l p then mostH l x.toNat p else none)) ∧ Below w.heap.size w w' := by
  cases hP : plc l x with
  | false =>
    simp only [Bool.false_and, Bool.false_eq_true, if_false]
    go_enter Tryz.func152, Tryz.ntmps152
    go_wp2_with fail
    refine (spec_l3At A l c x _ h hm).mono ?_
    rw [hP]
    rintro e w1 ⟨rfl, b1⟩
    go_wp2_with fail
    go_ret2
    exact ⟨rfl, b1⟩
  | true =>
    obtain ⟨hs, hl5, hlt, hx⟩ := plc_yes hP
    obtain ⟨k, rfl⟩ : ∃ n : Nat, x = (n : Int) := ⟨_, hx⟩
    rw [Int.toNat_natCast] at *
    have HP := Lib.hid hP
    clear hx hP
    cases hB : hldBy l p with
    | false =>
      simp only [Bool.and_false, Bool.false_eq_true, if_false]
      clear hs
      go_enter Tryz.func152, Tryz.ntmps152
      go_wp2_with fail
      refine (spec_l3At A l c k _ h hm).mono ?_
      rw [HP.out]
      rintro e w1 ⟨rfl, b1⟩
      go_wp2_with fail
      refine (spec_HoldsBy A l c p _ (h.keep b1) hm).mono ?_
      rw [hB]
      rintro e w2 ⟨rfl, b2⟩
      go_wp2_with fail
      go_ret2
      exact ⟨rfl, bthru b1 b2⟩
    | true =>
      simp only [Bool.and_self, if_true]
      have hv := vld_nums (tkAt_vld hs hlt)
      obtain ⟨n1, n2, n3, n4, n5⟩ := hv
      have hfin := Lib.hid (mostH_due hlt hs p)
      have HB := Lib.hid hB
      clear hs hB
      obtain ⟨g, hg⟩ : ∃ g : Int → Bool, g = fun n => hldBy (setHigh l k n) p := ⟨_, rfl⟩
      have hgs : ∀ n, g n = hldBy (setHigh l k n) p := fun n => by rw [hg]
      have Hgs := Lib.hid hgs
      have hfin2 : Hid (mostH l k p = topP g (tkAt l k).due.toNat) := by rw [Hid, hfin.out, hg]
      clear hg hgs hfin
      go_enter Tryz.func152, Tryz.ntmps152
      go_wp2_with fail
      refine (spec_l3At A l c k _ h hm).mono ?_
      rw [HP.out]
      rintro e w1 ⟨rfl, b1⟩
      go_wp2_with fail
      refine (spec_HoldsBy A l c p _ (h.keep b1) hm).mono ?_
      rw [HB.out]
      rintro e w2 ⟨rfl, b2⟩
      have B2 := bthru b1 b2
      go_wp2_with fail
      go_loopw [10, 11] (fun v i wr => ∃ n : Nat, i = .int .i64 ((n : Int) + 1) ∧ v = .int .i64 (bestV (topP g n)) ∧ (n : Int) ≤ (tkAt l k).due ∧ Below w.heap.size w wr) (fun _ i _ => ((tkAt l k).due + 1 - intOf i).toNat)
      case atStart => exact ⟨0, rfl, rfl, by omega, B2⟩
      case round =>
        obtain ⟨n, rfl, rfl, hn, hb⟩ := hrel
        obtain ⟨b, off, rfl, hbl, hc⟩ := h.keep hb (by omega)
        obtain ⟨c0, c1, c2, c3, c4⟩ := cells_tk hc k hlt
        clear hc c0 c1 c3 c4
        have hlen : Hid ((setHigh l k ((n : Int) + 1)).length = l.length) := by simp [Hid, setHigh]
        by_cases hle : (n : Int) + 1 ≤ (tkAt l k).due
        · have hstep : Hid (topP g (n + 1) = if g ((n : Int) + 1) then some ((n : Int) + 1) else topP g n) := rfl
          go_wp2_with (at_builtin; refine wpList_app_tasks _ rfl _ _ rfl wr.heap.size (some ⟨wr.heap.size, 0, none⟩) [] 0 rfl (OT_blank wr _ (Nat.le_refl _)) ⟨b, off, none⟩ c l rfl (h.keep (bal hb _)) (by simp) (by omega) (by simp) ?_; intro A3 c3' w3 o3 g3 b3; rw [List.nil_append] at o3; have B3 : Below wr.heap.size wr w3 := (bal (Below.refl _ _) _).trans b3; obtain ⟨b5, rfl, hb5, hl5'⟩ := OT_addr o3 (by omega); obtain ⟨k0, k1, k2, k3, k4, kf⟩ := OT_cells' o3 k hlt; rw [← tkAt_eq l k hlt] at k0 k1 k2 k3 k4; clear c2; have hne5 : b5 ≠ w3.heap.size := Nat.ne_of_lt hl5')
          have HTK : Hid (setHigh l k ((n : Int) + 1) = l.set k (⟨(tkAt l k).low, (n : Int) + 1, (tkAt l k).due, (tkAt l k).every, (tkAt l k).crit⟩ : Tk)) := rfl
          have hO5 := OT_whole o3 k hlt (⟨(tkAt l k).low, (n : Int) + 1, (tkAt l k).due, (tkAt l k).every, (tkAt l k).crit⟩ : Tk)
          rw [← HTK.out] at hO5
          simp only at hO5
          have hO6 := OT_alloc hO5 (.cells #[.int .i64 (tkAt l k).low, .int .i64 ((n : Int) + 1), .int .i64 (tkAt l k).due, .int .i64 (tkAt l k).every, .bool (tkAt l k).crit] 73)
          have HO6 := Lib.hid hO6
          have hG6 := gb_set5row (w := w3) (b := b5) (i0 := k * 5) (i1 := k * 5 + 1) (i2 := k * 5 + 2) (i3 := k * 5 + 3) (i4 := k * 5 + 4) (.int .i64 ((⟨(tkAt l k).low, (n : Int) + 1, (tkAt l k).due, (tkAt l k).every, (tkAt l k).crit⟩ : Tk)).low) (.int .i64 ((⟨(tkAt l k).low, (n : Int) + 1, (tkAt l k).due, (tkAt l k).every, (tkAt l k).crit⟩ : Tk)).high) (.int .i64 ((⟨(tkAt l k).low, (n : Int) + 1, (tkAt l k).due, (tkAt l k).every, (tkAt l k).crit⟩ : Tk)).due) (.int .i64 ((⟨(tkAt l k).low, (n : Int) + 1, (tkAt l k).due, (tkAt l k).every, (tkAt l k).crit⟩ : Tk)).every) (.bool ((⟨(tkAt l k).low, (n : Int) + 1, (tkAt l k).due, (tkAt l k).every, (tkAt l k).crit⟩ : Tk)).crit)
          have B6 := bal (B3.trans (gb_low hG6 hb5 B3.size)) (.cells #[.int .i64 (tkAt l k).low, .int .i64 ((n : Int) + 1), .int .i64 (tkAt l k).due, .int .i64 (tkAt l k).every, .bool (tkAt l k).crit] 73)
          have K := spec_HoldsBy (some ⟨b5, 0, none⟩) (setHigh l k ((n : Int) + 1)) c3' p _ HO6.out.ts (by rw [hlen.out]; unfold maxLen; omega)
          rw [hlen.out, ← Hgs.out] at K
          clear hO5 hO6 hG6 k0 k1 k2 k3 k4 kf
          with_reducible refine K.mono ?_
          cases hgn : g ((n : Int) + 1) with
          | true =>
            have hst2 : Hid (topP g (n + 1) = some ((n : Int) + 1)) := by rw [Hid, hstep.out, hgn]; rfl
            clear hgn K
            rintro e w7 ⟨rfl, b7⟩
            go_wp2_with fail
            go_roundw
            case rel => exact ⟨n + 1, by go_num, by rw [hst2.out]; rfl, by omega, bthru hb (bthru B6 b7)⟩
            case measure => simp [intOf]; omega
          | false =>
            have hst2 : Hid (topP g (n + 1) = topP g n) := by rw [Hid, hstep.out, hgn]; rfl
            clear hgn K
            rintro e w7 ⟨rfl, b7⟩
            go_wp2_with fail
            go_roundw
            case rel => exact ⟨n + 1, by go_num, by rw [hst2.out], by omega, bthru hb (bthru B6 b7)⟩
            case measure => simp [intOf]; omega
        · have hnd : Hid (n = (tkAt l k).due.toNat) := by rw [Hid]; omega
          have hbd : 0 ≤ bestV (topP g n) ∧ bestV (topP g n) ≤ n := bestV_bd g n
          obtain ⟨bd0, bd1⟩ := hbd
          have hres : Hid (optV (mostH l k p) = .tuple #[.int .i64 (bestV (topP g n)), .bool (decide (0 < bestV (topP g n)))]) := by
            rw [Hid, hfin2.out, ← hnd.out]
            exact optV_best g n
          go_wp2_with fail
          go_ret2
          exact ⟨by rw [hres.out]; rfl, hb⟩

set_option maxHeartbeats 2000000 in
set_option maxRecDepth 100000 in
theorem spec_l8Most_Low (A : Option Addr) (l : List Tk) (c : Nat) (x p : Int) (w : World) (h : TS w A l) (hm : l.length ≤ maxLen) :
    Calls Tryz.prog 152 #[.slice A l.length c, .int .i64 x, .int .i64 p, .bool false] w fun e w' => e = .returned (optV (if plc l x && hldBy l p then mostL l x.toNat p else none)) ∧ Below w.heap.size w w' := by
  cases hP : plc l x with
  | false =>
    simp only [Bool.false_and, Bool.false_eq_true, if_false]
    go_enter Tryz.func152, Tryz.ntmps152
    go_wp2_with fail
    refine (spec_l3At A l c x _ h hm).mono ?_
    rw [hP]
    rintro e w1 ⟨rfl, b1⟩
    go_wp2_with fail
    go_ret2
    exact ⟨rfl, b1⟩
  | true =>
    obtain ⟨hs, hl5, hlt, hx⟩ := plc_yes hP
    obtain ⟨k, rfl⟩ : ∃ n : Nat, x = (n : Int) := ⟨_, hx⟩
    rw [Int.toNat_natCast] at *
    have HP := Lib.hid hP
    clear hx hP
    cases hB : hldBy l p with
    | false =>
      simp only [Bool.and_false, Bool.false_eq_true, if_false]
      clear hs
      go_enter Tryz.func152, Tryz.ntmps152
      go_wp2_with fail
      refine (spec_l3At A l c k _ h hm).mono ?_
      rw [HP.out]
      rintro e w1 ⟨rfl, b1⟩
      go_wp2_with fail
      refine (spec_HoldsBy A l c p _ (h.keep b1) hm).mono ?_
      rw [hB]
      rintro e w2 ⟨rfl, b2⟩
      go_wp2_with fail
      go_ret2
      exact ⟨rfl, bthru b1 b2⟩
    | true =>
      simp only [Bool.and_self, if_true]
      have hv := vld_nums (tkAt_vld hs hlt)
      obtain ⟨n1, n2, n3, n4, n5⟩ := hv
      have hfin := Lib.hid (mostL_due hlt hs p)
      have HB := Lib.hid hB
      clear hs hB
      obtain ⟨g, hg⟩ : ∃ g : Int → Bool, g = fun n => hldBy (setLow l k n) p := ⟨_, rfl⟩
      have hgs : ∀ n, g n = hldBy (setLow l k n) p := fun n => by rw [hg]
      have Hgs := Lib.hid hgs
      have hfin2 : Hid (mostL l k p = topP g (tkAt l k).due.toNat) := by rw [Hid, hfin.out, hg]
      clear hg hgs hfin
      go_enter Tryz.func152, Tryz.ntmps152
      go_wp2_with fail
      refine (spec_l3At A l c k _ h hm).mono ?_
      rw [HP.out]
      rintro e w1 ⟨rfl, b1⟩
      go_wp2_with fail
      refine (spec_HoldsBy A l c p _ (h.keep b1) hm).mono ?_
      rw [HB.out]
      rintro e w2 ⟨rfl, b2⟩
      have B2 := bthru b1 b2
      go_wp2_with fail
      go_loopw [10, 11] (fun v i wr => ∃ n : Nat, i = .int .i64 ((n : Int) + 1) ∧ v = .int .i64 (bestV (topP g n)) ∧ (n : Int) ≤ (tkAt l k).due ∧ Below w.heap.size w wr) (fun _ i _ => ((tkAt l k).due + 1 - intOf i).toNat)
      case atStart => exact ⟨0, rfl, rfl, by omega, B2⟩
      case round =>
        obtain ⟨n, rfl, rfl, hn, hb⟩ := hrel
        obtain ⟨b, off, rfl, hbl, hc⟩ := h.keep hb (by omega)
        obtain ⟨c0, c1, c2, c3, c4⟩ := cells_tk hc k hlt
        clear hc c0 c1 c3 c4
        have hlen : Hid ((setLow l k ((n : Int) + 1)).length = l.length) := by simp [Hid, setLow]
        by_cases hle : (n : Int) + 1 ≤ (tkAt l k).due
        · have hstep : Hid (topP g (n + 1) = if g ((n : Int) + 1) then some ((n : Int) + 1) else topP g n) := rfl
          cases hcr : (tkAt l k).crit with
          | true =>
            have HTK : Hid (setLow l k ((n : Int) + 1) = l.set k (⟨(n : Int) + 1, (tkAt l k).high, (tkAt l k).due, (tkAt l k).every, true⟩ : Tk)) := by simp [Hid, setLow, withLow, hcr]
            go_wp2_with (at_builtin; refine wpList_app_tasks _ rfl _ _ rfl wr.heap.size (some ⟨wr.heap.size, 0, none⟩) [] 0 rfl (OT_blank wr _ (Nat.le_refl _)) ⟨b, off, none⟩ c l rfl (h.keep (bal hb _)) (by simp) (by omega) (by simp) ?_; intro A3 c3' w3 o3 g3 b3; rw [List.nil_append] at o3; have B3 : Below wr.heap.size wr w3 := (bal (Below.refl _ _) _).trans b3; obtain ⟨b5, rfl, hb5, hl5'⟩ := OT_addr o3 (by omega); obtain ⟨k0, k1, k2, k3, k4, kf⟩ := OT_cells' o3 k hlt; rw [← tkAt_eq l k hlt] at k0 k1 k2 k3 k4; clear c2; have hne5 : b5 ≠ w3.heap.size := Nat.ne_of_lt hl5'; rw [hcr] at k4)
            clear hcr
            have hO5 := OT_whole o3 k hlt (⟨(n : Int) + 1, (tkAt l k).high, (tkAt l k).due, (tkAt l k).every, true⟩ : Tk)
            rw [← HTK.out] at hO5
            simp only at hO5
            have hO6 := OT_alloc hO5 (.cells #[.int .i64 ((n : Int) + 1), .int .i64 (tkAt l k).high, .int .i64 (tkAt l k).due, .int .i64 (tkAt l k).every, .bool true] 73)
            have HO6 := Lib.hid hO6
            have hG6 := gb_set5row (w := w3) (b := b5) (i0 := k * 5) (i1 := k * 5 + 1) (i2 := k * 5 + 2) (i3 := k * 5 + 3) (i4 := k * 5 + 4) (.int .i64 ((⟨(n : Int) + 1, (tkAt l k).high, (tkAt l k).due, (tkAt l k).every, true⟩ : Tk)).low) (.int .i64 ((⟨(n : Int) + 1, (tkAt l k).high, (tkAt l k).due, (tkAt l k).every, true⟩ : Tk)).high) (.int .i64 ((⟨(n : Int) + 1, (tkAt l k).high, (tkAt l k).due, (tkAt l k).every, true⟩ : Tk)).due) (.int .i64 ((⟨(n : Int) + 1, (tkAt l k).high, (tkAt l k).due, (tkAt l k).every, true⟩ : Tk)).every) (.bool ((⟨(n : Int) + 1, (tkAt l k).high, (tkAt l k).due, (tkAt l k).every, true⟩ : Tk)).crit)
            have B6 := bal (B3.trans (gb_low hG6 hb5 B3.size)) (.cells #[.int .i64 ((n : Int) + 1), .int .i64 (tkAt l k).high, .int .i64 (tkAt l k).due, .int .i64 (tkAt l k).every, .bool true] 73)
            have K := spec_HoldsBy (some ⟨b5, 0, none⟩) (setLow l k ((n : Int) + 1)) c3' p _ HO6.out.ts (by rw [hlen.out]; unfold maxLen; omega)
            rw [hlen.out, ← Hgs.out] at K
            clear hO5 hO6 hG6 k0 k1 k2 k3 k4 kf
            with_reducible refine K.mono ?_
            cases hgn : g ((n : Int) + 1) with
            | true =>
              have hst2 : Hid (topP g (n + 1) = some ((n : Int) + 1)) := by rw [Hid, hstep.out, hgn]; rfl
              clear hgn K
              rintro e w7 ⟨rfl, b7⟩
              go_wp2_with fail
              go_roundw
              case rel => exact ⟨n + 1, by go_num, by rw [hst2.out]; rfl, by omega, bthru hb (bthru B6 b7)⟩
              case measure => simp [intOf]; omega
            | false =>
              have hst2 : Hid (topP g (n + 1) = topP g n) := by rw [Hid, hstep.out, hgn]; rfl
              clear hgn K
              rintro e w7 ⟨rfl, b7⟩
              go_wp2_with fail
              go_roundw
              case rel => exact ⟨n + 1, by go_num, by rw [hst2.out], by omega, bthru hb (bthru B6 b7)⟩
              case measure => simp [intOf]; omega
          | false =>
            have HTK : Hid (setLow l k ((n : Int) + 1) = l.set k (⟨(n : Int) + 1, (n : Int) + 1, (tkAt l k).due, (tkAt l k).every, false⟩ : Tk)) := by simp [Hid, setLow, withLow, hcr]
            go_wp2_with (at_builtin; refine wpList_app_tasks _ rfl _ _ rfl wr.heap.size (some ⟨wr.heap.size, 0, none⟩) [] 0 rfl (OT_blank wr _ (Nat.le_refl _)) ⟨b, off, none⟩ c l rfl (h.keep (bal hb _)) (by simp) (by omega) (by simp) ?_; intro A3 c3' w3 o3 g3 b3; rw [List.nil_append] at o3; have B3 : Below wr.heap.size wr w3 := (bal (Below.refl _ _) _).trans b3; obtain ⟨b5, rfl, hb5, hl5'⟩ := OT_addr o3 (by omega); obtain ⟨k0, k1, k2, k3, k4, kf⟩ := OT_cells' o3 k hlt; rw [← tkAt_eq l k hlt] at k0 k1 k2 k3 k4; clear c2; have hne5 : b5 ≠ w3.heap.size := Nat.ne_of_lt hl5'; rw [hcr] at k4)
            clear hcr
            have hO5 := OT_whole o3 k hlt (⟨(n : Int) + 1, (n : Int) + 1, (tkAt l k).due, (tkAt l k).every, false⟩ : Tk)
            rw [← HTK.out] at hO5
            simp only at hO5
            have hO6 := OT_alloc hO5 (.cells #[.int .i64 ((n : Int) + 1), .int .i64 ((n : Int) + 1), .int .i64 (tkAt l k).due, .int .i64 (tkAt l k).every, .bool false] 73)
            have HO6 := Lib.hid hO6
            have hG6 := gb_set5row (w := w3) (b := b5) (i0 := k * 5) (i1 := k * 5 + 1) (i2 := k * 5 + 2) (i3 := k * 5 + 3) (i4 := k * 5 + 4) (.int .i64 ((⟨(n : Int) + 1, (n : Int) + 1, (tkAt l k).due, (tkAt l k).every, false⟩ : Tk)).low) (.int .i64 ((⟨(n : Int) + 1, (n : Int) + 1, (tkAt l k).due, (tkAt l k).every, false⟩ : Tk)).high) (.int .i64 ((⟨(n : Int) + 1, (n : Int) + 1, (tkAt l k).due, (tkAt l k).every, false⟩ : Tk)).due) (.int .i64 ((⟨(n : Int) + 1, (n : Int) + 1, (tkAt l k).due, (tkAt l k).every, false⟩ : Tk)).every) (.bool ((⟨(n : Int) + 1, (n : Int) + 1, (tkAt l k).due, (tkAt l k).every, false⟩ : Tk)).crit)
            have B6 := bal (B3.trans (gb_low hG6 hb5 B3.size)) (.cells #[.int .i64 ((n : Int) + 1), .int .i64 ((n : Int) + 1), .int .i64 (tkAt l k).due, .int .i64 (tkAt l k).every, .bool false] 73)
            have K := spec_HoldsBy (some ⟨b5, 0, none⟩) (setLow l k ((n : Int) + 1)) c3' p _ HO6.out.ts (by rw [hlen.out]; unfold maxLen; omega)
            rw [hlen.out, ← Hgs.out] at K
            clear hO5 hO6 hG6 k0 k1 k2 k3 k4 kf
            with_reducible refine K.mono ?_
            cases hgn : g ((n : Int) + 1) with
            | true =>
              have hst2 : Hid (topP g (n + 1) = some ((n : Int) + 1)) := by rw [Hid, hstep.out, hgn]; rfl
              clear hgn K
              rintro e w7 ⟨rfl, b7⟩
              go_wp2_with fail
              go_roundw
              case rel => exact ⟨n + 1, by go_num, by rw [hst2.out]; rfl, by omega, bthru hb (bthru B6 b7)⟩
              case measure => simp [intOf]; omega
            | false =>
              have hst2 : Hid (topP g (n + 1) = topP g n) := by rw [Hid, hstep.out, hgn]; rfl
              clear hgn K
              rintro e w7 ⟨rfl, b7⟩
              go_wp2_with fail
              go_roundw
              case rel => exact ⟨n + 1, by go_num, by rw [hst2.out], by omega, bthru hb (bthru B6 b7)⟩
              case measure => simp [intOf]; omega
        · have hnd : Hid (n = (tkAt l k).due.toNat) := by rw [Hid]; omega
          have hbd : 0 ≤ bestV (topP g n) ∧ bestV (topP g n) ≤ n := bestV_bd g n
          obtain ⟨bd0, bd1⟩ := hbd
          have hres : Hid (optV (mostL l k p) = .tuple #[.int .i64 (bestV (topP g n)), .bool (decide (0 < bestV (topP g n)))]) := by
            rw [Hid, hfin2.out, ← hnd.out]
            exact optV_best g n
          go_wp2_with fail
          go_ret2
          exact ⟨by rw [hres.out]; rfl, hb⟩

theorem spec_MostHigh (A : Option Addr) (l : List Tk) (c : Nat) (x p : Int) (w : World) (h : TS w A l) (hm : l.length ≤ maxLen) (_hlc : l.length ≤ c) :
    Calls Tryz.prog 72 #[.slice A l.length c, .int .i64 x, .int .i64 p] w fun e w' => e = .returned (optV (mostHigh l x p)) ∧ Below w.heap.size w w' := by
  cases hP : plc l x with
  | false =>
    have hf : Hid (mostHigh l x p = none) := by simp [Hid, mostHigh, hP]
    go_enter Tryz.func72, Tryz.ntmps72
    go_wp2_with fail
    refine (spec_l3At A l c x _ h hm).mono ?_
    rw [hP]
    rintro e w1 ⟨rfl, b1⟩
    go_wp2_with fail
    go_ret2
    exact ⟨by rw [hf.out]; rfl, b1⟩
  | true =>
    obtain ⟨hs, hl5, hlt, hx⟩ := plc_yes hP
    obtain ⟨n, rfl⟩ : ∃ n : Nat, x = (n : Int) := ⟨_, hx⟩
    rw [Int.toNat_natCast] at hlt
    have HP := Lib.hid hP
    clear hx hs hP
    go_enter Tryz.func72, Tryz.ntmps72
    go_wp2_with fail
    refine (spec_l3At A l c n _ h hm).mono ?_
    rw [HP.out]
    rintro e w1 ⟨rfl, b1⟩
    obtain ⟨b, off, rfl, hbl, hc⟩ := h.keep b1 (by omega)
    obtain ⟨c0, c1, c2, c3, c4⟩ := cells_tk hc n hlt
    clear hc
    cases hcr : (tkAt l n).crit with
    | false =>
      have hf : Hid (mostHigh l (n : Int) p = none) := by simp [Hid, mostHigh, hcr]
      rw [hcr] at c4
      clear hcr
      go_wp2_with fail
      go_ret2
      exact ⟨by rw [hf.out]; rfl, b1⟩
    | true =>
      have hf : Hid (mostHigh l (n : Int) p = if plc l (n : Int) && hldBy l p then mostH l (n : Int).toNat p else none) := by simp [Hid, mostHigh, hcr]
      rw [hcr] at c4
      clear hcr
      have K := fun w' hk => spec_l8Most_High (some ⟨b, off, none⟩) l c n p w' hk hm
      rw [← hf.out] at K
      obtain ⟨p1, p2, hv⟩ : ∃ p1 p2, optV (mostHigh l n p) = .tuple #[.int .i64 p1, .bool p2] := by cases mostHigh l n p <;> exact ⟨_, _, rfl⟩
      rw [hv] at K
      have HK := Lib.hid K
      have Hv := Lib.hid hv
      clear K hv
      go_wp2_with fail
      refine (HK.out _ (h.keep b1)).mono ?_
      rintro e w2 ⟨rfl, b2⟩
      go_wp2_with fail
      go_ret2
      exact ⟨by rw [Hv.out]; rfl, bthru b1 b2⟩
end Go.Proofs.YtmlbjcjihmfcjaaGreatDoor
