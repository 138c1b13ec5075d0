/-
  most, MostHigh, MostLow: the program's.
-/
import Derived.Test.YtmlbjcjihmfcjaaGreatDoorHoldsBy
import Derived.Test.YtmlbjcjihmfcjaaGreatDoorMostT
namespace Go.Proofs.YtmlbjcjihmfcjaaGreatDoor
open Go.RowKit

theorem gb_set1 (w : World) (b i : Nat) (u : Value) : w.grownBy (w.setCell ⟨b, i, none⟩ u) (some b) :=
  ⟨rfl, rfl, rfl, by simp [World.setCell], fun k _ hne => Below.heap_setCell w _ u k (fun e => hne (by rw [e]))⟩
theorem gb_trans' {a b c : World} {row : Option Nat} (h : a.grownBy b row) (k : b.grownBy c row) : a.grownBy c row :=
  ⟨k.os.trans h.os, k.tape.trans h.tape, k.output.trans h.output, Nat.le_trans h.size k.size, fun i hi hne => (k.block i (Nat.lt_of_lt_of_le hi h.size) hne).trans (h.block i hi hne)⟩
theorem OT_cells' {base : Nat} {w : World} {b c : Nat} {l : List Tk} (h : OT base w (some ⟨b, 0, none⟩) c l) (k : Nat) (hk : k < l.length) :
    w.cell? ⟨b, k * 5, none⟩ = some (.int .i64 l[k].low) ∧ w.cell? ⟨b, k * 5 + 1, none⟩ = some (.int .i64 l[k].high) ∧ w.cell? ⟨b, k * 5 + 2, none⟩ = some (.int .i64 l[k].due) ∧
    w.cell? ⟨b, k * 5 + 3, none⟩ = some (.int .i64 l[k].every) ∧ w.cell? ⟨b, k * 5 + 4, none⟩ = some (.bool l[k].crit) ∧ ∀ j, w.frozen? ⟨b, j, none⟩ = false := by
  obtain ⟨b', off, hA, _, hc⟩ := h.ts (by omega)
  cases hA
  obtain ⟨c0, c1, c2, c3, c4⟩ := task_cells hc k hk
  simp only [Nat.zero_add] at c0 c1 c2 c3 c4
  exact ⟨c0, c1, c2, c3, c4, fun j => World.ownsRow.frozenAt h j⟩
theorem tk_set_high {l : List Tk} {k : Nat} (hk : k < l.length) (n : Int) : (withHigh (tkAt l k) n).cells = l[k].cells.set 1 (.int .i64 n) := by rw [tkAt_eq l k hk]; rfl
theorem impl_MostHigh_1 (base b c k : Nat) (l : List Tk) (n : Int) (w : World) (h : OT base w (some ⟨b, 0, none⟩) c l) (hk : k < l.length) :
    Calls Tryz.prog 151 #[.pointer (some ⟨b, k * 5, none⟩), .int .i64 n] w fun e w' => e = .returned (.tuple #[]) ∧ OT base w' (some ⟨b, 0, none⟩) c (setHigh l k n) ∧ w.grownBy w' (some b) := by
  obtain ⟨k0, k1, k2, k3, k4, kf⟩ := OT_cells' h k hk
  have hO := (OT_field h k 1 hk (by omega) (.int .i64 n) (withHigh (tkAt l k) n) (tk_set_high hk n)).1
  have hG : w.grownBy (w.setCell ⟨b, k * 5 + 1, none⟩ (.int .i64 n)) (some b) := gb_set1 w b (k * 5 + 1) _
  have HO := Lib.hid hO
  have HG := Lib.hid hG
  clear hO hG
  go_enter Tryz.func151, Tryz.ntmps151
  go_wp2_with fail
  go_end0
  exact ⟨rfl, HO.out, HG.out⟩
theorem impl_most_High (A : Option Addr) (l : List Tk) (c k : Nat) (p : Int) (w : World) (h : TS w A l) (hk : k < l.length) (hl : l.length ≤ 5) :
    Calls Tryz.prog 150 #[.slice A l.length c, .int .i64 (k : Int), .int .i64 p, .func (.func 151) #[] #[]] w fun e w' => e = .returned (optV (mostH l k p)) ∧ Below w.heap.size w w' := by
  obtain ⟨R, hR⟩ : ∃ R, mostH l k p = R := ⟨_, rfl⟩
  have h20 : Hid (topP (fun n => hldBy (setHigh l k n) p) 20 = R) := hR
  rw [hR]
  clear hR
  go_enter Tryz.func150, Tryz.ntmps150
  go_wp2_with fail
  go_loopw [10] (fun i wr => ∃ n : Nat, i = .int .i64 (n : Int) ∧ n ≤ 20 ∧ Hid (topP (fun n => hldBy (setHigh l k n) p) n = R) ∧ Below w.heap.size w wr) (fun i _ => (intOf i).toNat)
  case atStart => exact ⟨20, rfl, by omega, h20, Below.refl _ _⟩
  case round =>
    clear h20
    obtain ⟨n, rfl, hn, htop, hb⟩ := hrel
    cases n with
    | zero =>
      have hf := Lib.hid htop.out.symm
      go_wp2_with fail
      go_ret2
      exact ⟨by rw [hf.out]; rfl, hb⟩
    | succ m =>
      have hcast : (((m + 1 : Nat) : Int)) = (m : Int) + 1 := by omega
      rw [hcast]
      have hlen : Hid ((setHigh l k ((m : Int) + 1)).length = l.length) := by simp [Hid, setHigh]
      go_wp2_with fail
      refine (slices_CloneT A l c _ (h.keep hb) (by omega)).mono ?_
      rintro e w2 ⟨A2, c2, rfl, o2, b2⟩
      have B2 := bthru hb b2
      obtain ⟨b, rfl, hb1, hb2⟩ := OT_addr o2 (by omega)
      go_wp2_with fail
      refine (impl_MostHigh_1 _ b c2 k l ((m : Int) + 1) _ o2 hk).mono ?_
      rintro e w3 ⟨rfl, o3, g3⟩
      have hz2 := b2.size
      have B3 : Below w.heap.size w w3 := B2.trans (gb_low g3 (Nat.le_trans hb.size hb1) B2.size)
      have hs3 := own_size o3
      rw [hlen.out] at hs3
      have hc2 := hs3.1
      have K := impl_HoldsBy (some ⟨b, 0, none⟩) (setHigh l k ((m : Int) + 1)) c2 p w3 o3.ts (by rw [hlen.out]; unfold maxLen; omega) (by rw [hlen.out]; exact hc2)
      rw [hlen.out] at K
      clear hs3
      cases hh : hldBy (setHigh l k ((m : Int) + 1)) p with
      | true =>
        rw [hh] at K
        have hf : Hid (R = some ((m : Int) + 1)) := by
          have := htop.out
          rw [Hid, ← this]
          simp only [topP, hh, if_true]
        clear hh
        go_wp2_with fail
        refine K.mono ?_
        rintro e w4 ⟨rfl, b4⟩
        go_wp2_with fail
        go_ret2
        exact ⟨by rw [hf.out]; rfl, bthru B3 b4⟩
      | false =>
        rw [hh] at K
        have hf : Hid (topP (fun n => hldBy (setHigh l k n) p) m = R) := by
          have := htop.out
          rw [Hid, ← this]
          simp only [topP, hh, Bool.false_eq_true, if_false]
        clear hh
        go_wp2_with fail
        refine K.mono ?_
        rintro e w4 ⟨rfl, b4⟩
        go_wp2_with fail
        go_roundw
        case rel => exact ⟨m, by go_num, by omega, hf, bthru B3 b4⟩
        case measure => simp [intOf]

theorem impl_MostHigh (A : Option Addr) (l : List Tk) (c : Nat) (x p : Int) (w : World) (h : TS w A l) (hm : l.length ≤ maxLen) (hlc : l.length ≤ c) :
    Calls Tryz.prog 71 #[.slice A l.length c, .int .i64 x, .int .i64 p] w fun e w' => e = .returned (optV (mostHigh l x p)) ∧ Below w.heap.size w w' := by
  cases hB : hldBy l p with
  | false =>
    have hf : Hid (mostHigh l x p = none) := by simp [Hid, mostHigh, hB]
    go_enter Tryz.func71, Tryz.ntmps71
    go_wp2_with fail
    refine (impl_HoldsBy A l c p _ h hm hlc).mono ?_
    rw [hB]
    rintro e w1 ⟨rfl, b1⟩
    go_wp2_with fail
    go_ret2
    exact ⟨by rw [hf.out]; rfl, b1⟩
  | true =>
    cases hP : plc l x with
    | false =>
      have hf : Hid (mostHigh l x p = none) := by simp [Hid, mostHigh, hP]
      go_enter Tryz.func71, Tryz.ntmps71
      go_wp2_with fail
      refine (impl_HoldsBy A l c p _ h hm hlc).mono ?_
      rw [hB]
      rintro e w1 ⟨rfl, b1⟩
      go_wp2_with fail
      refine (impl_placed A l c x _ (h.keep b1)).mono ?_
      rw [hP]
      rintro e w2 ⟨rfl, b2⟩
      go_wp2_with fail
      go_ret2
      exact ⟨by rw [hf.out]; rfl, bthru b1 b2⟩
    | true =>
      obtain ⟨hs, hl5, hlt, hx⟩ := plc_yes hP
      obtain ⟨n, rfl⟩ : ∃ n : Nat, x = (n : Int) := ⟨_, hx⟩
      rw [Int.toNat_natCast] at hlt
      clear hx hs
      go_enter Tryz.func71, Tryz.ntmps71
      go_wp2_with fail
      refine (impl_HoldsBy A l c p _ h hm hlc).mono ?_
      rw [hB]
      rintro e w1 ⟨rfl, b1⟩
      go_wp2_with fail
      refine (impl_placed A l c n _ (h.keep b1)).mono ?_
      rw [hP]
      rintro e w2 ⟨rfl, b2⟩
      have B2 := bthru b1 b2
      obtain ⟨b, off, rfl, hbl, hc⟩ := h.keep B2 (by omega)
      obtain ⟨c0, c1, c2, c3, c4⟩ := cells_tk hc n hlt
      clear hc
      cases hcr : (tkAt l n).crit with
      | false =>
        have hf : Hid (mostHigh l (n : Int) p = none) := by simp [Hid, mostHigh, hcr]
        rw [hcr] at c4
        clear hcr hB hP
        go_wp2_with fail
        go_ret2
        exact ⟨by rw [hf.out]; rfl, B2⟩
      | true =>
        have hf : Hid (mostHigh l (n : Int) p = mostH l n p) := by simp [Hid, mostHigh, hcr, hB, hP]
        rw [hcr] at c4
        clear hcr hB hP
        obtain ⟨p1, p2, hv⟩ : ∃ p1 p2, optV (mostH l n p) = .tuple #[.int .i64 p1, .bool p2] := by cases mostH l n p <;> exact ⟨_, _, rfl⟩
        have Hv := Lib.hid hv
        go_wp2_with fail
        refine (impl_most_High (some ⟨b, off, none⟩) l c n p _ (h.keep B2) hlt hl5).mono ?_
        rw [hv]
        clear hv
        rintro e w3 ⟨rfl, b3⟩
        go_wp2_with fail
        go_ret2
        exact ⟨by rw [hf.out, Hv.out]; rfl, bthru B2 b3⟩

end Go.Proofs.YtmlbjcjihmfcjaaGreatDoor
