/-
  PackAny: the program's.
-/
import Derived.Test.YtmlbjcjihmfcjaaGreatDoorPackH
import Derived.Test.YtmlbjcjihmfcjaaGreatDoorWayT
import Derived.Deep.LoopGhost
namespace Go.Proofs.YtmlbjcjihmfcjaaGreatDoor
open Go.RowKit

theorem way_top {m : Nat} (hm : 0 < m) (n k : Nat) (hk : k + 1 = m ^ n) : ∀ i, i < n → (way m n k)[i]? = some ((m : Int) - 1) := by
  induction n generalizing k with
  | zero => intro i hi; omega
  | succ n ih =>
    intro i hi
    have hl := way_length m n (k / m)
    rw [Nat.pow_succ] at hk
    have hpos : 0 < m ^ n := Nat.pow_pos hm
    have e0 : k = m * (m ^ n - 1) + (m - 1) := by
      rw [Nat.mul_sub, Nat.mul_one, Nat.mul_comm m]
      have : m ≤ m ^ n * m := Nat.le_mul_of_pos_left m hpos
      omega
    have e1 : k / m = m ^ n - 1 := by rw [e0, Nat.mul_add_div hm, Nat.div_eq_of_lt (by omega)]; omega
    have e2 : k % m = m - 1 := by rw [e0, Nat.mul_add_mod, Nat.mod_eq_of_lt (by omega)]
    simp only [way]
    by_cases e : i = n
    · subst e
      rw [List.getElem?_append_right (by omega), hl, Nat.sub_self, e2]
      simp
      omega
    · rw [List.getElem?_append_left (by omega)]
      exact ih (k / m) (by omega) i (by omega)
theorem made_zero (n : Nat) : (madeCells (Value.int .i64 0).cells (n * 1)).toList = (List.replicate n (0 : Int)).map (.int .i64) := by
  apply List.ext_getElem?
  intro j
  have e : (Value.int .i64 0).cells = #[.int .i64 0] := rfl
  rw [e, Nat.mul_one]
  by_cases h : j < n
  · simp [madeCells, h, Nat.mod_one]
  · simp [madeCells, h]
theorem OI_set {base : Nat} {w : World} {b c : Nat} {l : List Int} (h : OI base w (some ⟨b, 0, none⟩) c l) (i : Nat) (x : Int) :
    OI base (w.setCell ⟨b, i, none⟩ (.int .i64 x)) (some ⟨b, 0, none⟩) c (l.set i x) ∧ w.grownBy (w.setCell ⟨b, i, none⟩ (.int .i64 x)) (some b) := by
  have h1 := World.ownsRow.stored h i (.int .i64 x)
  refine ⟨?_, h1.2⟩
  unfold OI
  rw [List.length_set, List.map_set]
  exact h1.1
theorem OI_cell {base : Nat} {w : World} {b c : Nat} {l : List Int} (h : OI base w (some ⟨b, 0, none⟩) c l) (i : Nat) (x : Int) (hx : l[i]? = some x) : w.cell? ⟨b, i, none⟩ = some (.int .i64 x) ∧ ∀ j, w.frozen? ⟨b, j, none⟩ = false := by
  have hi : i < l.length := (List.getElem?_eq_some_iff.1 hx).1
  obtain ⟨b', off, hA, _, hc⟩ := h.is (by omega)
  cases hA
  have := hc i x hx
  rw [Nat.zero_add] at this
  exact ⟨this, fun j => World.ownsRow.frozenAt h j⟩
/-- A way on its way to the next: the numbers from j on begin anew. -/
def mid (W : List Int) (j n : Nat) : List Int := W.take j ++ List.replicate (n - j) 0
theorem mid_len {W : List Int} {j n : Nat} (hW : W.length = n) (hj : j ≤ n) : (mid W j n).length = n := by simp [mid]; omega
theorem mid_full {W : List Int} {n : Nat} (hW : W.length = n) : mid W n n = W := by simp [mid, List.take_of_length_le (Nat.le_of_eq hW)]
theorem mid_at {W : List Int} {j n : Nat} (hW : W.length = n) (hj : j < n) : (mid W (j + 1) n)[j]? = W[j]? := by
  unfold mid
  rw [List.getElem?_append_left (by simp; omega), List.getElem?_take, if_pos (by omega)]
theorem mid_set {W : List Int} {j n : Nat} (hW : W.length = n) (hj : j < n) (x : Int) : (mid W (j + 1) n).set j x = W.take j ++ x :: List.replicate (n - j - 1) 0 := by
  unfold mid
  rw [List.set_append_left _ _ (by simp; omega)]
  have e : (W.take (j + 1)).set j x = W.take j ++ [x] := by
    rw [List.take_succ_eq_append_getElem (by omega), List.set_append_right _ _ (by simp; omega)]
    have : (W.take j).length = j := by simp; omega
    simp [this]
  rw [e, show n - (j + 1) = n - j - 1 by omega]
  simp
theorem mid_zero {W : List Int} {j n : Nat} (hW : W.length = n) (hj : j < n) : (mid W (j + 1) n).set j 0 = mid W j n := by
  rw [mid_set hW hj]
  have e : List.replicate (n - j) (0 : Int) = 0 :: List.replicate (n - j - 1) 0 := by
    have : n - j = (n - j - 1) + 1 := by omega
    rw [this, List.replicate_succ]
    simp
  rw [mid, e]

set_option maxHeartbeats 4000000 in
set_option maxRecDepth 100000 in
theorem impl_PackAny (A : Option Addr) (l : List Tk) (c : Nat) (m p : Int) (w : World) (h : TS w A l) (_hm : l.length ≤ maxLen) (_hlc : l.length ≤ c) :
    Calls Tryz.prog 161 #[.slice A l.length c, .int .i64 m, .int .i64 p] w (RetIB w (anyL l m p) (anyP l m p).isSome) := by
  cases hS : setVld l with
  | false =>
    have hv : anyP l m p = none := by simp [anyP, hS]
    have hv2 : anyL l m p = [] := by simp [anyL, hv]
    rw [hv, hv2]
    clear hv hv2
    go_enter Tryz.func161, Tryz.ntmps161
    go_wp2_with fail
    refine (impl_SetValid A l c _ h).mono ?_
    rw [hS]
    rintro e w1 ⟨rfl, b1⟩
    go_wp2_with fail
    go_ret2
    exact ⟨none, 0, rfl, OI_nil _ _, b1⟩
  | true =>
    have hl5 := (setVld_all hS).1
    have HS := Lib.hid hS
    by_cases hn : 1 ≤ m ∧ m ≤ 3
    · obtain ⟨h1m, h3m⟩ := hn
      obtain ⟨M, rfl⟩ : ∃ M : Nat, m = (M : Int) := ⟨m.toNat, (Int.toNat_of_nonneg (by omega)).symm⟩
      have hM : 0 < M := by omega
      obtain ⟨R, hR⟩ : ∃ R, firstK (fun k => pkH l (way M l.length k) (M : Int) p) (M ^ l.length - 0) 0 = R := ⟨_, rfl⟩
      have hany : anyP l (M : Int) p = R.map (way M l.length) := by
        have : num3B (M : Int) = true := by simp [num3B]; omega
        simp only [anyP, hS, this, Bool.and_self, if_true, anyK, Int.toNat_natCast]
        rw [Nat.sub_zero] at hR
        rw [hR]
      have HA := Lib.hid hany
      have HR := Lib.hid hR
      have hpos : 0 < M ^ l.length := Nat.pow_pos hM
      obtain ⟨i0, hi, hz0, hz1, hz2⟩ := info_parts infoIntB
      have hmk : ∀ w : World, (Instr.makeSlice 27 (.int .i64 (l.length : Int)) (.int .i64 (l.length : Int))).run Tryz.prog w = .ok (.slice (some ⟨w.heap.size, 0, none⟩) l.length l.length) (w.alloc (.cells (madeCells (Value.int .i64 0).cells (l.length * 1)) 3)) := by
        intro w
        have hb : (i0.bytes : Int) * (l.length : Int) ≤ 281474976710656 := by
          have h : i0.bytes * l.length ≤ 256 * 16777216 := Nat.mul_le_mul (by omega) (by omega)
          have h2 : ((i0.bytes * l.length : Nat) : Int) ≤ 281474976710656 := by omega
          rwa [Int.natCast_mul] at h2
        have hr := run_make (P := Tryz.prog) w 27 3 i0 _ Tryz.underlying27 hi hz0 .i64 .i64 l.length l.length (by omega) (by omega) hb (by omega)
        simp only [Int.toNat_natCast] at hr
        rw [← hz1]
        exact hr
      have hown : ∀ w : World, OI w.heap.size (w.alloc (.cells (madeCells (Value.int .i64 0).cells (l.length * 1)) 3)) (some ⟨w.heap.size, 0, none⟩) l.length (way M l.length 0) := by
        intro w
        have := own_new (w := w) (t := 3) (size := 1) (n := l.length) (row := madeCells (Value.int .i64 0).cells (l.length * 1)) (by rw [size_madeCells]) (by omega)
        unfold OI
        rw [made_zero] at this
        rw [way_length, way_zero]
        exact this
      have HO := Lib.hid hown
      have hwlen : Hid (∀ k, (way M l.length k).length = l.length) := way_length M l.length
      clear hS hany hR hi hz0 hz1 hz2 hown
      generalize madeCells (Value.int .i64 0).cells (l.length * 1) = row at hmk HO
      go_enter Tryz.func161, Tryz.ntmps161
      go_wp2_with fail
      refine (impl_SetValid A l c _ h).mono ?_
      rw [HS.out]
      rintro e w1 ⟨rfl, b1⟩
      go_wp2_with fail
      have hO1 : OI w.heap.size (w1.alloc (.cells row 3)) (some ⟨w1.heap.size, 0, none⟩) l.length (way M l.length 0) := own_base (HO.out w1) b1.size
      have hB1 := bal b1 (.cells row 3)
      clear hmk HO
      generalize w1.heap.size = b1' at *
      go_loopg [9] (M ^ l.length) (fun g a wr => ∃ k : Nat, g + k = M ^ l.length ∧ k < M ^ l.length ∧ OI w.heap.size wr (some ⟨b1', 0, none⟩) l.length (way M l.length k) ∧ Hid (firstK (fun k => pkH l (way M l.length k) (M : Int) p) (M ^ l.length - k) k = R) ∧ Below w.heap.size w wr)
      case atStart => exact ⟨0, by omega, hpos, hO1, HR.out, hB1⟩
      case round =>
        clear hO1 hB1
        obtain ⟨k, hgk, hkM, hO, hfk, hb⟩ := hrel
        have hst := firstK_step (fun k => pkH l (way M l.length k) (M : Int) p) (M ^ l.length) k hkM
        obtain ⟨W, hW⟩ : ∃ W, way M l.length k = W := ⟨_, rfl⟩
        have hWl : W.length = l.length := by rw [← hW]; exact hwlen.out k
        have hWin : ∀ x ∈ W, 0 ≤ x ∧ x < (M : Int) := by rw [← hW]; exact way_in hM _ _
        rw [hW] at hO
        have K := impl_PackHolds A (some ⟨b1', 0, none⟩) l W c l.length (M : Int) p wr (h.keep hb) hO.is
        rw [hWl] at K
        have HW := Lib.hid hW
        have HWl := Lib.hid hWl
        have HWin := Lib.hid hWin
        cases hk : pkH l W (M : Int) p with
        | true =>
          rw [hk] at K
          have hRk : R = some k := by rw [← hfk.out, hst, hW, hk]; rfl
          have hr1 : anyP l (M : Int) p = some W := by rw [HA.out, hRk, ← hW]; rfl
          have hr2 : Hid (anyL l (M : Int) p = W ∧ (anyP l (M : Int) p).isSome = true) := by simp [Hid, anyL, hr1]
          clear hst hk hRk hr1 hW hWl hWin
          go_wp2_with fail
          refine K.mono ?_
          rintro e w2 ⟨rfl, b2⟩
          go_wp2_with fail
          go_ret2
          rw [hr2.out.1, hr2.out.2]
          exact ⟨some ⟨b1', 0, none⟩, l.length, by rw [HWl.out]; rfl, OI_keep hO b2, bthru hb b2⟩
        | false =>
          rw [hk] at K
          have hnx : Hid (firstK (fun k => pkH l (way M l.length k) (M : Int) p) (M ^ l.length - (k + 1)) (k + 1) = R) := by
            rw [Hid, ← hfk.out, hst, hW, hk]
            rfl
          clear hst hk hW hWl hWin hfk
          go_wp2_with fail
          refine K.mono ?_
          clear K
          rintro e w2 ⟨rfl, b2⟩
          have hO2 := OI_keep hO b2
          have B2 := bthru hb b2
          clear hO
          go_wp2_with fail
          go_loopg [9] l.length (fun g a wy => ∃ j : Nat, g = j ∧ a = .int .i64 ((j : Int) - 1) ∧ j ≤ l.length ∧ OI w.heap.size wy (some ⟨b1', 0, none⟩) l.length (mid W j l.length) ∧ Hid (∀ i, j ≤ i → i < l.length → W[i]? = some ((M : Int) - 1)) ∧ Below w.heap.size w wy)
          case atStart => exact ⟨l.length, rfl, rfl, Nat.le_refl _, by rw [mid_full HWl.out]; exact hO2, fun i h1 h2 => by omega, B2⟩
          case round =>
            clear hO2 B2
            obtain ⟨j, hgj, rfl, hj, hOj, htop, hby⟩ := hrel
            cases j with
            | zero =>
              have hlast : k + 1 = M ^ l.length := way_last hM l.length k hkM (fun i hi => by rw [HW.out]; exact htop.out i (by omega) hi)
              have hRn : R = none := by rw [← hnx.out, hlast, Nat.sub_self]; rfl
              have hr2 : Hid (anyL l (M : Int) p = [] ∧ (anyP l (M : Int) p).isSome = false) := by
                have e : anyP l (M : Int) p = none := by rw [HA.out, hRn]; rfl
                simp [Hid, anyL, e]
              clear hlast hRn
              go_wp2_with fail
              go_ret2
              rw [hr2.out.1, hr2.out.2]
              exact ⟨none, 0, rfl, OI_nil _ _, hby⟩
            | succ r =>
              have hcast : (((r + 1 : Nat) : Int)) - 1 = (r : Int) := by omega
              rw [hcast]
              have hrl : r < W.length := by rw [HWl.out]; omega
              have hat : (mid W (r + 1) l.length)[r]? = some W[r] := by rw [mid_at HWl.out (by omega)]; exact List.getElem?_eq_getElem hrl
              obtain ⟨kc, kf⟩ := OI_cell hOj r W[r] hat
              have hin := HWin.out W[r] (List.getElem_mem hrl)
              have hWr : W[r]? = some W[r] := List.getElem?_eq_getElem hrl
              have hz := OI_set hOj r 0
              rw [mid_zero HWl.out (by omega)] at hz
              have hs := OI_set hOj r (W[r] + 1)
              rw [mid_set HWl.out (by omega)] at hs
              clear hcast hat
              generalize W[r] = x at kc hin hWr hs
              have hrc : (r : Int) < (l.length : Int) := by omega
              have hr0 : (0 : Int) ≤ (r : Int) := by omega
              by_cases hx : x = (M : Int) - 1
              · have hx' : (x == (M : Int) - 1) = true := beq_iff_eq.2 hx
                have ht2 : Hid (∀ i, r ≤ i → i < l.length → W[i]? = some ((M : Int) - 1)) := by
                  intro i h1 h2
                  by_cases e : i = r
                  · subst e; rw [hWr, hx]
                  · exact htop.out i (by omega) h2
                have HZ := Lib.hid hz
                clear hz hs hx hWr
                go_wp2_with fail
                go_roundg r
                case measure => omega
                case rel => exact ⟨r, rfl, by go_num, by omega, HZ.out.1, ht2, hby.trans (gb_low HZ.out.2 (by
                    obtain ⟨q, hq, hq2, _⟩ := OI_addr hOj (by rw [mid_len HWl.out (by omega)]; omega)
                    cases hq
                    exact hq2) hby.size)⟩
              · have hx' : (x == (M : Int) - 1) = false := beq_eq_false_iff_ne.2 hx
                have hsucc := way_succ hM l.length k r (by omega) (fun i h1 h2 => by rw [HW.out]; exact htop.out i (by omega) h2) x (by rw [HW.out]; exact hWr) hx
                rw [HW.out] at hsucc
                rw [← hsucc] at hs
                have hk1 : k + 1 < M ^ l.length := by
                  rcases Nat.lt_or_ge (k + 1) (M ^ l.length) with h1 | h1
                  · exact h1
                  · exfalso
                    have e := way_top hM l.length k (by omega) r (by omega)
                    rw [HW.out, hWr] at e
                    injection e with e
                    exact hx e
                have hbb : w.heap.size ≤ b1' := by
                  obtain ⟨q, hq, hq2, _⟩ := OI_addr hOj (by rw [mid_len HWl.out (by omega)]; omega)
                  cases hq
                  exact hq2
                have HS2 := Lib.hid hs
                have hw1 : IntKind.i64.wrap (x + 1) = x + 1 := IntWalk.i64_in _ (by omega)
                clear hz hs hx hWr hsucc
                go_wp2_with fail
                go_roundg (M ^ l.length - (k + 1))
                case measure => omega
                case rel => exact ⟨k + 1, by omega, hk1, HS2.out.1, hnx, hby.trans (gb_low HS2.out.2 hbb hby.size)⟩
    · have hv : anyP l m p = none := by
        have : num3B m = false := by simp [num3B]; omega
        simp [anyP, this]
      have hv2 : anyL l m p = [] := by simp [anyL, hv]
      rw [hv, hv2]
      clear hv hv2 hS
      by_cases h1m : 1 ≤ m
      · have h3m : ¬ m ≤ 3 := fun e => hn ⟨h1m, e⟩
        clear hn
        go_enter Tryz.func161, Tryz.ntmps161
        go_wp2_with fail
        refine (impl_SetValid A l c _ h).mono ?_
        rw [HS.out]
        rintro e w1 ⟨rfl, b1⟩
        go_wp2_with fail
        go_ret2
        exact ⟨none, 0, rfl, OI_nil _ _, b1⟩
      · clear hn
        go_enter Tryz.func161, Tryz.ntmps161
        go_wp2_with fail
        refine (impl_SetValid A l c _ h).mono ?_
        rw [HS.out]
        rintro e w1 ⟨rfl, b1⟩
        go_wp2_with fail
        go_ret2
        exact ⟨none, 0, rfl, OI_nil _ _, b1⟩
end Go.Proofs.YtmlbjcjihmfcjaaGreatDoor
