/-
  The walks of Implicit, plus, times, fits.
-/
import Derived.Test.YtnldiakjmhfodaaHoldsBoth
namespace Go.Proofs.Ytnldiakjmhfodaa
open Go.RowKit

def impAll (l : List Tk) (n : Nat) : Bool := (List.range n).all (fun k => decide ((tkAt l k).due = (tkAt l k).every))
def impl_ (l : List Tk) : Bool := setVld l && impAll l l.length
theorem impAll_succ {l : List Tk} {n : Nat} (h : impAll l n = true) (hk : (tkAt l n).due = (tkAt l n).every) : impAll l (n + 1) = true := by
  simp only [impAll, List.all_eq_true, List.mem_range, decide_eq_true_eq] at h ⊢
  intro k h1
  by_cases e : k = n
  · subst e; exact hk
  · exact h k (by omega)
theorem impAll_bad {l : List Tk} {n k : Nat} (hk : k < n) (h : ¬ (tkAt l k).due = (tkAt l k).every) : impAll l n = false := by
  cases e : impAll l n with
  | false => rfl
  | true =>
    simp only [impAll, List.all_eq_true, List.mem_range, decide_eq_true_eq] at e
    exact absurd (e k hk) h

theorem impl_Implicit (A : Option Addr) (l : List Tk) (c : Nat) (w : World) (h : TS w A l) (hm : l.length ≤ maxLen) :
    Calls Try.prog 137 #[.slice A l.length c] w fun e w' => e = .returned (.bool (impl_ l)) ∧ Below w.heap.size w w' := by
  have hm' := hm
  unfold maxLen at hm'
  go_enter Try.func137, Try.ntmps137
  go_wp2_with fail
  go_loopw [7] (fun i wr => ∃ k : Nat, k ≤ l.length ∧ i = .int .i64 (k : Int) ∧ Hid (impAll l k = true) ∧ Below w.heap.size w wr) (fun i _ => l.length - (intOf i).toNat)
  case atStart => exact ⟨0, by omega, rfl, rfl, Below.refl _ _⟩
  case round =>
    obtain ⟨k, hk, rfl, hall, hb⟩ := hrel
    by_cases hlt : k < l.length
    · obtain ⟨b, off, rfl, hbl, hc⟩ := h.keep hb (by omega)
      obtain ⟨c0, c1, c2, c3, c4⟩ := cells_tk hc k hlt
      clear hc
      by_cases he : (tkAt l k).due = (tkAt l k).every
      · have hne : ((tkAt l k).due != (tkAt l k).every) = false := by simp [he]
        have hgood := Lib.hid (impAll_succ hall.out he)
        have He := Lib.hid he
        clear he
        go_wp2_with fail
        go_roundw
        case rel => exact ⟨k + 1, by omega, by go_num, hgood, bal hb _⟩
        case measure => simp [intOf]; omega
      · have hne : ((tkAt l k).due != (tkAt l k).every) = true := by simp [he]
        have hbad := Lib.hid (impAll_bad hlt he)
        have He := Lib.hid he
        clear he
        go_wp2_with fail
        go_ret
        exact ⟨by rw [impl_, hbad.out, Bool.and_false]; rfl, bal hb _⟩
    · have hk' : Hid (k = l.length) := show k = l.length by omega
      go_wp2_with fail
      refine (impl_SetValid A l c _ (h.keep hb)).mono ?_
      rintro e w1 ⟨rfl, b1⟩
      go_wp2_with fail
      go_ret
      have ha := hall.out
      rw [hk'.out] at ha
      exact ⟨by rw [impl_, ha, Bool.and_true]; rfl, bthru hb b1⟩

theorem RIn_bds {a : Rat} (h : RIn a) : 0 ≤ a.num ∧ a.num ≤ 1000000000 ∧ 1 ≤ (a.den : Int) ∧ (a.den : Int) ≤ 1000000000 := by
  obtain ⟨h1, h2, h3⟩ := h
  have := a.den_pos
  omega

theorem impl_times (a b : Rat) (w : World) (ha : RIn a) (hb : RIn b) :
    Calls Try.prog 128 #[rv a, rv b] w fun e w' => e = .returned (rv (a * b)) ∧ Below w.heap.size w w' := by
  obtain ⟨a0, a1, a2, a3⟩ := RIn_bds ha
  obtain ⟨b0, b1, b2, b3⟩ := RIn_bds hb
  have m1 := mul_bd a0 a1 b0 b1 (by omega)
  have m3 := mul_bd (show 0 ≤ (a.den : Int) by omega) a3 (show 0 ≤ (b.den : Int) by omega) b3 (by omega)
  have m4 : 1 ≤ (a.den : Int) * (b.den : Int) := by have := Int.mul_pos (show (0 : Int) < a.den by omega) (show (0 : Int) < b.den by omega); omega
  obtain ⟨m10, m11⟩ := m1
  obtain ⟨m30, m31⟩ := m3
  go_enter Try.func128, Try.ntmps128
  go_wp2_with fail
  refine (impl_reducedI _ _ _ (by omega) (by omega) (by omega) (by omega)).mono ?_
  rw [mk_mul]
  rintro e w3 ⟨rfl, c3⟩
  obtain ⟨hA0, hB0, hC0⟩ := heap3 w (.cells #[.int .i64 a.num, .int .i64 (a.den : Int)] 63) (.cells #[.int .i64 b.num, .int .i64 (b.den : Int)] 63) (.cells #[.int .i64 0, .int .i64 0] 63)
  have hz3 := c3.size
  simp only [World.size_alloc] at hz3
  have hC3 := (c3.block (w.heap.size + 1 + 1) (by simp)).trans hC0
  obtain ⟨x0, x1, xf⟩ := blk_two hC3
  clear hA0 hB0 hC0 hC3
  obtain ⟨r, hr⟩ : ∃ r, a * b = r := ⟨_, rfl⟩
  rw [hr]
  have Hr := Lib.hid hr
  clear hr
  go_wp2_with fail
  refine bodyPost_ret (v := rv r) (by simp [results, Try.results128, go_sem, x0, x1]) rfl ⟨by rw [Hr.out], ?_⟩
  exact bst (bst (bthru (bal (bal (bal (Below.refl _ _) _) _) _) c3) (p := ⟨w.heap.size + 1 + 1, 0, none⟩) (by show w.heap.size ≤ w.heap.size + 1 + 1; omega) _) (p := ⟨w.heap.size + 1 + 1, 1, none⟩) (by show w.heap.size ≤ w.heap.size + 1 + 1; omega) _
theorem impl_plus (a b : Rat) (w : World) (ha : RIn a) (hb : RIn b) :
    Calls Try.prog 127 #[rv a, rv b] w fun e w' => e = .returned (rv (a + b)) ∧ Below w.heap.size w w' := by
  obtain ⟨a0, a1, a2, a3⟩ := RIn_bds ha
  obtain ⟨b0, b1, b2, b3⟩ := RIn_bds hb
  have m1 := mul_bd a0 a1 (show 0 ≤ (b.den : Int) by omega) b3 (by omega)
  have m2 := mul_bd b0 b1 (show 0 ≤ (a.den : Int) by omega) a3 (by omega)
  obtain ⟨m20, m21⟩ := m2
  have m3 := mul_bd (show 0 ≤ (a.den : Int) by omega) a3 (show 0 ≤ (b.den : Int) by omega) b3 (by omega)
  have m4 : 1 ≤ (a.den : Int) * (b.den : Int) := by have := Int.mul_pos (show (0 : Int) < a.den by omega) (show (0 : Int) < b.den by omega); omega
  obtain ⟨m10, m11⟩ := m1
  obtain ⟨m30, m31⟩ := m3
  go_enter Try.func127, Try.ntmps127
  go_wp2_with fail
  refine (impl_reducedI _ _ _ (by omega) (by omega) (by omega) (by omega)).mono ?_
  rw [mk_add]
  rintro e w3 ⟨rfl, c3⟩
  obtain ⟨hA0, hB0, hC0⟩ := heap3 w (.cells #[.int .i64 a.num, .int .i64 (a.den : Int)] 63) (.cells #[.int .i64 b.num, .int .i64 (b.den : Int)] 63) (.cells #[.int .i64 0, .int .i64 0] 63)
  have hz3 := c3.size
  simp only [World.size_alloc] at hz3
  have hC3 := (c3.block (w.heap.size + 1 + 1) (by simp)).trans hC0
  obtain ⟨x0, x1, xf⟩ := blk_two hC3
  clear hA0 hB0 hC0 hC3
  obtain ⟨r, hr⟩ : ∃ r, a + b = r := ⟨_, rfl⟩
  rw [hr]
  have Hr := Lib.hid hr
  clear hr
  go_wp2_with fail
  refine bodyPost_ret (v := rv r) (by simp [results, Try.results127, go_sem, x0, x1]) rfl ⟨by rw [Hr.out], ?_⟩
  exact bst (bst (bthru (bal (bal (bal (Below.refl _ _) _) _) _) c3) (p := ⟨w.heap.size + 1 + 1, 0, none⟩) (by show w.heap.size ≤ w.heap.size + 1 + 1; omega) _) (p := ⟨w.heap.size + 1 + 1, 1, none⟩) (by show w.heap.size ≤ w.heap.size + 1 + 1; omega) _

def fitsR (r : Rat) : Bool := decide (r.num ≤ (r.den : Int))
theorem impl_fits (a : Rat) (w : World) :
    Calls Try.prog 126 #[rv a] w fun e w' => e = .returned (.bool (fitsR a)) ∧ Below w.heap.size w w' := by
  go_enter Try.func126, Try.ntmps126
  go_wp2_with fail
  go_ret
  exact ⟨rfl, bal (Below.refl _ _) _⟩
theorem fitsR_iff (r : Rat) : fitsR r = true ↔ r ≤ 1 := by
  simp only [fitsR, decide_eq_true_eq, Rat.le_iff]
  simp
end Go.Proofs.Ytnldiakjmhfodaa
