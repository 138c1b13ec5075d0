/-
  sumOf, LowShare, HighShare: the sums of shares.
-/
import Derived.Test.YtmkjmancmiphfaaGreatDoorShare
import Derived.Test.YtmkjmancmiphfaaGreatDoorTaskValid
namespace Go.Proofs.YtmkjmancmiphfaaGreatDoor
open Go.RowKit

/-- What sumOf hands back: the sum, or the zero value where the tasks are not valid. -/
def sumV (l : List Tk) (crit high : Bool) : Value := if setVld l then rv (shares crit high l) else sv 0 0

theorem setVld_all {l : List Tk} (h : setVld l = true) : l.length ≤ 5 ∧ ∀ t ∈ l, vld t = true := by
  simp only [setVld, Bool.and_eq_true, decide_eq_true_eq, List.all_eq_true] at h
  exact h
theorem shares_small {l : List Tk} (h : ∀ t ∈ l, vld t = true) (hl : l.length ≤ 5) (crit high : Bool) :
    0 ≤ (shares crit high l).num ∧ (shares crit high l).num ≤ 16000000 ∧ (shares crit high l).den ≤ 3200000 := by
  have h1 := shares_bd crit high l h
  have h2 := shares_den crit high l h
  have h3 := num_le_of_le h1.2
  have h4 : 20 ^ l.length ≤ 20 ^ 5 := Nat.pow_le_pow_right (by omega) hl
  have h5 : (l.length : Int) * ((shares crit high l).den : Int) ≤ 5 * ((shares crit high l).den : Int) := Int.mul_le_mul_of_nonneg_right (by omega) (by omega)
  refine ⟨rat_num_le h1.1, ?_, ?_⟩ <;> omega

theorem blk_set2 {w : World} {b : Nat} {v0 v1 : Value} {t : TypeId} (h : w.heap[b]? = some (.cells #[v0, v1] t (0, 0))) (u0 u1 : Value) : ((w.setCell ⟨b, 0, none⟩ u0).setCell ⟨b, 1, none⟩ u1).heap[b]? = some (.cells #[u0, u1] t (0, 0)) := by
  have h1 := heap_setCell_same w b 0 #[v0, v1] t u0 h
  have h2 := heap_setCell_same _ b 1 _ t u1 h1
  simpa using h2
theorem mk_shr (r : Rat) (n e : Int) (he : 1 ≤ e) : mkRat (r.num * e + n * (r.den : Int)) ((r.den : Int) * e).toNat = r + mkRat n e.toNat := by
  obtain ⟨m, rfl⟩ : ∃ m : Nat, e = (m : Int) := ⟨e.toNat, (Int.toNat_of_nonneg (by omega)).symm⟩
  have h := Rat.mkRat_add_mkRat r.num n (d₁ := r.den) (d₂ := m) r.den_nz (by omega)
  rw [Rat.mkRat_self] at h
  rw [Int.toNat_natCast, h, ← Int.natCast_mul, Int.toNat_natCast]

theorem impl_sumOf (A : Option Addr) (l : List Tk) (c : Nat) (crit high : Bool) (w : World) (h : TS w A l) :
    Calls Tryz.prog 104 #[.slice A l.length c, .bool crit, .bool high] w fun e w' => e = .returned (sumV l crit high) ∧ Below w.heap.size w w' := by
  cases hS : setVld l with
  | false =>
    have hv : sumV l crit high = sv 0 0 := by simp [sumV, hS]
    rw [hv]
    clear hv
    go_enter Tryz.func104, Tryz.ntmps104
    go_wp2_with fail
    refine (impl_SetValid A l c _ (h.keep (bal (Below.refl _ _) _))).mono ?_
    rw [hS]
    rintro e w1 ⟨rfl, b1⟩
    have hB := (b1.block w.heap.size (by simp)).trans (heap_alloc_new w _)
    obtain ⟨x0, x1, xf⟩ := blk_two hB
    clear hB
    go_wp2_with fail
    refine bodyPost_ret (v := sv 0 0) (by simp [results, Tryz.results104, go_sem, x0, x1]) rfl ⟨rfl, ?_⟩
    exact bst (bst (bthru (bal (Below.refl _ _) _) b1) (p := ⟨w.heap.size, 0, none⟩) (Nat.le_refl _) _) (p := ⟨w.heap.size, 1, none⟩) (Nat.le_refl _) _
  | true =>
    obtain ⟨hl5, hall⟩ := setVld_all hS
    have hv : sumV l crit high = rv (shares crit high l) := by simp [sumV, hS]
    rw [hv]
    have Hall := Lib.hid hall
    clear hv hall
    go_enter Tryz.func104, Tryz.ntmps104
    go_wp2_with fail
    refine (impl_SetValid A l c _ (h.keep (bal (Below.refl _ _) _))).mono ?_
    rw [hS]
    clear hS
    rintro e w1 ⟨rfl, b1⟩
    have hB := Lib.hid ((b1.block w.heap.size (by simp)).trans (heap_alloc_new w _))
    have hz1 := b1.size
    simp only [World.size_alloc] at hz1
    have hb1 := bthru (bal (Below.refl _ _) _) b1
    go_wp2_with fail
    have hBl : w.heap.size < w1.heap.size := by omega
    go_loopw [18] (fun i wr => ∃ k : Nat, i = .int .i64 (k : Int) ∧ k ≤ l.length ∧ Below w.heap.size w wr ∧ w1.heap.size < wr.heap.size ∧ Hid (wr.heap[w.heap.size]? = some (.cells #[.int .i64 0, .int .i64 0] 54 (0, 0))) ∧
      Hid (wr.heap[w1.heap.size]? = some (.cells #[.int .i64 (shares crit high (l.take k)).num, .int .i64 ((shares crit high (l.take k)).den : Int)] 54 (0, 0)))) (fun i _ => l.length - (intOf i).toNat)
    case atStart => exact ⟨0, rfl, by omega, bal hb1 _, by simp, (Below.heap_alloc _ _ _ hBl).trans hB.out, heap_alloc_new w1 _⟩
    case round =>
      clear hB
      obtain ⟨k, rfl, hk, hb, hSl, hB, hS⟩ := hrel
      by_cases hlt : k < l.length
      · obtain ⟨b, off, rfl, hbl, hc⟩ := h.keep hb (by omega)
        obtain ⟨c0, c1, c2, c3, c4⟩ := task_cells hc k hlt
        clear hc
        have hvk := vld_bd (Hall.out _ (List.getElem_mem hlt))
        obtain ⟨v0, v1, v2, v3, v4⟩ := hvk
        have hsm := shares_small (l := l.take k) (fun t ht => Hall.out t (List.mem_of_mem_take ht)) (by simp; omega) crit high
        have hts := Lib.hid (shares_take_succ crit high l k hlt)
        obtain ⟨z0, z1, z2⟩ := hsm
        obtain ⟨s0, s1, sf⟩ := blk_two hS.out
        have hd := (shares crit high (l.take k)).den_pos
        generalize shares crit high (l.take k) = r at *
        by_cases hcr : l[k].crit = crit
        · have hcb : (l[k].crit == crit) = true := by simp [hcr]
          have Hcr := Lib.hid hcr
          clear hcr
          have m1 := mul_bd z0 z1 (show 0 ≤ l[k].every by omega) v4 (by omega)
          have m2 := mul_bd (show 0 ≤ (r.den : Int) by omega) (show (r.den : Int) ≤ 3200000 by omega) (show 0 ≤ l[k].every by omega) v4 (by omega)
          have m3 := mul_bd (show 0 ≤ l[k].low by omega) (show l[k].low ≤ 20 by omega) (show 0 ≤ (r.den : Int) by omega) (show (r.den : Int) ≤ 3200000 by omega) (by omega)
          have m4 := mul_bd (show 0 ≤ l[k].high by omega) (show l[k].high ≤ 20 by omega) (show 0 ≤ (r.den : Int) by omega) (show (r.den : Int) ≤ 3200000 by omega) (by omega)
          have m5 : 1 ≤ (r.den : Int) * l[k].every := by have := Int.mul_pos (show (0 : Int) < r.den by omega) (show 0 < l[k].every by omega); omega
          obtain ⟨m10, m11⟩ := m1
          obtain ⟨m20, m21⟩ := m2
          obtain ⟨m30, m31⟩ := m3
          obtain ⟨m40, m41⟩ := m4
          cases high
          all_goals
            go_wp2_with fail
            refine (impl_reducedI _ _ _ (by omega) (by omega) (by omega) (by omega)).mono ?_
            rw [mk_shr r _ _ (by omega)]
            rintro e w2 ⟨rfl, b2⟩
            have hS2 := (b2.block _ (by simp; omega)).trans ((Below.heap_alloc _ _ _ hSl).trans hS.out)
            have hB2 := Lib.hid ((b2.block _ (by simp; omega)).trans ((Below.heap_alloc _ _ _ (by omega)).trans hB.out))
            have HS2 := Lib.hid hS2
            have hz2 := b2.size
            simp only [World.size_alloc] at hz2
            obtain ⟨p0, p1, pf⟩ := blk_two hS2
            clear s0 s1 sf hS2
            go_wp2_with fail
            go_roundw
            case rel =>
              refine ⟨k + 1, by go_num, by omega, bst (bst (bthru (bal hb _) b2) (p := ⟨w1.heap.size, 0, none⟩) (Nat.le_of_lt hBl) _) (p := ⟨w1.heap.size, 1, none⟩) (Nat.le_of_lt hBl) _, by simp; omega, ?_, ?_⟩
              · exact (Below.heap_setCell _ _ _ _ (by simp; omega)).trans ((Below.heap_setCell _ _ _ _ (by simp; omega)).trans hB2.out)
              · rw [Hid, hts.out, if_pos Hcr.out]
                exact blk_set2 HS2.out _ _
            case measure => simp [intOf]; omega
        · have hcb : (l[k].crit == crit) = false := by simp [hcr]
          have Hcr := Lib.hid hcr
          clear hcr
          go_wp2_with fail
          go_roundw
          case rel =>
            refine ⟨k + 1, by go_num, by omega, bal hb _, by simp; omega, (Below.heap_alloc _ _ _ (by omega)).trans hB.out, ?_⟩
            rw [Hid, hts.out, if_neg Hcr.out, Rat.add_zero]
            exact (Below.heap_alloc _ _ _ hSl).trans hS.out
          case measure => simp [intOf]; omega
      · have ek : k = l.length := by omega
        have hS' := hS.out
        rw [List.take_of_length_le (by omega)] at hS'
        obtain ⟨s0, s1, sf⟩ := blk_two hS'
        obtain ⟨z0, z1, zf⟩ := blk_two hB.out
        clear hS'
        go_wp2_with fail
        refine bodyPost_ret (v := rv (shares crit high l)) (by simp [results, Tryz.results104, go_sem, z0, z1]) rfl ⟨rfl, ?_⟩
        exact bst (bst hb (p := ⟨w.heap.size, 0, none⟩) (Nat.le_refl _) _) (p := ⟨w.heap.size, 1, none⟩) (Nat.le_refl _) _

theorem impl_LowShare (A : Option Addr) (l : List Tk) (c : Nat) (crit : Bool) (w : World) (h : TS w A l) :
    Calls Tryz.prog 62 #[.slice A l.length c, .bool crit] w fun e w' => e = .returned (sumV l crit false) ∧ Below w.heap.size w w' := by
  obtain ⟨a, b, hv⟩ : ∃ a b, sumV l crit false = sv a b := by
    unfold sumV
    split
    · exact ⟨_, _, rfl⟩
    · exact ⟨_, _, rfl⟩
  go_enter Tryz.func62, Tryz.ntmps62
  go_wp2_with fail
  refine (impl_sumOf A l c crit false _ (h.keep (bal (Below.refl _ _) _))).mono ?_
  rw [hv]
  rintro e w1 ⟨rfl, b1⟩
  have hB := (b1.block w.heap.size (by simp)).trans (heap_alloc_new w _)
  obtain ⟨x0, x1, xf⟩ := blk_two hB
  have Hv := Lib.hid hv
  clear hB hv
  go_wp2_with fail
  refine bodyPost_ret (v := sv a b) (by simp [results, Tryz.results62, go_sem, x0, x1]) rfl ⟨by rw [Hv.out], ?_⟩
  exact bst (bst (bthru (bal (Below.refl _ _) _) b1) (p := ⟨w.heap.size, 0, none⟩) (Nat.le_refl _) _) (p := ⟨w.heap.size, 1, none⟩) (Nat.le_refl _) _

theorem impl_HighShare (A : Option Addr) (l : List Tk) (c : Nat) (w : World) (h : TS w A l) :
    Calls Tryz.prog 103 #[.slice A l.length c] w fun e w' => e = .returned (sumV l true true) ∧ Below w.heap.size w w' := by
  obtain ⟨a, b, hv⟩ : ∃ a b, sumV l true true = sv a b := by
    unfold sumV
    split
    · exact ⟨_, _, rfl⟩
    · exact ⟨_, _, rfl⟩
  go_enter Tryz.func103, Tryz.ntmps103
  go_wp2_with fail
  refine (impl_sumOf A l c true true _ (h.keep (bal (Below.refl _ _) _))).mono ?_
  rw [hv]
  rintro e w1 ⟨rfl, b1⟩
  have hB := (b1.block w.heap.size (by simp)).trans (heap_alloc_new w _)
  obtain ⟨x0, x1, xf⟩ := blk_two hB
  have Hv := Lib.hid hv
  clear hB hv
  go_wp2_with fail
  refine bodyPost_ret (v := sv a b) (by simp [results, Tryz.results103, go_sem, x0, x1]) rfl ⟨by rw [Hv.out], ?_⟩
  exact bst (bst (bthru (bal (Below.refl _ _) _) b1) (p := ⟨w.heap.size, 0, none⟩) (Nat.le_refl _) _) (p := ⟨w.heap.size, 1, none⟩) (Nat.le_refl _) _
end Go.Proofs.YtmkjmancmiphfaaGreatDoor
