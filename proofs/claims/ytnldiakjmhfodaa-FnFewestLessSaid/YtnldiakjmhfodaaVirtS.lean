/-
  HighShare, Implicit, HoldsPlain: the reference's.
-/
import Derived.Test.YtnldiakjmhfodaaCritS
namespace Go.Proofs.Ytnldiakjmhfodaa
open Go.RowKit

theorem spec_HighShare (A : Option Addr) (l : List Tk) (c : Nat) (w : World) (h : TS w A l) (hm : l.length ≤ maxLen) :
    Calls Try.prog 121 #[.slice A l.length c] w fun e w' => e = .returned (sumV l true true) ∧ Below w.heap.size w w' := by
  cases hS : setVld l with
  | false =>
    have hv : sumV l true true = sv 0 0 := by simp [sumV, hS]
    rw [hv]
    clear hv
    go_enter Try.func121, Try.ntmps121
    go_wp2_with fail
    refine (spec_SetValid A l c _ (h.keep (bal (Below.refl _ _) _)) hm).mono ?_
    rw [hS]
    rintro e w1 ⟨rfl, b1⟩
    have hB := (b1.block w.heap.size (by simp)).trans (heap_alloc_new w _)
    obtain ⟨x0, x1, xf⟩ := blk_two hB
    clear hB
    go_wp2_with fail
    refine bodyPost_ret (v := sv 0 0) (by simp [results, Try.results121, go_sem, x0, x1]) rfl ⟨rfl, ?_⟩
    exact bst (bst (bthru (bal (Below.refl _ _) _) b1) (p := ⟨w.heap.size, 0, none⟩) (Nat.le_refl _) _) (p := ⟨w.heap.size, 1, none⟩) (Nat.le_refl _) _
  | true =>
    have HS := Lib.hid hS
    have hv : sumV l true true = rv (shares true true l) := by simp [sumV, hS]
    have hv2 : Hid (sumV (critL l) true false = rv (shares true true l)) := by simp [Hid, sumV, critL_vld hS, shares_critL]
    have hlm : Hid ((critL l).length ≤ maxLen) := by
      have := critL_len l
      simp only [Hid]
      omega
    rw [hv]
    clear hv
    go_enter Try.func121, Try.ntmps121
    go_wp2_with fail
    refine (spec_SetValid A l c _ (h.keep (bal (Below.refl _ _) _)) hm).mono ?_
    rw [hS]
    clear hS
    rintro e w1 ⟨rfl, b1⟩
    have B1 := bthru (bal (Below.refl w.heap.size w) _) b1
    have hz1 := b1.size
    simp only [World.size_alloc] at hz1
    go_wp2_with fail
    refine (spec_CriticalOf_yes A l c _ (h.keep B1) HS.out).mono ?_
    rintro e w2 ⟨A2, c2, rfl, o2, b2⟩
    have hz2 := b2.size
    go_wp2_with fail
    refine (spec_LowShare A2 (critL l) c2 true _ o2.ts hlm.out).mono ?_
    rw [hv2.out]
    rintro e w3 ⟨rfl, b3⟩
    have hB := ((b3.block w.heap.size (by omega)).trans ((b2.block w.heap.size (by omega)).trans (b1.block w.heap.size (by simp)))).trans (heap_alloc_new w _)
    obtain ⟨x0, x1, xf⟩ := blk_two hB
    clear hB
    obtain ⟨r, hr⟩ : ∃ r, shares true true l = r := ⟨_, rfl⟩
    rw [hr]
    have Hr := Lib.hid hr
    clear hr
    go_wp2_with fail
    refine bodyPost_ret (v := rv r) (by simp [results, Try.results121, go_sem, x0, x1]) rfl ⟨by rw [Hr.out], ?_⟩
    exact bst (bst (bthru (bthru B1 b2) b3) (p := ⟨w.heap.size, 0, none⟩) (Nat.le_refl _) _) (p := ⟨w.heap.size, 1, none⟩) (Nat.le_refl _) _
theorem spec_l5One (w : World) : Calls Try.prog 123 #[] w fun e w' => e = .returned (sv 1 1) ∧ Below w.heap.size w w' := by
  go_enter Try.func123, Try.ntmps123
  go_wp2_with fail
  exact bodyPost_ret (v := sv 1 1) (by simp [results, Try.results123, go_sem]) rfl ⟨rfl, bal (Below.refl _ _) _⟩
def cmp1 (a : Rat) : Int := if a.num < (a.den : Int) then -1 else if (a.den : Int) < a.num then 1 else 0
theorem cmpR_one (a : Rat) : cmpR a 1 = cmp1 a := by simp [cmpR, cmp1]
theorem RIn_one : RIn 1 := ⟨by decide, by decide, by decide⟩
theorem spec_Cmp1 (a : Rat) (w : World) (ha : RIn a) :
    Calls Try.prog 122 #[rv a, sv 1 1] w fun e w' => e = .returned (.int .i64 (cmp1 a)) ∧ Below w.heap.size w w' := by
  have h := spec_CompareShares a 1 w ha RIn_one
  rw [cmpR_one] at h
  exact h
theorem cmp1_le (a : Rat) : decide (cmp1 a ≤ 0) = fitsR a := by
  unfold cmp1 fitsR
  split
  · simp; omega
  · split
    · simp; omega
    · simp; omega
theorem cmp1_gt (a : Rat) : decide (0 < cmp1 a) = !fitsR a := by
  rw [← cmp1_le, ← decide_not]
  simp
theorem cmp1_eq (a : Rat) : (cmp1 a == 0) = (a.num == (a.den : Int)) := by
  rw [Bool.eq_iff_iff, beq_iff_eq, beq_iff_eq]
  unfold cmp1
  split
  · omega
  · split <;> omega
theorem cmp1_bd (a : Rat) : -1 ≤ cmp1 a ∧ cmp1 a ≤ 1 := by
  unfold cmp1
  split
  · omega
  · split <;> omega

theorem spec_Implicit (A : Option Addr) (l : List Tk) (c : Nat) (w : World) (h : TS w A l) (hm : l.length ≤ maxLen) :
    Calls Try.prog 141 #[.slice A l.length c] w fun e w' => e = .returned (.bool (impl_ l)) ∧ Below w.heap.size w w' := by
  have hm' := hm
  unfold maxLen at hm'
  cases hS : setVld l with
  | false =>
    have Hf : Hid (impl_ l = false) := by simp [Hid, impl_, hS]
    have hne : 0 < l.length := by
      cases l with
      | nil => simp [setVld] at hS
      | cons => simp
    go_enter Try.func141, Try.ntmps141
    go_wp2_with fail
    go_loopw [3] (fun i wr => i = .int .i64 0 ∧ Below w.heap.size w wr) (fun _ _ => 0)
    case atStart => exact ⟨rfl, Below.refl _ _⟩
    case round =>
      obtain ⟨rfl, hb⟩ := hrel
      go_wp2_with fail
      refine (spec_SetValid A l c _ (h.keep hb) hm).mono ?_
      rw [hS]
      rintro e w1 ⟨rfl, b1⟩
      go_wp2_with fail
      refine (spec_SetValid A l c _ (h.keep (bthru hb b1)) hm).mono ?_
      rw [hS]
      rintro e w2 ⟨rfl, b2⟩
      go_wp2_with fail
      go_ret
      exact ⟨by rw [Hf.out]; rfl, bthru (bthru hb b1) b2⟩
  | true =>
    have hl5 := (setVld_all hS).1
    have Hs := Lib.hid hS
    have Hf : Hid (impl_ l = impAll l l.length) := by simp [Hid, impl_, hS]
    clear hS
    go_enter Try.func141, Try.ntmps141
    go_wp2_with fail
    go_loopw [3] (fun i wr => ∃ k : Nat, k ≤ l.length ∧ i = .int .i64 (k : Int) ∧ Hid (impAll l k = true) ∧ Below w.heap.size w wr) (fun i _ => l.length - (intOf i).toNat)
    case atStart => exact ⟨0, by omega, rfl, rfl, Below.refl _ _⟩
    case round =>
      obtain ⟨k, hk, rfl, hall, hb⟩ := hrel
      by_cases hlt : k < l.length
      · go_wp2_with fail
        refine (spec_SetValid A l c _ (h.keep hb) hm).mono ?_
        rw [Hs.out]
        rintro e w1 ⟨rfl, b1⟩
        have B1 := bthru hb b1
        obtain ⟨b, off, rfl, hbl, hc⟩ := h.keep B1 (by omega)
        obtain ⟨c0, c1, c2, c3, c4⟩ := cells_tk hc k hlt
        clear hc
        have q0 : (0 : Int) ≤ (k : Int) := by omega
        have q1 : (k : Int) < (l.length : Int) := by omega
        by_cases hd : (tkAt l k).due = (tkAt l k).every
        · have hgood := Lib.hid (impAll_succ hall.out hd)
          have hne : ((tkAt l k).due != (tkAt l k).every) = false := by simp [hd]
          clear hd
          go_wp2_with fail
          go_quiet (fail)
          go_wp2_with fail
          go_roundw
          case rel => exact ⟨k + 1, by omega, by go_num, hgood, bdr B1 _⟩
          case measure => simp [intOf]; omega
        · have hbad := Lib.hid (impAll_bad hlt hd)
          have hne : ((tkAt l k).due != (tkAt l k).every) = true := by simpa using hd
          clear hd
          go_wp2_with fail
          go_quiet (fail)
          go_wp2_with fail
          go_ret
          exact ⟨by rw [Hf.out, hbad.out]; rfl, bdr B1 _⟩
      · have hk' : Hid (k = l.length) := show k = l.length by omega
        go_wp2_with fail
        refine (spec_SetValid A l c _ (h.keep hb) hm).mono ?_
        rw [Hs.out]
        rintro e w1 ⟨rfl, b1⟩
        go_wp2_with fail
        go_ret
        have ha := hall.out
        rw [hk'.out] at ha
        exact ⟨by rw [Hf.out, ha]; rfl, bthru hb b1⟩

theorem RIn_plain {l : List Tk} (h : setVld l = true) : RIn (ua l + uh l) ∧ RIn (ua l + ub l) := by
  obtain ⟨hl5, hall⟩ := setVld_all h
  have p1 := evProd_pos false l hall
  have p2 := evProd_pos true l hall
  have hpl := Nat.le_trans (evProd_le l hall) (pow_le5' hl5)
  have d1 := shares_dvd false false l hall
  have d2 := shares_dvd true true l hall
  have d3 := shares_dvd true false l hall
  have b1 := shares_bd false false l hall
  have b2 := shares_bd true true l hall
  have b3 := shares_bd true false l hall
  have h5 : ((l.length : Nat) : Rat) ≤ 5 := by exact_mod_cast hl5
  have hn0 : evProd true l * evProd false l ≠ 0 := Nat.mul_ne_zero (by omega) (by omega)
  have key : ∀ x y : Rat, 0 ≤ x → 0 ≤ y → x ≤ 5 → y ≤ 5 → x.den ∣ evProd false l → y.den ∣ evProd true l → RIn (x + y) := by
    intro x y x0 y0 x5 y5 dx dy
    have hd := add_den_dvd hn0 (Nat.dvd_trans dx (Nat.dvd_mul_left _ _)) (Nat.dvd_trans dy (Nat.dvd_mul_right _ _))
    have h1 : x + y ≤ ((10 : Nat) : Rat) := by grind
    have h3 := num_le_of_le h1
    have h6 := Nat.le_of_dvd (by omega) hd
    exact ⟨rat_num_le (by grind), by omega, by omega⟩
  exact ⟨key _ _ b1.1 b2.1 (Rat.le_trans b1.2 h5) (Rat.le_trans b2.2 h5) d1 d2, key _ _ b1.1 b3.1 (Rat.le_trans b1.2 h5) (Rat.le_trans b3.2 h5) d1 d3⟩

set_option maxHeartbeats 1000000 in
theorem spec_HoldsPlain (A : Option Addr) (l : List Tk) (c : Nat) (w : World) (h : TS w A l) (hm : l.length ≤ maxLen) :
    Calls Try.prog 116 #[.slice A l.length c] w fun e w' => e = .returned (.bool (hldPlain l)) ∧ Below w.heap.size w w' := by
  cases hI : impl_ l with
  | false =>
    have Hf : Hid (hldPlain l = false) := by simp [Hid, hldPlain, hI]
    go_enter Try.func116, Try.ntmps116
    go_wp2_with fail
    refine (spec_Implicit A l c _ h hm).mono ?_
    rw [hI]
    rintro e w1 ⟨rfl, b1⟩
    go_wp2_with fail
    go_ret
    exact ⟨by rw [Hf.out]; rfl, b1⟩
  | true =>
    have hs := impl_vld hI
    have Hf : Hid (hldPlain l = fitsR (ua l + uh l)) := by simp [Hid, hldPlain, hI]
    have ea : Hid (sumV l false false = rv (ua l)) := sumV_yes hs false false
    have eh : Hid (sumV l true true = rv (uh l)) := sumV_yes hs true true
    have ra : Hid (RIn (ua l)) := RIn_shares hs false false
    have rh : Hid (RIn (uh l)) := RIn_shares hs true true
    have rs : Hid (RIn (ua l + uh l)) := (RIn_plain hs).1
    clear hs
    go_enter Try.func116, Try.ntmps116
    go_wp2_with fail
    refine (spec_Implicit A l c _ h hm).mono ?_
    rw [hI]
    rintro e w1 ⟨rfl, b1⟩
    go_wp2_with fail
    refine (spec_LowShare A l c false _ (h.keep b1) hm).mono ?_
    rw [ea.out]
    rintro e w2 ⟨rfl, b2⟩
    have B2 := bthru b1 b2
    go_wp2_with fail
    refine (spec_HighShare A l c _ (h.keep B2) hm).mono ?_
    rw [eh.out]
    rintro e w3 ⟨rfl, b3⟩
    have B3 := bthru B2 b3
    go_wp2_with fail
    refine (spec_l2Add (ua l) (uh l) _ ra.out rh.out rs.out).mono ?_
    rintro e w4 ⟨rfl, b4⟩
    have B4 := bthru B3 b4
    generalize ua l + uh l = r at *
    go_wp2_with fail
    have hB := heap_alloc_new w4 (.cells #[.int .i64 r.num, .int .i64 (r.den : Int)] 63 (0, 0))
    have hbl : w4.heap.size < (w4.alloc (.cells #[.int .i64 r.num, .int .i64 (r.den : Int)] 63 (0, 0))).heap.size := by simp
    have B5 := bal B4 (.cells #[.int .i64 r.num, .int .i64 (r.den : Int)] 63 (0, 0))
    generalize hg : World.alloc w4 _ = wx at hB hbl B5 ⊢
    clear hg
    have S_of : ∀ w' : World, Below wx.heap.size wx w' → w'.cell? ⟨w4.heap.size, 0, none⟩ = some (.int .i64 r.num) ∧ w'.cell? ⟨w4.heap.size, 1, none⟩ = some (.int .i64 (r.den : Int)) ∧ Below wx.heap.size wx w' := fun w' hw => by
      obtain ⟨h0, h1, _⟩ := blk_two ((hw.block _ hbl).trans hB)
      exact ⟨h0, h1, hw⟩
    clear hB
    have hq := Lib.hid (cmp1_le r)
    have hcb := cmp1_bd r
    go_region_held3 (fun w' => w'.cell? ⟨w4.heap.size, 0, none⟩ = some (.int .i64 r.num) ∧ w'.cell? ⟨w4.heap.size, 1, none⟩ = some (.int .i64 (r.den : Int)) ∧ Below wx.heap.size wx w')
      ((refine S_of _ ?_; first | assumption | exact Below.drew (Below.refl _ _) | exact (by assumption : _ ∧ _ ∧ Below wx.heap.size wx _).2.2))
      (first
        | (go_at_call 123; refine (spec_l5One _).mono ?_; rintro e w5 ⟨rfl, b5⟩; have B6 : Below wx.heap.size wx w5 := bthru (by first | assumption | exact (by assumption : _ ∧ _ ∧ Below wx.heap.size wx _).2.2) b5)
        | (go_at_call 122; refine (spec_Cmp1 r _ rs.out).mono ?_; rintro e w6 ⟨rfl, b6⟩; have B7 : Below wx.heap.size wx w6 := bthru (by first | assumption | exact (by assumption : _ ∧ _ ∧ Below wx.heap.size wx _).2.2) b6))
    all_goals go_wp2_with fail
    all_goals go_ret
    all_goals exact ⟨by rw [Hf.out, ← hq.out]; rfl, bthru B5 (by first | assumption | exact (by assumption : _ ∧ _ ∧ Below wx.heap.size wx _).2.2)⟩
end Go.Proofs.Ytnldiakjmhfodaa
