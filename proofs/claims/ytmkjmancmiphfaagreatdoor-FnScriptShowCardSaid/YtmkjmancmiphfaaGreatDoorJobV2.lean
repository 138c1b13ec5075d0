/-
  Which jobs are valid: the program's, whole.
-/
import Derived.Test.YtmkjmancmiphfaaGreatDoorJobVI
import Derived.Deep.QuietTactic
import Derived.BigQuiet
namespace Go.Proofs.YtmkjmancmiphfaaGreatDoor
open Go.RowKit

theorem jobsV_no {l : List Tk} {js : List Jb} {k : Nat} (hk : k < js.length) (h : jobOk l js k = false) : jobsV l js = false := by
  have : (List.range js.length).all (jobOk l js) = false := by
    rw [List.all_eq_false]
    exact ⟨k, List.mem_range.2 hk, by simp [h]⟩
  simp [jobsV, this]
theorem jobsV_yes {l : List Tk} {js : List Jb} (hS : setVld l = true) (h60 : js.length ≤ 60) (hall : ∀ i, i < js.length → jobOk l js i = true) : jobsV l js = true := by
  simp only [jobsV, hS, Bool.true_and, Bool.and_eq_true, decide_eq_true_eq, List.all_eq_true, List.mem_range]
  exact ⟨h60, hall⟩
theorem allTake_succ {js : List Jb} {p : Jb → Bool} {m : Nat} (hm : m < js.length) (h : (js.take m).all p = true) (h1 : p js[m] = true) : (js.take (m + 1)).all p = true := by
  rw [List.take_succ_eq_append_getElem hm, List.all_append, h]
  simp [h1]
theorem allTake_no {js : List Jb} {p : Jb → Bool} {m k : Nat} (hm : m < js.length) (hmk : m < k) (h1 : p js[m] = false) : (js.take k).all p = false := by
  rw [List.all_eq_false]
  exact ⟨js[m], List.mem_take_iff_getElem.2 ⟨m, by omega, rfl⟩, by simp [h1]⟩
set_option maxHeartbeats 4000000 in
set_option maxRecDepth 100000 in
theorem impl_JobsValid (A : Option Addr) (l : List Tk) (c : Nat) (B : Option Addr) (js : List Jb) (d : Nat) (w : World) (h : TS w A l) (g : JS w B js) (hjd : js.length ≤ d) (hjm : js.length ≤ maxLen) :
    Calls Tryz.prog 21 #[.slice A l.length c, .slice B js.length d] w fun e w' => e = .returned (.bool (jobsV l js)) ∧ Below w.heap.size w w' := by
  unfold maxLen at hjm
  cases hS : setVld l with
  | false =>
    have E : Hid (jobsV l js = false) := by simp [Hid, jobsV, hS]
    go_enter Tryz.func21, Tryz.ntmps21
    go_wp2_with fail
    refine (impl_SetValid A l c _ h).mono ?_
    rw [hS]
    rintro e w1 ⟨rfl, b1⟩
    go_wp2_with fail
    go_ret
    exact ⟨by rw [E.out]; rfl, b1⟩
  | true =>
    by_cases h60 : js.length ≤ 60
    case neg =>
      have e60 : decide ((60 : Int) < (js.length : Int)) = true := decide_eq_true (by omega)
      have E : Hid (jobsV l js = false) := by simp [Hid, jobsV, h60]
      go_enter Tryz.func21, Tryz.ntmps21
      go_wp2_with fail
      refine (impl_SetValid A l c _ h).mono ?_
      rw [hS]
      rintro e w1 ⟨rfl, b1⟩
      go_wp2_with fail
      go_ret
      exact ⟨by rw [E.out]; rfl, b1⟩
    have e60 : decide ((60 : Int) < (js.length : Int)) = false := decide_eq_false (by omega)
    obtain ⟨hl5, hall⟩ := setVld_all hS
    have HV := Lib.hid hall
    have HS := Lib.hid hS
    clear hS hall
    go_enter Tryz.func21, Tryz.ntmps21
    go_wp2_with fail
    refine (impl_SetValid A l c _ h).mono ?_
    rw [HS.out]
    rintro e w1 ⟨rfl, b1⟩
    go_wp2_with fail
    go_loopg [19] js.length (fun g i wr => ∃ k : Nat, g + k = js.length ∧ i = .int .i64 (k : Int) ∧ Hid (∀ i, i < k → jobOk l js i = true) ∧ Below w.heap.size w wr)
    case atStart => exact ⟨0, by omega, rfl, fun i hi => absurd hi (Nat.not_lt_zero _), b1⟩
    case round =>
      clear e60 b1
      obtain ⟨k, hgk, rfl, hall, hb⟩ := hrel
      by_cases hlt : k < js.length
      · obtain ⟨b, off, rfl, hbl, hc⟩ := g.keep hb (by omega)
        obtain ⟨k0, k1, k2⟩ := job_cells hc k hlt
        have hjk := jobAt_eq js k hlt
        generalize js[k] = J at k0 k1 k2 hjk
        obtain ⟨q, a, n⟩ := J
        have hT := heap_alloc_new wr (.cells #[.int .i64 q, .int .i64 a, .int .i64 n] 60 (0, 0))
        have hlT := (Array.getElem?_eq_some_iff.1 hT).1
        cases hJ : jobOfB l ⟨q, a, n⟩ with
        | false =>
          have HE : Hid (jobsV l js = false) := jobsV_no hlt (by simp [jobOk, hjk, hJ])
          have HJ := Lib.hid hJ
          clear hJ hc hjk
          go_wp2_with fail
          refine (impl_jobOf A l c ⟨q, a, n⟩ _ (h.keep (bal hb _))).mono ?_
          rw [HJ.out]
          rintro e w2 ⟨rfl, b2⟩
          go_wp2_with fail
          go_ret
          exact ⟨by rw [HE.out]; rfl, bthru (bal hb _) b2⟩
        | true =>
          have hJ2 := hJ
          simp only [jobOfB, Bool.and_eq_true, decide_eq_true_eq] at hJ2
          obtain ⟨⟨⟨⟨hp, ha0⟩, ha1⟩, hn0⟩, _⟩ := hJ2
          obtain ⟨_, _, hx, hq⟩ := plc_yes hp
          generalize q.toNat = x at hx hq
          subst hq
          have hev := vld_bd (HV.out _ (List.getElem_mem hx))
          rw [← tkAt_eq l x hx] at hev
          obtain ⟨_, _, _, _, hev⟩ := hev
          have hok : jobOk l js k = ((js.take k).all (farJ l ⟨(x : Int), a, n⟩) && (decide (k = 0) || befJ (jobAt js (k - 1)) ⟨(x : Int), a, n⟩)) := by
            simp only [jobOk, hjk, hJ, Bool.true_and]
          have HJ := Lib.hid hJ
          have HK := Lib.hid hok
          clear hJ hc hjk hp hok
          go_wp2_with fail
          refine (impl_jobOf A l c ⟨(x : Int), a, n⟩ _ (h.keep (bal hb _))).mono ?_
          rw [HJ.out]
          rintro e w2 ⟨rfl, b2⟩
          have hT2 := (b2.block _ hlT).trans hT
          have B2 := bthru (bal hb _) b2
          generalize wr.heap.size = nT at hT2 ⊢
          clear hT hlT k0 k1 k2 b2
          go_wp2_with fail
          go_loopg [32] k (fun g i wy => ∃ m : Nat, g + m = k ∧ i = .int .i64 (m : Int) ∧ Hid ((js.take m).all (farJ l ⟨(x : Int), a, n⟩) = true) ∧ Below w2.heap.size w2 wy)
          case atStart => exact ⟨0, by omega, rfl, by simp [Hid], Below.refl _ _⟩
          case round =>
            obtain ⟨m, hgm, rfl, hfar, hb2⟩ := hrel
            have B3 := bthru B2 hb2
            obtain ⟨h0, h1, h2⟩ := blk3 ((hb2.block _ (Array.getElem?_eq_some_iff.1 hT2).1).trans hT2)
            have hnl : nT < wr.heap.size := Nat.lt_of_lt_of_le (Array.getElem?_eq_some_iff.1 hT2).1 hb2.size
            obtain ⟨b', off', hbe, hbl2, hc2⟩ := g.keep B3 (by omega)
            cases hbe
            by_cases hmk : m < k
            · obtain ⟨m0, m1, m2⟩ := job_cells hc2 m (by omega)
              have hml : m < js.length := by omega
              have hfm : farJ l ⟨(x : Int), a, n⟩ js[m] = true → (js.take (m + 1)).all (farJ l ⟨(x : Int), a, n⟩) = true := allTake_succ hml hfar.out
              have hfn : farJ l ⟨(x : Int), a, n⟩ js[m] = false → (js.take k).all (farJ l ⟨(x : Int), a, n⟩) = false := allTake_no hml hmk
              have hJm := hall.out m hmk
              simp only [jobOk, jobOfB, jobAt_eq js m (show m < js.length by omega), Bool.and_eq_true, decide_eq_true_eq] at hJm
              obtain ⟨⟨⟨⟨⟨⟨_, hm0⟩, hm1⟩, _⟩, _⟩, _⟩, _⟩ := hJm
              generalize js[m] = Y at m0 m1 m2 hfm hfn hm0 hm1
              obtain ⟨q0, a0, n0⟩ := Y
              have hm0 : 0 ≤ a0 := hm0
              have hm1 : a0 ≤ 200 := hm1
              by_cases hq : q0 = (x : Int)
              · subst hq
                have qw : IntKind.i64.wrap (a - a0) = a - a0 := IntWalk.i64_in _ (by omega)
                have hxI : (x : Int) < (l.length : Int) := by omega
                by_cases hd : a - a0 < (tkAt l x).every
                · have HE : Hid (jobsV l js = false) := jobsV_no hlt (by rw [HK.out, hfn (by simp [farJ, hd])]; rfl)
                  have ed : decide (a - a0 < (tkAt l x).every) = true := decide_eq_true hd
                  clear hfm hfn hc2
                  obtain ⟨tb, toff, hte, htr, htc⟩ := h.keep B3 (by omega)
                  cases hte
                  obtain ⟨_, _, _, cy1, _⟩ := cells_tk htc x hx
                  clear htc
                  have hN := blk3 (heap_alloc_new wr (.cells #[.int .i64 (x : Int), .int .i64 a0, .int .i64 n0] 60 (0, 0)))
                  have hba := bal (Below.refl wr.heap.size wr) (.cells #[.int .i64 (x : Int), .int .i64 a0, .int .i64 n0] 60 (0, 0))
                  replace cy1 := (hba.cell (p := ⟨tb, toff + x * 5 + 3, none⟩) htr).trans cy1
                  replace h0 := (hba.cell (p := ⟨nT, 0, none⟩) hnl).trans h0
                  replace h1 := (hba.cell (p := ⟨nT, 1, none⟩) hnl).trans h1
                  replace h2 := (hba.cell (p := ⟨nT, 2, none⟩) hnl).trans h2
                  go_upto_region 11 with fail
                  generalize World.alloc wr _ = wa at hN hba h0 h1 h2 cy1 ⊢
                  generalize wr.heap.size = nB at hN ⊢
                  obtain ⟨y0, y1, y2⟩ := hN
                  go_quiet (fail)
                  go_wp2_with fail
                  go_ret
                  exact ⟨by rw [HE.out]; rfl, bdr (bthru B3 hba) _⟩
                · have HN := Lib.hid (hfm (by simp [farJ, hd]))
                  have ed : decide (a - a0 < (tkAt l x).every) = false := decide_eq_false hd
                  clear hfm hfn hc2
                  obtain ⟨tb, toff, hte, htr, htc⟩ := h.keep B3 (by omega)
                  cases hte
                  obtain ⟨_, _, _, cy1, _⟩ := cells_tk htc x hx
                  clear htc
                  have hN := blk3 (heap_alloc_new wr (.cells #[.int .i64 (x : Int), .int .i64 a0, .int .i64 n0] 60 (0, 0)))
                  have hba := bal (Below.refl wr.heap.size wr) (.cells #[.int .i64 (x : Int), .int .i64 a0, .int .i64 n0] 60 (0, 0))
                  replace cy1 := (hba.cell (p := ⟨tb, toff + x * 5 + 3, none⟩) htr).trans cy1
                  replace h0 := (hba.cell (p := ⟨nT, 0, none⟩) hnl).trans h0
                  replace h1 := (hba.cell (p := ⟨nT, 1, none⟩) hnl).trans h1
                  replace h2 := (hba.cell (p := ⟨nT, 2, none⟩) hnl).trans h2
                  go_upto_region 11 with fail
                  generalize World.alloc wr _ = wa at hN hba h0 h1 h2 cy1 ⊢
                  generalize wr.heap.size = nB at hN ⊢
                  obtain ⟨y0, y1, y2⟩ := hN
                  go_quiet (fail)
                  go_wp2_with fail
                  go_roundg (k - (m + 1))
                  case measure => omega
                  case rel => exact ⟨m + 1, by omega, by go_num, HN.out, bdr (bthru hb2 hba) _⟩
              · have HN := Lib.hid (hfm (by simp [farJ, hq]))
                have eq0 : (q0 == (x : Int)) = false := beq_eq_false_iff_ne.2 hq
                clear hfm hfn hc2 hq
                have hN := blk3 (heap_alloc_new wr (.cells #[.int .i64 q0, .int .i64 a0, .int .i64 n0] 60 (0, 0)))
                have hba := bal (Below.refl wr.heap.size wr) (.cells #[.int .i64 q0, .int .i64 a0, .int .i64 n0] 60 (0, 0))
                replace h0 := (hba.cell (p := ⟨nT, 0, none⟩) hnl).trans h0
                replace h1 := (hba.cell (p := ⟨nT, 1, none⟩) hnl).trans h1
                replace h2 := (hba.cell (p := ⟨nT, 2, none⟩) hnl).trans h2
                go_upto_region 11 with fail
                generalize World.alloc wr _ = wa at hN hba h0 h1 h2 ⊢
                generalize wr.heap.size = nB at hN ⊢
                obtain ⟨y0, y1, y2⟩ := hN
                go_quiet (fail)
                go_wp2_with fail
                go_roundg (k - (m + 1))
                case measure => omega
                case rel => exact ⟨m + 1, by omega, by go_num, HN.out, bdr (bthru hb2 hba) _⟩
            · obtain rfl : m = k := by omega
              have hK := HK.out
              rw [hfar.out, Bool.true_and] at hK
              have hnext : jobOk l js m = true → ∀ i, i < m + 1 → jobOk l js i = true := by
                intro h1 i hi
                by_cases e : i = m
                · rw [e]
                  exact h1
                · exact hall.out i (by omega)
              cases m with
              | zero =>
                have HN := Lib.hid (hnext (by rw [hK]; rfl))
                clear hK hnext hc2
                have e0 : decide ((0 : Int) < 0) = false := rfl
                have hcast : (((0 : Nat)) : Int) = 0 := rfl
                rw [hcast]
                go_wp2_with fail
                go_quiet (fail)
                go_wp2_with fail
                go_roundg (js.length - 1)
                case measure => omega
                case rel => exact ⟨1, by omega, by go_num, HN.out, bdr B3 _⟩
              | succ m =>
                obtain ⟨p0, p1, p2⟩ := job_cells hc2 m (by omega)
                rw [Nat.add_sub_cancel, jobAt_eq js m (by omega), show decide (m + 1 = 0) = false from rfl, Bool.false_or] at hK
                generalize js[m] = Y at p0 p1 p2 hK
                obtain ⟨q0, a0, n0⟩ := Y
                have e0 : decide ((0 : Int) < (m : Int) + 1) = true := decide_eq_true (by omega)
                have hcast : (((m + 1 : Nat)) : Int) = (m : Int) + 1 := rfl
                have qw : IntKind.i64.wrap ((m : Int) + 1 - 1) = (m : Int) := by rw [Int.add_sub_cancel]; exact IntWalk.i64_in _ (by omega)
                clear hc2
                by_cases h3 : a < a0
                · have HE : Hid (jobsV l js = false) := jobsV_no hlt (by rw [hK]; simp [befJ]; omega)
                  have e1 : decide (a < a0) = true := decide_eq_true h3
                  clear hK hnext h3
                  rw [hcast]
                  go_wp2_with fail
                  go_quiet (fail)
                  go_wp2_with fail
                  go_ret
                  exact ⟨by rw [HE.out]; rfl, bdr B3 _⟩
                · have e1 : decide (a < a0) = false := decide_eq_false h3
                  by_cases h4 : a0 = a
                  · subst h4
                    have e2 : (a0 == a0) = true := beq_self_eq_true _
                    by_cases h5 : (x : Int) ≤ q0
                    · have HE : Hid (jobsV l js = false) := jobsV_no hlt (by rw [hK]; simp [befJ]; omega)
                      have e3 : decide ((x : Int) ≤ q0) = true := decide_eq_true h5
                      clear hK hnext h3
                      rw [hcast]
                      go_wp2_with fail
                      go_quiet (fail)
                      go_wp2_with fail
                      go_ret
                      exact ⟨by rw [HE.out]; rfl, bdr B3 _⟩
                    · have HN := Lib.hid (hnext (by rw [hK]; simp [befJ]; omega))
                      have e3 : decide ((x : Int) ≤ q0) = false := decide_eq_false h5
                      clear hK hnext h3
                      rw [hcast]
                      go_wp2_with fail
                      go_quiet (fail)
                      go_wp2_with fail
                      go_roundg (js.length - (m + 2))
                      case measure => omega
                      case rel => exact ⟨m + 2, by omega, by go_num, HN.out, bdr B3 _⟩
                  · have HN := Lib.hid (hnext (by rw [hK]; simp [befJ]; omega))
                    have e2 : (a0 == a) = false := beq_eq_false_iff_ne.2 h4
                    clear hK hnext h3 h4
                    rw [hcast]
                    go_wp2_with fail
                    go_quiet (fail)
                    go_wp2_with fail
                    go_roundg (js.length - (m + 2))
                    case measure => omega
                    case rel => exact ⟨m + 2, by omega, by go_num, HN.out, bdr B3 _⟩
      · obtain rfl : k = js.length := by omega
        have HE : Hid (jobsV l js = true) := jobsV_yes HS.out h60 hall.out
        go_wp2_with fail
        go_ret
        exact ⟨by rw [HE.out]; rfl, hb⟩
end Go.Proofs.YtmkjmancmiphfaaGreatDoor
