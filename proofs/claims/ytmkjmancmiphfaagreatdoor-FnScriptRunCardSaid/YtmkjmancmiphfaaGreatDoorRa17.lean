/-
  Which jobs are valid: the reference's, whole. (Printed by gen_jobvs.py.)
-/
import Derived.Test.YtmkjmancmiphfaaGreatDoorRa16
import Derived.Test.YtmkjmancmiphfaaGreatDoorRa05
namespace Go.Proofs.YtmkjmancmiphfaaGreatDoor
open Go.RowKit

def lastL (l : List Tk) (js : List Jb) (k : Nat) : List Int := (List.range l.length).map (fun (t : Nat) => lastAt (js.take k) (t : Int))
theorem lastL_length (l : List Tk) (js : List Jb) (k : Nat) : (lastL l js k).length = l.length := by simp [lastL]
theorem lastL_at (l : List Tk) (js : List Jb) (k x : Nat) (h : x < l.length) : (lastL l js k)[x]? = some (lastAt (js.take k) (x : Int)) := by simp [lastL, h]
theorem lastL_zero (l : List Tk) (js : List Jb) : lastL l js 0 = List.replicate l.length (-20) := by
  apply List.ext_getElem?
  intro i
  by_cases h : i < l.length
  · rw [lastL_at l js 0 i h, List.getElem?_replicate, if_pos h]
    simp [lastAt]
  · simp [lastL, h]
theorem lastL_step (l : List Tk) (js : List Jb) (k x : Nat) (hk : k < js.length) (hx : js[k].task = (x : Int)) : (lastL l js k).set x js[k].at_ = lastL l js (k + 1) := by
  apply List.ext_getElem?
  intro i
  rw [List.getElem?_set]
  by_cases h : i < l.length
  · rw [lastL_at l js (k + 1) i h, List.take_succ_eq_append_getElem hk, lastAt_snoc, hx]
    by_cases e : x = i
    · subst e
      simp [lastL_length, h]
    · rw [if_neg e, lastL_at l js k i h, if_neg (by omega)]
  · have e : (lastL l js (k + 1))[i]? = none := by rw [List.getElem?_eq_none]; rw [lastL_length]; omega
    rw [e]
    split
    · rename_i e
      subst e
      simp [lastL_length, h]
    · rw [List.getElem?_eq_none]; rw [lastL_length]; omega
def fillL (n i : Nat) : List Int := List.replicate i (-20) ++ List.replicate (n - i) 0
theorem fillL_length {n i : Nat} (h : i ≤ n) : (fillL n i).length = n := by simp [fillL]; omega
theorem fillL_set {n i : Nat} (h : i < n) : (fillL n i).set i (-20) = fillL n (i + 1) := by
  unfold fillL
  obtain ⟨m, hm⟩ : ∃ m, n - i = m + 1 := ⟨n - i - 1, by omega⟩
  rw [List.set_append_right _ _ (by simp), hm, List.replicate_succ, show n - (i + 1) = m by omega]
  simp [List.replicate_succ']
theorem fillL_at {n i : Nat} (h : i < n) : (fillL n i)[i]? = some 0 := by
  unfold fillL
  rw [List.getElem?_append_right (by simp), List.length_replicate, Nat.sub_self, List.getElem?_replicate, if_pos (by omega)]
theorem lastAt_bd {l : List Tk} {js : List Jb} {k : Nat} (hk : k ≤ js.length) (hall : ∀ i, i < k → jobOk l js i = true) (t : Int) : -20 ≤ lastAt (js.take k) t ∧ lastAt (js.take k) t ≤ 200 := by
  rcases lastAt_or (js.take k) t with e | ⟨j, hj, _, e⟩
  · omega
  · obtain ⟨i, hi, rfl⟩ := List.getElem_of_mem hj
    rw [List.length_take] at hi
    have := hall i (by omega)
    rw [List.getElem_take] at e
    simp only [jobOk, jobOfB, jobAt_eq js i (by omega), Bool.and_eq_true, decide_eq_true_eq] at this
    omega
theorem OI_lt {base : Nat} {w : World} {b c : Nat} {l : List Int} (h : OI base w (some ⟨b, 0, none⟩) c l) : b < w.heap.size := by
  rcases h.2 with ⟨hv, _⟩ | ⟨g, cap, cur, hv, hg, hh, _⟩
  · cases hv
  · cases hv
    exact (Array.getElem?_eq_some_iff.1 hh).1
theorem jobs_no {l : List Tk} {js : List Jb} {k : Nat} (hk : k < js.length) (hall : ∀ i, i < k → jobOk l js i = true) (h : jobOkS l js k = false) : jobsV l js = false := by
  rw [← jobOk_iff hk hall] at h
  have : (List.range js.length).all (jobOk l js) = false := by
    rw [List.all_eq_false]
    exact ⟨k, List.mem_range.2 hk, by simp [h]⟩
  simp [jobsV, this]
theorem jobs_on {l : List Tk} {js : List Jb} {k : Nat} (hk : k < js.length) (hall : ∀ i, i < k → jobOk l js i = true) (h : jobOkS l js k = true) : ∀ i, i < k + 1 → jobOk l js i = true := by
  intro i hi
  by_cases e : i = k
  · subst e
    rw [jobOk_iff hk hall, h]
  · exact hall i (by omega)
theorem jobs_end {l : List Tk} {js : List Jb} (hS : setVld l = true) (h60 : js.length ≤ 60) (hall : ∀ i, i < js.length → jobOk l js i = true) : jobsV l js = true := by
  simp only [jobsV, hS, Bool.true_and, Bool.and_eq_true, decide_eq_true_eq, List.all_eq_true, List.mem_range]
  exact ⟨h60, hall⟩
theorem OI_set {base : Nat} {w : World} {b c : Nat} {l : List Int} (h : OI base w (some ⟨b, 0, none⟩) c l) (i : Nat) (x : Int) :
    OI base (w.setCell ⟨b, i, none⟩ (.int .i64 x)) (some ⟨b, 0, none⟩) c (l.set i x) ∧ w.grownBy (w.setCell ⟨b, i, none⟩ (.int .i64 x)) (some b) := by
  have h1 := World.ownsRow.stored h i (.int .i64 x)
  refine ⟨?_, h1.2⟩
  unfold OI
  rw [List.length_set, List.map_set]
  exact h1.1
theorem OI_cell {base : Nat} {w : World} {b c : Nat} {l : List Int} (h : OI base w (some ⟨b, 0, none⟩) c l) (i : Nat) (x : Int) (hx : l[i]? = some x) : w.cell? ⟨b, i, none⟩ = some (.int .i64 x) ∧ ∀ j, w.frozen? ⟨b, j, none⟩ = false := by
  have hi : i < l.length := (List.getElem?_eq_some_iff.1 hx).1
  obtain ⟨b', off, hA, _, hc⟩ := h.is (by omega)
  cases hA
  have := hc i x hx
  rw [Nat.zero_add] at this
  exact ⟨this, fun j => World.ownsRow.frozenAt h j⟩
set_option maxHeartbeats 4000000 in
set_option maxRecDepth 100000 in
theorem spec_JobsValid (A : Option Addr) (l : List Tk) (c : Nat) (B : Option Addr) (js : List Jb) (d : Nat) (w : World) (h : TS w A l) (g : JS w B js) (hm : l.length ≤ maxLen) (hj : js.length ≤ maxLen) :
    Calls Tryz.prog 22 #[.slice A l.length c, .slice B js.length d] w fun e w' => e = .returned (.bool (jobsV l js)) ∧ Below w.heap.size w w' := by
  unfold maxLen at hj
  cases hS : setVld l with
  | false =>
    have E : Hid (jobsV l js = false) := by simp [Hid, jobsV, hS]
    go_enter Tryz.func22, Tryz.ntmps22
    go_wp2_with fail
    refine (spec_SetValid A l c _ h hm).mono ?_
    rw [hS]
    rintro e w1 ⟨rfl, b1⟩
    go_wp2_with fail
    go_ret
    exact ⟨by rw [E.out]; rfl, b1⟩
  | true =>
    by_cases h60 : js.length ≤ 60
    case neg =>
      have e60 : decide ((60 : Int) < (js.length : Int)) = true := decide_eq_true (by omega)
      have E : Hid (jobsV l js = false) := by simp [Hid, jobsV, h60]
      go_enter Tryz.func22, Tryz.ntmps22
      go_wp2_with fail
      refine (spec_SetValid A l c _ h hm).mono ?_
      rw [hS]
      rintro e w1 ⟨rfl, b1⟩
      go_wp2_with fail
      go_ret
      exact ⟨by rw [E.out]; rfl, b1⟩
    have e60 : decide ((60 : Int) < (js.length : Int)) = false := decide_eq_false (by omega)
    obtain ⟨hl5, hall⟩ := setVld_all hS
    have HS := Lib.hid hS
    clear hS hall
    obtain ⟨i0, hi, hz0, hz1, hz2⟩ := info_parts infoIntB
    have hmk : ∀ w : World, (Instr.makeSlice 27 (.int .i64 (l.length : Int)) (.int .i64 (l.length : Int))).run Tryz.prog w = .ok (.slice (some ⟨w.heap.size, 0, none⟩) l.length l.length) (w.alloc (.cells (madeCells (Value.int .i64 0).cells (l.length * 1)) 3)) := by
      intro w
      have hb : (i0.bytes : Int) * (l.length : Int) ≤ 281474976710656 := by
        have h : i0.bytes * l.length ≤ 256 * 16777216 := Nat.mul_le_mul (by omega) (by omega)
        have h2 : ((i0.bytes * l.length : Nat) : Int) ≤ 281474976710656 := by omega
        rwa [Int.natCast_mul] at h2
      have hr := run_make (P := Tryz.prog) w 27 3 i0 _ Tryz.underlying27 hi hz0 .i64 .i64 l.length l.length (by omega) (by omega) hb (by omega)
      simp only [Int.toNat_natCast] at hr
      rw [← hz1]
      exact hr
    have hown : ∀ w : World, OI w.heap.size (w.alloc (.cells (madeCells (Value.int .i64 0).cells (l.length * 1)) 3)) (some ⟨w.heap.size, 0, none⟩) l.length (fillL l.length 0) := by
      intro w
      have := own_new (w := w) (t := 3) (size := 1) (n := l.length) (row := madeCells (Value.int .i64 0).cells (l.length * 1)) (by rw [size_madeCells]) (by omega)
      unfold OI
      rw [made0] at this
      rw [fillL_length (by omega)]
      simpa [fillL] using this
    have HO := Lib.hid hown
    clear hown hi hz0 hz1 hz2
    generalize madeCells (Value.int .i64 0).cells (l.length * 1) = row at hmk HO
    go_enter Tryz.func22, Tryz.ntmps22
    go_wp2_with fail
    refine (spec_SetValid A l c _ h hm).mono ?_
    rw [HS.out]
    rintro e w1 ⟨rfl, b1⟩
    go_wp2_with fail
    have hO1 : OI w.heap.size (w1.alloc (.cells row 3)) (some ⟨w1.heap.size, 0, none⟩) l.length (fillL l.length 0) := own_base (HO.out w1) b1.size
    have hB1 := bal b1 (.cells row 3)
    clear hmk HO
    have hlb : w.heap.size ≤ w1.heap.size := b1.size
    generalize w1.heap.size = lb at hO1 hlb ⊢
    go_loopw [6] (fun i wr => ∃ k : Nat, i = .int .i64 (k : Int) ∧ k ≤ l.length ∧ OI w.heap.size wr (some ⟨lb, 0, none⟩) l.length (fillL l.length k) ∧ Below w.heap.size w wr) (fun i _ => l.length - (intOf i).toNat)
    case atStart => exact ⟨0, rfl, by omega, hO1, hB1⟩
    case round =>
      clear hO1 hB1
      obtain ⟨k, rfl, hk, hO, hb⟩ := hrel
      by_cases hlt : k < l.length
      · have oset := OI_set hO k (-20)
        have fr := fun j => World.ownsRow.frozenAt hO j
        rw [fillL_set hlt] at oset
        obtain ⟨ck, _⟩ := OI_cell hO k 0 (fillL_at hlt)
        have hb2 : Below w.heap.size w (wr.setCell ⟨lb, k, none⟩ (.int .i64 (-20))) := hb.setCell (p := ⟨lb, k, none⟩) hlb _
        go_wp2_with fail
        go_roundw
        case rel => exact ⟨k + 1, by go_num, by omega, oset.1, hb2⟩
        case measure => simp [intOf]; omega
      · obtain rfl : k = l.length := by omega
        have e0 : fillL l.length l.length = lastL l js 0 := by rw [lastL_zero]; simp [fillL]
        rw [e0] at hO
        clear e0
        go_wp2_with fail
        go_loopw [7] (fun i wr => ∃ k : Nat, i = .int .i64 (k : Int) ∧ k ≤ js.length ∧ Hid (∀ i, i < k → jobOk l js i = true) ∧ OI w.heap.size wr (some ⟨lb, 0, none⟩) l.length (lastL l js k) ∧ Below w.heap.size w wr) (fun i _ => js.length - (intOf i).toNat)
        case atStart => exact ⟨0, rfl, by omega, fun i hi => absurd hi (Nat.not_lt_zero _), hO, hb⟩
        case round =>
          clear hO hb hlt
          obtain ⟨k, rfl, hk, hall, hO, hb⟩ := hrel
          by_cases hlt : k < js.length
          · obtain ⟨b, off, rfl, hbl, hc⟩ := g.keep hb (by omega)
            obtain ⟨k0, k1, k2⟩ := job_cells hc k hlt
            have hlr : lb < wr.heap.size := OI_lt hO
            have hjk := jobAt_eq js k hlt
            have hst := lastL_step l js k
            generalize hjj : js[k] = J at k0 k1 k2 hjk
            obtain ⟨q, a, n⟩ := J
            cases hJ : jobOfB l ⟨q, a, n⟩ with
            | false =>
              have HE : Hid (jobsV l js = false) := jobs_no hlt hall.out (by simp [jobOkS, hjk, hJ])
              have HJ := Lib.hid hJ
              clear hJ hc hst hjk hjj
              go_upto_region 12 with fail
              have hT := heap_alloc_new wr (.cells #[.int .i64 q, .int .i64 a, .int .i64 n] 60 (0, 0))
              have hba := bal (Below.refl wr.heap.size wr) (.cells #[.int .i64 q, .int .i64 a, .int .i64 n] 60 (0, 0))
              have hOa := OI_alloc hO (.cells #[.int .i64 q, .int .i64 a, .int .i64 n] 60 (0, 0))
              generalize World.alloc wr _ = wa at hT hba hOa ⊢
              obtain ⟨nT, hnT⟩ : ∃ nT, wr.heap.size = nT := ⟨_, rfl⟩
              rw [hnT] at hT ⊢
              have hlT := (Array.getElem?_eq_some_iff.1 hT).1
              have hTSof : ∀ {w' : World}, Below wa.heap.size wa w' → TS w' A l := fun hw => h.keep (bthru hb (bthru hba hw))
              have hSof : ∀ {w' : World}, Below wa.heap.size wa w' → w'.cell? ⟨nT, 0, none⟩ = some (.int .i64 q) ∧ w'.cell? ⟨nT, 1, none⟩ = some (.int .i64 a) ∧ w'.cell? ⟨nT, 2, none⟩ = some (.int .i64 n) := by
                intro w' hw
                obtain ⟨h0, h1, h2⟩ := blk3 ((hw.block nT hlT).trans hT)
                exact ⟨h0, h1, h2⟩
              refine wp_region_held (S := fun w' => w'.cell? ⟨nT, 0, none⟩ = some (.int .i64 q) ∧ w'.cell? ⟨nT, 1, none⟩ = some (.int .i64 a) ∧ w'.cell? ⟨nT, 2, none⟩ = some (.int .i64 n)) (by kernel_rfl) ?_
              change wpAnyH _ _ _ _ _ _ _ _ (World.drew _)
              have Kz : Below wa.heap.size wa (World.drew wa) := Below.drew (Below.refl _ _)
              have hS0 := hSof Kz
              refine takeHL (i := 0) 39 (.slice A l.length c) rfl rfl (by kernel_rfl) (by kernel_rfl) (by kernel_rfl) (fun _ _ _ h => h) (.inl ⟨by rfl, fun _ _ => rfl⟩) hS0 ?_
              simp only [List.set_cons_succ, List.set_cons_zero]
              refine takeHL (i := 1) 40 (.agg #[.int .i64 q, .int .i64 a, .int .i64 n]) rfl rfl (by kernel_rfl) (by kernel_rfl) (by kernel_rfl) (fun _ _ _ h => h) (.inl ⟨by rfl, fun w hS => by obtain ⟨h0, h1, h2⟩ := hS; go_simp⟩) hS0 ?_
              simp only [List.set_cons_succ, List.set_cons_zero]
              refine callHL 2 41 rfl rfl (by kernel_rfl) (by rfl) 56 Tryz.func56 (by kernel_rfl) rfl _ _ rfl #[.slice A l.length c, .agg #[.int .i64 q, .int .i64 a, .int .i64 n]] ?hv (spec_l6Job _ l c ⟨q, a, n⟩ _ (hTSof Kz) HS.out) ?_
              case hv => simp [Act.eval]
              rw [HJ.out]
              rintro e v1 ⟨rfl, k1⟩
              have K1 : Below wa.heap.size wa v1 := bthru Kz k1
              have S1 := hSof K1
              refine ⟨_, rfl, S1, ?_⟩
              simp only [List.set_cons_succ, List.set_cons_zero]
              refine takeHL (i := 3) 42 (.bool true) rfl rfl (by kernel_rfl) (by kernel_rfl) (by kernel_rfl) (fun _ _ _ h => h) (.inl ⟨by rfl, fun w _ => by go_simp⟩) S1 ?_
              simp only [List.set_cons_succ, List.set_cons_zero]
              refine takeHL (i := 4) 43 (.bool true) rfl rfl (by kernel_rfl) (by kernel_rfl) (by kernel_rfl) (fun _ _ _ h => h) (.inl ⟨by rfl, fun _ _ => rfl⟩) S1 ?_
              simp only [List.set_cons_succ, List.set_cons_zero]
              refine takeHL (i := 5) 44 undef rfl rfl (by kernel_rfl) (by kernel_rfl) (by kernel_rfl) (fun _ _ _ h => h) (.inr ⟨by rfl, rfl⟩) S1 ?_
              simp only [List.set_cons_succ, List.set_cons_zero]
              refine takeHL (i := 6) 45 undef rfl rfl (by kernel_rfl) (by kernel_rfl) (by kernel_rfl) (fun _ _ _ h => h) (.inr ⟨by rfl, rfl⟩) S1 ?_
              simp only [List.set_cons_succ, List.set_cons_zero]
              refine takeHL (i := 7) 46 undef rfl rfl (by kernel_rfl) (by kernel_rfl) (by kernel_rfl) (fun _ _ _ h => h) (.inr ⟨by rfl, rfl⟩) S1 ?_
              simp only [List.set_cons_succ, List.set_cons_zero]
              refine takeHL (i := 8) 47 undef rfl rfl (by kernel_rfl) (by kernel_rfl) (by kernel_rfl) (fun _ _ _ h => h) (.inr ⟨by rfl, rfl⟩) S1 ?_
              simp only [List.set_cons_succ, List.set_cons_zero]
              refine takeHL (i := 9) 48 undef rfl rfl (by kernel_rfl) (by kernel_rfl) (by kernel_rfl) (fun _ _ _ h => h) (.inr ⟨by rfl, rfl⟩) S1 ?_
              simp only [List.set_cons_succ, List.set_cons_zero]
              refine takeHL (i := 10) 49 undef rfl rfl (by kernel_rfl) (by kernel_rfl) (by kernel_rfl) (fun _ _ _ h => h) (.inr ⟨by rfl, rfl⟩) S1 ?_
              simp only [List.set_cons_succ, List.set_cons_zero]
              refine takeHL (i := 11) 50 undef rfl rfl (by kernel_rfl) (by kernel_rfl) (by kernel_rfl) (fun _ _ _ h => h) (.inr ⟨by rfl, rfl⟩) S1 ?_
              simp only [List.set_cons_succ, List.set_cons_zero]
              refine takeHL (i := 12) 51 undef rfl rfl (by kernel_rfl) (by kernel_rfl) (by kernel_rfl) (fun _ _ _ h => h) (.inr ⟨by rfl, rfl⟩) S1 ?_
              simp only [List.set_cons_succ, List.set_cons_zero]
              refine takeHL (i := 13) 52 undef rfl rfl (by kernel_rfl) (by kernel_rfl) (by kernel_rfl) (fun _ _ _ h => h) (.inr ⟨by rfl, rfl⟩) S1 ?_
              simp only [List.set_cons_succ, List.set_cons_zero]
              refine takeHL (i := 14) 53 undef rfl rfl (by kernel_rfl) (by kernel_rfl) (by kernel_rfl) (fun _ _ _ h => h) (.inr ⟨by rfl, rfl⟩) S1 ?_
              simp only [List.set_cons_succ, List.set_cons_zero]
              refine takeHL (i := 15) 54 undef rfl rfl (by kernel_rfl) (by kernel_rfl) (by kernel_rfl) (fun _ _ _ h => h) (.inr ⟨by rfl, rfl⟩) S1 ?_
              simp only [List.set_cons_succ, List.set_cons_zero]
              refine takeHL (i := 16) 55 undef rfl rfl (by kernel_rfl) (by kernel_rfl) (by kernel_rfl) (fun _ _ _ h => h) (.inr ⟨by rfl, rfl⟩) S1 ?_
              simp only [List.set_cons_succ, List.set_cons_zero]
              refine takeHL (i := 17) 56 (.bool true) rfl rfl (by kernel_rfl) (by kernel_rfl) (by kernel_rfl) (fun _ _ _ h => h) (.inl ⟨by rfl, fun w _ => by go_simp⟩) S1 ?_
              simp only [List.set_cons_succ, List.set_cons_zero]
              refine takeHL (i := 18) 57 (.bool true) rfl rfl (by kernel_rfl) (by kernel_rfl) (by kernel_rfl) (fun _ _ _ h => h) (.inl ⟨by rfl, fun _ _ => rfl⟩) S1 ?_
              simp only [List.set_cons_succ, List.set_cons_zero]
              refine takeHL (i := 19) 58 undef rfl rfl (by kernel_rfl) (by kernel_rfl) (by kernel_rfl) (fun _ _ _ h => h) (.inr ⟨by rfl, rfl⟩) S1 ?_
              simp only [List.set_cons_succ, List.set_cons_zero]
              refine takeHL (i := 20) 59 undef rfl rfl (by kernel_rfl) (by kernel_rfl) (by kernel_rfl) (fun _ _ _ h => h) (.inr ⟨by rfl, rfl⟩) S1 ?_
              simp only [List.set_cons_succ, List.set_cons_zero]
              refine takeHL (i := 21) 60 undef rfl rfl (by kernel_rfl) (by kernel_rfl) (by kernel_rfl) (fun _ _ _ h => h) (.inr ⟨by rfl, rfl⟩) S1 ?_
              simp only [List.set_cons_succ, List.set_cons_zero]
              refine takeHL (i := 22) 61 undef rfl rfl (by kernel_rfl) (by kernel_rfl) (by kernel_rfl) (fun _ _ _ h => h) (.inr ⟨by rfl, rfl⟩) S1 ?_
              simp only [List.set_cons_succ, List.set_cons_zero]
              refine takeHL (i := 23) 62 undef rfl rfl (by kernel_rfl) (by kernel_rfl) (by kernel_rfl) (fun _ _ _ h => h) (.inr ⟨by rfl, rfl⟩) S1 ?_
              simp only [List.set_cons_succ, List.set_cons_zero]
              refine takeHL (i := 24) 63 undef rfl rfl (by kernel_rfl) (by kernel_rfl) (by kernel_rfl) (fun _ _ _ h => h) (.inr ⟨by rfl, rfl⟩) S1 ?_
              simp only [List.set_cons_succ, List.set_cons_zero]
              refine takeHL (i := 25) 64 undef rfl rfl (by kernel_rfl) (by kernel_rfl) (by kernel_rfl) (fun _ _ _ h => h) (.inr ⟨by rfl, rfl⟩) S1 ?_
              simp only [List.set_cons_succ, List.set_cons_zero]
              refine takeHL (i := 26) 65 undef rfl rfl (by kernel_rfl) (by kernel_rfl) (by kernel_rfl) (fun _ _ _ h => h) (.inr ⟨by rfl, rfl⟩) S1 ?_
              simp only [List.set_cons_succ, List.set_cons_zero]
              refine takeHL (i := 27) 66 undef rfl rfl (by kernel_rfl) (by kernel_rfl) (by kernel_rfl) (fun _ _ _ h => h) (.inr ⟨by rfl, rfl⟩) S1 ?_
              simp only [List.set_cons_succ, List.set_cons_zero]
              refine takeHL (i := 28) 67 undef rfl rfl (by kernel_rfl) (by kernel_rfl) (by kernel_rfl) (fun _ _ _ h => h) (.inr ⟨by rfl, rfl⟩) S1 ?_
              simp only [List.set_cons_succ, List.set_cons_zero]
              refine takeHL (i := 29) 68 undef rfl rfl (by kernel_rfl) (by kernel_rfl) (by kernel_rfl) (fun _ _ _ h => h) (.inr ⟨by rfl, rfl⟩) S1 ?_
              simp only [List.set_cons_succ, List.set_cons_zero]
              refine takeHL (i := 30) 69 undef rfl rfl (by kernel_rfl) (by kernel_rfl) (by kernel_rfl) (fun _ _ _ h => h) (.inr ⟨by rfl, rfl⟩) S1 ?_
              simp only [List.set_cons_succ, List.set_cons_zero]
              refine takeHL (i := 31) 70 undef rfl rfl (by kernel_rfl) (by kernel_rfl) (by kernel_rfl) (fun _ _ _ h => h) (.inr ⟨by rfl, rfl⟩) S1 ?_
              simp only [List.set_cons_succ, List.set_cons_zero]
              refine takeHL (i := 32) 71 undef rfl rfl (by kernel_rfl) (by kernel_rfl) (by kernel_rfl) (fun _ _ _ h => h) (.inr ⟨by rfl, rfl⟩) S1 ?_
              simp only [List.set_cons_succ, List.set_cons_zero]
              refine takeHL (i := 33) 72 undef rfl rfl (by kernel_rfl) (by kernel_rfl) (by kernel_rfl) (fun _ _ _ h => h) (.inr ⟨by rfl, rfl⟩) S1 ?_
              simp only [List.set_cons_succ, List.set_cons_zero]
              refine takeHL (i := 34) 73 (.bool true) rfl rfl (by kernel_rfl) (by kernel_rfl) (by kernel_rfl) (fun _ _ _ h => h) (.inl ⟨by rfl, fun w _ => by go_simp⟩) S1 ?_
              simp only [List.set_cons_succ, List.set_cons_zero]
              refine wpAnyH_done (by kernel_rfl) ?_ _
              go_wp2_with fail
              go_ret
              exact ⟨by rw [HE.out]; rfl, bthru hb (bthru hba K1)⟩
            | true =>
              have hJ2 := hJ
              simp only [jobOfB, Bool.and_eq_true, decide_eq_true_eq] at hJ2
              obtain ⟨⟨⟨⟨hp, ha0⟩, ha1⟩, hn0⟩, _⟩ := hJ2
              obtain ⟨_, _, hx, hq⟩ := plc_yes hp
              generalize q.toNat = x at hx hq
              subst hq
              obtain ⟨tb, toff, rfl, htr, htc⟩ := h.keep hb (by omega)
              obtain ⟨_, _, _, cy1, _⟩ := cells_tk htc x hx
              have hset := lastL_step l js k x hlt (by rw [hjj])
              rw [hjj] at hset
              have hLb := lastAt_bd (by omega) hall.out (x : Int)
              have hLx := lastL_at l js k x hx
              obtain ⟨L, hL⟩ : ∃ L, lastAt (js.take k) (x : Int) = L := ⟨_, rfl⟩
              rw [hL] at hLb hLx
              obtain ⟨hLb0, hLb1⟩ := hLb
              obtain ⟨cy0, _⟩ := OI_cell hO x L hLx
              have HL := Lib.hid hset
              have HJ := Lib.hid hJ
              have hok0 : k = 0 ∨ befJ (jobAt js (k - 1)) ⟨(x : Int), a, n⟩ = true → jobOkS l js k = !decide (a - L < (tkAt l x).every) := by
                intro hor
                have : (decide (k = 0) || befJ (jobAt js (k - 1)) ⟨(x : Int), a, n⟩) = true := by simpa using hor
                simp only [jobOkS, hjk, hJ, this, hL, Int.toNat_natCast, Bool.and_self, Bool.true_and]
              have hno0 : k ≠ 0 → befJ (jobAt js (k - 1)) ⟨(x : Int), a, n⟩ = false → jobOkS l js k = false := by
                intro h0 h1
                simp [jobOkS, hjk, h0, h1]
              clear htc hst hjk hjj hset hp hLx hJ hL
              have htv : (tkAt l x).every ≤ 20 := (vld_bd (tkAt_vld HS.out hx)).2.2.2.2
              cases k with
              | zero =>
                have hok := hok0 (.inl rfl)
                clear hok0 hno0 hc
                simp only [Nat.zero_mul, Nat.add_zero] at k0 k1 k2
                have hcast : (((0 : Nat)) : Int) = 0 := rfl
                rw [hcast]
                by_cases hD : a - L < (tkAt l x).every
                · have HE : Hid (jobsV l js = false) := jobs_no hlt hall.out (by rw [hok]; simp [hD])
                  clear hok
                  go_upto_region 12 with fail
                  have hT := heap_alloc_new wr (.cells #[.int .i64 (x : Int), .int .i64 a, .int .i64 n] 60 (0, 0))
                  have hba := bal (Below.refl wr.heap.size wr) (.cells #[.int .i64 (x : Int), .int .i64 a, .int .i64 n] 60 (0, 0))
                  have hOa := OI_alloc hO (.cells #[.int .i64 (x : Int), .int .i64 a, .int .i64 n] 60 (0, 0))
                  generalize World.alloc wr _ = wa at hT hba hOa ⊢
                  obtain ⟨nT, hnT⟩ : ∃ nT, wr.heap.size = nT := ⟨_, rfl⟩
                  rw [hnT] at hT ⊢
                  have hlT := (Array.getElem?_eq_some_iff.1 hT).1
                  have hTSof : ∀ {w' : World}, Below wa.heap.size wa w' → TS w' (some ⟨tb, toff, none⟩) l := fun hw => h.keep (bthru hb (bthru hba hw))
                  have hlw : lb < wa.heap.size := Nat.lt_of_lt_of_le hlr hba.size
                  have htw : tb < wa.heap.size := Nat.lt_of_lt_of_le htr hba.size
                  have hSof : ∀ {w' : World}, Below wa.heap.size wa w' → w'.cell? ⟨nT, 0, none⟩ = some (.int .i64 (x : Int)) ∧ w'.cell? ⟨nT, 1, none⟩ = some (.int .i64 a) ∧ w'.cell? ⟨nT, 2, none⟩ = some (.int .i64 n) ∧ w'.cell? ⟨lb, x, none⟩ = some (.int .i64 L) ∧ w'.cell? ⟨tb, toff + x * 5 + 3, none⟩ = some (.int .i64 (tkAt l x).every) := by
                    intro w' hw
                    obtain ⟨h0, h1, h2⟩ := blk3 ((hw.block nT hlT).trans hT)
                    exact ⟨h0, h1, h2, (hw.cell (p := ⟨lb, x, none⟩) hlw).trans ((hba.cell (p := ⟨lb, x, none⟩) hlr).trans cy0), (hw.cell (p := ⟨tb, toff + x * 5 + 3, none⟩) htw).trans ((hba.cell (p := ⟨tb, toff + x * 5 + 3, none⟩) htr).trans cy1)⟩
                  refine wp_region_held (S := fun w' => w'.cell? ⟨nT, 0, none⟩ = some (.int .i64 (x : Int)) ∧ w'.cell? ⟨nT, 1, none⟩ = some (.int .i64 a) ∧ w'.cell? ⟨nT, 2, none⟩ = some (.int .i64 n) ∧ w'.cell? ⟨lb, x, none⟩ = some (.int .i64 L) ∧ w'.cell? ⟨tb, toff + x * 5 + 3, none⟩ = some (.int .i64 (tkAt l x).every)) (by kernel_rfl) ?_
                  change wpAnyH _ _ _ _ _ _ _ _ (World.drew _)
                  have Kz : Below wa.heap.size wa (World.drew wa) := Below.drew (Below.refl _ _)
                  have hS0 := hSof Kz
                  refine takeHL (i := 0) 39 (.slice (some ⟨tb, toff, none⟩) (l.length) c) rfl rfl (by kernel_rfl) (by kernel_rfl) (by kernel_rfl) (fun _ _ _ h => h) (.inl ⟨by rfl, fun _ _ => rfl⟩) hS0 ?_
                  simp only [List.set_cons_succ, List.set_cons_zero]
                  refine takeHL (i := 1) 40 (.agg #[.int .i64 (x : Int), .int .i64 a, .int .i64 n]) rfl rfl (by kernel_rfl) (by kernel_rfl) (by kernel_rfl) (fun _ _ _ h => h) (.inl ⟨by rfl, fun w hS => by obtain ⟨h0, h1, h2, y0, y1⟩ := hS; go_simp⟩) hS0 ?_
                  simp only [List.set_cons_succ, List.set_cons_zero]
                  refine callHL 2 41 rfl rfl (by kernel_rfl) (by rfl) 56 Tryz.func56 (by kernel_rfl) rfl _ _ rfl #[.slice (some ⟨tb, toff, none⟩) (l.length) c, .agg #[.int .i64 (x : Int), .int .i64 a, .int .i64 n]] ?hv (spec_l6Job _ l c ⟨(x : Int), a, n⟩ _ (hTSof Kz) HS.out) ?_
                  case hv => simp [Act.eval]
                  rw [HJ.out]
                  rintro e v1 ⟨rfl, k1⟩
                  have K1 : Below wa.heap.size wa v1 := bthru Kz k1
                  have S1 := hSof K1
                  refine ⟨_, rfl, S1, ?_⟩
                  simp only [List.set_cons_succ, List.set_cons_zero]
                  refine takeHL (i := 3) 42 (.bool false) rfl rfl (by kernel_rfl) (by kernel_rfl) (by kernel_rfl) (fun _ _ _ h => h) (.inl ⟨by rfl, fun w _ => by go_simp⟩) S1 ?_
                  simp only [List.set_cons_succ, List.set_cons_zero]
                  refine takeHL (i := 4) 43 (.bool false) rfl rfl (by kernel_rfl) (by kernel_rfl) (by kernel_rfl) (fun _ _ _ h => h) (.inl ⟨by rfl, fun _ _ => rfl⟩) S1 ?_
                  simp only [List.set_cons_succ, List.set_cons_zero]
                  refine takeHL (i := 5) 44 (.int .i64 (0)) rfl rfl (by kernel_rfl) (by kernel_rfl) (by kernel_rfl) (fun _ _ _ h => h) (.inl ⟨by rfl, fun _ _ => rfl⟩) S1 ?_
                  simp only [List.set_cons_succ, List.set_cons_zero]
                  refine takeHL (i := 6) 45 (.bool false) rfl rfl (by kernel_rfl) (by kernel_rfl) (by kernel_rfl) (fun _ _ _ h => h) (.inl ⟨by rfl, fun w _ => by go_simp <;> (first | omega | exact IntWalk.i64_in _ (by omega))⟩) S1 ?_
                  simp only [List.set_cons_succ, List.set_cons_zero]
                  refine takeHL (i := 7) 46 (.bool false) rfl rfl (by kernel_rfl) (by kernel_rfl) (by kernel_rfl) (fun _ _ _ h => h) (.inl ⟨by rfl, fun _ _ => rfl⟩) S1 ?_
                  simp only [List.set_cons_succ, List.set_cons_zero]
                  refine takeHL (i := 8) 47 undef rfl rfl (by kernel_rfl) (by kernel_rfl) (by kernel_rfl) (fun _ _ _ h => h) (.inr ⟨by rfl, rfl⟩) S1 ?_
                  simp only [List.set_cons_succ, List.set_cons_zero]
                  refine takeHL (i := 9) 48 undef rfl rfl (by kernel_rfl) (by kernel_rfl) (by kernel_rfl) (fun _ _ _ h => h) (.inr ⟨by rfl, rfl⟩) S1 ?_
                  simp only [List.set_cons_succ, List.set_cons_zero]
                  refine takeHL (i := 10) 49 undef rfl rfl (by kernel_rfl) (by kernel_rfl) (by kernel_rfl) (fun _ _ _ h => h) (.inr ⟨by rfl, rfl⟩) S1 ?_
                  simp only [List.set_cons_succ, List.set_cons_zero]
                  refine takeHL (i := 11) 50 undef rfl rfl (by kernel_rfl) (by kernel_rfl) (by kernel_rfl) (fun _ _ _ h => h) (.inr ⟨by rfl, rfl⟩) S1 ?_
                  simp only [List.set_cons_succ, List.set_cons_zero]
                  refine takeHL (i := 12) 51 undef rfl rfl (by kernel_rfl) (by kernel_rfl) (by kernel_rfl) (fun _ _ _ h => h) (.inr ⟨by rfl, rfl⟩) S1 ?_
                  simp only [List.set_cons_succ, List.set_cons_zero]
                  refine takeHL (i := 13) 52 undef rfl rfl (by kernel_rfl) (by kernel_rfl) (by kernel_rfl) (fun _ _ _ h => h) (.inr ⟨by rfl, rfl⟩) S1 ?_
                  simp only [List.set_cons_succ, List.set_cons_zero]
                  refine takeHL (i := 14) 53 undef rfl rfl (by kernel_rfl) (by kernel_rfl) (by kernel_rfl) (fun _ _ _ h => h) (.inr ⟨by rfl, rfl⟩) S1 ?_
                  simp only [List.set_cons_succ, List.set_cons_zero]
                  refine takeHL (i := 15) 54 undef rfl rfl (by kernel_rfl) (by kernel_rfl) (by kernel_rfl) (fun _ _ _ h => h) (.inr ⟨by rfl, rfl⟩) S1 ?_
                  simp only [List.set_cons_succ, List.set_cons_zero]
                  refine takeHL (i := 16) 55 (.bool false) rfl rfl (by kernel_rfl) (by kernel_rfl) (by kernel_rfl) (fun _ _ _ h => h) (.inl ⟨by rfl, fun w _ => by go_simp⟩) S1 ?_
                  simp only [List.set_cons_succ, List.set_cons_zero]
                  refine takeHL (i := 17) 56 (.bool false) rfl rfl (by kernel_rfl) (by kernel_rfl) (by kernel_rfl) (fun _ _ _ h => h) (.inl ⟨by rfl, fun w _ => by go_simp⟩) S1 ?_
                  simp only [List.set_cons_succ, List.set_cons_zero]
                  refine takeHL (i := 18) 57 (.bool false) rfl rfl (by kernel_rfl) (by kernel_rfl) (by kernel_rfl) (fun _ _ _ h => h) (.inl ⟨by rfl, fun _ _ => rfl⟩) S1 ?_
                  simp only [List.set_cons_succ, List.set_cons_zero]
                  refine takeHL (i := 19) 58 (.pointer (some ⟨nT, 1, none⟩)) rfl rfl (by kernel_rfl) (by kernel_rfl) (by kernel_rfl) (fun _ _ _ h => h) (.inl ⟨by rfl, fun w _ => by go_simp⟩) S1 ?_
                  simp only [List.set_cons_succ, List.set_cons_zero]
                  refine takeHL (i := 20) 59 (.int .i64 (a)) rfl rfl (by kernel_rfl) (by kernel_rfl) (by kernel_rfl) (fun _ _ _ h => h) (.inl ⟨by rfl, fun w hS => by obtain ⟨h0, h1, h2, y0, y1⟩ := hS; go_simp⟩) S1 ?_
                  simp only [List.set_cons_succ, List.set_cons_zero]
                  refine takeHL (i := 21) 60 (.slice (some ⟨lb, 0, none⟩) (l.length) l.length) rfl rfl (by kernel_rfl) (by kernel_rfl) (by kernel_rfl) (fun _ _ _ h => h) (.inl ⟨by rfl, fun _ _ => rfl⟩) S1 ?_
                  simp only [List.set_cons_succ, List.set_cons_zero]
                  refine takeHL (i := 22) 61 (.pointer (some ⟨nT, 0, none⟩)) rfl rfl (by kernel_rfl) (by kernel_rfl) (by kernel_rfl) (fun _ _ _ h => h) (.inl ⟨by rfl, fun w _ => by go_simp⟩) S1 ?_
                  simp only [List.set_cons_succ, List.set_cons_zero]
                  refine takeHL (i := 23) 62 (.int .i64 ((x : Int))) rfl rfl (by kernel_rfl) (by kernel_rfl) (by kernel_rfl) (fun _ _ _ h => h) (.inl ⟨by rfl, fun w hS => by obtain ⟨h0, h1, h2, y0, y1⟩ := hS; go_simp⟩) S1 ?_
                  simp only [List.set_cons_succ, List.set_cons_zero]
                  refine takeHL (i := 24) 63 (.pointer (some ⟨lb, x, none⟩)) rfl rfl (by kernel_rfl) (by kernel_rfl) (by kernel_rfl) (fun _ _ _ h => h) (.inl ⟨by rfl, fun w _ => by go_simp <;> (first | omega | (simp; omega))⟩) S1 ?_
                  simp only [List.set_cons_succ, List.set_cons_zero]
                  refine takeHL (i := 25) 64 (.int .i64 (L)) rfl rfl (by kernel_rfl) (by kernel_rfl) (by kernel_rfl) (fun _ _ _ h => h) (.inl ⟨by rfl, fun w hS => by obtain ⟨h0, h1, h2, y0, y1⟩ := hS; go_simp⟩) S1 ?_
                  simp only [List.set_cons_succ, List.set_cons_zero]
                  refine takeHL (i := 26) 65 (.int .i64 (a - L)) rfl rfl (by kernel_rfl) (by kernel_rfl) (by kernel_rfl) (fun _ _ _ h => h) (.inl ⟨by rfl, fun w _ => by go_simp <;> (first | omega | exact IntWalk.i64_in _ (by omega))⟩) S1 ?_
                  simp only [List.set_cons_succ, List.set_cons_zero]
                  refine takeHL (i := 27) 66 (.slice (some ⟨tb, toff, none⟩) (l.length) c) rfl rfl (by kernel_rfl) (by kernel_rfl) (by kernel_rfl) (fun _ _ _ h => h) (.inl ⟨by rfl, fun _ _ => rfl⟩) S1 ?_
                  simp only [List.set_cons_succ, List.set_cons_zero]
                  refine takeHL (i := 28) 67 (.pointer (some ⟨nT, 0, none⟩)) rfl rfl (by kernel_rfl) (by kernel_rfl) (by kernel_rfl) (fun _ _ _ h => h) (.inl ⟨by rfl, fun w _ => by go_simp⟩) S1 ?_
                  simp only [List.set_cons_succ, List.set_cons_zero]
                  refine takeHL (i := 29) 68 (.int .i64 ((x : Int))) rfl rfl (by kernel_rfl) (by kernel_rfl) (by kernel_rfl) (fun _ _ _ h => h) (.inl ⟨by rfl, fun w hS => by obtain ⟨h0, h1, h2, y0, y1⟩ := hS; go_simp⟩) S1 ?_
                  simp only [List.set_cons_succ, List.set_cons_zero]
                  refine takeHL (i := 30) 69 (.pointer (some ⟨tb, toff + x * 5, none⟩)) rfl rfl (by kernel_rfl) (by kernel_rfl) (by kernel_rfl) (fun _ _ _ h => h) (.inl ⟨by rfl, fun w _ => by go_simp <;> (first | omega | (simp; omega))⟩) S1 ?_
                  simp only [List.set_cons_succ, List.set_cons_zero]
                  refine takeHL (i := 31) 70 (.pointer (some ⟨tb, toff + x * 5 + 3, none⟩)) rfl rfl (by kernel_rfl) (by kernel_rfl) (by kernel_rfl) (fun _ _ _ h => h) (.inl ⟨by rfl, fun w _ => by go_simp⟩) S1 ?_
                  simp only [List.set_cons_succ, List.set_cons_zero]
                  refine takeHL (i := 32) 71 (.int .i64 ((tkAt l x).every)) rfl rfl (by kernel_rfl) (by kernel_rfl) (by kernel_rfl) (fun _ _ _ h => h) (.inl ⟨by rfl, fun w hS => by obtain ⟨h0, h1, h2, y0, y1⟩ := hS; go_simp⟩) S1 ?_
                  simp only [List.set_cons_succ, List.set_cons_zero]
                  refine takeHL (i := 33) 72 (.bool true) rfl rfl (by kernel_rfl) (by kernel_rfl) (by kernel_rfl) (fun _ _ _ h => h) (.inl ⟨by rfl, fun w _ => by go_simp <;> (first | omega | exact IntWalk.i64_in _ (by omega))⟩) S1 ?_
                  simp only [List.set_cons_succ, List.set_cons_zero]
                  refine takeHL (i := 34) 73 (.bool true) rfl rfl (by kernel_rfl) (by kernel_rfl) (by kernel_rfl) (fun _ _ _ h => h) (.inl ⟨by rfl, fun w _ => by go_simp⟩) S1 ?_
                  simp only [List.set_cons_succ, List.set_cons_zero]
                  refine wpAnyH_done (by kernel_rfl) ?_ _
                  go_wp2_with fail
                  go_ret
                  exact ⟨by rw [HE.out]; rfl, bthru hb (bthru hba K1)⟩
                · have HN : Hid (∀ i, i < 0 + 1 → jobOk l js i = true) := jobs_on hlt hall.out (by rw [hok]; simp [hD])
                  clear hok
                  go_upto_region 12 with fail
                  have hT := heap_alloc_new wr (.cells #[.int .i64 (x : Int), .int .i64 a, .int .i64 n] 60 (0, 0))
                  have hba := bal (Below.refl wr.heap.size wr) (.cells #[.int .i64 (x : Int), .int .i64 a, .int .i64 n] 60 (0, 0))
                  have hOa := OI_alloc hO (.cells #[.int .i64 (x : Int), .int .i64 a, .int .i64 n] 60 (0, 0))
                  generalize World.alloc wr _ = wa at hT hba hOa ⊢
                  obtain ⟨nT, hnT⟩ : ∃ nT, wr.heap.size = nT := ⟨_, rfl⟩
                  rw [hnT] at hT ⊢
                  have hlT := (Array.getElem?_eq_some_iff.1 hT).1
                  have hTSof : ∀ {w' : World}, Below wa.heap.size wa w' → TS w' (some ⟨tb, toff, none⟩) l := fun hw => h.keep (bthru hb (bthru hba hw))
                  have hlw : lb < wa.heap.size := Nat.lt_of_lt_of_le hlr hba.size
                  have htw : tb < wa.heap.size := Nat.lt_of_lt_of_le htr hba.size
                  have hSof : ∀ {w' : World}, Below wa.heap.size wa w' → w'.cell? ⟨nT, 0, none⟩ = some (.int .i64 (x : Int)) ∧ w'.cell? ⟨nT, 1, none⟩ = some (.int .i64 a) ∧ w'.cell? ⟨nT, 2, none⟩ = some (.int .i64 n) ∧ w'.cell? ⟨lb, x, none⟩ = some (.int .i64 L) ∧ w'.cell? ⟨tb, toff + x * 5 + 3, none⟩ = some (.int .i64 (tkAt l x).every) := by
                    intro w' hw
                    obtain ⟨h0, h1, h2⟩ := blk3 ((hw.block nT hlT).trans hT)
                    exact ⟨h0, h1, h2, (hw.cell (p := ⟨lb, x, none⟩) hlw).trans ((hba.cell (p := ⟨lb, x, none⟩) hlr).trans cy0), (hw.cell (p := ⟨tb, toff + x * 5 + 3, none⟩) htw).trans ((hba.cell (p := ⟨tb, toff + x * 5 + 3, none⟩) htr).trans cy1)⟩
                  refine wp_region_held (S := fun w' => w'.cell? ⟨nT, 0, none⟩ = some (.int .i64 (x : Int)) ∧ w'.cell? ⟨nT, 1, none⟩ = some (.int .i64 a) ∧ w'.cell? ⟨nT, 2, none⟩ = some (.int .i64 n) ∧ w'.cell? ⟨lb, x, none⟩ = some (.int .i64 L) ∧ w'.cell? ⟨tb, toff + x * 5 + 3, none⟩ = some (.int .i64 (tkAt l x).every)) (by kernel_rfl) ?_
                  change wpAnyH _ _ _ _ _ _ _ _ (World.drew _)
                  have Kz : Below wa.heap.size wa (World.drew wa) := Below.drew (Below.refl _ _)
                  have hS0 := hSof Kz
                  refine takeHL (i := 0) 39 (.slice (some ⟨tb, toff, none⟩) (l.length) c) rfl rfl (by kernel_rfl) (by kernel_rfl) (by kernel_rfl) (fun _ _ _ h => h) (.inl ⟨by rfl, fun _ _ => rfl⟩) hS0 ?_
                  simp only [List.set_cons_succ, List.set_cons_zero]
                  refine takeHL (i := 1) 40 (.agg #[.int .i64 (x : Int), .int .i64 a, .int .i64 n]) rfl rfl (by kernel_rfl) (by kernel_rfl) (by kernel_rfl) (fun _ _ _ h => h) (.inl ⟨by rfl, fun w hS => by obtain ⟨h0, h1, h2, y0, y1⟩ := hS; go_simp⟩) hS0 ?_
                  simp only [List.set_cons_succ, List.set_cons_zero]
                  refine callHL 2 41 rfl rfl (by kernel_rfl) (by rfl) 56 Tryz.func56 (by kernel_rfl) rfl _ _ rfl #[.slice (some ⟨tb, toff, none⟩) (l.length) c, .agg #[.int .i64 (x : Int), .int .i64 a, .int .i64 n]] ?hv (spec_l6Job _ l c ⟨(x : Int), a, n⟩ _ (hTSof Kz) HS.out) ?_
                  case hv => simp [Act.eval]
                  rw [HJ.out]
                  rintro e v1 ⟨rfl, k1⟩
                  have K1 : Below wa.heap.size wa v1 := bthru Kz k1
                  have S1 := hSof K1
                  refine ⟨_, rfl, S1, ?_⟩
                  simp only [List.set_cons_succ, List.set_cons_zero]
                  refine takeHL (i := 3) 42 (.bool false) rfl rfl (by kernel_rfl) (by kernel_rfl) (by kernel_rfl) (fun _ _ _ h => h) (.inl ⟨by rfl, fun w _ => by go_simp⟩) S1 ?_
                  simp only [List.set_cons_succ, List.set_cons_zero]
                  refine takeHL (i := 4) 43 (.bool false) rfl rfl (by kernel_rfl) (by kernel_rfl) (by kernel_rfl) (fun _ _ _ h => h) (.inl ⟨by rfl, fun _ _ => rfl⟩) S1 ?_
                  simp only [List.set_cons_succ, List.set_cons_zero]
                  refine takeHL (i := 5) 44 (.int .i64 (0)) rfl rfl (by kernel_rfl) (by kernel_rfl) (by kernel_rfl) (fun _ _ _ h => h) (.inl ⟨by rfl, fun _ _ => rfl⟩) S1 ?_
                  simp only [List.set_cons_succ, List.set_cons_zero]
                  refine takeHL (i := 6) 45 (.bool false) rfl rfl (by kernel_rfl) (by kernel_rfl) (by kernel_rfl) (fun _ _ _ h => h) (.inl ⟨by rfl, fun w _ => by go_simp <;> (first | omega | exact IntWalk.i64_in _ (by omega))⟩) S1 ?_
                  simp only [List.set_cons_succ, List.set_cons_zero]
                  refine takeHL (i := 7) 46 (.bool false) rfl rfl (by kernel_rfl) (by kernel_rfl) (by kernel_rfl) (fun _ _ _ h => h) (.inl ⟨by rfl, fun _ _ => rfl⟩) S1 ?_
                  simp only [List.set_cons_succ, List.set_cons_zero]
                  refine takeHL (i := 8) 47 undef rfl rfl (by kernel_rfl) (by kernel_rfl) (by kernel_rfl) (fun _ _ _ h => h) (.inr ⟨by rfl, rfl⟩) S1 ?_
                  simp only [List.set_cons_succ, List.set_cons_zero]
                  refine takeHL (i := 9) 48 undef rfl rfl (by kernel_rfl) (by kernel_rfl) (by kernel_rfl) (fun _ _ _ h => h) (.inr ⟨by rfl, rfl⟩) S1 ?_
                  simp only [List.set_cons_succ, List.set_cons_zero]
                  refine takeHL (i := 10) 49 undef rfl rfl (by kernel_rfl) (by kernel_rfl) (by kernel_rfl) (fun _ _ _ h => h) (.inr ⟨by rfl, rfl⟩) S1 ?_
                  simp only [List.set_cons_succ, List.set_cons_zero]
                  refine takeHL (i := 11) 50 undef rfl rfl (by kernel_rfl) (by kernel_rfl) (by kernel_rfl) (fun _ _ _ h => h) (.inr ⟨by rfl, rfl⟩) S1 ?_
                  simp only [List.set_cons_succ, List.set_cons_zero]
                  refine takeHL (i := 12) 51 undef rfl rfl (by kernel_rfl) (by kernel_rfl) (by kernel_rfl) (fun _ _ _ h => h) (.inr ⟨by rfl, rfl⟩) S1 ?_
                  simp only [List.set_cons_succ, List.set_cons_zero]
                  refine takeHL (i := 13) 52 undef rfl rfl (by kernel_rfl) (by kernel_rfl) (by kernel_rfl) (fun _ _ _ h => h) (.inr ⟨by rfl, rfl⟩) S1 ?_
                  simp only [List.set_cons_succ, List.set_cons_zero]
                  refine takeHL (i := 14) 53 undef rfl rfl (by kernel_rfl) (by kernel_rfl) (by kernel_rfl) (fun _ _ _ h => h) (.inr ⟨by rfl, rfl⟩) S1 ?_
                  simp only [List.set_cons_succ, List.set_cons_zero]
                  refine takeHL (i := 15) 54 undef rfl rfl (by kernel_rfl) (by kernel_rfl) (by kernel_rfl) (fun _ _ _ h => h) (.inr ⟨by rfl, rfl⟩) S1 ?_
                  simp only [List.set_cons_succ, List.set_cons_zero]
                  refine takeHL (i := 16) 55 (.bool false) rfl rfl (by kernel_rfl) (by kernel_rfl) (by kernel_rfl) (fun _ _ _ h => h) (.inl ⟨by rfl, fun w _ => by go_simp⟩) S1 ?_
                  simp only [List.set_cons_succ, List.set_cons_zero]
                  refine takeHL (i := 17) 56 (.bool false) rfl rfl (by kernel_rfl) (by kernel_rfl) (by kernel_rfl) (fun _ _ _ h => h) (.inl ⟨by rfl, fun w _ => by go_simp⟩) S1 ?_
                  simp only [List.set_cons_succ, List.set_cons_zero]
                  refine takeHL (i := 18) 57 (.bool false) rfl rfl (by kernel_rfl) (by kernel_rfl) (by kernel_rfl) (fun _ _ _ h => h) (.inl ⟨by rfl, fun _ _ => rfl⟩) S1 ?_
                  simp only [List.set_cons_succ, List.set_cons_zero]
                  refine takeHL (i := 19) 58 (.pointer (some ⟨nT, 1, none⟩)) rfl rfl (by kernel_rfl) (by kernel_rfl) (by kernel_rfl) (fun _ _ _ h => h) (.inl ⟨by rfl, fun w _ => by go_simp⟩) S1 ?_
                  simp only [List.set_cons_succ, List.set_cons_zero]
                  refine takeHL (i := 20) 59 (.int .i64 (a)) rfl rfl (by kernel_rfl) (by kernel_rfl) (by kernel_rfl) (fun _ _ _ h => h) (.inl ⟨by rfl, fun w hS => by obtain ⟨h0, h1, h2, y0, y1⟩ := hS; go_simp⟩) S1 ?_
                  simp only [List.set_cons_succ, List.set_cons_zero]
                  refine takeHL (i := 21) 60 (.slice (some ⟨lb, 0, none⟩) (l.length) l.length) rfl rfl (by kernel_rfl) (by kernel_rfl) (by kernel_rfl) (fun _ _ _ h => h) (.inl ⟨by rfl, fun _ _ => rfl⟩) S1 ?_
                  simp only [List.set_cons_succ, List.set_cons_zero]
                  refine takeHL (i := 22) 61 (.pointer (some ⟨nT, 0, none⟩)) rfl rfl (by kernel_rfl) (by kernel_rfl) (by kernel_rfl) (fun _ _ _ h => h) (.inl ⟨by rfl, fun w _ => by go_simp⟩) S1 ?_
                  simp only [List.set_cons_succ, List.set_cons_zero]
                  refine takeHL (i := 23) 62 (.int .i64 ((x : Int))) rfl rfl (by kernel_rfl) (by kernel_rfl) (by kernel_rfl) (fun _ _ _ h => h) (.inl ⟨by rfl, fun w hS => by obtain ⟨h0, h1, h2, y0, y1⟩ := hS; go_simp⟩) S1 ?_
                  simp only [List.set_cons_succ, List.set_cons_zero]
                  refine takeHL (i := 24) 63 (.pointer (some ⟨lb, x, none⟩)) rfl rfl (by kernel_rfl) (by kernel_rfl) (by kernel_rfl) (fun _ _ _ h => h) (.inl ⟨by rfl, fun w _ => by go_simp <;> (first | omega | (simp; omega))⟩) S1 ?_
                  simp only [List.set_cons_succ, List.set_cons_zero]
                  refine takeHL (i := 25) 64 (.int .i64 (L)) rfl rfl (by kernel_rfl) (by kernel_rfl) (by kernel_rfl) (fun _ _ _ h => h) (.inl ⟨by rfl, fun w hS => by obtain ⟨h0, h1, h2, y0, y1⟩ := hS; go_simp⟩) S1 ?_
                  simp only [List.set_cons_succ, List.set_cons_zero]
                  refine takeHL (i := 26) 65 (.int .i64 (a - L)) rfl rfl (by kernel_rfl) (by kernel_rfl) (by kernel_rfl) (fun _ _ _ h => h) (.inl ⟨by rfl, fun w _ => by go_simp <;> (first | omega | exact IntWalk.i64_in _ (by omega))⟩) S1 ?_
                  simp only [List.set_cons_succ, List.set_cons_zero]
                  refine takeHL (i := 27) 66 (.slice (some ⟨tb, toff, none⟩) (l.length) c) rfl rfl (by kernel_rfl) (by kernel_rfl) (by kernel_rfl) (fun _ _ _ h => h) (.inl ⟨by rfl, fun _ _ => rfl⟩) S1 ?_
                  simp only [List.set_cons_succ, List.set_cons_zero]
                  refine takeHL (i := 28) 67 (.pointer (some ⟨nT, 0, none⟩)) rfl rfl (by kernel_rfl) (by kernel_rfl) (by kernel_rfl) (fun _ _ _ h => h) (.inl ⟨by rfl, fun w _ => by go_simp⟩) S1 ?_
                  simp only [List.set_cons_succ, List.set_cons_zero]
                  refine takeHL (i := 29) 68 (.int .i64 ((x : Int))) rfl rfl (by kernel_rfl) (by kernel_rfl) (by kernel_rfl) (fun _ _ _ h => h) (.inl ⟨by rfl, fun w hS => by obtain ⟨h0, h1, h2, y0, y1⟩ := hS; go_simp⟩) S1 ?_
                  simp only [List.set_cons_succ, List.set_cons_zero]
                  refine takeHL (i := 30) 69 (.pointer (some ⟨tb, toff + x * 5, none⟩)) rfl rfl (by kernel_rfl) (by kernel_rfl) (by kernel_rfl) (fun _ _ _ h => h) (.inl ⟨by rfl, fun w _ => by go_simp <;> (first | omega | (simp; omega))⟩) S1 ?_
                  simp only [List.set_cons_succ, List.set_cons_zero]
                  refine takeHL (i := 31) 70 (.pointer (some ⟨tb, toff + x * 5 + 3, none⟩)) rfl rfl (by kernel_rfl) (by kernel_rfl) (by kernel_rfl) (fun _ _ _ h => h) (.inl ⟨by rfl, fun w _ => by go_simp⟩) S1 ?_
                  simp only [List.set_cons_succ, List.set_cons_zero]
                  refine takeHL (i := 32) 71 (.int .i64 ((tkAt l x).every)) rfl rfl (by kernel_rfl) (by kernel_rfl) (by kernel_rfl) (fun _ _ _ h => h) (.inl ⟨by rfl, fun w hS => by obtain ⟨h0, h1, h2, y0, y1⟩ := hS; go_simp⟩) S1 ?_
                  simp only [List.set_cons_succ, List.set_cons_zero]
                  refine takeHL (i := 33) 72 (.bool false) rfl rfl (by kernel_rfl) (by kernel_rfl) (by kernel_rfl) (fun _ _ _ h => h) (.inl ⟨by rfl, fun w _ => by go_simp <;> (first | omega | exact IntWalk.i64_in _ (by omega))⟩) S1 ?_
                  simp only [List.set_cons_succ, List.set_cons_zero]
                  refine takeHL (i := 34) 73 (.bool false) rfl rfl (by kernel_rfl) (by kernel_rfl) (by kernel_rfl) (fun _ _ _ h => h) (.inl ⟨by rfl, fun w _ => by go_simp⟩) S1 ?_
                  simp only [List.set_cons_succ, List.set_cons_zero]
                  refine wpAnyH_done (by kernel_rfl) ?_ _
                  have hOv := OI_keep hOa K1
                  have hSv := hSof K1
                  obtain ⟨h0, h1, h2, y0, y1⟩ := hSv
                  have Bv := bthru hb (bthru hba K1)
                  have oset := OI_set hOv x a
                  have fr := fun j => World.ownsRow.frozenAt hOv j
                  go_wp2_with fail
                  go_roundw
                  case rel => exact ⟨1, by go_num, by omega, HN.out, by rw [← HL.out]; exact oset.1, Bv.setCell (p := ⟨lb, x, none⟩) hlb _⟩
                  case measure => simp [intOf]; omega
              | succ m =>
                obtain ⟨cp0, cp1, cp2⟩ := job_cells hc m (by omega)
                have hjm := jobAt_eq js m (by omega)
                rw [Nat.add_sub_cancel] at hok0 hno0
                rw [hjm] at hok0 hno0
                clear hc hjm
                generalize js[m] = Y at cp0 cp1 cp2 hok0 hno0
                obtain ⟨q0, a0, n0⟩ := Y
                have hcast : (((m + 1 : Nat)) : Int) = (m : Int) + 1 := rfl
                rw [hcast]
                have qw : IntKind.i64.wrap ((m : Int) + 1 - 1) = (m : Int) := by rw [Int.add_sub_cancel]; exact IntWalk.i64_in _ (by omega)
                cases hB : befJ ⟨q0, a0, n0⟩ ⟨(x : Int), a, n⟩ with
                | false =>
                  have HE : Hid (jobsV l js = false) := jobs_no hlt hall.out (hno0 (by omega) hB)
                  have HB := Lib.hid hB
                  clear hB hok0 hno0
                  obtain ⟨q, hq⟩ : ∃ q : Int, (x : Int) = q := ⟨_, rfl⟩
                  rw [hq] at k0 HJ HB
                  go_upto_region 12 with fail
                  have hT := heap_alloc_new wr (.cells #[.int .i64 q, .int .i64 a, .int .i64 n] 60 (0, 0))
                  have hba := bal (Below.refl wr.heap.size wr) (.cells #[.int .i64 q, .int .i64 a, .int .i64 n] 60 (0, 0))
                  have hOa := OI_alloc hO (.cells #[.int .i64 q, .int .i64 a, .int .i64 n] 60 (0, 0))
                  generalize World.alloc wr _ = wa at hT hba hOa ⊢
                  obtain ⟨nT, hnT⟩ : ∃ nT, wr.heap.size = nT := ⟨_, rfl⟩
                  rw [hnT] at hT ⊢
                  have hlT := (Array.getElem?_eq_some_iff.1 hT).1
                  have hTSof : ∀ {w' : World}, Below wa.heap.size wa w' → TS w' (some ⟨tb, toff, none⟩) l := fun hw => h.keep (bthru hb (bthru hba hw))
                  have hbr : b < wr.heap.size := hbl
                  have hbw : b < wa.heap.size := Nat.lt_of_lt_of_le hbr hba.size
                  have hSof : ∀ {w' : World}, Below wa.heap.size wa w' → w'.cell? ⟨nT, 0, none⟩ = some (.int .i64 q) ∧ w'.cell? ⟨nT, 1, none⟩ = some (.int .i64 a) ∧ w'.cell? ⟨nT, 2, none⟩ = some (.int .i64 n) ∧ w'.cell? ⟨b, off + m * 3, none⟩ = some (.int .i64 q0) ∧ w'.cell? ⟨b, off + m * 3 + 1, none⟩ = some (.int .i64 a0) ∧ w'.cell? ⟨b, off + m * 3 + 2, none⟩ = some (.int .i64 n0) := by
                    intro w' hw
                    obtain ⟨h0, h1, h2⟩ := blk3 ((hw.block nT hlT).trans hT)
                    exact ⟨h0, h1, h2, (hw.cell (p := ⟨b, off + m * 3, none⟩) hbw).trans ((hba.cell (p := ⟨b, off + m * 3, none⟩) hbr).trans cp0), (hw.cell (p := ⟨b, off + m * 3 + 1, none⟩) hbw).trans ((hba.cell (p := ⟨b, off + m * 3 + 1, none⟩) hbr).trans cp1), (hw.cell (p := ⟨b, off + m * 3 + 2, none⟩) hbw).trans ((hba.cell (p := ⟨b, off + m * 3 + 2, none⟩) hbr).trans cp2)⟩
                  refine wp_region_held (S := fun w' => w'.cell? ⟨nT, 0, none⟩ = some (.int .i64 q) ∧ w'.cell? ⟨nT, 1, none⟩ = some (.int .i64 a) ∧ w'.cell? ⟨nT, 2, none⟩ = some (.int .i64 n) ∧ w'.cell? ⟨b, off + m * 3, none⟩ = some (.int .i64 q0) ∧ w'.cell? ⟨b, off + m * 3 + 1, none⟩ = some (.int .i64 a0) ∧ w'.cell? ⟨b, off + m * 3 + 2, none⟩ = some (.int .i64 n0)) (by kernel_rfl) ?_
                  change wpAnyH _ _ _ _ _ _ _ _ (World.drew _)
                  have Kz : Below wa.heap.size wa (World.drew wa) := Below.drew (Below.refl _ _)
                  have hS0 := hSof Kz
                  refine takeHL (i := 0) 39 (.slice (some ⟨tb, toff, none⟩) (l.length) c) rfl rfl (by kernel_rfl) (by kernel_rfl) (by kernel_rfl) (fun _ _ _ h => h) (.inl ⟨by rfl, fun _ _ => rfl⟩) hS0 ?_
                  simp only [List.set_cons_succ, List.set_cons_zero]
                  refine takeHL (i := 1) 40 (.agg #[.int .i64 q, .int .i64 a, .int .i64 n]) rfl rfl (by kernel_rfl) (by kernel_rfl) (by kernel_rfl) (fun _ _ _ h => h) (.inl ⟨by rfl, fun w hS => by obtain ⟨h0, h1, h2, p0, p1, p2⟩ := hS; go_simp⟩) hS0 ?_
                  simp only [List.set_cons_succ, List.set_cons_zero]
                  refine callHL 2 41 rfl rfl (by kernel_rfl) (by rfl) 56 Tryz.func56 (by kernel_rfl) rfl _ _ rfl #[.slice (some ⟨tb, toff, none⟩) (l.length) c, .agg #[.int .i64 q, .int .i64 a, .int .i64 n]] ?hv (spec_l6Job _ l c ⟨q, a, n⟩ _ (hTSof Kz) HS.out) ?_
                  case hv => simp [Act.eval]
                  rw [HJ.out]
                  rintro e v1 ⟨rfl, k1⟩
                  have K1 : Below wa.heap.size wa v1 := bthru Kz k1
                  have S1 := hSof K1
                  refine ⟨_, rfl, S1, ?_⟩
                  simp only [List.set_cons_succ, List.set_cons_zero]
                  refine takeHL (i := 3) 42 (.bool false) rfl rfl (by kernel_rfl) (by kernel_rfl) (by kernel_rfl) (fun _ _ _ h => h) (.inl ⟨by rfl, fun w _ => by go_simp⟩) S1 ?_
                  simp only [List.set_cons_succ, List.set_cons_zero]
                  refine takeHL (i := 4) 43 (.bool false) rfl rfl (by kernel_rfl) (by kernel_rfl) (by kernel_rfl) (fun _ _ _ h => h) (.inl ⟨by rfl, fun _ _ => rfl⟩) S1 ?_
                  simp only [List.set_cons_succ, List.set_cons_zero]
                  refine takeHL (i := 5) 44 (.int .i64 ((m : Int) + 1)) rfl rfl (by kernel_rfl) (by kernel_rfl) (by kernel_rfl) (fun _ _ _ h => h) (.inl ⟨by rfl, fun _ _ => rfl⟩) S1 ?_
                  simp only [List.set_cons_succ, List.set_cons_zero]
                  refine takeHL (i := 6) 45 (.bool true) rfl rfl (by kernel_rfl) (by kernel_rfl) (by kernel_rfl) (fun _ _ _ h => h) (.inl ⟨by rfl, fun w _ => by go_simp <;> (first | omega | exact IntWalk.i64_in _ (by omega))⟩) S1 ?_
                  simp only [List.set_cons_succ, List.set_cons_zero]
                  refine takeHL (i := 7) 46 (.bool true) rfl rfl (by kernel_rfl) (by kernel_rfl) (by kernel_rfl) (fun _ _ _ h => h) (.inl ⟨by rfl, fun _ _ => rfl⟩) S1 ?_
                  simp only [List.set_cons_succ, List.set_cons_zero]
                  refine takeHL (i := 8) 47 (.slice (some ⟨b, off, none⟩) (js.length) d) rfl rfl (by kernel_rfl) (by kernel_rfl) (by kernel_rfl) (fun _ _ _ h => h) (.inl ⟨by rfl, fun _ _ => rfl⟩) S1 ?_
                  simp only [List.set_cons_succ, List.set_cons_zero]
                  refine takeHL (i := 9) 48 (.int .i64 ((m : Int) + 1)) rfl rfl (by kernel_rfl) (by kernel_rfl) (by kernel_rfl) (fun _ _ _ h => h) (.inl ⟨by rfl, fun _ _ => rfl⟩) S1 ?_
                  simp only [List.set_cons_succ, List.set_cons_zero]
                  refine takeHL (i := 10) 49 (.int .i64 ((m : Int))) rfl rfl (by kernel_rfl) (by kernel_rfl) (by kernel_rfl) (fun _ _ _ h => h) (.inl ⟨by rfl, fun w _ => by go_simp <;> (first | omega | exact IntWalk.i64_in _ (by omega))⟩) S1 ?_
                  simp only [List.set_cons_succ, List.set_cons_zero]
                  refine takeHL (i := 11) 50 (.pointer (some ⟨b, off + m * 3, none⟩)) rfl rfl (by kernel_rfl) (by kernel_rfl) (by kernel_rfl) (fun _ _ _ h => h) (.inl ⟨by rfl, fun w _ => by go_simp <;> (first | omega | (simp; omega))⟩) S1 ?_
                  simp only [List.set_cons_succ, List.set_cons_zero]
                  refine takeHL (i := 12) 51 (.agg #[.int .i64 q0, .int .i64 a0, .int .i64 n0]) rfl rfl (by kernel_rfl) (by kernel_rfl) (by kernel_rfl) (fun _ _ _ h => h) (.inl ⟨by rfl, fun w hS => by obtain ⟨h0, h1, h2, p0, p1, p2⟩ := hS; go_simp⟩) S1 ?_
                  simp only [List.set_cons_succ, List.set_cons_zero]
                  refine takeHL (i := 13) 52 (.agg #[.int .i64 q, .int .i64 a, .int .i64 n]) rfl rfl (by kernel_rfl) (by kernel_rfl) (by kernel_rfl) (fun _ _ _ h => h) (.inl ⟨by rfl, fun w hS => by obtain ⟨h0, h1, h2, p0, p1, p2⟩ := hS; go_simp⟩) S1 ?_
                  simp only [List.set_cons_succ, List.set_cons_zero]
                  refine callHL 14 53 rfl rfl (by kernel_rfl) (by rfl) 57 Tryz.func57 (by kernel_rfl) rfl _ _ rfl #[.agg #[.int .i64 q0, .int .i64 a0, .int .i64 n0], .agg #[.int .i64 q, .int .i64 a, .int .i64 n]] ?hv (spec_l6Before ⟨q0, a0, n0⟩ ⟨q, a, n⟩ _) ?_
                  case hv => simp [Act.eval]
                  rw [HB.out]
                  rintro e v2 ⟨rfl, k2⟩
                  have K2 : Below wa.heap.size wa v2 := bthru K1 k2
                  have S2 := hSof K2
                  refine ⟨_, rfl, S2, ?_⟩
                  simp only [List.set_cons_succ, List.set_cons_zero]
                  refine takeHL (i := 15) 54 (.bool true) rfl rfl (by kernel_rfl) (by kernel_rfl) (by kernel_rfl) (fun _ _ _ h => h) (.inl ⟨by rfl, fun w _ => by go_simp⟩) S2 ?_
                  simp only [List.set_cons_succ, List.set_cons_zero]
                  refine takeHL (i := 16) 55 (.bool true) rfl rfl (by kernel_rfl) (by kernel_rfl) (by kernel_rfl) (fun _ _ _ h => h) (.inl ⟨by rfl, fun w _ => by go_simp⟩) S2 ?_
                  simp only [List.set_cons_succ, List.set_cons_zero]
                  refine takeHL (i := 17) 56 (.bool true) rfl rfl (by kernel_rfl) (by kernel_rfl) (by kernel_rfl) (fun _ _ _ h => h) (.inl ⟨by rfl, fun w _ => by go_simp⟩) S2 ?_
                  simp only [List.set_cons_succ, List.set_cons_zero]
                  refine takeHL (i := 18) 57 (.bool true) rfl rfl (by kernel_rfl) (by kernel_rfl) (by kernel_rfl) (fun _ _ _ h => h) (.inl ⟨by rfl, fun _ _ => rfl⟩) S2 ?_
                  simp only [List.set_cons_succ, List.set_cons_zero]
                  refine takeHL (i := 19) 58 undef rfl rfl (by kernel_rfl) (by kernel_rfl) (by kernel_rfl) (fun _ _ _ h => h) (.inr ⟨by rfl, rfl⟩) S2 ?_
                  simp only [List.set_cons_succ, List.set_cons_zero]
                  refine takeHL (i := 20) 59 undef rfl rfl (by kernel_rfl) (by kernel_rfl) (by kernel_rfl) (fun _ _ _ h => h) (.inr ⟨by rfl, rfl⟩) S2 ?_
                  simp only [List.set_cons_succ, List.set_cons_zero]
                  refine takeHL (i := 21) 60 undef rfl rfl (by kernel_rfl) (by kernel_rfl) (by kernel_rfl) (fun _ _ _ h => h) (.inr ⟨by rfl, rfl⟩) S2 ?_
                  simp only [List.set_cons_succ, List.set_cons_zero]
                  refine takeHL (i := 22) 61 undef rfl rfl (by kernel_rfl) (by kernel_rfl) (by kernel_rfl) (fun _ _ _ h => h) (.inr ⟨by rfl, rfl⟩) S2 ?_
                  simp only [List.set_cons_succ, List.set_cons_zero]
                  refine takeHL (i := 23) 62 undef rfl rfl (by kernel_rfl) (by kernel_rfl) (by kernel_rfl) (fun _ _ _ h => h) (.inr ⟨by rfl, rfl⟩) S2 ?_
                  simp only [List.set_cons_succ, List.set_cons_zero]
                  refine takeHL (i := 24) 63 undef rfl rfl (by kernel_rfl) (by kernel_rfl) (by kernel_rfl) (fun _ _ _ h => h) (.inr ⟨by rfl, rfl⟩) S2 ?_
                  simp only [List.set_cons_succ, List.set_cons_zero]
                  refine takeHL (i := 25) 64 undef rfl rfl (by kernel_rfl) (by kernel_rfl) (by kernel_rfl) (fun _ _ _ h => h) (.inr ⟨by rfl, rfl⟩) S2 ?_
                  simp only [List.set_cons_succ, List.set_cons_zero]
                  refine takeHL (i := 26) 65 undef rfl rfl (by kernel_rfl) (by kernel_rfl) (by kernel_rfl) (fun _ _ _ h => h) (.inr ⟨by rfl, rfl⟩) S2 ?_
                  simp only [List.set_cons_succ, List.set_cons_zero]
                  refine takeHL (i := 27) 66 undef rfl rfl (by kernel_rfl) (by kernel_rfl) (by kernel_rfl) (fun _ _ _ h => h) (.inr ⟨by rfl, rfl⟩) S2 ?_
                  simp only [List.set_cons_succ, List.set_cons_zero]
                  refine takeHL (i := 28) 67 undef rfl rfl (by kernel_rfl) (by kernel_rfl) (by kernel_rfl) (fun _ _ _ h => h) (.inr ⟨by rfl, rfl⟩) S2 ?_
                  simp only [List.set_cons_succ, List.set_cons_zero]
                  refine takeHL (i := 29) 68 undef rfl rfl (by kernel_rfl) (by kernel_rfl) (by kernel_rfl) (fun _ _ _ h => h) (.inr ⟨by rfl, rfl⟩) S2 ?_
                  simp only [List.set_cons_succ, List.set_cons_zero]
                  refine takeHL (i := 30) 69 undef rfl rfl (by kernel_rfl) (by kernel_rfl) (by kernel_rfl) (fun _ _ _ h => h) (.inr ⟨by rfl, rfl⟩) S2 ?_
                  simp only [List.set_cons_succ, List.set_cons_zero]
                  refine takeHL (i := 31) 70 undef rfl rfl (by kernel_rfl) (by kernel_rfl) (by kernel_rfl) (fun _ _ _ h => h) (.inr ⟨by rfl, rfl⟩) S2 ?_
                  simp only [List.set_cons_succ, List.set_cons_zero]
                  refine takeHL (i := 32) 71 undef rfl rfl (by kernel_rfl) (by kernel_rfl) (by kernel_rfl) (fun _ _ _ h => h) (.inr ⟨by rfl, rfl⟩) S2 ?_
                  simp only [List.set_cons_succ, List.set_cons_zero]
                  refine takeHL (i := 33) 72 undef rfl rfl (by kernel_rfl) (by kernel_rfl) (by kernel_rfl) (fun _ _ _ h => h) (.inr ⟨by rfl, rfl⟩) S2 ?_
                  simp only [List.set_cons_succ, List.set_cons_zero]
                  refine takeHL (i := 34) 73 (.bool true) rfl rfl (by kernel_rfl) (by kernel_rfl) (by kernel_rfl) (fun _ _ _ h => h) (.inl ⟨by rfl, fun w _ => by go_simp⟩) S2 ?_
                  simp only [List.set_cons_succ, List.set_cons_zero]
                  refine wpAnyH_done (by kernel_rfl) ?_ _
                  go_wp2_with fail
                  go_ret
                  exact ⟨by rw [HE.out]; rfl, bthru hb (bthru hba K2)⟩
                | true =>
                  have hok := hok0 (.inr hB)
                  have HB := Lib.hid hB
                  clear hB hok0 hno0
                  by_cases hD : a - L < (tkAt l x).every
                  · have HE : Hid (jobsV l js = false) := jobs_no hlt hall.out (by rw [hok]; simp [hD])
                    clear hok
                    go_upto_region 12 with fail
                    have hT := heap_alloc_new wr (.cells #[.int .i64 (x : Int), .int .i64 a, .int .i64 n] 60 (0, 0))
                    have hba := bal (Below.refl wr.heap.size wr) (.cells #[.int .i64 (x : Int), .int .i64 a, .int .i64 n] 60 (0, 0))
                    have hOa := OI_alloc hO (.cells #[.int .i64 (x : Int), .int .i64 a, .int .i64 n] 60 (0, 0))
                    generalize World.alloc wr _ = wa at hT hba hOa ⊢
                    obtain ⟨nT, hnT⟩ : ∃ nT, wr.heap.size = nT := ⟨_, rfl⟩
                    rw [hnT] at hT ⊢
                    have hlT := (Array.getElem?_eq_some_iff.1 hT).1
                    have hTSof : ∀ {w' : World}, Below wa.heap.size wa w' → TS w' (some ⟨tb, toff, none⟩) l := fun hw => h.keep (bthru hb (bthru hba hw))
                    have hbr : b < wr.heap.size := hbl
                    have hbw : b < wa.heap.size := Nat.lt_of_lt_of_le hbr hba.size
                    have hlw : lb < wa.heap.size := Nat.lt_of_lt_of_le hlr hba.size
                    have htw : tb < wa.heap.size := Nat.lt_of_lt_of_le htr hba.size
                    have hSof : ∀ {w' : World}, Below wa.heap.size wa w' → w'.cell? ⟨nT, 0, none⟩ = some (.int .i64 (x : Int)) ∧ w'.cell? ⟨nT, 1, none⟩ = some (.int .i64 a) ∧ w'.cell? ⟨nT, 2, none⟩ = some (.int .i64 n) ∧ w'.cell? ⟨b, off + m * 3, none⟩ = some (.int .i64 q0) ∧ w'.cell? ⟨b, off + m * 3 + 1, none⟩ = some (.int .i64 a0) ∧ w'.cell? ⟨b, off + m * 3 + 2, none⟩ = some (.int .i64 n0) ∧ w'.cell? ⟨lb, x, none⟩ = some (.int .i64 L) ∧ w'.cell? ⟨tb, toff + x * 5 + 3, none⟩ = some (.int .i64 (tkAt l x).every) := by
                      intro w' hw
                      obtain ⟨h0, h1, h2⟩ := blk3 ((hw.block nT hlT).trans hT)
                      exact ⟨h0, h1, h2, (hw.cell (p := ⟨b, off + m * 3, none⟩) hbw).trans ((hba.cell (p := ⟨b, off + m * 3, none⟩) hbr).trans cp0), (hw.cell (p := ⟨b, off + m * 3 + 1, none⟩) hbw).trans ((hba.cell (p := ⟨b, off + m * 3 + 1, none⟩) hbr).trans cp1), (hw.cell (p := ⟨b, off + m * 3 + 2, none⟩) hbw).trans ((hba.cell (p := ⟨b, off + m * 3 + 2, none⟩) hbr).trans cp2), (hw.cell (p := ⟨lb, x, none⟩) hlw).trans ((hba.cell (p := ⟨lb, x, none⟩) hlr).trans cy0), (hw.cell (p := ⟨tb, toff + x * 5 + 3, none⟩) htw).trans ((hba.cell (p := ⟨tb, toff + x * 5 + 3, none⟩) htr).trans cy1)⟩
                    refine wp_region_held (S := fun w' => w'.cell? ⟨nT, 0, none⟩ = some (.int .i64 (x : Int)) ∧ w'.cell? ⟨nT, 1, none⟩ = some (.int .i64 a) ∧ w'.cell? ⟨nT, 2, none⟩ = some (.int .i64 n) ∧ w'.cell? ⟨b, off + m * 3, none⟩ = some (.int .i64 q0) ∧ w'.cell? ⟨b, off + m * 3 + 1, none⟩ = some (.int .i64 a0) ∧ w'.cell? ⟨b, off + m * 3 + 2, none⟩ = some (.int .i64 n0) ∧ w'.cell? ⟨lb, x, none⟩ = some (.int .i64 L) ∧ w'.cell? ⟨tb, toff + x * 5 + 3, none⟩ = some (.int .i64 (tkAt l x).every)) (by kernel_rfl) ?_
                    change wpAnyH _ _ _ _ _ _ _ _ (World.drew _)
                    have Kz : Below wa.heap.size wa (World.drew wa) := Below.drew (Below.refl _ _)
                    have hS0 := hSof Kz
                    refine takeHL (i := 0) 39 (.slice (some ⟨tb, toff, none⟩) (l.length) c) rfl rfl (by kernel_rfl) (by kernel_rfl) (by kernel_rfl) (fun _ _ _ h => h) (.inl ⟨by rfl, fun _ _ => rfl⟩) hS0 ?_
                    simp only [List.set_cons_succ, List.set_cons_zero]
                    refine takeHL (i := 1) 40 (.agg #[.int .i64 (x : Int), .int .i64 a, .int .i64 n]) rfl rfl (by kernel_rfl) (by kernel_rfl) (by kernel_rfl) (fun _ _ _ h => h) (.inl ⟨by rfl, fun w hS => by obtain ⟨h0, h1, h2, p0, p1, p2, y0, y1⟩ := hS; go_simp⟩) hS0 ?_
                    simp only [List.set_cons_succ, List.set_cons_zero]
                    refine callHL 2 41 rfl rfl (by kernel_rfl) (by rfl) 56 Tryz.func56 (by kernel_rfl) rfl _ _ rfl #[.slice (some ⟨tb, toff, none⟩) (l.length) c, .agg #[.int .i64 (x : Int), .int .i64 a, .int .i64 n]] ?hv (spec_l6Job _ l c ⟨(x : Int), a, n⟩ _ (hTSof Kz) HS.out) ?_
                    case hv => simp [Act.eval]
                    rw [HJ.out]
                    rintro e v1 ⟨rfl, k1⟩
                    have K1 : Below wa.heap.size wa v1 := bthru Kz k1
                    have S1 := hSof K1
                    refine ⟨_, rfl, S1, ?_⟩
                    simp only [List.set_cons_succ, List.set_cons_zero]
                    refine takeHL (i := 3) 42 (.bool false) rfl rfl (by kernel_rfl) (by kernel_rfl) (by kernel_rfl) (fun _ _ _ h => h) (.inl ⟨by rfl, fun w _ => by go_simp⟩) S1 ?_
                    simp only [List.set_cons_succ, List.set_cons_zero]
                    refine takeHL (i := 4) 43 (.bool false) rfl rfl (by kernel_rfl) (by kernel_rfl) (by kernel_rfl) (fun _ _ _ h => h) (.inl ⟨by rfl, fun _ _ => rfl⟩) S1 ?_
                    simp only [List.set_cons_succ, List.set_cons_zero]
                    refine takeHL (i := 5) 44 (.int .i64 ((m : Int) + 1)) rfl rfl (by kernel_rfl) (by kernel_rfl) (by kernel_rfl) (fun _ _ _ h => h) (.inl ⟨by rfl, fun _ _ => rfl⟩) S1 ?_
                    simp only [List.set_cons_succ, List.set_cons_zero]
                    refine takeHL (i := 6) 45 (.bool true) rfl rfl (by kernel_rfl) (by kernel_rfl) (by kernel_rfl) (fun _ _ _ h => h) (.inl ⟨by rfl, fun w _ => by go_simp <;> (first | omega | exact IntWalk.i64_in _ (by omega))⟩) S1 ?_
                    simp only [List.set_cons_succ, List.set_cons_zero]
                    refine takeHL (i := 7) 46 (.bool true) rfl rfl (by kernel_rfl) (by kernel_rfl) (by kernel_rfl) (fun _ _ _ h => h) (.inl ⟨by rfl, fun _ _ => rfl⟩) S1 ?_
                    simp only [List.set_cons_succ, List.set_cons_zero]
                    refine takeHL (i := 8) 47 (.slice (some ⟨b, off, none⟩) (js.length) d) rfl rfl (by kernel_rfl) (by kernel_rfl) (by kernel_rfl) (fun _ _ _ h => h) (.inl ⟨by rfl, fun _ _ => rfl⟩) S1 ?_
                    simp only [List.set_cons_succ, List.set_cons_zero]
                    refine takeHL (i := 9) 48 (.int .i64 ((m : Int) + 1)) rfl rfl (by kernel_rfl) (by kernel_rfl) (by kernel_rfl) (fun _ _ _ h => h) (.inl ⟨by rfl, fun _ _ => rfl⟩) S1 ?_
                    simp only [List.set_cons_succ, List.set_cons_zero]
                    refine takeHL (i := 10) 49 (.int .i64 ((m : Int))) rfl rfl (by kernel_rfl) (by kernel_rfl) (by kernel_rfl) (fun _ _ _ h => h) (.inl ⟨by rfl, fun w _ => by go_simp <;> (first | omega | exact IntWalk.i64_in _ (by omega))⟩) S1 ?_
                    simp only [List.set_cons_succ, List.set_cons_zero]
                    refine takeHL (i := 11) 50 (.pointer (some ⟨b, off + m * 3, none⟩)) rfl rfl (by kernel_rfl) (by kernel_rfl) (by kernel_rfl) (fun _ _ _ h => h) (.inl ⟨by rfl, fun w _ => by go_simp <;> (first | omega | (simp; omega))⟩) S1 ?_
                    simp only [List.set_cons_succ, List.set_cons_zero]
                    refine takeHL (i := 12) 51 (.agg #[.int .i64 q0, .int .i64 a0, .int .i64 n0]) rfl rfl (by kernel_rfl) (by kernel_rfl) (by kernel_rfl) (fun _ _ _ h => h) (.inl ⟨by rfl, fun w hS => by obtain ⟨h0, h1, h2, p0, p1, p2, y0, y1⟩ := hS; go_simp⟩) S1 ?_
                    simp only [List.set_cons_succ, List.set_cons_zero]
                    refine takeHL (i := 13) 52 (.agg #[.int .i64 (x : Int), .int .i64 a, .int .i64 n]) rfl rfl (by kernel_rfl) (by kernel_rfl) (by kernel_rfl) (fun _ _ _ h => h) (.inl ⟨by rfl, fun w hS => by obtain ⟨h0, h1, h2, p0, p1, p2, y0, y1⟩ := hS; go_simp⟩) S1 ?_
                    simp only [List.set_cons_succ, List.set_cons_zero]
                    refine callHL 14 53 rfl rfl (by kernel_rfl) (by rfl) 57 Tryz.func57 (by kernel_rfl) rfl _ _ rfl #[.agg #[.int .i64 q0, .int .i64 a0, .int .i64 n0], .agg #[.int .i64 (x : Int), .int .i64 a, .int .i64 n]] ?hv (spec_l6Before ⟨q0, a0, n0⟩ ⟨(x : Int), a, n⟩ _) ?_
                    case hv => simp [Act.eval]
                    rw [HB.out]
                    rintro e v2 ⟨rfl, k2⟩
                    have K2 : Below wa.heap.size wa v2 := bthru K1 k2
                    have S2 := hSof K2
                    refine ⟨_, rfl, S2, ?_⟩
                    simp only [List.set_cons_succ, List.set_cons_zero]
                    refine takeHL (i := 15) 54 (.bool false) rfl rfl (by kernel_rfl) (by kernel_rfl) (by kernel_rfl) (fun _ _ _ h => h) (.inl ⟨by rfl, fun w _ => by go_simp⟩) S2 ?_
                    simp only [List.set_cons_succ, List.set_cons_zero]
                    refine takeHL (i := 16) 55 (.bool false) rfl rfl (by kernel_rfl) (by kernel_rfl) (by kernel_rfl) (fun _ _ _ h => h) (.inl ⟨by rfl, fun w _ => by go_simp⟩) S2 ?_
                    simp only [List.set_cons_succ, List.set_cons_zero]
                    refine takeHL (i := 17) 56 (.bool false) rfl rfl (by kernel_rfl) (by kernel_rfl) (by kernel_rfl) (fun _ _ _ h => h) (.inl ⟨by rfl, fun w _ => by go_simp⟩) S2 ?_
                    simp only [List.set_cons_succ, List.set_cons_zero]
                    refine takeHL (i := 18) 57 (.bool false) rfl rfl (by kernel_rfl) (by kernel_rfl) (by kernel_rfl) (fun _ _ _ h => h) (.inl ⟨by rfl, fun _ _ => rfl⟩) S2 ?_
                    simp only [List.set_cons_succ, List.set_cons_zero]
                    refine takeHL (i := 19) 58 (.pointer (some ⟨nT, 1, none⟩)) rfl rfl (by kernel_rfl) (by kernel_rfl) (by kernel_rfl) (fun _ _ _ h => h) (.inl ⟨by rfl, fun w _ => by go_simp⟩) S2 ?_
                    simp only [List.set_cons_succ, List.set_cons_zero]
                    refine takeHL (i := 20) 59 (.int .i64 (a)) rfl rfl (by kernel_rfl) (by kernel_rfl) (by kernel_rfl) (fun _ _ _ h => h) (.inl ⟨by rfl, fun w hS => by obtain ⟨h0, h1, h2, p0, p1, p2, y0, y1⟩ := hS; go_simp⟩) S2 ?_
                    simp only [List.set_cons_succ, List.set_cons_zero]
                    refine takeHL (i := 21) 60 (.slice (some ⟨lb, 0, none⟩) (l.length) l.length) rfl rfl (by kernel_rfl) (by kernel_rfl) (by kernel_rfl) (fun _ _ _ h => h) (.inl ⟨by rfl, fun _ _ => rfl⟩) S2 ?_
                    simp only [List.set_cons_succ, List.set_cons_zero]
                    refine takeHL (i := 22) 61 (.pointer (some ⟨nT, 0, none⟩)) rfl rfl (by kernel_rfl) (by kernel_rfl) (by kernel_rfl) (fun _ _ _ h => h) (.inl ⟨by rfl, fun w _ => by go_simp⟩) S2 ?_
                    simp only [List.set_cons_succ, List.set_cons_zero]
                    refine takeHL (i := 23) 62 (.int .i64 ((x : Int))) rfl rfl (by kernel_rfl) (by kernel_rfl) (by kernel_rfl) (fun _ _ _ h => h) (.inl ⟨by rfl, fun w hS => by obtain ⟨h0, h1, h2, p0, p1, p2, y0, y1⟩ := hS; go_simp⟩) S2 ?_
                    simp only [List.set_cons_succ, List.set_cons_zero]
                    refine takeHL (i := 24) 63 (.pointer (some ⟨lb, x, none⟩)) rfl rfl (by kernel_rfl) (by kernel_rfl) (by kernel_rfl) (fun _ _ _ h => h) (.inl ⟨by rfl, fun w _ => by go_simp <;> (first | omega | (simp; omega))⟩) S2 ?_
                    simp only [List.set_cons_succ, List.set_cons_zero]
                    refine takeHL (i := 25) 64 (.int .i64 (L)) rfl rfl (by kernel_rfl) (by kernel_rfl) (by kernel_rfl) (fun _ _ _ h => h) (.inl ⟨by rfl, fun w hS => by obtain ⟨h0, h1, h2, p0, p1, p2, y0, y1⟩ := hS; go_simp⟩) S2 ?_
                    simp only [List.set_cons_succ, List.set_cons_zero]
                    refine takeHL (i := 26) 65 (.int .i64 (a - L)) rfl rfl (by kernel_rfl) (by kernel_rfl) (by kernel_rfl) (fun _ _ _ h => h) (.inl ⟨by rfl, fun w _ => by go_simp <;> (first | omega | exact IntWalk.i64_in _ (by omega))⟩) S2 ?_
                    simp only [List.set_cons_succ, List.set_cons_zero]
                    refine takeHL (i := 27) 66 (.slice (some ⟨tb, toff, none⟩) (l.length) c) rfl rfl (by kernel_rfl) (by kernel_rfl) (by kernel_rfl) (fun _ _ _ h => h) (.inl ⟨by rfl, fun _ _ => rfl⟩) S2 ?_
                    simp only [List.set_cons_succ, List.set_cons_zero]
                    refine takeHL (i := 28) 67 (.pointer (some ⟨nT, 0, none⟩)) rfl rfl (by kernel_rfl) (by kernel_rfl) (by kernel_rfl) (fun _ _ _ h => h) (.inl ⟨by rfl, fun w _ => by go_simp⟩) S2 ?_
                    simp only [List.set_cons_succ, List.set_cons_zero]
                    refine takeHL (i := 29) 68 (.int .i64 ((x : Int))) rfl rfl (by kernel_rfl) (by kernel_rfl) (by kernel_rfl) (fun _ _ _ h => h) (.inl ⟨by rfl, fun w hS => by obtain ⟨h0, h1, h2, p0, p1, p2, y0, y1⟩ := hS; go_simp⟩) S2 ?_
                    simp only [List.set_cons_succ, List.set_cons_zero]
                    refine takeHL (i := 30) 69 (.pointer (some ⟨tb, toff + x * 5, none⟩)) rfl rfl (by kernel_rfl) (by kernel_rfl) (by kernel_rfl) (fun _ _ _ h => h) (.inl ⟨by rfl, fun w _ => by go_simp <;> (first | omega | (simp; omega))⟩) S2 ?_
                    simp only [List.set_cons_succ, List.set_cons_zero]
                    refine takeHL (i := 31) 70 (.pointer (some ⟨tb, toff + x * 5 + 3, none⟩)) rfl rfl (by kernel_rfl) (by kernel_rfl) (by kernel_rfl) (fun _ _ _ h => h) (.inl ⟨by rfl, fun w _ => by go_simp⟩) S2 ?_
                    simp only [List.set_cons_succ, List.set_cons_zero]
                    refine takeHL (i := 32) 71 (.int .i64 ((tkAt l x).every)) rfl rfl (by kernel_rfl) (by kernel_rfl) (by kernel_rfl) (fun _ _ _ h => h) (.inl ⟨by rfl, fun w hS => by obtain ⟨h0, h1, h2, p0, p1, p2, y0, y1⟩ := hS; go_simp⟩) S2 ?_
                    simp only [List.set_cons_succ, List.set_cons_zero]
                    refine takeHL (i := 33) 72 (.bool true) rfl rfl (by kernel_rfl) (by kernel_rfl) (by kernel_rfl) (fun _ _ _ h => h) (.inl ⟨by rfl, fun w _ => by go_simp <;> (first | omega | exact IntWalk.i64_in _ (by omega))⟩) S2 ?_
                    simp only [List.set_cons_succ, List.set_cons_zero]
                    refine takeHL (i := 34) 73 (.bool true) rfl rfl (by kernel_rfl) (by kernel_rfl) (by kernel_rfl) (fun _ _ _ h => h) (.inl ⟨by rfl, fun w _ => by go_simp⟩) S2 ?_
                    simp only [List.set_cons_succ, List.set_cons_zero]
                    refine wpAnyH_done (by kernel_rfl) ?_ _
                    go_wp2_with fail
                    go_ret
                    exact ⟨by rw [HE.out]; rfl, bthru hb (bthru hba K2)⟩
                  · have HN : Hid (∀ i, i < m + 1 + 1 → jobOk l js i = true) := jobs_on hlt hall.out (by rw [hok]; simp [hD])
                    clear hok
                    go_upto_region 12 with fail
                    have hT := heap_alloc_new wr (.cells #[.int .i64 (x : Int), .int .i64 a, .int .i64 n] 60 (0, 0))
                    have hba := bal (Below.refl wr.heap.size wr) (.cells #[.int .i64 (x : Int), .int .i64 a, .int .i64 n] 60 (0, 0))
                    have hOa := OI_alloc hO (.cells #[.int .i64 (x : Int), .int .i64 a, .int .i64 n] 60 (0, 0))
                    generalize World.alloc wr _ = wa at hT hba hOa ⊢
                    obtain ⟨nT, hnT⟩ : ∃ nT, wr.heap.size = nT := ⟨_, rfl⟩
                    rw [hnT] at hT ⊢
                    have hlT := (Array.getElem?_eq_some_iff.1 hT).1
                    have hTSof : ∀ {w' : World}, Below wa.heap.size wa w' → TS w' (some ⟨tb, toff, none⟩) l := fun hw => h.keep (bthru hb (bthru hba hw))
                    have hbr : b < wr.heap.size := hbl
                    have hbw : b < wa.heap.size := Nat.lt_of_lt_of_le hbr hba.size
                    have hlw : lb < wa.heap.size := Nat.lt_of_lt_of_le hlr hba.size
                    have htw : tb < wa.heap.size := Nat.lt_of_lt_of_le htr hba.size
                    have hSof : ∀ {w' : World}, Below wa.heap.size wa w' → w'.cell? ⟨nT, 0, none⟩ = some (.int .i64 (x : Int)) ∧ w'.cell? ⟨nT, 1, none⟩ = some (.int .i64 a) ∧ w'.cell? ⟨nT, 2, none⟩ = some (.int .i64 n) ∧ w'.cell? ⟨b, off + m * 3, none⟩ = some (.int .i64 q0) ∧ w'.cell? ⟨b, off + m * 3 + 1, none⟩ = some (.int .i64 a0) ∧ w'.cell? ⟨b, off + m * 3 + 2, none⟩ = some (.int .i64 n0) ∧ w'.cell? ⟨lb, x, none⟩ = some (.int .i64 L) ∧ w'.cell? ⟨tb, toff + x * 5 + 3, none⟩ = some (.int .i64 (tkAt l x).every) := by
                      intro w' hw
                      obtain ⟨h0, h1, h2⟩ := blk3 ((hw.block nT hlT).trans hT)
                      exact ⟨h0, h1, h2, (hw.cell (p := ⟨b, off + m * 3, none⟩) hbw).trans ((hba.cell (p := ⟨b, off + m * 3, none⟩) hbr).trans cp0), (hw.cell (p := ⟨b, off + m * 3 + 1, none⟩) hbw).trans ((hba.cell (p := ⟨b, off + m * 3 + 1, none⟩) hbr).trans cp1), (hw.cell (p := ⟨b, off + m * 3 + 2, none⟩) hbw).trans ((hba.cell (p := ⟨b, off + m * 3 + 2, none⟩) hbr).trans cp2), (hw.cell (p := ⟨lb, x, none⟩) hlw).trans ((hba.cell (p := ⟨lb, x, none⟩) hlr).trans cy0), (hw.cell (p := ⟨tb, toff + x * 5 + 3, none⟩) htw).trans ((hba.cell (p := ⟨tb, toff + x * 5 + 3, none⟩) htr).trans cy1)⟩
                    refine wp_region_held (S := fun w' => w'.cell? ⟨nT, 0, none⟩ = some (.int .i64 (x : Int)) ∧ w'.cell? ⟨nT, 1, none⟩ = some (.int .i64 a) ∧ w'.cell? ⟨nT, 2, none⟩ = some (.int .i64 n) ∧ w'.cell? ⟨b, off + m * 3, none⟩ = some (.int .i64 q0) ∧ w'.cell? ⟨b, off + m * 3 + 1, none⟩ = some (.int .i64 a0) ∧ w'.cell? ⟨b, off + m * 3 + 2, none⟩ = some (.int .i64 n0) ∧ w'.cell? ⟨lb, x, none⟩ = some (.int .i64 L) ∧ w'.cell? ⟨tb, toff + x * 5 + 3, none⟩ = some (.int .i64 (tkAt l x).every)) (by kernel_rfl) ?_
                    change wpAnyH _ _ _ _ _ _ _ _ (World.drew _)
                    have Kz : Below wa.heap.size wa (World.drew wa) := Below.drew (Below.refl _ _)
                    have hS0 := hSof Kz
                    refine takeHL (i := 0) 39 (.slice (some ⟨tb, toff, none⟩) (l.length) c) rfl rfl (by kernel_rfl) (by kernel_rfl) (by kernel_rfl) (fun _ _ _ h => h) (.inl ⟨by rfl, fun _ _ => rfl⟩) hS0 ?_
                    simp only [List.set_cons_succ, List.set_cons_zero]
                    refine takeHL (i := 1) 40 (.agg #[.int .i64 (x : Int), .int .i64 a, .int .i64 n]) rfl rfl (by kernel_rfl) (by kernel_rfl) (by kernel_rfl) (fun _ _ _ h => h) (.inl ⟨by rfl, fun w hS => by obtain ⟨h0, h1, h2, p0, p1, p2, y0, y1⟩ := hS; go_simp⟩) hS0 ?_
                    simp only [List.set_cons_succ, List.set_cons_zero]
                    refine callHL 2 41 rfl rfl (by kernel_rfl) (by rfl) 56 Tryz.func56 (by kernel_rfl) rfl _ _ rfl #[.slice (some ⟨tb, toff, none⟩) (l.length) c, .agg #[.int .i64 (x : Int), .int .i64 a, .int .i64 n]] ?hv (spec_l6Job _ l c ⟨(x : Int), a, n⟩ _ (hTSof Kz) HS.out) ?_
                    case hv => simp [Act.eval]
                    rw [HJ.out]
                    rintro e v1 ⟨rfl, k1⟩
                    have K1 : Below wa.heap.size wa v1 := bthru Kz k1
                    have S1 := hSof K1
                    refine ⟨_, rfl, S1, ?_⟩
                    simp only [List.set_cons_succ, List.set_cons_zero]
                    refine takeHL (i := 3) 42 (.bool false) rfl rfl (by kernel_rfl) (by kernel_rfl) (by kernel_rfl) (fun _ _ _ h => h) (.inl ⟨by rfl, fun w _ => by go_simp⟩) S1 ?_
                    simp only [List.set_cons_succ, List.set_cons_zero]
                    refine takeHL (i := 4) 43 (.bool false) rfl rfl (by kernel_rfl) (by kernel_rfl) (by kernel_rfl) (fun _ _ _ h => h) (.inl ⟨by rfl, fun _ _ => rfl⟩) S1 ?_
                    simp only [List.set_cons_succ, List.set_cons_zero]
                    refine takeHL (i := 5) 44 (.int .i64 ((m : Int) + 1)) rfl rfl (by kernel_rfl) (by kernel_rfl) (by kernel_rfl) (fun _ _ _ h => h) (.inl ⟨by rfl, fun _ _ => rfl⟩) S1 ?_
                    simp only [List.set_cons_succ, List.set_cons_zero]
                    refine takeHL (i := 6) 45 (.bool true) rfl rfl (by kernel_rfl) (by kernel_rfl) (by kernel_rfl) (fun _ _ _ h => h) (.inl ⟨by rfl, fun w _ => by go_simp <;> (first | omega | exact IntWalk.i64_in _ (by omega))⟩) S1 ?_
                    simp only [List.set_cons_succ, List.set_cons_zero]
                    refine takeHL (i := 7) 46 (.bool true) rfl rfl (by kernel_rfl) (by kernel_rfl) (by kernel_rfl) (fun _ _ _ h => h) (.inl ⟨by rfl, fun _ _ => rfl⟩) S1 ?_
                    simp only [List.set_cons_succ, List.set_cons_zero]
                    refine takeHL (i := 8) 47 (.slice (some ⟨b, off, none⟩) (js.length) d) rfl rfl (by kernel_rfl) (by kernel_rfl) (by kernel_rfl) (fun _ _ _ h => h) (.inl ⟨by rfl, fun _ _ => rfl⟩) S1 ?_
                    simp only [List.set_cons_succ, List.set_cons_zero]
                    refine takeHL (i := 9) 48 (.int .i64 ((m : Int) + 1)) rfl rfl (by kernel_rfl) (by kernel_rfl) (by kernel_rfl) (fun _ _ _ h => h) (.inl ⟨by rfl, fun _ _ => rfl⟩) S1 ?_
                    simp only [List.set_cons_succ, List.set_cons_zero]
                    refine takeHL (i := 10) 49 (.int .i64 ((m : Int))) rfl rfl (by kernel_rfl) (by kernel_rfl) (by kernel_rfl) (fun _ _ _ h => h) (.inl ⟨by rfl, fun w _ => by go_simp <;> (first | omega | exact IntWalk.i64_in _ (by omega))⟩) S1 ?_
                    simp only [List.set_cons_succ, List.set_cons_zero]
                    refine takeHL (i := 11) 50 (.pointer (some ⟨b, off + m * 3, none⟩)) rfl rfl (by kernel_rfl) (by kernel_rfl) (by kernel_rfl) (fun _ _ _ h => h) (.inl ⟨by rfl, fun w _ => by go_simp <;> (first | omega | (simp; omega))⟩) S1 ?_
                    simp only [List.set_cons_succ, List.set_cons_zero]
                    refine takeHL (i := 12) 51 (.agg #[.int .i64 q0, .int .i64 a0, .int .i64 n0]) rfl rfl (by kernel_rfl) (by kernel_rfl) (by kernel_rfl) (fun _ _ _ h => h) (.inl ⟨by rfl, fun w hS => by obtain ⟨h0, h1, h2, p0, p1, p2, y0, y1⟩ := hS; go_simp⟩) S1 ?_
                    simp only [List.set_cons_succ, List.set_cons_zero]
                    refine takeHL (i := 13) 52 (.agg #[.int .i64 (x : Int), .int .i64 a, .int .i64 n]) rfl rfl (by kernel_rfl) (by kernel_rfl) (by kernel_rfl) (fun _ _ _ h => h) (.inl ⟨by rfl, fun w hS => by obtain ⟨h0, h1, h2, p0, p1, p2, y0, y1⟩ := hS; go_simp⟩) S1 ?_
                    simp only [List.set_cons_succ, List.set_cons_zero]
                    refine callHL 14 53 rfl rfl (by kernel_rfl) (by rfl) 57 Tryz.func57 (by kernel_rfl) rfl _ _ rfl #[.agg #[.int .i64 q0, .int .i64 a0, .int .i64 n0], .agg #[.int .i64 (x : Int), .int .i64 a, .int .i64 n]] ?hv (spec_l6Before ⟨q0, a0, n0⟩ ⟨(x : Int), a, n⟩ _) ?_
                    case hv => simp [Act.eval]
                    rw [HB.out]
                    rintro e v2 ⟨rfl, k2⟩
                    have K2 : Below wa.heap.size wa v2 := bthru K1 k2
                    have S2 := hSof K2
                    refine ⟨_, rfl, S2, ?_⟩
                    simp only [List.set_cons_succ, List.set_cons_zero]
                    refine takeHL (i := 15) 54 (.bool false) rfl rfl (by kernel_rfl) (by kernel_rfl) (by kernel_rfl) (fun _ _ _ h => h) (.inl ⟨by rfl, fun w _ => by go_simp⟩) S2 ?_
                    simp only [List.set_cons_succ, List.set_cons_zero]
                    refine takeHL (i := 16) 55 (.bool false) rfl rfl (by kernel_rfl) (by kernel_rfl) (by kernel_rfl) (fun _ _ _ h => h) (.inl ⟨by rfl, fun w _ => by go_simp⟩) S2 ?_
                    simp only [List.set_cons_succ, List.set_cons_zero]
                    refine takeHL (i := 17) 56 (.bool false) rfl rfl (by kernel_rfl) (by kernel_rfl) (by kernel_rfl) (fun _ _ _ h => h) (.inl ⟨by rfl, fun w _ => by go_simp⟩) S2 ?_
                    simp only [List.set_cons_succ, List.set_cons_zero]
                    refine takeHL (i := 18) 57 (.bool false) rfl rfl (by kernel_rfl) (by kernel_rfl) (by kernel_rfl) (fun _ _ _ h => h) (.inl ⟨by rfl, fun _ _ => rfl⟩) S2 ?_
                    simp only [List.set_cons_succ, List.set_cons_zero]
                    refine takeHL (i := 19) 58 (.pointer (some ⟨nT, 1, none⟩)) rfl rfl (by kernel_rfl) (by kernel_rfl) (by kernel_rfl) (fun _ _ _ h => h) (.inl ⟨by rfl, fun w _ => by go_simp⟩) S2 ?_
                    simp only [List.set_cons_succ, List.set_cons_zero]
                    refine takeHL (i := 20) 59 (.int .i64 (a)) rfl rfl (by kernel_rfl) (by kernel_rfl) (by kernel_rfl) (fun _ _ _ h => h) (.inl ⟨by rfl, fun w hS => by obtain ⟨h0, h1, h2, p0, p1, p2, y0, y1⟩ := hS; go_simp⟩) S2 ?_
                    simp only [List.set_cons_succ, List.set_cons_zero]
                    refine takeHL (i := 21) 60 (.slice (some ⟨lb, 0, none⟩) (l.length) l.length) rfl rfl (by kernel_rfl) (by kernel_rfl) (by kernel_rfl) (fun _ _ _ h => h) (.inl ⟨by rfl, fun _ _ => rfl⟩) S2 ?_
                    simp only [List.set_cons_succ, List.set_cons_zero]
                    refine takeHL (i := 22) 61 (.pointer (some ⟨nT, 0, none⟩)) rfl rfl (by kernel_rfl) (by kernel_rfl) (by kernel_rfl) (fun _ _ _ h => h) (.inl ⟨by rfl, fun w _ => by go_simp⟩) S2 ?_
                    simp only [List.set_cons_succ, List.set_cons_zero]
                    refine takeHL (i := 23) 62 (.int .i64 ((x : Int))) rfl rfl (by kernel_rfl) (by kernel_rfl) (by kernel_rfl) (fun _ _ _ h => h) (.inl ⟨by rfl, fun w hS => by obtain ⟨h0, h1, h2, p0, p1, p2, y0, y1⟩ := hS; go_simp⟩) S2 ?_
                    simp only [List.set_cons_succ, List.set_cons_zero]
                    refine takeHL (i := 24) 63 (.pointer (some ⟨lb, x, none⟩)) rfl rfl (by kernel_rfl) (by kernel_rfl) (by kernel_rfl) (fun _ _ _ h => h) (.inl ⟨by rfl, fun w _ => by go_simp <;> (first | omega | (simp; omega))⟩) S2 ?_
                    simp only [List.set_cons_succ, List.set_cons_zero]
                    refine takeHL (i := 25) 64 (.int .i64 (L)) rfl rfl (by kernel_rfl) (by kernel_rfl) (by kernel_rfl) (fun _ _ _ h => h) (.inl ⟨by rfl, fun w hS => by obtain ⟨h0, h1, h2, p0, p1, p2, y0, y1⟩ := hS; go_simp⟩) S2 ?_
                    simp only [List.set_cons_succ, List.set_cons_zero]
                    refine takeHL (i := 26) 65 (.int .i64 (a - L)) rfl rfl (by kernel_rfl) (by kernel_rfl) (by kernel_rfl) (fun _ _ _ h => h) (.inl ⟨by rfl, fun w _ => by go_simp <;> (first | omega | exact IntWalk.i64_in _ (by omega))⟩) S2 ?_
                    simp only [List.set_cons_succ, List.set_cons_zero]
                    refine takeHL (i := 27) 66 (.slice (some ⟨tb, toff, none⟩) (l.length) c) rfl rfl (by kernel_rfl) (by kernel_rfl) (by kernel_rfl) (fun _ _ _ h => h) (.inl ⟨by rfl, fun _ _ => rfl⟩) S2 ?_
                    simp only [List.set_cons_succ, List.set_cons_zero]
                    refine takeHL (i := 28) 67 (.pointer (some ⟨nT, 0, none⟩)) rfl rfl (by kernel_rfl) (by kernel_rfl) (by kernel_rfl) (fun _ _ _ h => h) (.inl ⟨by rfl, fun w _ => by go_simp⟩) S2 ?_
                    simp only [List.set_cons_succ, List.set_cons_zero]
                    refine takeHL (i := 29) 68 (.int .i64 ((x : Int))) rfl rfl (by kernel_rfl) (by kernel_rfl) (by kernel_rfl) (fun _ _ _ h => h) (.inl ⟨by rfl, fun w hS => by obtain ⟨h0, h1, h2, p0, p1, p2, y0, y1⟩ := hS; go_simp⟩) S2 ?_
                    simp only [List.set_cons_succ, List.set_cons_zero]
                    refine takeHL (i := 30) 69 (.pointer (some ⟨tb, toff + x * 5, none⟩)) rfl rfl (by kernel_rfl) (by kernel_rfl) (by kernel_rfl) (fun _ _ _ h => h) (.inl ⟨by rfl, fun w _ => by go_simp <;> (first | omega | (simp; omega))⟩) S2 ?_
                    simp only [List.set_cons_succ, List.set_cons_zero]
                    refine takeHL (i := 31) 70 (.pointer (some ⟨tb, toff + x * 5 + 3, none⟩)) rfl rfl (by kernel_rfl) (by kernel_rfl) (by kernel_rfl) (fun _ _ _ h => h) (.inl ⟨by rfl, fun w _ => by go_simp⟩) S2 ?_
                    simp only [List.set_cons_succ, List.set_cons_zero]
                    refine takeHL (i := 32) 71 (.int .i64 ((tkAt l x).every)) rfl rfl (by kernel_rfl) (by kernel_rfl) (by kernel_rfl) (fun _ _ _ h => h) (.inl ⟨by rfl, fun w hS => by obtain ⟨h0, h1, h2, p0, p1, p2, y0, y1⟩ := hS; go_simp⟩) S2 ?_
                    simp only [List.set_cons_succ, List.set_cons_zero]
                    refine takeHL (i := 33) 72 (.bool false) rfl rfl (by kernel_rfl) (by kernel_rfl) (by kernel_rfl) (fun _ _ _ h => h) (.inl ⟨by rfl, fun w _ => by go_simp <;> (first | omega | exact IntWalk.i64_in _ (by omega))⟩) S2 ?_
                    simp only [List.set_cons_succ, List.set_cons_zero]
                    refine takeHL (i := 34) 73 (.bool false) rfl rfl (by kernel_rfl) (by kernel_rfl) (by kernel_rfl) (fun _ _ _ h => h) (.inl ⟨by rfl, fun w _ => by go_simp⟩) S2 ?_
                    simp only [List.set_cons_succ, List.set_cons_zero]
                    refine wpAnyH_done (by kernel_rfl) ?_ _
                    have hOv := OI_keep hOa K2
                    have hSv := hSof K2
                    obtain ⟨h0, h1, h2, p0, p1, p2, y0, y1⟩ := hSv
                    have Bv := bthru hb (bthru hba K2)
                    have oset := OI_set hOv x a
                    have fr := fun j => World.ownsRow.frozenAt hOv j
                    go_wp2_with fail
                    go_roundw
                    case rel => exact ⟨m + 2, by go_num, by omega, HN.out, by rw [← HL.out]; exact oset.1, Bv.setCell (p := ⟨lb, x, none⟩) hlb _⟩
                    case measure => simp [intOf]; omega
          · obtain rfl : k = js.length := by omega
            have E : Hid (jobsV l js = true) := jobs_end HS.out h60 hall.out
            go_wp2_with fail
            go_ret
            exact ⟨by rw [E.out]; rfl, hb⟩
end Go.Proofs.YtmkjmancmiphfaaGreatDoor
