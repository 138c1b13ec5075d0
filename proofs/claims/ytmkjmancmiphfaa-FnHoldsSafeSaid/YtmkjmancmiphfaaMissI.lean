/-
  When a job is due, and who misses: the program's.
-/
import Derived.Test.YtmkjmancmiphfaaJobV2
import Derived.Test.YtmkjmancmiphfaaIRows
import Derived.Test.YtmkjmancmiphfaaMach
import Derived.Test.YtmkjmancmiphfaaAsg
namespace Go.Proofs.Ytmkjmancmiphfaa
open Go.RowKit

set_option maxHeartbeats 2000000 in
set_option maxRecDepth 100000 in
theorem impl_DueAt (A : Option Addr) (l : List Tk) (c : Nat) (x : Nat) (a n : Int) (w : World) (h : TS w A l) (hJ : jobOfB l ⟨(x : Int), a, n⟩ = true) :
    Calls Try.prog 22 #[.slice A l.length c, Jb.val ⟨(x : Int), a, n⟩] w fun e w' => e = .returned (.tuple #[.int .i64 (a + (tkAt l x).due), .bool true]) ∧ Below w.heap.size w w' := by
  have hJ2 := hJ
  simp only [jobOfB, Bool.and_eq_true, decide_eq_true_eq] at hJ2
  obtain ⟨⟨⟨⟨hp, ha0⟩, ha1⟩, hn0⟩, _⟩ := hJ2
  obtain ⟨hS, hl5, hx, hqq⟩ := plc_yes hp
  clear hqq
  rw [Int.toNat_natCast] at hx
  have hev := vld_bd (tkAt_vld hS hx)
  have HJ := Lib.hid hJ
  clear hJ hp hS hn0
  obtain ⟨e1, e2, e3, e4, e5⟩ := hev
  have hT := heap_alloc_new w (.cells #[.int .i64 (x : Int), .int .i64 a, .int .i64 n] 45 (0, 0))
  have hba := bal (Below.refl w.heap.size w) (.cells #[.int .i64 (x : Int), .int .i64 a, .int .i64 n] 45 (0, 0))
  have qw : IntKind.i64.wrap (a + (tkAt l x).due) = a + (tkAt l x).due := IntWalk.i64_in _ (by omega)
  go_enter Try.func22, Try.ntmps22
  go_wp2_with fail
  refine (impl_jobOf A l c ⟨(x : Int), a, n⟩ _ (h.keep hba)).mono ?_
  rw [HJ.out]
  rintro e w1 ⟨rfl, b1⟩
  have hT1 := (b1.block _ (Array.getElem?_eq_some_iff.1 hT).1).trans hT
  have B1 := bthru hba b1
  obtain ⟨tb, toff, rfl, htr, htc⟩ := h.keep B1 (by omega)
  obtain ⟨_, _, cy1, _, _⟩ := cells_tk htc x hx
  obtain ⟨h0, h1, h2⟩ := blk3 hT1
  have hxI : (x : Int) < (l.length : Int) := by omega
  clear hT hba htc hT1
  go_wp2_with fail
  go_quiet (fail)
  go_wp2_with fail
  go_ret2
  exact ⟨rfl, bdr B1 _⟩
set_option maxHeartbeats 4000000 in
set_option maxRecDepth 100000 in
theorem impl_MissesOf (A : Option Addr) (l : List Tk) (c : Nat) (B : Option Addr) (js : List Jb) (d : Nat) (E : Option Addr) (en : List Int) (ce : Nat) (Tr : Option Addr) (T ct : Nat) (Sw : Option Addr) (ns cs : Nat) (hi : Bool) (w : World)
    (h : TS w A l) (g : JS w B js) (hE : IS w E en) (hen : en.length = js.length) (hjd : js.length ≤ d) (hjm : js.length ≤ maxLen) (_hT : T ≤ 2000000) (hV : jobsV l js = true) :
    Calls Try.prog 9 #[.slice A l.length c, .slice B js.length d, .agg #[.slice E js.length ce, .slice Tr T ct, .slice Sw ns cs, .bool hi]] w (RetI w (ints (lateTo l js en T js.length))) := by
  have hap := apart_of hV
  have hV2 := hV
  simp only [jobsV, Bool.and_eq_true, List.all_eq_true, List.mem_range, decide_eq_true_eq] at hV2
  obtain ⟨⟨hS, h60⟩, hall⟩ := hV2
  have hjob : ∀ i, i < js.length → jobOfB l (jobAt js i) = true := fun i hi => by
    have := hall i hi
    simp only [jobOk, Bool.and_eq_true] at this
    exact this.1.1
  have HV := Lib.hid hV
  have HJ := Lib.hid hjob
  have Hen := Lib.hid hen
  have HS := Lib.hid hS
  clear hV hall hjob hap hen hS
  have hT0 := heap_alloc_new w (.cells #[.slice E js.length ce, .slice Tr T ct, .slice Sw ns cs, .bool hi] 32 (0, 0))
  have hba := bal (Below.refl w.heap.size w) (.cells #[.slice E js.length ce, .slice Tr T ct, .slice Sw ns cs, .bool hi] 32 (0, 0))
  go_enter Try.func9, Try.ntmps9
  go_wp2_with fail
  refine (impl_JobsValid A l c B js d _ (h.keep hba) (g.keep hba) hjd hjm).mono ?_
  rw [HV.out]
  rintro e w1 ⟨rfl, b1⟩
  have hlT := (Array.getElem?_eq_some_iff.1 hT0).1
  have hT1 := (b1.block _ hlT).trans hT0
  have B1 := bthru hba b1
  have hn1 : w.heap.size < w1.heap.size := Nat.lt_of_lt_of_le hlT b1.size
  clear hT0 hba b1 hlT
  obtain ⟨r0, r1, _, _⟩ : w1.cell? ⟨w.heap.size, 0, none⟩ = some (.slice E js.length ce) ∧ w1.cell? ⟨w.heap.size, 1, none⟩ = some (.slice Tr T ct) ∧ True ∧ True := by
    refine ⟨?_, ?_, trivial, trivial⟩ <;> (rw [Lib.cell_of_heap hT1]; rfl)
  obtain ⟨nR, hnR⟩ : ∃ nR, w.heap.size = nR := ⟨_, rfl⟩
  rw [hnR] at r0 r1 hn1 ⊢
  clear hT1
  go_wp2_with fail
  go_loopg [7, 27] js.length (fun gg v i wr => ∃ (k bo c' : Nat) (xs : List Nat), gg + k = js.length ∧ i = .int .i64 (k : Int) ∧ v = .slice (some ⟨bo, 0, none⟩) xs.length c' ∧ Hid (lateTo l js en T k = xs) ∧ xs.length ≤ k ∧ OI w1.heap.size wr (some ⟨bo, 0, none⟩) c' (ints xs) ∧ Below w1.heap.size w1 wr)
  case atStart => exact ⟨0, _, 0, [], by omega, rfl, rfl, rfl, by simp, OI_blank w1 _ (Nat.le_refl _), bal (Below.refl _ _) _⟩
  case round =>
    have R0 := r0
    have R1 := r1
    clear r0 r1
    obtain ⟨k, bo, c', xs, hgk, rfl, rfl, hxs, hxl, hO, hb⟩ := hrel
    have B2 := bthru B1 hb
    by_cases hlt : k < js.length
    · obtain ⟨b, off, rfl, hbl, hc⟩ := g.keep B2 (by omega)
      obtain ⟨k0, k1, k2⟩ := job_cells hc k hlt
      have hJk := HJ.out k hlt
      have hjk := jobAt_eq js k hlt
      rw [hjk] at hJk
      have hstep : lateTo l js en T (k + 1) = xs ++ (if lateB l js en T k then [k] else []) := by rw [← hxs.out]; rfl
      have hlate : lateB l js en T k = (decide (js[k].at_ + (tkAt l js[k].task.toNat).due < en.getD k 0) || (decide (en.getD k 0 = -1) && decide (js[k].at_ + (tkAt l js[k].task.toNat).due ≤ (T : Int)))) := by
        simp only [lateB, jA, jK, hjk]
      have hek : k < en.length := by rw [Hen.out]; exact hlt
      obtain ⟨eb, eo, hEe, hel, hec⟩ := hE.keep B2 (by omega)
      have ek := hec k (en.getD k 0) (by simp [hek])
      clear hec hek hjk hc
      generalize en.getD k 0 = e at ek hlate
      generalize js[k] = J at k0 k1 k2 hJk hlate
      obtain ⟨q, a, n⟩ := J
      have hJ2 := hJk
      simp only [jobOfB, Bool.and_eq_true, decide_eq_true_eq] at hJ2
      obtain ⟨⟨⟨⟨hp, ha0⟩, ha1⟩, _⟩, _⟩ := hJ2
      obtain ⟨_, _, hx, hq⟩ := plc_yes hp
      generalize q.toNat = x at hx hq hlate
      subst hq
      have hev := vld_bd (tkAt_vld HS.out hx)
      have hlate : lateB l js en T k = (decide (a + (tkAt l x).due < e) || (decide (e = -1) && decide (a + (tkAt l x).due ≤ (T : Int)))) := hlate
      have hD0 : 0 ≤ a + (tkAt l x).due ∧ a + (tkAt l x).due ≤ 300 := by omega
      have HJk := Lib.hid hJk
      have HL := Lib.hid hlate
      have HSt := Lib.hid hstep
      have hDue := fun (w' : World) (hw : TS w' A l) => impl_DueAt A l c x a n w' hw HJk.out
      clear hJk hp hev hlate hstep
      generalize a + (tkAt l x).due = D at hDue HL hD0
      subst hEe
      have r0' := (hb.cell (p := ⟨nR, 0, none⟩) hn1).trans R0
      have r1' := (hb.cell (p := ⟨nR, 1, none⟩) hn1).trans R1
      go_wp2_with fail
      refine (hDue _ (h.keep (bal B2 _))).mono ?_
      rintro e1 w2 ⟨rfl, b2⟩
      have hbb := bthru (bal (Below.refl wr.heap.size wr) _) b2
      have hn2 : nR < wr.heap.size := Nat.lt_of_lt_of_le hn1 hb.size
      replace r0' := (hbb.cell (p := ⟨nR, 0, none⟩) hn2).trans r0'
      replace r1' := (hbb.cell (p := ⟨nR, 1, none⟩) hn2).trans r1'
      replace ek := (hbb.cell (p := ⟨eb, eo + k, none⟩) hel).trans ek
      have hO2 := OI_keep hO hbb
      have hb2 := bthru hb hbb
      clear hDue hbb b2 hO hb k0 k1 k2 R0 R1
      have hkI : (k : Int) < (js.length : Int) := by omega
      by_cases c1 : D < e
      · have d1 : decide (D < e) = true := decide_eq_true c1
        have HS1 : Hid (lateTo l js en T (k + 1) = xs ++ [k]) := by rw [Hid, HSt.out, HL.out]; simp [c1]
        go_wp2_with (at_builtin; refine wpList_app_intL _ rfl _ _ rfl w1.heap.size bo (ints xs) xs.length c' (ints_length xs) rfl (OI_alloc hO2 _) w2.heap.size 1 (k : Int) 3 rfl (heap_alloc_new w2 _) (by rw [ints_length]; omega) (by have := hb2.size; simp; omega) _ rfl ?_; intro g3 c3 w3 o3 gb3 hat3 b3)
        rw [← ints_snoc] at o3
        go_roundg (js.length - (k + 1))
        case measure => omega
        case rel => exact ⟨k + 1, g3, c3, xs ++ [k], by omega, by go_num, by rw [List.length_append]; rfl, HS1.out, by simp; omega, o3, (bal hb2 _).trans b3⟩
      · have d1 : decide (D < e) = false := decide_eq_false c1
        by_cases c2 : e = -1
        · subst c2
          have d2 : ((-1 : Int) == -1) = true := rfl
          by_cases c3' : D ≤ (T : Int)
          · have d3 : decide (D ≤ (T : Int)) = true := decide_eq_true c3'
            have HS1 : Hid (lateTo l js en T (k + 1) = xs ++ [k]) := by rw [Hid, HSt.out, HL.out]; simp [c3']
            go_wp2_with (at_builtin; refine wpList_app_intL _ rfl _ _ rfl w1.heap.size bo (ints xs) xs.length c' (ints_length xs) rfl (OI_alloc hO2 _) w2.heap.size 1 (k : Int) 3 rfl (heap_alloc_new w2 _) (by rw [ints_length]; omega) (by have := hb2.size; simp; omega) _ rfl ?_; intro g3 c3 w3 o3 gb3 hat3 b3)
            rw [← ints_snoc] at o3
            go_roundg (js.length - (k + 1))
            case measure => omega
            case rel => exact ⟨k + 1, g3, c3, xs ++ [k], by omega, by go_num, by rw [List.length_append]; rfl, HS1.out, by simp; omega, o3, (bal hb2 _).trans b3⟩
          · have d3 : decide (D ≤ (T : Int)) = false := decide_eq_false c3'
            have HS1 : Hid (lateTo l js en T (k + 1) = xs) := by rw [Hid, HSt.out, HL.out]; simp [c1, c3']
            go_wp2_with fail
            go_roundg (js.length - (k + 1))
            case measure => omega
            case rel => exact ⟨k + 1, bo, c', xs, by omega, by go_num, rfl, HS1.out, by omega, hO2, hb2⟩
        · have d2 : (e == -1) = false := beq_eq_false_iff_ne.2 c2
          have HS1 : Hid (lateTo l js en T (k + 1) = xs) := by rw [Hid, HSt.out, HL.out]; simp [c1, c2]
          go_wp2_with fail
          go_roundg (js.length - (k + 1))
          case measure => omega
          case rel => exact ⟨k + 1, bo, c', xs, by omega, by go_num, rfl, HS1.out, by omega, hO2, hb2⟩
    · obtain rfl : k = js.length := by omega
      have hxs' := hxs
      go_wp2_with fail
      go_ret
      unfold RetI
      rw [hxs.out]
      refine ⟨_, c', by rw [ints_length]; rfl, own_base hO (by omega), B2⟩
end Go.Proofs.Ytmkjmancmiphfaa
