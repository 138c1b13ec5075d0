/-
  l7Draw, DrawRunJobs: tasks, jobs and a policy drawn.
  ParseJobs of texts that FormatJobs has made; the word jobs.
  dmNumber; DrawFormatPack.
  A row that lists variables and reads one more of which the world's shape alone tells: the wrap, and what the script's walks ask of the first world.
-/
import Derived.Test.YtmkjmancmiphfaaGreatDoorRa26
import Derived.Test.YtmkjmancmiphfaaGreatDoorRa23
import Derived.Test.YtmkjmancmiphfaaGreatDoorRa24
import Derived.Test.YtmkjmancmiphfaaGreatDoorRa05
import Derived.Test.YtmkjmancmiphfaaGreatDoorRa18
import Derived.Test.YtmkjmancmiphfaaGreatDoorRa20
import Derived.SizedLaws
import Derived.Handed
import Derived.LaidSub
import Derived.LaidMore
import Derived.Shelf.Vars
import Derived.Lay
import Derived.Test.YtmkjmancmiphfaaGreatDoorRows
import Derived.Test.YtmkjmancmiphfaaGreatDoorCards
namespace Go.Proofs.YtmkjmancmiphfaaGreatDoor
section
open Go.RowKit

theorem sortD_lenR (l : List Tk) : (sortD l).length ≤ l.length := by
  unfold sortD
  split
  · rw [sortF_len]; exact Nat.le_refl _
  · simp
theorem results_tmp4r {fn : Func} {t u v x : Tmp} (h : fn.results = #[.tmp t, .tmp u, .tmp v, .tmp x]) (tmps : Array Value) (P : Program) (w : World) :
    (results fn tmps).run P w = .ok (.tuple #[tmps.getD t undef, tmps.getD u undef, tmps.getD v undef, tmps.getD x undef]) w := by simp [results, h]
theorem BS_keep {w w' : World} {A : Option Addr} {l : List Int} (h : BS w A l) (hb : Below w.heap.size w w') : BS w' A l := by
  refine ⟨h.1, fun hl => ?_⟩
  obtain ⟨b, off, hA, hlt, hc⟩ := h.2 hl
  exact ⟨b, off, hA, Nat.lt_of_lt_of_le hlt hb.size, fun j u hu => (hb.cell (p := ⟨b, off + j, none⟩) hlt).trans (hc j u hu)⟩
theorem sm_vld {t : Tk} (h : vld t = true) : Sm t := by
  have := vld_bd h
  unfold Sm
  omega
theorem vld_due {t : Tk} (h : vld t = true) : vld ⟨t.low, t.high, t.every, t.every, t.crit⟩ = true := by
  simp only [vld, Bool.and_eq_true, decide_eq_true_eq] at h ⊢
  exact ⟨by omega, h.2⟩
/-- Tasks, jobs, a policy. -/
def DrPost (W _w : World) (g p k : Nat) (e : Ending) (w' : World) : Prop :=
  ∃ (A : Option Addr) (c : Nat) (l : List Tk) (B : Option Addr) (d : Nat) (js : List Jb) (pol : Int) (q : Nat), e = .returned (.tuple #[.slice A l.length c, .slice B js.length d, .int .i64 pol]) ∧ OT W.heap.size w' A c l ∧ OJ W.heap.size w' B d js ∧ l.length ≤ 5 ∧ js.length ≤ 61 ∧ q ≤ p + k ∧ RD W w' g q
set_option maxHeartbeats 4000000 in
set_option maxRecDepth 100000 in
theorem spec_l7Draw (W w : World) (g p : Nat) (h : RD W w g p) (hp : p + 110 ≤ 1099511627776) :
    Calls Tryz.prog 24 #[.pointer (some ⟨g, 0, none⟩)] w (DrPost W w g p 102) := by
  have hWw := h.below.size
  go_enter Tryz.func24, Tryz.ntmps24
  go_wp2_with fail
  refine (spec_pick W _ g p _ h (by omega)).mono ?_
  rintro e w0 ⟨m, rfl, hm0, hm1, _, hr0, hg0⟩
  clear hg0 h
  have hWw0 := hr0.below.size
  go_wp2_with fail
  refine (spec_l1SetV W _ g (p + 1) hr0 (by omega)).mono ?_
  rintro e w1 ⟨A, c, l, q, rfl, hO, hsm, hl5, hq, hr, hg⟩
  have hO : OT W.heap.size w1 A c l := own_base hO hWw0
  have hv1 : ∀ t ∈ l, vld t = true := fun t ht => (hsm t ht).2
  clear hg hsm
  go_wp2_with fail
  refine (spec_SortDue A l c _ hO.ts (by unfold maxLen; omega)).mono ?_
  rintro e w2 ⟨A2, c2, rfl, o2, b2⟩
  have hlen := sortD_lenR l
  have hr2 := hr.grow b2
  have o2 : OT W.heap.size w2 A2 c2 (sortD l) := own_base o2 hr.below.size
  have hv2 : Hid (∀ t ∈ sortD l, vld t = true) := by
    unfold sortD
    split
    · exact fun t ht => hv1 t ((sortF_perm l).mem_iff.1 ht)
    · intro t ht
      cases ht
  clear hO hr b2 hv1
  generalize sortD l = l2 at *
  have hl2 : l2.length ≤ 5 := by omega
  clear hlen hl5
  by_cases hm : m = 1
  · subst hm
    go_wp2_with fail
    go_loopw [7] (fun i wr => ∃ (k : Nat) (l3 : List Tk), i = .int .i64 (k : Int) ∧ k ≤ l2.length ∧ Hid (l3.length = l2.length) ∧ Hid (∀ t ∈ l3, vld t = true) ∧ OT W.heap.size wr A2 c2 l3 ∧ RD W wr g q) (fun i _ => 6 - (intOf i).toNat)
    case atStart => exact ⟨0, l2, rfl, by omega, rfl, hv2, o2, hr2⟩
    case round =>
      clear o2 hr2
      obtain ⟨k, l3, rfl, hk, hL, hV, hO, hr⟩ := hrel
      by_cases hkl : k < l2.length
      · have hkl2 : k < l3.length := by rw [hL.out]; exact hkl
        obtain ⟨b, rfl, hbw, hbl⟩ := OT_addr hO (by omega)
        obtain ⟨c0, c1, c2', c3, c4, cf⟩ := OT_cells hO k hkl2
        go_wp2_with fail
        go_roundw
        case rel =>
          obtain ⟨hO3, hg3⟩ := OT_field hO k 2 hkl2 (by omega) (.int .i64 l3[k].every) ⟨l3[k].low, l3[k].high, l3[k].every, l3[k].every, l3[k].crit⟩ rfl
          exact ⟨k + 1, _, by go_num, by omega, by rw [Hid, List.length_set]; exact hL.out, by
            intro t ht
            rcases List.mem_or_eq_of_mem_set ht with ht | rfl
            · exact hV.out t ht
            · exact vld_due (hV.out _ (List.getElem_mem hkl2)), hO3, hr.row hO (by decide) hg3 (own_below hO hg3 hr.below.size)⟩
        case measure => simp [intOf]; omega
      · have K := spec_l6Jobs W _ g q A2 l3 c2 hr (by omega) hO (by rw [hL.out]; omega) (fun t ht => sm_vld (hV.out t ht))
        rw [hL.out] at K
        go_wp2_with fail
        refine K.mono ?_
        rintro e w3 ⟨B, d, js, q3, rfl, hJ3, hj60, hq3, hr3, hg3⟩
        have hO3 := OT_only hO hr hg3
        have hJ3 := own_base hJ3 hr.below.size
        go_wp2_with fail
        go_ret3
        exact ⟨A2, c2, l3, B, d, js, 1, q3, by rw [hL.out]; rfl, hO3, hJ3, by rw [hL.out]; exact hl2, by omega, by omega, hr3⟩
  · have hme : (m == 1) = false := beq_eq_false_iff_ne.2 hm
    go_wp2_with fail
    refine (spec_l6Jobs W _ g q A2 l2 c2 hr2 (by omega) o2 (by omega) (fun t ht => sm_vld (hv2.out t ht))).mono ?_
    rintro e w3 ⟨B, d, js, q3, rfl, hJ3, hj60, hq3, hr3, hg3⟩
    have hO3 := OT_only o2 hr2 hg3
    have hJ3 := own_base hJ3 hr2.below.size
    go_wp2_with fail
    go_ret3
    exact ⟨A2, c2, l2, B, d, js, m, q3, rfl, hO3, hJ3, hl2, by omega, by omega, hr3⟩
/-- What a run is asked for. -/
def RunPost (w : World) (e : Ending) (w' : World) : Prop := ∃ A c l B d js pol tk, e = .returned (.tuple #[.slice A (List.length l) c, .slice B (List.length js) d, .int .i64 pol, .int .i64 tk]) ∧ OT w.heap.size w' A c l ∧ OJ w.heap.size w' B d js ∧ l.length ≤ 5 ∧ js.length ≤ 61 ∧ (-1 ≤ tk ∧ tk ≤ 201) ∧ Below w.heap.size w w'
set_option maxHeartbeats 4000000 in
set_option maxRecDepth 100000 in
theorem spec_DrawRunJobs (A0 : Option Addr) (code : List Int) (c0 : Nat) (w : World) (h : BS w A0 code) (hl : code.length ≤ maxLen) (hlc : code.length ≤ c0) :
    Calls Tryz.prog 7 #[.slice A0 code.length c0] w (RunPost w) := by
  go_enter Tryz.func7, Tryz.ntmps7
  go_wp2_with fail
  refine (spec_l11Open A0 code c0 w h hl hlc).mono ?_
  rintro e w1 ⟨rfl, hr1⟩
  obtain ⟨g, hg⟩ : ∃ g, w.heap.size = g := ⟨_, rfl⟩
  rw [hg] at hr1 ⊢
  go_wp2_with fail
  refine (spec_l7Draw w _ g 0 hr1 (by omega)).mono ?_
  rintro e w2 ⟨A, c, l, B, d, js, pol, q2, rfl, hO2, hJ2, hl5, hj61, hq2, hr2⟩
  clear hr1
  go_wp2_with fail
  refine (spec_pick w _ g q2 _ hr2 (by omega)).mono ?_
  rintro e w3 ⟨x, rfl, hx0, hx1, _, hr3, hg3⟩
  have hO3 := OT_only hO2 hr2 hg3
  have hJ3 := OJ_only hJ2 hr2 hg3
  clear hg3 hO2 hJ2 hr2 hx1
  by_cases hx : x = 0
  · subst hx
    clear hO3 hJ3
    go_wp2_with fail
    refine (spec_l6Case A0 code c0 _ (BS_keep h hr3.below) hl hlc).mono ?_
    rintro e w4 ⟨A', c', l', B', d', js', rfl, hk⟩
    obtain ⟨hO4, hJ4, hl5', hj61', hb4⟩ := hk
    have hr4 := hr3.grow hb4
    have hO4 := own_base hO4 hr3.below.size
    have hJ4 := own_base hJ4 hr3.below.size
    go_wp2_with fail
    refine (spec_num w _ g q2.succ _ [0, 1, 2, -1] _ (hr4.grow (bal (Below.refl _ _) _)) (by omega) (IS_lit _ _ _ _ _ rfl rfl) (by simp) (by simp) (by rintro a ⟨⟩; have := hr4.lt; simp; omega)).mono ?_
    rintro e w5 ⟨n5, _, rfl, hr5, hg5⟩
    have hO5 := OT_only (OT_alloc hO4 _) (hr4.grow (bal (Below.refl _ _) _)) hg5
    have hJ5 := OJ_only (OJ_alloc hJ4 _) (hr4.grow (bal (Below.refl _ _) _)) hg5
    clear hg5 hO4 hJ4
    go_wp2_with fail
    refine (spec_num w _ g _ _ [40, 20, 60, 5, 0, 201, -1] _ (hr5.grow (bal (Below.refl _ _) _)) (by omega) (IS_lit _ _ _ _ _ rfl rfl) (by simp) (by simp) (by rintro a ⟨⟩; have := hr5.lt; simp; omega)).mono ?_
    rintro e w6 ⟨n6, hn6, rfl, hr6, hg6⟩
    have hO6 := OT_only (OT_alloc hO5 _) (hr5.grow (bal (Below.refl _ _) _)) hg6
    have hJ6 := OJ_only (OJ_alloc hJ5 _) (hr5.grow (bal (Below.refl _ _) _)) hg6
    clear hg6 hO5 hJ5
    have hn6 : -1 ≤ n6 ∧ n6 ≤ 201 := by simp at hn6; omega
    go_wp2_with fail
    refine bodyPost_ret (results_tmp4r rfl _ _ _) rfl ?_
    exact ⟨A', c', l', B', d', js', n5, n6, rfl, hg ▸ hO6, hg ▸ hJ6, hl5', hj61', hn6, hg ▸ hr6.below⟩
  · have hxe : (x == 0) = false := beq_eq_false_iff_ne.2 hx
    go_wp2_with fail
    refine (spec_num w _ g _ _ [40, 20, 60, 5, 0, 201, -1] _ (hr3.grow (bal (Below.refl _ _) _)) (by omega) (IS_lit _ _ _ _ _ rfl rfl) (by simp) (by simp) (by rintro a ⟨⟩; have := hr3.lt; simp; omega)).mono ?_
    rintro e w6 ⟨n6, hn6, rfl, hr6, hg6⟩
    have hO6 := OT_only (OT_alloc hO3 _) (hr3.grow (bal (Below.refl _ _) _)) hg6
    have hJ6 := OJ_only (OJ_alloc hJ3 _) (hr3.grow (bal (Below.refl _ _) _)) hg6
    clear hg6 hO3 hJ3
    have hn6 : -1 ≤ n6 ∧ n6 ≤ 201 := by simp at hn6; omega
    go_wp2_with fail
    refine bodyPost_ret (results_tmp4r rfl _ _ _) rfl ?_
    exact ⟨A, c, l, B, d, js, pol, n6, rfl, hg ▸ hO6, hg ▸ hJ6, hl5, hj61, hn6, hg ▸ hr6.below⟩
end

section
open Go.RowKit

/-- A job in the making, in block g. -/
structure Bj (w : World) (g : Nat) (wx : World) (t : Jb) : Prop where
  t : wx.heap[g]? = some (.cells #[.int .i64 t.task, .int .i64 t.at_, .int .i64 t.need] 60 (0, 0))
  b : Below w.heap.size w wx
  lt : w.heap.size ≤ g
theorem Bj.keep {w wx wy : World} {g : Nat} {t : Jb} (h : Bj w g wx t) (hb : Below wx.heap.size wx wy) : Bj w g wy t :=
  ⟨(hb.block g (Array.getElem?_eq_some_iff.1 h.t).1).trans h.t, bthru h.b hb, h.lt⟩
theorem Bj.st {w wx : World} {g : Nat} {t t' : Jb} (h : Bj w g wx t) (i : Nat) (v : Value) (e : (#[.int .i64 t.task, .int .i64 t.at_, .int .i64 t.need] : Array Value).setIfInBounds i v = #[.int .i64 t'.task, .int .i64 t'.at_, .int .i64 t'.need]) : Bj w g (wx.setCell ⟨g, i, none⟩ v) t' :=
  ⟨by rw [blk_set h.t v, e], h.b.setCell (p := ⟨g, i, none⟩) h.lt v, h.lt⟩
theorem Bj.cells {w wx : World} {g : Nat} {t : Jb} (h : Bj w g wx t) : wx.cell? ⟨g, 0, none⟩ = some (.int .i64 t.task) ∧ wx.cell? ⟨g, 1, none⟩ = some (.int .i64 t.at_) ∧ wx.cell? ⟨g, 2, none⟩ = some (.int .i64 t.need) ∧ ∀ i, wx.frozen? ⟨g, i, none⟩ = false :=
  ⟨(blk3 h.t).1, (blk3 h.t).2.1, (blk3 h.t).2.2, fun i => Lib.frozen_of_heap h.t i⟩

set_option maxHeartbeats 4000000 in
set_option maxRecDepth 100000 in
theorem impl_ParseJobs (js : List Jb) (ht : toldB js = true) (w : World) (hM : Mx w.heap.size w) :
    Calls Tryz.prog 133 #[.string ⟨(fmtJobs js).toArray⟩] w (RetJB w js true) := by
  obtain ⟨hl60, hall⟩ := told_all ht
  have hf : fmtJobs js = jobsT js := by simp [fmtJobs, ht]
  have hsl := fmtJobs_le js
  have HFm := Lib.hid hf
  have HT := Lib.hid ht
  rw [hf] at hsl ⊢
  clear ht
  by_cases h0 : js = []
  · subst h0
    go_enter Tryz.func133, Tryz.ntmps133
    go_wp2_with fail
    go_ret2
    exact ⟨_, 0, rfl, OJ_blank w _ (Nat.le_refl _), bal (Below.refl _ _) _⟩
  · have hp := jobsT_pieces h0
    have hne := jobsT_ne h0
    obtain ⟨F, hF⟩ : ∃ F, jobsT js = F := ⟨_, rfl⟩
    rw [hF] at hp hne hsl hf ⊢
    have HFm := Lib.hid hf
    have hFn : F.isEmpty = false := by simpa using hne
    have HA := Lib.hid hall
    clear hall hF hf hne
    go_enter Tryz.func133, Tryz.ntmps133
    go_wp2_with fail
    refine (split_is F 32 [] _ hp (hM.keep (bal (Below.refl _ _) _)) (by omega)).mono ?_
    rintro e w1 ⟨rfl, rfl⟩
    rw [List.length_map]
    have hP0 := heap_alloc_new (w.alloc (.cells #[] 60)) (.cells ((js.map jobT).map (fun x => Value.string ⟨x.toArray⟩)).toArray 9 (0, 0))
    have hsz0 : (w.alloc (.cells #[] 60)).heap.size = w.heap.size + 1 := by simp
    go_wp2_with fail
    go_loopw [4, 21] (fun v i wr => ∃ (k bo c' : Nat), i = .int .i64 (k : Int) ∧ v = .slice (some ⟨bo, 0, none⟩) k c' ∧ k ≤ js.length ∧ OJ w.heap.size wr (some ⟨bo, 0, none⟩) c' (js.take k) ∧ Hid (wr.heap[w.heap.size + 1]? = some (.cells ((js.map jobT).map (fun x => Value.string ⟨x.toArray⟩)).toArray 9 (0, 0))) ∧ Below w.heap.size w wr) (fun _ i _ => js.length - (intOf i).toNat)
    case atStart => exact ⟨0, _, 0, rfl, rfl, by omega, OJ_alloc (OJ_blank w _ (Nat.le_refl _)) _, by rw [hsz0] at hP0; simpa [Hid] using hP0, bal (bal (Below.refl _ _) _) _⟩
    case round =>
      obtain ⟨k, bo, c', rfl, rfl, hk, hO, hP, hb⟩ := hrel
      clear hP0
      by_cases hlt : k < js.length
      · have hx := flat_row hP.out k (by simpa using hlt)
        have hvt := HA.out js[k] (List.getElem_mem hlt)
        simp only [List.getElem_map] at hx
        have hnx0 : js.take k ++ [js[k]] = js.take (k + 1) := by rw [List.take_succ_eq_append_getElem hlt]
        generalize js[k] = t at hx hvt hnx0
        have hnx := Lib.hid hnx0
        have hkl : Hid ((js.take k).length = k) := by rw [Hid, List.length_take]; omega
        have hC1 := jobT_cut t
        have hC2 := jobT_cut2 t
        have hL := jobT_len hvt
        rw [toldJ_iff] at hvt
        obtain ⟨q, a, n⟩ := t
        dsimp only at *
        have hL2 : (num a ++ (58 :: []) ++ num n).length ≤ 100 := by
          have h2 := num_len a (by omega)
          have h3 := num_len n (by omega)
          simp
          omega
        generalize num a ++ (58 :: []) ++ num n = R at hC1 hC2 hL2
        generalize jobT ⟨q, a, n⟩ = X at hx hC1 hL
        have HC1 := Lib.hid hC1
        have HC2 := Lib.hid hC2
        clear hnx0 hC1 hC2
        go_wp2_with fail
        refine (cut_is HC1.out ((hM.keep hb).up hb.size) (by omega)).mono ?_
        rintro e w2 ⟨rfl, b2⟩
        go_wp2_with fail
        refine (cut_is HC2.out ((hM.keep (bthru hb b2)).up (bthru hb b2).size) (by omega)).mono ?_
        rintro e w3 ⟨rfl, b3⟩
        have hO3 := OJ_keep hO (bthru b2 b3)
        have B3 := bthru hb (bthru b2 b3)
        have hP3 := Lib.hid (((bthru b2 b3).block _ (Array.getElem?_eq_some_iff.1 hP.out).1).trans hP.out)
        clear hO hP hx b2 b3
        have X : Bj w3 w3.heap.size (w3.alloc (.cells #[.int .i64 0, .int .i64 0, .int .i64 0] 60 (0, 0))) ⟨0, 0, 0⟩ := ⟨heap_alloc_new _ _, bal (Below.refl _ _) _, Nat.le_refl _⟩
        go_upto_region 10 with fail
        generalize w3.heap.size = g at X ⊢
        generalize World.alloc w3 _ = v0 at X ⊢
        go_wp2_with fail
        refine (atoi_is q (by omega) (by omega) _).mono ?_
        rintro e v1 ⟨rfl, bv1⟩
        replace X := X.keep bv1
        clear bv1
        obtain ⟨t0, t1, t2, tf⟩ := X.cells
        go_upto_region 11 with fail
        replace X := X.st (t' := ⟨q, 0, 0⟩) 0 (.int .i64 q) rfl
        clear t0 t1 t2 tf
        generalize World.setCell v1 _ _ = v2 at X ⊢
        go_wp2_with fail
        refine (atoi_is a (by omega) (by omega) _).mono ?_
        rintro e v3 ⟨rfl, bv3⟩
        replace X := X.keep bv3
        clear bv3
        obtain ⟨t0, t1, t2, tf⟩ := X.cells
        go_upto_region 12 with fail
        replace X := X.st (t' := ⟨q, a, 0⟩) 1 (.int .i64 a) rfl
        clear t0 t1 t2 tf
        generalize World.setCell v3 _ _ = v4 at X ⊢
        go_wp2_with fail
        refine (atoi_is n (by omega) (by omega) _).mono ?_
        rintro e v5 ⟨rfl, bv5⟩
        replace X := X.keep bv5
        clear bv5
        obtain ⟨t0, t1, t2, tf⟩ := X.cells
        go_upto_region 13 with fail
        replace X := X.st (t' := ⟨q, a, n⟩) 2 (.int .i64 n) rfl
        clear t0 t1 t2 tf
        generalize World.setCell v5 _ _ = v6 at X ⊢
        obtain ⟨t0, t1, t2, tf⟩ := X.cells
        have hO4 := OJ_keep hO3 X.b
        have B4 := bthru B3 X.b
        have hP4 := Lib.hid ((X.b.block _ (Array.getElem?_eq_some_iff.1 hP3.out).1).trans hP3.out)
        clear hO3 hP3
        go_wp2_with (at_builtin; go_loud (refine wpList_app_job _ rfl _ _ rfl w.heap.size (some ⟨bo, 0, none⟩) (js.take k) k c' hkl.out rfl (OJ_alloc hO4 _) v6.heap.size 1 ⟨q, a, n⟩ _ 60 rfl (heap_alloc_new v6 _) rfl (by rw [hkl.out]; omega) (by have := B4.size; simp; omega) ?_); intro A3 c3 w9 o3 g3 b3)
        have hP9 := Lib.hid (row_kept ((Below.heap_alloc v6 (.cells #[.int .i64 q, .int .i64 a, .int .i64 n] 60 (0, 0)) _ (Array.getElem?_eq_some_iff.1 hP4.out).1).trans hP4.out) g3 (own_ne (OJ_alloc hO4 _) ((Below.heap_alloc v6 (.cells #[.int .i64 q, .int .i64 a, .int .i64 n] 60 (0, 0)) _ (Array.getElem?_eq_some_iff.1 hP4.out).1).trans hP4.out) (by decide)))
        obtain ⟨b4, rfl, _, _⟩ := OJ_addr o3 (by simp)
        rw [hnx.out] at o3
        go_roundw
        case rel => exact ⟨k + 1, b4, c3, by go_num, rfl, by omega, o3, hP9, (bal B4 _).trans b3⟩
        case measure => simp [intOf]; omega
      · obtain rfl : k = js.length := by omega
        rw [List.take_length] at hO
        go_wp2_with fail
        refine (impl_FormatJobs (some ⟨bo, 0, none⟩) js c' _ hO.js HT.out (hM.keep hb) hb.size).mono ?_
        rw [HFm.out]
        rintro e w8 ⟨rfl, b8⟩
        go_wp2_with fail
        go_ret2
        exact ⟨_, c', rfl, OJ_keep hO b8, bthru hb b8⟩
set_option maxHeartbeats 4000000 in
set_option maxRecDepth 100000 in
theorem text_jobs (js : List Jb) (s : St) (hV : jobsV s.l js = true) (ho : s.out.length ≤ 700000) : TextIs [106, 111, 98, 115] (fmtJobs js) s ⟨s.l, js.length, flatJ js, s.pol, s.out ++ ([111, 107] ++ [10])⟩ := by
  intro B b w hM D hBw
  have D0 := D
  have ht := jobsV_told hV
  have hl60 := (told_all ht).1
  go_enter Tryz.func78, Tryz.ntmps78
  go_wp2_with fail
  refine (impl_ParseJobs js ht _ (hM.up hBw)).mono ?_
  rintro e w1 ⟨A1, c1', rfl, o1, b1⟩
  have D1 := D.keep b1
  have F1 := (Frm.refl B b w).thru hBw b1
  obtain ⟨A, c, jv, c0, c1, c2, f0, f1, f2, hO, hlc⟩ := D1.cells
  go_wp2_with fail
  refine (impl_JobsValid A s.l c A1 js c1' _ hO.ts o1.js (own_size o1).1 (by unfold maxLen; omega)).mono ?_
  rw [hV]
  rintro e w2 ⟨rfl, b2⟩
  have D2 := D1.keep b2
  have F2 := F1.thru hBw b2
  have o2 := OJ_keep o1 b2
  go_wp2_with fail
  refine (desk_setJobs D2 A1 js c1' (own_base o2 hBw) (by omega) (Nat.le_trans hBw (bthru b1 b2).size)).mono ?_
  rintro e w3 ⟨rfl, D3, F3⟩
  go_wp2_with fail
  go_ret
  exact ⟨rfl, D3, F2.trans F3⟩
end

section
open Go.RowKit

set_option maxHeartbeats 1000000 in
theorem laws_dmNumber (n : Nat) (hn : n ≤ 9223372036854775807) (w : World) :
    Calls Tryz.prog 13 #[.int .i64 (n : Int)] w fun e w' => e = .returned (.string ⟨(Lib.decDigits n).toArray⟩) ∧ Below w.heap.size w w' := by
  have hlen : (Lib.decDigits n).length ≤ 21 := by
    have := Lib.itoa_length_le (n : Int) (by omega) (by omega)
    rwa [Lib.itoa, if_neg (by omega), Int.toNat_natCast] at this
  obtain ⟨D, hD⟩ : ∃ D, Lib.decDigits n = D := ⟨_, rfl⟩
  rw [hD] at hlen ⊢
  have HD := Lib.hid hD
  clear hD
  go_enter Tryz.func13, Tryz.ntmps13
  go_wp2_with fail
  go_loopw [0, 3] (fun i v wr => ∃ (m : Nat) (acc : List UInt8), i = .int .i64 (m : Int) ∧ v = .string ⟨acc.toArray⟩ ∧ m ≤ n ∧ Hid (Lib.decDigits m ++ acc = D) ∧ Below w.heap.size w wr) (fun i _ _ => (intOf i).toNat)
  case atStart => exact ⟨n, [], rfl, rfl, Nat.le_refl _, by rw [Hid, List.append_nil]; exact HD.out, Below.refl _ _⟩
  case round =>
    obtain ⟨m, acc, rfl, rfl, hm, hacc, hb⟩ := hrel
    have hal : acc.length ≤ 21 := by
      have := congrArg List.length hacc.out
      rw [List.length_append] at this
      omega
    have h1 := conv_one wr (48 + (m : Int) % 10) (48 + m % 10) (by omega) (by omega)
    by_cases hm9 : 9 < (m : Int)
    · have hq : ((m : Int) / 10 == 0) = false := beq_eq_false_iff_ne.2 (by omega)
      have hd : Hid (Lib.decDigits (m / 10) ++ (UInt8.ofNat (48 + m % 10) :: acc) = D) := by
        rw [Hid, ← hacc.out, dec_big m (by omega), List.append_assoc]
        rfl
      generalize UInt8.ofNat (48 + m % 10) = x at h1 hd
      go_wp2_with fail
      go_roundw
      case rel => exact ⟨m / 10, _, by go_num, by rw [mk_app]; rfl, by omega, hd, bal hb _⟩
      case measure => simp [intOf]; omega
    · have hq : (m : Int) / 10 = 0 := by omega
      have hd : Hid ([UInt8.ofNat (48 + m % 10)] ++ acc = D) := by
        rw [Hid, ← hacc.out, dec_small m (by omega), Nat.mod_eq_of_lt (by omega)]
      generalize UInt8.ofNat (48 + m % 10) = x at h1 hd
      go_wp2_with fail
      go_ret
      exact ⟨by rw [← hd.out, ← mk_app]; rfl, bal hb _⟩
end

section
open Go.RowKit

theorem returns_row {H : Type} {enc : TypeId × Value → H} {a : Assume} {C : Checked} {os : Os} {f : FuncId} {fn : Func} {s : ChangeSpec} {conds : List PathCond} {apart fresh handsOn again : Bool} {X : World → Array Value → Prop}
    (hX : ∀ (w w' : World) (args : Array Value), w.heap = w'.heap → X w args → X w' args)
    (own : ownKnob C.prog.godebug = none) (started : os.Started) (noInit : C.prog.inits.idxOf? f = none) (hfn : C.prog.funcs[f]? = some fn)
    (witness : ∃ (w : World) (tape : Tape) (i : Input), w.os = os ∧ (w.forCall tape i).Shaped C.prog ∧ i.vars = [] ∧ Input.okWide C.prog (w.forCall tape i) .any w.heap.size f i ∧
      ((s.pre enc C.prog fn conds apart (w.forCall tape i).memory i.args ∧ X (w.forCall tape i).memory i.args) ∧ sizedMet enc C.prog fn (OpenSpec.ofChange s) apart (w.forCall tape i).memory i.args) ∧ a.holds C.prog (lone (Frame.enter C.prog f i.args .normal) [] (w.forCall tape i)))
    (contract : ∀ (W : World) (base : Nat) (args : Array Value) (ds gs : List (DataW H)) (before : List MemPlace),
      (∀ (j : Nat) t v, fn.params[j]? = some t → args[j]? = some v → Value.okWide C.prog W .any base t v) →
      DataW.Whole enc C.prog fn.params.toList s.vars apart W args.toList ds gs before →
      X W args → W.ShapedOpen C.prog →
      Calls C.prog f args W fun e W' => ∃ v, e = .returned v ∧ s.post enc C.prog fn apart fresh handsOn again W args v W') :
    ReturnsInHanded a C os f .any (fun w args => (s.pre enc C.prog fn conds apart w args ∧ X w args) ∧ sizedMet enc C.prog fn (OpenSpec.ofChange s) apart w args) (s.post enc C.prog fn apart fresh handsOn again) := by
  refine returnsInHanded_of_calls own started noInit witness ?_
  intro w tape i _ hsh _ hok hpre _
  obtain ⟨_, _, _, fn', hfn', _, _, _, _, hval⟩ := hok
  obtain rfl := Option.some.inj (hfn'.symm.trans hfn)
  obtain ⟨⟨⟨ds, gs, before, hw, _⟩, hx⟩, _⟩ := hpre
  refine (contract (w.forCall tape i) w.heap.size i.args ds gs before hval (DataW.Whole.of_heap (w' := w.forCall tape i) (by rfl) hw) (hX _ _ _ (by rfl) hx) hsh).mono fun e W' ⟨v, he, hp⟩ => ?_
  subst he
  exact ChangeSpec.post_blind hp

theorem cell_lt {w : World} {g : Nat} {v : Value} (h : w.cell? ⟨g, 0, none⟩ = some v) : g < w.heap.size := by
  rcases Nat.lt_or_ge g w.heap.size with h1 | h1
  · exact h1
  · simp [World.cell?, Array.getElem?_eq_none h1] at h
theorem mx_of {W : World} {laid : List (String × DataW Unit)} (hL : laidMetH Tryz.prog laid W) (hsh : W.ShapedOpen Tryz.prog)
    (hk : (laid.filter fun x => x.1 == "internal/strconv.uint64pow10") = [("internal/strconv.uint64pow10", Rows.laid_internal_strconv_uint64pow10)]) : Mx W.heap.size W := by
  obtain ⟨m, hm⟩ := cell_of_shapedOpen_int (g := 0) (t := 3) (zero := #[.int .i64 0]) (k := .i64) hsh (of_decide_eq_true (by kernel_rfl)) (by kernel_rfl) rfl (by kernel_rfl) (by kernel_rfl) Tryz.underlying3
  have h1 := hL.filter (fun x => x.1 == "internal/strconv.uint64pow10")
  rw [hk, MakeChecks.laidMetH_plain _ _ _ (by kernel_rfl)] at h1
  have e : (Rows.laid_internal_strconv_uint64pow10 : DataW Unit) = Lib.tabData .u64 Lib.pow10Tab := by kernel_rfl
  rw [e] at h1
  have hT : Lib.TabIs Tryz.prog W "internal/strconv.uint64pow10" .u64 Lib.pow10Tab :=
    Lib.tabIs_of_head (g := 1) (n := 20) (by kernel_rfl) (by kernel_rfl) Tryz.underlying201 Tryz.underlying169 (by kernel_rfl) (by kernel_rfl) h1
  exact ⟨⟨m, hm⟩, cell_lt hm, hT, cell_lt (hT.cell (by kernel_rfl) 0 (by decide))⟩
/-- The start of the witness: the listed variables laid. -/
theorem shapedS (os : Os) : (World.laidAll Tryz.prog os Rows.fnScriptShowRow.laid).Shaped Tryz.prog := World.shaped_of_ZipB (by as_aux_lemma => kernel_rfl) (by as_aux_lemma => kernel_rfl)
theorem metS (os : Os) (args : Array Value) : laidMetH Tryz.prog Rows.fnScriptShowRow.laid ((World.laidAll Tryz.prog os Rows.fnScriptShowRow.laid).forCall (fun _ _ => 0) ⟨#[], args, []⟩).memory := by
  rw [MakeChecks.laidMetH_plain _ _ _ (by kernel_rfl)]
  exact laidMet_laidAll _ (by as_aux_lemma => kernel_rfl) (by as_aux_lemma => kernel_rfl)
theorem looksS : true = Tryz.prog.looks [] := by as_aux_lemma => kernel_rfl
end
end Go.Proofs.YtmkjmancmiphfaaGreatDoor
