/-
  The word run at the desk.
-/
import Derived.Test.YtmkjmancmiphfaaGreatDoorRa21
import Derived.Test.YtmkjmancmiphfaaGreatDoorRa24
import Derived.Test.YtmkjmancmiphfaaGreatDoorRa07
namespace Go.Proofs.YtmkjmancmiphfaaGreatDoor
open Go.RowKit

abbrev mR (l : List Tk) (js : List Jb) (pol : Int) (n : Nat) : Mc := mrun l js (facN l) (facD l) pol n
/-- The text of a run. -/
def runT (l : List Tk) (js : List Jb) (pol : Int) (n : Nat) : List UInt8 :=
  (([116, 114, 97, 99, 101, 32] ++ trT (mR l js pol n).tr) ++ [10]) ++ (([115, 119, 105, 116, 99, 104, 101, 115] ++ numsT (mR l js pol n).sw) ++ [10]) ++ (([108, 97, 116, 101] ++ numsT (ints (lateTo l js (mR l js pol n).en n js.length))) ++ [10]) ++ (([100, 114, 111, 112, 112, 101, 100] ++ numsT (ints (dropL (mR l js pol n).en js.length))) ++ [10])
theorem late_lt (l : List Tk) (js : List Jb) (en : List Int) (T : Int) (k : Nat) : ∀ i ∈ lateTo l js en T k, i < k := by
  induction k with
  | zero => intro i hi; cases hi
  | succ k ih =>
    intro i hi
    simp only [lateTo, List.mem_append] at hi
    rcases hi with hi | hi
    · have := ih i hi
      omega
    · split at hi
      · rw [List.mem_singleton] at hi
        omega
      · cases hi
theorem late_le (l : List Tk) (js : List Jb) (en : List Int) (T : Int) (k : Nat) : (lateTo l js en T k).length ≤ k := by
  induction k with
  | zero => simp [lateTo]
  | succ k ih =>
    simp only [lateTo]
    split <;> simp <;> omega
/-- Who ran, and when modes changed. -/
theorem mrun_ok {l : List Tk} {js : List Jb} (hV : jobsV l js = true) (num den pol : Int) (t : Nat) : (∀ x ∈ (mrun l js num den pol t).tr, x = -1 ∨ (0 ≤ x ∧ x ≤ 4)) ∧ (∀ x ∈ (mrun l js num den pol t).sw, 0 ≤ x ∧ x ≤ (t : Int)) := by
  have hS : setVld l = true := by
    simp only [jobsV, Bool.and_eq_true] at hV
    exact hV.1.1
  have h5 := setVld_len hS
  have V := jobsIn_of hV
  induction t with
  | zero => exact ⟨fun x hx => (by simp [mrun] at hx), fun x hx => (by simp [mrun] at hx)⟩
  | succ t ih =>
    have I := minv (num := num) (den := den) (pol := pol) (apart_of hV) (fun k hk => tkAt_vld hS hk) t
    obtain ⟨ih1, ih2⟩ := ih
    have hm : mrun l js num den pol (t + 1) = mstep l js num den pol t (mrun l js num den pol t) := rfl
    rw [hm]
    generalize mrun l js num den pol t = s at ih1 ih2 I
    have ih2' : ∀ x ∈ s.sw, 0 ≤ x ∧ x ≤ ((t + 1 : Nat) : Int) := fun x hx => by
      have := ih2 x hx
      omega
    unfold mstep
    by_cases he : (arrOf l js t s).2 = []
    · simp only [he, if_true]
      refine ⟨fun x hx => ?_, ih2'⟩
      rcases List.mem_append.1 hx with hx | hx
      · exact ih1 x hx
      · rw [List.mem_singleton] at hx
        exact .inl hx
    · simp only [he, if_false]
      refine ⟨fun x hx => ?_, fun x hx => ?_⟩
      · rcases List.mem_append.1 hx with hx | hx
        · exact ih1 x hx
        · rw [List.mem_singleton] at hx
          have hlen : 0 < (arrOf l js t s).2.length := by
            cases hh : (arrOf l js t s).2 with
            | nil => exact absurd hh he
            | cons a r => simp
          have hb := best_mem (goesB l js num den pol (mdOf s)) (arrOf l js t s).2 ((arrOf l js t s).2.length - 1) (by omega)
          have hi := (I.come (apart_of hV) (fun k hk => tkAt_vld hS hk) hb).1
          have := V.job _ hi
          unfold bestOf at hx
          refine .inr ?_
          omega
      · unfold endOf at hx
        split at hx
        · exact ih2' x hx
        · split at hx
          · rcases List.mem_append.1 hx with hx | hx
            · exact ih2' x hx
            · rw [List.mem_singleton] at hx
              omega
          · exact ih2' x hx
theorem rt8 : RT ≠ 5 := by decide
theorem Desk.lt {B b : Nat} {w : World} {s : St} (h : Desk B b w s) : b < w.heap.size := by
  obtain ⟨_, _, _, _, _, _, hk, _⟩ := h
  exact (Array.getElem?_eq_some_iff.1 hk).1
theorem row_frm {base B b c : Nat} {w w' : World} {A : Option Addr} {l : List Int} (h : OI base w A c l) (F : Frm B b w w') (hb : b < base) : OI base w' A c l := by
  refine ⟨h.1, ?_⟩
  rcases h.2 with hz | ⟨g, cap, cur, hv, hg, hh, hr⟩
  · exact .inl hz
  · exact .inr ⟨g, cap, cur, hv, hg, F.1 g _ hh (by simp; omega) (by rintro c fz e; injection e with _ e _; revert e; decide), hr⟩
set_option maxHeartbeats 4000000 in
set_option maxRecDepth 100000 in
theorem count_run (n : Nat) (s : St) (js : List Jb) (hjn : s.jn = js.length) (hjc : s.jc = flatJ js) (hV : jobsV s.l js = true) (hp : s.pol = 0 ∨ s.pol = 1) (hf : s.pol = 1 → facB s.l = true) (hn : n ≤ 200) (ho : s.out.length ≤ 700000) : CountIs [114, 117, 110] (n : Int) s { s with out := s.out ++ runT s.l js s.pol n } := by
  intro B b w hM D hBw
  have D0 := D
  obtain ⟨A, c, jv, c0, c1, c2, f0, f1, f2, hO, hlc⟩ := D0.cells
  obtain ⟨J, d, hJ, oJ⟩ := D.jobs (js := js) hjn hjc
  rw [c1] at hJ
  injection hJ with hJ
  subst hJ
  have h60 : js.length ≤ 60 ∧ setVld s.l = true := by
    simp only [jobsV, Bool.and_eq_true, decide_eq_true_eq] at hV
    exact ⟨hV.1.2, hV.1.1⟩
  obtain ⟨h60, hS⟩ := h60
  have hl5 := setVld_len hS
  have hlm : s.l.length ≤ maxLen := by unfold maxLen; omega
  have hjm : js.length ≤ maxLen := by unfold maxLen; omega
  have hjd := (own_size oJ).1
  have hTS := hO.ts
  have hJS := oJ.js
  have HLen : Hid ((mR s.l js s.pol n).tr.length = n ∧ (mR s.l js s.pol n).sw.length ≤ n) := ⟨(mrun_len h60 n).1, (mrun_len h60 n).2.1⟩
  have hok : (∀ x ∈ (mR s.l js s.pol n).tr, x = -1 ∨ (0 ≤ x ∧ x ≤ 4)) ∧ (∀ x ∈ (mR s.l js s.pol n).sw, 0 ≤ x ∧ x ≤ (n : Int)) := mrun_ok hV (facN s.l) (facD s.l) s.pol n
  have HEn : Hid ((mR s.l js s.pol n).en.length = js.length) := (minv (num := facN s.l) (den := facD s.l) (pol := s.pol) (apart_of hV) (fun k hk => tkAt_vld hS hk) n).enL
  have HT : Hid (runT s.l js s.pol n = (([116, 114, 97, 99, 101, 32] ++ trT (mR s.l js s.pol n).tr) ++ [10]) ++ (([115, 119, 105, 116, 99, 104, 101, 115] ++ numsT (mR s.l js s.pol n).sw) ++ [10]) ++ (([108, 97, 116, 101] ++ numsT (ints (lateTo s.l js (mR s.l js s.pol n).en n js.length))) ++ [10]) ++ (([100, 114, 111, 112, 112, 101, 100] ++ numsT (ints (dropL (mR s.l js s.pol n).en js.length))) ++ [10])) := rfl
  have HN := Lib.hid hjn
  have HC := Lib.hid hjc
  clear hjn hjc
  go_enter Tryz.func80, Tryz.ntmps80
  go_upto_region 11 with fail
  go_cut [7, 8] from 56 to 72 (fun p okv wc => ∃ nb ge ce gt ct gs cs, p = .pointer (some ⟨nb, 0, none⟩) ∧ okv = .bool true ∧ wc.heap[nb]? = some (runC (sl ge (mR s.l js s.pol n).en.length ce) (sl gt (mR s.l js s.pol n).tr.length ct) (sl gs (mR s.l js s.pol n).sw.length cs) (mR s.l js s.pol n).hi) ∧ OI w.heap.size wc (some ⟨ge, 0, none⟩) ce (mR s.l js s.pol n).en ∧ OI w.heap.size wc (some ⟨gt, 0, none⟩) ct (mR s.l js s.pol n).tr ∧ OI w.heap.size wc (some ⟨gs, 0, none⟩) cs (mR s.l js s.pol n).sw ∧ w.heap.size ≤ nb ∧ Below w.heap.size w wc)
  case first =>
    have hSk : ∀ {v : World}, Below w.heap.size w v → v.cell? ⟨b, 0, none⟩ = some (.slice A s.l.length c) ∧ v.cell? ⟨b, 1, none⟩ = some (.slice J js.length d) ∧ v.cell? ⟨b, 2, none⟩ = some (.int .i64 s.pol) := by
      intro v bz
      have kc : ∀ {p : Addr} {u : Value}, w.cell? p = some u → v.cell? p = some u := fun h => (bz.cell (World.block_lt_of_cell? w _ h)).trans h
      exact ⟨kc c0, kc c1, kc c2⟩
    refine wp_region_held (S := fun v => v.cell? ⟨b, 0, none⟩ = some (.slice A s.l.length c) ∧ v.cell? ⟨b, 1, none⟩ = some (.slice J js.length d) ∧ v.cell? ⟨b, 2, none⟩ = some (.int .i64 s.pol)) (by kernel_rfl) ?_
    change wpAnyH _ _ _ _ _ _ _ _ (World.drew _)
    have Bv0 : Below w.heap.size w (World.drew w) := Below.drew (Below.refl _ _)
    generalize World.drew w = v0 at Bv0 ⊢
    have hS0 := hSk Bv0
    refine takeHL (i := 0) 56 (.pointer (some ⟨b, 0, none⟩)) rfl rfl (by kernel_rfl) (by kernel_rfl) (by kernel_rfl) (fun _ _ _ h => h) (.inl ⟨by rfl, fun _ _ => rfl⟩) hS0 ?_
    simp only [List.set_cons_succ, List.set_cons_zero]
    refine takeHL (i := 1) 57 (.pointer (some ⟨b, 0, none⟩)) rfl rfl (by kernel_rfl) (by kernel_rfl) (by kernel_rfl) (fun _ _ _ h => h) (.inl ⟨by rfl, fun w _ => by go_simp⟩) hS0 ?_
    simp only [List.set_cons_succ, List.set_cons_zero]
    refine takeHL (i := 2) 58 (.pointer (some ⟨b, 0, none⟩)) rfl rfl (by kernel_rfl) (by kernel_rfl) (by kernel_rfl) (fun _ _ _ h => h) (.inl ⟨by rfl, fun w _ => by go_simp⟩) hS0 ?_
    simp only [List.set_cons_succ, List.set_cons_zero]
    refine takeHL (i := 3) 59 (.slice A s.l.length c) rfl rfl (by kernel_rfl) (by kernel_rfl) (by kernel_rfl) (fun _ _ _ h => h) (.inl ⟨by rfl, fun w hS => by obtain ⟨z0, z1, z2⟩ := hS; go_simp⟩) hS0 ?_
    simp only [List.set_cons_succ, List.set_cons_zero]
    refine takeHL (i := 4) 60 (.pointer (some ⟨b, 0, none⟩)) rfl rfl (by kernel_rfl) (by kernel_rfl) (by kernel_rfl) (fun _ _ _ h => h) (.inl ⟨by rfl, fun _ _ => rfl⟩) hS0 ?_
    simp only [List.set_cons_succ, List.set_cons_zero]
    refine takeHL (i := 5) 61 (.pointer (some ⟨b, 0, none⟩)) rfl rfl (by kernel_rfl) (by kernel_rfl) (by kernel_rfl) (fun _ _ _ h => h) (.inl ⟨by rfl, fun w _ => by go_simp⟩) hS0 ?_
    simp only [List.set_cons_succ, List.set_cons_zero]
    refine takeHL (i := 6) 62 (.pointer (some ⟨b, 1, none⟩)) rfl rfl (by kernel_rfl) (by kernel_rfl) (by kernel_rfl) (fun _ _ _ h => h) (.inl ⟨by rfl, fun w _ => by go_simp⟩) hS0 ?_
    simp only [List.set_cons_succ, List.set_cons_zero]
    refine takeHL (i := 7) 63 (.slice J js.length d) rfl rfl (by kernel_rfl) (by kernel_rfl) (by kernel_rfl) (fun _ _ _ h => h) (.inl ⟨by rfl, fun w hS => by obtain ⟨z0, z1, z2⟩ := hS; go_simp⟩) hS0 ?_
    simp only [List.set_cons_succ, List.set_cons_zero]
    refine takeHL (i := 8) 64 (.pointer (some ⟨b, 0, none⟩)) rfl rfl (by kernel_rfl) (by kernel_rfl) (by kernel_rfl) (fun _ _ _ h => h) (.inl ⟨by rfl, fun _ _ => rfl⟩) hS0 ?_
    simp only [List.set_cons_succ, List.set_cons_zero]
    refine takeHL (i := 9) 65 (.pointer (some ⟨b, 0, none⟩)) rfl rfl (by kernel_rfl) (by kernel_rfl) (by kernel_rfl) (fun _ _ _ h => h) (.inl ⟨by rfl, fun w _ => by go_simp⟩) hS0 ?_
    simp only [List.set_cons_succ, List.set_cons_zero]
    refine takeHL (i := 10) 66 (.pointer (some ⟨b, 2, none⟩)) rfl rfl (by kernel_rfl) (by kernel_rfl) (by kernel_rfl) (fun _ _ _ h => h) (.inl ⟨by rfl, fun w _ => by go_simp⟩) hS0 ?_
    simp only [List.set_cons_succ, List.set_cons_zero]
    refine takeHL (i := 11) 67 (.int .i64 s.pol) rfl rfl (by kernel_rfl) (by kernel_rfl) (by kernel_rfl) (fun _ _ _ h => h) (.inl ⟨by rfl, fun w hS => by obtain ⟨z0, z1, z2⟩ := hS; go_simp⟩) hS0 ?_
    simp only [List.set_cons_succ, List.set_cons_zero]
    refine takeHL (i := 12) 68 (.int .i64 (n : Int)) rfl rfl (by kernel_rfl) (by kernel_rfl) (by kernel_rfl) (fun _ _ _ h => h) (.inl ⟨by rfl, fun _ _ => rfl⟩) hS0 ?_
    simp only [List.set_cons_succ, List.set_cons_zero]
    refine wpAnyH_all (rs := [13, 17]) (by kernel_rfl) (by simp) ?_
    intro j hj
    simp only [List.mem_cons, List.not_mem_nil, or_false] at hj
    rcases hj with rfl | rfl
    · refine callOp 13 69 rfl rfl (by rfl) 8 Tryz.func8 (by kernel_rfl) rfl _ _ rfl #[.slice A s.l.length c, .slice J js.length d, .int .i64 s.pol, .int .i64 (n : Int)] (by simp [Act.eval]) (impl_RunJobs hV s.pol hp hf n hn A c J d v0 (hTS.keep Bv0) (hJS.keep Bv0) hlm hjd hjm) ?_
      rintro e vA ⟨ge, ce, gt, ct, gs, cs, rfl, hR, bR⟩
      have BvA := bthru Bv0 bR
      have oe := own_base (hR.own (ge, ce, (mR s.l js s.pol n).en) (by simp [mR])) Bv0.size
      have ot := own_base (hR.own (gt, ct, (mR s.l js s.pol n).tr) (by simp [mR])) Bv0.size
      have os := own_base (hR.own (gs, cs, (mR s.l js s.pol n).sw) (by simp [mR])) Bv0.size
      have hSvA := hSk BvA
      refine ⟨_, rfl, hSvA, ?_⟩
      simp only [List.set_cons_succ, List.set_cons_zero]
      refine takeHL (i := 14) 55 (.tuple #[.agg #[sl ge (mR s.l js s.pol n).en.length ce, sl gt (mR s.l js s.pol n).tr.length ct, sl gs (mR s.l js s.pol n).sw.length cs, .bool (mR s.l js s.pol n).hi], .bool true]) rfl rfl (by kernel_rfl) (by kernel_rfl) (by kernel_rfl) (fun _ _ _ h => h) (.inl ⟨by rfl, fun _ _ => rfl⟩) hSvA ?_
      simp only [List.set_cons_succ, List.set_cons_zero]
      refine takeHL (i := 15) 70 (.agg #[sl ge (mR s.l js s.pol n).en.length ce, sl gt (mR s.l js s.pol n).tr.length ct, sl gs (mR s.l js s.pol n).sw.length cs, .bool (mR s.l js s.pol n).hi]) rfl rfl (by kernel_rfl) (by kernel_rfl) (by kernel_rfl) (fun _ _ _ h => h) (.inl ⟨by rfl, fun w _ => by go_simp⟩) hSvA ?_
      simp only [List.set_cons_succ, List.set_cons_zero]
      refine takeHL (i := 16) 71 (.bool true) rfl rfl (by kernel_rfl) (by kernel_rfl) (by kernel_rfl) (fun _ _ _ h => h) (.inl ⟨by rfl, fun w _ => by go_simp⟩) hSvA ?_
      simp only [List.set_cons_succ, List.set_cons_zero]
      refine wpAnyH_all (rs := [17]) (by kernel_rfl) (by simp) ?_
      intro j hj
      rw [List.mem_singleton] at hj
      subst hj
      refine makeOp 17 7 rfl (by rfl) ?_
      intro K hK
      go_simp
      have bAvB := bal (Below.refl vA.heap.size vA) (runC (.slice none 0 0) (.slice none 0 0) (.slice none 0 0) false)
      have NvB := heap_alloc_new vA (runC (.slice none 0 0) (.slice none 0 0) (.slice none 0 0) false)
      have BvB := bthru BvA bAvB
      have hSvB := hSk BvB
      refine hK (.pointer (some ⟨vA.heap.size, 0, none⟩)) _ hSvB ?_
      simp only [List.set_cons_succ, List.set_cons_zero]
      clear hK
      obtain ⟨nb, hnb⟩ : ∃ nb, vA.heap.size = nb := ⟨_, rfl⟩
      have hbn : w.heap.size ≤ nb := by rw [← hnb]; exact BvA.size
      rw [hnb] at NvB ⊢
      generalize hvB : vA.alloc _ = vB at NvB hSvB BvB bAvB ⊢
      have oeA := OI_keep oe bAvB
      have otA := OI_keep ot bAvB
      have osA := OI_keep os bAvB
      refine wpAnyH_all (rs := [18]) (by kernel_rfl) (by simp) ?_
      intro j hj
      rw [List.mem_singleton] at hj
      subst hj
      refine storeOp 18 rfl (by rfl) ?_
      intro K hK
      obtain ⟨z0, z1, z2, z3⟩ := blk4r NvB
      have zf := fun i => Lib.frozen_of_heap NvB i
      have hz := run_store NvB (sl ge (mR s.l js s.pol n).en.length ce) (sl gt (mR s.l js s.pol n).tr.length ct) (sl gs (mR s.l js s.pol n).sw.length cs) (mR s.l js s.pol n).hi
      obtain ⟨hzB, hzG⟩ := hz
      have oe2 := own_only oeA hzG NvB (by decide)
      have ot2 := own_only otA hzG NvB (by decide)
      have os2 := own_only osA hzG NvB (by decide)
      have BF := BvB.grown hzG BvB.size (fun k hk => by cases hk; exact hbn)
      go_simp
      refine hK _ (hSk BF) ?_
      refine takeHL (i := 19) 8 (.bool true) rfl rfl (by kernel_rfl) (by kernel_rfl) (by kernel_rfl) (fun _ _ _ h => h) (.inl ⟨by rfl, fun _ _ => rfl⟩) (hSk BF) ?_
      simp only [List.set_cons_succ, List.set_cons_zero]
      refine wpAnyH_done (by kernel_rfl) ?_ _
      go_wp2_with fail
      go_meet
      exact ⟨nb, ge, ce, gt, ct, gs, cs, rfl, rfl, hzB, oe2, ot2, os2, hbn, BF⟩
    · refine makeOp 17 7 rfl (by rfl) ?_
      intro K hK
      go_simp
      have bAvA := bal (Below.refl v0.heap.size v0) (runC (.slice none 0 0) (.slice none 0 0) (.slice none 0 0) false)
      have NvA := heap_alloc_new v0 (runC (.slice none 0 0) (.slice none 0 0) (.slice none 0 0) false)
      have BvA := bthru Bv0 bAvA
      have hSvA := hSk BvA
      refine hK (.pointer (some ⟨v0.heap.size, 0, none⟩)) _ hSvA ?_
      simp only [List.set_cons_succ, List.set_cons_zero]
      clear hK
      obtain ⟨nb, hnb⟩ : ∃ nb, v0.heap.size = nb := ⟨_, rfl⟩
      have hbn : w.heap.size ≤ nb := by rw [← hnb]; exact Bv0.size
      rw [hnb] at NvA ⊢
      generalize hvA : v0.alloc _ = vA at NvA hSvA BvA ⊢
      refine wpAnyH_all (rs := [13]) (by kernel_rfl) (by simp) ?_
      intro j hj
      rw [List.mem_singleton] at hj
      subst hj
      refine callOp 13 69 rfl rfl (by rfl) 8 Tryz.func8 (by kernel_rfl) rfl _ _ rfl #[.slice A s.l.length c, .slice J js.length d, .int .i64 s.pol, .int .i64 (n : Int)] (by simp [Act.eval]) (impl_RunJobs hV s.pol hp hf n hn A c J d vA (hTS.keep BvA) (hJS.keep BvA) hlm hjd hjm) ?_
      rintro e vB ⟨ge, ce, gt, ct, gs, cs, rfl, hR, bR⟩
      have BvB := bthru BvA bR
      have oe := own_base (hR.own (ge, ce, (mR s.l js s.pol n).en) (by simp [mR])) BvA.size
      have ot := own_base (hR.own (gt, ct, (mR s.l js s.pol n).tr) (by simp [mR])) BvA.size
      have os := own_base (hR.own (gs, cs, (mR s.l js s.pol n).sw) (by simp [mR])) BvA.size
      have hSvB := hSk BvB
      refine ⟨_, rfl, hSvB, ?_⟩
      simp only [List.set_cons_succ, List.set_cons_zero]
      refine takeHL (i := 14) 55 (.tuple #[.agg #[sl ge (mR s.l js s.pol n).en.length ce, sl gt (mR s.l js s.pol n).tr.length ct, sl gs (mR s.l js s.pol n).sw.length cs, .bool (mR s.l js s.pol n).hi], .bool true]) rfl rfl (by kernel_rfl) (by kernel_rfl) (by kernel_rfl) (fun _ _ _ h => h) (.inl ⟨by rfl, fun _ _ => rfl⟩) hSvB ?_
      simp only [List.set_cons_succ, List.set_cons_zero]
      refine takeHL (i := 15) 70 (.agg #[sl ge (mR s.l js s.pol n).en.length ce, sl gt (mR s.l js s.pol n).tr.length ct, sl gs (mR s.l js s.pol n).sw.length cs, .bool (mR s.l js s.pol n).hi]) rfl rfl (by kernel_rfl) (by kernel_rfl) (by kernel_rfl) (fun _ _ _ h => h) (.inl ⟨by rfl, fun w _ => by go_simp⟩) hSvB ?_
      simp only [List.set_cons_succ, List.set_cons_zero]
      refine takeHL (i := 16) 71 (.bool true) rfl rfl (by kernel_rfl) (by kernel_rfl) (by kernel_rfl) (fun _ _ _ h => h) (.inl ⟨by rfl, fun w _ => by go_simp⟩) hSvB ?_
      simp only [List.set_cons_succ, List.set_cons_zero]
      have NvB := (bR.block _ (Array.getElem?_eq_some_iff.1 NvA).1).trans NvA
      refine wpAnyH_all (rs := [18]) (by kernel_rfl) (by simp) ?_
      intro j hj
      rw [List.mem_singleton] at hj
      subst hj
      refine storeOp 18 rfl (by rfl) ?_
      intro K hK
      obtain ⟨z0, z1, z2, z3⟩ := blk4r NvB
      have zf := fun i => Lib.frozen_of_heap NvB i
      have hz := run_store NvB (sl ge (mR s.l js s.pol n).en.length ce) (sl gt (mR s.l js s.pol n).tr.length ct) (sl gs (mR s.l js s.pol n).sw.length cs) (mR s.l js s.pol n).hi
      obtain ⟨hzB, hzG⟩ := hz
      have oe2 := own_only oe hzG NvB (by decide)
      have ot2 := own_only ot hzG NvB (by decide)
      have os2 := own_only os hzG NvB (by decide)
      have BF := BvB.grown hzG BvB.size (fun k hk => by cases hk; exact hbn)
      go_simp
      refine hK _ (hSk BF) ?_
      refine takeHL (i := 19) 8 (.bool true) rfl rfl (by kernel_rfl) (by kernel_rfl) (by kernel_rfl) (fun _ _ _ h => h) (.inl ⟨by rfl, fun _ _ => rfl⟩) (hSk BF) ?_
      simp only [List.set_cons_succ, List.set_cons_zero]
      refine wpAnyH_done (by kernel_rfl) ?_ _
      go_wp2_with fail
      go_meet
      exact ⟨nb, ge, ce, gt, ct, gs, cs, rfl, rfl, hzB, oe2, ot2, os2, hbn, BF⟩
  case rest =>
    obtain ⟨nb, ge, ce, gt, ct, gs, cs, rfl, rfl, hN, oe, ot, os, hNB, BF⟩ := hcut
    have hBb := D.lt
    have D1 := D.keep BF
    have F1 := (Frm.refl B b w).thru hBw BF
    have hM1 := hM.keep F1.2
    have hB1 := Nat.le_trans hBw F1.size
    clear c0 c1 c2 f0 f1 f2 hJS hO oJ
    generalize mR s.l js s.pol n = m at *
    obtain ⟨en, dn, lf, tr, sw, hi⟩ := m
    dsimp only at *
    obtain ⟨ok1, ok2⟩ := hok
    have hl2 := HLen.out.2
    have HLT : Hid (tr.length = n) := HLen.out.1
    obtain ⟨ns, hns⟩ : ∃ x, sw.length = x := ⟨_, rfl⟩
    rw [HEn.out] at hN
    rw [HLT.out] at hN
    rw [hns] at hN hl2
    have hbn : b ≠ nb := by
      have h1 := D.lt
      have h2 := hNB
      omega
    have hIe := oe.is
    have hIt := ot.is
    have htl := trT_len tr
    have hsl := numsT_len sw (fun x hx => by have := ok2 x hx; omega)
    obtain ⟨X1, hX1⟩ : ∃ X, trT tr = X := ⟨_, rfl⟩
    obtain ⟨X2, hX2⟩ : ∃ X, numsT sw = X := ⟨_, rfl⟩
    have hla : ∀ x ∈ ints (lateTo s.l js en n js.length), 0 ≤ x ∧ x ≤ 1000000000 := by
      intro x hx
      obtain ⟨i, hi, rfl⟩ := List.mem_map.1 hx
      have := late_lt _ _ _ _ _ i hi
      omega
    have hda : ∀ x ∈ ints (dropL en js.length), 0 ≤ x ∧ x ≤ 1000000000 := by
      intro x hx
      obtain ⟨i, hi, rfl⟩ := List.mem_map.1 hx
      have := dropL_lt _ _ i hi
      omega
    have hlal := late_le s.l js en n js.length
    have hdal := dropL_le en js.length
    have hll := numsT_len (ints (lateTo s.l js en n js.length)) (fun x hx => (hla x hx).2)
    have hdl := numsT_len (ints (dropL en js.length)) (fun x hx => (hda x hx).2)
    rw [ints_length] at hll hdl
    generalize hLL : lateTo s.l js en n js.length = LL at *
    generalize hDL : dropL en js.length = DL at *
    obtain ⟨X3, hX3⟩ : ∃ X, numsT (ints LL) = X := ⟨_, rfl⟩
    obtain ⟨X4, hX4⟩ : ∃ X, numsT (ints DL) = X := ⟨_, rfl⟩
    rw [hX1, hX2, hX3, hX4] at HT
    rw [hX1, HLT.out] at htl
    rw [hX2, hns] at hsl
    rw [hX3] at hll
    rw [hX4] at hdl
    have H1 := Lib.hid hX1
    have H2 := Lib.hid hX2
    have H3 := Lib.hid hX3
    have H4 := Lib.hid hX4
    have HLL := Lib.hid hLL
    have HDL := Lib.hid hDL
    have Hns := Lib.hid hns
    have hx1 : X1.length ≤ 200 := by omega
    have hx2 : X2.length ≤ 5000 := by omega
    have hx3 : X3.length ≤ 2000 := by omega
    have hx4 : X4.length ≤ 2000 := by omega
    have hLL3 : (ints LL).length ≤ 300 := by rw [ints_length]; omega
    have hDL3 : (ints DL).length ≤ 300 := by rw [ints_length]; omega
    clear hX1 hX2 hX3 hX4 hLL hDL hns HLen htl hsl hll hdl hlal hdal
    obtain ⟨z0, z1, z2, z3⟩ := blk4r hN
    go_wp2_with fail
    refine (impl_FormatTrace (some ⟨ge, 0, none⟩) (some ⟨gt, 0, none⟩) (some ⟨gs, 0, none⟩) js.length ce n ct ns cs tr hi _ HLT.out hIt hn ok1 hM1 hB1).mono ?_
    rw [H1.out]
    rintro e w2 ⟨rfl, b2⟩
    have hN2 := (b2.block _ (Array.getElem?_eq_some_iff.1 hN).1).trans hN
    have D2 := D1.keep b2
    have F2 := F1.thru hBw b2
    have oe2 := OI_keep oe b2
    have os2 := OI_keep os b2
    clear z0 z1 z2 z3 hN D1 F1 oe os hM1 hB1 hIe hIt ot
    go_wp2_with fail
    refine (desk_tell D2 ([116, 114, 97, 99, 101, 32] ++ X1) _ (mk_app _ _) (by simp <;> omega) (Nat.le_trans hBw F2.size)).mono ?_
    rintro e w3 ⟨rfl, D3, F3⟩
    have hN3 := F3.1 nb _ hN2 (by simpa using hbn.symm) (by rintro c fz e; injection e with _ e _; exact rt8 e)
    have oe3 := row_frm oe2 F3 hBb
    have os3 := row_frm os2 F3 hBb
    have F3 := F2.trans F3
    have hM3 := hM.keep F3.2
    clear hN2 D2 F2 oe2 os2
    obtain ⟨z0, z1, z2, z3⟩ := blk4r hN3
    go_wp2_with fail
    refine (impl_numbers (some ⟨gs, 0, none⟩) ns cs sw _ Hns.out os3.is (by omega) (fun x hx => by have := ok2 x hx; omega) hM3 (Nat.le_trans hBw F3.size)).mono ?_
    rw [H2.out]
    rintro e w4 ⟨rfl, b4⟩
    have hN4 := (b4.block _ (Array.getElem?_eq_some_iff.1 hN3).1).trans hN3
    have D4 := D3.keep b4
    have F4 := F3.thru hBw b4
    have oe4 := OI_keep oe3 b4
    clear z0 z1 z2 z3 hN3 D3 F3 oe3 os3 hM3
    go_wp2_with fail
    refine (desk_tell D4 ([115, 119, 105, 116, 99, 104, 101, 115] ++ X2) _ (mk_app _ _) (by simp <;> omega) (Nat.le_trans hBw F4.size)).mono ?_
    rintro e w5 ⟨rfl, D5, F5⟩
    have hN5 := F5.1 nb _ hN4 (by simpa using hbn.symm) (by rintro c fz e; injection e with _ e _; exact rt8 e)
    have oe5 := row_frm oe4 F5 hBb
    have F5 := F4.trans F5
    have hM5 := hM.keep F5.2
    clear hN4 D4 F4 oe4
    obtain ⟨z0, z1, z2, z3⟩ := blk4r hN5
    have C5 := D5.cells
    obtain ⟨A5, c5, jv5, y0, y1, _, _, _, _, hO5, hlc5⟩ := C5
    have J5' := D5.jobs (js := js) HN.out HC.out
    obtain ⟨J5, d5, hJ5, oJ5⟩ := J5'
    rw [y1] at hJ5
    injection hJ5 with hJ5
    subst hJ5
    have hjd5 := (own_size oJ5).1
    have hIe5 := oe5.is
    have hs5 : w.heap.size ≤ w5.heap.size := F5.size
    go_wp2_with fail
    go_region_with (first
      | (go_at_call 16; refine (impl_MissesOf A5 s.l c5 J5 js d5 (some ⟨ge, 0, none⟩) en ce (some ⟨gt, 0, none⟩) n ct (some ⟨gs, 0, none⟩) ns cs hi _ (hO5.ts.keep (bdr (Below.refl _ _) _)) (oJ5.js.keep (bdr (Below.refl _ _) _)) (hIe5.keep (bdr (Below.refl _ _) _)) HEn.out hjd5 hjm (by omega) hV).mono ?_; rw [HLL.out]; rintro e w6 ⟨A6, c6, rfl, o6, b6⟩; replace b6 := bthru (bdr (Below.refl w5.heap.size w5) _) b6)
      | (go_at_call 140; refine (impl_numbers A6 (ints LL).length c6 (ints LL) _ rfl o6.is hLL3 hla (hM.keep (F5.thru hBw b6).2) (Nat.le_trans hBw (F5.thru hBw b6).size)).mono ?_; rw [H3.out]; rintro e w7 ⟨rfl, b7⟩; replace b7 := bthru b6 b7)
      | (go_at_call 41; refine (desk_tell (D5.keep b7) ([108, 97, 116, 101] ++ X3) _ (mk_app _ _) (by simp <;> omega) (Nat.le_trans hBw (F5.thru hBw b7).size)).mono ?_; rintro e w8 ⟨rfl, D8, F8⟩))
    all_goals
      have hN7 := (b7.block _ (Array.getElem?_eq_some_iff.1 hN5).1).trans hN5
      have hN8 := F8.1 nb _ hN7 (by simpa using hbn.symm) (by rintro c fz e; injection e with _ e _; exact rt8 e)
      have oe8 := row_frm (OI_keep oe5 b7) F8 hBb
      have G8 := (F5.thru hBw b7).trans F8
      have hM8 := hM.keep G8.2
      clear hN5 hN7 D5 F5 F8 oe5 hM5 z0 z1 z2 z3 y0 y1 hO5 hlc5 oJ5 hjd5 hIe5 hs5 b6 b7 o6
      obtain ⟨z0, z1, z2, z3⟩ := blk4r hN8
      go_wp2_with fail
      refine (impl_DroppedOf (some ⟨ge, 0, none⟩) (some ⟨gt, 0, none⟩) (some ⟨gs, 0, none⟩) js.length ce n ct ns cs en hi _ HEn.out oe8.is (by omega)).mono ?_
      rw [HDL.out]
      rintro e w9 ⟨A9, c9, rfl, o9, b9⟩
      have D9 := D8.keep b9
      have F9 := G8.thru hBw b9
      clear z0 z1 z2 z3 hN8 D8 G8 oe8 hM8
      go_wp2_with fail
      refine (impl_numbers A9 (ints DL).length c9 (ints DL) _ rfl o9.is hDL3 hda (hM.keep F9.2) (Nat.le_trans hBw F9.size)).mono ?_
      rw [H4.out]
      rintro e wa ⟨rfl, ba⟩
      have Da := D9.keep ba
      have Fa := F9.thru hBw ba
      clear D9 F9 o9
      go_wp2_with fail
      refine (desk_tell Da ([100, 114, 111, 112, 112, 101, 100] ++ X4) _ (mk_app _ _) (by simp <;> omega) (Nat.le_trans hBw Fa.size)).mono ?_
      rintro e wb ⟨rfl, Db, Fb⟩
      go_wp2_with fail
      go_ret
      refine ⟨rfl, ?_, Fa.trans Fb⟩
      rw [HT.out]
      simpa [List.append_assoc] using Db
end Go.Proofs.YtmkjmancmiphfaaGreatDoor
