/-
  Jobs compared, drawn, and at the desk: the words rule, worst, show.
-/
import Derived.Test.YtmlbjcjihmfcjaaGreatDoorWorstS
import Derived.Test.YtmlbjcjihmfcjaaGreatDoorJobFmt
import Derived.Test.YtmlbjcjihmfcjaaGreatDoorDrawSome
import Derived.Test.YtmlbjcjihmfcjaaGreatDoorLawKit
namespace Go.Proofs.YtmlbjcjihmfcjaaGreatDoor
open Go.RowKit

theorem run_neq_job (s t : Jb) (w : World) : (binOp .neq 93 s.val t.val).run Tryz.prog w = .ok (.bool (!decide (s = t))) w := by
  obtain ⟨a0, a1, a2⟩ := s
  obtain ⟨b0, b1, b2⟩ := t
  by_cases h0 : a0 = b0
  · by_cases h1 : a1 = b1
    · by_cases h2 : a2 = b2
      all_goals (simp [go_sem, h0, h1, h2])
    · simp [go_sem, h0, h1]
  · simp [go_sem, h0]
theorem laws_dmJobs (A B : Option Addr) (l m : List Jb) (c d : Nat) (w : World) (h : JS w A l) (g : JS w B m) (hl : l.length ≤ 2000000) :
    Calls Tryz.prog 42 #[.slice A l.length c, .slice B m.length d] w fun e w' => e = .returned (.bool (decide (l = m))) ∧ Below w.heap.size w w' := by
  by_cases hlen : l.length = m.length
  · have hne : ((l.length : Int) != m.length) = false := by simp [hlen]
    go_enter Tryz.func42, Tryz.ntmps42
    have hlen' := Lib.hid hlen
    clear hlen
    go_wp2
    go_loopw [5] (fun i wr => ∃ k : Nat, k ≤ l.length ∧ i = .int .i64 k ∧ Hid (l.take k = m.take k) ∧ Below w.heap.size w wr) (fun i _ => l.length - (intOf i).toNat)
    case atStart => exact ⟨0, Nat.zero_le _, rfl, by simp [Hid], Below.refl _ _⟩
    case round =>
      obtain ⟨k, hk, rfl, hall, hb⟩ := hrel
      by_cases hlt : k < l.length
      · have hltm : k < m.length := by rw [← hlen'.out]; exact hlt
        obtain ⟨b, off, rfl, hbl, hc⟩ := h.keep hb (by omega)
        obtain ⟨b', off', rfl, hbl', hc'⟩ := g.keep hb (by omega)
        obtain ⟨c0, c1, c2⟩ := job_cells hc k hlt
        obtain ⟨d0, d1, d2⟩ := job_cells hc' k hltm
        clear hc hc'
        have hq := fun (w : World) => run_neq_job l[k] m[k] w
        go_wp2
        go_quiet (fail)
        go_wp2
        · have hv : (!decide (l[k] = m[k])) = true := by assumption
          go_ret
          refine ⟨?_, bdr hb _⟩
          have : l ≠ m := fun e => by subst e; simp at hv
          simp [this]
        · have hv : (!decide (l[k] = m[k])) = false := by assumption
          go_roundw
          case rel => exact ⟨k + 1, by omega, by go_num, take_eq_succ l m k hlt hltm hall.out (by simpa using hv), bdr hb _⟩
          case measure => simp [intOf]; omega
      · go_wp2
        go_ret
        have : k = l.length := by omega
        subst this
        refine ⟨?_, hb⟩
        have e := hall.out
        rw [List.take_length, hlen'.out, List.take_length] at e
        simp [e]
  · have hne : ((l.length : Int) != m.length) = true := by simp; omega
    go_enter Tryz.func42, Tryz.ntmps42
    go_wp2
    go_ret
    refine ⟨?_, Below.refl _ _⟩
    have : l ≠ m := fun e => hlen (by rw [e])
    simp [this]
theorem spec_DrawWorstJobs (A0 : Option Addr) (code : List Int) (c0 : Nat) (w : World) (h : BS w A0 code) (hl : code.length ≤ maxLen) (hlc : code.length ≤ c0) :
    Calls Tryz.prog 39 #[.slice A0 code.length c0] w fun e w' => ∃ A c l n hi, e = .returned (.tuple #[.slice A (List.length l) c, .int .i64 n, .bool hi]) ∧ OT w.heap.size w' A c l ∧ l.length ≤ 6 ∧ -1 ≤ n ∧ n ≤ 201 ∧ Below w.heap.size w w' := by
  go_enter Tryz.func39, Tryz.ntmps39
  go_wp2_with fail
  refine (spec_l11Open A0 code c0 w h hl hlc).mono ?_
  rintro e w1 ⟨rfl, hr1⟩
  go_wp2_with fail
  refine (spec_l1Some w _ _ 0 hr1 (by omega)).mono ?_
  rintro e w2 ⟨A, c, l, q, rfl, hO2, hsm, hl6, hq, hr2, hg2⟩
  have hO2 := own_base hO2 hr1.below.size
  go_wp2_with fail
  refine (spec_num w _ _ q _ [20, 10, 40, 0, 200, 201, -1] _ (hr2.grow (bal (Below.refl _ _) _)) (by omega) (IS_lit _ _ _ _ _ rfl rfl) (by simp) (by simp) (by rintro a ⟨⟩; have := hr2.lt; simp; omega)).mono ?_
  rintro e w3 ⟨n, hn, rfl, hr3, hg3⟩
  have hn : -1 ≤ n ∧ n ≤ 201 := by simp at hn; omega
  have hO3 := OT_only (OT_alloc hO2 _) (hr2.grow (bal (Below.refl _ _) _)) hg3
  go_wp2_with fail
  refine (spec_pick w _ _ (q + 1) _ hr3 (by omega)).mono ?_
  rintro e w4 ⟨y, rfl, hy0, hy1, _, hr4, hg4⟩
  have hO4 := OT_only hO3 hr3 hg4
  go_wp2_with fail
  refine bodyPost_ret (v := .tuple #[.slice A l.length c, .int .i64 n, .bool (y == 0)]) (by simp [results, Tryz.results39, go_sem]) rfl ?_
  exact ⟨A, c, l, n, _, rfl, hO4, hl6, hn.1, hn.2, hr4.below⟩
theorem wjTo_mem {l : List Tk} (hS : setVld l = true) (high : Bool) (a : Int) {k : Nat} (hk : k ≤ l.length) : ∀ j ∈ wjTo l a high k, 0 ≤ j.task ∧ j.task < (k : Int) ∧ j.at_ = a ∧ 1 ≤ j.need ∧ j.need ≤ 20 := by
  induction k with
  | zero => simp [wjTo]
  | succ k ih =>
    intro j hj
    rw [wjTo, List.mem_append] at hj
    rcases hj with hj | hj
    · have := ih (by omega) j hj
      omega
    · have hv := vld_bd (tkAt_vld hS (show k < l.length by omega))
      split at hj
      · rw [List.mem_singleton] at hj
        subst hj
        cases high <;> simp <;> omega
      · simp at hj
theorem wjAll_mem {l : List Tk} (hS : setVld l = true) (high : Bool) (n : Nat) : ∀ j ∈ wjAll l high n, 0 ≤ j.task ∧ j.task ≤ 4 ∧ 0 ≤ j.at_ ∧ j.at_ < (n : Int) ∧ 1 ≤ j.need ∧ j.need ≤ 20 := by
  have hl5 := (setVld_all hS).1
  induction n with
  | zero => simp [wjAll]
  | succ n ih =>
    intro j hj
    rw [wjAll, List.mem_append] at hj
    rcases hj with hj | hj
    · have := ih j hj
      omega
    · have := wjTo_mem hS high (n : Int) (Nat.le_refl _) j hj
      omega
theorem worst_some {l : List Tk} {n : Int} {high : Bool} {js : List Jb} (h : worst l n high = some js) : setVld l = true ∧ 0 ≤ n ∧ n ≤ 200 ∧ toldB js = true := by
  unfold worst at h
  split at h
  · rename_i hc
    simp only [Bool.and_eq_true, decide_eq_true_eq] at hc
    obtain ⟨⟨⟨hS, h0⟩, h2⟩, h60⟩ := hc
    injection h with h
    subst h
    refine ⟨hS, h0, h2, ?_⟩
    simp only [toldB, Bool.and_eq_true, decide_eq_true_eq, List.all_eq_true]
    refine ⟨fun j hj => ?_, h60⟩
    have := wjAll_mem hS high n.toNat j hj
    rw [toldJ_iff]
    omega
  · cases h
set_option maxHeartbeats 2000000 in
set_option maxRecDepth 100000 in
/-- Jobs taken. -/
theorem desk_setJobs {B b : Nat} {w : World} {s : St} (h : Desk B b w s) (A : Option Addr) (js : List Jb) (c : Nat) (hJ : OJ B w A c js) (hlen : s.out.length ≤ 800000) (hBw : B ≤ w.heap.size) :
    Calls Tryz.prog 219 #[.pointer (some ⟨b, 0, none⟩), .slice A js.length c, .bool true] w fun e w' => e = .returned (.tuple #[]) ∧ Desk B b w' ⟨s.l, js.length, flatJ js, s.pol, s.out ++ ([111, 107] ++ [10])⟩ ∧ Frm B b w w' := by
  obtain ⟨hB, A0, c0, jv, p, v, hk, hp, hv, hO0, hJ0⟩ := h
  have f1 : w.frozen? ⟨b, 1, none⟩ = false := Lib.frozen_of_heap hk 1
  have c1' : w.cell? ⟨b, 1, none⟩ = some jv := by rw [Lib.cell_of_heap hk]; rfl
  have g0 := gb_setCell w b 1 (.slice A js.length c)
  have hk1 := desk_blk hk 1 (.slice A js.length c)
  have hvb : v.ownBlock ≠ some b := by
    intro e
    obtain ⟨cs, fz, hc⟩ := Lib.ownsRowF_kind hv b e
    rw [hk] at hc
    injection hc with hc
    injection hc with _ ht _
    exact tn3 ht
  have D1 : Desk B b (w.setCell ⟨b, 1, none⟩ (.slice A js.length c)) ⟨s.l, js.length, flatJ js, s.pol, s.out⟩ :=
    ⟨hB, A0, c0, .slice A js.length c, p, v, hk1, hp, hv.kept g0 (.inr hvb), own_keepX hO0 _ g0 (fun g hg => by cases hg; exact ⟨_, _, _, hk, tn1⟩), own_keepX hJ _ g0 (fun g hg => by cases hg; exact ⟨_, _, _, hk, tn4⟩)⟩
  have F1 : Frm B b w (w.setCell ⟨b, 1, none⟩ (.slice A js.length c)) := ⟨kept_grown g0, (Below.refl B w).setCell (p := ⟨b, 1, none⟩) hB _⟩
  clear hv hO0 hJ0 g0 hk1 hJ
  go_enter Tryz.func219, Tryz.ntmps219
  go_wp2_with fail
  refine (desk_tell D1 [111, 107] _ rfl (by simp <;> omega) (Nat.le_trans hBw F1.size)).mono ?_
  rintro e w3 ⟨rfl, D3, F3⟩
  go_wp2_with fail
  go_end0
  exact ⟨rfl, D3, F1.trans F3⟩
theorem Desk.jobs {B b : Nat} {w : World} {s : St} (h : Desk B b w s) {js : List Jb} (hn : s.jn = js.length) (hc : s.jc = flatJ js) : ∃ J d, w.cell? ⟨b, 1, none⟩ = some (.slice J js.length d) ∧ OJ B w J d js := by
  obtain ⟨hB, A, c, jv, p, v, hk, hp, hv, hO, hJ⟩ := h
  rw [hn, hc] at hJ
  obtain ⟨J, d, rfl⟩ := own_form hJ
  exact ⟨J, d, by rw [Lib.cell_of_heap hk]; rfl, hJ⟩
set_option maxHeartbeats 4000000 in
set_option maxRecDepth 100000 in
theorem count_rule (n : Int) (s : St) (js : List Jb) (hr : worst s.l n false = some js) (ho : s.out.length ≤ 700000) : CountIs [114, 117, 108, 101] n s ⟨s.l, js.length, flatJ js, s.pol, s.out ++ ([111, 107] ++ [10])⟩ := by
  intro B b w hM D hBw
  have D0 := D
  obtain ⟨A, c, jv, c0, c1, c2, f0, f1, f2, hO, hlc⟩ := D0.cells
  go_enter Tryz.func175, Tryz.ntmps175
  have e1 : worstL s.l n false = js := by simp [worstL, hr]
  have e2 : (worst s.l n false).isSome = true := by simp [hr]
  go_wp2_with fail
  refine (impl_WorstJobs A s.l c n false _ hO.ts).mono ?_
  rw [e1, e2]
  rintro e w1 ⟨A1, d1, rfl, o1, b1⟩
  have D1 := D.keep b1
  have F1 := (Frm.refl B b w).thru hBw b1
  go_wp2_with fail
  refine (desk_setJobs D1 A1 js d1 (own_base o1 hBw) (by omega) (Nat.le_trans hBw b1.size)).mono ?_
  rintro e w2 ⟨rfl, D2, F2⟩
  go_wp2_with fail
  go_ret
  exact ⟨rfl, D2, F1.trans F2⟩
set_option maxHeartbeats 4000000 in
set_option maxRecDepth 100000 in
theorem count_worst (n : Int) (s : St) (js : List Jb) (hr : worst s.l n true = some js) (ho : s.out.length ≤ 700000) : CountIs [119, 111, 114, 115, 116] n s ⟨s.l, js.length, flatJ js, s.pol, s.out ++ ([111, 107] ++ [10])⟩ := by
  intro B b w hM D hBw
  have D0 := D
  obtain ⟨A, c, jv, c0, c1, c2, f0, f1, f2, hO, hlc⟩ := D0.cells
  go_enter Tryz.func175, Tryz.ntmps175
  have e1 : worstL s.l n true = js := by simp [worstL, hr]
  have e2 : (worst s.l n true).isSome = true := by simp [hr]
  go_wp2_with fail
  refine (impl_WorstJobs A s.l c n true _ hO.ts).mono ?_
  rw [e1, e2]
  rintro e w1 ⟨A1, d1, rfl, o1, b1⟩
  have D1 := D.keep b1
  have F1 := (Frm.refl B b w).thru hBw b1
  go_wp2_with fail
  refine (desk_setJobs D1 A1 js d1 (own_base o1 hBw) (by omega) (Nat.le_trans hBw b1.size)).mono ?_
  rintro e w2 ⟨rfl, D2, F2⟩
  go_wp2_with fail
  go_ret
  exact ⟨rfl, D2, F1.trans F2⟩
set_option maxHeartbeats 4000000 in
set_option maxRecDepth 100000 in
theorem plain_showJ (s : St) (js : List Jb) (hjn : s.jn = js.length) (hjc : s.jc = flatJ js) (ht : toldB js = true) (ho : s.out.length ≤ 700000) : PlainIs [115, 104, 111, 119] s { s with out := s.out ++ (fmtSet s.l ++ [10]) ++ (fmtJobs js ++ [10]) } := by
  intro B b w hM D hBw
  have D0 := D
  obtain ⟨A, c, jv, c0, c1, c2, f0, f1, f2, hO, hlc⟩ := D0.cells
  go_enter Tryz.func172, Tryz.ntmps172
  have hfl := fmtSet_le s.l
  have hjl := fmtJobs_le js
  have HN := Lib.hid hjn
  have HC := Lib.hid hjc
  clear hjn hjc
  go_wp2_with fail
  refine (impl_FormatSet A s.l c _ hO.ts).mono ?_
  rintro e w1 ⟨rfl, b1⟩
  have D1 := D.keep b1
  have F1 := (Frm.refl B b w).thru hBw b1
  go_wp2_with fail
  refine (desk_tell D1 (fmtSet s.l) _ rfl (by omega) (Nat.le_trans hBw F1.size)).mono ?_
  rintro e w2 ⟨rfl, D2, F2⟩
  obtain ⟨J, d, hJ, oJ⟩ := D2.jobs (js := js) HN.out HC.out
  have F2 := F1.trans F2
  clear c0 c1 c2
  go_wp2_with fail
  refine (impl_FormatJobs J js d _ oJ.js ht (hM.keep F2.2) (Nat.le_trans hBw F2.size)).mono ?_
  rintro e w3 ⟨rfl, b3⟩
  have D3 := D2.keep b3
  have F3 := F2.thru hBw b3
  go_wp2_with fail
  refine (desk_tell D3 (fmtJobs js) _ rfl (by simp <;> omega) (Nat.le_trans hBw F3.size)).mono ?_
  rintro e w4 ⟨rfl, D4, F4⟩
  go_wp2_with fail
  go_ret
  exact ⟨rfl, D4, F3.trans F4⟩
end Go.Proofs.YtmlbjcjihmfcjaaGreatDoor
