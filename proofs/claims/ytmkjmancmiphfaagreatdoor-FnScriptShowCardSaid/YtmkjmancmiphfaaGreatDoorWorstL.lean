/-
  Jobs compared, drawn, and at the desk: the words rule, worst, show.
-/
import Derived.Test.YtmkjmancmiphfaaGreatDoorWorstS
import Derived.Test.YtmkjmancmiphfaaGreatDoorJobFmt
import Derived.Test.YtmkjmancmiphfaaGreatDoorDrawSome
import Derived.Test.YtmkjmancmiphfaaGreatDoorLawKit
namespace Go.Proofs.YtmkjmancmiphfaaGreatDoor
open Go.RowKit

theorem run_neq_job (s t : Jb) (w : World) : (binOp .neq 60 s.val t.val).run Tryz.prog w = .ok (.bool (!decide (s = t))) w := by
  obtain ⟨a0, a1, a2⟩ := s
  obtain ⟨b0, b1, b2⟩ := t
  by_cases h0 : a0 = b0
  · by_cases h1 : a1 = b1
    · by_cases h2 : a2 = b2
      all_goals (simp [go_sem, h0, h1, h2])
    · simp [go_sem, h0, h1]
  · simp [go_sem, h0]
theorem wjTo_mem {l : List Tk} (hS : setVld l = true) (high : Bool) (a : Int) {k : Nat} (hk : k ≤ l.length) : ∀ j ∈ wjTo l a high k, 0 ≤ j.task ∧ j.task < (k : Int) ∧ j.at_ = a ∧ 1 ≤ j.need ∧ j.need ≤ 20 := by
  induction k with
  | zero => simp [wjTo]
  | succ k ih =>
    intro j hj
    rw [wjTo, List.mem_append] at hj
    rcases hj with hj | hj
    · have := ih (by omega) j hj
      omega
    · have hv := vld_bd (tkAt_vld hS (show k < l.length by omega))
      split at hj
      · rw [List.mem_singleton] at hj
        subst hj
        cases high <;> simp <;> omega
      · simp at hj
theorem wjAll_mem {l : List Tk} (hS : setVld l = true) (high : Bool) (n : Nat) : ∀ j ∈ wjAll l high n, 0 ≤ j.task ∧ j.task ≤ 4 ∧ 0 ≤ j.at_ ∧ j.at_ < (n : Int) ∧ 1 ≤ j.need ∧ j.need ≤ 20 := by
  have hl5 := (setVld_all hS).1
  induction n with
  | zero => simp [wjAll]
  | succ n ih =>
    intro j hj
    rw [wjAll, List.mem_append] at hj
    rcases hj with hj | hj
    · have := ih j hj
      omega
    · have := wjTo_mem hS high (n : Int) (Nat.le_refl _) j hj
      omega
theorem worst_some {l : List Tk} {n : Int} {high : Bool} {js : List Jb} (h : worst l n high = some js) : setVld l = true ∧ 0 ≤ n ∧ n ≤ 200 ∧ toldB js = true := by
  unfold worst at h
  split at h
  · rename_i hc
    simp only [Bool.and_eq_true, decide_eq_true_eq] at hc
    obtain ⟨⟨⟨hS, h0⟩, h2⟩, h60⟩ := hc
    injection h with h
    subst h
    refine ⟨hS, h0, h2, ?_⟩
    simp only [toldB, Bool.and_eq_true, decide_eq_true_eq, List.all_eq_true]
    refine ⟨fun j hj => ?_, h60⟩
    have := wjAll_mem hS high n.toNat j hj
    rw [toldJ_iff]
    omega
  · cases h
set_option maxHeartbeats 2000000 in
set_option maxRecDepth 100000 in
/-- Jobs taken. -/
theorem desk_setJobs {B b : Nat} {w : World} {s : St} (h : Desk B b w s) (A : Option Addr) (js : List Jb) (c : Nat) (hJ : OJ B w A c js) (hlen : s.out.length ≤ 800000) (hBw : B ≤ w.heap.size) :
    Calls Tryz.prog 134 #[.pointer (some ⟨b, 0, none⟩), .slice A js.length c, .bool true] w fun e w' => e = .returned (.tuple #[]) ∧ Desk B b w' ⟨s.l, js.length, flatJ js, s.pol, s.out ++ ([111, 107] ++ [10])⟩ ∧ Frm B b w w' := by
  obtain ⟨hB, A0, c0, jv, p, v, hk, hp, hv, hO0, hJ0⟩ := h
  have f1 : w.frozen? ⟨b, 1, none⟩ = false := Lib.frozen_of_heap hk 1
  have c1' : w.cell? ⟨b, 1, none⟩ = some jv := by rw [Lib.cell_of_heap hk]; rfl
  have g0 := gb_setCell w b 1 (.slice A js.length c)
  have hk1 := desk_blk hk 1 (.slice A js.length c)
  have hvb : v.ownBlock ≠ some b := by
    intro e
    obtain ⟨cs, fz, hc⟩ := Lib.ownsRowF_kind hv b e
    rw [hk] at hc
    injection hc with hc
    injection hc with _ ht _
    exact tn3 ht
  have D1 : Desk B b (w.setCell ⟨b, 1, none⟩ (.slice A js.length c)) ⟨s.l, js.length, flatJ js, s.pol, s.out⟩ :=
    ⟨hB, A0, c0, .slice A js.length c, p, v, hk1, hp, hv.kept g0 (.inr hvb), own_keepX hO0 _ g0 (fun g hg => by cases hg; exact ⟨_, _, _, hk, tn1⟩), own_keepX hJ _ g0 (fun g hg => by cases hg; exact ⟨_, _, _, hk, tn4⟩)⟩
  have F1 : Frm B b w (w.setCell ⟨b, 1, none⟩ (.slice A js.length c)) := ⟨kept_grown g0, (Below.refl B w).setCell (p := ⟨b, 1, none⟩) hB _⟩
  clear hv hO0 hJ0 g0 hk1 hJ
  go_enter Tryz.func134, Tryz.ntmps134
  go_wp2_with fail
  refine (desk_tell D1 [111, 107] _ rfl (by simp <;> omega) (Nat.le_trans hBw F1.size)).mono ?_
  rintro e w3 ⟨rfl, D3, F3⟩
  go_wp2_with fail
  go_end0
  exact ⟨rfl, D3, F1.trans F3⟩
theorem Desk.jobs {B b : Nat} {w : World} {s : St} (h : Desk B b w s) {js : List Jb} (hn : s.jn = js.length) (hc : s.jc = flatJ js) : ∃ J d, w.cell? ⟨b, 1, none⟩ = some (.slice J js.length d) ∧ OJ B w J d js := by
  obtain ⟨hB, A, c, jv, p, v, hk, hp, hv, hO, hJ⟩ := h
  rw [hn, hc] at hJ
  obtain ⟨J, d, rfl⟩ := own_form hJ
  exact ⟨J, d, by rw [Lib.cell_of_heap hk]; rfl, hJ⟩
set_option maxHeartbeats 4000000 in
set_option maxRecDepth 100000 in
theorem count_rule (n : Int) (s : St) (js : List Jb) (hr : worst s.l n false = some js) (ho : s.out.length ≤ 700000) : CountIs [114, 117, 108, 101] n s ⟨s.l, js.length, flatJ js, s.pol, s.out ++ ([111, 107] ++ [10])⟩ := by
  intro B b w hM D hBw
  have D0 := D
  obtain ⟨A, c, jv, c0, c1, c2, f0, f1, f2, hO, hlc⟩ := D0.cells
  go_enter Tryz.func80, Tryz.ntmps80
  have e1 : worstL s.l n false = js := by simp [worstL, hr]
  have e2 : (worst s.l n false).isSome = true := by simp [hr]
  go_wp2_with fail
  refine (impl_WorstJobs A s.l c n false _ hO.ts).mono ?_
  rw [e1, e2]
  rintro e w1 ⟨A1, d1, rfl, o1, b1⟩
  have D1 := D.keep b1
  have F1 := (Frm.refl B b w).thru hBw b1
  go_wp2_with fail
  refine (desk_setJobs D1 A1 js d1 (own_base o1 hBw) (by omega) (Nat.le_trans hBw b1.size)).mono ?_
  rintro e w2 ⟨rfl, D2, F2⟩
  go_wp2_with fail
  go_ret
  exact ⟨rfl, D2, F1.trans F2⟩
set_option maxHeartbeats 4000000 in
set_option maxRecDepth 100000 in
theorem count_worst (n : Int) (s : St) (js : List Jb) (hr : worst s.l n true = some js) (ho : s.out.length ≤ 700000) : CountIs [119, 111, 114, 115, 116] n s ⟨s.l, js.length, flatJ js, s.pol, s.out ++ ([111, 107] ++ [10])⟩ := by
  intro B b w hM D hBw
  have D0 := D
  obtain ⟨A, c, jv, c0, c1, c2, f0, f1, f2, hO, hlc⟩ := D0.cells
  go_enter Tryz.func80, Tryz.ntmps80
  have e1 : worstL s.l n true = js := by simp [worstL, hr]
  have e2 : (worst s.l n true).isSome = true := by simp [hr]
  go_wp2_with fail
  refine (impl_WorstJobs A s.l c n true _ hO.ts).mono ?_
  rw [e1, e2]
  rintro e w1 ⟨A1, d1, rfl, o1, b1⟩
  have D1 := D.keep b1
  have F1 := (Frm.refl B b w).thru hBw b1
  go_wp2_with fail
  refine (desk_setJobs D1 A1 js d1 (own_base o1 hBw) (by omega) (Nat.le_trans hBw b1.size)).mono ?_
  rintro e w2 ⟨rfl, D2, F2⟩
  go_wp2_with fail
  go_ret
  exact ⟨rfl, D2, F1.trans F2⟩
set_option maxHeartbeats 4000000 in
set_option maxRecDepth 100000 in
theorem plain_showJ (s : St) (js : List Jb) (hjn : s.jn = js.length) (hjc : s.jc = flatJ js) (ht : toldB js = true) (ho : s.out.length ≤ 700000) : PlainIs [115, 104, 111, 119] s { s with out := s.out ++ (fmtSet s.l ++ [10]) ++ (fmtJobs js ++ [10]) } := by
  intro B b w hM D hBw
  have D0 := D
  obtain ⟨A, c, jv, c0, c1, c2, f0, f1, f2, hO, hlc⟩ := D0.cells
  go_enter Tryz.func77, Tryz.ntmps77
  have hfl := fmtSet_le s.l
  have hjl := fmtJobs_le js
  have HN := Lib.hid hjn
  have HC := Lib.hid hjc
  clear hjn hjc
  go_wp2_with fail
  refine (impl_FormatSet A s.l c _ hO.ts).mono ?_
  rintro e w1 ⟨rfl, b1⟩
  have D1 := D.keep b1
  have F1 := (Frm.refl B b w).thru hBw b1
  go_wp2_with fail
  refine (desk_tell D1 (fmtSet s.l) _ rfl (by omega) (Nat.le_trans hBw F1.size)).mono ?_
  rintro e w2 ⟨rfl, D2, F2⟩
  obtain ⟨J, d, hJ, oJ⟩ := D2.jobs (js := js) HN.out HC.out
  have F2 := F1.trans F2
  clear c0 c1 c2
  go_wp2_with fail
  refine (impl_FormatJobs J js d _ oJ.js ht (hM.keep F2.2) (Nat.le_trans hBw F2.size)).mono ?_
  rintro e w3 ⟨rfl, b3⟩
  have D3 := D2.keep b3
  have F3 := F2.thru hBw b3
  go_wp2_with fail
  refine (desk_tell D3 (fmtJobs js) _ rfl (by simp <;> omega) (Nat.le_trans hBw F3.size)).mono ?_
  rintro e w4 ⟨rfl, D4, F4⟩
  go_wp2_with fail
  go_ret
  exact ⟨rfl, D4, F3.trans F4⟩
end Go.Proofs.YtmkjmancmiphfaaGreatDoor
