/-
  The worst jobs are valid ones: in plain Lean.
-/
import Derived.Test.YtmkjmancmiphfaaJobV2
namespace Go.Proofs.Ytmkjmancmiphfaa
open Go.RowKit

/-- One job ahead of another one, and far enough from it. -/
def Ahead (l : List Tk) (a b : Jb) : Prop := befJ a b = true ∧ farJ l b a = true
theorem jobsV_of {l : List Tk} {js : List Jb} (hS : setVld l = true) (h60 : js.length ≤ 60) (hj : ∀ j ∈ js, jobOfB l j = true) (hp : js.Pairwise (Ahead l)) : jobsV l js = true := by
  refine jobsV_yes hS h60 ?_
  intro i hi
  have hpw := List.pairwise_iff_getElem.1 hp
  simp only [jobOk, jobAt_eq js i hi, Bool.and_eq_true, List.all_eq_true]
  refine ⟨⟨hj _ (List.getElem_mem hi), ?_⟩, ?_⟩
  · intro k hk
    obtain ⟨m, hm, rfl⟩ := List.mem_take_iff_getElem.1 hk
    exact (hpw m i (by omega) hi (by omega)).2
  · cases i with
    | zero => rfl
    | succ i =>
      rw [Nat.add_sub_cancel, jobAt_eq js i (by omega)]
      have := (hpw i (i + 1) (by omega) hi (by omega)).1
      simp [this]
theorem wjTo_in {l : List Tk} (hS : setVld l = true) (high : Bool) (a : Int) {k : Nat} (hk : k ≤ l.length) : ∀ j ∈ wjTo l a high k, ∃ q : Nat, q < k ∧ j.task = (q : Int) ∧ j.at_ = a ∧ a % (tkAt l q).every = 0 ∧ 1 ≤ j.need ∧ j.need ≤ (tkAt l q).high := by
  induction k with
  | zero => simp [wjTo]
  | succ k ih =>
    intro j hj
    rw [wjTo, List.mem_append] at hj
    rcases hj with hj | hj
    · obtain ⟨q, h1, h2⟩ := ih (by omega) j hj
      exact ⟨q, by omega, h2⟩
    · have hv := vld_bd (tkAt_vld hS (show k < l.length by omega))
      split at hj
      · rename_i hm
        rw [List.mem_singleton] at hj
        subst hj
        refine ⟨k, by omega, rfl, rfl, hm, ?_, ?_⟩ <;> cases high <;> simp <;> omega
      · simp at hj
theorem wjTo_pair {l : List Tk} (hS : setVld l = true) (high : Bool) (a : Int) {k : Nat} (hk : k ≤ l.length) : (wjTo l a high k).Pairwise (Ahead l) := by
  induction k with
  | zero => simp [wjTo]
  | succ k ih =>
    rw [wjTo, List.pairwise_append]
    refine ⟨ih (by omega), ?_, ?_⟩
    · split <;> simp
    · intro x hx y hy
      obtain ⟨q, h1, h2, h3, _⟩ := wjTo_in hS high a (show k ≤ l.length by omega) x hx
      split at hy
      · rw [List.mem_singleton] at hy
        subst hy
        refine ⟨?_, ?_⟩
        · simp only [befJ, h2, h3, Bool.or_eq_true, Bool.and_eq_true, decide_eq_true_eq]
          right
          exact ⟨trivial, by omega⟩
        · simp only [farJ, h2, Bool.not_eq_true', Bool.and_eq_false_iff, decide_eq_false_iff_not]
          left
          omega
      · simp at hy
theorem mod_gap {a b e : Int} (he : 1 ≤ e) (ha : a % e = 0) (hb : b % e = 0) (h : a < b) : e ≤ b - a := by
  have h1 : (b - a) % e = 0 := by
    rw [Int.sub_emod, ha, hb]
    simp
  have h2 := Int.ediv_mul_add_emod (b - a) e
  rw [h1, Int.add_zero] at h2
  have h3 : 1 ≤ (b - a) / e := by
    apply Classical.byContradiction
    intro hn
    have : (b - a) / e * e ≤ 0 := Int.mul_nonpos_of_nonpos_of_nonneg (by omega) (by omega)
    omega
  have h4 := Int.mul_le_mul_of_nonneg_right h3 (show 0 ≤ e by omega)
  omega
theorem wjAll_pair {l : List Tk} (hS : setVld l = true) (high : Bool) (n : Nat) : (wjAll l high n).Pairwise (Ahead l) ∧ ∀ j ∈ wjAll l high n, ∃ q : Nat, q < l.length ∧ j.task = (q : Int) ∧ 0 ≤ j.at_ ∧ j.at_ < (n : Int) ∧ j.at_ % (tkAt l q).every = 0 ∧ 1 ≤ j.need ∧ j.need ≤ (tkAt l q).high := by
  induction n with
  | zero => simp [wjAll]
  | succ n ih =>
    obtain ⟨ih1, ih2⟩ := ih
    have hin := wjTo_in hS high (n : Int) (Nat.le_refl l.length)
    constructor
    · rw [wjAll, List.pairwise_append]
      refine ⟨ih1, wjTo_pair hS high _ (Nat.le_refl _), ?_⟩
      intro x hx y hy
      obtain ⟨q, h1, h2, h3, h4, h5, _⟩ := ih2 x hx
      obtain ⟨p, k1, k2, k3, k4, _⟩ := hin y hy
      refine ⟨?_, ?_⟩
      · simp only [befJ, k3, Bool.or_eq_true, decide_eq_true_eq]
        exact .inl h4
      · simp only [farJ, Bool.not_eq_true', Bool.and_eq_false_iff, decide_eq_false_iff_not]
        by_cases e : x.task = y.task
        · right
          have hqp : q = p := by omega
          subst hqp
          have hb := vld_bd (tkAt_vld hS h1)
          rw [k2, Int.toNat_natCast, k3]
          have := mod_gap (show 1 ≤ (tkAt l q).every by omega) h5 k4 (by omega)
          omega
        · exact .inl e
    · intro j hj
      rw [wjAll, List.mem_append] at hj
      rcases hj with hj | hj
      · obtain ⟨q, h1, h2, h3, h4, h5⟩ := ih2 j hj
        exact ⟨q, h1, h2, h3, by omega, h5⟩
      · obtain ⟨q, h1, h2, h3, h4, h5⟩ := hin j hj
        exact ⟨q, h1, h2, by omega, by omega, by rw [h3]; exact h4, h5⟩
theorem worst_valid {l : List Tk} {n : Int} {high : Bool} {js : List Jb} (h : worst l n high = some js) : jobsV l js = true := by
  unfold worst at h
  split at h
  · rename_i hc
    simp only [Bool.and_eq_true, decide_eq_true_eq] at hc
    obtain ⟨⟨⟨hS, h0⟩, h2⟩, h60⟩ := hc
    injection h with h
    subst h
    obtain ⟨h3, h4⟩ := wjAll_pair hS high n.toNat
    refine jobsV_of hS h60 (fun j hj => ?_) h3
    obtain ⟨q, a1, a2, a3, a4, _, a5, a6⟩ := h4 j hj
    simp only [jobOfB, plc, hS, a2, Int.toNat_natCast, Bool.and_eq_true, decide_eq_true_eq]
    exact ⟨⟨⟨⟨⟨⟨trivial, by omega⟩, by omega⟩, a3⟩, by omega⟩, a5⟩, a6⟩
  · cases h
theorem jobsV_nil {l : List Tk} (hS : setVld l = true) : jobsV l [] = true := jobsV_of hS (by simp) (by simp) List.Pairwise.nil
end Go.Proofs.Ytmkjmancmiphfaa
