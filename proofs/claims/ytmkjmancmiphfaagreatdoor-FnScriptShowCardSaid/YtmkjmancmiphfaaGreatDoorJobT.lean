/-
  Jobs: which are valid, the worst ones, put in order: in plain Lean.
-/
import Derived.Test.YtmkjmancmiphfaaGreatDoorJob
import Derived.Test.YtmkjmancmiphfaaGreatDoorDemand
namespace Go.Proofs.YtmkjmancmiphfaaGreatDoor
open Go.RowKit

def jobAt (l : List Jb) (k : Nat) : Jb := l.getD k ⟨0, 0, 0⟩
theorem jobAt_eq (l : List Jb) (k : Nat) (h : k < l.length) : jobAt l k = l[k] := by simp [jobAt, h]
/-- A job is one of the tasks. -/
def jobOfB (l : List Tk) (j : Jb) : Bool := plc l j.task && decide (0 ≤ j.at_) && decide (j.at_ ≤ 200) && decide (1 ≤ j.need) && decide (j.need ≤ (tkAt l j.task.toNat).high)
def befJ (a b : Jb) : Bool := decide (a.at_ < b.at_) || (decide (a.at_ = b.at_) && decide (a.task < b.task))
/-- Far enough from an earlier job of its task. -/
def farJ (l : List Tk) (j k : Jb) : Bool := !(decide (k.task = j.task) && decide (j.at_ - k.at_ < (tkAt l j.task.toNat).every))
def jobOk (l : List Tk) (js : List Jb) (i : Nat) : Bool := jobOfB l (jobAt js i) && (js.take i).all (farJ l (jobAt js i)) && (decide (i = 0) || befJ (jobAt js (i - 1)) (jobAt js i))
def jobsV (l : List Tk) (js : List Jb) : Bool := setVld l && decide (js.length ≤ 60) && (List.range js.length).all (jobOk l js)
/-- When the last job of a task came. -/
def lastAt (xs : List Jb) (t : Int) : Int := xs.foldl (fun a k => if k.task = t then k.at_ else a) (-20)
def jobOkS (l : List Tk) (js : List Jb) (i : Nat) : Bool := jobOfB l (jobAt js i) && (decide (i = 0) || befJ (jobAt js (i - 1)) (jobAt js i)) && !decide ((jobAt js i).at_ - lastAt (js.take i) (jobAt js i).task < (tkAt l (jobAt js i).task.toNat).every)
theorem snocInd {α : Type} {P : List α → Prop} (h0 : P []) (h1 : ∀ xs x, P xs → P (xs ++ [x])) (l : List α) : P l := by
  rw [← l.reverse_reverse]
  induction l.reverse with
  | nil => exact h0
  | cons a r ih =>
    rw [List.reverse_cons]
    exact h1 _ _ ih
theorem lastAt_snoc (xs : List Jb) (k : Jb) (t : Int) : lastAt (xs ++ [k]) t = if k.task = t then k.at_ else lastAt xs t := by simp [lastAt, List.foldl_append]
theorem lastAt_or (xs : List Jb) (t : Int) : lastAt xs t = -20 ∨ ∃ k ∈ xs, k.task = t ∧ k.at_ = lastAt xs t := by
  induction xs using snocInd with
  | h0 => exact .inl rfl
  | h1 xs k ih =>
    rw [lastAt_snoc]
    by_cases h : k.task = t
    · rw [if_pos h]
      exact .inr ⟨k, by simp, h, rfl⟩
    · rw [if_neg h]
      rcases ih with ih | ⟨q, hq, h1, h2⟩
      · exact .inl ih
      · exact .inr ⟨q, by simp [hq], h1, h2⟩
theorem lastAt_ge (xs : List Jb) (t : Int) (hs : xs.Pairwise (fun a b => a.at_ ≤ b.at_)) : ∀ k ∈ xs, k.task = t → k.at_ ≤ lastAt xs t := by
  induction xs using snocInd with
  | h0 => simp
  | h1 xs q ih =>
    rw [List.pairwise_append] at hs
    intro k hk hkt
    rw [lastAt_snoc]
    rw [List.mem_append, List.mem_singleton] at hk
    rcases hk with hk | rfl
    · split
      · exact hs.2.2 k hk q (by simp)
      · exact ih hs.1 k hk hkt
    · rw [if_pos hkt]
      exact Int.le_refl _
theorem take_sorted {js : List Jb} {n : Nat} (hn : n ≤ js.length) (h : ∀ i, i < n → i = 0 ∨ befJ (jobAt js (i - 1)) (jobAt js i) = true) : (js.take n).Pairwise (fun a b => a.at_ ≤ b.at_) := by
  induction n with
  | zero => simp
  | succ n ih =>
    have hlt : n < js.length := by omega
    have ihh := ih (by omega) (fun i hi => h i (by omega))
    rw [List.take_succ_eq_append_getElem hlt, List.pairwise_append]
    refine ⟨ihh, by simp, ?_⟩
    intro a ha b hb
    rw [List.mem_singleton] at hb
    subst hb
    cases n with
    | zero => simp at ha
    | succ m =>
      have hm : m < js.length := by omega
      have hb := h (m + 1) (by omega)
      rcases hb with hb | hb
      · omega
      · have e1 : jobAt js (m + 1 - 1) = js[m] := by rw [jobAt_eq js _ (by omega)]; rfl
        rw [e1, jobAt_eq js _ hlt] at hb
        have hle : js[m].at_ ≤ js[m + 1].at_ := by
          simp only [befJ, Bool.or_eq_true, Bool.and_eq_true, decide_eq_true_eq] at hb
          omega
        rw [List.take_succ_eq_append_getElem hm, List.pairwise_append] at ihh
        rw [List.take_succ_eq_append_getElem hm, List.mem_append, List.mem_singleton] at ha
        rcases ha with ha | rfl
        · exact Int.le_trans (ihh.2.2 a ha _ (by simp)) hle
        · exact hle
theorem jobOk_iff {l : List Tk} {js : List Jb} {i : Nat} (hi : i < js.length) (hall : ∀ j, j < i → jobOk l js j = true) : jobOk l js i = jobOkS l js i := by
  have hs : (js.take i).Pairwise (fun a b => a.at_ ≤ b.at_) := take_sorted (by omega) (fun j hj => by
    have := hall j hj
    simp only [jobOk, Bool.and_eq_true, Bool.or_eq_true, decide_eq_true_eq] at this
    exact this.2)
  generalize hj : jobAt js i = j
  unfold jobOk jobOkS
  rw [hj]
  cases hO : jobOfB l j with
  | false => simp
  | true =>
    have hO' := hO
    simp only [jobOfB, Bool.and_eq_true, decide_eq_true_eq] at hO'
    obtain ⟨⟨⟨⟨hp, h0⟩, h1⟩, h2⟩, h3⟩ := hO'
    have hev : (tkAt l j.task.toNat).every ≤ 20 := by
      simp only [plc, Bool.and_eq_true, decide_eq_true_eq] at hp
      have hv := tkAt_vld hp.1.1 (k := j.task.toNat) (by omega)
      simp only [vld, Bool.and_eq_true, decide_eq_true_eq] at hv
      omega
    have key : (js.take i).all (farJ l j) = !decide (j.at_ - lastAt (js.take i) j.task < (tkAt l j.task.toNat).every) := by
      rw [Bool.eq_iff_iff, List.all_eq_true]
      simp only [farJ, Bool.not_eq_true', Bool.and_eq_false_iff, decide_eq_false_iff_not]
      constructor
      · intro h
        rcases lastAt_or (js.take i) j.task with e | ⟨k, hk, e1, e2⟩
        · omega
        · have := h k hk
          omega
      · intro h k hk
        by_cases e : k.task = j.task
        · have := lastAt_ge _ _ hs k hk e
          omega
        · exact .inl e
    rw [key]
    simp only [Bool.true_and, Bool.and_comm]
/-- The worst jobs that come at a time, of the first k tasks. -/
def wjTo (l : List Tk) (at_ : Int) (high : Bool) : Nat → List Jb
  | 0 => []
  | k + 1 => wjTo l at_ high k ++ (if at_ % (tkAt l k).every = 0 then [⟨(k : Int), at_, if high then (tkAt l k).high else (tkAt l k).low⟩] else [])
def wjAll (l : List Tk) (high : Bool) : Nat → List Jb
  | 0 => []
  | n + 1 => wjAll l high n ++ wjTo l (n : Int) high l.length
def worst (l : List Tk) (n : Int) (high : Bool) : Option (List Jb) :=
  if setVld l && decide (0 ≤ n) && decide (n ≤ 200) && decide ((wjAll l high n.toNat).length ≤ 60) then some (wjAll l high n.toNat) else none
def worstL (l : List Tk) (n : Int) (high : Bool) : List Jb := (worst l n high).getD []
theorem wjTo_le (l : List Tk) (a : Int) (high : Bool) {k n : Nat} (h : k ≤ n) : (wjTo l a high k).length ≤ (wjTo l a high n).length := by
  induction n with
  | zero => rw [show k = 0 by omega]; exact Nat.le_refl _
  | succ n ih =>
    by_cases e : k = n + 1
    · rw [e]; exact Nat.le_refl _
    · have := ih (by omega)
      simp only [wjTo, List.length_append]
      omega
theorem wjAll_le (l : List Tk) (high : Bool) {k n : Nat} (h : k ≤ n) : (wjAll l high k).length ≤ (wjAll l high n).length := by
  induction n with
  | zero => rw [show k = 0 by omega]; exact Nat.le_refl _
  | succ n ih =>
    by_cases e : k = n + 1
    · rw [e]; exact Nat.le_refl _
    · have := ih (by omega)
      simp only [wjAll, List.length_append]
      omega
end Go.Proofs.YtmkjmancmiphfaaGreatDoor
