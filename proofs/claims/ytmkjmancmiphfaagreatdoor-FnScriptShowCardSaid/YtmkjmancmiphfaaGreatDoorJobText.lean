/-
  Texts of jobs, cut into their parts: in plain Lean.
-/
import Derived.Test.YtmkjmancmiphfaaGreatDoorJobT
import Derived.Test.YtmkjmancmiphfaaGreatDoorNumT
namespace Go.Proofs.YtmkjmancmiphfaaGreatDoor
open Go.RowKit

def jobT (j : Jb) : List UInt8 := num j.task ++ (64 :: []) ++ (num j.at_ ++ (58 :: []) ++ num j.need)
def toldJ (j : Jb) : Bool := decide (0 ≤ j.task) && decide (j.task ≤ 4) && decide (0 ≤ j.at_) && decide (j.at_ ≤ 200) && decide (1 ≤ j.need) && decide (j.need ≤ 20)
def toldB (js : List Jb) : Bool := js.all toldJ && decide (js.length ≤ 60)
def jobsT (js : List Jb) : List UInt8 := Lib.join (js.map jobT) [32]
def fmtJobs (js : List Jb) : List UInt8 := if toldB js then jobsT js else []
theorem toldJ_iff (j : Jb) : toldJ j = true ↔ 0 ≤ j.task ∧ j.task ≤ 4 ∧ 0 ≤ j.at_ ∧ j.at_ ≤ 200 ∧ 1 ≤ j.need ∧ j.need ≤ 20 := by
  simp only [toldJ, Bool.and_eq_true, decide_eq_true_eq, and_assoc]
theorem jobT_cut (j : Jb) : Lib.cut (jobT j) [64] = (num j.task, num j.at_ ++ (58 :: []) ++ num j.need, true) := cut_app 64 [] _ _ (num_no 64 _ (by decide))
theorem jobT_cut2 (j : Jb) : Lib.cut (num j.at_ ++ (58 :: []) ++ num j.need) [58] = (num j.at_, num j.need, true) := cut_app 58 [] _ _ (num_no 58 _ (by decide))
theorem jobT_no (c : UInt8) (j : Jb) (h : c = 32 ∨ c = 10) : c ∉ jobT j := by
  have hc : c.toNat < 48 ∨ 57 < c.toNat := by rcases h with rfl | rfl <;> decide
  have hn : ∀ n, c ∉ num n := fun n => num_no c n hc
  rcases h with rfl | rfl <;> simp [jobT, hn]
theorem jobT_len {j : Jb} (h : toldJ j = true) : (jobT j).length ≤ 65 := by
  rw [toldJ_iff] at h
  have h1 := num_len j.task (by omega)
  have h2 := num_len j.at_ (by omega)
  have h3 := num_len j.need (by omega)
  simp [jobT]
  omega
theorem jobsT_pieces {js : List Jb} (h : js ≠ []) : pieces [32] (jobsT js) = js.map jobT := by
  refine pieces_join 32 [] _ ?_ (by simpa using h)
  intro x hx
  obtain ⟨t, _, rfl⟩ := List.mem_map.1 hx
  exact jobT_no 32 t (.inl rfl)
theorem fmtJobs_no (js : List Jb) : (10 : UInt8) ∉ fmtJobs js := by
  unfold fmtJobs
  split
  · refine join_no 10 _ _ ?_ (by decide)
    intro x hx
    obtain ⟨t, _, rfl⟩ := List.mem_map.1 hx
    exact jobT_no 10 t (.inr rfl)
  · simp
theorem fmtJobs_le (js : List Jb) : (fmtJobs js).length ≤ 3960 := by
  unfold fmtJobs
  split
  · rename_i h
    simp only [toldB, Bool.and_eq_true, decide_eq_true_eq, List.all_eq_true] at h
    have := join_le [32] 65 (js.map jobT) (by
      intro x hx
      obtain ⟨t, ht, rfl⟩ := List.mem_map.1 hx
      exact jobT_len (h.1 t ht))
    rw [List.length_map] at this
    simp only [List.length_singleton] at this
    unfold jobsT
    omega
  · simp
theorem jobsT_ne {js : List Jb} (h : js ≠ []) : jobsT js ≠ [] := by
  cases js with
  | nil => exact absurd rfl h
  | cons a r =>
    have hn := dec_ne a.task.toNat
    simp [jobsT, Lib.join_cons, jobT, num, hn]
theorem jobsV_told {l : List Tk} {js : List Jb} (h : jobsV l js = true) : toldB js = true := by
  simp only [jobsV, Bool.and_eq_true, decide_eq_true_eq, List.all_eq_true, List.mem_range] at h
  obtain ⟨⟨hs, hl⟩, ha⟩ := h
  simp only [toldB, Bool.and_eq_true, decide_eq_true_eq, List.all_eq_true]
  refine ⟨?_, hl⟩
  intro j hj
  obtain ⟨i, hi, rfl⟩ := List.getElem_of_mem hj
  have := ha i hi
  simp only [jobOk, Bool.and_eq_true] at this
  have := this.1.1
  rw [jobAt_eq js i hi] at this
  simp only [jobOfB, Bool.and_eq_true, decide_eq_true_eq] at this
  obtain ⟨⟨⟨⟨hp, h0⟩, h1⟩, h2⟩, h3⟩ := this
  have hp' := hp
  simp only [plc, Bool.and_eq_true, decide_eq_true_eq] at hp'
  have hl5 := setVld_len hs
  have hv := tkAt_vld hs (k := js[i].task.toNat) (by omega)
  have := vld_bd hv
  rw [toldJ_iff]
  omega
end Go.Proofs.YtmkjmancmiphfaaGreatDoor
