/-
  What the laws on admission and packing lean on, in plain Lean.
-/
import Derived.Test.YtnldiakjmhfodaaAdmS
import Derived.Test.YtnldiakjmhfodaaWayT
namespace Go.Proofs.Ytnldiakjmhfodaa

theorem admL_le {l : List Tk} {t : Tk} {p : Int} (h : l.length ≤ 5) : (admL l t p).length ≤ 6 := by
  cases e : admitT l t p with
  | none => rw [(admL_none e).1]; simp
  | some x =>
    rw [(admL_some e).1]
    have := (admitT_some e).2.2.1.length_eq
    simp at this
    omega
theorem admitT_two (l : List Tk) (t : Tk) : admitT l t 2 = none := by
  simp [admitT, hldBy]
theorem admAll_both (ts : List Tk) (p : Int) : (admAll ts p).1.length ≤ ts.length ∧ (admAll ts p).2.length ≤ ts.length := by
  unfold admAll
  split
  · rename_i hk
    have hp : p = 0 ∨ p = 1 := by
      simp only [admOk, Bool.and_eq_true, polB, Bool.or_eq_true, beq_iff_eq] at hk
      exact hk.2
    have := (admGo_good (p := p) (ts := ts) (i := 0) (out := []) (ref := []) (hldBy_nil hp) rfl rfl).2.2
    omega
  · simp
theorem canB_cons {m x : Int} {ws : List Int} (h : canB m (x :: ws) = true) : x ≤ m + 1 ∧ canB (if x > m then x else m) ws = true := by
  simpa only [canB, Bool.and_eq_true, decide_eq_true_eq] using h
theorem canB_drop {m : Int} {ws : List Int} {k : Nat} (hk : k < ws.length) (h : canB m (ws.drop k) = true) : ws[k] ≤ m + 1 ∧ canB (if ws[k] > m then ws[k] else m) (ws.drop (k + 1)) = true := by
  rw [List.drop_eq_getElem_cons hk] at h
  exact canB_cons h
/-- The first number is 0, and the others go on from it. -/
theorem canB_zero {ws : List Int} (h : canB (-1) ws = true) (h0 : ∀ x ∈ ws, 0 ≤ x) (hl : 0 < ws.length) : ws[0]? = some 0 ∧ canB 0 ws = true := by
  cases ws with
  | nil => simp at hl
  | cons x r =>
    obtain ⟨h1, h2⟩ := canB_cons h
    have h3 := h0 x (by simp)
    obtain rfl : x = 0 := by omega
    refine ⟨rfl, ?_⟩
    simp only [canB, Bool.and_eq_true, decide_eq_true_eq]
    exact ⟨by omega, h2⟩
theorem ordB_drop {b a : Int} {ws : List Int} {k : Nat} (hk : k < ws.length) (h : ordB b a (ws.drop k) = true) : a ≤ ws[k] ∧ ws[k] < b ∧ ordB b (ws[k] + 1) (ws.drop (k + 1)) = true := by
  rw [List.drop_eq_getElem_cons hk] at h
  simp only [ordB, Bool.and_eq_true, decide_eq_true_eq] at h
  exact ⟨h.1.1, h.1.2, h.2⟩
theorem pkH_ints {l : List Tk} {ws : List Int} {m p : Int} (h : pkH l ws m p = true) : ws.length = l.length ∧ ∀ x ∈ ws, 0 ≤ x ∧ x < m := by
  obtain ⟨_, _, _, a, b⟩ := (packVld_iff _ _ _).1 ((pkH_iff _ _ _ _).1 h).1
  exact ⟨a, b⟩
end Go.Proofs.Ytnldiakjmhfodaa
