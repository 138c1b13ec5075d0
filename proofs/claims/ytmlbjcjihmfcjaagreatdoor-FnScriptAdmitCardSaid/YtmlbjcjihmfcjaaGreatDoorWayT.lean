/-
  The ways in order, one after the other, in plain Lean.
-/
import Derived.Test.YtmlbjcjihmfcjaaGreatDoorPackT
namespace Go.Proofs.YtmlbjcjihmfcjaaGreatDoor

/-- The next way: the last number that can grow grows, those behind it begin anew. -/
theorem way_succ {m : Nat} (hm : 0 < m) (n k j : Nat) (hj : j < n) (hd : ∀ i, j < i → i < n → (way m n k)[i]? = some ((m : Int) - 1)) (d : Int) (h1 : (way m n k)[j]? = some d) (h2 : d ≠ (m : Int) - 1) :
    way m n (k + 1) = (way m n k).take j ++ (d + 1) :: List.replicate (n - j - 1) 0 := by
  induction n generalizing k j with
  | zero => omega
  | succ n ih =>
    have hl := way_length m n (k / m)
    simp only [way] at hd h1 ⊢
    have hmod : k % m < m := Nat.mod_lt _ hm
    have hdm : m * (k / m) + k % m = k := Nat.div_add_mod k m
    by_cases e : j = n
    · subst e
      rw [List.getElem?_append_right (by omega), hl, Nat.sub_self] at h1
      simp at h1
      subst h1
      have hlt : k % m + 1 < m := by omega
      have e1 : k + 1 = m * (k / m) + (k % m + 1) := by omega
      have e2 : (k + 1) / m = k / m := by rw [e1, Nat.mul_add_div hm, Nat.div_eq_of_lt hlt]; omega
      have e3 : (k + 1) % m = k % m + 1 := by rw [e1, Nat.mul_add_mod, Nat.mod_eq_of_lt hlt]
      rw [e2, e3, List.take_append_of_le_length (by omega), List.take_of_length_le (by omega)]
      simp
    · have hjn : j < n := by omega
      have h3 := hd n hjn (by omega)
      rw [List.getElem?_append_right (by omega), hl, Nat.sub_self] at h3
      simp at h3
      have hk : k % m + 1 = m := by omega
      have e1 : k + 1 = m * (k / m + 1) := by rw [Nat.mul_add, Nat.mul_one]; omega
      have e2 : (k + 1) / m = k / m + 1 := by rw [e1, Nat.mul_div_cancel_left _ hm]
      have e3 : (k + 1) % m = 0 := by rw [e1, Nat.mul_mod_right]
      have h4 := ih (k / m) j hjn (fun i hi hin => by
        have := hd i hi (by omega)
        rwa [List.getElem?_append_left (by omega)] at this) (by rwa [List.getElem?_append_left (by omega)] at h1)
      rw [e2, e3, h4, List.take_append_of_le_length (by omega), List.append_assoc]
      have e4 : n + 1 - j - 1 = (n - j - 1) + 1 := by omega
      rw [e4, List.replicate_succ']
      simp
theorem way_last {m : Nat} (hm : 0 < m) (n k : Nat) (hk : k < m ^ n) (hd : ∀ i, i < n → (way m n k)[i]? = some ((m : Int) - 1)) : k + 1 = m ^ n := by
  induction n generalizing k with
  | zero => simp at hk ⊢; omega
  | succ n ih =>
    have hl := way_length m n (k / m)
    simp only [way] at hd
    have h3 := hd n (by omega)
    rw [List.getElem?_append_right (by omega), hl, Nat.sub_self] at h3
    simp at h3
    have hmod : k % m < m := Nat.mod_lt _ hm
    have hdm : m * (k / m) + k % m = k := Nat.div_add_mod k m
    have hkm : k / m < m ^ n := by rw [Nat.div_lt_iff_lt_mul hm]; rwa [Nat.pow_succ] at hk
    have h4 := ih (k / m) hkm (fun i hin => by
      have := hd i (by omega)
      rwa [List.getElem?_append_left (by omega)] at this)
    rw [Nat.pow_succ, ← h4, Nat.add_mul, Nat.mul_comm]
    omega
theorem way_zero (m n : Nat) : way m n 0 = List.replicate n 0 := by
  induction n with
  | zero => rfl
  | succ n ih => rw [way, Nat.zero_div, ih, List.replicate_succ']; simp
theorem firstK_step (f : Nat → Bool) (N k : Nat) (h : k < N) : firstK f (N - k) k = if f k then some k else firstK f (N - (k + 1)) (k + 1) := by
  have e : N - k = (N - (k + 1)) + 1 := by omega
  rw [e]
  rfl
def anyL (l : List Tk) (m p : Int) : List Int := (anyP l m p).getD []
def ffL (l : List Tk) (m p : Int) : List Int := (ffit l m p).getD []
theorem anyL_le (l : List Tk) (m p : Int) : (anyL l m p).length ≤ 5 := by
  unfold anyL
  cases h : anyP l m p with
  | none => simp
  | some w =>
    obtain ⟨hs, _, _, _, k, _, rfl, _⟩ := anyP_some h
    have := (setVld_all hs).1
    simp only [Option.getD_some, way_length]
    omega
theorem ffL_le (l : List Tk) (m p : Int) : (ffL l m p).length ≤ 5 := by
  unfold ffL
  cases h : ffit l m p with
  | none => simp
  | some w =>
    obtain ⟨hs, _, _, _, _, hk⟩ := ffit_some h
    have := (setVld_all hs).1
    obtain ⟨_, _, _, hl, _⟩ := (packVld_iff _ _ _).1 ((pkH_iff _ _ _ _).1 hk).1
    simp only [Option.getD_some]
    omega
end Go.Proofs.YtmlbjcjihmfcjaaGreatDoor
