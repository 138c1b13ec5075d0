/-
  Audsley's way to assign priorities, in plain Lean: what it finds holds, and it finds an order if there is one.
-/
import Derived.Test.YtnldiakjmhfodaaSub
namespace Go.Proofs.Ytnldiakjmhfodaa

def lastOk (ts : List Tk) (k : Nat) : Bool := hAt (ts.eraseIdx k) (tkAt ts k)
/-- The greatest number below n of which p is true. -/
def topK (p : Nat → Bool) : Nat → Option Nat
  | 0 => none
  | n + 1 => if p n then some n else topK p n
def pick (l : List Tk) (left : List Nat) : List Tk := left.map (tkAt l)
def aud (l : List Tk) : Nat → List Nat → List Nat → Option (List Nat)
  | 0, _, acc => some acc
  | n + 1, left, acc =>
    match topK (lastOk (pick l left)) left.length with
    | none => none
    | some k => aud l n (left.eraseIdx k) (left.getD k 0 :: acc)
def assign (l : List Tk) : Option (List Nat) := if setVld l then aud l l.length (List.range l.length) [] else none

theorem topK_lt {p : Nat → Bool} {n k : Nat} (h : topK p n = some k) : k < n ∧ p k = true ∧ ∀ j, k < j → j < n → p j = false := by
  induction n with
  | zero => simp [topK] at h
  | succ n ih =>
    simp only [topK] at h
    split at h
    · cases h
      exact ⟨by omega, by assumption, fun j h1 h2 => by omega⟩
    · obtain ⟨h1, h2, h3⟩ := ih h
      refine ⟨by omega, h2, fun j h4 h5 => ?_⟩
      by_cases e : j = n
      · subst e; simpa using ‹¬ p j = true›
      · exact h3 j h4 (by omega)
theorem topK_none {p : Nat → Bool} {n : Nat} (h : topK p n = none) : ∀ j, j < n → p j = false := by
  induction n with
  | zero => intro j hj; omega
  | succ n ih =>
    simp only [topK] at h
    split at h
    · cases h
    · intro j hj
      by_cases e : j = n
      · subst e; simpa using ‹¬ p j = true›
      · exact ih h j (by omega)

theorem pick_length (l : List Tk) (left : List Nat) : (pick l left).length = left.length := by simp [pick]
theorem pick_at (l : List Tk) (left : List Nat) {k : Nat} (hk : k < left.length) : tkAt (pick l left) k = tkAt l (left.getD k 0) := by
  rw [tkAt_eq _ _ (by rw [pick_length]; exact hk)]
  simp [pick, hk]
theorem pick_erase (l : List Tk) (left : List Nat) (k : Nat) : (pick l left).eraseIdx k = pick l (left.eraseIdx k) := by
  simp only [pick]
  induction left generalizing k with
  | nil => rfl
  | cons a left ih =>
    cases k with
    | zero => rfl
    | succ k => simp [ih k]
theorem getD_eq {left : List Nat} {k : Nat} (hk : k < left.length) : left.getD k 0 = left[k] := by simp [hk]
theorem idx_perm {α : Type} (l : List α) (k : Nat) (hk : k < l.length) : (l[k] :: l.eraseIdx k).Perm l := by
  induction l generalizing k with
  | nil => simp at hk
  | cons x l ih =>
    cases k with
    | zero => exact List.Perm.refl _
    | succ k => exact (List.Perm.swap x _ _).trans ((ih k (by simpa using hk)).cons x)
theorem erase_perm (left : List Nat) {k : Nat} (hk : k < left.length) : (left.getD k 0 :: left.eraseIdx k).Perm left := by
  rw [getD_eq hk]
  exact idx_perm left k hk
theorem pick_perm {a b : List Nat} (l : List Tk) (h : a.Perm b) : (pick l a).Perm (pick l b) := h.map _

/-- What is found is all places once, and holds. -/
theorem aud_good {l : List Tk} {n : Nat} {left acc o : List Nat} (hn : left.length = n) (h : aud l n left acc = some o) (hacc : hld (pick l left) (pick l acc) = true) : o.Perm (left ++ acc) ∧ hld [] (pick l o) = true := by
  induction n generalizing left acc with
  | zero =>
    cases left with
    | nil =>
      simp only [aud, Option.some.injEq] at h
      subst h
      exact ⟨List.Perm.refl _, hacc⟩
    | cons => simp at hn
  | succ n ih =>
    simp only [aud] at h
    split at h
    · cases h
    · rename_i k hk
      obtain ⟨h1, h2, _⟩ := topK_lt hk
      have hp := erase_perm left h1
      obtain ⟨g1, g2⟩ := ih (by rw [List.length_eraseIdx_of_lt h1]; omega) h (by
        simp only [pick, List.map_cons, hld, Bool.and_eq_true]
        simp only [lastOk, pick_erase, pick_at l left h1] at h2
        refine ⟨h2, ?_⟩
        rw [← hacc]
        refine hld_perm ?_ _
        have := pick_perm l hp
        exact (List.perm_append_comm (l₁ := List.map (tkAt l) (left.eraseIdx k)) (l₂ := [tkAt l (left.getD k 0)])).trans this)
      exact ⟨g1.trans (List.perm_middle.trans (hp.append_right acc)), g2⟩
/-- If some order holds, one is found. -/
theorem aud_some {l : List Tk} {n : Nat} {left : List Nat} (acc : List Nat) (hn : left.length = n) (hv : ∀ t ∈ pick l left, vld t = true) {p : List Tk} (hp : p.Perm (pick l left)) (hh : hld [] p = true) : (aud l n left acc).isSome = true := by
  induction n generalizing left acc p with
  | zero => rfl
  | succ n ih =>
    have hpl : p.length = n + 1 := by rw [hp.length_eq, pick_length, hn]
    obtain ⟨q, t, rfl⟩ : ∃ q t, p = q ++ [t] := by
      rcases List.eq_nil_or_concat p with h | ⟨q, t, h⟩
      · rw [h] at hpl; simp at hpl
      · exact ⟨q, t, by rw [h]; simp⟩
    rw [hld_append, Bool.and_eq_true] at hh
    have ht : hAt q t = true := by simpa [hld] using hh.2
    have hm : t ∈ pick l left := hp.mem_iff.1 (by simp)
    obtain ⟨j, hj, hjt⟩ := List.getElem_of_mem hm
    have hj' : j < left.length := by rwa [pick_length] at hj
    have hq : q.Perm ((pick l left).eraseIdx j) := by
      have h1 : (t :: q).Perm (pick l left) := (List.perm_append_comm (l₁ := [t]) (l₂ := q)).trans hp
      have h2 := idx_perm _ j hj
      rw [hjt] at h2
      exact (h1.trans h2.symm).cons_inv
    have hlast : lastOk (pick l left) j = true := by
      rw [lastOk, ← hAt_perm hq, tkAt_eq _ _ hj, hjt]
      exact ht
    simp only [aud]
    cases hk : topK (lastOk (pick l left)) left.length with
    | none =>
      have := topK_none hk j hj'
      rw [hlast] at this
      cases this
    | some k =>
      obtain ⟨h1, _, _⟩ := topK_lt hk
      have he := erase_perm left h1
      have hpe := pick_perm l he
      have hmem : tkAt l (left.getD k 0) ∈ q ++ [t] := hp.symm.mem_iff.1 (hpe.mem_iff.1 (by simp [pick]))
      refine ih (left := left.eraseIdx k) _ (by rw [List.length_eraseIdx_of_lt h1]; omega) (fun s hs => hv s ?_) (p := (q ++ [t]).erase (tkAt l (left.getD k 0))) ?_ ?_
      · exact hpe.mem_iff.1 (by simp only [pick, List.map_cons]; exact List.mem_cons_of_mem _ hs)
      · have a := List.perm_cons_erase hmem
        exact ((a.symm.trans hp).trans hpe.symm).cons_inv
      · refine hld_sub (List.erase_sublist ..) (Sub.refl _) (by simp) (fun s hs => hv s (hp.mem_iff.1 hs)) ?_
        rw [hld_append, Bool.and_eq_true]
        exact hh

theorem pick_range (l : List Tk) : pick l (List.range l.length) = l := by
  apply List.ext_getElem
  · simp [pick]
  · intro k h1 h2
    simp [pick, tkAt_eq l k h2]
theorem assign_good {l : List Tk} {o : List Nat} (h : assign l = some o) : setVld l = true ∧ o.Perm (List.range l.length) ∧ hldBoth (pick l o) = true := by
  simp only [assign] at h
  split at h
  · rename_i hs
    obtain ⟨h1, h2⟩ := aud_good (by simp) h (by simp [pick, hld])
    rw [List.append_nil] at h1
    refine ⟨hs, h1, ?_⟩
    have hp := pick_perm l h1
    rw [pick_range] at hp
    rw [hldBoth_eq, setVld_sub (Sub.perm hp) hs, h2]
    rfl
  · cases h
theorem assign_some {l p : List Tk} (hp : p.Perm l) (hh : hldBoth p = true) : (assign l).isSome = true := by
  rw [hldBoth_eq, Bool.and_eq_true] at hh
  have hs := setVld_sub (Sub.perm hp.symm) hh.1
  simp only [assign, hs, if_true]
  exact aud_some [] (by simp) (by rw [pick_range]; exact (setVld_all hs).2) (p := p) (by rw [pick_range]; exact hp) hh.2
theorem assign_iff (l : List Tk) : (assign l).isSome = true ↔ ∃ p : List Tk, p.Perm l ∧ hldBoth p = true := by
  constructor
  · intro h
    obtain ⟨o, ho⟩ := Option.isSome_iff_exists.1 h
    obtain ⟨_, h1, h2⟩ := assign_good ho
    refine ⟨_, ?_, h2⟩
    have hp := pick_perm l h1
    rwa [pick_range] at hp
  · rintro ⟨p, h1, h2⟩
    exact assign_some h1 h2
/-- What can hold, can hold with fewer tasks. -/
theorem assign_sub {a b : List Tk} (h : Sub a b) (hb : (assign b).isSome = true) : (assign a).isSome = true := by
  obtain ⟨p, h1, h2⟩ := (assign_iff b).1 hb
  obtain ⟨q, h3, h4⟩ := (h.trans (Sub.perm h1.symm)).sublist
  exact (assign_iff a).2 ⟨q, h3, hldBoth_sub h4 h2⟩
end Go.Proofs.Ytnldiakjmhfodaa
