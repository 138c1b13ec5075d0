/-
  The greatest need with which tasks hold, in plain Lean.
-/
import Derived.Test.YtnldiakjmhfodaaHoldT
namespace Go.Proofs.Ytnldiakjmhfodaa

/-- The greatest number from 1 to n of which g is true. -/
def topP (g : Int → Bool) : Nat → Option Int
  | 0 => none
  | n + 1 => if g ((n : Int) + 1) then some ((n : Int) + 1) else topP g n
theorem topP_lt {g : Int → Bool} {n : Nat} {k : Int} (h : topP g n = some k) : 1 ≤ k ∧ k ≤ n ∧ g k = true ∧ ∀ j : Int, k < j → j ≤ n → g j = false := by
  induction n with
  | zero => simp [topP] at h
  | succ n ih =>
    simp only [topP] at h
    split at h
    · cases h
      exact ⟨by omega, by omega, by assumption, fun j h1 h2 => by omega⟩
    · obtain ⟨h0, h1, h2, h3⟩ := ih h
      refine ⟨h0, by omega, h2, fun j h4 h5 => ?_⟩
      by_cases e : j = (n : Int) + 1
      · subst e
        simpa using ‹¬ g ((n : Int) + 1) = true›
      · exact h3 j h4 (by omega)
theorem topP_of {g : Int → Bool} {n : Nat} {k : Int} (h1 : 1 ≤ k) (h2 : k ≤ n) (h : g k = true) : ∃ m, topP g n = some m ∧ k ≤ m := by
  induction n with
  | zero => omega
  | succ n ih =>
    simp only [topP]
    split
    · exact ⟨_, rfl, by omega⟩
    · rename_i hn
      by_cases e : k = (n : Int) + 1
      · subst e; exact absurd h hn
      · exact ih (by omega)
theorem topP_cut {g : Int → Bool} {n m : Nat} (hm : m ≤ n) (h : ∀ j : Int, (m : Int) < j → j ≤ n → g j = false) : topP g n = topP g m := by
  induction n with
  | zero =>
    obtain rfl : m = 0 := by omega
    rfl
  | succ n ih =>
    by_cases e : m = n + 1
    · rw [e]
    · simp only [topP]
      rw [h ((n : Int) + 1) (by omega) (by omega)]
      simp only [Bool.false_eq_true, if_false]
      exact ih (by omega) (fun j h1 h2 => h j h1 (by omega))

def mostH (l : List Tk) (k : Nat) (p : Int) : Option Int := topP (fun n => hldBy (setHigh l k n) p) 20
def mostL (l : List Tk) (k : Nat) (p : Int) : Option Int := topP (fun n => hldBy (setLow l k n) p) 20
def mostHigh (l : List Tk) (x : Int) (p : Int) : Option Int := if plc l x && (tkAt l x.toNat).crit && hldBy l p then mostH l x.toNat p else none
def mostLow (l : List Tk) (x : Int) (p : Int) : Option Int := if plc l x && hldBy l p then mostL l x.toNat p else none

theorem setHigh_bd {l : List Tk} {k : Nat} {n p : Int} (hk : k < l.length) (h : hldBy (setHigh l k n) p = true) : (tkAt l k).low ≤ n ∧ n ≤ (tkAt l k).due := by
  have := vld_nums (at_vld hk (hldBy_vld h))
  simp only [withHigh] at this
  omega
theorem setLow_bd {l : List Tk} {k : Nat} {n p : Int} (hk : k < l.length) (h : hldBy (setLow l k n) p = true) : 1 ≤ n ∧ n ≤ (tkAt l k).due ∧ ((tkAt l k).crit = true → n ≤ (tkAt l k).high) := by
  have := vld_nums (at_vld hk (hldBy_vld h))
  simp only [withLow] at this
  refine ⟨by omega, by omega, fun hc => ?_⟩
  rw [if_pos hc] at this
  omega
theorem mostH_due {l : List Tk} {k : Nat} (hk : k < l.length) (hl : setVld l = true) (p : Int) : mostH l k p = topP (fun n => hldBy (setHigh l k n) p) (tkAt l k).due.toNat := by
  have := vld_nums (tkAt_vld hl hk)
  refine topP_cut (by omega) fun j h1 h2 => ?_
  cases e : hldBy (setHigh l k j) p with
  | false => rfl
  | true => have := setHigh_bd hk e; omega
theorem mostL_due {l : List Tk} {k : Nat} (hk : k < l.length) (hl : setVld l = true) (p : Int) : mostL l k p = topP (fun n => hldBy (setLow l k n) p) (tkAt l k).due.toNat := by
  have := vld_nums (tkAt_vld hl hk)
  refine topP_cut (by omega) fun j h1 h2 => ?_
  cases e : hldBy (setLow l k j) p with
  | false => rfl
  | true => have := setLow_bd hk e; omega

/-- What is known where there is a greatest high need. -/
theorem mostHigh_some {l : List Tk} {x p n : Int} (h : mostHigh l x p = some n) :
    plc l x = true ∧ (tkAt l x.toNat).crit = true ∧ hldBy l p = true ∧ hldBy (setHigh l x.toNat n) p = true ∧ hldBy (setHigh l x.toNat (n + 1)) p = false ∧ (tkAt l x.toNat).high ≤ n ∧ n ≤ (tkAt l x.toNat).due ∧ n ≤ 20 := by
  simp only [mostHigh] at h
  split at h
  · rename_i hc
    simp only [Bool.and_eq_true] at hc
    obtain ⟨⟨hp, hcr⟩, hh⟩ := hc
    have hk : x.toNat < l.length := by
      simp only [plc, Bool.and_eq_true, decide_eq_true_eq] at hp
      omega
    have hvl := hldBy_vld hh
    have hv := vld_nums (tkAt_vld hvl hk)
    obtain ⟨h1, h2, h3, h4⟩ := topP_lt h
    have hb := setHigh_bd hk h3
    refine ⟨hp, hcr, hh, h3, ?_, ?_, hb.2, by omega⟩
    · by_cases e : n + 1 ≤ 20
      · exact h4 (n + 1) (by omega) (by omega)
      · cases e' : hldBy (setHigh l x.toNat (n + 1)) p with
        | false => rfl
        | true => have := setHigh_bd hk e'; omega
    · obtain ⟨m, hm1, hm2⟩ := topP_of (g := fun n => hldBy (setHigh l x.toNat n) p) (n := 20) (k := (tkAt l x.toNat).high) (by omega) (by omega) (by
        show hldBy (setHigh l x.toNat _) p = true
        rw [setHigh_self l _ hk]; exact hh)
      rw [mostH, hm1] at h
      cases h
      exact hm2
  · cases h
theorem mostLow_some {l : List Tk} {x p n : Int} (h : mostLow l x p = some n) :
    plc l x = true ∧ hldBy l p = true ∧ hldBy (setLow l x.toNat n) p = true ∧ (tkAt l x.toNat).low ≤ n ∧ n ≤ (tkAt l x.toNat).due ∧ n ≤ 20 ∧ ((tkAt l x.toNat).crit = true → n ≤ (tkAt l x.toNat).high) := by
  simp only [mostLow] at h
  split at h
  · rename_i hc
    simp only [Bool.and_eq_true] at hc
    obtain ⟨hp, hh⟩ := hc
    have hk : x.toNat < l.length := by
      simp only [plc, Bool.and_eq_true, decide_eq_true_eq] at hp
      omega
    have hvl := hldBy_vld hh
    have hv := vld_nums (tkAt_vld hvl hk)
    obtain ⟨h1, h2, h3, h4⟩ := topP_lt h
    have hb := setLow_bd hk h3
    refine ⟨hp, hh, h3, ?_, hb.2.1, by omega, hb.2.2⟩
    obtain ⟨m, hm1, hm2⟩ := topP_of (g := fun n => hldBy (setLow l x.toNat n) p) (n := 20) (k := (tkAt l x.toNat).low) (by omega) (by omega) (by
      show hldBy (setLow l x.toNat _) p = true
      rw [setLow_self l _ hk (tkAt_vld hvl hk)]; exact hh)
    rw [mostL, hm1] at h
    cases h
    exact hm2
  · cases h

/-- A task alone holds. -/
theorem setVld_one {t : Tk} (h : vld t = true) : setVld [t] = true := by simp [setVld, h]
theorem hldBoth_one {t : Tk} (h : vld t = true) : hldBoth [t] = true := by
  have b := vld_nums h
  have e1 : rl [] t = some t.low := by
    unfold rl
    exact risen_fix (by omega) (by simp [sumL])
  have e2 : t.crit = true → rs [] t = some t.high := by
    intro hc
    simp only [rs, e1, hc, if_true]
    exact risen_fix (by omega) (by simp [sumL])
  rw [hldBoth_eq, setVld_one h]
  simp only [hld, Bool.true_and, Bool.and_true, hAt]
  split
  · rename_i hc; rw [e2 hc]; rfl
  · rw [e1]; rfl
theorem hldVirt_one {t : Tk} (h : vld t = true) (hc : t.crit = true) (hd : t.due = t.every) : hldVirt [t] = true := by
  have : hldPlain [t] = true := by
    rw [hldPlain_iff, impl_iff]
    refine ⟨⟨setVld_one h, by simpa using hd⟩, ?_⟩
    have h1 := (shr_le (high := true) h).2
    simp only [ua, uh, shares, hc, if_true, Bool.true_eq_false, if_false]
    grind
  simp [hldVirt, this]
/-- The greatest high need of a critical task alone. -/
theorem mostHigh_one {l : List Tk} {x p n : Int} (h : mostHigh l x p = some n) : mostHigh [tkAt l x.toNat] 0 p = some (tkAt l x.toNat).due := by
  obtain ⟨hp, hcr, hh, _⟩ := mostHigh_some h
  have hk : x.toNat < l.length := by
    simp only [plc, Bool.and_eq_true, decide_eq_true_eq] at hp
    omega
  have hvl := hldBy_vld hh
  have hv := tkAt_vld hvl hk
  generalize ht : tkAt l x.toNat = t at *
  have hb := vld_nums hv
  have hone : ∀ s : Tk, vld s = true → s.crit = true → s.due = t.due → s.every = t.every → hldBy [s] p = true := by
    intro s hs hsc hd he
    unfold hldBy at hh ⊢
    split
    · exact hldBoth_one hs
    · rename_i e
      rw [if_neg e] at hh
      split
      · rename_i e1
        rw [if_pos e1] at hh
        refine hldVirt_one hs hsc ?_
        rw [hd, he, ← ht, tkAt_eq l _ hk]
        exact ((impl_iff l).1 (hldVirt_impl hh)).2 _ (List.getElem_mem hk)
      · rename_i e1
        rw [if_neg e1] at hh
        cases hh
  have hplc : plc [t] 0 = true := by simp [plc, setVld_one hv]
  have e0 : tkAt [t] (0 : Int).toNat = t := rfl
  simp only [mostHigh, hplc, e0, hcr, hone t hv hcr rfl rfl, Bool.true_and, if_true]
  have hw : hldBy (setHigh [t] 0 t.due) p = true := by
    refine hone (withHigh t t.due) ?_ hcr rfl rfl
    simp only [vld, withHigh, hcr, Bool.true_or, Bool.and_true, decide_eq_true_eq]
    omega
  obtain ⟨m, hm1, hm2⟩ := topP_of (g := fun n => hldBy (setHigh [t] 0 n) p) (n := 20) (k := t.due) (by omega) (by omega) hw
  have hm3 := setHigh_bd (by simp) (topP_lt hm1).2.2.1
  rw [mostH]
  have : m = t.due := by have := hm3.2; simp [tkAt] at this; omega
  rw [← this]
  exact hm1
end Go.Proofs.Ytnldiakjmhfodaa
