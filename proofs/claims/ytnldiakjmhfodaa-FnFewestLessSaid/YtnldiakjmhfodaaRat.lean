/-
  Shares as rational numbers: plain arithmetic, no program.
-/
import Derived.Test.YtnldiakjmhfodaaBase
namespace Go.Proofs.Ytnldiakjmhfodaa

/-- n/d in lowest terms. -/
theorem mkRat_num (n : Int) (d : Nat) (hd : d ≠ 0) : (mkRat n d).num = n / ((n.natAbs.gcd d : Nat) : Int) := by
  rw [← Rat.normalize_eq_mkRat hd, Rat.normalize_eq]
theorem mkRat_den (n : Int) (d : Nat) (hd : d ≠ 0) : (mkRat n d).den = d / n.natAbs.gcd d := by
  rw [← Rat.normalize_eq_mkRat hd, Rat.normalize_eq]
theorem rat_num_le {r : Rat} (h : 0 ≤ r) : 0 ≤ r.num := Rat.num_nonneg.2 h
theorem mkRat_nonneg' {n : Int} (hn : 0 ≤ n) (d : Nat) (hd : d ≠ 0) : 0 ≤ mkRat n d := by
  rw [← Rat.num_nonneg, mkRat_num n d hd]
  exact Int.ediv_nonneg hn (by omega)
/-- A number times a whole number that is whole: the denominator divides it. -/
theorem den_dvd_of_mkRat (n : Int) (d : Nat) (hd : d ≠ 0) : (mkRat n d).den ∣ d := by
  rw [mkRat_den n d hd]
  exact Nat.div_dvd_of_dvd (Nat.gcd_dvd_right _ _)
theorem gcd_step (a b : Nat) : Nat.gcd b (a % b) = Nat.gcd a b := by rw [Nat.gcd_comm b, ← Nat.gcd_rec, Nat.gcd_comm]
theorem add_mk (a b : Rat) : mkRat (a.num * b.den + b.num * a.den) (a.den * b.den) = a + b := by
  rw [Rat.add_def, Rat.normalize_eq_mkRat]
theorem mul_mk (a b : Rat) : mkRat (a.num * b.num) (a.den * b.den) = a * b := by
  rw [Rat.mul_def, Rat.normalize_eq_mkRat]

/-- The share of a task. -/
def shr (high : Bool) (t : Tk) : Rat := mkRat (if high then t.high else t.low) t.every.toNat
/-- The sum of the shares of the tasks that are critical, or are not. -/
def shares (crit high : Bool) : List Tk → Rat
  | [] => 0
  | t :: l => (if t.crit = crit then shr high t else 0) + shares crit high l
theorem shares_append (crit high : Bool) (l m : List Tk) : shares crit high (l ++ m) = shares crit high l + shares crit high m := by
  induction l with
  | nil => simp [shares, Rat.zero_add]
  | cons t l ih => simp only [List.cons_append, shares, ih, Rat.add_assoc]
theorem shares_take_succ (crit high : Bool) (l : List Tk) (k : Nat) (hk : k < l.length) :
    shares crit high (l.take (k + 1)) = shares crit high (l.take k) + (if l[k].crit = crit then shr high l[k] else 0) := by
  rw [List.take_succ_eq_append_getElem hk, shares_append]
  simp [shares, Rat.add_zero]
theorem den_add_dvd (a b : Rat) : (a + b).den ∣ a.den * b.den := by
  rw [← add_mk]
  exact den_dvd_of_mkRat _ _ (Nat.mul_ne_zero a.den_nz b.den_nz)
theorem den_mul_dvd (a b : Rat) : (a * b).den ∣ a.den * b.den := by
  rw [← mul_mk]
  exact den_dvd_of_mkRat _ _ (Nat.mul_ne_zero a.den_nz b.den_nz)

theorem vld_bd {t : Tk} (h : vld t = true) : 1 ≤ t.low ∧ t.low ≤ t.high ∧ t.high ≤ t.due ∧ t.due ≤ t.every ∧ t.every ≤ 20 := by
  simp only [vld, Bool.and_eq_true, decide_eq_true_eq] at h
  exact h.1
theorem shr_den {high : Bool} {t : Tk} (h : vld t = true) : (shr high t).den ≤ 20 := by
  have := vld_bd h
  exact Nat.le_trans (Nat.le_of_dvd (by omega) (den_dvd_of_mkRat _ _ (by omega))) (by omega)
theorem shares_den (crit high : Bool) (l : List Tk) (h : ∀ t ∈ l, vld t = true) : (shares crit high l).den ≤ 20 ^ l.length := by
  induction l with
  | nil => simp [shares]
  | cons t l ih =>
    have h1 := ih (fun s hs => h s (List.mem_cons_of_mem _ hs))
    have h2 := h t (by simp)
    simp only [shares, List.length_cons, Nat.pow_succ]
    have hx : (if t.crit = crit then shr high t else 0).den ≤ 20 := by
      split
      · exact shr_den h2
      · simp
    generalize (if t.crit = crit then shr high t else 0) = x at hx
    refine Nat.le_trans (Nat.le_of_dvd (Nat.mul_pos x.den_pos (Rat.den_pos _)) (den_add_dvd _ _)) ?_
    rw [Nat.mul_comm]
    exact Nat.mul_le_mul h1 hx
theorem shr_le {high : Bool} {t : Tk} (h : vld t = true) : 0 ≤ shr high t ∧ shr high t ≤ 1 := by
  have hb := vld_bd h
  have hn : 0 ≤ (if high = true then t.high else t.low) ∧ (if high = true then t.high else t.low) ≤ t.every := by split <;> omega
  unfold shr
  generalize (if high = true then t.high else t.low) = n at hn
  refine ⟨mkRat_nonneg' hn.1 _ (by omega), ?_⟩
  rw [Rat.le_iff, mkRat_num _ _ (by omega), mkRat_den _ _ (by omega)]
  simp only [Rat.num_ofNat, Rat.den_ofNat, Int.mul_one, Int.one_mul, Int.natCast_one, Int.natCast_ediv]
  have hg : (0 : Int) < ((n.natAbs.gcd t.every.toNat : Nat) : Int) := by
    have := Nat.gcd_pos_of_pos_right n.natAbs (show 0 < t.every.toNat by omega)
    omega
  exact Int.ediv_le_ediv hg (by omega)
theorem shares_bd (crit high : Bool) (l : List Tk) (h : ∀ t ∈ l, vld t = true) : 0 ≤ shares crit high l ∧ shares crit high l ≤ (l.length : Rat) := by
  induction l with
  | nil => simp [shares]
  | cons t l ih =>
    have h1 := ih (fun s hs => h s (List.mem_cons_of_mem _ hs))
    have h2 := shr_le (high := high) (h t (by simp))
    have hx : 0 ≤ (if t.crit = crit then shr high t else 0) ∧ (if t.crit = crit then shr high t else 0) ≤ 1 := by
      split
      · exact h2
      · grind
    simp only [shares, List.length_cons]
    generalize (if t.crit = crit then shr high t else 0) = x at hx
    have e : ((l.length + 1 : Nat) : Rat) = (l.length : Rat) + 1 := by simp
    rw [e]
    grind
theorem num_le_of_le {r : Rat} {n : Nat} (h : r ≤ (n : Rat)) : r.num ≤ (n : Int) * (r.den : Int) := by
  rw [Rat.le_iff] at h
  simpa using h
end Go.Proofs.Ytnldiakjmhfodaa
