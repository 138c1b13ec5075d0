/-
  Response times in plain Lean: the demand of a task, the sums, the least fixed point below a bound.
-/
import Derived.Test.YtmkjmancmiphfaaGreatDoorShare
namespace Go.Proofs.YtmkjmancmiphfaaGreatDoor

def jobsOf (t : Tk) (w : Int) : Int := (w + t.every - 1) / t.every
def needOf (t : Tk) (high : Bool) : Int := if high then t.high else t.low
def demF (t : Tk) (w : Int) (high : Bool) : Int := jobsOf t w * needOf t high
def sumTo (f : Nat → Int) : Nat → Int
  | 0 => 0
  | n + 1 => sumTo f n + f n

theorem vld_nums {t : Tk} (h : vld t = true) : 1 ≤ t.low ∧ t.low ≤ t.high ∧ t.high ≤ t.due ∧ t.due ≤ t.every ∧ t.every ≤ 20 := by
  have := vld_bd h
  omega
theorem needOf_bd {t : Tk} (h : vld t = true) (b : Bool) : 1 ≤ needOf t b ∧ needOf t b ≤ 20 := by
  have := vld_nums h
  cases b <;> simp [needOf] <;> omega
theorem jobsOf_bd {t : Tk} (h : vld t = true) {w : Int} (hw : 0 ≤ w) : 0 ≤ jobsOf t w ∧ jobsOf t w ≤ w := by
  have := vld_nums h
  unfold jobsOf
  refine ⟨Int.ediv_nonneg (by omega) (by omega), ?_⟩
  have h1 : (w + t.every - 1) / t.every < w + 1 := by
    rw [Int.ediv_lt_iff_lt_mul (by omega)]
    have : (w + 1) * t.every = w * t.every + t.every := by rw [Int.add_mul, Int.one_mul]
    have h2 : w * 1 ≤ w * t.every := Int.mul_le_mul_of_nonneg_left (by omega) hw
    omega
  omega
theorem jobsOf_mono {t : Tk} (h : vld t = true) {v w : Int} (hw : v ≤ w) : jobsOf t v ≤ jobsOf t w := by
  have := vld_nums h
  exact Int.ediv_le_ediv (by omega) (by omega)
theorem demF_bd {t : Tk} (h : vld t = true) (b : Bool) {w : Int} (hw : 0 ≤ w) : 0 ≤ demF t w b ∧ demF t w b ≤ w * 20 := by
  have h1 := jobsOf_bd h hw
  have h2 := needOf_bd h b
  exact ⟨Int.mul_nonneg h1.1 (by omega), Int.mul_le_mul h1.2 h2.2 (by omega) (by omega)⟩
theorem demF_mono {t : Tk} (h : vld t = true) (b : Bool) {v w : Int} (hw : v ≤ w) : demF t v b ≤ demF t w b := by
  have h2 := needOf_bd h b
  exact Int.mul_le_mul_of_nonneg_right (jobsOf_mono h hw) (by omega)

theorem sumTo_le {f g : Nat → Int} {n : Nat} (h : ∀ k, k < n → f k ≤ g k) : sumTo f n ≤ sumTo g n := by
  induction n with
  | zero => simp [sumTo]
  | succ n ih =>
    have h1 := ih (fun k hk => h k (by omega))
    have h2 := h n (by omega)
    simp only [sumTo]
    omega
theorem sumTo_nonneg {f : Nat → Int} {n : Nat} (h : ∀ k, k < n → 0 ≤ f k) : 0 ≤ sumTo f n := by
  induction n with
  | zero => simp [sumTo]
  | succ n ih =>
    have h1 := ih (fun k hk => h k (by omega))
    have h2 := h n (by omega)
    simp only [sumTo]
    omega
theorem sumTo_bd {f : Nat → Int} {n : Nat} {c : Int} (h : ∀ k, k < n → f k ≤ c) : sumTo f n ≤ n * c := by
  induction n with
  | zero => simp [sumTo]
  | succ n ih =>
    have h1 := ih (fun k hk => h k (by omega))
    have h2 := h n (by omega)
    simp only [sumTo]
    have : ((n + 1 : Nat) : Int) * c = n * c + c := by simp [Int.add_mul]
    omega
theorem sumTo_congr {f g : Nat → Int} {n : Nat} (h : ∀ k, k < n → f k = g k) : sumTo f n = sumTo g n := by
  induction n with
  | zero => rfl
  | succ n ih =>
    simp only [sumTo]
    rw [ih (fun k hk => h k (by omega)), h n (by omega)]

/-- The least fixed point from w on, at most 'most'. -/
def rise (next : Int → Int) (most : Int) : Nat → Int → Option Int
  | 0, _ => none
  | n + 1, w => if w ≤ most then (if next w = w then some w else rise next most n (next w)) else none
/-- What the program's loop gives. -/
def risen (next : Int → Int) (start most : Int) : Option Int := rise next most (most + 1 - start).toNat start

theorem rise_over {next : Int → Int} {most w : Int} (h : most < w) (n : Nat) : rise next most n w = none := by
  cases n with
  | zero => rfl
  | succ n => simp only [rise]; rw [if_neg (by omega)]

/-- One round of the loop. -/
theorem risen_step {next : Int → Int} {w most : Int} (hw : w ≤ most) (hn : w < next w) (hm : ∀ v u, v ≤ u → next v ≤ next u) : risen next w most = risen next (next w) most := by
  have key : ∀ (n m : Nat) (v : Int), v ≤ next v → most + 1 - v ≤ n → most + 1 - v ≤ m → rise next most n v = rise next most m v := by
    intro n
    induction n with
    | zero =>
      intro m v _ h1 _
      rw [rise_over (by omega), rise_over (by omega)]
    | succ n ih =>
      intro m v hv h1 h2
      by_cases hvm : v ≤ most
      · obtain ⟨m, rfl⟩ : ∃ j, m = j + 1 := ⟨m - 1, by omega⟩
        simp only [rise]
        rw [if_pos hvm, if_pos hvm]
        by_cases e : next v = v
        · rw [if_pos e, if_pos e]
        · rw [if_neg e, if_neg e]
          exact ih m (next v) (hm _ _ hv) (by omega) (by omega)
      · rw [rise_over (by omega), rise_over (by omega)]
  unfold risen
  obtain ⟨n, hn'⟩ : ∃ n, (most + 1 - w).toNat = n + 1 := ⟨(most + 1 - w).toNat - 1, by omega⟩
  rw [hn']
  simp only [rise]
  rw [if_pos hw, if_neg (by omega)]
  exact key _ _ _ (hm _ _ (by omega)) (by omega) (by omega)
theorem risen_over {next : Int → Int} {w most : Int} (hw : most < w) : risen next w most = none := rise_over hw _
theorem risen_fix {next : Int → Int} {w most : Int} (hw : w ≤ most) (hn : next w = w) : risen next w most = some w := by
  unfold risen
  obtain ⟨n, hn'⟩ : ∃ n, (most + 1 - w).toNat = n + 1 := ⟨(most + 1 - w).toNat - 1, by omega⟩
  rw [hn']
  simp only [rise]
  rw [if_pos hw, if_pos hn]

/-- What it is: the least v with next v ≤ v from the start on. -/
theorem risen_some {next : Int → Int} {start most : Int} (hm : ∀ v u, v ≤ u → next v ≤ next u) (h0 : start ≤ next start) (r : Int) :
    risen next start most = some r ↔ (start ≤ r ∧ r ≤ most ∧ next r ≤ r ∧ ∀ v, start ≤ v → next v ≤ v → r ≤ v) := by
  have main : ∀ (k : Nat) (w : Int), (most + 1 - w).toNat = k → start ≤ w → w ≤ next w → (∀ v, start ≤ v → next v ≤ v → w ≤ v) → (risen next w most = some r ↔ (start ≤ r ∧ r ≤ most ∧ next r ≤ r ∧ ∀ v, start ≤ v → next v ≤ v → r ≤ v)) := by
    intro k
    induction k using Nat.strongRecOn with
    | _ k ih =>
      intro w hk hs hw hl
      by_cases hwm : w ≤ most
      · by_cases e : next w = w
        · rw [risen_fix hwm e]
          constructor
          · intro h
            cases h
            exact ⟨hs, hwm, by omega, hl⟩
          · rintro ⟨a, b, c, d⟩
            have h1 := hl r a c
            have h2 := d w hs (by omega)
            rw [show w = r by omega]
        · rw [risen_step hwm (by omega) hm]
          exact ih (most + 1 - next w).toNat (by omega) (next w) rfl (by omega) (hm _ _ hw) (fun v a c => by have := hm _ _ (hl v a c); omega)
      · rw [risen_over (by omega)]
        constructor
        · intro h; cases h
        · rintro ⟨a, b, c, d⟩
          have := hl r a c
          omega
  exact main _ start rfl (Int.le_refl _) h0 (fun v h _ => h)
end Go.Proofs.YtmkjmancmiphfaaGreatDoor
