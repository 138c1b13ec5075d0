/-
  The machine's run in plain Lean, seen from afar: what is left, what runs, the mode; with fixed priorities, what holds is in time.
-/
import Derived.Test.YtmkjmancmiphfaaJobT
namespace Go.Proofs.Ytmkjmancmiphfaa
open Go.RowKit

theorem sumTo_add (f g : Nat → Int) (n : Nat) : sumTo (fun i => f i + g i) n = sumTo f n + sumTo g n := by
  induction n with
  | zero => rfl
  | succ n ih =>
    simp only [sumTo, ih]
    omega
theorem sumTo_zero (n : Nat) : sumTo (fun _ => 0) n = 0 := by
  induction n with
  | zero => rfl
  | succ n ih =>
    simp only [sumTo, ih]
    omega
theorem sumTo_none (f : Nat → Int) (n r : Nat) (h : n ≤ r) : sumTo (fun i => if i = r then f i else 0) n = 0 := by
  induction n with
  | zero => rfl
  | succ n ih =>
    simp only [sumTo]
    rw [ih (by omega), if_neg (by omega)]
    omega
theorem sumTo_one (f : Nat → Int) (n r : Nat) (h : r < n) : sumTo (fun i => if i = r then f i else 0) n = f r := by
  induction n with
  | zero => omega
  | succ n ih =>
    simp only [sumTo]
    by_cases e : n = r
    · subst e
      rw [sumTo_none f n n (by omega), if_pos rfl]
      omega
    · rw [ih (by omega), if_neg e]
      omega
theorem sumTo_tasks (p : Nat → Bool) (k : Nat → Nat) (g : Nat → Int) (m n : Nat) (h : ∀ i, i < n → p i = true → k i < m) :
    sumTo (fun i => if p i then g i else 0) n = sumTo (fun q => sumTo (fun i => if p i && k i == q then g i else 0) n) m := by
  induction n with
  | zero => exact (sumTo_zero m).symm
  | succ n ih =>
    simp only [sumTo]
    rw [ih (fun i hi hp => h i (by omega) hp), sumTo_add]
    congr 1
    cases hp : p n with
    | false => simpa using (sumTo_zero m).symm
    | true =>
      rw [if_pos rfl]
      refine (sumTo_one (fun _ => g n) m (k n) (h n (by omega) hp)).symm.trans (sumTo_congr fun q _ => ?_)
      by_cases e : q = k n
      · rw [e]
        simp
      · rw [if_neg e, if_neg]
        simp only [Bool.true_and, beq_iff_eq]
        exact fun e' => e e'.symm
/-- The last time at which something holds. -/
theorem last_time (p : Nat → Prop) (h0 : p 0) (a : Nat) : ∃ t0, t0 ≤ a ∧ p t0 ∧ ∀ t, t0 < t → t ≤ a → ¬ p t := by
  induction a with
  | zero => exact ⟨0, Nat.le_refl _, h0, fun t h1 h2 => by omega⟩
  | succ a ih =>
    by_cases hp : p (a + 1)
    · exact ⟨a + 1, Nat.le_refl _, hp, fun t h1 h2 => by omega⟩
    · obtain ⟨t0, h1, h2, h3⟩ := ih
      refine ⟨t0, by omega, h2, fun t h4 h5 => ?_⟩
      by_cases e : t = a + 1
      · rw [e]
        exact hp
      · exact h3 t h4 (by omega)

def jA (js : List Jb) (i : Nat) : Int := (jobAt js i).at_
def jK (js : List Jb) (i : Nat) : Nat := (jobAt js i).task.toNat
def jN (js : List Jb) (i : Nat) : Int := (jobAt js i).need
/-- Jobs of tasks, those of one task far enough apart. -/
structure Apart (l : List Tk) (js : List Jb) : Prop where
  at0 : ∀ i, i < js.length → 0 ≤ jA js i
  tk : ∀ i, i < js.length → jK js i < l.length
  need : ∀ i, i < js.length → 1 ≤ jN js i ∧ jN js i ≤ (tkAt l (jK js i)).high
  far : ∀ i j, i < j → j < js.length → jK js i = jK js j → jA js i + (tkAt l (jK js i)).every ≤ jA js j
/-- A run: what is left at a time (lv), what is there at a tick (cm), the mode that a tick left (hi) and that of a tick (md), what runs, how much is done of each job. -/
structure Sch (l : List Tk) (js : List Jb) (key : Bool → Nat → Int) (lv cm : Nat → Nat → Prop) (hi md : Nat → Bool) (run : Nat → Option Nat) (dn : Nat → Nat → Int) : Prop where
  lv0 : ∀ i, ¬ lv 0 i
  cmIff : ∀ t i, cm t i ↔ lv t i ∨ (i < js.length ∧ jA js i = (t : Int) ∧ (md t = true → (tkAt l (jK js i)).crit = true))
  mdE : ∀ t i, lv t i → md t = hi t
  md0 : ∀ t, (∀ i, ¬ lv t i) → md t = false
  lvCm : ∀ t i, lv (t + 1) i → cm t i
  lvLt : ∀ t i, lv t i → i < js.length ∧ jA js i < (t : Int)
  runs : ∀ t i, cm t i → ∃ r, run t = some r ∧ key (md t) r ≤ key (md t) i
  runCm : ∀ t r, run t = some r → cm t r
  dnS : ∀ t i, dn (t + 1) i = dn t i + (if run t = some i then 1 else 0)
  dn0 : ∀ (t i : Nat), i < js.length → (t : Int) ≤ jA js i → dn t i = 0
  dnLv : ∀ t i, lv t i → dn t i < jN js i
  dnLe : ∀ t i, i < js.length → dn t i ≤ jN js i
  loLv : ∀ t i, hi t = false → lv t i → (tkAt l (jK js i)).crit = true → dn t i < (tkAt l (jK js i)).low
  hiCr : ∀ t i, hi t = true → lv t i → (tkAt l (jK js i)).crit = true
  hiUp : ∀ t, md t = true → hi (t + 1) = true

section
variable {l : List Tk} {js : List Jb} {key : Bool → Nat → Int} {lv cm : Nat → Nat → Prop} {hi md : Nat → Bool} {run : Nat → Option Nat} {dn : Nat → Nat → Int}

theorem Sch.cmLt (S : Sch l js key lv cm hi md run dn) {t i : Nat} (h : cm t i) : i < js.length ∧ jA js i ≤ (t : Int) := by
  rcases (S.cmIff t i).1 h with h | ⟨h1, h2, _⟩
  · have := S.lvLt t i h
    omega
  · omega
theorem Sch.lvOf (S : Sch l js key lv cm hi md run dn) {t i : Nat} (h : cm t i) (ha : jA js i < (t : Int)) : lv t i := by
  rcases (S.cmIff t i).1 h with h | ⟨h1, h2, _⟩
  · exact h
  · omega
theorem Sch.back (S : Sch l js key lv cm hi md run dn) {s i : Nat} (ha : jA js i < (s : Int)) : ∀ k, cm (s + k) i → lv s i := by
  intro k
  induction k with
  | zero => exact fun h => S.lvOf h ha
  | succ k ih => exact fun h => ih (S.lvCm _ _ (S.lvOf h (by omega)))
theorem Sch.backTo (S : Sch l js key lv cm hi md run dn) {s t i : Nat} (h : cm t i) (ha : jA js i < (s : Int)) (hs : s ≤ t) : lv s i := by
  obtain ⟨k, rfl⟩ := Nat.exists_eq_add_of_le hs
  exact S.back ha k h
theorem Sch.backLv (S : Sch l js key lv cm hi md run dn) {s d i : Nat} (h : lv d i) (ha : jA js i < (s : Int)) (hs : s ≤ d) : lv s i :=
  S.backTo ((S.cmIff d i).2 (.inl h)) ha hs
theorem Sch.fwd (S : Sch l js key lv cm hi md run dn) {t d i : Nat} (h : lv d i) (ht : t < d) (ha : jA js i ≤ (t : Int)) : cm t i :=
  S.lvCm t i (S.backLv h (by omega) ht)
theorem Sch.busy (S : Sch l js key lv cm hi md run dn) (p : Nat → Bool) (t0 k : Nat) (h : ∀ t, t0 ≤ t → t < t0 + k → ∃ r, run t = some r ∧ p r = true) :
    sumTo (fun i => if p i then dn (t0 + k) i - dn t0 i else 0) js.length = (k : Int) := by
  induction k with
  | zero =>
    refine (sumTo_congr (g := fun _ => 0) fun i _ => ?_).trans (sumTo_zero _)
    split
    · rw [Nat.add_zero]
      omega
    · rfl
  | succ k ih =>
    obtain ⟨r, h1, h3⟩ := h (t0 + k) (by omega) (by omega)
    have h2 := (S.cmLt (S.runCm _ _ h1)).1
    have e : sumTo (fun i => if p i then dn (t0 + (k + 1)) i - dn t0 i else 0) js.length = sumTo (fun i => (if p i then dn (t0 + k) i - dn t0 i else 0) + (if i = r then 1 else 0)) js.length := by
      refine sumTo_congr fun i _ => ?_
      rw [← Nat.add_assoc, S.dnS, h1]
      by_cases e : i = r
      · subst e
        rw [if_pos h3, if_pos h3, if_pos rfl, if_pos rfl]
        omega
      · have e' : ¬ (some r = some i) := fun e' => e (Option.some.inj e').symm
        rw [if_neg e, if_neg e']
        split <;> omega
    rw [e, sumTo_add, ih (fun t a b => h t a (by omega)), sumTo_one (fun _ => 1) _ _ h2]
    omega
/-- With one tick more for the job J. -/
theorem Sch.busyJ (S : Sch l js key lv cm hi md run dn) (p : Nat → Bool) (t0 k J : Nat) (hJ : J < js.length) (hp : p J = true) (h : ∀ t, t0 ≤ t → t < t0 + k → ∃ r, run t = some r ∧ p r = true) :
    sumTo (fun i => if p i then dn (t0 + k) i - dn t0 i + (if i = J then 1 else 0) else 0) js.length = (k : Int) + 1 := by
  have e : sumTo (fun i => if p i then dn (t0 + k) i - dn t0 i + (if i = J then 1 else 0) else 0) js.length = sumTo (fun i => (if p i then dn (t0 + k) i - dn t0 i else 0) + (if i = J then 1 else 0)) js.length := by
    refine sumTo_congr fun i _ => ?_
    by_cases e : i = J
    · subst e
      rw [if_pos hp, if_pos hp]
    · rw [if_neg e]
      split <;> omega
  rw [e, sumTo_add, S.busy p t0 k h, sumTo_one (fun _ => 1) _ _ hJ]
/-- Something left all the time: a mode that is low was low. -/
theorem Sch.lowBack (S : Sch l js key lv cm hi md run dn) {t0 : Nat} : ∀ k, (∀ t, t0 < t → t ≤ t0 + k → ∃ i, lv t i) → md (t0 + k) = false → ∀ t, t0 ≤ t → t ≤ t0 + k → md t = false := by
  intro k
  induction k with
  | zero =>
    intro _ h t h1 h2
    obtain rfl : t = t0 + 0 := by omega
    exact h
  | succ k ih =>
    intro hl h t h1 h2
    by_cases e : t = t0 + (k + 1)
    · rw [e]
      exact h
    · refine ih (fun s a b => hl s a (by omega)) ?_ t h1 (by omega)
      cases hm : md (t0 + k) with
      | false => rfl
      | true =>
        obtain ⟨i, hi'⟩ := hl (t0 + (k + 1)) (by omega) (by omega)
        have := S.mdE _ i hi'
        rw [h] at this
        have h2 := S.hiUp _ hm
        rw [show t0 + (k + 1) = t0 + k + 1 by omega] at this
        rw [h2] at this
        cases this
theorem Sch.highOn (S : Sch l js key lv cm hi md run dn) {t0 : Nat} : ∀ k, (∀ t, t0 ≤ t → t ≤ t0 + k → ∃ i, lv t i) → hi t0 = true → ∀ t, t0 ≤ t → t ≤ t0 + k → md t = true := by
  intro k hl h t h1 h2
  obtain ⟨j, rfl⟩ := Nat.exists_eq_add_of_le h1
  clear h1
  induction j with
  | zero =>
    obtain ⟨i, hi'⟩ := hl (t0 + 0) (by omega) (by omega)
    rw [S.mdE _ i hi']
    exact h
  | succ j ih =>
    obtain ⟨i, hi'⟩ := hl (t0 + (j + 1)) (by omega) (by omega)
    rw [S.mdE _ i hi']
    exact S.hiUp _ (ih (by omega))
/-- In the low mode no job has more than its low need. -/
theorem Sch.lowDn (S : Sch l js key lv cm hi md run dn) (A : Apart l js) (hv : ∀ k, k < l.length → vld (tkAt l k) = true) {i : Nat} (hi' : i < js.length) {t0 : Nat} (ha : (t0 : Int) ≤ jA js i) :
    ∀ k, (∀ t, t0 ≤ t → t < t0 + k → md t = false) → dn (t0 + k) i ≤ (tkAt l (jK js i)).low := by
  have hvt := hv _ (A.tk i hi')
  have hb := vld_bd hvt
  intro k
  induction k with
  | zero =>
    intro _
    have := S.dn0 t0 i hi' ha
    rw [Nat.add_zero]
    omega
  | succ k ih =>
    intro hm
    have h1 := ih (fun t a b => hm t a (by omega))
    have h2 := S.dnS (t0 + k) i
    rw [← Nat.add_assoc, h2]
    split
    · rename_i hr
      have hc := S.runCm _ _ hr
      rcases (S.cmIff _ i).1 hc with hl | ⟨_, hat, _⟩
      · cases hcr : (tkAt l (jK js i)).crit with
        | true =>
          have := S.mdE _ i hl
          rw [hm (t0 + k) (by omega) (by omega)] at this
          have := S.loLv _ i this.symm hl hcr
          omega
        | false =>
          have h3 := S.dnLe (t0 + k + 1) i hi'
          have h4 := (A.need i hi').2
          simp only [vld, hcr, Bool.and_eq_true, Bool.false_or, beq_iff_eq] at hvt
          rw [if_pos hr] at h2
          omega
      · have := S.dn0 (t0 + k) i hi' (by omega)
        omega
    · omega
end
theorem count_nonneg (q : Nat → Bool) (n : Nat) : 0 ≤ sumTo (fun i => if q i then 1 else 0) n :=
  sumTo_nonneg fun i _ => by split <;> omega
theorem sum_count (q : Nat → Bool) (g : Nat → Int) (C : Int) (n : Nat) (h : ∀ i, i < n → q i = true → g i ≤ C) : sumTo (fun i => if q i then g i else 0) n ≤ sumTo (fun i => if q i then 1 else 0) n * C := by
  induction n with
  | zero => simp [sumTo]
  | succ n ih =>
    have h1 := ih (fun i hi hq => h i (by omega) hq)
    simp only [sumTo, Int.add_mul]
    cases hq : q n with
    | false => simpa using h1
    | true =>
      have := h n (by omega) hq
      simp only [if_true, Int.one_mul]
      omega
/-- How many jobs of a task can come from a time on. -/
theorem count_far {l : List Tk} {js : List Jb} (A : Apart l js) (hv : ∀ k, k < l.length → vld (tkAt l k) = true) (q : Nat → Bool) (k : Nat) (lo : Int) (n : Nat) (hn : n ≤ js.length) (hk : ∀ i, i < n → q i = true → jK js i = k ∧ lo ≤ jA js i) :
    sumTo (fun i => if q i then 1 else 0) n = 0 ∨ (1 ≤ sumTo (fun i => if q i then 1 else 0) n ∧ ∃ z, z < n ∧ q z = true ∧ (sumTo (fun i => if q i then 1 else 0) n - 1) * (tkAt l k).every ≤ jA js z - lo ∧ ∀ i, i < n → q i = true → jA js i ≤ jA js z) := by
  induction n with
  | zero => exact .inl rfl
  | succ n ih =>
    have ih := ih (by omega) (fun i hi hq => hk i (by omega) hq)
    have h0 := count_nonneg q n
    simp only [sumTo]
    generalize sumTo (fun i => if q i then 1 else 0) n = c at ih h0
    cases hq : q n with
    | false =>
      simp only [Bool.false_eq_true, if_false, Int.add_zero]
      rcases ih with ih | ⟨h1, z, hz, hqz, h2, h3⟩
      · exact .inl ih
      · refine .inr ⟨h1, z, by omega, hqz, h2, fun i hi hqi => ?_⟩
        by_cases e : i = n
        · subst e
          rw [hq] at hqi
          cases hqi
        · exact h3 i (by omega) hqi
    | true =>
      simp only [if_true]
      obtain ⟨hkn, hlo⟩ := hk n (by omega) hq
      have hkl : k < l.length := by rw [← hkn]; exact A.tk n (by omega)
      have hb := vld_bd (hv k hkl)
      refine .inr ⟨by omega, n, by omega, hq, ?_, ?_⟩
      · rw [Int.add_sub_cancel]
        rcases ih with ih | ⟨h1, z, hz, hqz, h2, h3⟩
        · rw [ih]
          omega
        · have h4 := A.far z n hz (by omega) (by rw [hkn]; exact (hk z (by omega) hqz).1)
          have e : tkAt l (jK js z) = tkAt l k := by rw [(hk z (by omega) hqz).1]
          rw [e] at h4
          rw [Int.sub_mul, Int.one_mul] at h2
          omega
      · intro i hi hqi
        by_cases e : i = n
        · rw [e]
          exact Int.le_refl _
        · have h4 := A.far i n (by omega) (by omega) (by rw [hkn]; exact (hk i (by omega) hqi).1)
          have e : tkAt l (jK js i) = tkAt l k := by rw [(hk i (by omega) hqi).1]
          rw [e] at h4
          omega
/-- .. and before another time. -/
theorem count_win {l : List Tk} {js : List Jb} (A : Apart l js) (hv : ∀ k, k < l.length → vld (tkAt l k) = true) (q : Nat → Bool) (k : Nat) (hkl : k < l.length) (lo w : Int) (hw : 0 ≤ w) (hk : ∀ i, i < js.length → q i = true → jK js i = k ∧ lo ≤ jA js i ∧ jA js i < lo + w) :
    sumTo (fun i => if q i then 1 else 0) js.length ≤ jobsOf (tkAt l k) w := by
  have hb := vld_bd (hv k hkl)
  rcases count_far A hv q k lo js.length (Nat.le_refl _) (fun i hi hq => ⟨(hk i hi hq).1, (hk i hi hq).2.1⟩) with h | ⟨h1, z, hz, hqz, h2, _⟩
  · rw [h]
    exact (jobsOf_bd (hv k hkl) hw).1
  · have h3 := (hk z hz hqz).2.2
    unfold jobsOf
    rw [Int.le_ediv_iff_mul_le (by omega)]
    rw [Int.sub_mul, Int.one_mul] at h2
    omega
section
variable {l : List Tk} {js : List Jb} {key : Bool → Nat → Int} {lv cm : Nat → Nat → Prop} {hi md : Nat → Bool} {run : Nat → Option Nat} {dn : Nat → Nat → Int}
theorem place_sum (S : Sch l js key lv cm hi md run dn) {J t0 w : Nat} (hJ : J < js.length) (p : Nat → Bool) (hp : p J = true) (hJa : (t0 : Int) ≤ jA js J)
    (hpk : ∀ i, i < js.length → p i = true → i ≠ J → jK js i < jK js J ∧ (t0 : Int) ≤ jA js i) (hrun : ∀ t, t0 ≤ t → t < t0 + w → ∃ r, run t = some r ∧ p r = true)
    (C bound : Nat → Int) (CJ : Int) (hb : ∀ q, q < jK js J → sumTo (fun i => if p i && jK js i == q then 1 else 0) js.length * C q ≤ bound q)
    (hC : ∀ i, i < js.length → p i = true → i ≠ J → dn (t0 + w) i ≤ C (jK js i)) (hCJ : dn (t0 + w) J + 1 ≤ CJ) : (w : Int) + 1 ≤ sumTo bound (jK js J) + CJ := by
  rw [← S.busyJ p t0 w J hJ hp hrun, sumTo_tasks p (jK js) _ (jK js J + 1) js.length]
  · simp only [sumTo]
    have h1 : sumTo (fun q => sumTo (fun i => if p i && jK js i == q then dn (t0 + w) i - dn t0 i + (if i = J then 1 else 0) else 0) js.length) (jK js J) ≤ sumTo bound (jK js J) := by
      refine sumTo_le fun q hq => Int.le_trans (sum_count _ _ (C q) _ ?_) (hb q hq)
      intro i hi' hpi
      simp only [Bool.and_eq_true, beq_iff_eq] at hpi
      have hne : i ≠ J := fun e => by rw [e] at hpi; omega
      have h2 := (hpk i hi' hpi.1 hne).2
      have h3 := S.dn0 t0 i hi' h2
      have h4 := hC i hi' hpi.1 hne
      rw [if_neg hne, ← hpi.2]
      omega
    have h2 : sumTo (fun i => if p i && jK js i == jK js J then dn (t0 + w) i - dn t0 i + (if i = J then 1 else 0) else 0) js.length ≤ CJ := by
      have e : sumTo (fun i => if p i && jK js i == jK js J then dn (t0 + w) i - dn t0 i + (if i = J then 1 else 0) else 0) js.length = sumTo (fun i => if i = J then dn (t0 + w) i - dn t0 i + 1 else 0) js.length := by
        refine sumTo_congr fun i hi' => ?_
        by_cases e : i = J
        · subst e
          simp [hp]
        · simp only [if_neg e]
          rw [if_neg]
          simp only [Bool.and_eq_true, beq_iff_eq]
          rintro ⟨h1, h2⟩
          have := (hpk i hi' h1 e).1
          omega
      rw [e, sumTo_one (fun i => dn (t0 + w) i - dn t0 i + 1) _ _ hJ, S.dn0 t0 J hJ hJa]
      omega
    omega
  · intro i hi' hpi
    by_cases e : i = J
    · rw [e]
      omega
    · have := (hpk i hi' hpi e).1
      omega
theorem Sch.noCrit (S : Sch l js key lv cm hi md run dn) {t i : Nat} (h : cm t i) (hc : (tkAt l (jK js i)).crit = false) : md t = false := by
  cases hm : md t with
  | false => rfl
  | true =>
    rcases (S.cmIff t i).1 h with h | ⟨_, _, h⟩
    · have := S.mdE t i h
      rw [hm] at this
      have := S.hiCr t i this.symm h
      rw [hc] at this
      cases this
    · have := h hm
      rw [hc] at this
      cases this
end
theorem vld_low {t : Tk} (h : vld t = true) (hc : t.crit = false) : t.low = t.high := by
  simp only [vld, hc, Bool.and_eq_true, Bool.false_or, beq_iff_eq] at h
  exact h.2
section
variable {l : List Tk} {js : List Jb} {lv cm : Nat → Nat → Prop} {hi md : Nat → Bool} {run : Nat → Option Nat} {dn : Nat → Nat → Int}
/-- With fixed priorities: what holds is in time. -/
theorem place_safe (S : Sch l js (fun _ i => (jK js i : Int)) lv cm hi md run dn) (A : Apart l js) (hB : hldBoth l = true) : ∀ t i, lv t i → (t : Int) < jA js i + (tkAt l (jK js i)).due := by
  simp only [hldBoth, Bool.and_eq_true, List.all_eq_true, List.mem_range] at hB
  obtain ⟨hS, hall⟩ := hB
  have hv : ∀ k, k < l.length → vld (tkAt l k) = true := fun k hk => tkAt_vld hS hk
  intro t
  induction t using Nat.strongRecOn with
  | _ d ih =>
    intro J hJl
    apply Classical.byContradiction
    intro hlate
    obtain ⟨hJn, hJd⟩ := S.lvLt d J hJl
    have hkl := A.tk J hJn
    have hb := vld_bd (hv _ hkl)
    have ha0 := A.at0 J hJn
    have hd : (d : Int) = jA js J + (tkAt l (jK js J)).due := by
      by_cases e : (d : Int) = jA js J + (tkAt l (jK js J)).due
      · exact e
      · have h1 := ih (d - 1) (by omega) J (S.backLv hJl (by omega) (by omega))
        omega
    obtain ⟨a, ha⟩ : ∃ a : Nat, jA js J = (a : Int) := ⟨(jA js J).toNat, by omega⟩
    obtain ⟨t0, ht0, hp0, hpt⟩ := last_time (fun t => ∀ i, lv t i → jK js J ≤ jK js i) (fun i h => absurd h (S.lv0 i)) a
    have hlate0 : ∀ r t, cm t r → t0 ≤ t → jK js r < jK js J → (t0 : Int) ≤ jA js r := by
      intro r t hc h1 hlt
      apply Classical.byContradiction
      intro hlt2
      have := hp0 r (S.backTo hc (by omega) h1)
      omega
    have hrun : ∀ t, t0 ≤ t → t < d → ∃ r, run t = some r ∧ cm t r ∧ (r = J ∨ (jK js r < jK js J ∧ (t0 : Int) ≤ jA js r)) := by
      intro t h1 h2
      by_cases hta : t < a
      · have h3 := hpt (t + 1) (by omega) (by omega)
        have h4 : ∃ i, lv (t + 1) i ∧ jK js i < jK js J := by
          apply Classical.byContradiction
          intro hn
          apply h3
          intro i hi'
          apply Classical.byContradiction
          intro hlt
          exact hn ⟨i, hi', by omega⟩
        obtain ⟨i, hi1, hi2⟩ := h4
        obtain ⟨r, hr1, hr2⟩ := S.runs t i (S.lvCm t i hi1)
        have hr2 : (jK js r : Int) ≤ (jK js i : Int) := hr2
        have hc := S.runCm t r hr1
        have hlt : jK js r < jK js J := by omega
        exact ⟨r, hr1, hc, .inr ⟨hlt, hlate0 r t hc h1 hlt⟩⟩
      · have hcJ := S.fwd hJl h2 (by omega)
        obtain ⟨r, hr1, hr2⟩ := S.runs t J hcJ
        have hr2 : (jK js r : Int) ≤ (jK js J : Int) := hr2
        have hc := S.runCm t r hr1
        refine ⟨r, hr1, hc, ?_⟩
        by_cases hlt : jK js r < jK js J
        · exact .inr ⟨hlt, hlate0 r t hc h1 hlt⟩
        · left
          have hk : jK js r = jK js J := by omega
          have hcl := S.cmLt hc
          have e : tkAt l (jK js r) = tkAt l (jK js J) := by rw [hk]
          apply Classical.byContradiction
          intro hne
          rcases Nat.lt_or_ge r J with hrj | hrj
          · have hf := A.far r J hrj hJn hk
            rw [e] at hf
            have h5 := ih t h2 r (S.lvOf hc (by omega))
            rw [e] at h5
            omega
          · have hf := A.far J r (by omega) hcl.1 hk.symm
            omega
    have hleft : ∀ t, t0 < t → t ≤ d → ∃ i, lv t i := by
      intro t h1 h2
      by_cases hta : t ≤ a
      · have h3 := hpt t h1 hta
        apply Classical.byContradiction
        intro hn
        exact h3 fun i hi' => absurd ⟨i, hi'⟩ hn
      · exact ⟨J, S.backLv hJl (by omega) h2⟩
    have hH := hall _ hkl
    obtain ⟨R, hR⟩ : ∃ R, respLow l (jK js J) = some R := by
      cases e : respLow l (jK js J) with
      | some R => exact ⟨R, rfl⟩
      | none => simp [holdsAt, respSw, e] at hH
    have hl0 := (lowSum_bd hS (show jK js J ≤ l.length by omega) (show 0 ≤ (tkAt l (jK js J)).low by omega) (by omega)).1
    obtain ⟨R0, R1, R2, _⟩ := (risen_some (fun a b hab => nextLow_mono hS (show jK js J ≤ l.length by omega) hab) (by simp only [nextLow]; omega) R).1 hR
    obtain ⟨w, hw⟩ : ∃ w : Nat, R = (w : Int) := ⟨R.toNat, by omega⟩
    subst hw
    have hed : t0 + w ≤ d := by omega
    have he1 := hleft (t0 + w) (by omega) hed
    obtain ⟨ie, hie1⟩ := he1
    have hme := S.mdE _ ie hie1
    cases hie : hi (t0 + w) with
    | false =>
      rw [hie] at hme
      have hlow := S.lowBack (t0 := t0) w (fun t h1 h2 => hleft t h1 (by omega)) hme
      have hfin := place_sum S (J := J) (t0 := t0) (w := w) hJn (fun i => decide (i = J) || (decide (jK js i < jK js J) && decide ((t0 : Int) ≤ jA js i) && decide (jA js i < (t0 : Int) + w))) (by simp) (by omega) (by
          intro i _ hpi hne
          simp only [Bool.or_eq_true, Bool.and_eq_true, decide_eq_true_eq, hne, false_or] at hpi
          exact hpi.1) (by
          intro t h1 h2
          obtain ⟨r, hr1, hc, hr⟩ := hrun t h1 (by omega)
          refine ⟨r, hr1, ?_⟩
          have := (S.cmLt hc).2
          simp only [Bool.or_eq_true, Bool.and_eq_true, decide_eq_true_eq]
          rcases hr with hr | hr
          · exact .inl hr
          · exact .inr ⟨hr, by omega⟩)
        (fun q => (tkAt l q).low) (fun q => demF (tkAt l q) w false) (tkAt l (jK js J)).low (by
          intro q hq
          have hbq := vld_bd (hv q (by omega))
          refine Int.mul_le_mul_of_nonneg_right (count_win A hv _ q (by omega) t0 w (by omega) ?_) (by omega)
          intro i _ hpi
          simp only [Bool.or_eq_true, Bool.and_eq_true, decide_eq_true_eq, beq_iff_eq] at hpi
          obtain ⟨hpi, hki⟩ := hpi
          rcases hpi with e | hpi
          · rw [e] at hki
            omega
          · exact ⟨hki, hpi.1.2, hpi.2⟩) (by
          intro i hi' hpi hne
          simp only [Bool.or_eq_true, Bool.and_eq_true, decide_eq_true_eq, hne, false_or] at hpi
          exact S.lowDn A hv hi' hpi.1.2 w (fun t h1 h2 => hlow t h1 (by omega))) (by
          by_cases hae : a < t0 + w
          · have hlJ := S.backLv hJl (s := t0 + w) (by omega) hed
            cases hcr : (tkAt l (jK js J)).crit with
            | true =>
              have := S.loLv _ J hie hlJ hcr
              omega
            | false =>
              have h1 := S.dnLv _ J hlJ
              have h2 := (A.need J hJn).2
              have h3 := vld_low (hv _ hkl) hcr
              have h4 : (tkAt l (jK js J)).low = (tkAt l (jK js J)).high := h3
              omega
          · have := S.dn0 (t0 + w) J hJn (by omega)
            omega)
      have h5 : (tkAt l (jK js J)).low + sumTo (fun q => demF (tkAt l q) w false) (jK js J) ≤ (w : Int) := R2
      omega
    | true =>
      have hhigh := S.highOn (t0 := t0 + w) (d - (t0 + w)) (fun t h1 h2 => hleft t (by omega) (by omega)) hie
      have hcr : (tkAt l (jK js J)).crit = true := by
        cases hcr : (tkAt l (jK js J)).crit with
        | true => rfl
        | false =>
          have h1 := S.noCrit ((S.cmIff d J).2 (.inl hJl)) hcr
          have h2 := hhigh d hed (by omega)
          rw [h1] at h2
          cases h2
      have hH2 : (respSw l (jK js J)).isSome = true := by
        have e : (tkAt l (jK js J)).crit = true := hcr
        simpa [holdsAt, e] using hH
      obtain ⟨W, hW⟩ := Option.isSome_iff_exists.1 hH2
      have e : (tkAt l (jK js J)).crit = true := hcr
      simp only [respSw, hR, e, if_true] at hW
      have hs0 := (swSum_bd hS (show (0 : Int) ≤ w by omega) (show (w : Int) ≤ 20 by omega) (show jK js J ≤ l.length by omega) (show 0 ≤ (tkAt l (jK js J)).high by omega) (by omega)).1
      obtain ⟨W0, W1, W2, _⟩ := (risen_some (fun a b hab => nextSw_mono hS w (show jK js J ≤ l.length by omega) hab) (by simp only [nextSw]; omega) W).1 hW
      obtain ⟨f, hf⟩ : ∃ f : Nat, W = (f : Int) := ⟨W.toNat, by omega⟩
      subst hf
      have hfd : t0 + f ≤ d := by omega
      have hfin := place_sum S (J := J) (t0 := t0) (w := f) hJn (fun i => decide (i = J) || (decide (jK js i < jK js J) && decide ((t0 : Int) ≤ jA js i) && decide (jA js i < (t0 : Int) + (if (tkAt l (jK js i)).crit then f else w)))) (by simp) (by omega) (by
          intro i _ hpi hne
          simp only [Bool.or_eq_true, Bool.and_eq_true, decide_eq_true_eq, hne, false_or] at hpi
          exact hpi.1) (by
          intro t h1 h2
          obtain ⟨r, hr1, hc, hr⟩ := hrun t h1 (by omega)
          refine ⟨r, hr1, ?_⟩
          have hle := (S.cmLt hc).2
          simp only [Bool.or_eq_true, Bool.and_eq_true, decide_eq_true_eq]
          rcases hr with hr | hr
          · exact .inl hr
          · refine .inr ⟨hr, ?_⟩
            cases hcc : (tkAt l (jK js r)).crit with
            | true =>
              simp only [if_true]
              omega
            | false =>
              have h3 := S.noCrit hc hcc
              have h4 : t < t0 + w := by
                apply Classical.byContradiction
                intro hn
                have := hhigh t (by omega) (by omega)
                rw [h3] at this
                cases this
              simp only [Bool.false_eq_true, if_false]
              omega)
        (fun q => if (tkAt l q).crit then (tkAt l q).high else (tkAt l q).low) (fun q => swDem (tkAt l q) w f) (tkAt l (jK js J)).high (by
          intro q hq
          have hbq := vld_bd (hv q (by omega))
          unfold swDem
          cases hcc : (tkAt l q).crit with
          | true =>
            simp only [if_true]
            refine Int.mul_le_mul_of_nonneg_right (count_win A hv _ q (by omega) t0 f (by omega) ?_) (by omega)
            intro i _ hpi
            simp only [Bool.or_eq_true, Bool.and_eq_true, decide_eq_true_eq, beq_iff_eq] at hpi
            obtain ⟨hpi, hki⟩ := hpi
            have ec : (tkAt l (jK js i)).crit = true := by rw [hki]; exact hcc
            rcases hpi with e | hpi
            · rw [e] at hki
              omega
            · rw [ec, if_pos rfl] at hpi
              exact ⟨hki, hpi.1.2, hpi.2⟩
          | false =>
            simp only [Bool.false_eq_true, if_false]
            refine Int.mul_le_mul_of_nonneg_right (count_win A hv _ q (by omega) t0 w (by omega) ?_) (by omega)
            intro i _ hpi
            simp only [Bool.or_eq_true, Bool.and_eq_true, decide_eq_true_eq, beq_iff_eq] at hpi
            obtain ⟨hpi, hki⟩ := hpi
            have ec : (tkAt l (jK js i)).crit = false := by rw [hki]; exact hcc
            rcases hpi with e | hpi
            · rw [e] at hki
              omega
            · rw [ec] at hpi
              exact ⟨hki, hpi.1.2, hpi.2⟩) (by
          intro i hi' hpi hne
          have h1 := S.dnLe (t0 + f) i hi'
          have h2 := (A.need i hi').2
          have h3 := hv _ (A.tk i hi')
          cases hcc : (tkAt l (jK js i)).crit with
          | true =>
            simp only [if_true]
            exact Int.le_trans h1 h2
          | false =>
            simp only [Bool.false_eq_true, if_false]
            rw [vld_low h3 hcc]
            exact Int.le_trans h1 h2) (by
          have h2 := (A.need J hJn).2
          by_cases hae : a < t0 + f
          · have h1 := S.dnLv _ J (S.backLv hJl (s := t0 + f) (by omega) hfd)
            omega
          · have := S.dn0 (t0 + f) J hJn (by omega)
            omega)
      have h5 : (tkAt l (jK js J)).high + sumTo (fun q => swDem (tkAt l q) w f) (jK js J) ≤ (f : Int) := W2
      omega
end
end Go.Proofs.Ytmkjmancmiphfaa
