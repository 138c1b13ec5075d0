/-
  The machine's run in plain Lean: with deadlines, what holds is in time.
-/
import Derived.Test.YtmkjmancmiphfaaSch
import Derived.Test.YtmkjmancmiphfaaMostT
namespace Go.Proofs.Ytmkjmancmiphfaa
open Go.RowKit

/-- The deadline of a job, times the divisor of the factor. -/
def vkey (l : List Tk) (js : List Jb) (num den : Int) (mode : Bool) (i : Nat) : Int :=
  if (tkAt l (jK js i)).crit && !mode then jA js i * den + (tkAt l (jK js i)).due * num else (jA js i + (tkAt l (jK js i)).due) * den
theorem vkey_high (l : List Tk) (js : List Jb) (num den : Int) (i : Nat) : vkey l js num den true i = (jA js i + (tkAt l (jK js i)).due) * den := by simp [vkey]
theorem vkey_crit {l : List Tk} {js : List Jb} (num den : Int) {i : Nat} (h : (tkAt l (jK js i)).crit = true) : vkey l js num den false i = jA js i * den + (tkAt l (jK js i)).due * num := by
  have h' : (tkAt l (jK js i)).crit = true := h
  simp [vkey, h']
theorem vkey_not {l : List Tk} {js : List Jb} (num den : Int) {i : Nat} (h : (tkAt l (jK js i)).crit = false) : vkey l js num den false i = jA js i * den + (tkAt l (jK js i)).due * den := by
  have h' : (tkAt l (jK js i)).crit = false := h
  simp [vkey, h', Int.add_mul]
theorem vkey_le {l : List Tk} {js : List Jb} {num den : Int} (_hn : 0 < num) (hd : num ≤ den) {i : Nat} (h0 : 0 ≤ (tkAt l (jK js i)).due) : vkey l js num den false i ≤ (jA js i + (tkAt l (jK js i)).due) * den := by
  cases h : (tkAt l (jK js i)).crit with
  | true =>
    rw [vkey_crit num den h, Int.add_mul]
    have := Int.mul_le_mul_of_nonneg_left hd h0
    omega
  | false =>
    rw [vkey_not num den h, Int.add_mul]
    omega
/-- How many jobs of a task can come from a time on and have their deadline before another. -/
theorem cnt_vir {l : List Tk} {js : List Jb} (A : Apart l js) (hv : ∀ k, k < l.length → vld (tkAt l k) = true) (q : Nat → Bool) (k : Nat) (t0 V f den : Int) (hf : 0 < f) (hfd : f ≤ den) (hE : t0 * den ≤ V)
    (hk : ∀ i, i < js.length → q i = true → jK js i = k ∧ t0 ≤ jA js i ∧ jA js i * den + (tkAt l k).every * f ≤ V) :
    sumTo (fun i => if q i then 1 else 0) js.length * (tkAt l k).every * f ≤ V - t0 * den := by
  rcases count_far A hv q k t0 js.length (Nat.le_refl _) (fun i hi hq => ⟨(hk i hi hq).1, (hk i hi hq).2.1⟩) with h | ⟨h1, z, hz, hqz, h2, _⟩
  · rw [h, Int.zero_mul, Int.zero_mul]
    omega
  · obtain ⟨_, h3, h4⟩ := hk z hz hqz
    generalize sumTo (fun i => if q i then 1 else 0) js.length = c at h1 h2 ⊢
    generalize (tkAt l k).every = T at h2 h4 ⊢
    have h5 := Int.mul_le_mul_of_nonneg_right h2 (show 0 ≤ f by omega)
    have h6 := Int.mul_le_mul_of_nonneg_left hfd (show 0 ≤ jA js z - t0 by omega)
    rw [Int.sub_mul, Int.one_mul, Int.sub_mul] at h5
    rw [Int.sub_mul (jA js z) t0 den] at h6
    omega
theorem rat_cast_le {a b : Int} (h : a ≤ b) : (a : Rat) ≤ (b : Rat) := by exact_mod_cast h
theorem rat_task {w c Lo T f E : Int} (hw : w ≤ c * Lo) (hLo : 0 ≤ Lo) (hT : 0 < T) (hf : 0 < f) (h : c * T * f ≤ E) (y : Rat) (hy : y * (f : Rat) = (E : Rat)) : (w : Rat) ≤ mkRat Lo T.toNat * y := by
  have hu : mkRat Lo T.toNat * (T : Rat) = (Lo : Rat) := by
    have hT0 : ((T.toNat : Nat) : Rat) ≠ 0 := by
      intro e
      have : T.toNat = 0 := by exact_mod_cast e
      omega
    have e1 : (T : Rat) = ((T.toNat : Nat) : Rat) := by
      have : T = ((T.toNat : Nat) : Int) := by omega
      rw [this, Rat.intCast_natCast, Int.toNat_natCast]
    rw [Rat.mkRat_eq_div, e1]
    grind
  have hu0 : 0 ≤ mkRat Lo T.toNat := mkRat_nonneg' hLo _ (by omega)
  generalize mkRat Lo T.toNat = u at hu hu0
  have h1 : (w : Rat) ≤ (c : Rat) * (Lo : Rat) := by
    have := rat_cast_le hw
    rwa [Rat.intCast_mul] at this
  have h2 : (c : Rat) * (T : Rat) * (f : Rat) ≤ (E : Rat) := by
    have := rat_cast_le h
    rwa [Rat.intCast_mul, Rat.intCast_mul] at this
  have hf' : (0 : Rat) < (f : Rat) := by exact_mod_cast hf
  have h3 : (c : Rat) * (T : Rat) ≤ y := by
    apply Classical.byContradiction
    intro hn
    have h4 : 0 < ((c : Rat) * (T : Rat) - y) * (f : Rat) := Rat.mul_pos (by grind) hf'
    grind
  have h4 : 0 ≤ u * (y - (c : Rat) * (T : Rat)) := Rat.mul_nonneg hu0 (by grind)
  grind
/-- Sums over tasks, by their shares. -/
theorem sum_shares (l : List Tk) (w : Nat → Int) (X Y Z : Rat) (m : Nat) (hm : m ≤ l.length)
    (h : ∀ k, k < m → (w k : Rat) ≤ if (tkAt l k).crit then shr false (tkAt l k) * Y + shr true (tkAt l k) * Z else shr false (tkAt l k) * X) :
    ((sumTo w m : Int) : Rat) ≤ X * shares false false (l.take m) + Y * shares true false (l.take m) + Z * shares true true (l.take m) := by
  induction m with
  | zero =>
    simp only [sumTo, List.take_zero, shares]
    have : ((0 : Int) : Rat) = 0 := rfl
    grind
  | succ m ih =>
    have h1 := ih (by omega) (fun k hk => h k (by omega))
    have h2 := h m (by omega)
    have hlt : m < l.length := by omega
    rw [tkAt_eq l m hlt] at h2
    rw [shares_take_succ _ _ _ _ hlt, shares_take_succ _ _ _ _ hlt, shares_take_succ _ _ _ _ hlt]
    simp only [sumTo]
    have e : ((sumTo w m + w m : Int) : Rat) = (sumTo w m : Rat) + (w m : Rat) := Rat.intCast_add _ _
    rw [e]
    cases hc : l[m].crit with
    | true =>
      rw [hc] at h2
      simp only [if_true, Bool.true_eq_false, if_false] at h2 ⊢
      grind
    | false =>
      rw [hc] at h2
      simp only [if_true, Bool.false_eq_true, if_false] at h2 ⊢
      grind
/-- A least one. -/
theorem least_of (p : Nat → Prop) (f : Nat → Int) (h0 : ∀ i, p i → 0 ≤ f i) (i : Nat) (hi : p i) : ∃ j, p j ∧ ∀ k, p k → f j ≤ f k := by
  have key : ∀ (n i : Nat), p i → (f i).toNat = n → ∃ j, p j ∧ ∀ k, p k → f j ≤ f k := by
    intro n
    induction n using Nat.strongRecOn with
    | _ n ih =>
      intro i hi hn
      by_cases hx : ∃ k, p k ∧ f k < f i
      · obtain ⟨k, hk, hlt⟩ := hx
        exact ih (f k).toNat (by have := h0 k hk; omega) k hk rfl
      · exact ⟨i, hi, fun k hk => by
          apply Classical.byContradiction
          intro hn
          exact hx ⟨k, hk, by omega⟩⟩
  exact key _ i hi rfl
theorem rat_end1 {a b h x X Y w : Rat} (hXY : X = Y * x) (hXw : X ≤ w) (htot : w + 1 ≤ X * a + Y * b + 0 * h) (hY0 : 0 ≤ Y) (hx : a * x + b ≤ x) : False := by
  have := Rat.mul_nonneg hY0 (show 0 ≤ x - (a * x + b) by grind)
  grind
theorem rat_end2 {a b h x y pp zz : Rat} (hy : y * x = 1) (_hx0 : 0 < x) (h1 : a * x + b ≤ x) (h2 : x * a + h ≤ 1) (hpp : 0 ≤ pp) (hzz : 0 ≤ zz) (hy0 : 0 ≤ y) (htot : pp + zz + 1 ≤ (pp + zz * x) * a + pp * y * b + zz * h) : False := by
  have m0 := Rat.mul_nonneg hy0 (show 0 ≤ x - (a * x + b) by grind)
  have e : y * (x - (a * x + b)) = y * x - a * (y * x) - y * b := by grind
  rw [e, hy] at m0
  have m3 : 0 ≤ 1 - (a + y * b) := by grind
  have m1 := Rat.mul_nonneg hpp m3
  have m2 := Rat.mul_nonneg hzz (show 0 ≤ 1 - (x * a + h) by grind)
  have e2 : pp * y * b = pp * (y * b) := Rat.mul_assoc ..
  grind
theorem rat_end3 {a b h w : Rat} (hh : h ≤ 1) (hw : 0 ≤ w) (htot : w + 1 ≤ 0 * a + 0 * b + w * h) : False := by
  have := Rat.mul_nonneg hw (show 0 ≤ 1 - h by grind)
  grind
theorem rat_q1 {w1 w2 uL uH pp zz y : Rat} (r1 : w1 ≤ uL * (pp * y + zz)) (r2 : w2 ≤ 0) (hLH : uL ≤ uH) (hzz : 0 ≤ zz) : w1 + w2 ≤ uL * (pp * y) + uH * zz := by
  have := Rat.mul_nonneg (show 0 ≤ uH - uL by grind) hzz
  grind
theorem rat_q2 {w1 w2 uL uH pp zz y δ : Rat} (r1 : w1 ≤ uL * (pp + δ)) (r2 : w2 ≤ uH * (zz - δ)) (hδ : 0 ≤ δ) (hL : 0 ≤ uL) (hLH : uL ≤ uH) (hpp : 0 ≤ pp) (hy : 1 ≤ y) : w1 + w2 ≤ uL * (pp * y) + uH * zz := by
  have m1 := Rat.mul_nonneg (show 0 ≤ uH - uL by grind) hδ
  have m2 := Rat.mul_nonneg hL (Rat.mul_nonneg hpp (show 0 ≤ y - 1 by grind))
  grind
/-- What is known of the factor. -/
structure Fac (l : List Tk) (num den : Int) (x : Rat) : Prop where
  n0 : 0 < num
  nd : num ≤ den
  eq : x * (den : Rat) = (num : Rat)
  lo : ua l * x + ub l ≤ x
  hi : x * ua l + uh l ≤ 1

section
variable {l : List Tk} {js : List Jb} {num den : Int} {x : Rat} {lv cm : Nat → Nat → Prop} {hi md : Nat → Bool} {run : Nat → Option Nat} {dn : Nat → Nat → Int}
theorem due_low (S : Sch l js (vkey l js num den) lv cm hi md run dn) (A : Apart l js) (hS : setVld l = true) (himp : ∀ k, k < l.length → (tkAt l k).due = (tkAt l k).every) (F : Fac l num den x) :
    ∀ e J, lv e J → hi e = false → (e : Int) * den < vkey l js num den false J := by
  have hv : ∀ k, k < l.length → vld (tkAt l k) = true := fun k hk => tkAt_vld hS hk
  obtain ⟨hn, hnd, hx, hx1, hx2⟩ := F
  intro e J hJl hie
  apply Classical.byContradiction
  intro hlate
  obtain ⟨V, hV⟩ : ∃ V, vkey l js num den false J = V := ⟨_, rfl⟩
  rw [hV] at hlate
  obtain ⟨hJn, hJd⟩ := S.lvLt e J hJl
  have hkl := A.tk J hJn
  have hb := vld_bd (hv _ hkl)
  have ha0 := A.at0 J hJn
  have hm := himp _ hkl
  obtain ⟨a, ha⟩ : ∃ a : Nat, jA js J = (a : Int) := ⟨(jA js J).toNat, by omega⟩
  have hVa : (a : Int) * den ≤ V := by
    rw [← hV, ← ha]
    cases hc : (tkAt l (jK js J)).crit with
    | true =>
      rw [vkey_crit num den hc]
      have := Int.mul_nonneg (show 0 ≤ (tkAt l (jK js J)).due by omega) (show 0 ≤ num by omega)
      omega
    | false =>
      rw [vkey_not num den hc]
      have := Int.mul_nonneg (show 0 ≤ (tkAt l (jK js J)).due by omega) (show 0 ≤ den by omega)
      omega
  obtain ⟨t0, ht0, hp0, hpt⟩ := last_time (fun t => ∀ i, lv t i → V < vkey l js num den false i) (fun i h => absurd h (S.lv0 i)) a
  have hleft : ∀ t, t0 < t → t ≤ e → ∃ i, lv t i := by
    intro t h1 h2
    by_cases hta : t ≤ a
    · have h3 := hpt t h1 hta
      apply Classical.byContradiction
      intro hn
      exact h3 fun i hi' => absurd ⟨i, hi'⟩ hn
    · exact ⟨J, S.backLv hJl (by omega) h2⟩
  obtain ⟨w, hw⟩ : ∃ w, e = t0 + w := ⟨e - t0, by omega⟩
  subst hw
  have hme := S.mdE _ J hJl
  rw [hie] at hme
  have hlow := S.lowBack (t0 := t0) w hleft hme
  have hrun : ∀ t, t0 ≤ t → t < t0 + w → ∃ r, run t = some r ∧ cm t r ∧ (t0 : Int) ≤ jA js r ∧ vkey l js num den false r ≤ V := by
    intro t h1 h2
    have h3 : ∃ i, cm t i ∧ vkey l js num den false i ≤ V := by
      by_cases hta : t < a
      · have h3 := hpt (t + 1) (by omega) (by omega)
        apply Classical.byContradiction
        intro hn
        apply h3
        intro i hi'
        apply Classical.byContradiction
        intro hlt
        exact hn ⟨i, S.lvCm t i hi', by omega⟩
      · exact ⟨J, S.fwd hJl h2 (by omega), by omega⟩
    obtain ⟨i, hci, hvi⟩ := h3
    obtain ⟨r, hr1, hr2⟩ := S.runs t i hci
    rw [hlow t h1 (by omega)] at hr2
    have hc := S.runCm t r hr1
    refine ⟨r, hr1, hc, ?_, by omega⟩
    apply Classical.byContradiction
    intro hlt
    have := hp0 r (S.backTo hc (by omega) h1)
    omega
  have hsum := S.busyJ (fun i => decide ((t0 : Int) ≤ jA js i) && decide (vkey l js num den false i ≤ V)) t0 w J hJn (by
      simp only [Bool.and_eq_true, decide_eq_true_eq]
      omega) (by
      intro t h1 h2
      obtain ⟨r, hr1, _, hr2, hr3⟩ := hrun t h1 h2
      refine ⟨r, hr1, ?_⟩
      simp only [Bool.and_eq_true, decide_eq_true_eq]
      exact ⟨hr2, hr3⟩)
  rw [sumTo_tasks _ (jK js) _ l.length js.length (fun i hi' _ => A.tk i hi')] at hsum
  have hden : (0 : Rat) < (den : Rat) := by exact_mod_cast (show 0 < den by omega)
  have hnum : (0 : Rat) < (num : Rat) := by exact_mod_cast hn
  have hE0 : (t0 : Int) * den ≤ V := by
    have := Int.mul_le_mul_of_nonneg_right (show (t0 : Int) ≤ (a : Int) by omega) (show 0 ≤ den by omega)
    omega
  obtain ⟨E, hE⟩ : ∃ E, V - (t0 : Int) * den = E := ⟨_, rfl⟩
  have hEe : E ≤ (w : Int) * den := by
    have e : ((t0 + w : Nat) : Int) * den = (t0 : Int) * den + (w : Int) * den := by rw [Int.natCast_add, Int.add_mul]
    omega
  obtain ⟨X, hX⟩ : ∃ X : Rat, X * (den : Rat) = (E : Rat) := ⟨(E : Rat) / (den : Rat), by grind⟩
  obtain ⟨Y, hY⟩ : ∃ Y : Rat, Y * (num : Rat) = (E : Rat) := ⟨(E : Rat) / (num : Rat), by grind⟩
  have htot := sum_shares l X Y 0 l.length (Nat.le_refl _) (w := fun q => sumTo (fun i => if (decide ((t0 : Int) ≤ jA js i) && decide (vkey l js num den false i ≤ V)) && jK js i == q then dn (t0 + w) i - dn t0 i + (if i = J then 1 else 0) else 0) js.length) (by
    intro q hq
    have hbq := vld_bd (hv q hq)
    have hmq := himp q hq
    have hg := sum_count (fun i => (decide ((t0 : Int) ≤ jA js i) && decide (vkey l js num den false i ≤ V)) && jK js i == q) (fun i => dn (t0 + w) i - dn t0 i + (if i = J then 1 else 0)) (tkAt l q).low js.length (by
      intro i hi' hp
      simp only [Bool.and_eq_true, decide_eq_true_eq, beq_iff_eq] at hp
      obtain ⟨⟨h1, _⟩, h2⟩ := hp
      have h3 := S.dn0 t0 i hi' h1
      have h4 := S.lowDn A hv hi' h1 w (fun t h1 h2 => hlow t h1 (by omega))
      rw [← h2]
      by_cases eJ : i = J
      · rw [if_pos eJ]
        subst eJ
        cases hcr : (tkAt l (jK js i)).crit with
        | true =>
          have := S.loLv _ i hie hJl hcr
          have : dn (t0 + w) i < (tkAt l (jK js i)).low := this
          omega
        | false =>
          have h5 := S.dnLv _ i hJl
          have h6 : jN js i ≤ (tkAt l (jK js i)).high := (A.need i hJn).2
          have h7 := vld_low (hv _ hkl) hcr
          omega
      · rw [if_neg eJ]
        have h4 : dn (t0 + w) i ≤ (tkAt l (jK js i)).low := h4
        omega)
    cases hcr : (tkAt l q).crit with
    | true =>
      simp only [if_true]
      have hc := cnt_vir A hv (fun i => (decide ((t0 : Int) ≤ jA js i) && decide (vkey l js num den false i ≤ V)) && jK js i == q) q t0 V num den hn hnd hE0 (by
        intro i _ hp
        simp only [Bool.and_eq_true, decide_eq_true_eq, beq_iff_eq] at hp
        obtain ⟨⟨h1, h3⟩, h2⟩ := hp
        have ec : (tkAt l (jK js i)).crit = true := by rw [h2]; exact hcr
        rw [vkey_crit num den ec] at h3
        have e : (tkAt l (jK js i)).due = (tkAt l q).every := by rw [h2]; exact hmq
        rw [e] at h3
        exact ⟨h2, h1, h3⟩)
      have := rat_task (T := (tkAt l q).every) hg (by omega) (by omega) hn (E := E) (by rw [← hE]; exact hc) Y hY
      have e : shr false (tkAt l q) = mkRat (tkAt l q).low (tkAt l q).every.toNat := by simp [shr]
      rw [e, Rat.mul_zero, Rat.add_zero]
      exact this
    | false =>
      simp only [Bool.false_eq_true, if_false]
      have hc := cnt_vir A hv (fun i => (decide ((t0 : Int) ≤ jA js i) && decide (vkey l js num den false i ≤ V)) && jK js i == q) q t0 V den den (by omega) (by omega) hE0 (by
        intro i _ hp
        simp only [Bool.and_eq_true, decide_eq_true_eq, beq_iff_eq] at hp
        obtain ⟨⟨h1, h3⟩, h2⟩ := hp
        have ec : (tkAt l (jK js i)).crit = false := by rw [h2]; exact hcr
        rw [vkey_not num den ec] at h3
        have e : (tkAt l (jK js i)).due = (tkAt l q).every := by rw [h2]; exact hmq
        rw [e] at h3
        exact ⟨h2, h1, h3⟩)
      have := rat_task (T := (tkAt l q).every) hg (by omega) (by omega) (show 0 < den by omega) (E := E) (by rw [← hE]; exact hc) X hX
      have e : shr false (tkAt l q) = mkRat (tkAt l q).low (tkAt l q).every.toNat := by simp [shr]
      rw [e]
      exact this)
  rw [hsum, List.take_length] at htot
  have e1 : (((w : Int) + 1 : Int) : Rat) = (w : Rat) + 1 := by
    rw [Rat.intCast_add, Rat.intCast_natCast]
    rfl
  rw [e1] at htot
  have h9 : (E : Rat) ≤ (w : Rat) * (den : Rat) := by
    have := rat_cast_le hEe
    rwa [Rat.intCast_mul, Rat.intCast_natCast] at this
  have hEn : (0 : Rat) ≤ (E : Rat) := by exact_mod_cast (show 0 ≤ E by omega)
  have hY0 : 0 ≤ Y := by
    apply Classical.byContradiction
    intro hn
    have := Rat.mul_pos (show 0 < -Y by grind) hnum
    grind
  have hXY : X = Y * x := by
    have h1 : (X - Y * x) * (den : Rat) = 0 := by grind
    rcases Rat.mul_eq_zero.1 h1 with h | h
    · grind
    · grind
  have hXw : X ≤ (w : Rat) := by
    apply Classical.byContradiction
    intro hn
    have := Rat.mul_pos (show 0 < X - (w : Rat) by grind) hden
    grind
  exact rat_end1 hXY hXw htot hY0 hx1
/-- A job that does not run has no more done. -/
theorem Sch.still {key : Bool → Nat → Int} (S : Sch l js key lv cm hi md run dn) {s i : Nat} : ∀ k, (∀ t, s ≤ t → t < s + k → run t ≠ some i) → dn (s + k) i = dn s i := by
  intro k
  induction k with
  | zero => exact fun _ => rfl
  | succ k ih =>
    intro h
    rw [← Nat.add_assoc, S.dnS, if_neg (h (s + k) (by omega) (by omega)), ih (fun t a b => h t a (by omega)), Int.add_zero]
/-- A sum over two parts. -/
theorem sum_parts (p a : Nat → Bool) (g : Nat → Int) (n : Nat) : sumTo (fun i => if p i then g i else 0) n = sumTo (fun i => if p i && a i then g i else 0) n + sumTo (fun i => if p i && !a i then g i else 0) n := by
  rw [← sumTo_add]
  refine sumTo_congr fun i _ => ?_
  cases p i <;> cases a i <;> simp
theorem count_none {q : Nat → Bool} {n : Nat} (h : ∀ i, i < n → q i = false) : sumTo (fun i => if q i then (1 : Int) else 0) n = 0 := by
  refine (sumTo_congr (g := fun _ => 0) fun i hi => ?_).trans (sumTo_zero n)
  rw [h i hi]
  rfl
theorem due_high (S : Sch l js (vkey l js num den) lv cm hi md run dn) (A : Apart l js) (hS : setVld l = true) (himp : ∀ k, k < l.length → (tkAt l k).due = (tkAt l k).every) (F : Fac l num den x) :
    ∀ d J, lv d J → hi d = true → (d : Int) < jA js J + (tkAt l (jK js J)).due := by
  have hv : ∀ k, k < l.length → vld (tkAt l k) = true := fun k hk => tkAt_vld hS hk
  obtain ⟨hn, hnd, hx, hx1, hx2⟩ := F
  intro d J hJl hid
  apply Classical.byContradiction
  intro hlate
  obtain ⟨hJn, hJd⟩ := S.lvLt d J hJl
  have hkl := A.tk J hJn
  have hb := vld_bd (hv _ hkl)
  have ha0 := A.at0 J hJn
  have hcrJ := S.hiCr d J hid hJl
  -- the last switch
  obtain ⟨s, hsd, hps, hst⟩ := last_time (fun t => t = 0 ∨ md (t - 1) = false) (.inl rfl) d
  have hmdH : ∀ t, s ≤ t → t < d → md t = true := by
    intro t h1 h2
    have := hst (t + 1) (by omega) (by omega)
    cases hm : md t with
    | true => rfl
    | false => exact absurd (.inr (by rw [Nat.add_sub_cancel]; exact hm)) this
  have hs0 : s ≠ 0 := by
    intro e
    have h1 := hmdH 0 (by omega) (by omega)
    rw [S.md0 0 S.lv0] at h1
    cases h1
  have hms : md (s - 1) = false := by
    rcases hps with h | h
    · exact absurd h hs0
    · exact h
  -- a time without such a job, if there is one
  obtain ⟨t1, ht1d, hp1, hpt1⟩ := last_time (fun t => t < s ∨ ∀ i, lv t i → (d : Int) < jA js i + (tkAt l (jK js i)).due) (.inl (by omega)) d
  have hleft1 : ∀ t, t1 < t → t ≤ d → s ≤ t ∧ ∃ i, lv t i ∧ jA js i + (tkAt l (jK js i)).due ≤ (d : Int) := by
    intro t h1 h2
    have h3 := hpt1 t h1 h2
    refine ⟨by
      apply Classical.byContradiction
      intro hn
      exact h3 (.inl (by omega)), ?_⟩
    apply Classical.byContradiction
    intro hn
    apply h3
    right
    intro i hi'
    apply Classical.byContradiction
    intro hlt
    exact hn ⟨i, hi', by omega⟩
  have ht1 : t1 ≠ d := by
    intro e
    subst e
    rcases hp1 with h | h
    · omega
    · have := h J hJl
      omega
  have hdenI : 0 < den := by omega
  have hrunH : ∀ t, t1 ≤ t → s ≤ t → t < d → ∃ r, run t = some r ∧ cm t r ∧ (tkAt l (jK js r)).crit = true ∧ jA js r + (tkAt l (jK js r)).due ≤ (d : Int) := by
    intro t h1 h1s h2
    obtain ⟨_, i, hi1, hi2⟩ := hleft1 (t + 1) (by omega) (by omega)
    obtain ⟨r, hr1, hr2⟩ := S.runs t i (S.lvCm t i hi1)
    rw [hmdH t h1s h2, vkey_high, vkey_high] at hr2
    have hc := S.runCm t r hr1
    refine ⟨r, hr1, hc, ?_, ?_⟩
    · cases hcc : (tkAt l (jK js r)).crit with
      | true => rfl
      | false =>
        have := S.noCrit hc hcc
        rw [hmdH t h1s h2] at this
        cases this
    · have := Int.le_of_mul_le_mul_right hr2 hdenI
      omega
  have hden : (0 : Rat) < (den : Rat) := by exact_mod_cast hdenI
  have hnum : (0 : Rat) < (num : Rat) := by exact_mod_cast hn
  have hx0 : 0 < x := by
    apply Classical.byContradiction
    intro hn
    have := Rat.mul_nonneg (show 0 ≤ -x by grind) (show 0 ≤ (den : Rat) by grind)
    grind
  obtain ⟨hl5, hallv⟩ := setVld_all hS
  have hua0 := (shares_bd false false l hallv).1
  have hua : shares false false l = ua l := rfl
  have hub : shares true false l = ub l := rfl
  have huh : shares true true l = uh l := rfl
  have shr_e : ∀ q, shr false (tkAt l q) = mkRat (tkAt l q).low (tkAt l q).every.toNat := fun q => by simp [shr]
  have shr_h : ∀ q, shr true (tkAt l q) = mkRat (tkAt l q).high (tkAt l q).every.toNat := fun q => by simp [shr]
  by_cases hcase : s ≤ t1
  · have hp1' : ∀ i, lv t1 i → (d : Int) < jA js i + (tkAt l (jK js i)).due := by
      rcases hp1 with h | h
      · omega
      · exact h
    obtain ⟨w, hw⟩ : ∃ w, d = t1 + w := ⟨d - t1, by omega⟩
    subst hw
    have hJa : (t1 : Int) ≤ jA js J := by
      apply Classical.byContradiction
      intro hn
      have := hp1' J (S.backLv hJl (by omega) (by omega))
      omega
    have hsum := S.busyJ (fun i => decide ((t1 : Int) ≤ jA js i) && (tkAt l (jK js i)).crit && decide (jA js i + (tkAt l (jK js i)).due ≤ ((t1 + w : Nat) : Int))) t1 w J hJn (by
        simp only [Bool.and_eq_true, decide_eq_true_eq]
        exact ⟨⟨hJa, hcrJ⟩, by omega⟩) (by
        intro t h1 h2
        obtain ⟨r, hr1, hc, hr2, hr3⟩ := hrunH t h1 (by omega) h2
        refine ⟨r, hr1, ?_⟩
        simp only [Bool.and_eq_true, decide_eq_true_eq]
        refine ⟨⟨?_, hr2⟩, hr3⟩
        apply Classical.byContradiction
        intro hlt
        have := hp1' r (S.backTo hc (by omega) h1)
        omega)
    rw [sumTo_tasks _ (jK js) _ l.length js.length (fun i hi' _ => A.tk i hi')] at hsum
    have htot := sum_shares l 0 0 (w : Rat) l.length (Nat.le_refl _) (w := fun q => sumTo (fun i => if (decide ((t1 : Int) ≤ jA js i) && (tkAt l (jK js i)).crit && decide (jA js i + (tkAt l (jK js i)).due ≤ ((t1 + w : Nat) : Int))) && jK js i == q then dn (t1 + w) i - dn t1 i + (if i = J then 1 else 0) else 0) js.length) (by
      intro q hq
      have hbq := vld_bd (hv q hq)
      have hmq := himp q hq
      have hg := sum_count (fun i => (decide ((t1 : Int) ≤ jA js i) && (tkAt l (jK js i)).crit && decide (jA js i + (tkAt l (jK js i)).due ≤ ((t1 + w : Nat) : Int))) && jK js i == q) (fun i => dn (t1 + w) i - dn t1 i + (if i = J then 1 else 0)) (tkAt l q).high js.length (by
        intro i hi' hp
        simp only [Bool.and_eq_true, decide_eq_true_eq, beq_iff_eq] at hp
        obtain ⟨⟨⟨h1, _⟩, _⟩, h2⟩ := hp
        have h3 := S.dn0 t1 i hi' h1
        have h4 := S.dnLe (t1 + w) i hi'
        have h5 : jN js i ≤ (tkAt l (jK js i)).high := (A.need i hi').2
        rw [← h2]
        by_cases eJ : i = J
        · rw [if_pos eJ]
          subst eJ
          have := S.dnLv _ i hJl
          omega
        · rw [if_neg eJ]
          omega)
      cases hcr : (tkAt l q).crit with
      | true =>
        simp only [if_true]
        have hc := cnt_vir A hv (fun i => (decide ((t1 : Int) ≤ jA js i) && (tkAt l (jK js i)).crit && decide (jA js i + (tkAt l (jK js i)).due ≤ ((t1 + w : Nat) : Int))) && jK js i == q) q t1 ((t1 + w : Nat) : Int) 1 1 (by omega) (by omega) (by omega) (by
          intro i _ hp
          simp only [Bool.and_eq_true, decide_eq_true_eq, beq_iff_eq] at hp
          obtain ⟨⟨⟨h1, _⟩, h3⟩, h2⟩ := hp
          have e : (tkAt l (jK js i)).due = (tkAt l q).every := by rw [h2]; exact hmq
          rw [e] at h3
          exact ⟨h2, h1, by omega⟩)
        have := rat_task (T := (tkAt l q).every) hg (by omega) (by omega) (show (0 : Int) < 1 by omega) (E := (w : Int)) (by omega) (w : Rat) (by
          rw [Rat.intCast_natCast]
          have : ((1 : Int) : Rat) = 1 := rfl
          grind)
        rw [shr_h, Rat.mul_zero, Rat.zero_add]
        exact this
      | false =>
        simp only [Bool.false_eq_true, if_false]
        have e0 : sumTo (fun i => if (decide ((t1 : Int) ≤ jA js i) && (tkAt l (jK js i)).crit && decide (jA js i + (tkAt l (jK js i)).due ≤ ((t1 + w : Nat) : Int))) && jK js i == q then (1 : Int) else 0) js.length = 0 := by
          refine count_none fun i _ => ?_
          rw [Bool.eq_false_iff]
          intro hp
          simp only [Bool.and_eq_true, decide_eq_true_eq, beq_iff_eq] at hp
          obtain ⟨⟨⟨h1, h4⟩, h3⟩, h2⟩ := hp
          have : (tkAt l q).crit = true := by rw [← h2]; exact h4
          rw [hcr] at this
          cases this
        rw [e0, Int.zero_mul] at hg
        have := rat_cast_le hg
        rw [Rat.mul_zero]
        exact this)
    rw [hsum, List.take_length, hua, hub, huh] at htot
    have e1 : (((w : Int) + 1 : Int) : Rat) = (w : Rat) + 1 := by
      rw [Rat.intCast_add, Rat.intCast_natCast]
      rfl
    rw [e1] at htot
    have hw0 : (0 : Rat) ≤ (w : Rat) := by exact_mod_cast Nat.zero_le w
    have hxu : 0 ≤ x * ua l := Rat.mul_nonneg (by grind) hua0
    exact rat_end3 (show uh l ≤ 1 by grind) hw0 htot
  · have ht1s : t1 + 1 = s := by
      apply Classical.byContradiction
      intro hn
      have := (hleft1 (t1 + 1) (by omega) (by omega)).1
      omega
    have hleftS : ∀ t, s ≤ t → t ≤ d → ∃ i, lv t i ∧ jA js i + (tkAt l (jK js i)).due ≤ (d : Int) := fun t h1 h2 => (hleft1 t (by omega) h2).2
    have his : hi s = true := by
      by_cases e : s = d
      · rw [e]
        exact hid
      · obtain ⟨i, hi1, _⟩ := hleftS s (Nat.le_refl _) hsd
        rw [← S.mdE s i hi1]
        exact hmdH s (Nat.le_refl _) (by omega)
    obtain ⟨i0, hi0, hi0d⟩ := hleftS s (Nat.le_refl _) hsd
    obtain ⟨J1, ⟨hJ1l, hJ1d⟩, hJ1m⟩ := least_of (fun i => lv s i ∧ jA js i + (tkAt l (jK js i)).due ≤ (d : Int)) (jA js) (fun i hi' => A.at0 i (S.lvLt s i hi'.1).1) i0 ⟨hi0, hi0d⟩
    obtain ⟨hJ1n, hJ1s⟩ := S.lvLt s J1 hJ1l
    have hcr1 := S.hiCr s J1 his hJ1l
    have hb1 := vld_bd (hv _ (A.tk J1 hJ1n))
    have ha10 := A.at0 J1 hJ1n
    obtain ⟨a1, ha1⟩ : ∃ a : Nat, jA js J1 = (a : Int) := ⟨(jA js J1).toNat, by omega⟩
    obtain ⟨V, hV⟩ : ∃ V, (a1 : Int) * den + ((d : Int) - a1) * num = V := ⟨_, rfl⟩
    have hv1 : vkey l js num den false J1 ≤ V := by
      rw [vkey_crit num den hcr1, ← hV, ha1]
      have := Int.mul_le_mul_of_nonneg_right (show (tkAt l (jK js J1)).due ≤ (d : Int) - a1 by omega) (show 0 ≤ num by omega)
      omega
    obtain ⟨t0, ht0, hp0, hpt⟩ := last_time (fun t => ∀ i, lv t i → V < vkey l js num den false i) (fun i h => absurd h (S.lv0 i)) a1
    have hleft : ∀ t, t0 < t → t ≤ s - 1 → ∃ i, lv t i := by
      intro t h1 h2
      by_cases hta : t ≤ a1
      · have h3 := hpt t h1 hta
        apply Classical.byContradiction
        intro hn
        exact h3 fun i hi' => absurd ⟨i, hi'⟩ hn
      · exact ⟨J1, S.backLv hJ1l (by omega) (by omega)⟩
    have hlow : ∀ t, t0 ≤ t → t < s → md t = false := by
      have h := S.lowBack (t0 := t0) (s - 1 - t0) (fun t h1 h2 => hleft t h1 (by omega)) (by rw [show t0 + (s - 1 - t0) = s - 1 by omega]; exact hms)
      exact fun t h1 h2 => h t h1 (by omega)
    have hrunL : ∀ t, t0 ≤ t → t < s → ∃ r, run t = some r ∧ cm t r ∧ (t0 : Int) ≤ jA js r ∧ vkey l js num den false r ≤ V := by
      intro t h1 h2
      have h3 : ∃ i, cm t i ∧ vkey l js num den false i ≤ V := by
        by_cases hta : t < a1
        · have h3 := hpt (t + 1) (by omega) (by omega)
          apply Classical.byContradiction
          intro hn
          apply h3
          intro i hi'
          apply Classical.byContradiction
          intro hlt
          exact hn ⟨i, S.lvCm t i hi', by omega⟩
        · exact ⟨J1, S.fwd hJ1l h2 (by omega), hv1⟩
      obtain ⟨i, hci, hvi⟩ := h3
      obtain ⟨r, hr1, hr2⟩ := S.runs t i hci
      rw [hlow t h1 h2] at hr2
      have hc := S.runCm t r hr1
      refine ⟨r, hr1, hc, ?_, by omega⟩
      apply Classical.byContradiction
      intro hlt
      have := hp0 r (S.backTo hc (by omega) h1)
      omega
    have hrunS : ∀ t, s ≤ t → t < d → ∃ r, run t = some r ∧ (tkAt l (jK js r)).crit = true ∧ (a1 : Int) ≤ jA js r ∧ jA js r + (tkAt l (jK js r)).due ≤ (d : Int) := by
      intro t h1 h2
      obtain ⟨r, hr1, hc, hr2, hr3⟩ := hrunH t (by omega) h1 h2
      refine ⟨r, hr1, hr2, ?_, hr3⟩
      by_cases hlt : jA js r < (s : Int)
      · have := hJ1m r ⟨S.backTo hc hlt h1, hr3⟩
        omega
      · omega
    have hJa : (a1 : Int) ≤ jA js J := by
      by_cases hlt : jA js J < (s : Int)
      · have := hJ1m J ⟨S.backLv hJl hlt hsd, by omega⟩
        omega
      · omega
    obtain ⟨w, hw⟩ : ∃ w, d = t0 + w := ⟨d - t0, by omega⟩
    -- the jobs that run
    obtain ⟨p, hp⟩ : ∃ p : Nat → Bool, ∀ i, p i = true ↔ ((t0 : Int) ≤ jA js i ∧ (vkey l js num den false i ≤ V ∨ ((tkAt l (jK js i)).crit = true ∧ (a1 : Int) ≤ jA js i ∧ jA js i + (tkAt l (jK js i)).due ≤ (d : Int)))) :=
      ⟨fun i => decide ((t0 : Int) ≤ jA js i ∧ (vkey l js num den false i ≤ V ∨ ((tkAt l (jK js i)).crit = true ∧ (a1 : Int) ≤ jA js i ∧ jA js i + (tkAt l (jK js i)).due ≤ (d : Int)))), fun i => decide_eq_true_iff⟩
    have hsum := S.busyJ p t0 w J hJn ((hp J).2 ⟨by omega, .inr ⟨hcrJ, hJa, by omega⟩⟩) (by
        intro t h1 h2
        by_cases hts : t < s
        · obtain ⟨r, hr1, hc, hr2, hr3⟩ := hrunL t h1 hts
          exact ⟨r, hr1, (hp r).2 ⟨hr2, .inl hr3⟩⟩
        · obtain ⟨r, hr1, hr2, hr3, hr4⟩ := hrunS t (by omega) (by omega)
          exact ⟨r, hr1, (hp r).2 ⟨by omega, .inr ⟨hr2, hr3, hr4⟩⟩⟩)
    rw [← hw, sumTo_tasks _ (jK js) _ l.length js.length (fun i hi' _ => A.tk i hi')] at hsum
    have hE0 : (t0 : Int) * den ≤ V := by
      have h1 := Int.mul_le_mul_of_nonneg_right (show (t0 : Int) ≤ (a1 : Int) by omega) (show 0 ≤ den by omega)
      have h2 := Int.mul_nonneg (show 0 ≤ (d : Int) - a1 by omega) (show 0 ≤ num by omega)
      omega
    obtain ⟨E, hE⟩ : ∃ E, V - (t0 : Int) * den = E := ⟨_, rfl⟩
    have hEe : E = ((a1 : Int) - t0) * den + ((d : Int) - a1) * num := by
      have := Int.sub_mul (a1 : Int) (t0 : Int) den
      omega
    obtain ⟨pp, hpp⟩ : ∃ pp : Rat, pp = ((((a1 : Int) - t0) : Int) : Rat) := ⟨_, rfl⟩
    obtain ⟨zz, hzz⟩ : ∃ zz : Rat, zz = ((((d : Int) - a1) : Int) : Rat) := ⟨_, rfl⟩
    have hER : (E : Rat) = pp * (den : Rat) + zz * (num : Rat) := by rw [hEe, Rat.intCast_add, Rat.intCast_mul, Rat.intCast_mul, hpp, hzz]
    have hpp0 : 0 ≤ pp := by rw [hpp]; exact_mod_cast (show 0 ≤ (a1 : Int) - t0 by omega)
    have hzz0 : 0 ≤ zz := by rw [hzz]; exact_mod_cast (show 0 ≤ (d : Int) - a1 by omega)
    obtain ⟨y, hy⟩ : ∃ y : Rat, y * x = 1 := ⟨1 / x, by grind⟩
    have hy1 : 1 ≤ y := by
      have hx1' : x ≤ 1 := by
        apply Classical.byContradiction
        intro hn
        have h1 := Rat.mul_pos (show 0 < x - 1 by grind) hden
        have h2 := rat_cast_le hnd
        grind
      apply Classical.byContradiction
      intro hn
      have := Rat.mul_pos (show 0 < 1 - y by grind) hx0
      grind
    have hyn : y * (num : Rat) = (den : Rat) := by grind
    have htot := sum_shares l (pp + zz * x) (pp * y) zz l.length (Nat.le_refl _) (w := fun q => sumTo (fun i => if p i && jK js i == q then dn d i - dn t0 i + (if i = J then 1 else 0) else 0) js.length) (by
      intro q hq
      have hbq := vld_bd (hv q hq)
      have hmq := himp q hq
      have hdue : ∀ i, jK js i = q → (tkAt l (jK js i)).due = (tkAt l q).every := fun i h2 => by rw [h2]; exact hmq
      cases hcr : (tkAt l q).crit with
      | false =>
        simp only [Bool.false_eq_true, if_false]
        have hg := sum_count (fun i => p i && jK js i == q) (fun i => dn d i - dn t0 i + (if i = J then 1 else 0)) (tkAt l q).low js.length (by
          intro i hi' hpi
          simp only [Bool.and_eq_true, beq_iff_eq] at hpi
          obtain ⟨hpi, h2⟩ := hpi
          have h3 := S.dn0 t0 i hi' ((hp i).1 hpi).1
          have h4 := S.dnLe d i hi'
          have h5 : jN js i ≤ (tkAt l (jK js i)).high := (A.need i hi').2
          have h6 := vld_low (hv q hq) hcr
          have hne : i ≠ J := by
            intro e
            rw [e] at h2
            have : (tkAt l (jK js J)).crit = true := hcrJ
            rw [h2, hcr] at this
            cases this
          rw [h2] at h5
          rw [if_neg hne]
          omega)
        have hc := cnt_vir A hv (fun i => p i && jK js i == q) q t0 V den den (by omega) (by omega) hE0 (by
          intro i _ hpi
          simp only [Bool.and_eq_true, beq_iff_eq] at hpi
          obtain ⟨hpi, h2⟩ := hpi
          obtain ⟨h1, h3⟩ := (hp i).1 hpi
          have ec : (tkAt l (jK js i)).crit = false := by rw [h2]; exact hcr
          rcases h3 with h3 | ⟨h3, _⟩
          · rw [vkey_not num den ec, hdue i h2] at h3
            exact ⟨h2, h1, h3⟩
          · rw [ec] at h3
            cases h3)
        have := rat_task (T := (tkAt l q).every) hg (by omega) (by omega) hdenI (E := E) (by rw [← hE]; exact hc) (pp + zz * x) (by grind)
        rw [shr_e]
        exact this
      | true =>
        simp only [if_true]
        have hcq : ∀ i, jK js i = q → (tkAt l (jK js i)).crit = true := fun i h2 => by rw [h2]; exact hcr
        have hpart : ∀ i, i < js.length → (p i && jK js i == q) = true → jK js i = q ∧ (t0 : Int) ≤ jA js i ∧ ((a1 : Int) ≤ jA js i → jA js i + (tkAt l q).every ≤ (d : Int)) ∧ (jA js i < (a1 : Int) → jA js i * den + (tkAt l q).every * num ≤ V) := by
          intro i _ hpi
          simp only [Bool.and_eq_true, beq_iff_eq] at hpi
          obtain ⟨hpi, h2⟩ := hpi
          obtain ⟨h1, h3⟩ := (hp i).1 hpi
          refine ⟨h2, h1, ?_, ?_⟩
          · intro h4
            rcases h3 with h3 | ⟨_, _, h3⟩
            · rw [vkey_crit num den (hcq i h2), hdue i h2, ← hV] at h3
              have h5 := Int.mul_le_mul_of_nonneg_left hnd (show 0 ≤ jA js i - a1 by omega)
              rw [Int.sub_mul, Int.sub_mul] at h5
              rw [Int.sub_mul] at h3
              have h6 : (tkAt l q).every * num ≤ ((d : Int) - jA js i) * num := by
                rw [Int.sub_mul]
                omega
              have := Int.le_of_mul_le_mul_right h6 hn
              omega
            · rw [hdue i h2] at h3
              exact h3
          · intro h4
            rcases h3 with h3 | ⟨_, h3, _⟩
            · rw [vkey_crit num den (hcq i h2), hdue i h2] at h3
              exact h3
            · omega
        have hsp := sum_parts (fun i => p i && jK js i == q) (fun i => decide (jA js i < (a1 : Int))) (fun i => dn d i - dn t0 i + (if i = J then 1 else 0)) js.length
        rw [hsp]
        have hg1 := sum_count (fun i => (p i && jK js i == q) && decide (jA js i < (a1 : Int))) (fun i => dn d i - dn t0 i + (if i = J then 1 else 0)) (tkAt l q).low js.length (by
          intro i hi' hpi
          rw [Bool.and_eq_true, decide_eq_true_eq] at hpi
          obtain ⟨hpi, h4⟩ := hpi
          obtain ⟨h2, h1, _, _⟩ := hpart i hi' hpi
          have h3 := S.dn0 t0 i hi' h1
          have hne : i ≠ J := by
            intro e
            rw [e] at h4
            omega
          have h5 := S.still (s := s) (i := i) (d - s) (by
            intro t h6 h7 h8
            obtain ⟨r, hr1, _, hr3, _⟩ := hrunS t h6 (by omega)
            rw [hr1] at h8
            cases h8
            omega)
          rw [show s + (d - s) = d by omega] at h5
          have h6 := S.lowDn A hv hi' h1 (s - t0) (fun t h1 h2 => hlow t h1 (by omega))
          rw [show t0 + (s - t0) = s by omega] at h6
          have h6 : dn s i ≤ (tkAt l (jK js i)).low := h6
          rw [h2] at h6
          rw [if_neg hne]
          omega)
        have hg2 := sum_count (fun i => (p i && jK js i == q) && !decide (jA js i < (a1 : Int))) (fun i => dn d i - dn t0 i + (if i = J then 1 else 0)) (tkAt l q).high js.length (by
          intro i hi' hpi
          rw [Bool.and_eq_true] at hpi
          obtain ⟨h2, h1, _, _⟩ := hpart i hi' hpi.1
          have h3 := S.dn0 t0 i hi' h1
          have h4 := S.dnLe d i hi'
          have h5 : jN js i ≤ (tkAt l (jK js i)).high := (A.need i hi').2
          rw [h2] at h5
          by_cases eJ : i = J
          · rw [if_pos eJ]
            subst eJ
            have := S.dnLv _ i hJl
            omega
          · rw [if_neg eJ]
            omega)
        have hrat : ∀ (A B : Int), ((A + B : Int) : Rat) = (A : Rat) + (B : Rat) := fun A B => Rat.intCast_add A B
        rw [hrat, shr_e, shr_h]
        have huL : 0 ≤ mkRat (tkAt l q).low (tkAt l q).every.toNat := mkRat_nonneg' (by omega) _ (by omega)
        have huLH : mkRat (tkAt l q).low (tkAt l q).every.toNat ≤ mkRat (tkAt l q).high (tkAt l q).every.toNat := by
          have := shr_mono (high := false) (s := tkAt l q) (t := { tkAt l q with low := (tkAt l q).high }) (by simp [needOf]; omega) rfl (by show 1 ≤ (tkAt l q).every; omega)
          simpa [shr] using this
        by_cases hex : ∃ i, i < js.length ∧ ((p i && jK js i == q) && !decide (jA js i < (a1 : Int))) = true
        · obtain ⟨i1, hi1⟩ := hex
          obtain ⟨Y, ⟨hYn, hYp⟩, hYm⟩ := least_of (fun i => i < js.length ∧ ((p i && jK js i == q) && !decide (jA js i < (a1 : Int))) = true) (jA js) (fun i hi' => A.at0 i hi'.1) i1 hi1
          have hYp' := hYp
          simp only [Bool.and_eq_true, Bool.not_eq_true', decide_eq_false_iff_not] at hYp'
          have hYa : (a1 : Int) ≤ jA js Y := by omega
          have hYq := (hpart Y hYn (by simp only [Bool.and_eq_true]; exact hYp'.1)).1
          have hYd := (hpart Y hYn (by simp only [Bool.and_eq_true]; exact hYp'.1)).2.2.1 hYa
          have hc2 := cnt_vir A hv (fun i => (p i && jK js i == q) && !decide (jA js i < (a1 : Int))) q (jA js Y) (d : Int) 1 1 (by omega) (by omega) (by omega) (by
            intro i hi' hpi
            have h9 := hYm i ⟨hi', hpi⟩
            rw [Bool.and_eq_true] at hpi
            obtain ⟨h2, h1, h3, _⟩ := hpart i hi' hpi.1
            exact ⟨h2, h9, by have := h3 (by omega); omega⟩)
          have hc1 := cnt_vir A hv (fun i => (p i && jK js i == q) && decide (jA js i < (a1 : Int))) q t0 (jA js Y) 1 1 (by omega) (by omega) (by omega) (by
            intro i hi' hpi
            rw [Bool.and_eq_true, decide_eq_true_eq] at hpi
            obtain ⟨hpi, h4⟩ := hpi
            obtain ⟨h2, h1, _, _⟩ := hpart i hi' hpi
            refine ⟨h2, h1, ?_⟩
            have hlt : i < Y := by
              apply Classical.byContradiction
              intro hn
              have hne : i ≠ Y := fun e => by rw [e] at h4; omega
              have := A.far Y i (by omega) hi' (by rw [hYq, h2])
              have e : (tkAt l (jK js Y)) = tkAt l q := by rw [hYq]
              rw [e] at this
              omega
            have := A.far i Y hlt hYn (by rw [hYq, h2])
            have e : (tkAt l (jK js i)) = tkAt l q := by rw [h2]
            rw [e] at this
            omega)
          obtain ⟨aY, haY⟩ : ∃ aY : Rat, aY = (((jA js Y : Int)) : Rat) := ⟨_, rfl⟩
          have one1 : ((1 : Int) : Rat) = 1 := rfl
          have r1 := rat_task (T := (tkAt l q).every) hg1 (by omega) (by omega) (show (0 : Int) < 1 by omega) (E := jA js Y - t0) (by omega) (((jA js Y - t0 : Int)) : Rat) (by grind)
          have r2 := rat_task (T := (tkAt l q).every) hg2 (by omega) (by omega) (show (0 : Int) < 1 by omega) (E := (d : Int) - jA js Y) (by omega) ((((d : Int) - jA js Y : Int)) : Rat) (by grind)
          have c1 : (((jA js Y - t0 : Int)) : Rat) = pp + (((jA js Y - a1 : Int)) : Rat) := by
            rw [hpp, ← Rat.intCast_add]
            congr 1
            omega
          have c2 : ((((d : Int) - jA js Y : Int)) : Rat) = zz - (((jA js Y - a1 : Int)) : Rat) := by
            rw [hzz, ← Rat.intCast_sub]
            congr 1
            omega
          have c3 : (0 : Rat) ≤ (((jA js Y - a1 : Int)) : Rat) := by exact_mod_cast (show 0 ≤ jA js Y - a1 by omega)
          rw [c1] at r1
          rw [c2] at r2
          generalize (((jA js Y - a1 : Int)) : Rat) = δ at r1 r2 c3
          generalize mkRat (tkAt l q).low (tkAt l q).every.toNat = uL at r1 huL huLH ⊢
          generalize mkRat (tkAt l q).high (tkAt l q).every.toNat = uH at r2 huLH ⊢
          exact rat_q2 r1 r2 c3 huL huLH hpp0 hy1
        · have e0 : sumTo (fun i => if (p i && jK js i == q) && !decide (jA js i < (a1 : Int)) then (1 : Int) else 0) js.length = 0 := by
            refine count_none fun i hi' => ?_
            rw [Bool.eq_false_iff]
            exact fun hpi => hex ⟨i, hi', hpi⟩
          rw [e0, Int.zero_mul] at hg2
          have hc1 := cnt_vir A hv (fun i => (p i && jK js i == q) && decide (jA js i < (a1 : Int))) q t0 V num den hn hnd hE0 (by
            intro i hi' hpi
            rw [Bool.and_eq_true, decide_eq_true_eq] at hpi
            obtain ⟨hpi, h4⟩ := hpi
            obtain ⟨h2, h1, _, h3⟩ := hpart i hi' hpi
            exact ⟨h2, h1, h3 h4⟩)
          have r1 := rat_task (T := (tkAt l q).every) hg1 (by omega) (by omega) hn (E := E) (by rw [← hE]; exact hc1) (pp * y + zz) (by grind)
          have r2 := rat_cast_le hg2
          have zero0 : ((0 : Int) : Rat) = 0 := rfl
          generalize mkRat (tkAt l q).low (tkAt l q).every.toNat = uL at r1 huL huLH ⊢
          generalize mkRat (tkAt l q).high (tkAt l q).every.toNat = uH at huLH ⊢
          exact rat_q1 r1 r2 huLH hzz0)
    rw [hsum, List.take_length, hua, hub, huh] at htot
    have e1 : (((w : Int) + 1 : Int) : Rat) = pp + zz + 1 := by
      rw [hpp, hzz, Rat.intCast_add, ← Rat.intCast_add (↑a1 - ↑t0)]
      have : (w : Int) = (a1 : Int) - t0 + ((d : Int) - a1) := by omega
      rw [this]
      rfl
    rw [e1] at htot
    exact rat_end2 hy hx0 hx1 hx2 hpp0 hzz0 (by grind) htot
/-- With deadlines: what holds is in time. -/
theorem due_safe (S : Sch l js (vkey l js num den) lv cm hi md run dn) (A : Apart l js) (hS : setVld l = true) (himp : ∀ k, k < l.length → (tkAt l k).due = (tkAt l k).every) (F : Fac l num den x) :
    ∀ t i, lv t i → (t : Int) < jA js i + (tkAt l (jK js i)).due := by
  intro t i h
  cases hh : hi t with
  | true => exact due_high S A hS himp F t i h hh
  | false =>
    have h1 := due_low S A hS himp F t i h hh
    have hb := vld_bd (tkAt_vld hS (A.tk i (S.lvLt t i h).1))
    have h2 := vkey_le (l := l) (js := js) F.n0 F.nd (i := i) (by omega)
    have hd : 0 < den := by have := F.n0; have := F.nd; omega
    exact Int.lt_of_mul_lt_mul_right (Int.lt_of_lt_of_le h1 h2) (by omega)
end
end Go.Proofs.Ytmkjmancmiphfaa
