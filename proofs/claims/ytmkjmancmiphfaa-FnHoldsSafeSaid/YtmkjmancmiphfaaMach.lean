/-
  The machine in plain Lean, tick by tick; what holds is in time; who misses.
-/
import Derived.Test.YtmkjmancmiphfaaSchD
namespace Go.Proofs.Ytmkjmancmiphfaa
open Go.RowKit

structure Mc where
  en : List Int
  dn : List Int
  lf : List Nat
  tr : List Int
  sw : List Int
  hi : Bool
/-- The jobs that come at a tick, of the first k: those that are dropped, and those that are left. -/
def arrS (l : List Tk) (js : List Jb) (tick : Int) (hi : Bool) (i : Nat) (s : List Int × List Nat) : List Int × List Nat :=
  if jA js i = tick then (if hi && !(tkAt l (jK js i)).crit then (s.1.set i (-2), s.2) else (s.1, s.2 ++ [i])) else s
def arrTo (l : List Tk) (js : List Jb) (tick : Int) (hi : Bool) (s : List Int × List Nat) : Nat → List Int × List Nat
  | 0 => s
  | k + 1 => arrS l js tick hi k (arrTo l js tick hi s k)
def bestTo (g : Nat → Nat → Bool) (lf : List Nat) : Nat → Nat
  | 0 => lf.getD 0 0
  | k + 1 => if g (lf.getD (k + 1) 0) (bestTo g lf k) then lf.getD (k + 1) 0 else bestTo g lf k
def goesP (js : List Jb) (a b : Nat) : Bool := if (jobAt js a).task = (jobAt js b).task then decide (jA js a < jA js b) else decide ((jobAt js a).task < (jobAt js b).task)
def goesB (l : List Tk) (js : List Jb) (num den pol : Int) (hi : Bool) (a b : Nat) : Bool :=
  if pol = 1 ∧ vkey l js num den hi a ≠ vkey l js num den hi b then decide (vkey l js num den hi a < vkey l js num den hi b) else goesP js a b
def dropTo (l : List Tk) (js : List Jb) (lf : List Nat) (en : List Int) : Nat → List Int
  | 0 => en
  | k + 1 => if (tkAt l (jK js (lf.getD k 0))).crit then dropTo l js lf en k else (dropTo l js lf en k).set (lf.getD k 0) (-2)
def stillTo (en : List Int) (lf : List Nat) : Nat → List Nat
  | 0 => []
  | k + 1 => stillTo en lf k ++ (if en.getD (lf.getD k 0) 0 = -1 then [lf.getD k 0] else [])
def mdOf (s : Mc) : Bool := if s.lf = [] then false else s.hi
def arrOf (l : List Tk) (js : List Jb) (tick : Nat) (s : Mc) : List Int × List Nat := arrTo l js tick (mdOf s) (s.en, s.lf) js.length
def bestOf (l : List Tk) (js : List Jb) (num den pol : Int) (hi : Bool) (lf : List Nat) : Nat := bestTo (goesB l js num den pol hi) lf (lf.length - 1)
/-- How a tick ends for the job that ran: who ended, who was dropped, the mode, the switches. -/
def endOf (l : List Tk) (js : List Jb) (tick : Nat) (hi : Bool) (en : List Int) (lf : List Nat) (sw : List Int) (r : Nat) (d : Int) : List Int × Bool × List Int :=
  if d = jN js r then (en.set r ((tick : Int) + 1), hi, sw)
  else if !hi && (tkAt l (jK js r)).crit && decide (d = (tkAt l (jK js r)).low) then (dropTo l js lf en lf.length, true, sw ++ [(tick : Int) + 1])
  else (en, hi, sw)
def mstep (l : List Tk) (js : List Jb) (num den pol : Int) (tick : Nat) (s : Mc) : Mc :=
  let a := arrOf l js tick s
  if a.2 = [] then ⟨a.1, s.dn, [], s.tr ++ [-1], s.sw, mdOf s⟩
  else
    let r := bestOf l js num den pol (mdOf s) a.2
    let d := s.dn.getD r 0 + 1
    let e := endOf l js tick (mdOf s) a.1 a.2 s.sw r d
    ⟨e.1, s.dn.set r d, stillTo e.1 a.2 a.2.length, s.tr ++ [(jobAt js r).task], e.2.2, e.2.1⟩
def mrun (l : List Tk) (js : List Jb) (num den pol : Int) : Nat → Mc
  | 0 => ⟨List.replicate js.length (-1), List.replicate js.length 0, [], [], [], false⟩
  | t + 1 => mstep l js num den pol t (mrun l js num den pol t)
/-- Who is late. -/
def lateB (l : List Tk) (js : List Jb) (en : List Int) (T : Int) (i : Nat) : Bool :=
  decide (jA js i + (tkAt l (jK js i)).due < en.getD i 0) || (decide (en.getD i 0 = -1) && decide (jA js i + (tkAt l (jK js i)).due ≤ T))
def lateTo (l : List Tk) (js : List Jb) (en : List Int) (T : Int) : Nat → List Nat
  | 0 => []
  | k + 1 => lateTo l js en T k ++ (if lateB l js en T k then [k] else [])

theorem apart_of {l : List Tk} {js : List Jb} (h : jobsV l js = true) : Apart l js := by
  simp only [jobsV, Bool.and_eq_true, List.all_eq_true, List.mem_range, decide_eq_true_eq] at h
  obtain ⟨⟨hS, h60⟩, hall⟩ := h
  have hj : ∀ i, i < js.length → jobOfB l (jobAt js i) = true := fun i hi => by
    have := hall i hi
    simp only [jobOk, Bool.and_eq_true] at this
    exact this.1.1
  have hj' : ∀ i, i < js.length → 0 ≤ jA js i ∧ jK js i < l.length ∧ 1 ≤ jN js i ∧ jN js i ≤ (tkAt l (jK js i)).high ∧ (jobAt js i).task = (jK js i : Int) := by
    intro i hi
    have h1 := hj i hi
    simp only [jobOfB, plc, Bool.and_eq_true, decide_eq_true_eq] at h1
    obtain ⟨⟨⟨⟨⟨⟨_, h2⟩, h3⟩, h4⟩, h5⟩, h6⟩, h7⟩ := h1
    exact ⟨h4, by unfold jK; omega, h6, h7, by unfold jK; omega⟩
  refine ⟨fun i hi => (hj' i hi).1, fun i hi => (hj' i hi).2.1, fun i hi => ⟨(hj' i hi).2.2.1, (hj' i hi).2.2.2.1⟩, ?_⟩
  intro i j hij hjl hk
  have h1 := hall j hjl
  simp only [jobOk, Bool.and_eq_true, List.all_eq_true] at h1
  have h2 := h1.1.2 (jobAt js i) (by
    rw [jobAt_eq js i (by omega)]
    exact List.mem_take_iff_getElem.2 ⟨i, by omega, rfl⟩)
  have e1 := (hj' i (by omega)).2.2.2.2
  have e2 := (hj' j hjl).2.2.2.2
  simp only [farJ, Bool.not_eq_true', Bool.and_eq_false_iff, decide_eq_false_iff_not] at h2
  have e3 : (tkAt l (jobAt js j).task.toNat).every = (tkAt l (jK js i)).every := by
    rw [hk]
    rfl
  rw [e3] at h2
  unfold jA
  rcases h2 with h2 | h2 <;> omega

theorem getD_set (l : List Int) (i j : Nat) (x : Int) : (l.set i x).getD j 0 = if i = j ∧ i < l.length then x else l.getD j 0 := by
  rw [List.getD_eq_getElem?_getD, List.getD_eq_getElem?_getD, List.getElem?_set]
  by_cases h : i = j
  · subst h
    by_cases h2 : i < l.length
    · simp [h2]
    · simp [h2]
  · simp [h]
theorem arr_mem (l : List Tk) (js : List Jb) (tick : Int) (hi : Bool) (s : List Int × List Nat) (k i : Nat) :
    i ∈ (arrTo l js tick hi s k).2 ↔ i ∈ s.2 ∨ (i < k ∧ jA js i = tick ∧ (hi = true → (tkAt l (jK js i)).crit = true)) := by
  induction k with
  | zero => simp [arrTo]
  | succ k ih =>
    simp only [arrTo, arrS]
    split
    · rename_i ht
      split
      · rename_i hc
        simp only [Bool.and_eq_true, Bool.not_eq_true'] at hc
        rw [ih]
        constructor
        · rintro (h | ⟨h1, h2⟩)
          · exact .inl h
          · exact .inr ⟨by omega, h2⟩
        · rintro (h | ⟨h1, h2, h3⟩)
          · exact .inl h
          · refine .inr ⟨?_, h2, h3⟩
            apply Classical.byContradiction
            intro hn
            obtain rfl : i = k := by omega
            have := h3 hc.1
            rw [hc.2] at this
            cases this
      · rename_i hc
        rw [List.mem_append, List.mem_singleton, ih]
        constructor
        · rintro ((h | ⟨h1, h2⟩) | rfl)
          · exact .inl h
          · exact .inr ⟨by omega, h2⟩
          · refine .inr ⟨by omega, ht, fun hh => ?_⟩
            subst hh
            simpa using hc
        · rintro (h | ⟨h1, h2, h3⟩)
          · exact .inl (.inl h)
          · by_cases e : i = k
            · exact .inr e
            · exact .inl (.inr ⟨by omega, h2, h3⟩)
    · rename_i ht
      rw [ih]
      constructor
      · rintro (h | ⟨h1, h2⟩)
        · exact .inl h
        · exact .inr ⟨by omega, h2⟩
      · rintro (h | ⟨h1, h2, h3⟩)
        · exact .inl h
        · refine .inr ⟨?_, h2, h3⟩
          apply Classical.byContradiction
          intro hn
          obtain rfl : i = k := by omega
          exact ht h2
theorem arr_len (l : List Tk) (js : List Jb) (tick : Int) (hi : Bool) (s : List Int × List Nat) (k : Nat) : (arrTo l js tick hi s k).1.length = s.1.length := by
  induction k with
  | zero => rfl
  | succ k ih =>
    simp only [arrTo, arrS]
    split
    · split
      · rw [List.length_set, ih]
      · exact ih
    · exact ih
/-- Who is dropped as it comes. -/
theorem arr_en (l : List Tk) (js : List Jb) (tick : Int) (hi : Bool) (s : List Int × List Nat) (k i : Nat) (hi' : i < s.1.length) :
    (arrTo l js tick hi s k).1.getD i 0 = if i < k ∧ jA js i = tick ∧ (hi && !(tkAt l (jK js i)).crit) = true then -2 else s.1.getD i 0 := by
  induction k with
  | zero => simp [arrTo]
  | succ k ih =>
    simp only [arrTo, arrS]
    split
    · rename_i ht
      split
      · rename_i hc
        rw [getD_set, arr_len, ih]
        by_cases e : k = i
        · subst e
          rw [if_pos ⟨rfl, hi'⟩, if_pos ⟨by omega, ht, hc⟩]
        · rw [if_neg (fun h => e h.1)]
          have : i < k ∧ jA js i = tick ∧ (hi && !(tkAt l (jK js i)).crit) = true ↔ i < k + 1 ∧ jA js i = tick ∧ (hi && !(tkAt l (jK js i)).crit) = true := by
            constructor
            · rintro ⟨a, b⟩
              exact ⟨by omega, b⟩
            · rintro ⟨a, b⟩
              exact ⟨by omega, b⟩
          simp only [this]
      · rename_i hc
        dsimp only
        rw [ih]
        have : i < k ∧ jA js i = tick ∧ (hi && !(tkAt l (jK js i)).crit) = true ↔ i < k + 1 ∧ jA js i = tick ∧ (hi && !(tkAt l (jK js i)).crit) = true := by
          constructor
          · rintro ⟨a, b⟩
            exact ⟨by omega, b⟩
          · rintro ⟨a, b, c⟩
            refine ⟨?_, b, c⟩
            apply Classical.byContradiction
            intro hn
            obtain rfl : i = k := by omega
            exact hc c
        simp only [this]
    · rename_i ht
      rw [ih]
      have : i < k ∧ jA js i = tick ∧ (hi && !(tkAt l (jK js i)).crit) = true ↔ i < k + 1 ∧ jA js i = tick ∧ (hi && !(tkAt l (jK js i)).crit) = true := by
        constructor
        · rintro ⟨a, b⟩
          exact ⟨by omega, b⟩
        · rintro ⟨a, b, c⟩
          refine ⟨?_, b, c⟩
          apply Classical.byContradiction
          intro hn
          obtain rfl : i = k := by omega
          exact ht b
      simp only [this]
theorem drop_len (l : List Tk) (js : List Jb) (lf : List Nat) (en : List Int) (k : Nat) : (dropTo l js lf en k).length = en.length := by
  induction k with
  | zero => rfl
  | succ k ih =>
    simp only [dropTo]
    split
    · exact ih
    · rw [List.length_set, ih]
theorem drop_en (l : List Tk) (js : List Jb) (lf : List Nat) (en : List Int) (k i : Nat) (hi : i < en.length) :
    (dropTo l js lf en k).getD i 0 = if (∃ j, j < k ∧ lf.getD j 0 = i) ∧ (tkAt l (jK js i)).crit = false then -2 else en.getD i 0 := by
  induction k with
  | zero =>
    rw [if_neg (fun h => by obtain ⟨⟨j, hj, _⟩, _⟩ := h; omega)]
    rfl
  | succ k ih =>
    simp only [dropTo]
    by_cases e : lf.getD k 0 = i
    · rw [e]
      cases hc : (tkAt l (jK js i)).crit with
      | true =>
        rw [if_pos rfl, ih, if_neg (fun h => by rw [hc] at h; exact absurd h.2 (by simp)), if_neg (fun h => absurd h.2 (by simp))]
      | false =>
        rw [if_neg (by simp), getD_set, if_pos ⟨rfl, by rw [drop_len]; exact hi⟩, if_pos ⟨⟨k, by omega, e⟩, rfl⟩]
    · have hx : (∃ j, j < k ∧ lf.getD j 0 = i) ↔ (∃ j, j < k + 1 ∧ lf.getD j 0 = i) := by
        constructor
        · rintro ⟨j, hj, h⟩
          exact ⟨j, by omega, h⟩
        · rintro ⟨j, hj, h⟩
          refine ⟨j, ?_, h⟩
          apply Classical.byContradiction
          intro hn
          obtain rfl : j = k := by omega
          exact e h
      simp only [← hx]
      split
      · exact ih
      · rw [getD_set, if_neg (fun h => e h.1)]
        exact ih
theorem still_mem (en : List Int) (lf : List Nat) (k i : Nat) : i ∈ stillTo en lf k ↔ (∃ j, j < k ∧ lf.getD j 0 = i) ∧ en.getD i 0 = -1 := by
  induction k with
  | zero =>
    constructor
    · intro h
      cases h
    · rintro ⟨⟨j, hj, _⟩, _⟩
      omega
  | succ k ih =>
    simp only [stillTo, List.mem_append, ih]
    constructor
    · rintro (⟨⟨j, hj, h1⟩, h2⟩ | h)
      · exact ⟨⟨j, by omega, h1⟩, h2⟩
      · split at h
        · rename_i hc
          rw [List.mem_singleton] at h
          exact ⟨⟨k, by omega, h.symm⟩, by rw [h]; exact hc⟩
        · cases h
    · rintro ⟨⟨j, hj, h1⟩, h2⟩
      by_cases e : j = k
      · subst e
        right
        rw [h1, if_pos h2]
        simp
      · exact .inl ⟨⟨j, by omega, h1⟩, h2⟩
theorem mem_getD (lf : List Nat) (i : Nat) : (∃ j, j < lf.length ∧ lf.getD j 0 = i) ↔ i ∈ lf := by
  rw [List.mem_iff_getElem]
  constructor
  · rintro ⟨j, hj, h⟩
    exact ⟨j, hj, by simpa [hj] using h⟩
  · rintro ⟨j, hj, h⟩
    exact ⟨j, hj, by simpa [hj] using h⟩
theorem best_mem (g : Nat → Nat → Bool) (lf : List Nat) (k : Nat) (hk : k < lf.length) : bestTo g lf k ∈ lf := by
  induction k with
  | zero => exact (mem_getD lf _).1 ⟨0, hk, rfl⟩
  | succ k ih =>
    simp only [bestTo]
    split
    · exact (mem_getD lf _).1 ⟨k + 1, hk, rfl⟩
    · exact ih (by omega)
theorem best_least (g : Nat → Nat → Bool) (key : Nat → Int) (h1 : ∀ a b, g a b = true → key a ≤ key b) (h2 : ∀ a b, g a b = false → key b ≤ key a) (lf : List Nat) (k : Nat) :
    ∀ j, j ≤ k → key (bestTo g lf k) ≤ key (lf.getD j 0) := by
  induction k with
  | zero =>
    intro j hj
    obtain rfl : j = 0 := by omega
    exact Int.le_refl _
  | succ k ih =>
    intro j hj
    simp only [bestTo]
    split
    · rename_i hg
      by_cases e : j = k + 1
      · rw [e]
        exact Int.le_refl _
      · exact Int.le_trans (h1 _ _ hg) (ih j (by omega))
    · rename_i hg
      by_cases e : j = k + 1
      · rw [e]
        exact h2 _ _ (by simpa using hg)
      · exact ih j (by omega)
structure MInv (l : List Tk) (js : List Jb) (t : Nat) (s : Mc) : Prop where
  enL : s.en.length = js.length
  dnL : s.dn.length = js.length
  lfI : ∀ i, i ∈ s.lf → i < js.length ∧ jA js i < (t : Int) ∧ s.en.getD i 0 = -1 ∧ s.dn.getD i 0 < jN js i ∧ (s.hi = false → (tkAt l (jK js i)).crit = true → s.dn.getD i 0 < (tkAt l (jK js i)).low) ∧ (s.hi = true → (tkAt l (jK js i)).crit = true)
  fut : ∀ i, i < js.length → (t : Int) ≤ jA js i → s.en.getD i 0 = -1 ∧ s.dn.getD i 0 = 0
  dnLe : ∀ i, i < js.length → 0 ≤ s.dn.getD i 0 ∧ s.dn.getD i 0 ≤ jN js i
  gone : ∀ i, i < js.length → jA js i < (t : Int) → i ∉ s.lf → s.en.getD i 0 ≠ -1
theorem mdOf_lf {s : Mc} {i : Nat} (h : i ∈ s.lf) : mdOf s = s.hi := by
  unfold mdOf
  rw [if_neg (fun e => by rw [e] at h; cases h)]
section
variable {l : List Tk} {js : List Jb} {num den pol : Int}
theorem arrOf_mem {t : Nat} {s : Mc} (i : Nat) : i ∈ (arrOf l js t s).2 ↔ i ∈ s.lf ∨ (i < js.length ∧ jA js i = (t : Int) ∧ (mdOf s = true → (tkAt l (jK js i)).crit = true)) := arr_mem l js t (mdOf s) (s.en, s.lf) js.length i
/-- What is known of the jobs that are there at a tick. -/
theorem MInv.come {t : Nat} {s : Mc} (I : MInv l js t s) (A : Apart l js) (hv : ∀ k, k < l.length → vld (tkAt l k) = true) {i : Nat} (h : i ∈ (arrOf l js t s).2) :
    i < js.length ∧ jA js i ≤ (t : Int) ∧ (arrOf l js t s).1.getD i 0 = -1 ∧ s.dn.getD i 0 < jN js i ∧ (mdOf s = false → (tkAt l (jK js i)).crit = true → s.dn.getD i 0 < (tkAt l (jK js i)).low) ∧ (mdOf s = true → (tkAt l (jK js i)).crit = true) := by
  have hen := fun hi => arr_en l js t (mdOf s) (s.en, s.lf) js.length i hi
  rcases (arrOf_mem i).1 h with h | ⟨h1, h2, h3⟩
  · obtain ⟨a1, a2, a3, a4, a5, a6⟩ := I.lfI i h
    rw [mdOf_lf h]
    refine ⟨a1, by omega, ?_, a4, a5, a6⟩
    unfold arrOf
    rw [hen (by show i < s.en.length; rw [I.enL]; exact a1), if_neg (fun e => by omega)]
    exact a3
  · obtain ⟨b1, b2⟩ := I.fut i h1 (by omega)
    have hn := (A.need i h1).1
    have hb := vld_bd (hv _ (A.tk i h1))
    refine ⟨h1, by omega, ?_, by omega, fun _ _ => by omega, h3⟩
    unfold arrOf
    rw [hen (by show i < s.en.length; rw [I.enL]; exact h1), if_neg]
    · exact b1
    · rintro ⟨_, _, e⟩
      simp only [Bool.and_eq_true, Bool.not_eq_true'] at e
      have := h3 e.1
      rw [e.2] at this
      cases this
theorem MInv.goneA {t : Nat} {s : Mc} (I : MInv l js t s) {i : Nat} (hi : i < js.length) (ha : jA js i ≤ (t : Int)) (h : i ∉ (arrOf l js t s).2) : (arrOf l js t s).1.getD i 0 ≠ -1 := by
  have hen := arr_en l js t (mdOf s) (s.en, s.lf) js.length i (by show i < s.en.length; rw [I.enL]; exact hi)
  rw [arrOf_mem] at h
  unfold arrOf
  rw [hen]
  by_cases e : jA js i = (t : Int)
  · have hc : (mdOf s && !(tkAt l (jK js i)).crit) = true := by
      apply Classical.byContradiction
      intro hn
      apply h
      refine .inr ⟨hi, e, fun hm => ?_⟩
      rw [hm] at hn
      simpa using hn
    rw [if_pos ⟨hi, e, hc⟩]
    decide
  · rw [if_neg (fun h => e h.2.1)]
    exact I.gone i hi (by omega) (fun h' => h (.inl h'))
theorem arrOf_len {t : Nat} {s : Mc} (I : MInv l js t s) : (arrOf l js t s).1.length = js.length := (arr_len ..).trans I.enL
theorem end_len (t : Nat) (hi : Bool) (en : List Int) (lf : List Nat) (sw : List Int) (r : Nat) (d : Int) : (endOf l js t hi en lf sw r d).1.length = en.length := by
  unfold endOf
  split
  · exact List.length_set
  · split
    · exact drop_len ..
    · rfl
theorem end_en (t : Nat) (hi : Bool) (en : List Int) (lf : List Nat) (sw : List Int) (r : Nat) (d : Int) {i : Nat} (hi' : i < en.length) :
    (endOf l js t hi en lf sw r d).1.getD i 0 = en.getD i 0 ∨ (i = r ∧ d = jN js r ∧ (endOf l js t hi en lf sw r d).1.getD i 0 = (t : Int) + 1) ∨ (i ∈ lf ∧ (tkAt l (jK js i)).crit = false ∧ (endOf l js t hi en lf sw r d).1.getD i 0 = -2) := by
  unfold endOf
  split
  · rename_i hd
    dsimp only
    rw [getD_set]
    split
    · rename_i h
      exact .inr (.inl ⟨h.1.symm, hd, rfl⟩)
    · exact .inl rfl
  · split
    · dsimp only
      rw [drop_en _ _ _ _ _ _ hi']
      split
      · rename_i h
        exact .inr (.inr ⟨(mem_getD lf i).1 h.1, h.2, rfl⟩)
      · exact .inl rfl
    · exact .inl rfl
theorem MInv.step (A : Apart l js) (hv : ∀ k, k < l.length → vld (tkAt l k) = true) {t : Nat} {s : Mc} (I : MInv l js t s) : MInv l js (t + 1) (mstep l js num den pol t s) := by
  have hC := fun {i} (h : i ∈ (arrOf l js t s).2) => I.come A hv h
  have hG := fun {i} (h1 : i < js.length) (h2 : jA js i ≤ (t : Int)) (h3 : i ∉ (arrOf l js t s).2) => I.goneA h1 h2 h3
  have hL := arrOf_len I
  have hfutA : ∀ i, i < js.length → ((t : Int) + 1) ≤ jA js i → (arrOf l js t s).1.getD i 0 = -1 := by
    intro i h1 h2
    unfold arrOf
    rw [arr_en l js t (mdOf s) (s.en, s.lf) js.length i (by show i < s.en.length; rw [I.enL]; exact h1), if_neg (fun e => by omega)]
    exact (I.fut i h1 (by omega)).1
  unfold mstep
  by_cases he : (arrOf l js t s).2 = []
  · simp only [he, if_true]
    refine ⟨hL, I.dnL, fun i h => (by cases h), fun i h1 h2 => ⟨hfutA i h1 (by omega), (I.fut i h1 (by omega)).2⟩, I.dnLe, fun i h1 h2 _ => hG h1 (by omega) (by rw [he]; simp)⟩
  · simp only [he, if_false]
    have hlen : 0 < (arrOf l js t s).2.length := by
      apply Nat.pos_of_ne_zero
      intro e
      exact he (List.eq_nil_of_length_eq_zero e)
    have hr := best_mem (goesB l js num den pol (mdOf s)) (arrOf l js t s).2 ((arrOf l js t s).2.length - 1) (by omega)
    change bestOf l js num den pol (mdOf s) (arrOf l js t s).2 ∈ _ at hr
    generalize bestOf l js num den pol (mdOf s) (arrOf l js t s).2 = r at hr
    obtain ⟨r1, r2, r3, r4, r5, r6⟩ := hC hr
    have hdn : ∀ i, (s.dn.set r (s.dn.getD r 0 + 1)).getD i 0 = if r = i then s.dn.getD r 0 + 1 else s.dn.getD i 0 := by
      intro i
      rw [getD_set]
      by_cases e : r = i
      · subst e
        rw [if_pos rfl, if_pos ⟨rfl, by rw [I.dnL]; exact r1⟩]
      · rw [if_neg e, if_neg (fun h => e h.1)]
    have hen := fun {i} (hi' : i < js.length) => end_en (l := l) (js := js) t (mdOf s) (arrOf l js t s).1 (arrOf l js t s).2 s.sw r (s.dn.getD r 0 + 1) (i := i) (by rw [hL]; exact hi')
    have hst : ∀ i, i ∈ stillTo (endOf l js t (mdOf s) (arrOf l js t s).1 (arrOf l js t s).2 s.sw r (s.dn.getD r 0 + 1)).1 (arrOf l js t s).2 (arrOf l js t s).2.length ↔ i ∈ (arrOf l js t s).2 ∧ (endOf l js t (mdOf s) (arrOf l js t s).1 (arrOf l js t s).2 s.sw r (s.dn.getD r 0 + 1)).1.getD i 0 = -1 := by
      intro i
      rw [still_mem, mem_getD]
    refine ⟨by rw [end_len]; exact hL, by rw [List.length_set]; exact I.dnL, ?_, ?_, ?_, ?_⟩
    · intro i h
      rw [hst] at h
      obtain ⟨h1, h2⟩ := h
      obtain ⟨a1, a2, a3, a4, a5, a6⟩ := hC h1
      rw [hdn]
      refine ⟨a1, by omega, h2, ?_⟩
      unfold endOf at h2 ⊢
      by_cases hd : s.dn.getD r 0 + 1 = jN js r
      · rw [if_pos hd] at h2 ⊢
        dsimp only at h2 ⊢
        have hne : ¬ r = i := by
          intro e
          subst e
          rw [getD_set, if_pos ⟨rfl, by rw [hL]; exact a1⟩] at h2
          omega
        rw [if_neg hne]
        exact ⟨a4, a5, a6⟩
      · rw [if_neg hd] at h2 ⊢
        split at h2
        · rename_i hsw
          rw [if_pos hsw]
          dsimp only at h2 ⊢
          rw [drop_en _ _ _ _ _ _ (by rw [hL]; exact a1)] at h2
          have hcr : (tkAt l (jK js i)).crit = true := by
            cases hcr : (tkAt l (jK js i)).crit with
            | true => rfl
            | false =>
              rw [if_pos ⟨(mem_getD _ i).2 h1, hcr⟩] at h2
              cases h2
          refine ⟨?_, fun h => (by cases h), fun _ => hcr⟩
          split
          · rename_i e
            subst e
            omega
          · exact a4
        · rename_i hsw
          rw [if_neg hsw]
          dsimp only at h2 ⊢
          by_cases e : r = i
          · subst e
            rw [if_pos rfl]
            refine ⟨by omega, fun hm hc => ?_, a6⟩
            have h7 := a5 hm hc
            apply Classical.byContradiction
            intro hn
            apply hsw
            have hc' : (tkAt l (jK js r)).crit = true := hc
            simp only [hm, hc', Bool.not_false, Bool.true_and, decide_eq_true_eq]
            omega
          · rw [if_neg e]
            exact ⟨a4, a5, a6⟩
    · intro i h1 h2
      have hni : i ∉ (arrOf l js t s).2 := fun h => by have := (hC h).2.1; omega
      refine ⟨?_, ?_⟩
      · rcases hen h1 with h | ⟨h, _⟩ | ⟨h, _⟩
        · rw [h]
          exact hfutA i h1 (by omega)
        · exact absurd (h ▸ hr) hni
        · exact absurd h hni
      · rw [hdn, if_neg (fun e : r = i => hni (e ▸ hr))]
        exact (I.fut i h1 (by omega)).2
    · intro i h1
      rw [hdn]
      have := I.dnLe i h1
      split
      · rename_i e
        subst e
        omega
      · exact this
    · intro i h1 h2 h3
      by_cases hia : i ∈ (arrOf l js t s).2
      · intro h4
        exact h3 ((hst i).2 ⟨hia, h4⟩)
      · rcases hen h1 with h | ⟨h, _⟩ | ⟨h, _⟩
        · rw [h]
          exact hG h1 (by omega) hia
        · exact absurd (h ▸ hr) hia
        · exact absurd h hia
theorem minv (A : Apart l js) (hv : ∀ k, k < l.length → vld (tkAt l k) = true) (t : Nat) : MInv l js t (mrun l js num den pol t) := by
  induction t with
  | zero =>
    refine ⟨by simp [mrun], by simp [mrun], fun i h => (by cases h), fun i h1 _ => by simp [mrun, h1], fun i h1 => ?_, fun i h1 h2 => ?_⟩
    · have := (A.need i h1).1
      simp [mrun, h1]
      omega
    · have := A.at0 i h1
      omega
  | succ t ih => exact ih.step A hv
def runOf (l : List Tk) (js : List Jb) (num den pol : Int) (t : Nat) : Option Nat :=
  if (arrOf l js t (mrun l js num den pol t)).2 = [] then none else some (bestOf l js num den pol (mdOf (mrun l js num den pol t)) (arrOf l js t (mrun l js num den pol t)).2)
/-- The machine is a run in that sense. -/
theorem mach_sch (A : Apart l js) (hv : ∀ k, k < l.length → vld (tkAt l k) = true) (key : Bool → Nat → Int) (h1 : ∀ m a b, goesB l js num den pol m a b = true → key m a ≤ key m b) (h2 : ∀ m a b, goesB l js num den pol m a b = false → key m b ≤ key m a) :
    Sch l js key (fun t i => i ∈ (mrun l js num den pol t).lf) (fun t i => i ∈ (arrOf l js t (mrun l js num den pol t)).2) (fun t => (mrun l js num den pol t).hi) (fun t => mdOf (mrun l js num den pol t)) (runOf l js num den pol) (fun t i => (mrun l js num den pol t).dn.getD i 0) := by
  have I := fun t => minv (num := num) (den := den) (pol := pol) A hv t
  have hne : ∀ {t i}, i ∈ (arrOf l js t (mrun l js num den pol t)).2 → (arrOf l js t (mrun l js num den pol t)).2 ≠ [] := fun h e => by rw [e] at h; cases h
  have hpos : ∀ {t}, (arrOf l js t (mrun l js num den pol t)).2 ≠ [] → (arrOf l js t (mrun l js num den pol t)).2.length - 1 < (arrOf l js t (mrun l js num den pol t)).2.length := fun {t} h => by
    have : 0 < (arrOf l js t (mrun l js num den pol t)).2.length := by
      apply Nat.pos_of_ne_zero
      intro e
      exact h (List.eq_nil_of_length_eq_zero e)
    omega
  refine ⟨fun i h => (by cases h), fun t i => arrOf_mem i, fun t i h => mdOf_lf h, ?_, ?_, fun t i h => ⟨((I t).lfI i h).1, ((I t).lfI i h).2.1⟩, ?_, ?_, ?_, fun t i a b => ((I t).fut i a b).2, fun t i h => ((I t).lfI i h).2.2.2.1, fun t i h => ((I t).dnLe i h).2, fun t i a h => ((I t).lfI i h).2.2.2.2.1 a, fun t i a h => ((I t).lfI i h).2.2.2.2.2 a, ?_⟩
  · intro t h
    have e : (mrun l js num den pol t).lf = [] := List.eq_nil_iff_forall_not_mem.2 h
    simp [mdOf, e]
  · intro t i h
    change i ∈ (mstep l js num den pol t (mrun l js num den pol t)).lf at h
    unfold mstep at h
    by_cases he : (arrOf l js t (mrun l js num den pol t)).2 = []
    · simp only [he, if_true] at h
      cases h
    · simp only [he, if_false] at h
      rw [still_mem, mem_getD] at h
      exact h.1
  · intro t i h
    have he := hne h
    refine ⟨_, by unfold runOf; rw [if_neg he], ?_⟩
    obtain ⟨j, hj, e⟩ := (mem_getD _ i).2 h
    have := best_least (goesB l js num den pol (mdOf (mrun l js num den pol t))) (key (mdOf (mrun l js num den pol t))) (h1 _) (h2 _) (arrOf l js t (mrun l js num den pol t)).2 ((arrOf l js t (mrun l js num den pol t)).2.length - 1) j (by omega)
    rw [e] at this
    exact this
  · intro t r h
    unfold runOf at h
    by_cases he : (arrOf l js t (mrun l js num den pol t)).2 = []
    · rw [if_pos he] at h
      cases h
    · rw [if_neg he] at h
      cases h
      exact best_mem _ _ _ (hpos he)
  · intro t i
    change (mstep l js num den pol t (mrun l js num den pol t)).dn.getD i 0 = _
    unfold mstep runOf
    by_cases he : (arrOf l js t (mrun l js num den pol t)).2 = []
    · simp only [he, if_true]
      rw [if_neg (by simp)]
      omega
    · simp only [he, if_false]
      have hr := best_mem (goesB l js num den pol (mdOf (mrun l js num den pol t))) _ _ (hpos he)
      change bestOf l js num den pol (mdOf (mrun l js num den pol t)) (arrOf l js t (mrun l js num den pol t)).2 ∈ _ at hr
      have hlt := ((I t).come A hv hr).1
      generalize bestOf l js num den pol (mdOf (mrun l js num den pol t)) (arrOf l js t (mrun l js num den pol t)).2 = r at hr hlt
      rw [getD_set]
      by_cases e : r = i
      · subst e
        rw [if_pos ⟨rfl, by rw [(I t).dnL]; exact hlt⟩, if_pos rfl]
      · rw [if_neg (fun h => e h.1), if_neg (fun h => e (Option.some.inj h))]
        omega
  · intro t h
    change (mstep l js num den pol t (mrun l js num den pol t)).hi = true
    unfold mstep
    by_cases he : (arrOf l js t (mrun l js num den pol t)).2 = []
    · simp only [he, if_true]
      exact h
    · simp only [he, if_false]
      unfold endOf
      split
      · exact h
      · split
        · rfl
        · exact h
/-- When jobs end. -/
theorem mach_fin (A : Apart l js) (hv : ∀ k, k < l.length → vld (tkAt l k) = true) (t : Nat) : ∀ i, i < js.length → (mrun l js num den pol t).en.getD i 0 = -1 ∨ (mrun l js num den pol t).en.getD i 0 = -2 ∨ ∃ u : Nat, (mrun l js num den pol t).en.getD i 0 = (u : Int) + 1 ∧ i ∈ (arrOf l js u (mrun l js num den pol u)).2 := by
  induction t with
  | zero =>
    intro i hi
    left
    simp [mrun, hi]
  | succ t ih =>
    intro i hi
    have I := minv (num := num) (den := den) (pol := pol) A hv t
    have hA : (arrOf l js t (mrun l js num den pol t)).1.getD i 0 = -2 ∨ (arrOf l js t (mrun l js num den pol t)).1.getD i 0 = (mrun l js num den pol t).en.getD i 0 := by
      unfold arrOf
      rw [arr_en l js t _ (_, _) js.length i (by show i < (mrun l js num den pol t).en.length; rw [I.enL]; exact hi)]
      split
      · exact .inl rfl
      · exact .inr rfl
    have hA' : (arrOf l js t (mrun l js num den pol t)).1.getD i 0 = -1 ∨ (arrOf l js t (mrun l js num den pol t)).1.getD i 0 = -2 ∨ ∃ u : Nat, (arrOf l js t (mrun l js num den pol t)).1.getD i 0 = (u : Int) + 1 ∧ i ∈ (arrOf l js u (mrun l js num den pol u)).2 := by
      rcases hA with h | h
      · exact .inr (.inl h)
      · rw [h]
        exact ih i hi
    change (mstep l js num den pol t (mrun l js num den pol t)).en.getD i 0 = -1 ∨ (mstep l js num den pol t (mrun l js num den pol t)).en.getD i 0 = -2 ∨ ∃ u : Nat, (mstep l js num den pol t (mrun l js num den pol t)).en.getD i 0 = (u : Int) + 1 ∧ _
    unfold mstep
    by_cases he : (arrOf l js t (mrun l js num den pol t)).2 = []
    · simp only [he, if_true]
      exact hA'
    · simp only [he, if_false]
      have hpos : (arrOf l js t (mrun l js num den pol t)).2.length - 1 < (arrOf l js t (mrun l js num den pol t)).2.length := by
        have : 0 < (arrOf l js t (mrun l js num den pol t)).2.length := by
          apply Nat.pos_of_ne_zero
          intro e
          exact he (List.eq_nil_of_length_eq_zero e)
        omega
      have hr := best_mem (goesB l js num den pol (mdOf (mrun l js num den pol t))) _ _ hpos
      change bestOf l js num den pol (mdOf (mrun l js num den pol t)) (arrOf l js t (mrun l js num den pol t)).2 ∈ _ at hr
      generalize bestOf l js num den pol (mdOf (mrun l js num den pol t)) (arrOf l js t (mrun l js num den pol t)).2 = r at hr
      rcases end_en (l := l) (js := js) t (mdOf (mrun l js num den pol t)) (arrOf l js t (mrun l js num den pol t)).1 (arrOf l js t (mrun l js num den pol t)).2 (mrun l js num den pol t).sw r ((mrun l js num den pol t).dn.getD r 0 + 1) (i := i) (by rw [arrOf_len I]; exact hi) with h | ⟨h, _, h2⟩ | ⟨_, _, h⟩
      · rw [h]
        exact hA'
      · right
        right
        exact ⟨t, h2, h ▸ hr⟩
      · exact .inr (.inl h)
theorem late_none (A : Apart l js) (hv : ∀ k, k < l.length → vld (tkAt l k) = true) (safe : ∀ t i, i ∈ (mrun l js num den pol t).lf → (t : Int) < jA js i + (tkAt l (jK js i)).due) (T : Nat) : lateTo l js (mrun l js num den pol T).en T js.length = [] := by
  have key : ∀ i, i < js.length → lateB l js (mrun l js num den pol T).en T i = false := by
    intro i hi
    have I := minv (num := num) (den := den) (pol := pol) A hv T
    have hb := vld_bd (hv _ (A.tk i hi))
    have hd1 : 1 ≤ (tkAt l (jK js i)).due := by show 1 ≤ (tkAt l (jK js i)).due; omega
    rw [lateB, Bool.or_eq_false_iff, Bool.and_eq_false_iff, decide_eq_false_iff_not, decide_eq_false_iff_not, decide_eq_false_iff_not]
    have ha0 := A.at0 i hi
    refine ⟨?_, ?_⟩
    · rcases mach_fin (num := num) (den := den) (pol := pol) A hv T i hi with h | h | ⟨u, h, hu⟩
      · rw [h]
        omega
      · rw [h]
        omega
      · rw [h]
        rcases (arrOf_mem i).1 hu with h1 | ⟨_, h1, _⟩
        · have := safe u i h1
          omega
        · omega
    · by_cases he : (mrun l js num den pol T).en.getD i 0 = -1
      · right
        intro hT
        have hin : i ∈ (mrun l js num den pol T).lf := by
          apply Classical.byContradiction
          intro hn
          exact I.gone i hi (by omega) hn he
        have := safe T i hin
        omega
      · exact .inl he
  have : ∀ k, k ≤ js.length → lateTo l js (mrun l js num den pol T).en T k = [] := by
    intro k
    induction k with
    | zero => exact fun _ => rfl
    | succ k ih =>
      intro hk
      simp only [lateTo]
      rw [ih (by omega), key k (by omega)]
      simp
  exact this _ (Nat.le_refl _)
end
theorem goes_place (l : List Tk) (js : List Jb) (num den : Int) (m : Bool) (a b : Nat) : (goesB l js num den 0 m a b = true → (jK js a : Int) ≤ (jK js b : Int)) ∧ (goesB l js num den 0 m a b = false → (jK js b : Int) ≤ (jK js a : Int)) := by
  unfold goesB goesP jK
  rw [if_neg (by simp)]
  split
  · rename_i h
    rw [h]
    exact ⟨fun _ => Int.le_refl _, fun _ => Int.le_refl _⟩
  · simp only [decide_eq_true_eq, decide_eq_false_iff_not]
    constructor <;> intro h <;> omega
theorem goes_due (l : List Tk) (js : List Jb) (num den : Int) (m : Bool) (a b : Nat) : (goesB l js num den 1 m a b = true → vkey l js num den m a ≤ vkey l js num den m b) ∧ (goesB l js num den 1 m a b = false → vkey l js num den m b ≤ vkey l js num den m a) := by
  unfold goesB
  by_cases h : vkey l js num den m a = vkey l js num den m b
  · rw [h]
    exact ⟨fun _ => Int.le_refl _, fun _ => Int.le_refl _⟩
  · rw [if_pos ⟨rfl, h⟩]
    simp only [decide_eq_true_eq, decide_eq_false_iff_not]
    constructor <;> intro h <;> omega
theorem fac_eq {x y : Rat} (hx : 0 ≤ x) (hy : 0 ≤ y) (hxy : x + y ≤ 1) (hne : x.num ≠ (x.den : Int)) : mkRat (y.num * x.den) ((y.den : Int) * (x.den - x.num)).toNat * (1 - x) = y := by
  obtain ⟨f, hf⟩ : ∃ f, mkRat (y.num * x.den) ((y.den : Int) * (x.den - x.num)).toNat = f := ⟨_, rfl⟩
  rw [hf]
  have px := x.den_pos
  have py := y.den_pos
  have a0 := rat_num_le hx
  have b0 := rat_num_le hy
  have a1 : x.num ≤ (x.den : Int) := le_one_num (by grind)
  have d0 : 0 < (y.den : Int) * ((x.den : Int) - x.num) := Int.mul_pos (by omega) (by omega)
  obtain ⟨D, hD⟩ : ∃ D : Nat, ((y.den : Int) * (x.den - x.num)).toNat = D := ⟨_, rfl⟩
  have hDI : (D : Int) = (y.den : Int) * ((x.den : Int) - x.num) := by omega
  have hD0 : D ≠ 0 := by omega
  rw [hD] at hf
  have hDR : ((D : Nat) : Rat) = (y.den : Rat) * ((x.den : Rat) - (x.num : Rat)) := by
    have h1 : (((D : Nat) : Int) : Rat) = (((y.den : Int) * ((x.den : Int) - x.num) : Int) : Rat) := by rw [hDI]
    simpa [Rat.intCast_mul, Rat.intCast_sub, Rat.intCast_natCast] using h1
  have hDR0 : ((D : Nat) : Rat) ≠ 0 := by
    intro e
    exact hD0 (by exact_mod_cast e)
  have ex := rat_mul_den x
  have ey := rat_mul_den y
  have ef : f * (D : Rat) = (y.num : Rat) * (x.den : Rat) := by
    have h1 : f = ((y.num * (x.den : Int) : Int) : Rat) / ((D : Nat) : Rat) := by rw [← hf, Rat.mkRat_eq_div]
    have h2 : ((y.num * (x.den : Int) : Int) : Rat) = (y.num : Rat) * (x.den : Rat) := by rw [Rat.intCast_mul, Rat.intCast_natCast]
    rw [h2] at h1
    grind
  have xd0 : ((x.den : Nat) : Rat) ≠ 0 := by
    intro e
    exact x.den_nz (by exact_mod_cast e)
  have yd0 : ((y.den : Nat) : Rat) ≠ 0 := by
    intro e
    exact y.den_nz (by exact_mod_cast e)
  have h1 : (f * (1 - x) - y) * ((y.den : Rat) * (x.den : Rat)) = 0 := by
    rw [hDR, ← ex, ← ey] at ef
    grind
  rcases Rat.mul_eq_zero.1 h1 with h | h
  · grind
  · rcases Rat.mul_eq_zero.1 h with h | h
    · exact absurd h yd0
    · exact absurd h xd0
/-- The factor's numbers. -/
def facQ (l : List Tk) : Rat := if hldPlain l then 1 else facR l
theorem fac_of {l : List Tk} (h : hldVirt l = true) : Fac l (facQ l).num ((facQ l).den : Int) (facQ l) := by
  have hi := hldVirt_impl h
  have hS := impl_vld hi
  obtain ⟨hl5, hall⟩ := setVld_all hS
  have ba := shares_bd false false l hall
  have bb := shares_bd true false l hall
  have bh := shares_bd true true l hall
  have hua : shares false false l = ua l := rfl
  have hub : shares true false l = ub l := rfl
  have huh : shares true true l = uh l := rfl
  rw [hua] at ba
  rw [hub] at bb
  rw [huh] at bh
  have hlh : ub l ≤ uh l := by
    rw [← hub, ← huh]
    clear hua hub huh ba bb bh hi h hS hl5
    induction l with
    | nil => simp [shares]
    | cons t l ih =>
      have h1 := ih (fun s hs => hall s (by simp [hs]))
      have hb := vld_bd (hall t (by simp))
      have h2 : shr false t ≤ shr true t := by
        have := shr_mono (high := false) (s := t) (t := { t with low := t.high }) (by simp [needOf]; omega) rfl (by show 1 ≤ t.every; omega)
        simpa [shr] using this
      simp only [shares]
      split <;> grind
  have hhl : uh l ≤ 20 * ub l := by
    rw [← hub, ← huh]
    clear hua hub huh ba bb bh hi h hS hl5 hlh
    induction l with
    | nil => simp [shares]
    | cons t l ih =>
      have h1 := ih (fun s hs => hall s (by simp [hs]))
      have hb := vld_bd (hall t (by simp))
      have h2 : shr true t ≤ 20 * shr false t := by
        have h3 := rat_task (w := t.high) (c := 1) (Lo := t.high) (T := t.every) (f := 1) (E := t.every) (by omega) (by omega) (by omega) (by omega) (by omega) (t.every : Rat) (by
          have : ((1 : Int) : Rat) = 1 := rfl
          grind)
        have hT0 : ((t.every.toNat : Nat) : Rat) ≠ 0 := by
          intro e
          have : t.every.toNat = 0 := by exact_mod_cast e
          omega
        have hTp : (0 : Rat) < ((t.every.toNat : Nat) : Rat) := by exact_mod_cast (show 0 < t.every.toNat by omega)
        have e1 : shr true t * ((t.every.toNat : Nat) : Rat) = (t.high : Rat) := by
          simp only [shr, if_true]
          rw [Rat.mkRat_eq_div]
          grind
        have e2 : shr false t * ((t.every.toNat : Nat) : Rat) = (t.low : Rat) := by
          simp only [shr, Bool.false_eq_true, if_false]
          rw [Rat.mkRat_eq_div]
          grind
        have h4 : (t.high : Rat) ≤ ((20 * t.low : Int) : Rat) := rat_cast_le (by omega)
        rw [Rat.intCast_mul] at h4
        have e20 : ((20 : Int) : Rat) = 20 := rfl
        apply Classical.byContradiction
        intro hn
        have := Rat.mul_pos (show 0 < shr true t - 20 * shr false t by grind) hTp
        grind
      simp only [shares]
      split <;> grind
  have mk : ∀ x : Rat, 0 < x → x ≤ 1 → ua l * x + ub l ≤ x → x * ua l + uh l ≤ 1 → Fac l x.num (x.den : Int) x := by
    intro x x0 x1 h1 h2
    have hn0 := rat_num_le (show 0 ≤ x by grind)
    have hn1 : x.num ≠ 0 := by
      intro e
      have hd := rat_mul_den x
      rw [e] at hd
      rcases Rat.mul_eq_zero.1 hd with h | h
      · grind
      · exact x.den_nz (by exact_mod_cast h)
    refine ⟨by omega, le_one_num x1, ?_, h1, h2⟩
    rw [Rat.intCast_natCast]
    exact rat_mul_den x
  unfold facQ
  by_cases hp : hldPlain l = true
  · rw [if_pos hp]
    have h1 := ((hldPlain_iff l).1 hp).2
    exact mk 1 (by decide) (by decide) (by grind) (by grind)
  · rw [if_neg hp]
    simp only [hldVirt, hp, Bool.and_eq_true, Bool.false_or, Bool.not_eq_true'] at h
    obtain ⟨⟨_, hno⟩, hfit⟩ := h
    rw [fitsR_iff] at hfit
    simp only [facNo, Bool.or_eq_false_iff, Bool.not_eq_false', fitsR_iff, beq_eq_false_iff_ne] at hno
    obtain ⟨hab, hne⟩ := hno
    have hnp : ¬ ua l + uh l ≤ 1 := fun hh => hp ((hldPlain_iff l).2 ⟨hi, hh⟩)
    have hb0 : 0 < ub l := by
      apply Classical.byContradiction
      intro hn
      apply hnp
      grind
    have ha1 : ua l ≠ 1 := by
      intro e
      apply hne
      rw [e]
      rfl
    have hfe := fac_eq ba.1 bb.1 hab hne
    change facR l * (1 - ua l) = ub l at hfe
    have hx0 : 0 < facR l := by
      apply Classical.byContradiction
      intro hn
      have := Rat.mul_nonneg (show 0 ≤ - facR l by grind) (show 0 ≤ 1 - ua l by grind)
      grind
    have hx1 : facR l ≤ 1 := by
      apply Classical.byContradiction
      intro hn
      have := Rat.mul_pos (show 0 < facR l - 1 by grind) (show 0 < 1 - ua l by grind)
      grind
    exact mk _ hx0 hx1 (by grind) hfit
/-- Tasks that hold by a policy: none of their jobs is late. -/
theorem hold_safe {l : List Tk} {js : List Jb} {p num den : Int} (h : hldBy l p = true) (hj : jobsV l js = true) (hf : p = 1 → num = (facQ l).num ∧ den = ((facQ l).den : Int)) (T : Nat) : lateTo l js (mrun l js num den p T).en T js.length = [] := by
  have A := apart_of hj
  have hS := hldBy_vld h
  have hv : ∀ k, k < l.length → vld (tkAt l k) = true := fun k hk => tkAt_vld hS hk
  refine late_none A hv ?_ T
  unfold hldBy at h
  by_cases h0 : p = 0
  · subst h0
    rw [if_pos rfl] at h
    exact place_safe (mach_sch A hv (fun _ i => (jK js i : Int)) (fun m a b => (goes_place l js num den m a b).1) (fun m a b => (goes_place l js num den m a b).2)) A h
  · rw [if_neg h0] at h
    by_cases h1 : p = 1
    · subst h1
      rw [if_pos rfl] at h
      obtain ⟨rfl, rfl⟩ := hf rfl
      have hi := hldVirt_impl h
      refine due_safe (mach_sch A hv (vkey l js _ _) (fun m a b => (goes_due l js _ _ m a b).1) (fun m a b => (goes_due l js _ _ m a b).2)) A hS (fun k hk => ?_) (fac_of h)
      have := ((impl_iff l).1 hi).2 (tkAt l k) (by rw [tkAt_eq l k hk]; exact List.getElem_mem hk)
      exact this
    · rw [if_neg h1] at h
      cases h
theorem arr_le (l : List Tk) (js : List Jb) (tick : Int) (hi : Bool) (s : List Int × List Nat) (k : Nat) : (arrTo l js tick hi s k).2.length ≤ s.2.length + k := by
  induction k with
  | zero => exact Nat.le_refl _
  | succ k ih =>
    simp only [arrTo, arrS]
    split
    · split
      · dsimp only
        omega
      · simp only [List.length_append, List.length_singleton]
        omega
    · omega
theorem still_le (en : List Int) (lf : List Nat) (k : Nat) : (stillTo en lf k).length ≤ k := by
  induction k with
  | zero => exact Nat.le_refl _
  | succ k ih =>
    simp only [stillTo, List.length_append]
    split <;> simp <;> omega
theorem mrun_len {l : List Tk} {js : List Jb} {num den pol : Int} (h : js.length ≤ 60) (k : Nat) : (mrun l js num den pol k).tr.length = k ∧ (mrun l js num den pol k).sw.length ≤ k ∧ (mrun l js num den pol k).lf.length ≤ 60 * k := by
  induction k with
  | zero => exact ⟨rfl, Nat.le_refl _, Nat.le_refl _⟩
  | succ k ih =>
    obtain ⟨h1, h2, h3⟩ := ih
    have ha := arr_le l js k (mdOf (mrun l js num den pol k)) ((mrun l js num den pol k).en, (mrun l js num den pol k).lf) js.length
    have ha : (arrOf l js k (mrun l js num den pol k)).2.length ≤ (mrun l js num den pol k).lf.length + js.length := ha
    show (mstep l js num den pol k (mrun l js num den pol k)).tr.length = _ ∧ (mstep l js num den pol k (mrun l js num den pol k)).sw.length ≤ _ ∧ (mstep l js num den pol k (mrun l js num den pol k)).lf.length ≤ _
    unfold mstep
    by_cases he : (arrOf l js k (mrun l js num den pol k)).2 = []
    · simp only [he, if_true]
      exact ⟨by simp [h1], by omega, by simp⟩
    · simp only [he, if_false]
      refine ⟨by simp [h1], ?_, ?_⟩
      · unfold endOf
        split
        · show (mrun l js num den pol k).sw.length ≤ _
          omega
        · split
          · simp
            omega
          · show (mrun l js num den pol k).sw.length ≤ _
            omega
      · exact Nat.le_trans (still_le _ _ _) (by omega)
theorem mstep_end {l : List Tk} {js : List Jb} {num den pol : Int} {k : Nat} {s : Mc} {en en' : List Int} {lf st : List Nat} {r : Nat} {d : Int} {hi : Bool} {sw : List Int} (ha : arrOf l js k s = (en, lf)) (hne : lf ≠ []) (hr : bestOf l js num den pol (mdOf s) lf = r) (hd : s.dn.getD r 0 + 1 = d)
    (he : endOf l js k (mdOf s) en lf s.sw r d = (en', hi, sw)) (hst : stillTo en' lf lf.length = st) : mstep l js num den pol k s = ⟨en', s.dn.set r d, st, s.tr ++ [(jobAt js r).task], sw, hi⟩ := by
  unfold mstep
  simp only [ha, hne, if_false, hr, hd, he, hst]
theorem mstep_idle {l : List Tk} {js : List Jb} {num den pol : Int} {k : Nat} {s : Mc} {en : List Int} (ha : arrOf l js k s = (en, [])) : mstep l js num den pol k s = ⟨en, s.dn, [], s.tr ++ [-1], s.sw, mdOf s⟩ := by
  unfold mstep
  simp only [ha, if_true]
end Go.Proofs.Ytmkjmancmiphfaa
