/-
  Admission, in plain Lean; and the share of what can hold.
-/
import Derived.Test.YtmkjmancmiphfaaPackT
namespace Go.Proofs.Ytmkjmancmiphfaa

def admitT (l : List Tk) (t : Tk) (p : Int) : Option (List Tk) :=
  if hldBy l p && setVld (l ++ [t]) then
    if p = 1 then (if hldVirt (l ++ [t]) then some (l ++ [t]) else none)
    else match assign (l ++ [t]) with
      | none => none
      | some o => some (pick (l ++ [t]) o)
  else none
theorem hldBy_pol {l : List Tk} {p : Int} (h : hldBy l p = true) : p = 0 ∨ p = 1 := by
  unfold hldBy at h
  split at h
  · exact .inl (by assumption)
  · split at h
    · exact .inr (by assumption)
    · cases h
theorem admitT_some {l x : List Tk} {t : Tk} {p : Int} (h : admitT l t p = some x) : hldBy l p = true ∧ setVld (l ++ [t]) = true ∧ x.Perm (l ++ [t]) ∧ hldBy x p = true := by
  simp only [admitT] at h
  split at h
  · rename_i hc
    simp only [Bool.and_eq_true] at hc
    refine ⟨hc.1, hc.2, ?_⟩
    split at h
    · rename_i e
      split at h
      · rename_i hv
        cases h
        refine ⟨List.Perm.refl _, ?_⟩
        subst e
        simp [hldBy, hv]
      · cases h
    · rename_i e
      have p0 : p = 0 := (hldBy_pol hc.1).resolve_right e
      subst p0
      split at h
      · cases h
      · rename_i o ho
        cases h
        obtain ⟨_, h1, h2⟩ := assign_good ho
        refine ⟨?_, by simpa [hldBy] using h2⟩
        have hp := pick_perm (l ++ [t]) h1
        rwa [pick_range] at hp
  · cases h
/-- When a task is admitted. -/
theorem admitT_iff (l : List Tk) (t : Tk) (p : Int) : (admitT l t p).isSome = true ↔ hldBy l p = true ∧ setVld (l ++ [t]) = true ∧ canH (l ++ [t]) p = true := by
  constructor
  · intro h
    obtain ⟨x, hx⟩ := Option.isSome_iff_exists.1 h
    obtain ⟨a, b, c, d⟩ := admitT_some hx
    exact ⟨a, b, canH_perm c.symm p (hldBy_can d)⟩
  · rintro ⟨a, b, c⟩
    simp only [admitT, a, b, Bool.and_self, if_true]
    split
    · rename_i e
      subst e
      have : hldVirt (l ++ [t]) = true := by simpa [canH, hldBy] using c
      rw [this]
      rfl
    · rename_i e
      have p0 : p = 0 := (hldBy_pol a).resolve_right e
      subst p0
      have : (assign (l ++ [t])).isSome = true := by simpa [canH] using c
      obtain ⟨o, ho⟩ := Option.isSome_iff_exists.1 this
      rw [ho]
      rfl
/-- What is refused by place stays refused when another one is admitted. -/
theorem admit_again {l more : List Tk} {s t : Tk} (h : admitT l t 0 = none) (hm : admitT l s 0 = some more) : admitT more t 0 = none := by
  cases e : admitT more t 0 with
  | none => rfl
  | some y =>
    exfalso
    obtain ⟨a, b, c, d⟩ := admitT_some hm
    obtain ⟨a', b', c', d'⟩ := admitT_some e
    have hsub : Sub (l ++ [t]) (more ++ [t]) := (((Sub.sub (by simp)).trans (Sub.perm c.symm) : Sub l more)).app (Sub.refl _)
    have : (admitT l t 0).isSome = true := (admitT_iff l t 0).2 ⟨a, setVld_sub hsub b', canH_sub0 hsub (canH_perm c'.symm 0 (hldBy_can d'))⟩
    rw [h] at this
    cases this
theorem eraseIdx_sub (l : List Tk) (k : Nat) : (l.eraseIdx k).Sublist l := List.eraseIdx_sublist l k
theorem leave_holds {l : List Tk} (k : Nat) (h : hldBoth l = true) : hldBoth (l.eraseIdx k) = true := hldBoth_sub (eraseIdx_sub l k) h
theorem leave_plain {l : List Tk} (k : Nat) (h : hldPlain l = true) : hldPlain (l.eraseIdx k) = true := hldPlain_sub (Sub.sub (eraseIdx_sub l k)) h
theorem hldBy_nil {p : Int} (h : p = 0 ∨ p = 1) : hldBy [] p = true := by
  rcases h with rfl | rfl
  · rfl
  · simp [hldBy, hldVirt_nil]

/-! ### One after the other -/
def admGo (p : Int) : List Tk → Nat → List Tk → List Int → List Tk × List Int
  | [], _, out, ref => (out, ref)
  | t :: ts, i, out, ref =>
    match admitT out t p with
    | some next => admGo p ts (i + 1) next ref
    | none => admGo p ts (i + 1) out (ref ++ [(i : Int)])
def admOk (ts : List Tk) (p : Int) : Bool := decide (ts.length ≤ 20) && polB p
def admAll (ts : List Tk) (p : Int) : List Tk × List Int := if admOk ts p then admGo p ts 0 [] [] else ([], [])
/-- Numbers in order, each from a on and below b. -/
def ordB (b : Int) : Int → List Int → Bool
  | _, [] => true
  | a, x :: xs => decide (a ≤ x ∧ x < b) && ordB b (x + 1) xs
theorem ordB_snoc {b a x : Int} {xs : List Int} (h : ordB x a xs = true) (hx : x < b) (ha : a ≤ x) : ordB b a (xs ++ [x]) = true := by
  induction xs generalizing a with
  | nil => simp [ordB]; omega
  | cons y xs ih =>
    simp only [ordB, Bool.and_eq_true, decide_eq_true_eq] at h
    simp only [List.cons_append, ordB, Bool.and_eq_true, decide_eq_true_eq]
    exact ⟨by omega, ih h.2 (by omega)⟩
theorem ordB_up {b c a : Int} {xs : List Int} (h : ordB b a xs = true) (hbc : b ≤ c) : ordB c a xs = true := by
  induction xs generalizing a with
  | nil => rfl
  | cons y xs ih =>
    simp only [ordB, Bool.and_eq_true, decide_eq_true_eq] at h ⊢
    exact ⟨by omega, ih h.2⟩
theorem admGo_good {p : Int} {ts : List Tk} {i : Nat} {out : List Tk} {ref : List Int} (ho : hldBy out p = true) (hr : ordB (i : Int) 0 ref = true) (hl : out.length + ref.length = i) :
    hldBy (admGo p ts i out ref).1 p = true ∧ ordB ((i + ts.length : Nat) : Int) 0 (admGo p ts i out ref).2 = true ∧ (admGo p ts i out ref).1.length + (admGo p ts i out ref).2.length = i + ts.length := by
  induction ts generalizing i out ref with
  | nil => exact ⟨ho, hr, hl⟩
  | cons t ts ih =>
    simp only [admGo]
    split
    · rename_i next hn
      obtain ⟨_, _, c, d⟩ := admitT_some hn
      have hlen := c.length_eq
      simp only [List.length_append, List.length_singleton] at hlen
      obtain ⟨g1, g2, g3⟩ := ih (i := i + 1) (out := next) (ref := ref) d (ordB_up hr (by omega)) (by omega)
      refine ⟨g1, ?_, by simp only [List.length_cons]; omega⟩
      rw [List.length_cons, show i + (ts.length + 1) = i + 1 + ts.length by omega]
      exact g2
    · obtain ⟨g1, g2, g3⟩ := ih (i := i + 1) (out := out) (ref := ref ++ [(i : Int)]) ho (ordB_snoc hr (by omega) (by omega)) (by simp; omega)
      refine ⟨g1, ?_, by simp only [List.length_cons]; omega⟩
      rw [List.length_cons, show i + (ts.length + 1) = i + 1 + ts.length by omega]
      exact g2
theorem admGo_pre {p : Int} {ts : List Tk} {i : Nat} {out : List Tk} {ref : List Int} : ∃ more, (admGo p ts i out ref).2 = ref ++ more ∧ ∀ x ∈ more, (i : Int) ≤ x := by
  induction ts generalizing i out ref with
  | nil => exact ⟨[], by simp [admGo], by simp⟩
  | cons t ts ih =>
    simp only [admGo]
    split
    · obtain ⟨more, h1, h2⟩ := ih (i := i + 1) (out := _) (ref := ref)
      exact ⟨more, h1, fun x hx => by have := h2 x hx; omega⟩
    · obtain ⟨more, h1, h2⟩ := ih (i := i + 1) (out := out) (ref := ref ++ [(i : Int)])
      refine ⟨(i : Int) :: more, by rw [h1]; simp, fun x hx => ?_⟩
      rcases List.mem_cons.1 hx with rfl | hx
      · omega
      · have := h2 x hx; omega
/-- The first one is admitted if it is valid and can hold. -/
theorem admAll_first {t : Tk} {ts : List Tk} {p : Int} (h : admOk (t :: ts) p = true) : (vld t && canH [t] p) = ((admAll (t :: ts) p).2.head?.all (fun x => decide (0 < x))) := by
  have hp : p = 0 ∨ p = 1 := by
    simp only [admOk, Bool.and_eq_true, polB, Bool.or_eq_true, beq_iff_eq] at h
    exact h.2
  have e1 : (admitT [] t p).isSome = (vld t && canH [t] p) := by
    rw [Bool.eq_iff_iff, admitT_iff, Bool.and_eq_true, List.nil_append]
    constructor
    · rintro ⟨_, b, c⟩
      exact ⟨(setVld_all b).2 t (by simp), c⟩
    · rintro ⟨b, c⟩
      exact ⟨hldBy_nil hp, setVld_one b, c⟩
  rw [← e1]
  simp only [admAll, h, if_true, admGo]
  split
  · rename_i next hn
    obtain ⟨more, h1, h2⟩ := admGo_pre (p := p) (ts := ts) (i := 0 + 1) (out := next) (ref := [])
    rw [hn, h1]
    cases more with
    | nil => rfl
    | cons x more =>
      have := h2 x (by simp)
      simp
      omega
  · rename_i hn
    obtain ⟨more, h1, h2⟩ := admGo_pre (p := p) (ts := ts) (i := 0 + 1) (out := []) (ref := [] ++ [((0 : Nat) : Int)])
    rw [hn, h1]
    simp

/-! ### The share of what can hold -/
theorem rat_jobs {s : Tk} (h : vld s = true) (b : Bool) {r : Int} (_hr : 0 ≤ r) : (r : Rat) * shr b s ≤ ((demF s r b : Int) : Rat) := by
  have hb := vld_nums h
  have hn := needOf_bd h b
  have h0 : ((s.every.toNat : Nat) : Rat) ≠ 0 := by
    intro e
    have : s.every.toNat = 0 := by exact_mod_cast e
    omega
  have hp : (0 : Rat) < ((s.every.toNat : Nat) : Rat) := by
    have : 0 < s.every.toNat := by omega
    exact_mod_cast this
  have e1 : shr b s * (s.every.toNat : Rat) = ((needOf s b : Int) : Rat) := by simp only [shr, needOf, Rat.mkRat_eq_div]; grind
  have h1 : r ≤ jobsOf s r * s.every := by
    unfold jobsOf
    have := Int.lt_ediv_add_one_mul_self (r + s.every - 1) (show 0 < s.every by omega)
    rw [Int.add_mul, Int.one_mul] at this
    omega
  have h2 : r * needOf s b ≤ jobsOf s r * s.every * needOf s b := Int.mul_le_mul_of_nonneg_right h1 (by omega)
  have e2 : demF s r b * s.every = jobsOf s r * s.every * needOf s b := by unfold demF; ac_rfl
  have h3 : ((r * needOf s b : Int) : Rat) ≤ ((demF s r b * s.every : Int) : Rat) := by rw [e2]; exact_mod_cast h2
  rw [Rat.intCast_mul, Rat.intCast_mul] at h3
  have e3 : ((s.every : Int) : Rat) = ((s.every.toNat : Nat) : Rat) := by
    have : s.every = ((s.every.toNat : Nat) : Int) := by omega
    rw [this]
    exact Rat.intCast_natCast _
  rw [e3, ← e1] at h3
  apply Classical.byContradiction
  intro hc
  have h4 : 0 < ((r : Rat) * shr b s - ((demF s r b : Int) : Rat)) * (s.every.toNat : Rat) := Rat.mul_pos (by grind) hp
  grind
/-- All shares, low or high where critical, of some tasks. -/
def shAll (f : Tk → Rat) : List Tk → Rat
  | [] => 0
  | t :: l => f t + shAll f l
theorem shAll_append (f : Tk → Rat) (a b : List Tk) : shAll f (a ++ b) = shAll f a + shAll f b := by
  induction a with
  | nil => simp [shAll, Rat.zero_add]
  | cons t a ih => simp only [List.cons_append, shAll, ih, Rat.add_assoc]
theorem sum_share {f : Tk → Rat} {g : Tk → Int} {r : Int} {q : List Tk} (h : ∀ s ∈ q, (r : Rat) * f s ≤ ((g s : Int) : Rat)) : (r : Rat) * shAll f q ≤ ((sumL g q : Int) : Rat) := by
  induction q with
  | nil => simp [shAll, sumL]
  | cons s q ih =>
    have h1 := ih (fun t ht => h t (List.mem_cons_of_mem _ ht))
    have h2 := h s (by simp)
    simp only [shAll, sumL, Rat.intCast_add]
    grind
theorem share_last {f : Tk → Rat} {g : Tk → Int} {r : Int} {q : List Tk} {t : Tk} {n : Int} (hr : 0 < r) (hq : ∀ s ∈ q, (r : Rat) * f s ≤ ((g s : Int) : Rat)) (ht : (r : Rat) * f t ≤ (n : Rat)) (h : n + sumL g q ≤ r) : shAll f (q ++ [t]) ≤ 1 := by
  have h1 := sum_share hq
  have h2 : ((n + sumL g q : Int) : Rat) ≤ (r : Rat) := by exact_mod_cast h
  rw [Rat.intCast_add] at h2
  rw [shAll_append]
  simp only [shAll]
  have hrp : (0 : Rat) < (r : Rat) := by exact_mod_cast hr
  apply Classical.byContradiction
  intro hc
  have h4 : 0 < (r : Rat) * (shAll f q + (f t + 0) - 1) := Rat.mul_pos hrp (by grind)
  grind
theorem own_share {t : Tk} (h : vld t = true) (b : Bool) {r : Int} (h0 : 0 ≤ r) (hr : r ≤ t.due) : (r : Rat) * shr b t ≤ ((needOf t b : Int) : Rat) := by
  have hb := vld_nums h
  by_cases e : r = 0
  · subst e
    have := needOf_bd h b
    have h1 : ((0 : Int) : Rat) ≤ ((needOf t b : Int) : Rat) := by exact_mod_cast (show (0 : Int) ≤ needOf t b by omega)
    grind
  · have h1 := rat_jobs h b h0
    have h2 : jobsOf t r = 1 := by
      unfold jobsOf
      have h3 : (r + t.every - 1) / t.every < 2 := by rw [Int.ediv_lt_iff_lt_mul (by omega)]; omega
      have h4 : 1 ≤ (r + t.every - 1) / t.every := by rw [Int.le_ediv_iff_mul_le (by omega)]; omega
      omega
    rwa [demF, h2, Int.one_mul] at h1
theorem rl_fix {hp : List Tk} {t : Tk} (vp : ∀ s ∈ hp, vld s = true) (vt : vld t = true) {r : Int} (h : rl hp t = some r) : 0 < r ∧ r ≤ t.due ∧ t.low + sumL (fun s => demF s r false) hp ≤ r := by
  have hb := vld_nums vt
  have hm : ∀ v u, v ≤ u → t.low + sumL (fun s => demF s v false) hp ≤ t.low + sumL (fun s => demF s u false) hp := by
    intro v u hvu
    have := sumL_le (f := fun s => demF s v false) (g := fun s => demF s u false) (l := hp) (fun s hs => demF_mono (vp s hs) _ hvu)
    omega
  have h0 : t.low ≤ t.low + sumL (fun s => demF s t.low false) hp := by
    have := sumL_nonneg (f := fun s => demF s t.low false) (l := hp) (fun s hs => (demF_bd (vp s hs) _ (by omega)).1)
    omega
  obtain ⟨a, b, c, _⟩ := (risen_some hm h0 r).1 h
  exact ⟨by omega, b, c⟩
theorem hAt_rl {hp : List Tk} {t : Tk} (h : hAt hp t = true) : ∃ r, rl hp t = some r := by
  unfold hAt at h
  split at h
  · unfold rs at h
    split at h
    · cases h
    · exact ⟨_, by assumption⟩
  · exact Option.isSome_iff_exists.1 h
theorem hld_low {l : List Tk} (hv : ∀ t ∈ l, vld t = true) (h : hld [] l = true) : shAll (shr false) l ≤ 1 := by
  rcases List.eq_nil_or_concat l with rfl | ⟨q, t, rfl⟩
  · simp only [shAll]; grind
  · rw [List.concat_eq_append] at *
    rw [hld_append, Bool.and_eq_true] at h
    have ht : hAt q t = true := by simpa [hld] using h.2
    obtain ⟨r, hr⟩ := hAt_rl ht
    have vq : ∀ s ∈ q, vld s = true := fun s hs => hv s (by simp [hs])
    have vt := hv t (by simp)
    obtain ⟨a, b, c⟩ := rl_fix vq vt hr
    exact share_last a (g := fun s => demF s r false) (fun s hs => rat_jobs (vq s hs) _ (by omega)) (own_share vt false (by omega) b) c
def hiC (t : Tk) : Rat := if t.crit then shr true t else 0
theorem hld_high {l : List Tk} (hv : ∀ t ∈ l, vld t = true) (h : hld [] l = true) : shAll hiC l ≤ 1 := by
  suffices hs : ∀ (n : Nat) (l : List Tk), l.length = n → (∀ t ∈ l, vld t = true) → hld [] l = true → shAll hiC l ≤ 1 from hs _ l rfl hv h
  intro n
  induction n with
  | zero =>
    intro l hl _ _
    cases l with
    | nil => simp only [shAll]; grind
    | cons => simp at hl
  | succ n ih =>
    intro l hl hv h
    rcases List.eq_nil_or_concat l with rfl | ⟨q, t, rfl⟩
    · simp at hl
    · rw [List.concat_eq_append] at *
      rw [hld_append, Bool.and_eq_true] at h
      have ht : hAt q t = true := by simpa [hld] using h.2
      have vq : ∀ s ∈ q, vld s = true := fun s hs => hv s (by simp [hs])
      have vt := hv t (by simp)
      cases hc : t.crit with
      | false =>
        have := ih q (by simpa using hl) vq h.1
        rw [shAll_append]
        simp only [shAll, hiC, hc, Bool.false_eq_true, if_false]
        grind
      | true =>
        simp only [hAt, hc, if_true] at ht
        unfold rs at ht
        split at ht
        · cases ht
        · rename_i low hlow
          obtain ⟨a, b, _⟩ := rl_fix vq vt hlow
          rw [if_pos hc] at ht
          obtain ⟨r, hr⟩ := Option.isSome_iff_exists.1 ht
          have hb := vld_nums vt
          have hm : ∀ v u, v ≤ u → t.high + sumL (fun s => swDem s low v) q ≤ t.high + sumL (fun s => swDem s low u) q := by
            intro v u hvu
            have := sumL_le (f := fun s => swDem s low v) (g := fun s => swDem s low u) (l := q) (fun s hs => swDem_mono (vq s hs) _ hvu)
            omega
          have h0 : t.high ≤ t.high + sumL (fun s => swDem s low t.high) q := by
            have := sumL_nonneg (f := fun s => swDem s low t.high) (l := q) (fun s hs => swDem_nonneg (vq s hs) (by omega) (by omega))
            omega
          obtain ⟨a', b', c', _⟩ := (risen_some hm h0 r).1 hr
          refine share_last (g := fun s => swDem s low r) (show 0 < r by omega) (fun s hs => ?_) ?_ c'
          · unfold hiC swDem
            split
            · exact rat_jobs (vq s hs) true (by omega)
            · have := (demF_bd (vq s hs) false (show 0 ≤ low by omega)).1
              have h1 : ((0 : Int) : Rat) ≤ ((demF s low false : Int) : Rat) := by exact_mod_cast this
              grind
          · simp only [hiC, hc, if_true]
            exact own_share vt true (by omega) b'
theorem shares_both (l : List Tk) : shares true false l + shares false false l = shAll (shr false) l := by
  induction l with
  | nil => simp [shares, shAll, Rat.zero_add]
  | cons t l ih =>
    simp only [shares, shAll, ← ih]
    cases t.crit <;> simp <;> grind
theorem shares_hiC (l : List Tk) : shares true true l = shAll hiC l := by
  induction l with
  | nil => rfl
  | cons t l ih => simp only [shares, shAll, hiC, ih]
theorem ub_le_uh {l : List Tk} (hv : ∀ t ∈ l, vld t = true) : ub l ≤ uh l := by
  unfold ub uh
  induction l with
  | nil => exact Rat.le_refl
  | cons t l ih =>
    have h1 := ih (fun s hs => hv s (List.mem_cons_of_mem _ hs))
    have hb := vld_nums (hv t (by simp))
    simp only [shares]
    have h2 : shr false t ≤ shr true t := by
      have h0 : ((t.every.toNat : Nat) : Rat) ≠ 0 := by
        intro e
        have : t.every.toNat = 0 := by exact_mod_cast e
        omega
      have e1 : shr false t * (t.every.toNat : Rat) = ((t.low : Int) : Rat) := by simp only [shr, Rat.mkRat_eq_div]; grind
      have e2 : shr true t * (t.every.toNat : Rat) = ((t.high : Int) : Rat) := by simp only [shr, Rat.mkRat_eq_div]; grind
      have hp : (0 : Rat) < ((t.every.toNat : Nat) : Rat) := by
        have : 0 < t.every.toNat := by omega
        exact_mod_cast this
      have hle : ((t.low : Int) : Rat) ≤ ((t.high : Int) : Rat) := by exact_mod_cast hb.2.1
      apply Classical.byContradiction
      intro h
      have h1 : 0 < (shr false t - shr true t) * (t.every.toNat : Rat) := Rat.mul_pos (by grind) hp
      grind
    split <;> grind
/-- What can hold on one processor has no more than its share, in either mode. -/
theorem canH_share {l : List Tk} {p : Int} (h : canH l p = true) : ub l + ua l ≤ 1 ∧ uh l ≤ 1 := by
  rcases canH_pol h with rfl | rfl
  · simp only [canH, if_true] at h
    obtain ⟨q, h1, h2⟩ := (assign_iff l).1 h
    rw [hldBoth_eq, Bool.and_eq_true] at h2
    have hv := (setVld_all h2.1).2
    have a := hld_low hv h2.2
    have b := hld_high hv h2.2
    rw [← shares_both, shares_perm _ _ h1, shares_perm _ _ h1] at a
    rw [← shares_hiC, shares_perm _ _ h1] at b
    exact ⟨a, b⟩
  · have h : hldVirt l = true := by simpa [canH, hldBy] using h
    have hs := hldVirt_vld h
    have hv := (setVld_all hs).2
    have h0 := (shares_bd false false l hv).1
    have h1 := ub_le_uh hv
    change 0 ≤ ua l at h0
    simp only [hldVirt, Bool.or_eq_true, Bool.and_eq_true, hldPlain_iff, fitsR_iff] at h
    rcases h with ⟨_, h⟩ | ⟨⟨_, hf⟩, h⟩
    · constructor <;> grind
    · have hf : facNo l = false := by simpa using hf
      have ok := facOk hs hf
      simp only [facNo, Bool.or_eq_false_iff, Bool.not_eq_false', fitsR_iff] at hf
      have hx : 0 ≤ facR l * ua l := Rat.num_nonneg.1 ok.mulIn.1
      have := hf.1
      constructor <;> grind
theorem grp_shares {l : List Tk} {ws : List Int} (crit high : Bool) (hlen : ws.length = l.length) (m : Nat) (h : ∀ x ∈ ws, 0 ≤ x ∧ x < (m : Int)) (c : Rat) (hc : ∀ q : Nat, q < m → shares crit high (grp l ws (q : Int)) ≤ c) : shares crit high l ≤ (m : Rat) * c := by
  have key : ∀ (m : Nat) (l : List Tk) (ws : List Int), ws.length = l.length → (∀ x ∈ ws, 0 ≤ x ∧ x < (m : Int)) → ∃ f : Nat → Rat, (∀ q, f q = shares crit high (grp l ws (q : Int))) ∧ shares crit high l = shares crit high ((l.zip ws).map Prod.fst) := by
    intro m l ws hl _
    refine ⟨_, fun q => rfl, ?_⟩
    rw [List.map_fst_zip (by omega)]
  clear key
  have split_ : ∀ (m : Nat) (z : List (Tk × Int)), (∀ x ∈ z, 0 ≤ x.2 ∧ x.2 < ((m + 1 : Nat) : Int)) →
      shares crit high (z.map Prod.fst) = shares crit high ((z.filter (fun x => decide (x.2 < (m : Int)))).map Prod.fst) + shares crit high ((z.filter (fun x => decide (x.2 = (m : Int)))).map Prod.fst) := by
    intro m z hz
    induction z with
    | nil => simp [shares, Rat.zero_add]
    | cons a z ih =>
      have ha := hz a (by simp)
      have := ih (fun x hx => hz x (List.mem_cons_of_mem _ hx))
      by_cases e : a.2 = (m : Int)
      · have e1 : ¬ a.2 < (m : Int) := by omega
        simp only [List.filter_cons, e, decide_true, if_true, Int.lt_irrefl, decide_false, Bool.false_eq_true, if_false, List.map_cons, shares, this]
        grind
      · have e1 : a.2 < (m : Int) := by omega
        simp only [List.filter_cons, e, e1, decide_true, if_true, decide_false, Bool.false_eq_true, if_false, List.map_cons, shares, this]
        grind
  have main : ∀ (m : Nat) (z : List (Tk × Int)), (∀ x ∈ z, 0 ≤ x.2 ∧ x.2 < (m : Int)) → (∀ q : Nat, q < m → shares crit high ((z.filter (fun x => decide (x.2 = (q : Int)))).map Prod.fst) ≤ c) → shares crit high (z.map Prod.fst) ≤ (m : Rat) * c := by
    intro m
    induction m with
    | zero =>
      intro z hz _
      cases z with
      | nil => simp [shares]
      | cons a z => have := hz a (by simp); omega
    | succ m ih =>
      intro z hz hq
      rw [split_ m z hz]
      have h1 := ih (z.filter (fun x => decide (x.2 < (m : Int)))) (fun x hx => by
        have := List.mem_filter.1 hx
        exact ⟨(hz x this.1).1, by simpa using this.2⟩) (fun q hqm => by
        have e : (z.filter (fun x => decide (x.2 < (m : Int)))).filter (fun x => decide (x.2 = (q : Int))) = z.filter (fun x => decide (x.2 = (q : Int))) := by
          rw [List.filter_filter]
          congr 1
          funext x
          rw [← Bool.decide_and]
          congr 1
          rw [eq_iff_iff]
          constructor
          · rintro ⟨h, _⟩; exact h
          · intro h; exact ⟨h, by omega⟩
        rw [e]
        exact hq q (by omega))
      have h2 := hq m (by omega)
      have e : ((m + 1 : Nat) : Rat) = (m : Rat) + 1 := by simp
      rw [e]
      grind
  have := main m (l.zip ws) (fun x hx => h x.2 (List.of_mem_zip hx).2) (fun q hq => hc q hq)
  rwa [List.map_fst_zip (by omega)] at this
/-- Tasks need as many processors as their shares. -/
theorem fewN_share {l : List Tk} {p n : Int} (h : fewN l p = some n) : ub l + ua l ≤ (n : Rat) ∧ uh l ≤ (n : Rat) := by
  obtain ⟨h1, h3, ha, _⟩ := fewN_some h
  obtain ⟨ws, hw⟩ := (anyP_iff _ _ _).1 ha
  rw [pkH_iff, packVld_iff] at hw
  obtain ⟨⟨a, _, _, d, e⟩, g⟩ := hw
  obtain ⟨k, rfl⟩ : ∃ k : Nat, n = (k : Int) := ⟨n.toNat, by omega⟩
  have hk : ((k : Int) : Rat) = (k : Rat) := Rat.intCast_natCast _
  rw [hk]
  simp only [Int.toNat_natCast] at g
  refine ⟨?_, ?_⟩
  · have hall : ∀ z : List (Tk × Int), shAll (shr false) (z.map Prod.fst) = shares true false (z.map Prod.fst) + shares false false (z.map Prod.fst) := fun z => (shares_both _).symm
    -- the sum over both kinds, group by group
    have key : ∀ (m : Nat) (z : List (Tk × Int)), (∀ x ∈ z, 0 ≤ x.2 ∧ x.2 < (m : Int)) → (∀ q : Nat, q < m → shAll (shr false) ((z.filter (fun x => decide (x.2 = (q : Int)))).map Prod.fst) ≤ 1) → shAll (shr false) (z.map Prod.fst) ≤ (m : Rat) := by
      intro m
      induction m with
      | zero =>
        intro z hz _
        cases z with
        | nil => simp [shAll]
        | cons a z => have := hz a (by simp); omega
      | succ m ih =>
        intro z hz hq
        have sp : shAll (shr false) (z.map Prod.fst) = shAll (shr false) ((z.filter (fun x => decide (x.2 < (m : Int)))).map Prod.fst) + shAll (shr false) ((z.filter (fun x => decide (x.2 = (m : Int)))).map Prod.fst) := by
          clear hq
          induction z with
          | nil => simp [shAll, Rat.zero_add]
          | cons a z ih2 =>
            have ha := hz a (by simp)
            have := ih2 (fun x hx => hz x (List.mem_cons_of_mem _ hx))
            by_cases e : a.2 = (m : Int)
            · simp only [List.filter_cons, e, decide_true, if_true, Int.lt_irrefl, decide_false, Bool.false_eq_true, if_false, List.map_cons, shAll, this]
              grind
            · have e1 : a.2 < (m : Int) := by omega
              simp only [List.filter_cons, e, e1, decide_true, if_true, decide_false, Bool.false_eq_true, if_false, List.map_cons, shAll, this]
              grind
        rw [sp]
        have h1 := ih (z.filter (fun x => decide (x.2 < (m : Int)))) (fun x hx => by
          have := List.mem_filter.1 hx
          exact ⟨(hz x this.1).1, by simpa using this.2⟩) (fun q hqm => by
          have e : (z.filter (fun x => decide (x.2 < (m : Int)))).filter (fun x => decide (x.2 = (q : Int))) = z.filter (fun x => decide (x.2 = (q : Int))) := by
            rw [List.filter_filter]
            congr 1
            funext x
            rw [← Bool.decide_and]
            congr 1
            rw [eq_iff_iff]
            constructor
            · rintro ⟨h, _⟩; exact h
            · intro h; exact ⟨h, by omega⟩
          rw [e]
          exact hq q (by omega))
        have h2 := hq m (by omega)
        have e : ((m + 1 : Nat) : Rat) = (m : Rat) + 1 := by simp
        rw [e]
        grind
    have := key k (l.zip ws) (fun x hx => e x.2 (List.of_mem_zip hx).2) (fun q hq => by
      rw [hall]
      exact (canH_share (g q hq)).1)
    rw [List.map_fst_zip (by omega), ← shares_both] at this
    exact this
  · have := grp_shares (l := l) (ws := ws) true true d k e 1 (fun q hq => (canH_share (g q hq)).2)
    rw [Rat.mul_one] at this
    exact this

/-! ### The hyperperiod -/
def hyp (l : List Tk) : Nat := l.foldl (fun a t => Nat.lcm a t.every.toNat) 1
theorem hyp_go (l : List Tk) (a : Nat) : l.foldl (fun a t => Nat.lcm a t.every.toNat) a = Nat.lcm a (hyp l) := by
  unfold hyp
  induction l generalizing a with
  | nil => simp
  | cons t l ih =>
    simp only [List.foldl_cons]
    rw [ih, ih (Nat.lcm 1 t.every.toNat), Nat.lcm_one_left, Nat.lcm_assoc]
theorem hyp_cons (t : Tk) (l : List Tk) : hyp (t :: l) = Nat.lcm t.every.toNat (hyp l) := by
  rw [hyp, List.foldl_cons, hyp_go, Nat.lcm_one_left]
theorem hyp_perm {a b : List Tk} (h : a.Perm b) : hyp a = hyp b := by
  induction h with
  | nil => rfl
  | cons x _ ih => rw [hyp_cons, hyp_cons, ih]
  | swap x y l => rw [hyp_cons, hyp_cons, hyp_cons, hyp_cons, ← Nat.lcm_assoc, ← Nat.lcm_assoc, Nat.lcm_comm x.every.toNat]
  | trans _ _ h1 h2 => exact h1.trans h2
end Go.Proofs.Ytmkjmancmiphfaa
