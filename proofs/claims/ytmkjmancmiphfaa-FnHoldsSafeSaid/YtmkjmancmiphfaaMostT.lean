/-
  Holding by a policy, in plain Lean: fewer tasks, smaller needs.
  The greatest need with which tasks hold, in plain Lean.
-/
import Derived.Test.YtmkjmancmiphfaaVirtR
import Derived.Test.YtmkjmancmiphfaaAud
namespace Go.Proofs.Ytmkjmancmiphfaa


/-! ### Shares of fewer tasks -/
theorem shares_perm {a b : List Tk} (crit high : Bool) (h : a.Perm b) : shares crit high a = shares crit high b := by
  induction h with
  | nil => rfl
  | cons x _ ih => simp only [shares, ih]
  | swap x y l => simp only [shares]; grind
  | trans _ _ h1 h2 => exact h1.trans h2
theorem shares_sublist {a b : List Tk} (crit high : Bool) (h : a.Sublist b) (hv : ∀ t ∈ b, vld t = true) : shares crit high a ≤ shares crit high b := by
  induction h with
  | slnil => exact Rat.le_refl
  | cons x h ih =>
    have h1 := ih (fun s hs => hv s (List.mem_cons_of_mem _ hs))
    have h2 := shr_le (high := high) (hv x (by simp))
    simp only [shares]
    split <;> grind
  | cons_cons x h ih =>
    have h1 := ih (fun s hs => hv s (List.mem_cons_of_mem _ hs))
    simp only [shares]
    grind
theorem shares_sub {a b : List Tk} (crit high : Bool) (h : Sub a b) (hv : ∀ t ∈ b, vld t = true) : shares crit high a ≤ shares crit high b := by
  obtain ⟨q, h1, h2⟩ := h.sublist
  rw [← shares_perm crit high h1]
  exact shares_sublist crit high h2 hv
theorem impl_iff (l : List Tk) : impl_ l = true ↔ setVld l = true ∧ ∀ t ∈ l, t.due = t.every := by
  simp only [impl_, Bool.and_eq_true, impAll, List.all_eq_true, List.mem_range, decide_eq_true_eq]
  constructor
  · rintro ⟨h1, h2⟩
    refine ⟨h1, fun t ht => ?_⟩
    obtain ⟨k, hk, rfl⟩ := List.getElem_of_mem ht
    have := h2 k hk
    rwa [tkAt_eq l k hk] at this
  · rintro ⟨h1, h2⟩
    exact ⟨h1, fun k hk => by rw [tkAt_eq l k hk]; exact h2 _ (List.getElem_mem hk)⟩
theorem impl_vld {l : List Tk} (h : impl_ l = true) : setVld l = true := ((impl_iff l).1 h).1
theorem impl_sub {a b : List Tk} (h : Sub a b) (hb : impl_ b = true) : impl_ a = true := by
  rw [impl_iff] at hb ⊢
  exact ⟨setVld_sub h hb.1, fun t ht => hb.2 t (h.mem ht)⟩
theorem hldPlain_iff (l : List Tk) : hldPlain l = true ↔ impl_ l = true ∧ ua l + uh l ≤ 1 := by
  simp only [hldPlain, Bool.and_eq_true, fitsR_iff]
theorem hldPlain_sub {a b : List Tk} (h : Sub a b) (hb : hldPlain b = true) : hldPlain a = true := by
  rw [hldPlain_iff] at hb ⊢
  refine ⟨impl_sub h hb.1, ?_⟩
  have hv := (setVld_all (impl_vld hb.1)).2
  have h1 := shares_sub false false h hv
  have h2 := shares_sub true true h hv
  have := hb.2
  unfold ua uh at this ⊢
  grind
theorem hldVirt_vld {l : List Tk} (h : hldVirt l = true) : setVld l = true := by
  simp only [hldVirt, Bool.or_eq_true, Bool.and_eq_true] at h
  rcases h with h | h
  · exact impl_vld ((hldPlain_iff l).1 h).1
  · exact impl_vld h.1.1
theorem hldVirt_impl {l : List Tk} (h : hldVirt l = true) : impl_ l = true := by
  simp only [hldVirt, Bool.or_eq_true, Bool.and_eq_true] at h
  rcases h with h | h
  · exact ((hldPlain_iff l).1 h).1
  · exact h.1.1
theorem facNo_congr {a b : List Tk} (h1 : ua a = ua b) (h2 : ub a = ub b) : facNo a = facNo b ∧ facR a = facR b := by
  simp only [facNo, facR, h1, h2, and_self]
/-- High needs that are no greater do no harm. -/
theorem hldVirt_high {a b : List Tk} (hi : impl_ a = true) (h1 : ua a = ua b) (h2 : ub a = ub b) (h3 : uh a ≤ uh b) (hb : hldVirt b = true) : hldVirt a = true := by
  obtain ⟨e1, e2⟩ := facNo_congr h1 h2
  simp only [hldVirt, Bool.or_eq_true, Bool.and_eq_true, hldPlain_iff, fitsR_iff] at hb ⊢
  rcases hb with ⟨_, hb⟩ | ⟨⟨_, hb1⟩, hb2⟩
  · exact .inl ⟨hi, by rw [h1]; grind⟩
  · refine .inr ⟨⟨hi, by rw [e1]; exact hb1⟩, ?_⟩
    rw [e2, h1]
    grind
theorem hldVirt_perm {a b : List Tk} (h : a.Perm b) (hb : hldVirt b = true) : hldVirt a = true :=
  hldVirt_high (impl_sub (Sub.perm h) (hldVirt_impl hb)) (shares_perm _ _ h) (shares_perm _ _ h) (by rw [uh, uh, shares_perm _ _ h]; exact Rat.le_refl) hb

/-! ### By a policy -/
def hldBy (l : List Tk) (p : Int) : Bool := if p = 0 then hldBoth l else if p = 1 then hldVirt l else false
def canH (l : List Tk) (p : Int) : Bool := if p = 0 then (assign l).isSome else hldBy l p
theorem hldBy_vld {l : List Tk} {p : Int} (h : hldBy l p = true) : setVld l = true := by
  unfold hldBy at h
  split at h
  · rw [hldBoth_eq, Bool.and_eq_true] at h; exact h.1
  · split at h
    · exact hldVirt_vld h
    · cases h
theorem hldBoth_vld {l : List Tk} (h : hldBoth l = true) : setVld l = true := by
  rw [hldBoth_eq, Bool.and_eq_true] at h; exact h.1
theorem hldBy_can {l : List Tk} {p : Int} (h : hldBy l p = true) : canH l p = true := by
  unfold canH
  split
  · rename_i e
    rw [hldBy, if_pos e] at h
    exact assign_some (List.Perm.refl _) h
  · exact h
theorem canH_vld {l : List Tk} {p : Int} (h : canH l p = true) : setVld l = true := by
  unfold canH at h
  split at h
  · obtain ⟨o, ho⟩ := Option.isSome_iff_exists.1 h
    exact (assign_good ho).1
  · exact hldBy_vld h
theorem assign_nil : assign [] = some [] := rfl
theorem hldVirt_nil : hldVirt [] = true := by
  have : hldPlain [] = true := by
    rw [hldPlain_iff]
    refine ⟨by rfl, ?_⟩
    simp only [ua, uh, shares]
    grind
  simp [hldVirt, this]
theorem canH_nil {p : Int} (h : p = 0 ∨ p = 1) : canH [] p = true := by
  rcases h with rfl | rfl
  · simp [canH, assign_nil]
  · simp [canH, hldBy, hldVirt_nil]
theorem canH_perm {a b : List Tk} (h : a.Perm b) (p : Int) (hb : canH b p = true) : canH a p = true := by
  unfold canH at hb ⊢
  split
  · rename_i e
    rw [if_pos e] at hb
    exact assign_sub (Sub.perm h) hb
  · rename_i e
    rw [if_neg e] at hb
    unfold hldBy at hb ⊢
    rw [if_neg e] at hb ⊢
    split
    · rename_i e1
      rw [if_pos e1] at hb
      exact hldVirt_perm h hb
    · rename_i e1
      rw [if_neg e1] at hb
      cases hb

/-! ### Easier tasks -/
structure Eas (s t : Tk) : Prop where
  crit : s.crit = t.crit
  low : s.low ≤ t.low
  high : s.high ≤ t.high
  due : t.due ≤ s.due
  every : s.every = t.every
theorem Eas.refl (t : Tk) : Eas t t := ⟨rfl, Int.le_refl _, Int.le_refl _, Int.le_refl _, rfl⟩
theorem Eas.dem {s t : Tk} (h : Eas s t) (ht : vld t = true) (b : Bool) {w : Int} (hw : 0 ≤ w) : demF s w b ≤ demF t w b := by
  have hj := (jobsOf_bd ht hw).1
  have e : jobsOf s w = jobsOf t w := by simp only [jobsOf, h.every]
  unfold demF
  rw [e]
  refine Int.mul_le_mul_of_nonneg_left ?_ hj
  have := h.low
  have := h.high
  cases b <;> simp [needOf] <;> omega
theorem Eas.sw {s t : Tk} (h : Eas s t) (ht : vld t = true) {low w : Int} (hl : 0 ≤ low) (hw : 0 ≤ w) : swDem s low w ≤ swDem t low w := by
  unfold swDem
  rw [h.crit]
  split
  · exact h.dem ht _ hw
  · exact h.dem ht _ hl
theorem hldBoth_eas {l m : List Tk} (hlen : m.length = l.length) (he : ∀ k, k < l.length → Eas (tkAt m k) (tkAt l k)) (hm : setVld m = true) (h : hldBoth l = true) : hldBoth m = true := by
  have hs := hldBoth_vld h
  rw [hldBoth_eq, Bool.and_eq_true, hld_iff] at h ⊢
  refine ⟨hm, fun k hk => ?_⟩
  have hk' : k < l.length := by omega
  have h1 := he k hk'
  have hv := (setVld_all hs).2
  have hvm := (setVld_all hm).2
  refine hAt_mono (hp := [] ++ l.take k) (fun s hs => hv s (List.mem_of_mem_take (by simpa using hs))) (fun s hs => hvm s (List.mem_of_mem_take (by simpa using hs))) (tkAt_vld hs hk') (tkAt_vld hm hk) h1.crit h1.low h1.high h1.due ?_ ?_ (h.2 k hk')
  · intro w hw
    simp only [List.nil_append]
    rw [← sumL_take (fun s => demF s w false) m k (by omega), ← sumL_take (fun s => demF s w false) l k (by omega)]
    exact sumTo_le fun j hj => (he j (by omega)).dem (tkAt_vld hs (by omega)) _ hw
  · intro low w hl hw
    simp only [List.nil_append]
    rw [← sumL_take (fun s => swDem s low w) m k (by omega), ← sumL_take (fun s => swDem s low w) l k (by omega)]
    exact sumTo_le fun j hj => (he j (by omega)).sw (tkAt_vld hs (by omega)) hl hw
theorem tkAt_set (l : List Tk) (k j : Nat) (t : Tk) (hk : k < l.length) : tkAt (l.set k t) j = if k = j then t else tkAt l j := by
  simp only [tkAt, List.getD, List.getElem?_set]
  split
  · rename_i h; subst h; rfl
  · rfl
theorem set_split (l : List Tk) (k : Nat) (t : Tk) (hk : k < l.length) : l.set k t = l.take k ++ t :: l.drop (k + 1) := List.set_eq_take_append_cons_drop.trans (if_pos hk)
theorem self_split (l : List Tk) (k : Nat) (hk : k < l.length) : l = l.take k ++ tkAt l k :: l.drop (k + 1) := by
  rw [tkAt_eq l k hk]
  simp
theorem shares_set (crit high : Bool) (l : List Tk) (k : Nat) (t : Tk) (hk : k < l.length) :
    shares crit high (l.set k t) = shares crit high (l.take k) + ((if t.crit = crit then shr high t else 0) + shares crit high (l.drop (k + 1))) := by
  rw [set_split l k t hk, shares_append]
  simp only [shares]
theorem shr_mono {high : Bool} {s t : Tk} (hn : needOf s high ≤ needOf t high) (he : s.every = t.every) (h1 : 1 ≤ t.every) : shr high s ≤ shr high t := by
  have h0 : ((t.every.toNat : Nat) : Rat) ≠ 0 := by
    intro e
    have : t.every.toNat = 0 := by exact_mod_cast e
    omega
  have e1 : shr high s * (t.every.toNat : Rat) = ((needOf s high : Int) : Rat) := by simp only [shr, needOf, he, Rat.mkRat_eq_div]; grind
  have e2 : shr high t * (t.every.toNat : Rat) = ((needOf t high : Int) : Rat) := by simp only [shr, needOf, Rat.mkRat_eq_div]; grind
  have hp : (0 : Rat) < ((t.every.toNat : Nat) : Rat) := by
    have : 0 < t.every.toNat := by omega
    exact_mod_cast this
  have hle : ((needOf s high : Int) : Rat) ≤ ((needOf t high : Int) : Rat) := by exact_mod_cast hn
  apply Classical.byContradiction
  intro h
  have h1 : 0 < (shr high s - shr high t) * (t.every.toNat : Rat) := Rat.mul_pos (by grind) hp
  grind
def withHigh (t : Tk) (n : Int) : Tk := { t with high := n }
def withLow (t : Tk) (n : Int) : Tk := { t with low := n, high := if t.crit then t.high else n }
def setHigh (l : List Tk) (k : Nat) (n : Int) : List Tk := l.set k (withHigh (tkAt l k) n)
def setLow (l : List Tk) (k : Nat) (n : Int) : List Tk := l.set k (withLow (tkAt l k) n)
theorem set_vld {l : List Tk} {k : Nat} {t : Tk} (hl : setVld l = true) (ht : vld t = true) : setVld (l.set k t) = true := by
  obtain ⟨h1, h2⟩ := setVld_all hl
  simp only [setVld, Bool.and_eq_true, decide_eq_true_eq, List.all_eq_true, List.length_set]
  refine ⟨h1, fun s hs => ?_⟩
  rcases List.mem_or_eq_of_mem_set hs with h | rfl
  · exact h2 s h
  · exact ht
theorem at_vld {l : List Tk} {k : Nat} {t : Tk} (hk : k < l.length) (h : setVld (l.set k t) = true) : vld t = true :=
  (setVld_all h).2 t (List.mem_set hk t)
theorem setHigh_self (l : List Tk) (k : Nat) (hk : k < l.length) : setHigh l k (tkAt l k).high = l := by
  have : withHigh (tkAt l k) (tkAt l k).high = l[k] := by rw [tkAt_eq l k hk]; rfl
  rw [setHigh, this, List.set_getElem_self]
theorem setLow_self (l : List Tk) (k : Nat) (hk : k < l.length) (hv : vld (tkAt l k) = true) : setLow l k (tkAt l k).low = l := by
  have : withLow (tkAt l k) (tkAt l k).low = l[k] := by
    rw [tkAt_eq l k hk] at hv ⊢
    simp only [vld, Bool.and_eq_true, Bool.or_eq_true, beq_iff_eq] at hv
    have h2 := hv.2
    generalize l[k] = t at hv h2
    obtain ⟨a, b, c, d, e⟩ := t
    cases e with
    | true => rfl
    | false =>
      simp at h2
      subst h2
      rfl
  rw [setLow, this, List.set_getElem_self]
/-- Between the low need and a high need with which tasks hold, they hold. -/
theorem hldBy_between {l : List Tk} {k : Nat} {n m : Int} {p : Int} (hk : k < l.length) (hl : setVld l = true) (hc : (tkAt l k).crit = true) (h1 : (tkAt l k).low ≤ m) (h2 : m ≤ n) (h : hldBy (setHigh l k n) p = true) : hldBy (setHigh l k m) p = true := by
  have hvn := hldBy_vld h
  have hn := at_vld hk hvn
  have hvt := tkAt_vld hl hk
  have b1 := vld_nums hn
  have b2 := vld_nums hvt
  simp only [withHigh] at b1
  have hm : vld (withHigh (tkAt l k) m) = true := by
    simp only [vld, withHigh, hc, Bool.true_or, Bool.and_true, decide_eq_true_eq]
    omega
  have hvm : setVld (setHigh l k m) = true := set_vld hl hm
  unfold hldBy at h ⊢
  split
  · rename_i e
    rw [if_pos e] at h
    refine hldBoth_eas (l := setHigh l k n) (by simp [setHigh]) (fun j hj => ?_) hvm h
    rw [setHigh, setHigh, tkAt_set _ _ _ _ hk, tkAt_set _ _ _ _ hk]
    split
    · exact ⟨rfl, Int.le_refl _, h2, Int.le_refl _, rfl⟩
    · exact Eas.refl _
  · rename_i e
    rw [if_neg e] at h
    split
    · rename_i e1
      rw [if_pos e1] at h
      have hi := hldVirt_impl h
      refine hldVirt_high ?_ ?_ ?_ ?_ h
      · rw [impl_iff] at hi ⊢
        refine ⟨hvm, fun t ht => ?_⟩
        rcases List.mem_or_eq_of_mem_set ht with h' | rfl
        · obtain ⟨j, hj, rfl⟩ := List.getElem_of_mem h'
          by_cases ej : k = j
          · subst ej
            have := hi.2 (withHigh (tkAt l k) n) (List.mem_set hk _)
            rw [← tkAt_eq l k hk]
            exact this
          · refine hi.2 _ ?_
            have hg : (setHigh l k n)[j]'(by rw [setHigh, List.length_set]; exact hj) = l[j] := by simp [setHigh, List.getElem_set_ne ej]
            rw [← hg]
            exact List.getElem_mem _
        · exact hi.2 (withHigh (tkAt l k) n) (List.mem_set hk _)
      · simp only [ua, setHigh, shares_set _ _ _ _ _ hk, withHigh, hc, Bool.true_eq_false, if_false]
      · simp only [ub, setHigh, shares_set _ _ _ _ _ hk, withHigh, hc, if_true]
        rfl
      · simp only [uh, setHigh, shares_set _ _ _ _ _ hk]
        have : shr true (withHigh (tkAt l k) m) ≤ shr true (withHigh (tkAt l k) n) := shr_mono (by simpa [needOf, withHigh] using h2) rfl (by simp only [withHigh]; omega)
        have e1 : (withHigh (tkAt l k) m).crit = true := hc
        have e2 : (withHigh (tkAt l k) n).crit = true := hc
        rw [if_pos e1, if_pos e2]
        grind
    · rename_i e1
      rw [if_neg e1] at h
      cases h

/-- The greatest number from 1 to n of which g is true. -/
def topP (g : Int → Bool) : Nat → Option Int
  | 0 => none
  | n + 1 => if g ((n : Int) + 1) then some ((n : Int) + 1) else topP g n
theorem topP_lt {g : Int → Bool} {n : Nat} {k : Int} (h : topP g n = some k) : 1 ≤ k ∧ k ≤ n ∧ g k = true ∧ ∀ j : Int, k < j → j ≤ n → g j = false := by
  induction n with
  | zero => simp [topP] at h
  | succ n ih =>
    simp only [topP] at h
    split at h
    · cases h
      exact ⟨by omega, by omega, by assumption, fun j h1 h2 => by omega⟩
    · obtain ⟨h0, h1, h2, h3⟩ := ih h
      refine ⟨h0, by omega, h2, fun j h4 h5 => ?_⟩
      by_cases e : j = (n : Int) + 1
      · subst e
        simpa using ‹¬ g ((n : Int) + 1) = true›
      · exact h3 j h4 (by omega)
theorem topP_of {g : Int → Bool} {n : Nat} {k : Int} (h1 : 1 ≤ k) (h2 : k ≤ n) (h : g k = true) : ∃ m, topP g n = some m ∧ k ≤ m := by
  induction n with
  | zero => omega
  | succ n ih =>
    simp only [topP]
    split
    · exact ⟨_, rfl, by omega⟩
    · rename_i hn
      by_cases e : k = (n : Int) + 1
      · subst e; exact absurd h hn
      · exact ih (by omega)
theorem topP_cut {g : Int → Bool} {n m : Nat} (hm : m ≤ n) (h : ∀ j : Int, (m : Int) < j → j ≤ n → g j = false) : topP g n = topP g m := by
  induction n with
  | zero =>
    obtain rfl : m = 0 := by omega
    rfl
  | succ n ih =>
    by_cases e : m = n + 1
    · rw [e]
    · simp only [topP]
      rw [h ((n : Int) + 1) (by omega) (by omega)]
      simp only [Bool.false_eq_true, if_false]
      exact ih (by omega) (fun j h1 h2 => h j h1 (by omega))

def mostH (l : List Tk) (k : Nat) (p : Int) : Option Int := topP (fun n => hldBy (setHigh l k n) p) 20
def mostL (l : List Tk) (k : Nat) (p : Int) : Option Int := topP (fun n => hldBy (setLow l k n) p) 20
def mostHigh (l : List Tk) (x : Int) (p : Int) : Option Int := if plc l x && (tkAt l x.toNat).crit && hldBy l p then mostH l x.toNat p else none
def mostLow (l : List Tk) (x : Int) (p : Int) : Option Int := if plc l x && hldBy l p then mostL l x.toNat p else none

theorem setHigh_bd {l : List Tk} {k : Nat} {n p : Int} (hk : k < l.length) (h : hldBy (setHigh l k n) p = true) : (tkAt l k).low ≤ n ∧ n ≤ (tkAt l k).due := by
  have := vld_nums (at_vld hk (hldBy_vld h))
  simp only [withHigh] at this
  omega
theorem setLow_bd {l : List Tk} {k : Nat} {n p : Int} (hk : k < l.length) (h : hldBy (setLow l k n) p = true) : 1 ≤ n ∧ n ≤ (tkAt l k).due ∧ ((tkAt l k).crit = true → n ≤ (tkAt l k).high) := by
  have := vld_nums (at_vld hk (hldBy_vld h))
  simp only [withLow] at this
  refine ⟨by omega, by omega, fun hc => ?_⟩
  rw [if_pos hc] at this
  omega
theorem mostH_due {l : List Tk} {k : Nat} (hk : k < l.length) (hl : setVld l = true) (p : Int) : mostH l k p = topP (fun n => hldBy (setHigh l k n) p) (tkAt l k).due.toNat := by
  have := vld_nums (tkAt_vld hl hk)
  refine topP_cut (by omega) fun j h1 h2 => ?_
  cases e : hldBy (setHigh l k j) p with
  | false => rfl
  | true => have := setHigh_bd hk e; omega
theorem mostL_due {l : List Tk} {k : Nat} (hk : k < l.length) (hl : setVld l = true) (p : Int) : mostL l k p = topP (fun n => hldBy (setLow l k n) p) (tkAt l k).due.toNat := by
  have := vld_nums (tkAt_vld hl hk)
  refine topP_cut (by omega) fun j h1 h2 => ?_
  cases e : hldBy (setLow l k j) p with
  | false => rfl
  | true => have := setLow_bd hk e; omega

/-- What is known where there is a greatest high need. -/
theorem mostHigh_some {l : List Tk} {x p n : Int} (h : mostHigh l x p = some n) :
    plc l x = true ∧ (tkAt l x.toNat).crit = true ∧ hldBy l p = true ∧ hldBy (setHigh l x.toNat n) p = true ∧ hldBy (setHigh l x.toNat (n + 1)) p = false ∧ (tkAt l x.toNat).high ≤ n ∧ n ≤ (tkAt l x.toNat).due ∧ n ≤ 20 := by
  simp only [mostHigh] at h
  split at h
  · rename_i hc
    simp only [Bool.and_eq_true] at hc
    obtain ⟨⟨hp, hcr⟩, hh⟩ := hc
    have hk : x.toNat < l.length := by
      simp only [plc, Bool.and_eq_true, decide_eq_true_eq] at hp
      omega
    have hvl := hldBy_vld hh
    have hv := vld_nums (tkAt_vld hvl hk)
    obtain ⟨h1, h2, h3, h4⟩ := topP_lt h
    have hb := setHigh_bd hk h3
    refine ⟨hp, hcr, hh, h3, ?_, ?_, hb.2, by omega⟩
    · by_cases e : n + 1 ≤ 20
      · exact h4 (n + 1) (by omega) (by omega)
      · cases e' : hldBy (setHigh l x.toNat (n + 1)) p with
        | false => rfl
        | true => have := setHigh_bd hk e'; omega
    · obtain ⟨m, hm1, hm2⟩ := topP_of (g := fun n => hldBy (setHigh l x.toNat n) p) (n := 20) (k := (tkAt l x.toNat).high) (by omega) (by omega) (by
        show hldBy (setHigh l x.toNat _) p = true
        rw [setHigh_self l _ hk]; exact hh)
      rw [mostH, hm1] at h
      cases h
      exact hm2
  · cases h
theorem mostLow_some {l : List Tk} {x p n : Int} (h : mostLow l x p = some n) :
    plc l x = true ∧ hldBy l p = true ∧ hldBy (setLow l x.toNat n) p = true ∧ (tkAt l x.toNat).low ≤ n ∧ n ≤ (tkAt l x.toNat).due ∧ n ≤ 20 ∧ ((tkAt l x.toNat).crit = true → n ≤ (tkAt l x.toNat).high) := by
  simp only [mostLow] at h
  split at h
  · rename_i hc
    simp only [Bool.and_eq_true] at hc
    obtain ⟨hp, hh⟩ := hc
    have hk : x.toNat < l.length := by
      simp only [plc, Bool.and_eq_true, decide_eq_true_eq] at hp
      omega
    have hvl := hldBy_vld hh
    have hv := vld_nums (tkAt_vld hvl hk)
    obtain ⟨h1, h2, h3, h4⟩ := topP_lt h
    have hb := setLow_bd hk h3
    refine ⟨hp, hh, h3, ?_, hb.2.1, by omega, hb.2.2⟩
    obtain ⟨m, hm1, hm2⟩ := topP_of (g := fun n => hldBy (setLow l x.toNat n) p) (n := 20) (k := (tkAt l x.toNat).low) (by omega) (by omega) (by
      show hldBy (setLow l x.toNat _) p = true
      rw [setLow_self l _ hk (tkAt_vld hvl hk)]; exact hh)
    rw [mostL, hm1] at h
    cases h
    exact hm2
  · cases h

/-- A task alone holds. -/
theorem setVld_one {t : Tk} (h : vld t = true) : setVld [t] = true := by simp [setVld, h]
theorem hldBoth_one {t : Tk} (h : vld t = true) : hldBoth [t] = true := by
  have b := vld_nums h
  have e1 : rl [] t = some t.low := by
    unfold rl
    exact risen_fix (by omega) (by simp [sumL])
  have e2 : t.crit = true → rs [] t = some t.high := by
    intro hc
    simp only [rs, e1, hc, if_true]
    exact risen_fix (by omega) (by simp [sumL])
  rw [hldBoth_eq, setVld_one h]
  simp only [hld, Bool.true_and, Bool.and_true, hAt]
  split
  · rename_i hc; rw [e2 hc]; rfl
  · rw [e1]; rfl
theorem hldVirt_one {t : Tk} (h : vld t = true) (hc : t.crit = true) (hd : t.due = t.every) : hldVirt [t] = true := by
  have : hldPlain [t] = true := by
    rw [hldPlain_iff, impl_iff]
    refine ⟨⟨setVld_one h, by simpa using hd⟩, ?_⟩
    have h1 := (shr_le (high := true) h).2
    simp only [ua, uh, shares, hc, if_true, Bool.true_eq_false, if_false]
    grind
  simp [hldVirt, this]
/-- The greatest high need of a critical task alone. -/
theorem mostHigh_one {l : List Tk} {x p n : Int} (h : mostHigh l x p = some n) : mostHigh [tkAt l x.toNat] 0 p = some (tkAt l x.toNat).due := by
  obtain ⟨hp, hcr, hh, _⟩ := mostHigh_some h
  have hk : x.toNat < l.length := by
    simp only [plc, Bool.and_eq_true, decide_eq_true_eq] at hp
    omega
  have hvl := hldBy_vld hh
  have hv := tkAt_vld hvl hk
  generalize ht : tkAt l x.toNat = t at *
  have hb := vld_nums hv
  have hone : ∀ s : Tk, vld s = true → s.crit = true → s.due = t.due → s.every = t.every → hldBy [s] p = true := by
    intro s hs hsc hd he
    unfold hldBy at hh ⊢
    split
    · exact hldBoth_one hs
    · rename_i e
      rw [if_neg e] at hh
      split
      · rename_i e1
        rw [if_pos e1] at hh
        refine hldVirt_one hs hsc ?_
        rw [hd, he, ← ht, tkAt_eq l _ hk]
        exact ((impl_iff l).1 (hldVirt_impl hh)).2 _ (List.getElem_mem hk)
      · rename_i e1
        rw [if_neg e1] at hh
        cases hh
  have hplc : plc [t] 0 = true := by simp [plc, setVld_one hv]
  have e0 : tkAt [t] (0 : Int).toNat = t := rfl
  simp only [mostHigh, hplc, e0, hcr, hone t hv hcr rfl rfl, Bool.true_and, if_true]
  have hw : hldBy (setHigh [t] 0 t.due) p = true := by
    refine hone (withHigh t t.due) ?_ hcr rfl rfl
    simp only [vld, withHigh, hcr, Bool.true_or, Bool.and_true, decide_eq_true_eq]
    omega
  obtain ⟨m, hm1, hm2⟩ := topP_of (g := fun n => hldBy (setHigh [t] 0 n) p) (n := 20) (k := t.due) (by omega) (by omega) hw
  have hm3 := setHigh_bd (by simp) (topP_lt hm1).2.2.1
  rw [mostH]
  have : m = t.due := by have := hm3.2; simp [tkAt] at this; omega
  rw [← this]
  exact hm1
end Go.Proofs.Ytmkjmancmiphfaa
