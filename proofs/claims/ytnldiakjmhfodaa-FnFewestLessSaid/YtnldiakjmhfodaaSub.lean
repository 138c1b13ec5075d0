/-
  Response times by what comes before a task, in plain Lean: fewer tasks before it, or easier ones, do no harm.
-/
import Derived.Test.YtnldiakjmhfodaaDemand
namespace Go.Proofs.Ytnldiakjmhfodaa

def sumL (f : Tk → Int) : List Tk → Int
  | [] => 0
  | t :: l => f t + sumL f l
theorem sumL_append (f : Tk → Int) (a b : List Tk) : sumL f (a ++ b) = sumL f a + sumL f b := by
  induction a with
  | nil => simp [sumL]
  | cons t a ih => simp only [List.cons_append, sumL, ih]; omega
theorem sumL_take (f : Tk → Int) (l : List Tk) (n : Nat) (hn : n ≤ l.length) : sumTo (fun k => f (tkAt l k)) n = sumL f (l.take n) := by
  induction n with
  | zero => simp [sumTo, sumL]
  | succ n ih =>
    rw [List.take_succ_eq_append_getElem (by omega), sumL_append, ← ih (by omega)]
    simp [sumTo, sumL, tkAt_eq l n (by omega)]
theorem sumL_nonneg {f : Tk → Int} {l : List Tk} (h : ∀ t ∈ l, 0 ≤ f t) : 0 ≤ sumL f l := by
  induction l with
  | nil => simp [sumL]
  | cons t l ih =>
    have h1 := ih (fun s hs => h s (List.mem_cons_of_mem _ hs))
    have h2 := h t (by simp)
    simp only [sumL]
    omega
theorem sumL_le {f g : Tk → Int} {l : List Tk} (h : ∀ t ∈ l, f t ≤ g t) : sumL f l ≤ sumL g l := by
  induction l with
  | nil => simp [sumL]
  | cons t l ih =>
    have h1 := ih (fun s hs => h s (List.mem_cons_of_mem _ hs))
    have h2 := h t (by simp)
    simp only [sumL]
    omega
theorem sumL_perm {f : Tk → Int} {a b : List Tk} (h : a.Perm b) : sumL f a = sumL f b := by
  induction h with
  | nil => rfl
  | cons x _ ih => simp only [sumL, ih]
  | swap x y l => simp only [sumL]; omega
  | trans _ _ h1 h2 => exact h1.trans h2

/-- Each task of a is in b, as often. -/
def Sub (a b : List Tk) : Prop := ∀ t, a.count t ≤ b.count t
theorem Sub.refl (a : List Tk) : Sub a a := fun _ => Nat.le_refl _
theorem Sub.trans {a b c : List Tk} (h : Sub a b) (g : Sub b c) : Sub a c := fun t => Nat.le_trans (h t) (g t)
theorem Sub.perm {a b : List Tk} (h : a.Perm b) : Sub a b := fun t => Nat.le_of_eq (h.count_eq t)
theorem Sub.sub {a b : List Tk} (h : a.Sublist b) : Sub a b := fun t => h.count_le t
theorem Sub.app {a b c d : List Tk} (h : Sub a b) (g : Sub c d) : Sub (a ++ c) (b ++ d) := fun t => by
  have h1 := h t
  have h2 := g t
  rw [List.count_append, List.count_append]
  omega
theorem Sub.mem {a b : List Tk} (h : Sub a b) {t : Tk} (ht : t ∈ a) : t ∈ b := by
  have h1 := h t
  have h2 := List.count_pos_iff.2 ht
  exact List.count_pos_iff.1 (by omega)
theorem Sub.erase {a b : List Tk} {x : Tk} (h : Sub (x :: a) b) : Sub a (b.erase x) := fun t => by
  have h1 := h t
  rw [List.count_cons] at h1
  rw [List.count_erase]
  split <;> simp_all <;> omega
theorem sumL_sub {f : Tk → Int} {a b : List Tk} (h : Sub a b) (h0 : ∀ t ∈ b, 0 ≤ f t) : sumL f a ≤ sumL f b := by
  induction a generalizing b with
  | nil => exact sumL_nonneg h0
  | cons x a ih =>
    have hx : x ∈ b := h.mem (by simp)
    rw [sumL_perm (List.perm_cons_erase hx)]
    have := ih (b := b.erase x) h.erase (fun t ht => h0 t (List.mem_of_mem_erase ht))
    simp only [sumL]
    omega
/-- A part of p in another order is an ordered part of it, up to the order. -/
theorem Sub.sublist {a p : List Tk} (h : Sub a p) : ∃ q : List Tk, q.Perm a ∧ q.Sublist p := by
  induction p generalizing a with
  | nil =>
    cases a with
    | nil => exact ⟨[], List.Perm.refl _, List.Sublist.refl _⟩
    | cons x a =>
      have := h.mem (t := x) (by simp)
      simp at this
  | cons x p ih =>
    by_cases hx : x ∈ a
    · have hp := List.perm_cons_erase hx
      obtain ⟨q, h1, h2⟩ := ih (a := a.erase x) (fun t => by
        have h1 := h t
        rw [hp.count_eq t, List.count_cons, List.count_cons] at h1
        omega)
      exact ⟨x :: q, (h1.cons x).trans hp.symm, h2.cons_cons x⟩
    · obtain ⟨q, h1, h2⟩ := ih (a := a) (fun t => by
        have h1 := h t
        by_cases e : t = x
        · subst e
          rw [List.count_eq_zero_of_not_mem hx]
          omega
        · rw [List.count_cons_of_ne (by simpa using fun h => e h.symm)] at h1
          exact h1)
      exact ⟨q, h1, h2.cons x⟩
theorem Sub.length {a b : List Tk} (h : Sub a b) : a.length ≤ b.length := by
  obtain ⟨q, h1, h2⟩ := h.sublist
  rw [← h1.length_eq]
  exact h2.length_le

/-! ### The least fixed point, once more -/
theorem risen_isSome {next : Int → Int} {most v : Int} (hm : ∀ v u, v ≤ u → next v ≤ next u) (hv : v ≤ most) (hn : next v ≤ v) :
    ∀ (k : Nat) (w : Int), (most + 1 - w).toNat = k → w ≤ v → w ≤ next w → (risen next w most).isSome = true := by
  intro k
  induction k using Nat.strongRecOn with
  | _ k ih =>
    intro w hk hwv hw
    by_cases e : next w = w
    · rw [risen_fix (by omega) e]; rfl
    · rw [risen_step (by omega) (by omega) hm]
      have h1 := hm _ _ hwv
      exact ih (most + 1 - next w).toNat (by omega) (next w) rfl (by omega) (hm _ _ hw)
theorem risen_mono {f g : Int → Int} {sf sg mf mg r : Int} (hf : ∀ v u, v ≤ u → f v ≤ f u) (hg : ∀ v u, v ≤ u → g v ≤ g u) (hfg : ∀ v, sg ≤ v → f v ≤ g v) (hs : sf ≤ sg) (hm : mg ≤ mf) (f0 : sf ≤ f sf) (g0 : sg ≤ g sg)
    (h : risen g sg mg = some r) : ∃ r', risen f sf mf = some r' ∧ r' ≤ r ∧ sf ≤ r' := by
  obtain ⟨a, b, c, d⟩ := (risen_some hg g0 r).1 h
  have h1 := hfg r a
  have h2 := risen_isSome hf (most := mf) (v := r) (by omega) (by omega) _ sf rfl (by omega) f0
  obtain ⟨r', hr'⟩ := Option.isSome_iff_exists.1 h2
  obtain ⟨a', b', c', d'⟩ := (risen_some hf f0 r').1 hr'
  exact ⟨r', hr', d' r (by omega) (by omega), a'⟩

/-! ### A task behind others -/
def rl (hp : List Tk) (t : Tk) : Option Int := risen (fun w => t.low + sumL (fun s => demF s w false) hp) t.low t.due
def rs (hp : List Tk) (t : Tk) : Option Int :=
  match rl hp t with
  | none => none
  | some low => if t.crit then risen (fun w => t.high + sumL (fun s => swDem s low w) hp) t.high t.due else none
def hAt (hp : List Tk) (t : Tk) : Bool := if t.crit then (rs hp t).isSome else (rl hp t).isSome

theorem respLow_eq {l : List Tk} {n : Nat} (hn : n ≤ l.length) : respLow l n = rl (l.take n) (tkAt l n) := by
  have e : nextLow l n = fun w => (tkAt l n).low + sumL (fun s => demF s w false) (l.take n) := by
    funext w
    simp only [nextLow, lowSum]
    rw [sumL_take (fun t => demF t w false) l n hn]
  simp only [respLow, rl, e]
theorem respSw_eq {l : List Tk} {n : Nat} (hn : n ≤ l.length) : respSw l n = rs (l.take n) (tkAt l n) := by
  have e : ∀ low, nextSw l low n = fun w => (tkAt l n).high + sumL (fun s => swDem s low w) (l.take n) := by
    intro low
    funext w
    simp only [nextSw, swSum]
    rw [sumL_take (fun t => swDem t low w) l n hn]
  unfold respSw rs
  rw [respLow_eq hn]
  cases rl (l.take n) (tkAt l n) with
  | none => rfl
  | some low => simp only [e]
theorem holdsAt_eq {l : List Tk} {n : Nat} (hn : n ≤ l.length) : holdsAt l n = hAt (l.take n) (tkAt l n) := by
  simp only [holdsAt, hAt, respLow_eq hn, respSw_eq hn]

theorem rl_perm {a b : List Tk} (h : a.Perm b) (t : Tk) : rl a t = rl b t := by
  have e : (fun w => t.low + sumL (fun s => demF s w false) a) = (fun w => t.low + sumL (fun s => demF s w false) b) := funext fun w => by rw [sumL_perm h]
  simp only [rl, e]
theorem hAt_perm {a b : List Tk} (h : a.Perm b) (t : Tk) : hAt a t = hAt b t := by
  have e : ∀ low, (fun w => t.high + sumL (fun s => swDem s low w) a) = (fun w => t.high + sumL (fun s => swDem s low w) b) := fun low => funext fun w => by rw [sumL_perm h]
  simp only [hAt, rs, rl_perm h, e]

theorem swDem_low {t : Tk} (h : vld t = true) {a b : Int} (hab : a ≤ b) (w : Int) : swDem t a w ≤ swDem t b w := by
  unfold swDem
  split
  · omega
  · exact demF_mono h _ hab
theorem swDem_nonneg {t : Tk} (h : vld t = true) {a w : Int} (ha : 0 ≤ a) (hw : 0 ≤ w) : 0 ≤ swDem t a w := by
  unfold swDem
  split
  · exact (demF_bd h _ hw).1
  · exact (demF_bd h _ ha).1

theorem hAt_mono {hp hp' : List Tk} {t t' : Tk} (vp : ∀ s ∈ hp, vld s = true) (vp' : ∀ s ∈ hp', vld s = true) (vt : vld t = true) (vt' : vld t' = true)
    (hc : t'.crit = t.crit) (hl : t'.low ≤ t.low) (hh : t'.high ≤ t.high) (hd : t.due ≤ t'.due)
    (h1 : ∀ w, 0 ≤ w → sumL (fun s => demF s w false) hp' ≤ sumL (fun s => demF s w false) hp)
    (h2 : ∀ low w, 0 ≤ low → 0 ≤ w → sumL (fun s => swDem s low w) hp' ≤ sumL (fun s => swDem s low w) hp) (h : hAt hp t = true) : hAt hp' t' = true := by
  obtain ⟨n1, n2, n3, n4, n5⟩ := vld_nums vt
  obtain ⟨n1', n2', n3', n4', n5'⟩ := vld_nums vt'
  have ml : ∀ {q : List Tk} (c : Int), (∀ s ∈ q, vld s = true) → ∀ v u, v ≤ u → c + sumL (fun s => demF s v false) q ≤ c + sumL (fun s => demF s u false) q := by
    intro q c hq v u hvu
    have := sumL_le (f := fun s => demF s v false) (g := fun s => demF s u false) (l := q) (fun s hs => demF_mono (hq s hs) _ hvu)
    omega
  have ms : ∀ {q : List Tk} (c low : Int), (∀ s ∈ q, vld s = true) → ∀ v u, v ≤ u → c + sumL (fun s => swDem s low v) q ≤ c + sumL (fun s => swDem s low u) q := by
    intro q c low hq v u hvu
    have := sumL_le (f := fun s => swDem s low v) (g := fun s => swDem s low u) (l := q) (fun s hs => swDem_mono (hq s hs) _ hvu)
    omega
  have zl : ∀ {q : List Tk} (w : Int), (∀ s ∈ q, vld s = true) → 0 ≤ w → 0 ≤ sumL (fun s => demF s w false) q := fun w hq hw => sumL_nonneg fun s hs => (demF_bd (hq s hs) _ hw).1
  have zs : ∀ {q : List Tk} (low w : Int), (∀ s ∈ q, vld s = true) → 0 ≤ low → 0 ≤ w → 0 ≤ sumL (fun s => swDem s low w) q := fun low w hq hlo hw => sumL_nonneg fun s hs => swDem_nonneg (hq s hs) hlo hw
  have key : ∀ r, rl hp t = some r → ∃ r', rl hp' t' = some r' ∧ r' ≤ r ∧ t'.low ≤ r' := by
    intro r hr
    refine risen_mono (ml _ vp') (ml _ vp) (fun v hv => ?_) hl hd ?_ ?_ hr
    · have := h1 v (by omega)
      omega
    · have := zl t'.low vp' (by omega)
      omega
    · have := zl t.low vp (by omega)
      omega
  cases ht : t.crit with
  | false =>
    simp only [hAt, hc, ht] at h ⊢
    simp only [Bool.false_eq_true, if_false] at h ⊢
    obtain ⟨r, hr⟩ := Option.isSome_iff_exists.1 h
    obtain ⟨r', hr', _⟩ := key r hr
    rw [hr']
    rfl
  | true =>
    simp only [hAt, hc, ht, if_true] at h ⊢
    cases hr : rl hp t with
    | none => simp [rs, hr] at h
    | some r =>
      obtain ⟨r', hr', hle, hlo⟩ := key r hr
      simp only [rs, hr, hr', hc, ht, if_true] at h ⊢
      obtain ⟨x, hx⟩ := Option.isSome_iff_exists.1 h
      obtain ⟨x', hx', _⟩ := risen_mono (f := fun w => t'.high + sumL (fun s => swDem s r' w) hp') (sf := t'.high) (mf := t'.due) (ms _ _ vp') (ms _ _ vp) (fun v hv => by
          have a := h2 r' v (by omega) (by omega)
          have b := sumL_le (f := fun s => swDem s r' v) (g := fun s => swDem s r v) (l := hp) (fun s hs => swDem_low (vp s hs) hle v)
          omega) hh hd (by have := zs r' t'.high vp' (by omega) (by omega); omega) (by have := zs r t.high vp (by omega) (by omega); omega) hx
      rw [hx']
      rfl
theorem hAt_sub {hp hp' : List Tk} {t : Tk} (hs : Sub hp' hp) (vp : ∀ s ∈ hp, vld s = true) (vt : vld t = true) (h : hAt hp t = true) : hAt hp' t = true :=
  hAt_mono vp (fun s h => vp s (hs.mem h)) vt vt rfl (Int.le_refl _) (Int.le_refl _) (Int.le_refl _)
    (fun _ hw => sumL_sub hs fun s h => (demF_bd (vp s h) _ hw).1) (fun _ _ hl hw => sumL_sub hs fun s h => swDem_nonneg (vp s h) hl hw) h

/-! ### Tasks in their places -/
def hld (hp : List Tk) : List Tk → Bool
  | [] => true
  | t :: l => hAt hp t && hld (hp ++ [t]) l
theorem hld_append (hp a b : List Tk) : hld hp (a ++ b) = (hld hp a && hld (hp ++ a) b) := by
  induction a generalizing hp with
  | nil => simp [hld]
  | cons t a ih => simp only [List.cons_append, hld, ih, Bool.and_assoc, List.append_assoc, List.cons_append, List.nil_append]
theorem hld_perm {a b : List Tk} (h : a.Perm b) (l : List Tk) : hld a l = hld b l := by
  induction l generalizing a b with
  | nil => rfl
  | cons t l ih => simp only [hld, hAt_perm h, ih (h.append_right [t])]
theorem hld_iff (hp l : List Tk) : hld hp l = true ↔ ∀ k, k < l.length → hAt (hp ++ l.take k) (tkAt l k) = true := by
  induction l generalizing hp with
  | nil => simp [hld]
  | cons t l ih =>
    simp only [hld, Bool.and_eq_true, ih]
    constructor
    · rintro ⟨h1, h2⟩ k hk
      cases k with
      | zero => simpa [tkAt] using h1
      | succ k => simpa [tkAt, List.append_assoc] using h2 k (by simpa using hk)
    · intro h
      refine ⟨by simpa [tkAt] using h 0 (by simp), fun k hk => ?_⟩
      simpa [tkAt, List.append_assoc] using h (k + 1) (by simpa using hk)
theorem hldBoth_eq (l : List Tk) : hldBoth l = (setVld l && hld [] l) := by
  rw [hldBoth]
  congr 1
  rw [Bool.eq_iff_iff, hld_iff]
  simp only [List.all_eq_true, List.mem_range, List.nil_append]
  constructor
  · intro h k hk
    rw [← holdsAt_eq (by omega)]
    exact h k hk
  · intro h k hk
    rw [holdsAt_eq (by omega)]
    exact h k hk
theorem hld_sub {a b : List Tk} (h : a.Sublist b) {hp hp' : List Tk} (hs : Sub hp' hp) (vp : ∀ s ∈ hp, vld s = true) (vb : ∀ s ∈ b, vld s = true) (hb : hld hp b = true) : hld hp' a = true := by
  induction h generalizing hp hp' with
  | slnil => rfl
  | cons x h ih =>
    rename_i a b
    simp only [hld, Bool.and_eq_true] at hb
    refine ih (hs.trans (Sub.sub (by simp))) ?_ (fun s h => vb s (List.mem_cons_of_mem _ h)) hb.2
    intro s h
    simp only [List.mem_append, List.mem_singleton] at h
    rcases h with h | rfl
    · exact vp s h
    · exact vb _ (by simp)
  | cons_cons x h ih =>
    rename_i a b
    simp only [hld, Bool.and_eq_true] at hb ⊢
    refine ⟨hAt_sub hs vp (vb x (by simp)) hb.1, ih (hs.app (Sub.refl _)) ?_ (fun s h => vb s (List.mem_cons_of_mem _ h)) hb.2⟩
    intro s h
    simp only [List.mem_append, List.mem_singleton] at h
    rcases h with h | rfl
    · exact vp s h
    · exact vb _ (by simp)
theorem setVld_sub {a b : List Tk} (h : Sub a b) (hb : setVld b = true) : setVld a = true := by
  obtain ⟨h1, h2⟩ := setVld_all hb
  have := h.length
  simp only [setVld, Bool.and_eq_true, decide_eq_true_eq, List.all_eq_true]
  exact ⟨by omega, fun t ht => h2 t (h.mem ht)⟩
/-- Tasks hold by their places when some leave. -/
theorem hldBoth_sub {a b : List Tk} (h : a.Sublist b) (hb : hldBoth b = true) : hldBoth a = true := by
  rw [hldBoth_eq, Bool.and_eq_true] at hb ⊢
  exact ⟨setVld_sub (Sub.sub h) hb.1, hld_sub h (Sub.refl _) (by simp) (setVld_all hb.1).2 hb.2⟩
end Go.Proofs.Ytnldiakjmhfodaa
