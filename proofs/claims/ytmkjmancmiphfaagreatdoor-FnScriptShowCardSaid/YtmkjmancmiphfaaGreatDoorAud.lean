/-
  Response times by what comes before a task, in plain Lean: fewer tasks before it, or easier ones, do no harm.
  Audsley's way to assign priorities, in plain Lean: what it finds holds, and it finds an order if there is one.
-/
import Derived.Test.YtmkjmancmiphfaaGreatDoorDemand
namespace Go.Proofs.YtmkjmancmiphfaaGreatDoor


def sumL (f : Tk → Int) : List Tk → Int
  | [] => 0
  | t :: l => f t + sumL f l
theorem sumL_append (f : Tk → Int) (a b : List Tk) : sumL f (a ++ b) = sumL f a + sumL f b := by
  induction a with
  | nil => simp [sumL]
  | cons t a ih => simp only [List.cons_append, sumL, ih]; omega
theorem sumL_take (f : Tk → Int) (l : List Tk) (n : Nat) (hn : n ≤ l.length) : sumTo (fun k => f (tkAt l k)) n = sumL f (l.take n) := by
  induction n with
  | zero => simp [sumTo, sumL]
  | succ n ih =>
    rw [List.take_succ_eq_append_getElem (by omega), sumL_append, ← ih (by omega)]
    simp [sumTo, sumL, tkAt_eq l n (by omega)]
theorem sumL_nonneg {f : Tk → Int} {l : List Tk} (h : ∀ t ∈ l, 0 ≤ f t) : 0 ≤ sumL f l := by
  induction l with
  | nil => simp [sumL]
  | cons t l ih =>
    have h1 := ih (fun s hs => h s (List.mem_cons_of_mem _ hs))
    have h2 := h t (by simp)
    simp only [sumL]
    omega
theorem sumL_le {f g : Tk → Int} {l : List Tk} (h : ∀ t ∈ l, f t ≤ g t) : sumL f l ≤ sumL g l := by
  induction l with
  | nil => simp [sumL]
  | cons t l ih =>
    have h1 := ih (fun s hs => h s (List.mem_cons_of_mem _ hs))
    have h2 := h t (by simp)
    simp only [sumL]
    omega
theorem sumL_perm {f : Tk → Int} {a b : List Tk} (h : a.Perm b) : sumL f a = sumL f b := by
  induction h with
  | nil => rfl
  | cons x _ ih => simp only [sumL, ih]
  | swap x y l => simp only [sumL]; omega
  | trans _ _ h1 h2 => exact h1.trans h2

/-- Each task of a is in b, as often. -/
def Sub (a b : List Tk) : Prop := ∀ t, a.count t ≤ b.count t
theorem Sub.refl (a : List Tk) : Sub a a := fun _ => Nat.le_refl _
theorem Sub.trans {a b c : List Tk} (h : Sub a b) (g : Sub b c) : Sub a c := fun t => Nat.le_trans (h t) (g t)
theorem Sub.perm {a b : List Tk} (h : a.Perm b) : Sub a b := fun t => Nat.le_of_eq (h.count_eq t)
theorem Sub.sub {a b : List Tk} (h : a.Sublist b) : Sub a b := fun t => h.count_le t
theorem Sub.app {a b c d : List Tk} (h : Sub a b) (g : Sub c d) : Sub (a ++ c) (b ++ d) := fun t => by
  have h1 := h t
  have h2 := g t
  rw [List.count_append, List.count_append]
  omega
theorem Sub.mem {a b : List Tk} (h : Sub a b) {t : Tk} (ht : t ∈ a) : t ∈ b := by
  have h1 := h t
  have h2 := List.count_pos_iff.2 ht
  exact List.count_pos_iff.1 (by omega)
theorem Sub.erase {a b : List Tk} {x : Tk} (h : Sub (x :: a) b) : Sub a (b.erase x) := fun t => by
  have h1 := h t
  rw [List.count_cons] at h1
  rw [List.count_erase]
  split <;> simp_all <;> omega
theorem sumL_sub {f : Tk → Int} {a b : List Tk} (h : Sub a b) (h0 : ∀ t ∈ b, 0 ≤ f t) : sumL f a ≤ sumL f b := by
  induction a generalizing b with
  | nil => exact sumL_nonneg h0
  | cons x a ih =>
    have hx : x ∈ b := h.mem (by simp)
    rw [sumL_perm (List.perm_cons_erase hx)]
    have := ih (b := b.erase x) h.erase (fun t ht => h0 t (List.mem_of_mem_erase ht))
    simp only [sumL]
    omega
/-- A part of p in another order is an ordered part of it, up to the order. -/
theorem Sub.sublist {a p : List Tk} (h : Sub a p) : ∃ q : List Tk, q.Perm a ∧ q.Sublist p := by
  induction p generalizing a with
  | nil =>
    cases a with
    | nil => exact ⟨[], List.Perm.refl _, List.Sublist.refl _⟩
    | cons x a =>
      have := h.mem (t := x) (by simp)
      simp at this
  | cons x p ih =>
    by_cases hx : x ∈ a
    · have hp := List.perm_cons_erase hx
      obtain ⟨q, h1, h2⟩ := ih (a := a.erase x) (fun t => by
        have h1 := h t
        rw [hp.count_eq t, List.count_cons, List.count_cons] at h1
        omega)
      exact ⟨x :: q, (h1.cons x).trans hp.symm, h2.cons_cons x⟩
    · obtain ⟨q, h1, h2⟩ := ih (a := a) (fun t => by
        have h1 := h t
        by_cases e : t = x
        · subst e
          rw [List.count_eq_zero_of_not_mem hx]
          omega
        · rw [List.count_cons_of_ne (by simpa using fun h => e h.symm)] at h1
          exact h1)
      exact ⟨q, h1, h2.cons x⟩
theorem Sub.length {a b : List Tk} (h : Sub a b) : a.length ≤ b.length := by
  obtain ⟨q, h1, h2⟩ := h.sublist
  rw [← h1.length_eq]
  exact h2.length_le

/-! ### The least fixed point, once more -/
theorem risen_isSome {next : Int → Int} {most v : Int} (hm : ∀ v u, v ≤ u → next v ≤ next u) (hv : v ≤ most) (hn : next v ≤ v) :
    ∀ (k : Nat) (w : Int), (most + 1 - w).toNat = k → w ≤ v → w ≤ next w → (risen next w most).isSome = true := by
  intro k
  induction k using Nat.strongRecOn with
  | _ k ih =>
    intro w hk hwv hw
    by_cases e : next w = w
    · rw [risen_fix (by omega) e]; rfl
    · rw [risen_step (by omega) (by omega) hm]
      have h1 := hm _ _ hwv
      exact ih (most + 1 - next w).toNat (by omega) (next w) rfl (by omega) (hm _ _ hw)
theorem risen_mono {f g : Int → Int} {sf sg mf mg r : Int} (hf : ∀ v u, v ≤ u → f v ≤ f u) (hg : ∀ v u, v ≤ u → g v ≤ g u) (hfg : ∀ v, sg ≤ v → f v ≤ g v) (hs : sf ≤ sg) (hm : mg ≤ mf) (f0 : sf ≤ f sf) (g0 : sg ≤ g sg)
    (h : risen g sg mg = some r) : ∃ r', risen f sf mf = some r' ∧ r' ≤ r ∧ sf ≤ r' := by
  obtain ⟨a, b, c, d⟩ := (risen_some hg g0 r).1 h
  have h1 := hfg r a
  have h2 := risen_isSome hf (most := mf) (v := r) (by omega) (by omega) _ sf rfl (by omega) f0
  obtain ⟨r', hr'⟩ := Option.isSome_iff_exists.1 h2
  obtain ⟨a', b', c', d'⟩ := (risen_some hf f0 r').1 hr'
  exact ⟨r', hr', d' r (by omega) (by omega), a'⟩

/-! ### A task behind others -/
def rl (hp : List Tk) (t : Tk) : Option Int := risen (fun w => t.low + sumL (fun s => demF s w false) hp) t.low t.due
def rs (hp : List Tk) (t : Tk) : Option Int :=
  match rl hp t with
  | none => none
  | some low => if t.crit then risen (fun w => t.high + sumL (fun s => swDem s low w) hp) t.high t.due else none
def hAt (hp : List Tk) (t : Tk) : Bool := if t.crit then (rs hp t).isSome else (rl hp t).isSome

theorem respLow_eq {l : List Tk} {n : Nat} (hn : n ≤ l.length) : respLow l n = rl (l.take n) (tkAt l n) := by
  have e : nextLow l n = fun w => (tkAt l n).low + sumL (fun s => demF s w false) (l.take n) := by
    funext w
    simp only [nextLow, lowSum]
    rw [sumL_take (fun t => demF t w false) l n hn]
  simp only [respLow, rl, e]
theorem respSw_eq {l : List Tk} {n : Nat} (hn : n ≤ l.length) : respSw l n = rs (l.take n) (tkAt l n) := by
  have e : ∀ low, nextSw l low n = fun w => (tkAt l n).high + sumL (fun s => swDem s low w) (l.take n) := by
    intro low
    funext w
    simp only [nextSw, swSum]
    rw [sumL_take (fun t => swDem t low w) l n hn]
  unfold respSw rs
  rw [respLow_eq hn]
  cases rl (l.take n) (tkAt l n) with
  | none => rfl
  | some low => simp only [e]
theorem holdsAt_eq {l : List Tk} {n : Nat} (hn : n ≤ l.length) : holdsAt l n = hAt (l.take n) (tkAt l n) := by
  simp only [holdsAt, hAt, respLow_eq hn, respSw_eq hn]

theorem rl_perm {a b : List Tk} (h : a.Perm b) (t : Tk) : rl a t = rl b t := by
  have e : (fun w => t.low + sumL (fun s => demF s w false) a) = (fun w => t.low + sumL (fun s => demF s w false) b) := funext fun w => by rw [sumL_perm h]
  simp only [rl, e]
theorem hAt_perm {a b : List Tk} (h : a.Perm b) (t : Tk) : hAt a t = hAt b t := by
  have e : ∀ low, (fun w => t.high + sumL (fun s => swDem s low w) a) = (fun w => t.high + sumL (fun s => swDem s low w) b) := fun low => funext fun w => by rw [sumL_perm h]
  simp only [hAt, rs, rl_perm h, e]

theorem swDem_low {t : Tk} (h : vld t = true) {a b : Int} (hab : a ≤ b) (w : Int) : swDem t a w ≤ swDem t b w := by
  unfold swDem
  split
  · omega
  · exact demF_mono h _ hab
theorem swDem_nonneg {t : Tk} (h : vld t = true) {a w : Int} (ha : 0 ≤ a) (hw : 0 ≤ w) : 0 ≤ swDem t a w := by
  unfold swDem
  split
  · exact (demF_bd h _ hw).1
  · exact (demF_bd h _ ha).1

theorem hAt_mono {hp hp' : List Tk} {t t' : Tk} (vp : ∀ s ∈ hp, vld s = true) (vp' : ∀ s ∈ hp', vld s = true) (vt : vld t = true) (vt' : vld t' = true)
    (hc : t'.crit = t.crit) (hl : t'.low ≤ t.low) (hh : t'.high ≤ t.high) (hd : t.due ≤ t'.due)
    (h1 : ∀ w, 0 ≤ w → sumL (fun s => demF s w false) hp' ≤ sumL (fun s => demF s w false) hp)
    (h2 : ∀ low w, 0 ≤ low → 0 ≤ w → sumL (fun s => swDem s low w) hp' ≤ sumL (fun s => swDem s low w) hp) (h : hAt hp t = true) : hAt hp' t' = true := by
  obtain ⟨n1, n2, n3, n4, n5⟩ := vld_nums vt
  obtain ⟨n1', n2', n3', n4', n5'⟩ := vld_nums vt'
  have ml : ∀ {q : List Tk} (c : Int), (∀ s ∈ q, vld s = true) → ∀ v u, v ≤ u → c + sumL (fun s => demF s v false) q ≤ c + sumL (fun s => demF s u false) q := by
    intro q c hq v u hvu
    have := sumL_le (f := fun s => demF s v false) (g := fun s => demF s u false) (l := q) (fun s hs => demF_mono (hq s hs) _ hvu)
    omega
  have ms : ∀ {q : List Tk} (c low : Int), (∀ s ∈ q, vld s = true) → ∀ v u, v ≤ u → c + sumL (fun s => swDem s low v) q ≤ c + sumL (fun s => swDem s low u) q := by
    intro q c low hq v u hvu
    have := sumL_le (f := fun s => swDem s low v) (g := fun s => swDem s low u) (l := q) (fun s hs => swDem_mono (hq s hs) _ hvu)
    omega
  have zl : ∀ {q : List Tk} (w : Int), (∀ s ∈ q, vld s = true) → 0 ≤ w → 0 ≤ sumL (fun s => demF s w false) q := fun w hq hw => sumL_nonneg fun s hs => (demF_bd (hq s hs) _ hw).1
  have zs : ∀ {q : List Tk} (low w : Int), (∀ s ∈ q, vld s = true) → 0 ≤ low → 0 ≤ w → 0 ≤ sumL (fun s => swDem s low w) q := fun low w hq hlo hw => sumL_nonneg fun s hs => swDem_nonneg (hq s hs) hlo hw
  have key : ∀ r, rl hp t = some r → ∃ r', rl hp' t' = some r' ∧ r' ≤ r ∧ t'.low ≤ r' := by
    intro r hr
    refine risen_mono (ml _ vp') (ml _ vp) (fun v hv => ?_) hl hd ?_ ?_ hr
    · have := h1 v (by omega)
      omega
    · have := zl t'.low vp' (by omega)
      omega
    · have := zl t.low vp (by omega)
      omega
  cases ht : t.crit with
  | false =>
    simp only [hAt, hc, ht] at h ⊢
    simp only [Bool.false_eq_true, if_false] at h ⊢
    obtain ⟨r, hr⟩ := Option.isSome_iff_exists.1 h
    obtain ⟨r', hr', _⟩ := key r hr
    rw [hr']
    rfl
  | true =>
    simp only [hAt, hc, ht, if_true] at h ⊢
    cases hr : rl hp t with
    | none => simp [rs, hr] at h
    | some r =>
      obtain ⟨r', hr', hle, hlo⟩ := key r hr
      simp only [rs, hr, hr', hc, ht, if_true] at h ⊢
      obtain ⟨x, hx⟩ := Option.isSome_iff_exists.1 h
      obtain ⟨x', hx', _⟩ := risen_mono (f := fun w => t'.high + sumL (fun s => swDem s r' w) hp') (sf := t'.high) (mf := t'.due) (ms _ _ vp') (ms _ _ vp) (fun v hv => by
          have a := h2 r' v (by omega) (by omega)
          have b := sumL_le (f := fun s => swDem s r' v) (g := fun s => swDem s r v) (l := hp) (fun s hs => swDem_low (vp s hs) hle v)
          omega) hh hd (by have := zs r' t'.high vp' (by omega) (by omega); omega) (by have := zs r t.high vp (by omega) (by omega); omega) hx
      rw [hx']
      rfl
theorem hAt_sub {hp hp' : List Tk} {t : Tk} (hs : Sub hp' hp) (vp : ∀ s ∈ hp, vld s = true) (vt : vld t = true) (h : hAt hp t = true) : hAt hp' t = true :=
  hAt_mono vp (fun s h => vp s (hs.mem h)) vt vt rfl (Int.le_refl _) (Int.le_refl _) (Int.le_refl _)
    (fun _ hw => sumL_sub hs fun s h => (demF_bd (vp s h) _ hw).1) (fun _ _ hl hw => sumL_sub hs fun s h => swDem_nonneg (vp s h) hl hw) h

/-! ### Tasks in their places -/
def hld (hp : List Tk) : List Tk → Bool
  | [] => true
  | t :: l => hAt hp t && hld (hp ++ [t]) l
theorem hld_append (hp a b : List Tk) : hld hp (a ++ b) = (hld hp a && hld (hp ++ a) b) := by
  induction a generalizing hp with
  | nil => simp [hld]
  | cons t a ih => simp only [List.cons_append, hld, ih, Bool.and_assoc, List.append_assoc, List.cons_append, List.nil_append]
theorem hld_perm {a b : List Tk} (h : a.Perm b) (l : List Tk) : hld a l = hld b l := by
  induction l generalizing a b with
  | nil => rfl
  | cons t l ih => simp only [hld, hAt_perm h, ih (h.append_right [t])]
theorem hld_iff (hp l : List Tk) : hld hp l = true ↔ ∀ k, k < l.length → hAt (hp ++ l.take k) (tkAt l k) = true := by
  induction l generalizing hp with
  | nil => simp [hld]
  | cons t l ih =>
    simp only [hld, Bool.and_eq_true, ih]
    constructor
    · rintro ⟨h1, h2⟩ k hk
      cases k with
      | zero => simpa [tkAt] using h1
      | succ k => simpa [tkAt, List.append_assoc] using h2 k (by simpa using hk)
    · intro h
      refine ⟨by simpa [tkAt] using h 0 (by simp), fun k hk => ?_⟩
      simpa [tkAt, List.append_assoc] using h (k + 1) (by simpa using hk)
theorem hldBoth_eq (l : List Tk) : hldBoth l = (setVld l && hld [] l) := by
  rw [hldBoth]
  congr 1
  rw [Bool.eq_iff_iff, hld_iff]
  simp only [List.all_eq_true, List.mem_range, List.nil_append]
  constructor
  · intro h k hk
    rw [← holdsAt_eq (by omega)]
    exact h k hk
  · intro h k hk
    rw [holdsAt_eq (by omega)]
    exact h k hk
theorem hld_sub {a b : List Tk} (h : a.Sublist b) {hp hp' : List Tk} (hs : Sub hp' hp) (vp : ∀ s ∈ hp, vld s = true) (vb : ∀ s ∈ b, vld s = true) (hb : hld hp b = true) : hld hp' a = true := by
  induction h generalizing hp hp' with
  | slnil => rfl
  | cons x h ih =>
    rename_i a b
    simp only [hld, Bool.and_eq_true] at hb
    refine ih (hs.trans (Sub.sub (by simp))) ?_ (fun s h => vb s (List.mem_cons_of_mem _ h)) hb.2
    intro s h
    simp only [List.mem_append, List.mem_singleton] at h
    rcases h with h | rfl
    · exact vp s h
    · exact vb _ (by simp)
  | cons_cons x h ih =>
    rename_i a b
    simp only [hld, Bool.and_eq_true] at hb ⊢
    refine ⟨hAt_sub hs vp (vb x (by simp)) hb.1, ih (hs.app (Sub.refl _)) ?_ (fun s h => vb s (List.mem_cons_of_mem _ h)) hb.2⟩
    intro s h
    simp only [List.mem_append, List.mem_singleton] at h
    rcases h with h | rfl
    · exact vp s h
    · exact vb _ (by simp)
theorem setVld_sub {a b : List Tk} (h : Sub a b) (hb : setVld b = true) : setVld a = true := by
  obtain ⟨h1, h2⟩ := setVld_all hb
  have := h.length
  simp only [setVld, Bool.and_eq_true, decide_eq_true_eq, List.all_eq_true]
  exact ⟨by omega, fun t ht => h2 t (h.mem ht)⟩
/-- Tasks hold by their places when some leave. -/
theorem hldBoth_sub {a b : List Tk} (h : a.Sublist b) (hb : hldBoth b = true) : hldBoth a = true := by
  rw [hldBoth_eq, Bool.and_eq_true] at hb ⊢
  exact ⟨setVld_sub (Sub.sub h) hb.1, hld_sub h (Sub.refl _) (by simp) (setVld_all hb.1).2 hb.2⟩

def lastOk (ts : List Tk) (k : Nat) : Bool := hAt (ts.eraseIdx k) (tkAt ts k)
/-- The greatest number below n of which p is true. -/
def topK (p : Nat → Bool) : Nat → Option Nat
  | 0 => none
  | n + 1 => if p n then some n else topK p n
def pick (l : List Tk) (left : List Nat) : List Tk := left.map (tkAt l)
def aud (l : List Tk) : Nat → List Nat → List Nat → Option (List Nat)
  | 0, _, acc => some acc
  | n + 1, left, acc =>
    match topK (lastOk (pick l left)) left.length with
    | none => none
    | some k => aud l n (left.eraseIdx k) (left.getD k 0 :: acc)
def assign (l : List Tk) : Option (List Nat) := if setVld l then aud l l.length (List.range l.length) [] else none

theorem topK_lt {p : Nat → Bool} {n k : Nat} (h : topK p n = some k) : k < n ∧ p k = true ∧ ∀ j, k < j → j < n → p j = false := by
  induction n with
  | zero => simp [topK] at h
  | succ n ih =>
    simp only [topK] at h
    split at h
    · cases h
      exact ⟨by omega, by assumption, fun j h1 h2 => by omega⟩
    · obtain ⟨h1, h2, h3⟩ := ih h
      refine ⟨by omega, h2, fun j h4 h5 => ?_⟩
      by_cases e : j = n
      · subst e; simpa using ‹¬ p j = true›
      · exact h3 j h4 (by omega)
theorem topK_none {p : Nat → Bool} {n : Nat} (h : topK p n = none) : ∀ j, j < n → p j = false := by
  induction n with
  | zero => intro j hj; omega
  | succ n ih =>
    simp only [topK] at h
    split at h
    · cases h
    · intro j hj
      by_cases e : j = n
      · subst e; simpa using ‹¬ p j = true›
      · exact ih h j (by omega)

theorem pick_length (l : List Tk) (left : List Nat) : (pick l left).length = left.length := by simp [pick]
theorem pick_at (l : List Tk) (left : List Nat) {k : Nat} (hk : k < left.length) : tkAt (pick l left) k = tkAt l (left.getD k 0) := by
  rw [tkAt_eq _ _ (by rw [pick_length]; exact hk)]
  simp [pick, hk]
theorem pick_erase (l : List Tk) (left : List Nat) (k : Nat) : (pick l left).eraseIdx k = pick l (left.eraseIdx k) := by
  simp only [pick]
  induction left generalizing k with
  | nil => rfl
  | cons a left ih =>
    cases k with
    | zero => rfl
    | succ k => simp [ih k]
theorem getD_eq {left : List Nat} {k : Nat} (hk : k < left.length) : left.getD k 0 = left[k] := by simp [hk]
theorem idx_perm {α : Type} (l : List α) (k : Nat) (hk : k < l.length) : (l[k] :: l.eraseIdx k).Perm l := by
  induction l generalizing k with
  | nil => simp at hk
  | cons x l ih =>
    cases k with
    | zero => exact List.Perm.refl _
    | succ k => exact (List.Perm.swap x _ _).trans ((ih k (by simpa using hk)).cons x)
theorem erase_perm (left : List Nat) {k : Nat} (hk : k < left.length) : (left.getD k 0 :: left.eraseIdx k).Perm left := by
  rw [getD_eq hk]
  exact idx_perm left k hk
theorem pick_perm {a b : List Nat} (l : List Tk) (h : a.Perm b) : (pick l a).Perm (pick l b) := h.map _

/-- What is found is all places once, and holds. -/
theorem aud_good {l : List Tk} {n : Nat} {left acc o : List Nat} (hn : left.length = n) (h : aud l n left acc = some o) (hacc : hld (pick l left) (pick l acc) = true) : o.Perm (left ++ acc) ∧ hld [] (pick l o) = true := by
  induction n generalizing left acc with
  | zero =>
    cases left with
    | nil =>
      simp only [aud, Option.some.injEq] at h
      subst h
      exact ⟨List.Perm.refl _, hacc⟩
    | cons => simp at hn
  | succ n ih =>
    simp only [aud] at h
    split at h
    · cases h
    · rename_i k hk
      obtain ⟨h1, h2, _⟩ := topK_lt hk
      have hp := erase_perm left h1
      obtain ⟨g1, g2⟩ := ih (by rw [List.length_eraseIdx_of_lt h1]; omega) h (by
        simp only [pick, List.map_cons, hld, Bool.and_eq_true]
        simp only [lastOk, pick_erase, pick_at l left h1] at h2
        refine ⟨h2, ?_⟩
        rw [← hacc]
        refine hld_perm ?_ _
        have := pick_perm l hp
        exact (List.perm_append_comm (l₁ := List.map (tkAt l) (left.eraseIdx k)) (l₂ := [tkAt l (left.getD k 0)])).trans this)
      exact ⟨g1.trans (List.perm_middle.trans (hp.append_right acc)), g2⟩
/-- If some order holds, one is found. -/
theorem aud_some {l : List Tk} {n : Nat} {left : List Nat} (acc : List Nat) (hn : left.length = n) (hv : ∀ t ∈ pick l left, vld t = true) {p : List Tk} (hp : p.Perm (pick l left)) (hh : hld [] p = true) : (aud l n left acc).isSome = true := by
  induction n generalizing left acc p with
  | zero => rfl
  | succ n ih =>
    have hpl : p.length = n + 1 := by rw [hp.length_eq, pick_length, hn]
    obtain ⟨q, t, rfl⟩ : ∃ q t, p = q ++ [t] := by
      rcases List.eq_nil_or_concat p with h | ⟨q, t, h⟩
      · rw [h] at hpl; simp at hpl
      · exact ⟨q, t, by rw [h]; simp⟩
    rw [hld_append, Bool.and_eq_true] at hh
    have ht : hAt q t = true := by simpa [hld] using hh.2
    have hm : t ∈ pick l left := hp.mem_iff.1 (by simp)
    obtain ⟨j, hj, hjt⟩ := List.getElem_of_mem hm
    have hj' : j < left.length := by rwa [pick_length] at hj
    have hq : q.Perm ((pick l left).eraseIdx j) := by
      have h1 : (t :: q).Perm (pick l left) := (List.perm_append_comm (l₁ := [t]) (l₂ := q)).trans hp
      have h2 := idx_perm _ j hj
      rw [hjt] at h2
      exact (h1.trans h2.symm).cons_inv
    have hlast : lastOk (pick l left) j = true := by
      rw [lastOk, ← hAt_perm hq, tkAt_eq _ _ hj, hjt]
      exact ht
    simp only [aud]
    cases hk : topK (lastOk (pick l left)) left.length with
    | none =>
      have := topK_none hk j hj'
      rw [hlast] at this
      cases this
    | some k =>
      obtain ⟨h1, _, _⟩ := topK_lt hk
      have he := erase_perm left h1
      have hpe := pick_perm l he
      have hmem : tkAt l (left.getD k 0) ∈ q ++ [t] := hp.symm.mem_iff.1 (hpe.mem_iff.1 (by simp [pick]))
      refine ih (left := left.eraseIdx k) _ (by rw [List.length_eraseIdx_of_lt h1]; omega) (fun s hs => hv s ?_) (p := (q ++ [t]).erase (tkAt l (left.getD k 0))) ?_ ?_
      · exact hpe.mem_iff.1 (by simp only [pick, List.map_cons]; exact List.mem_cons_of_mem _ hs)
      · have a := List.perm_cons_erase hmem
        exact ((a.symm.trans hp).trans hpe.symm).cons_inv
      · refine hld_sub (List.erase_sublist ..) (Sub.refl _) (by simp) (fun s hs => hv s (hp.mem_iff.1 hs)) ?_
        rw [hld_append, Bool.and_eq_true]
        exact hh

theorem pick_range (l : List Tk) : pick l (List.range l.length) = l := by
  apply List.ext_getElem
  · simp [pick]
  · intro k h1 h2
    simp [pick, tkAt_eq l k h2]
theorem assign_good {l : List Tk} {o : List Nat} (h : assign l = some o) : setVld l = true ∧ o.Perm (List.range l.length) ∧ hldBoth (pick l o) = true := by
  simp only [assign] at h
  split at h
  · rename_i hs
    obtain ⟨h1, h2⟩ := aud_good (by simp) h (by simp [pick, hld])
    rw [List.append_nil] at h1
    refine ⟨hs, h1, ?_⟩
    have hp := pick_perm l h1
    rw [pick_range] at hp
    rw [hldBoth_eq, setVld_sub (Sub.perm hp) hs, h2]
    rfl
  · cases h
theorem assign_some {l p : List Tk} (hp : p.Perm l) (hh : hldBoth p = true) : (assign l).isSome = true := by
  rw [hldBoth_eq, Bool.and_eq_true] at hh
  have hs := setVld_sub (Sub.perm hp.symm) hh.1
  simp only [assign, hs, if_true]
  exact aud_some [] (by simp) (by rw [pick_range]; exact (setVld_all hs).2) (p := p) (by rw [pick_range]; exact hp) hh.2
theorem assign_iff (l : List Tk) : (assign l).isSome = true ↔ ∃ p : List Tk, p.Perm l ∧ hldBoth p = true := by
  constructor
  · intro h
    obtain ⟨o, ho⟩ := Option.isSome_iff_exists.1 h
    obtain ⟨_, h1, h2⟩ := assign_good ho
    refine ⟨_, ?_, h2⟩
    have hp := pick_perm l h1
    rwa [pick_range] at hp
  · rintro ⟨p, h1, h2⟩
    exact assign_some h1 h2
/-- What can hold, can hold with fewer tasks. -/
theorem assign_sub {a b : List Tk} (h : Sub a b) (hb : (assign b).isSome = true) : (assign a).isSome = true := by
  obtain ⟨p, h1, h2⟩ := (assign_iff b).1 hb
  obtain ⟨q, h3, h4⟩ := (h.trans (Sub.perm h1.symm)).sublist
  exact (assign_iff a).2 ⟨q, h3, hldBoth_sub h4 h2⟩
end Go.Proofs.YtmkjmancmiphfaaGreatDoor
