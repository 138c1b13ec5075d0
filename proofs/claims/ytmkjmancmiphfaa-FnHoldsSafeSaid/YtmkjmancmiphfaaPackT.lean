/-
  Processors, in plain Lean: ways, first fit, the fewest.
-/
import Derived.Test.YtmkjmancmiphfaaMostT
import Derived.Test.YtmkjmancmiphfaaGroup
namespace Go.Proofs.Ytmkjmancmiphfaa

def num3B (m : Int) : Bool := decide (1 ≤ m ∧ m ≤ 3)
def polB (p : Int) : Bool := p == 0 || p == 1
/-- Tasks hold on m processors where the way puts them. -/
def pkH (l : List Tk) (ws : List Int) (m p : Int) : Bool := packVld l ws m && (List.range m.toNat).all (fun q => canH (grp l ws (q : Int)) p)
theorem packVld_iff (l : List Tk) (ws : List Int) (m : Int) : packVld l ws m = true ↔ setVld l = true ∧ 1 ≤ m ∧ m ≤ 3 ∧ ws.length = l.length ∧ ∀ x ∈ ws, 0 ≤ x ∧ x < m := by
  simp only [packVld, Bool.and_eq_true, decide_eq_true_eq, List.all_eq_true, wok]
  constructor
  · rintro ⟨⟨⟨⟨a, b⟩, c⟩, d⟩, e⟩
    exact ⟨a, b, c, d, e⟩
  · rintro ⟨a, b, c, d, e⟩
    exact ⟨⟨⟨⟨a, b⟩, c⟩, d⟩, e⟩
theorem pkH_iff (l : List Tk) (ws : List Int) (m p : Int) : pkH l ws m p = true ↔ packVld l ws m = true ∧ ∀ q : Nat, q < m.toNat → canH (grp l ws (q : Int)) p = true := by
  simp only [pkH, Bool.and_eq_true, List.all_eq_true, List.mem_range]
theorem canH_pol {l : List Tk} {p : Int} (h : canH l p = true) : p = 0 ∨ p = 1 := by
  unfold canH hldBy at h
  split at h
  · exact .inl (by assumption)
  · split at h
    · exact .inr (by assumption)
    · cases h
theorem grp_none {l : List Tk} {ws : List Int} {q : Int} (h : ∀ x ∈ ws, x ≠ q) : grp l ws q = [] := by
  unfold grp
  rw [List.map_eq_nil_iff, List.filter_eq_nil_iff]
  intro x hx
  have := h x.2 (List.of_mem_zip hx).2
  simpa using this
theorem pkH_pol {l : List Tk} {ws : List Int} {m p : Int} (h : pkH l ws m p = true) : p = 0 ∨ p = 1 := by
  rw [pkH_iff] at h
  obtain ⟨_, h1, _⟩ := (packVld_iff _ _ _).1 h.1
  exact canH_pol (h.2 0 (by omega))
/-- More processors. -/
theorem pkH_more {l : List Tk} {ws : List Int} {m n p : Int} (h : pkH l ws m p = true) (hm : m ≤ n) (hn : n ≤ 3) : pkH l ws n p = true := by
  have hpol := pkH_pol h
  rw [pkH_iff, packVld_iff] at h ⊢
  obtain ⟨⟨a, b, c, d, e⟩, f⟩ := h
  refine ⟨⟨a, by omega, hn, d, fun x hx => by have := e x hx; omega⟩, fun q hq => ?_⟩
  by_cases hqm : q < m.toNat
  · exact f q hqm
  · rw [grp_none fun x hx => by have := e x hx; omega]
    exact canH_nil hpol
/-- Other names for the processors. -/
theorem grp_map {l : List Tk} {ws : List Int} {f : Int → Int} (hf : ∀ x, f (f x) = x) (q : Int) : grp l (ws.map f) q = grp l ws (f q) := by
  unfold grp
  induction l generalizing ws with
  | nil => simp
  | cons t l ih =>
    cases ws with
    | nil => simp
    | cons x ws =>
      have e : (f x = q) ↔ (x = f q) := ⟨fun h => by rw [← h, hf], fun h => by rw [h, hf]⟩
      by_cases hx : x = f q
      · subst hx
        simp only [List.map_cons, List.zip_cons_cons, List.filter_cons, hf, decide_true, if_true, ih]
      · have hx' : ¬ f x = q := fun h => hx (e.1 h)
        simp only [List.map_cons, List.zip_cons_cons, List.filter_cons, hx', hx, decide_false, Bool.false_eq_true, if_false, ih]
theorem pkH_map {l : List Tk} {ws : List Int} {m p : Int} {f : Int → Int} (hf : ∀ x, f (f x) = x) (hr : ∀ x, 0 ≤ x → x < m → 0 ≤ f x ∧ f x < m) (h : pkH l ws m p = true) : pkH l (ws.map f) m p = true := by
  rw [pkH_iff, packVld_iff] at h ⊢
  obtain ⟨⟨a, b, c, d, e⟩, g⟩ := h
  refine ⟨⟨a, b, c, by simpa using d, fun x hx => ?_⟩, fun q hq => ?_⟩
  · obtain ⟨y, hy, rfl⟩ := List.mem_map.1 hx
    have := e y hy
    exact hr y this.1 this.2
  · have := hr q (by omega) (by omega)
    rw [grp_map hf]
    have h2 := g (f q).toNat (by omega)
    rwa [Int.toNat_of_nonneg this.1] at h2
theorem pkH_map_eq {l : List Tk} {ws : List Int} {m p : Int} {f : Int → Int} (hf : ∀ x, f (f x) = x) (hr : ∀ x, 0 ≤ x → x < m → 0 ≤ f x ∧ f x < m) : pkH l (ws.map f) m p = pkH l ws m p := by
  rw [Bool.eq_iff_iff]
  refine ⟨fun h => ?_, pkH_map hf hr⟩
  have h2 := pkH_map hf hr h
  have e : (ws.map f).map f = ws := by
    rw [List.map_map]
    conv => rhs; rw [← List.map_id ws]
    exact List.map_congr_left fun x _ => hf x
  rwa [e] at h2
def swp (a b x : Int) : Int := if x = a then b else if x = b then a else x
theorem swp_swp (a b x : Int) : swp a b (swp a b x) = x := by
  unfold swp
  split <;> split <;> (try split) <;> omega
theorem swp_in {a b m : Int} (ha : 0 ≤ a ∧ a < m) (hb : 0 ≤ b ∧ b < m) (x : Int) (h0 : 0 ≤ x) (h1 : x < m) : 0 ≤ swp a b x ∧ swp a b x < m := by
  unfold swp
  split
  · exact hb
  · split
    · exact ha
    · exact ⟨h0, h1⟩

/-! ### All ways, in order -/
def way (m : Nat) : Nat → Nat → List Int
  | 0, _ => []
  | n + 1, k => way m n (k / m) ++ [((k % m : Nat) : Int)]
def idx (m : Nat) (ws : List Int) : Nat := ws.foldl (fun k x => k * m + x.toNat) 0
theorem way_length (m n k : Nat) : (way m n k).length = n := by
  induction n generalizing k with
  | zero => rfl
  | succ n ih => simp [way, ih]
theorem way_in {m : Nat} (hm : 0 < m) (n k : Nat) : ∀ x ∈ way m n k, 0 ≤ x ∧ x < (m : Int) := by
  induction n generalizing k with
  | zero => simp [way]
  | succ n ih =>
    intro x hx
    simp only [way, List.mem_append, List.mem_singleton] at hx
    rcases hx with hx | rfl
    · exact ih _ x hx
    · have := Nat.mod_lt k hm
      omega
theorem idx_snoc (m : Nat) (ws : List Int) (x : Int) : idx m (ws ++ [x]) = idx m ws * m + x.toNat := by simp [idx]
theorem way_idx {m : Nat} (hm : 0 < m) (n : Nat) (ws : List Int) (hl : ws.length = n) (h : ∀ x ∈ ws, 0 ≤ x ∧ x < (m : Int)) : way m n (idx m ws) = ws ∧ idx m ws < m ^ n := by
  induction n generalizing ws with
  | zero =>
    cases ws with
    | nil => exact ⟨rfl, by simp [idx]⟩
    | cons => simp at hl
  | succ n ih =>
    rcases List.eq_nil_or_concat ws with h0 | ⟨q, x, rfl⟩
    · rw [h0] at hl; simp at hl
    · rw [List.concat_eq_append] at *
      have hx := h x (by simp)
      obtain ⟨i1, i2⟩ := ih q (by simpa using hl) (fun y hy => h y (by simp [hy]))
      have hxm : x.toNat < m := by omega
      have e1 : (idx m q * m + x.toNat) / m = idx m q := by rw [Nat.mul_comm, Nat.mul_add_div hm, Nat.div_eq_of_lt hxm]; rfl
      have e2 : (idx m q * m + x.toNat) % m = x.toNat := by rw [Nat.mul_comm, Nat.mul_add_mod, Nat.mod_eq_of_lt hxm]
      rw [idx_snoc]
      refine ⟨?_, ?_⟩
      · simp only [way, e1, e2, i1]
        rw [Int.toNat_of_nonneg hx.1]
      · rw [Nat.pow_succ]
        have : (idx m q + 1) * m ≤ m ^ n * m := Nat.mul_le_mul_right _ i2
        rw [Nat.add_mul, Nat.one_mul] at this
        omega
/-- The first number from k on, n of them asked, of which f is true. -/
def firstK (f : Nat → Bool) : Nat → Nat → Option Nat
  | 0, _ => none
  | n + 1, k => if f k then some k else firstK f n (k + 1)
theorem firstK_some {f : Nat → Bool} {n k r : Nat} (h : firstK f n k = some r) : k ≤ r ∧ r < k + n ∧ f r = true ∧ ∀ j, k ≤ j → j < r → f j = false := by
  induction n generalizing k with
  | zero => simp [firstK] at h
  | succ n ih =>
    simp only [firstK] at h
    split at h
    · cases h
      exact ⟨Nat.le_refl _, by omega, by assumption, fun j h1 h2 => by omega⟩
    · rename_i hn
      obtain ⟨a, b, c, d⟩ := ih h
      refine ⟨by omega, by omega, c, fun j h1 h2 => ?_⟩
      by_cases e : j = k
      · subst e; simpa using hn
      · exact d j (by omega) h2
theorem firstK_none {f : Nat → Bool} {n k : Nat} (h : firstK f n k = none) : ∀ j, k ≤ j → j < k + n → f j = false := by
  induction n generalizing k with
  | zero => intro j h1 h2; omega
  | succ n ih =>
    simp only [firstK] at h
    split at h
    · cases h
    · rename_i hn
      intro j h1 h2
      by_cases e : j = k
      · subst e; simpa using hn
      · exact ih h j (by omega) (by omega)
theorem firstK_of {f : Nat → Bool} {n k r : Nat} (h1 : k ≤ r) (h2 : r < k + n) (h3 : f r = true) : ∃ s, firstK f n k = some s ∧ s ≤ r := by
  cases h : firstK f n k with
  | none => rw [firstK_none h r h1 h2] at h3; cases h3
  | some s =>
    refine ⟨s, rfl, ?_⟩
    apply Classical.byContradiction
    intro hs
    rw [(firstK_some h).2.2.2 r h1 (by omega)] at h3
    cases h3
theorem firstK_eq {f : Nat → Bool} {n k r : Nat} (h1 : k ≤ r) (h2 : r < k + n) (h3 : f r = true) (h4 : ∀ j, k ≤ j → j < r → f j = false) : firstK f n k = some r := by
  obtain ⟨s, hs, hle⟩ := firstK_of h1 h2 h3
  rw [hs]
  by_cases e : s = r
  · rw [e]
  · have := h4 s (firstK_some hs).1 (by omega)
    rw [(firstK_some hs).2.2.1] at this
    cases this

def anyK (l : List Tk) (m : Nat) (p : Int) : Option Nat := firstK (fun k => pkH l (way m l.length k) (m : Int) p) (m ^ l.length) 0
/-- The first way on m processors. -/
def anyP (l : List Tk) (m p : Int) : Option (List Int) := if setVld l && num3B m then (anyK l m.toNat p).map (way m.toNat l.length) else none
theorem anyP_some {l : List Tk} {m p : Int} {w : List Int} (h : anyP l m p = some w) : setVld l = true ∧ 1 ≤ m ∧ m ≤ 3 ∧ pkH l w m p = true ∧ ∃ k, k < m.toNat ^ l.length ∧ w = way m.toNat l.length k ∧ ∀ j, j < k → pkH l (way m.toNat l.length j) m p = false := by
  simp only [anyP] at h
  split at h
  · rename_i hc
    simp only [Bool.and_eq_true, num3B, decide_eq_true_eq] at hc
    obtain ⟨k, hk, rfl⟩ := Option.map_eq_some_iff.1 h
    obtain ⟨_, h2, h3, h4⟩ := firstK_some hk
    rw [Int.toNat_of_nonneg (by omega)] at h3 h4
    exact ⟨hc.1, hc.2.1, hc.2.2, h3, k, by omega, rfl, fun j hj => h4 j (Nat.zero_le _) hj⟩
  · cases h
/-- There is a way exactly if one is found. -/
theorem anyP_of {l : List Tk} {m p : Int} {ws : List Int} (h : pkH l ws m p = true) : ∃ w, anyP l m p = some w := by
  have h' := h
  rw [pkH_iff, packVld_iff] at h'
  obtain ⟨⟨a, b, c, d, e⟩, g⟩ := h'
  obtain ⟨h1, h2⟩ := way_idx (m := m.toNat) (by omega) l.length ws d (fun x hx => by have := e x hx; omega)
  obtain ⟨s, hs, _⟩ := firstK_of (f := fun k => pkH l (way m.toNat l.length k) (m.toNat : Int) p) (n := m.toNat ^ l.length) (k := 0) (r := idx m.toNat ws) (Nat.zero_le _) (by omega) (by
    show pkH l (way m.toNat l.length (idx m.toNat ws)) (m.toNat : Int) p = true
    rw [h1, Int.toNat_of_nonneg (by omega)]; exact h)
  refine ⟨way m.toNat l.length s, ?_⟩
  have hn : num3B m = true := by simp [num3B]; omega
  simp only [anyP, a, hn, Bool.and_self, if_true, anyK, hs, Option.map_some]
theorem anyP_iff (l : List Tk) (m p : Int) : (anyP l m p).isSome = true ↔ ∃ ws, pkH l ws m p = true := by
  constructor
  · intro h
    obtain ⟨w, hw⟩ := Option.isSome_iff_exists.1 h
    exact ⟨w, (anyP_some hw).2.2.2.1⟩
  · rintro ⟨ws, h⟩
    obtain ⟨w, hw⟩ := anyP_of h
    rw [hw]; rfl

/-! ### The first way uses processors in order -/
/-- No number is greater than all before it and one more. -/
def canB : Int → List Int → Bool
  | _, [] => true
  | most, x :: ws => decide (x ≤ most + 1) && canB (if x > most then x else most) ws
/-- The first number that is too great, and what it should be. -/
def fixAB : Int → List Int → Int × Int
  | _, [] => (0, 0)
  | most, x :: ws => if x ≤ most + 1 then fixAB (if x > most then x else most) ws else (most + 1, x)
def fixW (ws : List Int) : List Int := ws.map (swp (fixAB (-1) ws).1 (fixAB (-1) ws).2)
def fixOk (m n k : Nat) : Bool :=
  canB (-1) (way m n k) || (decide (idx m (fixW (way m n k)) < k) && decide (way m n (idx m (fixW (way m n k))) = fixW (way m n k)) && decide (0 ≤ (fixAB (-1) (way m n k)).1 ∧ (fixAB (-1) (way m n k)).1 < m ∧ 0 ≤ (fixAB (-1) (way m n k)).2 ∧ (fixAB (-1) (way m n k)).2 < m))
theorem fix_all : ∀ m < 4, ∀ n < 6, ∀ k < 243, k < m ^ n → fixOk m n k = true := by decide +kernel
theorem anyP_can {l : List Tk} {m p : Int} {w : List Int} (h : anyP l m p = some w) : canB (-1) w = true := by
  obtain ⟨hs, h1, h3, hw, k, hk, rfl, hf⟩ := anyP_some h
  have hl5 := (setVld_all hs).1
  have hm4 : m.toNat < 4 := by omega
  have hk2 : k < 243 := by
    have h1 : m.toNat ^ l.length ≤ 3 ^ l.length := Nat.pow_le_pow_left (by omega) _
    have h2 : 3 ^ l.length ≤ 3 ^ 5 := Nat.pow_le_pow_right (by omega) hl5
    omega
  have := fix_all m.toNat hm4 l.length (by omega) k hk2 hk
  simp only [fixOk, Bool.or_eq_true, Bool.and_eq_true, decide_eq_true_eq] at this
  rcases this with h | ⟨⟨g1, g2⟩, g3, g4, g5, g6⟩
  · exact h
  · have hno := hf _ g1
    rw [g2, fixW] at hno
    rw [pkH_map (swp_swp _ _) (fun x h0 h1 => swp_in ⟨g3, by omega⟩ ⟨g5, by omega⟩ x h0 h1) hw] at hno
    cases hno

/-! ### One processor -/
theorem way_one (n k : Nat) : way 1 n k = List.replicate n 0 := by
  induction n generalizing k with
  | zero => rfl
  | succ n ih => rw [way, ih, Nat.mod_one, List.replicate_succ']; rfl
theorem grp_all (l : List Tk) : grp l (List.replicate l.length 0) 0 = l := by
  unfold grp
  induction l with
  | nil => rfl
  | cons t l ih =>
    rw [List.length_cons, List.replicate_succ, List.zip_cons_cons, List.filter_cons]
    simp only [decide_true, if_true, List.map_cons, ih]
theorem anyP_one {l : List Tk} (hs : setVld l = true) (p : Int) : anyP l 1 p = if canH l p then some (List.replicate l.length 0) else none := by
  have e : pkH l (List.replicate l.length 0) 1 p = canH l p := by
    have hv : packVld l (List.replicate l.length 0) 1 = true := by
      rw [packVld_iff]
      exact ⟨hs, by omega, by omega, by simp, fun x hx => by rw [(List.mem_replicate.1 hx).2]; omega⟩
    rw [pkH, hv, show (1 : Int).toNat = 1 from rfl]
    simp [List.range_succ, grp_all]
  simp only [anyP, hs, anyK, show num3B 1 = true from rfl, show (1 : Int).toNat = 1 from rfl, Nat.one_pow, firstK, way_one, Bool.and_self, if_true]
  show Option.map _ (if pkH l (List.replicate l.length 0) 1 p = true then some 0 else none) = _
  rw [e]
  split
  · simp [way_one]
  · rfl

/-! ### The fewest -/
def fewN (l : List Tk) (p : Int) : Option Int :=
  if (anyP l 1 p).isSome then some 1 else if (anyP l 2 p).isSome then some 2 else if (anyP l 3 p).isSome then some 3 else none
theorem fewN_some {l : List Tk} {p n : Int} (h : fewN l p = some n) : 1 ≤ n ∧ n ≤ 3 ∧ (anyP l n p).isSome = true ∧ ∀ j : Int, j < n → (anyP l j p).isSome = false := by
  have hz : ∀ j : Int, j < 1 → (anyP l j p).isSome = false := by
    intro j hj
    have : num3B j = false := by simp [num3B]; omega
    simp [anyP, this]
  unfold fewN at h
  split at h
  · cases h
    exact ⟨by omega, by omega, by assumption, hz⟩
  · rename_i h1
    split at h
    · cases h
      refine ⟨by omega, by omega, by assumption, fun j hj => ?_⟩
      by_cases e : j = 1
      · subst e; simpa using h1
      · exact hz j (by omega)
    · rename_i h2
      split at h
      · cases h
        refine ⟨by omega, by omega, by assumption, fun j hj => ?_⟩
        by_cases e : j = 1
        · subst e; simpa using h1
        · by_cases e : j = 2
          · subst e; simpa using h2
          · exact hz j (by omega)
      · cases h
theorem fewN_of {l : List Tk} {p m : Int} (h : (anyP l m p).isSome = true) : ∃ n, fewN l p = some n ∧ n ≤ m := by
  obtain ⟨ws, hw⟩ := (anyP_iff _ _ _).1 h
  obtain ⟨_, h1, h3, _⟩ := (packVld_iff _ _ _).1 ((pkH_iff _ _ _ _).1 hw).1
  unfold fewN
  split
  · exact ⟨1, rfl, h1⟩
  · rename_i n1
    split
    · refine ⟨2, rfl, ?_⟩
      by_cases e : m = 1
      · subst e; exact absurd h n1
      · omega
    · rename_i n2
      have : m = 3 := by
        by_cases e : m = 1
        · subst e; exact absurd h n1
        · by_cases e : m = 2
          · subst e; exact absurd h n2
          · omega
      subst this
      rw [if_pos h]
      exact ⟨3, rfl, by omega⟩
theorem grp_take_sub (l : List Tk) (ws : List Int) (k : Nat) (q : Int) : (grp (l.take k) (ws.take k) q).Sublist (grp l ws q) := by
  unfold grp
  have e : (l.take k).zip (ws.take k) = (l.zip ws).take k := by simp [List.zip, List.take_zipWith]
  rw [e]
  exact ((List.take_sublist k _).filter _).map _
theorem canH_sub0 {a b : List Tk} (h : Sub a b) (hb : canH b 0 = true) : canH a 0 = true := by
  simp only [canH, if_true] at hb ⊢
  exact assign_sub h hb
/-- Fewer tasks need no more processors, by place. -/
theorem fewN_less {l : List Tk} {n : Int} (k : Nat) (h : fewN l 0 = some n) : ∃ m, fewN (l.take k) 0 = some m ∧ m ≤ n := by
  obtain ⟨h1, h3, ha, _⟩ := fewN_some h
  obtain ⟨ws, hw⟩ := (anyP_iff _ _ _).1 ha
  rw [pkH_iff, packVld_iff] at hw
  obtain ⟨⟨a, b, c, d, e⟩, g⟩ := hw
  refine fewN_of ((anyP_iff _ _ _).2 ⟨ws.take k, ?_⟩)
  rw [pkH_iff, packVld_iff]
  refine ⟨⟨setVld_sub (Sub.sub (List.take_sublist _ _)) a, b, c, by simp [d], fun x hx => e x (List.mem_of_mem_take hx)⟩, fun q hq => ?_⟩
  exact canH_sub0 (Sub.sub (grp_take_sub _ _ _ _)) (g q hq)

/-! ### First fit -/
def fitQ (l : List Tk) (ws : List Int) (p : Int) (q : Nat) : Bool := canH (grp (l.take ws.length) ws (q : Int) ++ [tkAt l ws.length]) p
def ffGo (l : List Tk) (m : Nat) (p : Int) : Nat → List Int → Option (List Int)
  | 0, ws => some ws
  | n + 1, ws =>
    match firstK (fitQ l ws p) m 0 with
    | none => none
    | some q => ffGo l m p n (ws ++ [(q : Int)])
def ffit (l : List Tk) (m p : Int) : Option (List Int) := if setVld l && num3B m && polB p then ffGo l m.toNat p l.length [] else none
theorem grp_snoc {l : List Tk} {ws : List Int} (hw : ws.length < l.length) (x q : Int) : grp (l.take (ws.length + 1)) (ws ++ [x]) q = grp (l.take ws.length) ws q ++ (if x = q then [tkAt l ws.length] else []) := by
  unfold grp
  rw [List.take_succ_eq_append_getElem hw, List.zip_append (by simp; omega), List.filter_append, List.map_append, tkAt_eq l _ hw]
  by_cases h : x = q <;> simp [h]
theorem ffGo_good {l : List Tk} {m n : Nat} {p : Int} {ws r : List Int} (hn : ws.length + n = l.length) (h : ffGo l m p n ws = some r) (hws : ∀ x ∈ ws, 0 ≤ x ∧ x < (m : Int)) (hc : ∀ q : Nat, q < m → canH (grp (l.take ws.length) ws (q : Int)) p = true) :
    r.length = l.length ∧ (∀ x ∈ r, 0 ≤ x ∧ x < (m : Int)) ∧ (∀ q : Nat, q < m → canH (grp l r (q : Int)) p = true) ∧ r.take ws.length = ws := by
  induction n generalizing ws with
  | zero =>
    simp only [ffGo, Option.some.injEq] at h
    subst h
    rw [Nat.add_zero] at hn
    rw [hn, List.take_length] at hc
    exact ⟨hn, hws, hc, List.take_length⟩
  | succ n ih =>
    simp only [ffGo] at h
    split at h
    · cases h
    · rename_i q hq
      obtain ⟨_, h2, h3, _⟩ := firstK_some hq
      have hlt : ws.length < l.length := by omega
      obtain ⟨a, b, c, d⟩ := ih (ws := ws ++ [(q : Int)]) (by simp; omega) h (by
        intro x hx
        simp only [List.mem_append, List.mem_singleton] at hx
        rcases hx with hx | rfl
        · exact hws x hx
        · omega) (by
        intro q' hq'
        rw [List.length_append, List.length_singleton, grp_snoc hlt]
        split
        · rename_i e
          have : q = q' := by omega
          subst this
          exact h3
        · rw [List.append_nil]
          exact hc q' hq')
      refine ⟨a, b, c, ?_⟩
      have := congrArg (List.take ws.length) d
      rw [List.take_take] at this
      simpa using this
theorem ffit_some {l : List Tk} {m p : Int} {w : List Int} (h : ffit l m p = some w) : setVld l = true ∧ 1 ≤ m ∧ m ≤ 3 ∧ (p = 0 ∨ p = 1) ∧ ffGo l m.toNat p l.length [] = some w ∧ pkH l w m p = true := by
  simp only [ffit] at h
  split at h
  · rename_i hc
    simp only [Bool.and_eq_true, num3B, decide_eq_true_eq, polB, Bool.or_eq_true, beq_iff_eq] at hc
    obtain ⟨⟨a, b⟩, c⟩ := hc
    refine ⟨a, b.1, b.2, c, h, ?_⟩
    obtain ⟨h1, h2, h3, _⟩ := ffGo_good (by simp) h (by simp) (fun q _ => by
      have : grp (l.take ([] : List Int).length) [] (q : Int) = [] := by simp [grp]
      rw [this]
      exact canH_nil c)
    rw [pkH_iff, packVld_iff]
    refine ⟨⟨a, b.1, b.2, h1, fun x hx => ?_⟩, h3⟩
    have := h2 x hx
    omega
  · cases h
theorem ffGo_more {l : List Tk} {m m' n : Nat} {p : Int} {ws r : List Int} (hm : m ≤ m') (h : ffGo l m p n ws = some r) : ffGo l m' p n ws = some r := by
  induction n generalizing ws with
  | zero => exact h
  | succ n ih =>
    simp only [ffGo] at h ⊢
    split at h
    · cases h
    · rename_i q hq
      obtain ⟨h1, h2, h3, h4⟩ := firstK_some hq
      rw [firstK_eq (n := m') h1 (by omega) h3 h4]
      exact ih h
/-- More processors change nothing. -/
theorem ffit_more {l : List Tk} {m p : Int} {w : List Int} (h : ffit l m p = some w) : ffit l 3 p = some w := by
  obtain ⟨a, b, c, d, e, _⟩ := ffit_some h
  have hp : polB p = true := by simpa [polB] using d
  simp only [ffit, a, hp, show num3B 3 = true from rfl, Bool.and_self, if_true]
  exact ffGo_more (by omega) e
theorem ffGo_part {l : List Tk} {m n : Nat} {p : Int} {ws r : List Int} (k : Nat) (hn : ws.length + n = l.length) (hk : ws.length ≤ k) (hkl : k ≤ l.length) (h : ffGo l m p n ws = some r) : ffGo (l.take k) m p (k - ws.length) ws = some (r.take k) := by
  induction n generalizing ws with
  | zero =>
    simp only [ffGo, Option.some.injEq] at h
    subst h
    have : k = ws.length := by omega
    subst this
    rw [Nat.sub_self, List.take_length]
    rfl
  | succ n ih =>
    by_cases e : k = ws.length
    · subst e
      rw [Nat.sub_self]
      simp only [ffGo]
      have h2 : ∀ (j : Nat) (vs : List Int), vs.length + j = l.length → ffGo l m p j vs = some r → r.take vs.length = vs := by
        intro j
        induction j with
        | zero =>
          intro vs _ h
          simp only [ffGo, Option.some.injEq] at h
          subst h
          exact List.take_length
        | succ j ihj =>
          intro vs hv h
          simp only [ffGo] at h
          split at h
          · cases h
          · have := ihj _ (by simp; omega) h
            have := congrArg (List.take vs.length) this
            rw [List.take_take] at this
            simpa using this
      rw [h2 _ _ hn h]
    · obtain ⟨j, hj⟩ : ∃ j, k - ws.length = j + 1 := ⟨k - ws.length - 1, by omega⟩
      rw [hj]
      simp only [ffGo] at h ⊢
      have hf : fitQ (l.take k) ws p = fitQ l ws p := by
        funext q
        have ht : tkAt (l.take k) ws.length = tkAt l ws.length := by
          rw [tkAt_eq _ _ (by simp; omega), tkAt_eq l _ (by omega)]
          simp
        simp only [fitQ, List.take_take, ht, Nat.min_eq_left hk]
      rw [hf]
      split at h
      · cases h
      · have := ih (ws := ws ++ [((_ : Nat) : Int)]) (by simp; omega) (by simp; omega) h
        rw [List.length_append, List.length_singleton] at this
        have e2 : k - (ws.length + 1) = j := by omega
        rw [e2] at this
        exact this
/-- First fit of the first tasks. -/
theorem ffit_part {l : List Tk} {m p : Int} {w : List Int} (k : Nat) (hk : k ≤ l.length) (h : ffit l m p = some w) : ffit (l.take k) m p = some (w.take k) := by
  obtain ⟨a, b, c, d, e, _⟩ := ffit_some h
  have hp : polB p = true := by simpa [polB] using d
  have hn : num3B m = true := by simp [num3B]; omega
  have := ffGo_part k (by simp) (by simp) hk e
  simp only [ffit, setVld_sub (Sub.sub (List.take_sublist k l)) a, hp, hn, Bool.and_self, if_true]
  rw [show (l.take k).length = k - ([] : List Int).length by simp; omega]
  exact this
theorem ffGo_can {l : List Tk} {m n : Nat} {p most : Int} {ws r : List Int} (hn : ws.length + n = l.length) (hm : ∀ x ∈ ws, x ≤ most) (h0 : -1 ≤ most) (h : ffGo l m p n ws = some r) : canB most (r.drop ws.length) = true := by
  induction n generalizing ws most with
  | zero =>
    simp only [ffGo, Option.some.injEq] at h
    subst h
    simp [canB]
  | succ n ih =>
    simp only [ffGo] at h
    split at h
    · cases h
    · rename_i q hq
      obtain ⟨_, h2, h3, h4⟩ := firstK_some hq
      have hqm : (q : Int) ≤ most + 1 := by
        apply Classical.byContradiction
        intro hlt
        have e1 := h4 (most + 1).toNat (Nat.zero_le _) (by omega)
        have g1 : grp (l.take ws.length) ws (((most + 1).toNat : Nat) : Int) = [] := grp_none fun x hx => by have := hm x hx; omega
        have g2 : grp (l.take ws.length) ws (q : Int) = [] := grp_none fun x hx => by have := hm x hx; omega
        simp only [fitQ, g1] at e1
        simp only [fitQ, g2] at h3
        rw [h3] at e1
        cases e1
      have hr : r.take (ws.length + 1) = ws ++ [(q : Int)] := by
        have h2 : ∀ (j : Nat) (vs : List Int), vs.length + j = l.length → ffGo l m p j vs = some r → r.take vs.length = vs := by
          intro j
          induction j with
          | zero =>
            intro vs _ h
            simp only [ffGo, Option.some.injEq] at h
            subst h
            exact List.take_length
          | succ j ihj =>
            intro vs hv h
            simp only [ffGo] at h
            split at h
            · cases h
            · have := ihj _ (by simp; omega) h
              have := congrArg (List.take vs.length) this
              rw [List.take_take] at this
              simpa using this
        have := h2 _ _ (by simp; omega) h
        simpa using this
      have hlt : ws.length < r.length := by
        have := congrArg List.length hr
        simp at this
        omega
      have hx : r[ws.length] = (q : Int) := by
        have : (r.take (ws.length + 1))[ws.length]? = (ws ++ [(q : Int)])[ws.length]? := by rw [hr]
        rw [List.getElem?_take_of_lt (by omega), List.getElem?_eq_getElem hlt] at this
        simpa using this
      rw [List.drop_eq_getElem_cons hlt, hx]
      simp only [canB, Bool.and_eq_true, decide_eq_true_eq]
      refine ⟨hqm, ?_⟩
      have := ih (ws := ws ++ [(q : Int)]) (most := if (q : Int) > most then (q : Int) else most) (by simp; omega) (by
        intro x hx
        simp only [List.mem_append, List.mem_singleton] at hx
        rcases hx with hx | rfl
        · have := hm x hx
          split <;> omega
        · split <;> omega) (by split <;> omega) h
      simpa using this
theorem ffit_can {l : List Tk} {m p : Int} {w : List Int} (h : ffit l m p = some w) : canB (-1) w = true := by
  obtain ⟨_, _, _, _, e, _⟩ := ffit_some h
  have := ffGo_can (most := -1) (by simp) (by simp) (by omega) e
  simpa using this
end Go.Proofs.Ytmkjmancmiphfaa
