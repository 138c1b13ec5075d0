/-
  The walks of Implicit, plus, times, fits.
  The virtual deadlines' factor in plain Lean: how great its numbers are.
-/
import Derived.Test.YtmkjmancmiphfaaHoldsBoth
namespace Go.Proofs.Ytmkjmancmiphfaa
open Go.RowKit

def impAll (l : List Tk) (n : Nat) : Bool := (List.range n).all (fun k => decide ((tkAt l k).due = (tkAt l k).every))
def impl_ (l : List Tk) : Bool := setVld l && impAll l l.length
theorem impAll_succ {l : List Tk} {n : Nat} (h : impAll l n = true) (hk : (tkAt l n).due = (tkAt l n).every) : impAll l (n + 1) = true := by
  simp only [impAll, List.all_eq_true, List.mem_range, decide_eq_true_eq] at h ⊢
  intro k h1
  by_cases e : k = n
  · subst e; exact hk
  · exact h k (by omega)
theorem impAll_bad {l : List Tk} {n k : Nat} (hk : k < n) (h : ¬ (tkAt l k).due = (tkAt l k).every) : impAll l n = false := by
  cases e : impAll l n with
  | false => rfl
  | true =>
    simp only [impAll, List.all_eq_true, List.mem_range, decide_eq_true_eq] at e
    exact absurd (e k hk) h

theorem impl_Implicit (A : Option Addr) (l : List Tk) (c : Nat) (w : World) (h : TS w A l) (hm : l.length ≤ maxLen) :
    Calls Try.prog 46 #[.slice A l.length c] w fun e w' => e = .returned (.bool (impl_ l)) ∧ Below w.heap.size w w' := by
  have hm' := hm
  unfold maxLen at hm'
  go_enter Try.func46, Try.ntmps46
  go_wp2_with fail
  go_loopw [7] (fun i wr => ∃ k : Nat, k ≤ l.length ∧ i = .int .i64 (k : Int) ∧ Hid (impAll l k = true) ∧ Below w.heap.size w wr) (fun i _ => l.length - (intOf i).toNat)
  case atStart => exact ⟨0, by omega, rfl, rfl, Below.refl _ _⟩
  case round =>
    obtain ⟨k, hk, rfl, hall, hb⟩ := hrel
    by_cases hlt : k < l.length
    · obtain ⟨b, off, rfl, hbl, hc⟩ := h.keep hb (by omega)
      obtain ⟨c0, c1, c2, c3, c4⟩ := cells_tk hc k hlt
      clear hc
      by_cases he : (tkAt l k).due = (tkAt l k).every
      · have hne : ((tkAt l k).due != (tkAt l k).every) = false := by simp [he]
        have hgood := Lib.hid (impAll_succ hall.out he)
        have He := Lib.hid he
        clear he
        go_wp2_with fail
        go_roundw
        case rel => exact ⟨k + 1, by omega, by go_num, hgood, bal hb _⟩
        case measure => simp [intOf]; omega
      · have hne : ((tkAt l k).due != (tkAt l k).every) = true := by simp [he]
        have hbad := Lib.hid (impAll_bad hlt he)
        have He := Lib.hid he
        clear he
        go_wp2_with fail
        go_ret
        exact ⟨by rw [impl_, hbad.out, Bool.and_false]; rfl, bal hb _⟩
    · have hk' : Hid (k = l.length) := show k = l.length by omega
      go_wp2_with fail
      refine (impl_SetValid A l c _ (h.keep hb)).mono ?_
      rintro e w1 ⟨rfl, b1⟩
      go_wp2_with fail
      go_ret
      have ha := hall.out
      rw [hk'.out] at ha
      exact ⟨by rw [impl_, ha, Bool.and_true]; rfl, bthru hb b1⟩

theorem RIn_bds {a : Rat} (h : RIn a) : 0 ≤ a.num ∧ a.num ≤ 1000000000 ∧ 1 ≤ (a.den : Int) ∧ (a.den : Int) ≤ 1000000000 := by
  obtain ⟨h1, h2, h3⟩ := h
  have := a.den_pos
  omega

theorem impl_times (a b : Rat) (w : World) (ha : RIn a) (hb : RIn b) :
    Calls Try.prog 31 #[rv a, rv b] w fun e w' => e = .returned (rv (a * b)) ∧ Below w.heap.size w w' := by
  obtain ⟨a0, a1, a2, a3⟩ := RIn_bds ha
  obtain ⟨b0, b1, b2, b3⟩ := RIn_bds hb
  have m1 := mul_bd a0 a1 b0 b1 (by omega)
  have m3 := mul_bd (show 0 ≤ (a.den : Int) by omega) a3 (show 0 ≤ (b.den : Int) by omega) b3 (by omega)
  have m4 : 1 ≤ (a.den : Int) * (b.den : Int) := by have := Int.mul_pos (show (0 : Int) < a.den by omega) (show (0 : Int) < b.den by omega); omega
  obtain ⟨m10, m11⟩ := m1
  obtain ⟨m30, m31⟩ := m3
  go_enter Try.func31, Try.ntmps31
  go_wp2_with fail
  refine (impl_reducedI _ _ _ (by omega) (by omega) (by omega) (by omega)).mono ?_
  rw [mk_mul]
  rintro e w3 ⟨rfl, c3⟩
  obtain ⟨hA0, hB0, hC0⟩ := heap3 w (.cells #[.int .i64 a.num, .int .i64 (a.den : Int)] 47) (.cells #[.int .i64 b.num, .int .i64 (b.den : Int)] 47) (.cells #[.int .i64 0, .int .i64 0] 47)
  have hz3 := c3.size
  simp only [World.size_alloc] at hz3
  have hC3 := (c3.block (w.heap.size + 1 + 1) (by simp)).trans hC0
  obtain ⟨x0, x1, xf⟩ := blk_two hC3
  clear hA0 hB0 hC0 hC3
  obtain ⟨r, hr⟩ : ∃ r, a * b = r := ⟨_, rfl⟩
  rw [hr]
  have Hr := Lib.hid hr
  clear hr
  go_wp2_with fail
  refine bodyPost_ret (v := rv r) (by simp [results, Try.results31, go_sem, x0, x1]) rfl ⟨by rw [Hr.out], ?_⟩
  exact bst (bst (bthru (bal (bal (bal (Below.refl _ _) _) _) _) c3) (p := ⟨w.heap.size + 1 + 1, 0, none⟩) (by show w.heap.size ≤ w.heap.size + 1 + 1; omega) _) (p := ⟨w.heap.size + 1 + 1, 1, none⟩) (by show w.heap.size ≤ w.heap.size + 1 + 1; omega) _
theorem impl_plus (a b : Rat) (w : World) (ha : RIn a) (hb : RIn b) :
    Calls Try.prog 30 #[rv a, rv b] w fun e w' => e = .returned (rv (a + b)) ∧ Below w.heap.size w w' := by
  obtain ⟨a0, a1, a2, a3⟩ := RIn_bds ha
  obtain ⟨b0, b1, b2, b3⟩ := RIn_bds hb
  have m1 := mul_bd a0 a1 (show 0 ≤ (b.den : Int) by omega) b3 (by omega)
  have m2 := mul_bd b0 b1 (show 0 ≤ (a.den : Int) by omega) a3 (by omega)
  obtain ⟨m20, m21⟩ := m2
  have m3 := mul_bd (show 0 ≤ (a.den : Int) by omega) a3 (show 0 ≤ (b.den : Int) by omega) b3 (by omega)
  have m4 : 1 ≤ (a.den : Int) * (b.den : Int) := by have := Int.mul_pos (show (0 : Int) < a.den by omega) (show (0 : Int) < b.den by omega); omega
  obtain ⟨m10, m11⟩ := m1
  obtain ⟨m30, m31⟩ := m3
  go_enter Try.func30, Try.ntmps30
  go_wp2_with fail
  refine (impl_reducedI _ _ _ (by omega) (by omega) (by omega) (by omega)).mono ?_
  rw [mk_add]
  rintro e w3 ⟨rfl, c3⟩
  obtain ⟨hA0, hB0, hC0⟩ := heap3 w (.cells #[.int .i64 a.num, .int .i64 (a.den : Int)] 47) (.cells #[.int .i64 b.num, .int .i64 (b.den : Int)] 47) (.cells #[.int .i64 0, .int .i64 0] 47)
  have hz3 := c3.size
  simp only [World.size_alloc] at hz3
  have hC3 := (c3.block (w.heap.size + 1 + 1) (by simp)).trans hC0
  obtain ⟨x0, x1, xf⟩ := blk_two hC3
  clear hA0 hB0 hC0 hC3
  obtain ⟨r, hr⟩ : ∃ r, a + b = r := ⟨_, rfl⟩
  rw [hr]
  have Hr := Lib.hid hr
  clear hr
  go_wp2_with fail
  refine bodyPost_ret (v := rv r) (by simp [results, Try.results30, go_sem, x0, x1]) rfl ⟨by rw [Hr.out], ?_⟩
  exact bst (bst (bthru (bal (bal (bal (Below.refl _ _) _) _) _) c3) (p := ⟨w.heap.size + 1 + 1, 0, none⟩) (by show w.heap.size ≤ w.heap.size + 1 + 1; omega) _) (p := ⟨w.heap.size + 1 + 1, 1, none⟩) (by show w.heap.size ≤ w.heap.size + 1 + 1; omega) _

def fitsR (r : Rat) : Bool := decide (r.num ≤ (r.den : Int))
theorem impl_fits (a : Rat) (w : World) :
    Calls Try.prog 29 #[rv a] w fun e w' => e = .returned (.bool (fitsR a)) ∧ Below w.heap.size w w' := by
  go_enter Try.func29, Try.ntmps29
  go_wp2_with fail
  go_ret
  exact ⟨rfl, bal (Below.refl _ _) _⟩
theorem fitsR_iff (r : Rat) : fitsR r = true ↔ r ≤ 1 := by
  simp only [fitsR, decide_eq_true_eq, Rat.le_iff]
  simp

theorem rat_mul_den (r : Rat) : r * (r.den : Rat) = (r.num : Rat) := by
  have h : (r.num : Rat) / (r.den : Rat) = r := by rw [← Rat.mkRat_eq_div, Rat.mkRat_self]
  have h0 : ((r.den : Nat) : Rat) ≠ 0 := by
    intro e
    exact r.den_nz (by exact_mod_cast e)
  grind
theorem den_dvd_of_int {r : Rat} {M : Nat} (hM : M ≠ 0) {k : Int} (h : r * (M : Rat) = (k : Rat)) : r.den ∣ M := by
  have hM' : ((M : Nat) : Rat) ≠ 0 := by
    intro e
    exact hM (by exact_mod_cast e)
  have e : r = mkRat k M := by
    rw [Rat.mkRat_eq_div, ← h]
    grind
  rw [e]
  exact den_dvd_of_mkRat _ _ hM
theorem int_of_den_dvd {r : Rat} {M : Nat} (h : r.den ∣ M) : ∃ k : Int, r * (M : Rat) = (k : Rat) := by
  obtain ⟨c, rfl⟩ := h
  refine ⟨r.num * c, ?_⟩
  have := rat_mul_den r
  simp only [Rat.intCast_mul, Rat.natCast_mul, Rat.intCast_natCast]
  grind
theorem add_den_dvd {a b : Rat} {M : Nat} (hM : M ≠ 0) (ha : a.den ∣ M) (hb : b.den ∣ M) : (a + b).den ∣ M := by
  obtain ⟨k, hk⟩ := int_of_den_dvd ha
  obtain ⟨j, hj⟩ := int_of_den_dvd hb
  exact den_dvd_of_int hM (k := k + j) (by rw [Rat.intCast_add, Rat.add_mul, hk, hj])

def evProd (crit : Bool) : List Tk → Nat
  | [] => 1
  | t :: l => (if t.crit = crit then t.every.toNat else 1) * evProd crit l
theorem evProd_pos (crit : Bool) (l : List Tk) (h : ∀ t ∈ l, vld t = true) : 0 < evProd crit l := by
  induction l with
  | nil => simp [evProd]
  | cons t l ih =>
    have h1 := ih (fun s hs => h s (List.mem_cons_of_mem _ hs))
    have h2 := vld_bd (h t (by simp))
    simp only [evProd]
    refine Nat.mul_pos ?_ h1
    split <;> omega
theorem evProd_le (l : List Tk) (h : ∀ t ∈ l, vld t = true) : evProd true l * evProd false l ≤ 20 ^ l.length := by
  induction l with
  | nil => simp [evProd]
  | cons t l ih =>
    have h1 := ih (fun s hs => h s (List.mem_cons_of_mem _ hs))
    have h2 := vld_bd (h t (by simp))
    have h3 : t.every.toNat ≤ 20 := by omega
    simp only [evProd, List.length_cons, Nat.pow_succ]
    rw [Nat.mul_comm (20 ^ l.length) 20]
    cases t.crit
    · simp
      calc evProd true l * (t.every.toNat * evProd false l) = t.every.toNat * (evProd true l * evProd false l) := by ac_rfl
        _ ≤ 20 * 20 ^ l.length := Nat.mul_le_mul h3 h1
    · simp
      calc t.every.toNat * evProd true l * evProd false l = t.every.toNat * (evProd true l * evProd false l) := by ac_rfl
        _ ≤ 20 * 20 ^ l.length := Nat.mul_le_mul h3 h1
theorem shares_dvd (crit high : Bool) (l : List Tk) (h : ∀ t ∈ l, vld t = true) : (shares crit high l).den ∣ evProd crit l := by
  induction l with
  | nil => simp [shares, evProd]
  | cons t l ih =>
    have h1 := ih (fun s hs => h s (List.mem_cons_of_mem _ hs))
    have h2 := vld_bd (h t (by simp))
    have h3 := evProd_pos crit l (fun s hs => h s (List.mem_cons_of_mem _ hs))
    simp only [shares, evProd]
    have hx : (if t.crit = crit then shr high t else 0).den ∣ (if t.crit = crit then t.every.toNat else 1) := by
      split
      · exact den_dvd_of_mkRat _ _ (by omega)
      · simp
    refine add_den_dvd (Nat.mul_ne_zero ?_ (by omega)) (Nat.dvd_trans hx (Nat.dvd_mul_right _ _)) (Nat.dvd_trans h1 (Nat.dvd_mul_left _ _))
    split <;> omega

/-- The low share of the tasks that are not critical, the low one and the high one of those that are. -/
def ua (l : List Tk) : Rat := shares false false l
def ub (l : List Tk) : Rat := shares true false l
def uh (l : List Tk) : Rat := shares true true l
def hldPlain (l : List Tk) : Bool := impl_ l && fitsR (ua l + uh l)
def facNo (l : List Tk) : Bool := !fitsR (ua l + ub l) || (ua l).num == ((ua l).den : Int)
def facR (l : List Tk) : Rat := mkRat ((ub l).num * (ua l).den) (((ub l).den : Int) * ((ua l).den - (ua l).num)).toNat
def hldVirt (l : List Tk) : Bool := hldPlain l || (impl_ l && !facNo l && fitsR (facR l * ua l + uh l))

theorem pow_le5' {n : Nat} (h : n ≤ 5) : 20 ^ n ≤ 3200000 := Nat.le_trans (Nat.pow_le_pow_right (by omega) h) (by decide)

/-- What is known where there is a factor. -/
structure FacOk (l : List Tk) : Prop where
  a0 : 0 ≤ (ua l).num
  a1 : (ua l).num < ((ua l).den : Int)
  b0 : 0 ≤ (ub l).num
  b1 : (ub l).num ≤ ((ub l).den : Int)
  ab : ((ua l).den : Int) * ((ub l).den : Int) ≤ 3200000
  n0 : 0 ≤ (ub l).num * ((ua l).den : Int)
  n1 : (ub l).num * ((ua l).den : Int) ≤ 3200000
  d0 : 1 ≤ ((ub l).den : Int) * (((ua l).den : Int) - (ua l).num)
  d1 : ((ub l).den : Int) * (((ua l).den : Int) - (ua l).num) ≤ 3200000
  facIn : RIn (facR l)
  mulIn : RIn (facR l * ua l)
  sumIn : RIn (facR l * ua l + uh l)

theorem le_one_num {r : Rat} (h : r ≤ 1) : r.num ≤ (r.den : Int) := by
  have := num_le_of_le (r := r) (n := 1) (by simpa using h)
  omega
theorem RIn_of_den {r : Rat} {n : Nat} (h0 : 0 ≤ r) (h1 : r ≤ (n : Rat)) (hn : n ≤ 6) (hd : r.den ≤ 3200000) : RIn r := by
  have h3 := num_le_of_le h1
  have h5 : (n : Int) * (r.den : Int) ≤ 6 * (r.den : Int) := Int.mul_le_mul_of_nonneg_right (by omega) (by omega)
  exact ⟨rat_num_le h0, by omega, by omega⟩

theorem fac_math {x y z f : Rat} {Et Ef : Nat} (hx : 0 ≤ x) (hy : 0 ≤ y) (hz : 0 ≤ z) (hz5 : z ≤ 5) (dx : x.den ∣ Ef) (dy : y.den ∣ Et) (dz : z.den ∣ Et) (pe : 0 < Et) (pf : 0 < Ef) (hm : Et * Ef ≤ 3200000)
    (hxy : x + y ≤ 1) (hne : x.num ≠ (x.den : Int)) (hf : f = mkRat (y.num * x.den) ((y.den : Int) * (x.den - x.num)).toNat) :
    0 ≤ x.num ∧ x.num < (x.den : Int) ∧ 0 ≤ y.num ∧ y.num ≤ (y.den : Int) ∧ (x.den : Int) * (y.den : Int) ≤ 3200000 ∧ 0 ≤ y.num * (x.den : Int) ∧ y.num * (x.den : Int) ≤ 3200000 ∧
      1 ≤ (y.den : Int) * ((x.den : Int) - x.num) ∧ (y.den : Int) * ((x.den : Int) - x.num) ≤ 3200000 ∧ RIn f ∧ RIn (f * x) ∧ RIn (f * x + z) := by
  have px := x.den_pos
  have py := y.den_pos
  have a0 := rat_num_le hx
  have b0 := rat_num_le hy
  have a1 : x.num ≤ (x.den : Int) := le_one_num (by grind)
  have b1 : y.num ≤ (y.den : Int) := le_one_num (by grind)
  have hAE := Nat.le_of_dvd pf dx
  have hBE := Nat.le_of_dvd pe dy
  have hABn : x.den * y.den ≤ 3200000 := Nat.le_trans (Nat.mul_le_mul hAE hBE) (by rw [Nat.mul_comm]; exact hm)
  have hAB : (x.den : Int) * (y.den : Int) ≤ 3200000 := by rw [← Int.natCast_mul]; omega
  have n0 : 0 ≤ y.num * (x.den : Int) := Int.mul_nonneg b0 (by omega)
  have n1 : y.num * (x.den : Int) ≤ (y.den : Int) * (x.den : Int) := Int.mul_le_mul_of_nonneg_right b1 (by omega)
  have c1 : (y.den : Int) * (x.den : Int) = (x.den : Int) * (y.den : Int) := Int.mul_comm _ _
  have d0 : 0 < (y.den : Int) * ((x.den : Int) - x.num) := Int.mul_pos (by omega) (by omega)
  have d1 : (y.den : Int) * ((x.den : Int) - x.num) ≤ (y.den : Int) * (x.den : Int) := Int.mul_le_mul_of_nonneg_left (by omega) (by omega)
  obtain ⟨D, hD⟩ : ∃ D : Nat, ((y.den : Int) * (x.den - x.num)).toNat = D := ⟨_, rfl⟩
  have hDI : (D : Int) = (y.den : Int) * ((x.den : Int) - x.num) := by omega
  have hD0 : D ≠ 0 := by omega
  rw [hD] at hf
  have hDR : ((D : Nat) : Rat) = (y.den : Rat) * ((x.den : Rat) - (x.num : Rat)) := by
    have h1 : (((D : Nat) : Int) : Rat) = (((y.den : Int) * ((x.den : Int) - x.num) : Int) : Rat) := by rw [hDI]
    simpa [Rat.intCast_mul, Rat.intCast_sub, Rat.intCast_natCast] using h1
  have hDR0 : ((D : Nat) : Rat) ≠ 0 := by
    intro e
    exact hD0 (by exact_mod_cast e)
  have ex := rat_mul_den x
  have ey := rat_mul_den y
  have ef : f * (D : Rat) = (y.num : Rat) * (x.den : Rat) := by
    have h1 : f = ((y.num * (x.den : Int) : Int) : Rat) / ((D : Nat) : Rat) := by rw [hf, Rat.mkRat_eq_div]
    have h2 : ((y.num * (x.den : Int) : Int) : Rat) = (y.num : Rat) * (x.den : Rat) := by rw [Rat.intCast_mul, Rat.intCast_natCast]
    rw [h2] at h1
    grind
  have efx : f * x * (D : Rat) = ((y.num * x.num : Int) : Rat) := by
    rw [Rat.intCast_mul]
    grind
  have f0 : 0 ≤ f := by rw [hf]; exact mkRat_nonneg' n0 _ hD0
  have xd0 : ((x.den : Nat) : Rat) ≠ 0 := by
    intro e
    exact x.den_nz (by exact_mod_cast e)
  have yd0 : ((y.den : Nat) : Rat) ≠ 0 := by
    intro e
    exact y.den_nz (by exact_mod_cast e)
  have hfx : f * (1 - x) = y := by
    have h1 : (f * (1 - x) - y) * ((y.den : Rat) * (x.den : Rat)) = 0 := by
      rw [hDR, ← ex, ← ey] at ef
      grind
    rcases Rat.mul_eq_zero.1 h1 with h | h
    · grind
    · rcases Rat.mul_eq_zero.1 h with h | h
      · exact absurd h yd0
      · exact absurd h xd0
  have xne : x ≠ 1 := by
    intro e
    apply hne
    rw [e]
    rfl
  have x1 : x < 1 := by grind
  have f1 : f ≤ 1 := by
    apply Classical.byContradiction
    intro h
    have h1 : 0 < (f - 1) * (1 - x) := Rat.mul_pos (by grind) (by grind)
    grind
  have fx0 : 0 ≤ f * x := Rat.mul_nonneg f0 hx
  have fx1 : f * x ≤ 1 := by grind
  have dD : D ≤ 3200000 := by omega
  have hfd : f.den ∣ D := by rw [hf]; exact den_dvd_of_mkRat _ _ hD0
  have hfxd : (f * x).den ∣ D := den_dvd_of_int hD0 efx
  obtain ⟨S, hS⟩ : ∃ S : Nat, (S : Int) = (x.den : Int) - x.num := ⟨((x.den : Int) - x.num).toNat, by omega⟩
  have hDS : D = y.den * S := by
    have : (D : Int) = ((y.den * S : Nat) : Int) := by rw [Int.natCast_mul, hS, hDI]
    exact_mod_cast this
  have hM0 : Et * S ≠ 0 := Nat.mul_ne_zero (by omega) (by omega)
  have hMle : Et * S ≤ 3200000 := Nat.le_trans (Nat.mul_le_mul_left _ (show S ≤ Ef by omega)) hm
  have hsd : (f * x + z).den ∣ Et * S := add_den_dvd hM0 (Nat.dvd_trans hfxd (by rw [hDS]; exact Nat.mul_dvd_mul_right dy _)) (Nat.dvd_trans dz (Nat.dvd_mul_right _ _))
  refine ⟨a0, by omega, b0, b1, hAB, n0, by omega, by omega, by omega, ?_, ?_, ?_⟩
  · exact RIn_of_den f0 (n := 1) (by simpa using f1) (by omega) (Nat.le_trans (Nat.le_of_dvd (by omega) hfd) dD)
  · exact RIn_of_den fx0 (n := 1) (by simpa using fx1) (by omega) (Nat.le_trans (Nat.le_of_dvd (by omega) hfxd) dD)
  · exact RIn_of_den (by grind) (n := 6) (by simp; grind) (by omega) (Nat.le_trans (Nat.le_of_dvd (by omega) hsd) hMle)

theorem facOk {l : List Tk} (hs : setVld l = true) (hf : facNo l = false) : FacOk l := by
  obtain ⟨hl5, hall⟩ := setVld_all hs
  have hbd1 := shares_bd false false l hall
  have hbd2 := shares_bd true false l hall
  have hbd3 := shares_bd true true l hall
  have hdv1 := shares_dvd false false l hall
  have hdv2 := shares_dvd true false l hall
  have hdv3 := shares_dvd true true l hall
  have hp1 := evProd_pos false l hall
  have hp2 := evProd_pos true l hall
  have hpl := Nat.le_trans (evProd_le l hall) (pow_le5' hl5)
  simp only [facNo, Bool.or_eq_false_iff, Bool.not_eq_false', beq_eq_false_iff_ne] at hf
  obtain ⟨hfit, hne⟩ := hf
  rw [fitsR_iff] at hfit
  have hfr : facR l = mkRat ((ub l).num * (ua l).den) (((ub l).den : Int) * ((ua l).den - (ua l).num)).toNat := rfl
  change 0 ≤ ua l ∧ _ at hbd1
  change 0 ≤ ub l ∧ _ at hbd2
  change 0 ≤ uh l ∧ _ at hbd3
  change (ua l).den ∣ _ at hdv1
  change (ub l).den ∣ _ at hdv2
  change (uh l).den ∣ _ at hdv3
  have h5 : ((l.length : Nat) : Rat) ≤ 5 := by exact_mod_cast hl5
  have hz5 : uh l ≤ 5 := Rat.le_trans hbd3.2 h5
  obtain ⟨m1, m2, m3, m4, m5, m6, m7, m8, m9, m10, m11, m12⟩ := fac_math hbd1.1 hbd2.1 hbd3.1 hz5 hdv1 hdv2 hdv3 hp2 hp1 hpl hfit hne hfr
  exact ⟨m1, m2, m3, m4, m5, m6, m7, m8, m9, m10, m11, m12⟩
end Go.Proofs.Ytmkjmancmiphfaa
