/-
  The walks of Implicit, plus, times, fits.
  The virtual deadlines' factor in plain Lean: how great its numbers are.
  Holding by a policy, in plain Lean: fewer tasks, smaller needs.
  The greatest need with which tasks hold, in plain Lean.
  The machine's run in plain Lean: with deadlines, what holds is in time.
  The machine in plain Lean, tick by tick; what holds is in time; who misses.
  CanBeLast: the program's and the reference's.
  AssignOrder: the program's.
-/
import Derived.Test.YtmkjmancmiphfaaGreatDoorRa05
namespace Go.Proofs.YtmkjmancmiphfaaGreatDoor
section
open Go.RowKit

def impAll (l : List Tk) (n : Nat) : Bool := (List.range n).all (fun k => decide ((tkAt l k).due = (tkAt l k).every))
def impl_ (l : List Tk) : Bool := setVld l && impAll l l.length
theorem impAll_succ {l : List Tk} {n : Nat} (h : impAll l n = true) (hk : (tkAt l n).due = (tkAt l n).every) : impAll l (n + 1) = true := by
  simp only [impAll, List.all_eq_true, List.mem_range, decide_eq_true_eq] at h ⊢
  intro k h1
  by_cases e : k = n
  · subst e; exact hk
  · exact h k (by omega)
theorem impAll_bad {l : List Tk} {n k : Nat} (hk : k < n) (h : ¬ (tkAt l k).due = (tkAt l k).every) : impAll l n = false := by
  cases e : impAll l n with
  | false => rfl
  | true =>
    simp only [impAll, List.all_eq_true, List.mem_range, decide_eq_true_eq] at e
    exact absurd (e k hk) h

theorem impl_Implicit (A : Option Addr) (l : List Tk) (c : Nat) (w : World) (h : TS w A l) (hm : l.length ≤ maxLen) :
    Calls Tryz.prog 60 #[.slice A l.length c] w fun e w' => e = .returned (.bool (impl_ l)) ∧ Below w.heap.size w w' := by
  have hm' := hm
  unfold maxLen at hm'
  go_enter Tryz.func60, Tryz.ntmps60
  go_wp2_with fail
  go_loopw [7] (fun i wr => ∃ k : Nat, k ≤ l.length ∧ i = .int .i64 (k : Int) ∧ Hid (impAll l k = true) ∧ Below w.heap.size w wr) (fun i _ => l.length - (intOf i).toNat)
  case atStart => exact ⟨0, by omega, rfl, rfl, Below.refl _ _⟩
  case round =>
    obtain ⟨k, hk, rfl, hall, hb⟩ := hrel
    by_cases hlt : k < l.length
    · obtain ⟨b, off, rfl, hbl, hc⟩ := h.keep hb (by omega)
      obtain ⟨c0, c1, c2, c3, c4⟩ := cells_tk hc k hlt
      clear hc
      by_cases he : (tkAt l k).due = (tkAt l k).every
      · have hne : ((tkAt l k).due != (tkAt l k).every) = false := by simp [he]
        have hgood := Lib.hid (impAll_succ hall.out he)
        have He := Lib.hid he
        clear he
        go_wp2_with fail
        go_roundw
        case rel => exact ⟨k + 1, by omega, by go_num, hgood, bal hb _⟩
        case measure => simp [intOf]; omega
      · have hne : ((tkAt l k).due != (tkAt l k).every) = true := by simp [he]
        have hbad := Lib.hid (impAll_bad hlt he)
        have He := Lib.hid he
        clear he
        go_wp2_with fail
        go_ret
        exact ⟨by rw [impl_, hbad.out, Bool.and_false]; rfl, bal hb _⟩
    · have hk' : Hid (k = l.length) := show k = l.length by omega
      go_wp2_with fail
      refine (impl_SetValid A l c _ (h.keep hb)).mono ?_
      rintro e w1 ⟨rfl, b1⟩
      go_wp2_with fail
      go_ret
      have ha := hall.out
      rw [hk'.out] at ha
      exact ⟨by rw [impl_, ha, Bool.and_true]; rfl, bthru hb b1⟩

theorem RIn_bds {a : Rat} (h : RIn a) : 0 ≤ a.num ∧ a.num ≤ 1000000000 ∧ 1 ≤ (a.den : Int) ∧ (a.den : Int) ≤ 1000000000 := by
  obtain ⟨h1, h2, h3⟩ := h
  have := a.den_pos
  omega

theorem impl_plus (a b : Rat) (w : World) (ha : RIn a) (hb : RIn b) :
    Calls Tryz.prog 64 #[rv a, rv b] w fun e w' => e = .returned (rv (a + b)) ∧ Below w.heap.size w w' := by
  obtain ⟨a0, a1, a2, a3⟩ := RIn_bds ha
  obtain ⟨b0, b1, b2, b3⟩ := RIn_bds hb
  have m1 := mul_bd a0 a1 (show 0 ≤ (b.den : Int) by omega) b3 (by omega)
  have m2 := mul_bd b0 b1 (show 0 ≤ (a.den : Int) by omega) a3 (by omega)
  obtain ⟨m20, m21⟩ := m2
  have m3 := mul_bd (show 0 ≤ (a.den : Int) by omega) a3 (show 0 ≤ (b.den : Int) by omega) b3 (by omega)
  have m4 : 1 ≤ (a.den : Int) * (b.den : Int) := by have := Int.mul_pos (show (0 : Int) < a.den by omega) (show (0 : Int) < b.den by omega); omega
  obtain ⟨m10, m11⟩ := m1
  obtain ⟨m30, m31⟩ := m3
  go_enter Tryz.func64, Tryz.ntmps64
  go_wp2_with fail
  refine (impl_reducedI _ _ _ (by omega) (by omega) (by omega) (by omega)).mono ?_
  rw [mk_add]
  rintro e w3 ⟨rfl, c3⟩
  obtain ⟨hA0, hB0, hC0⟩ := heap3 w (.cells #[.int .i64 a.num, .int .i64 (a.den : Int)] 54) (.cells #[.int .i64 b.num, .int .i64 (b.den : Int)] 54) (.cells #[.int .i64 0, .int .i64 0] 54)
  have hz3 := c3.size
  simp only [World.size_alloc] at hz3
  have hC3 := (c3.block (w.heap.size + 1 + 1) (by simp)).trans hC0
  obtain ⟨x0, x1, xf⟩ := blk_two hC3
  clear hA0 hB0 hC0 hC3
  obtain ⟨r, hr⟩ : ∃ r, a + b = r := ⟨_, rfl⟩
  rw [hr]
  have Hr := Lib.hid hr
  clear hr
  go_wp2_with fail
  refine bodyPost_ret (v := rv r) (by simp [results, Tryz.results64, go_sem, x0, x1]) rfl ⟨by rw [Hr.out], ?_⟩
  exact bst (bst (bthru (bal (bal (bal (Below.refl _ _) _) _) _) c3) (p := ⟨w.heap.size + 1 + 1, 0, none⟩) (by show w.heap.size ≤ w.heap.size + 1 + 1; omega) _) (p := ⟨w.heap.size + 1 + 1, 1, none⟩) (by show w.heap.size ≤ w.heap.size + 1 + 1; omega) _

def fitsR (r : Rat) : Bool := decide (r.num ≤ (r.den : Int))
theorem impl_fits (a : Rat) (w : World) :
    Calls Tryz.prog 63 #[rv a] w fun e w' => e = .returned (.bool (fitsR a)) ∧ Below w.heap.size w w' := by
  go_enter Tryz.func63, Tryz.ntmps63
  go_wp2_with fail
  go_ret
  exact ⟨rfl, bal (Below.refl _ _) _⟩
theorem fitsR_iff (r : Rat) : fitsR r = true ↔ r ≤ 1 := by
  simp only [fitsR, decide_eq_true_eq, Rat.le_iff]
  simp

theorem rat_mul_den (r : Rat) : r * (r.den : Rat) = (r.num : Rat) := by
  have h : (r.num : Rat) / (r.den : Rat) = r := by rw [← Rat.mkRat_eq_div, Rat.mkRat_self]
  have h0 : ((r.den : Nat) : Rat) ≠ 0 := by
    intro e
    exact r.den_nz (by exact_mod_cast e)
  grind
theorem den_dvd_of_int {r : Rat} {M : Nat} (hM : M ≠ 0) {k : Int} (h : r * (M : Rat) = (k : Rat)) : r.den ∣ M := by
  have hM' : ((M : Nat) : Rat) ≠ 0 := by
    intro e
    exact hM (by exact_mod_cast e)
  have e : r = mkRat k M := by
    rw [Rat.mkRat_eq_div, ← h]
    grind
  rw [e]
  exact den_dvd_of_mkRat _ _ hM
theorem int_of_den_dvd {r : Rat} {M : Nat} (h : r.den ∣ M) : ∃ k : Int, r * (M : Rat) = (k : Rat) := by
  obtain ⟨c, rfl⟩ := h
  refine ⟨r.num * c, ?_⟩
  have := rat_mul_den r
  simp only [Rat.intCast_mul, Rat.natCast_mul, Rat.intCast_natCast]
  grind
theorem add_den_dvd {a b : Rat} {M : Nat} (hM : M ≠ 0) (ha : a.den ∣ M) (hb : b.den ∣ M) : (a + b).den ∣ M := by
  obtain ⟨k, hk⟩ := int_of_den_dvd ha
  obtain ⟨j, hj⟩ := int_of_den_dvd hb
  exact den_dvd_of_int hM (k := k + j) (by rw [Rat.intCast_add, Rat.add_mul, hk, hj])

def evProd (crit : Bool) : List Tk → Nat
  | [] => 1
  | t :: l => (if t.crit = crit then t.every.toNat else 1) * evProd crit l
theorem evProd_pos (crit : Bool) (l : List Tk) (h : ∀ t ∈ l, vld t = true) : 0 < evProd crit l := by
  induction l with
  | nil => simp [evProd]
  | cons t l ih =>
    have h1 := ih (fun s hs => h s (List.mem_cons_of_mem _ hs))
    have h2 := vld_bd (h t (by simp))
    simp only [evProd]
    refine Nat.mul_pos ?_ h1
    split <;> omega
theorem evProd_le (l : List Tk) (h : ∀ t ∈ l, vld t = true) : evProd true l * evProd false l ≤ 20 ^ l.length := by
  induction l with
  | nil => simp [evProd]
  | cons t l ih =>
    have h1 := ih (fun s hs => h s (List.mem_cons_of_mem _ hs))
    have h2 := vld_bd (h t (by simp))
    have h3 : t.every.toNat ≤ 20 := by omega
    simp only [evProd, List.length_cons, Nat.pow_succ]
    rw [Nat.mul_comm (20 ^ l.length) 20]
    cases t.crit
    · simp
      calc evProd true l * (t.every.toNat * evProd false l) = t.every.toNat * (evProd true l * evProd false l) := by ac_rfl
        _ ≤ 20 * 20 ^ l.length := Nat.mul_le_mul h3 h1
    · simp
      calc t.every.toNat * evProd true l * evProd false l = t.every.toNat * (evProd true l * evProd false l) := by ac_rfl
        _ ≤ 20 * 20 ^ l.length := Nat.mul_le_mul h3 h1
theorem shares_dvd (crit high : Bool) (l : List Tk) (h : ∀ t ∈ l, vld t = true) : (shares crit high l).den ∣ evProd crit l := by
  induction l with
  | nil => simp [shares, evProd]
  | cons t l ih =>
    have h1 := ih (fun s hs => h s (List.mem_cons_of_mem _ hs))
    have h2 := vld_bd (h t (by simp))
    have h3 := evProd_pos crit l (fun s hs => h s (List.mem_cons_of_mem _ hs))
    simp only [shares, evProd]
    have hx : (if t.crit = crit then shr high t else 0).den ∣ (if t.crit = crit then t.every.toNat else 1) := by
      split
      · exact den_dvd_of_mkRat _ _ (by omega)
      · simp
    refine add_den_dvd (Nat.mul_ne_zero ?_ (by omega)) (Nat.dvd_trans hx (Nat.dvd_mul_right _ _)) (Nat.dvd_trans h1 (Nat.dvd_mul_left _ _))
    split <;> omega

/-- The low share of the tasks that are not critical, the low one and the high one of those that are. -/
def ua (l : List Tk) : Rat := shares false false l
def ub (l : List Tk) : Rat := shares true false l
def uh (l : List Tk) : Rat := shares true true l
def hldPlain (l : List Tk) : Bool := impl_ l && fitsR (ua l + uh l)
def facNo (l : List Tk) : Bool := !fitsR (ua l + ub l) || (ua l).num == ((ua l).den : Int)
def facR (l : List Tk) : Rat := mkRat ((ub l).num * (ua l).den) (((ub l).den : Int) * ((ua l).den - (ua l).num)).toNat
theorem pow_le5' {n : Nat} (h : n ≤ 5) : 20 ^ n ≤ 3200000 := Nat.le_trans (Nat.pow_le_pow_right (by omega) h) (by decide)

/-- What is known where there is a factor. -/
structure FacOk (l : List Tk) : Prop where
  a0 : 0 ≤ (ua l).num
  a1 : (ua l).num < ((ua l).den : Int)
  b0 : 0 ≤ (ub l).num
  b1 : (ub l).num ≤ ((ub l).den : Int)
  ab : ((ua l).den : Int) * ((ub l).den : Int) ≤ 3200000
  n0 : 0 ≤ (ub l).num * ((ua l).den : Int)
  n1 : (ub l).num * ((ua l).den : Int) ≤ 3200000
  d0 : 1 ≤ ((ub l).den : Int) * (((ua l).den : Int) - (ua l).num)
  d1 : ((ub l).den : Int) * (((ua l).den : Int) - (ua l).num) ≤ 3200000
  facIn : RIn (facR l)
  mulIn : RIn (facR l * ua l)
  sumIn : RIn (facR l * ua l + uh l)

theorem le_one_num {r : Rat} (h : r ≤ 1) : r.num ≤ (r.den : Int) := by
  have := num_le_of_le (r := r) (n := 1) (by simpa using h)
  omega
theorem RIn_of_den {r : Rat} {n : Nat} (h0 : 0 ≤ r) (h1 : r ≤ (n : Rat)) (hn : n ≤ 6) (hd : r.den ≤ 3200000) : RIn r := by
  have h3 := num_le_of_le h1
  have h5 : (n : Int) * (r.den : Int) ≤ 6 * (r.den : Int) := Int.mul_le_mul_of_nonneg_right (by omega) (by omega)
  exact ⟨rat_num_le h0, by omega, by omega⟩

theorem fac_math {x y z f : Rat} {Et Ef : Nat} (hx : 0 ≤ x) (hy : 0 ≤ y) (hz : 0 ≤ z) (hz5 : z ≤ 5) (dx : x.den ∣ Ef) (dy : y.den ∣ Et) (dz : z.den ∣ Et) (pe : 0 < Et) (pf : 0 < Ef) (hm : Et * Ef ≤ 3200000)
    (hxy : x + y ≤ 1) (hne : x.num ≠ (x.den : Int)) (hf : f = mkRat (y.num * x.den) ((y.den : Int) * (x.den - x.num)).toNat) :
    0 ≤ x.num ∧ x.num < (x.den : Int) ∧ 0 ≤ y.num ∧ y.num ≤ (y.den : Int) ∧ (x.den : Int) * (y.den : Int) ≤ 3200000 ∧ 0 ≤ y.num * (x.den : Int) ∧ y.num * (x.den : Int) ≤ 3200000 ∧
      1 ≤ (y.den : Int) * ((x.den : Int) - x.num) ∧ (y.den : Int) * ((x.den : Int) - x.num) ≤ 3200000 ∧ RIn f ∧ RIn (f * x) ∧ RIn (f * x + z) := by
  have px := x.den_pos
  have py := y.den_pos
  have a0 := rat_num_le hx
  have b0 := rat_num_le hy
  have a1 : x.num ≤ (x.den : Int) := le_one_num (by grind)
  have b1 : y.num ≤ (y.den : Int) := le_one_num (by grind)
  have hAE := Nat.le_of_dvd pf dx
  have hBE := Nat.le_of_dvd pe dy
  have hABn : x.den * y.den ≤ 3200000 := Nat.le_trans (Nat.mul_le_mul hAE hBE) (by rw [Nat.mul_comm]; exact hm)
  have hAB : (x.den : Int) * (y.den : Int) ≤ 3200000 := by rw [← Int.natCast_mul]; omega
  have n0 : 0 ≤ y.num * (x.den : Int) := Int.mul_nonneg b0 (by omega)
  have n1 : y.num * (x.den : Int) ≤ (y.den : Int) * (x.den : Int) := Int.mul_le_mul_of_nonneg_right b1 (by omega)
  have c1 : (y.den : Int) * (x.den : Int) = (x.den : Int) * (y.den : Int) := Int.mul_comm _ _
  have d0 : 0 < (y.den : Int) * ((x.den : Int) - x.num) := Int.mul_pos (by omega) (by omega)
  have d1 : (y.den : Int) * ((x.den : Int) - x.num) ≤ (y.den : Int) * (x.den : Int) := Int.mul_le_mul_of_nonneg_left (by omega) (by omega)
  obtain ⟨D, hD⟩ : ∃ D : Nat, ((y.den : Int) * (x.den - x.num)).toNat = D := ⟨_, rfl⟩
  have hDI : (D : Int) = (y.den : Int) * ((x.den : Int) - x.num) := by omega
  have hD0 : D ≠ 0 := by omega
  rw [hD] at hf
  have hDR : ((D : Nat) : Rat) = (y.den : Rat) * ((x.den : Rat) - (x.num : Rat)) := by
    have h1 : (((D : Nat) : Int) : Rat) = (((y.den : Int) * ((x.den : Int) - x.num) : Int) : Rat) := by rw [hDI]
    simpa [Rat.intCast_mul, Rat.intCast_sub, Rat.intCast_natCast] using h1
  have hDR0 : ((D : Nat) : Rat) ≠ 0 := by
    intro e
    exact hD0 (by exact_mod_cast e)
  have ex := rat_mul_den x
  have ey := rat_mul_den y
  have ef : f * (D : Rat) = (y.num : Rat) * (x.den : Rat) := by
    have h1 : f = ((y.num * (x.den : Int) : Int) : Rat) / ((D : Nat) : Rat) := by rw [hf, Rat.mkRat_eq_div]
    have h2 : ((y.num * (x.den : Int) : Int) : Rat) = (y.num : Rat) * (x.den : Rat) := by rw [Rat.intCast_mul, Rat.intCast_natCast]
    rw [h2] at h1
    grind
  have efx : f * x * (D : Rat) = ((y.num * x.num : Int) : Rat) := by
    rw [Rat.intCast_mul]
    grind
  have f0 : 0 ≤ f := by rw [hf]; exact mkRat_nonneg' n0 _ hD0
  have xd0 : ((x.den : Nat) : Rat) ≠ 0 := by
    intro e
    exact x.den_nz (by exact_mod_cast e)
  have yd0 : ((y.den : Nat) : Rat) ≠ 0 := by
    intro e
    exact y.den_nz (by exact_mod_cast e)
  have hfx : f * (1 - x) = y := by
    have h1 : (f * (1 - x) - y) * ((y.den : Rat) * (x.den : Rat)) = 0 := by
      rw [hDR, ← ex, ← ey] at ef
      grind
    rcases Rat.mul_eq_zero.1 h1 with h | h
    · grind
    · rcases Rat.mul_eq_zero.1 h with h | h
      · exact absurd h yd0
      · exact absurd h xd0
  have xne : x ≠ 1 := by
    intro e
    apply hne
    rw [e]
    rfl
  have x1 : x < 1 := by grind
  have f1 : f ≤ 1 := by
    apply Classical.byContradiction
    intro h
    have h1 : 0 < (f - 1) * (1 - x) := Rat.mul_pos (by grind) (by grind)
    grind
  have fx0 : 0 ≤ f * x := Rat.mul_nonneg f0 hx
  have fx1 : f * x ≤ 1 := by grind
  have dD : D ≤ 3200000 := by omega
  have hfd : f.den ∣ D := by rw [hf]; exact den_dvd_of_mkRat _ _ hD0
  have hfxd : (f * x).den ∣ D := den_dvd_of_int hD0 efx
  obtain ⟨S, hS⟩ : ∃ S : Nat, (S : Int) = (x.den : Int) - x.num := ⟨((x.den : Int) - x.num).toNat, by omega⟩
  have hDS : D = y.den * S := by
    have : (D : Int) = ((y.den * S : Nat) : Int) := by rw [Int.natCast_mul, hS, hDI]
    exact_mod_cast this
  have hM0 : Et * S ≠ 0 := Nat.mul_ne_zero (by omega) (by omega)
  have hMle : Et * S ≤ 3200000 := Nat.le_trans (Nat.mul_le_mul_left _ (show S ≤ Ef by omega)) hm
  have hsd : (f * x + z).den ∣ Et * S := add_den_dvd hM0 (Nat.dvd_trans hfxd (by rw [hDS]; exact Nat.mul_dvd_mul_right dy _)) (Nat.dvd_trans dz (Nat.dvd_mul_right _ _))
  refine ⟨a0, by omega, b0, b1, hAB, n0, by omega, by omega, by omega, ?_, ?_, ?_⟩
  · exact RIn_of_den f0 (n := 1) (by simpa using f1) (by omega) (Nat.le_trans (Nat.le_of_dvd (by omega) hfd) dD)
  · exact RIn_of_den fx0 (n := 1) (by simpa using fx1) (by omega) (Nat.le_trans (Nat.le_of_dvd (by omega) hfxd) dD)
  · exact RIn_of_den (by grind) (n := 6) (by simp; grind) (by omega) (Nat.le_trans (Nat.le_of_dvd (by omega) hsd) hMle)

theorem facOk {l : List Tk} (hs : setVld l = true) (hf : facNo l = false) : FacOk l := by
  obtain ⟨hl5, hall⟩ := setVld_all hs
  have hbd1 := shares_bd false false l hall
  have hbd2 := shares_bd true false l hall
  have hbd3 := shares_bd true true l hall
  have hdv1 := shares_dvd false false l hall
  have hdv2 := shares_dvd true false l hall
  have hdv3 := shares_dvd true true l hall
  have hp1 := evProd_pos false l hall
  have hp2 := evProd_pos true l hall
  have hpl := Nat.le_trans (evProd_le l hall) (pow_le5' hl5)
  simp only [facNo, Bool.or_eq_false_iff, Bool.not_eq_false', beq_eq_false_iff_ne] at hf
  obtain ⟨hfit, hne⟩ := hf
  rw [fitsR_iff] at hfit
  have hfr : facR l = mkRat ((ub l).num * (ua l).den) (((ub l).den : Int) * ((ua l).den - (ua l).num)).toNat := rfl
  change 0 ≤ ua l ∧ _ at hbd1
  change 0 ≤ ub l ∧ _ at hbd2
  change 0 ≤ uh l ∧ _ at hbd3
  change (ua l).den ∣ _ at hdv1
  change (ub l).den ∣ _ at hdv2
  change (uh l).den ∣ _ at hdv3
  have h5 : ((l.length : Nat) : Rat) ≤ 5 := by exact_mod_cast hl5
  have hz5 : uh l ≤ 5 := Rat.le_trans hbd3.2 h5
  obtain ⟨m1, m2, m3, m4, m5, m6, m7, m8, m9, m10, m11, m12⟩ := fac_math hbd1.1 hbd2.1 hbd3.1 hz5 hdv1 hdv2 hdv3 hp2 hp1 hpl hfit hne hfr
  exact ⟨m1, m2, m3, m4, m5, m6, m7, m8, m9, m10, m11, m12⟩
end

section
/-! ### Shares of fewer tasks -/
theorem impl_iff (l : List Tk) : impl_ l = true ↔ setVld l = true ∧ ∀ t ∈ l, t.due = t.every := by
  simp only [impl_, Bool.and_eq_true, impAll, List.all_eq_true, List.mem_range, decide_eq_true_eq]
  constructor
  · rintro ⟨h1, h2⟩
    refine ⟨h1, fun t ht => ?_⟩
    obtain ⟨k, hk, rfl⟩ := List.getElem_of_mem ht
    have := h2 k hk
    rwa [tkAt_eq l k hk] at this
  · rintro ⟨h1, h2⟩
    exact ⟨h1, fun k hk => by rw [tkAt_eq l k hk]; exact h2 _ (List.getElem_mem hk)⟩
theorem impl_vld {l : List Tk} (h : impl_ l = true) : setVld l = true := ((impl_iff l).1 h).1
/-! ### By a policy -/
/-! ### Easier tasks -/
structure Eas (s t : Tk) : Prop where
  crit : s.crit = t.crit
  low : s.low ≤ t.low
  high : s.high ≤ t.high
  due : t.due ≤ s.due
  every : s.every = t.every
theorem Eas.refl (t : Tk) : Eas t t := ⟨rfl, Int.le_refl _, Int.le_refl _, Int.le_refl _, rfl⟩
theorem Eas.dem {s t : Tk} (h : Eas s t) (ht : vld t = true) (b : Bool) {w : Int} (hw : 0 ≤ w) : demF s w b ≤ demF t w b := by
  have hj := (jobsOf_bd ht hw).1
  have e : jobsOf s w = jobsOf t w := by simp only [jobsOf, h.every]
  unfold demF
  rw [e]
  refine Int.mul_le_mul_of_nonneg_left ?_ hj
  have := h.low
  have := h.high
  cases b <;> simp [needOf] <;> omega
theorem Eas.sw {s t : Tk} (h : Eas s t) (ht : vld t = true) {low w : Int} (hl : 0 ≤ low) (hw : 0 ≤ w) : swDem s low w ≤ swDem t low w := by
  unfold swDem
  rw [h.crit]
  split
  · exact h.dem ht _ hw
  · exact h.dem ht _ hl
end

section
open Go.RowKit

/-- The deadline of a job, times the divisor of the factor. -/
def vkey (l : List Tk) (js : List Jb) (num den : Int) (mode : Bool) (i : Nat) : Int :=
  if (tkAt l (jK js i)).crit && !mode then jA js i * den + (tkAt l (jK js i)).due * num else (jA js i + (tkAt l (jK js i)).due) * den
section
variable {l : List Tk} {js : List Jb} {num den : Int} {x : Rat} {lv cm : Nat → Nat → Prop} {hi md : Nat → Bool} {run : Nat → Option Nat} {dn : Nat → Nat → Int}
/-- A job that does not run has no more done. -/
theorem Sch.still {key : Bool → Nat → Int} (S : Sch l js key lv cm hi md run dn) {s i : Nat} : ∀ k, (∀ t, s ≤ t → t < s + k → run t ≠ some i) → dn (s + k) i = dn s i := by
  intro k
  induction k with
  | zero => exact fun _ => rfl
  | succ k ih =>
    intro h
    rw [← Nat.add_assoc, S.dnS, if_neg (h (s + k) (by omega) (by omega)), ih (fun t a b => h t a (by omega)), Int.add_zero]
end
end

section
open Go.RowKit

structure Mc where
  en : List Int
  dn : List Int
  lf : List Nat
  tr : List Int
  sw : List Int
  hi : Bool
/-- The jobs that come at a tick, of the first k: those that are dropped, and those that are left. -/
def arrS (l : List Tk) (js : List Jb) (tick : Int) (hi : Bool) (i : Nat) (s : List Int × List Nat) : List Int × List Nat :=
  if jA js i = tick then (if hi && !(tkAt l (jK js i)).crit then (s.1.set i (-2), s.2) else (s.1, s.2 ++ [i])) else s
def arrTo (l : List Tk) (js : List Jb) (tick : Int) (hi : Bool) (s : List Int × List Nat) : Nat → List Int × List Nat
  | 0 => s
  | k + 1 => arrS l js tick hi k (arrTo l js tick hi s k)
def bestTo (g : Nat → Nat → Bool) (lf : List Nat) : Nat → Nat
  | 0 => lf.getD 0 0
  | k + 1 => if g (lf.getD (k + 1) 0) (bestTo g lf k) then lf.getD (k + 1) 0 else bestTo g lf k
def goesP (js : List Jb) (a b : Nat) : Bool := if (jobAt js a).task = (jobAt js b).task then decide (jA js a < jA js b) else decide ((jobAt js a).task < (jobAt js b).task)
def goesB (l : List Tk) (js : List Jb) (num den pol : Int) (hi : Bool) (a b : Nat) : Bool :=
  if pol = 1 ∧ vkey l js num den hi a ≠ vkey l js num den hi b then decide (vkey l js num den hi a < vkey l js num den hi b) else goesP js a b
def dropTo (l : List Tk) (js : List Jb) (lf : List Nat) (en : List Int) : Nat → List Int
  | 0 => en
  | k + 1 => if (tkAt l (jK js (lf.getD k 0))).crit then dropTo l js lf en k else (dropTo l js lf en k).set (lf.getD k 0) (-2)
def stillTo (en : List Int) (lf : List Nat) : Nat → List Nat
  | 0 => []
  | k + 1 => stillTo en lf k ++ (if en.getD (lf.getD k 0) 0 = -1 then [lf.getD k 0] else [])
def mdOf (s : Mc) : Bool := if s.lf = [] then false else s.hi
def arrOf (l : List Tk) (js : List Jb) (tick : Nat) (s : Mc) : List Int × List Nat := arrTo l js tick (mdOf s) (s.en, s.lf) js.length
def bestOf (l : List Tk) (js : List Jb) (num den pol : Int) (hi : Bool) (lf : List Nat) : Nat := bestTo (goesB l js num den pol hi) lf (lf.length - 1)
/-- How a tick ends for the job that ran: who ended, who was dropped, the mode, the switches. -/
def endOf (l : List Tk) (js : List Jb) (tick : Nat) (hi : Bool) (en : List Int) (lf : List Nat) (sw : List Int) (r : Nat) (d : Int) : List Int × Bool × List Int :=
  if d = jN js r then (en.set r ((tick : Int) + 1), hi, sw)
  else if !hi && (tkAt l (jK js r)).crit && decide (d = (tkAt l (jK js r)).low) then (dropTo l js lf en lf.length, true, sw ++ [(tick : Int) + 1])
  else (en, hi, sw)
def mstep (l : List Tk) (js : List Jb) (num den pol : Int) (tick : Nat) (s : Mc) : Mc :=
  let a := arrOf l js tick s
  if a.2 = [] then ⟨a.1, s.dn, [], s.tr ++ [-1], s.sw, mdOf s⟩
  else
    let r := bestOf l js num den pol (mdOf s) a.2
    let d := s.dn.getD r 0 + 1
    let e := endOf l js tick (mdOf s) a.1 a.2 s.sw r d
    ⟨e.1, s.dn.set r d, stillTo e.1 a.2 a.2.length, s.tr ++ [(jobAt js r).task], e.2.2, e.2.1⟩
def mrun (l : List Tk) (js : List Jb) (num den pol : Int) : Nat → Mc
  | 0 => ⟨List.replicate js.length (-1), List.replicate js.length 0, [], [], [], false⟩
  | t + 1 => mstep l js num den pol t (mrun l js num den pol t)
/-- Who is late. -/
def lateB (l : List Tk) (js : List Jb) (en : List Int) (T : Int) (i : Nat) : Bool :=
  decide (jA js i + (tkAt l (jK js i)).due < en.getD i 0) || (decide (en.getD i 0 = -1) && decide (jA js i + (tkAt l (jK js i)).due ≤ T))
def lateTo (l : List Tk) (js : List Jb) (en : List Int) (T : Int) : Nat → List Nat
  | 0 => []
  | k + 1 => lateTo l js en T k ++ (if lateB l js en T k then [k] else [])

theorem apart_of {l : List Tk} {js : List Jb} (h : jobsV l js = true) : Apart l js := by
  simp only [jobsV, Bool.and_eq_true, List.all_eq_true, List.mem_range, decide_eq_true_eq] at h
  obtain ⟨⟨hS, h60⟩, hall⟩ := h
  have hj : ∀ i, i < js.length → jobOfB l (jobAt js i) = true := fun i hi => by
    have := hall i hi
    simp only [jobOk, Bool.and_eq_true] at this
    exact this.1.1
  have hj' : ∀ i, i < js.length → 0 ≤ jA js i ∧ jK js i < l.length ∧ 1 ≤ jN js i ∧ jN js i ≤ (tkAt l (jK js i)).high ∧ (jobAt js i).task = (jK js i : Int) := by
    intro i hi
    have h1 := hj i hi
    simp only [jobOfB, plc, Bool.and_eq_true, decide_eq_true_eq] at h1
    obtain ⟨⟨⟨⟨⟨⟨_, h2⟩, h3⟩, h4⟩, h5⟩, h6⟩, h7⟩ := h1
    exact ⟨h4, by unfold jK; omega, h6, h7, by unfold jK; omega⟩
  refine ⟨fun i hi => (hj' i hi).1, fun i hi => (hj' i hi).2.1, fun i hi => ⟨(hj' i hi).2.2.1, (hj' i hi).2.2.2.1⟩, ?_⟩
  intro i j hij hjl hk
  have h1 := hall j hjl
  simp only [jobOk, Bool.and_eq_true, List.all_eq_true] at h1
  have h2 := h1.1.2 (jobAt js i) (by
    rw [jobAt_eq js i (by omega)]
    exact List.mem_take_iff_getElem.2 ⟨i, by omega, rfl⟩)
  have e1 := (hj' i (by omega)).2.2.2.2
  have e2 := (hj' j hjl).2.2.2.2
  simp only [farJ, Bool.not_eq_true', Bool.and_eq_false_iff, decide_eq_false_iff_not] at h2
  have e3 : (tkAt l (jobAt js j).task.toNat).every = (tkAt l (jK js i)).every := by
    rw [hk]
    rfl
  rw [e3] at h2
  unfold jA
  rcases h2 with h2 | h2 <;> omega

theorem getD_set (l : List Int) (i j : Nat) (x : Int) : (l.set i x).getD j 0 = if i = j ∧ i < l.length then x else l.getD j 0 := by
  rw [List.getD_eq_getElem?_getD, List.getD_eq_getElem?_getD, List.getElem?_set]
  by_cases h : i = j
  · subst h
    by_cases h2 : i < l.length
    · simp [h2]
    · simp [h2]
  · simp [h]
theorem arr_mem (l : List Tk) (js : List Jb) (tick : Int) (hi : Bool) (s : List Int × List Nat) (k i : Nat) :
    i ∈ (arrTo l js tick hi s k).2 ↔ i ∈ s.2 ∨ (i < k ∧ jA js i = tick ∧ (hi = true → (tkAt l (jK js i)).crit = true)) := by
  induction k with
  | zero => simp [arrTo]
  | succ k ih =>
    simp only [arrTo, arrS]
    split
    · rename_i ht
      split
      · rename_i hc
        simp only [Bool.and_eq_true, Bool.not_eq_true'] at hc
        rw [ih]
        constructor
        · rintro (h | ⟨h1, h2⟩)
          · exact .inl h
          · exact .inr ⟨by omega, h2⟩
        · rintro (h | ⟨h1, h2, h3⟩)
          · exact .inl h
          · refine .inr ⟨?_, h2, h3⟩
            apply Classical.byContradiction
            intro hn
            obtain rfl : i = k := by omega
            have := h3 hc.1
            rw [hc.2] at this
            cases this
      · rename_i hc
        rw [List.mem_append, List.mem_singleton, ih]
        constructor
        · rintro ((h | ⟨h1, h2⟩) | rfl)
          · exact .inl h
          · exact .inr ⟨by omega, h2⟩
          · refine .inr ⟨by omega, ht, fun hh => ?_⟩
            subst hh
            simpa using hc
        · rintro (h | ⟨h1, h2, h3⟩)
          · exact .inl (.inl h)
          · by_cases e : i = k
            · exact .inr e
            · exact .inl (.inr ⟨by omega, h2, h3⟩)
    · rename_i ht
      rw [ih]
      constructor
      · rintro (h | ⟨h1, h2⟩)
        · exact .inl h
        · exact .inr ⟨by omega, h2⟩
      · rintro (h | ⟨h1, h2, h3⟩)
        · exact .inl h
        · refine .inr ⟨?_, h2, h3⟩
          apply Classical.byContradiction
          intro hn
          obtain rfl : i = k := by omega
          exact ht h2
theorem arr_len (l : List Tk) (js : List Jb) (tick : Int) (hi : Bool) (s : List Int × List Nat) (k : Nat) : (arrTo l js tick hi s k).1.length = s.1.length := by
  induction k with
  | zero => rfl
  | succ k ih =>
    simp only [arrTo, arrS]
    split
    · split
      · rw [List.length_set, ih]
      · exact ih
    · exact ih
/-- Who is dropped as it comes. -/
theorem arr_en (l : List Tk) (js : List Jb) (tick : Int) (hi : Bool) (s : List Int × List Nat) (k i : Nat) (hi' : i < s.1.length) :
    (arrTo l js tick hi s k).1.getD i 0 = if i < k ∧ jA js i = tick ∧ (hi && !(tkAt l (jK js i)).crit) = true then -2 else s.1.getD i 0 := by
  induction k with
  | zero => simp [arrTo]
  | succ k ih =>
    simp only [arrTo, arrS]
    split
    · rename_i ht
      split
      · rename_i hc
        rw [getD_set, arr_len, ih]
        by_cases e : k = i
        · subst e
          rw [if_pos ⟨rfl, hi'⟩, if_pos ⟨by omega, ht, hc⟩]
        · rw [if_neg (fun h => e h.1)]
          have : i < k ∧ jA js i = tick ∧ (hi && !(tkAt l (jK js i)).crit) = true ↔ i < k + 1 ∧ jA js i = tick ∧ (hi && !(tkAt l (jK js i)).crit) = true := by
            constructor
            · rintro ⟨a, b⟩
              exact ⟨by omega, b⟩
            · rintro ⟨a, b⟩
              exact ⟨by omega, b⟩
          simp only [this]
      · rename_i hc
        dsimp only
        rw [ih]
        have : i < k ∧ jA js i = tick ∧ (hi && !(tkAt l (jK js i)).crit) = true ↔ i < k + 1 ∧ jA js i = tick ∧ (hi && !(tkAt l (jK js i)).crit) = true := by
          constructor
          · rintro ⟨a, b⟩
            exact ⟨by omega, b⟩
          · rintro ⟨a, b, c⟩
            refine ⟨?_, b, c⟩
            apply Classical.byContradiction
            intro hn
            obtain rfl : i = k := by omega
            exact hc c
        simp only [this]
    · rename_i ht
      rw [ih]
      have : i < k ∧ jA js i = tick ∧ (hi && !(tkAt l (jK js i)).crit) = true ↔ i < k + 1 ∧ jA js i = tick ∧ (hi && !(tkAt l (jK js i)).crit) = true := by
        constructor
        · rintro ⟨a, b⟩
          exact ⟨by omega, b⟩
        · rintro ⟨a, b, c⟩
          refine ⟨?_, b, c⟩
          apply Classical.byContradiction
          intro hn
          obtain rfl : i = k := by omega
          exact ht b
      simp only [this]
theorem drop_len (l : List Tk) (js : List Jb) (lf : List Nat) (en : List Int) (k : Nat) : (dropTo l js lf en k).length = en.length := by
  induction k with
  | zero => rfl
  | succ k ih =>
    simp only [dropTo]
    split
    · exact ih
    · rw [List.length_set, ih]
theorem drop_en (l : List Tk) (js : List Jb) (lf : List Nat) (en : List Int) (k i : Nat) (hi : i < en.length) :
    (dropTo l js lf en k).getD i 0 = if (∃ j, j < k ∧ lf.getD j 0 = i) ∧ (tkAt l (jK js i)).crit = false then -2 else en.getD i 0 := by
  induction k with
  | zero =>
    rw [if_neg (fun h => by obtain ⟨⟨j, hj, _⟩, _⟩ := h; omega)]
    rfl
  | succ k ih =>
    simp only [dropTo]
    by_cases e : lf.getD k 0 = i
    · rw [e]
      cases hc : (tkAt l (jK js i)).crit with
      | true =>
        rw [if_pos rfl, ih, if_neg (fun h => by rw [hc] at h; exact absurd h.2 (by simp)), if_neg (fun h => absurd h.2 (by simp))]
      | false =>
        rw [if_neg (by simp), getD_set, if_pos ⟨rfl, by rw [drop_len]; exact hi⟩, if_pos ⟨⟨k, by omega, e⟩, rfl⟩]
    · have hx : (∃ j, j < k ∧ lf.getD j 0 = i) ↔ (∃ j, j < k + 1 ∧ lf.getD j 0 = i) := by
        constructor
        · rintro ⟨j, hj, h⟩
          exact ⟨j, by omega, h⟩
        · rintro ⟨j, hj, h⟩
          refine ⟨j, ?_, h⟩
          apply Classical.byContradiction
          intro hn
          obtain rfl : j = k := by omega
          exact e h
      simp only [← hx]
      split
      · exact ih
      · rw [getD_set, if_neg (fun h => e h.1)]
        exact ih
theorem still_mem (en : List Int) (lf : List Nat) (k i : Nat) : i ∈ stillTo en lf k ↔ (∃ j, j < k ∧ lf.getD j 0 = i) ∧ en.getD i 0 = -1 := by
  induction k with
  | zero =>
    constructor
    · intro h
      cases h
    · rintro ⟨⟨j, hj, _⟩, _⟩
      omega
  | succ k ih =>
    simp only [stillTo, List.mem_append, ih]
    constructor
    · rintro (⟨⟨j, hj, h1⟩, h2⟩ | h)
      · exact ⟨⟨j, by omega, h1⟩, h2⟩
      · split at h
        · rename_i hc
          rw [List.mem_singleton] at h
          exact ⟨⟨k, by omega, h.symm⟩, by rw [h]; exact hc⟩
        · cases h
    · rintro ⟨⟨j, hj, h1⟩, h2⟩
      by_cases e : j = k
      · subst e
        right
        rw [h1, if_pos h2]
        simp
      · exact .inl ⟨⟨j, by omega, h1⟩, h2⟩
theorem mem_getD (lf : List Nat) (i : Nat) : (∃ j, j < lf.length ∧ lf.getD j 0 = i) ↔ i ∈ lf := by
  rw [List.mem_iff_getElem]
  constructor
  · rintro ⟨j, hj, h⟩
    exact ⟨j, hj, by simpa [hj] using h⟩
  · rintro ⟨j, hj, h⟩
    exact ⟨j, hj, by simpa [hj] using h⟩
theorem best_mem (g : Nat → Nat → Bool) (lf : List Nat) (k : Nat) (hk : k < lf.length) : bestTo g lf k ∈ lf := by
  induction k with
  | zero => exact (mem_getD lf _).1 ⟨0, hk, rfl⟩
  | succ k ih =>
    simp only [bestTo]
    split
    · exact (mem_getD lf _).1 ⟨k + 1, hk, rfl⟩
    · exact ih (by omega)
structure MInv (l : List Tk) (js : List Jb) (t : Nat) (s : Mc) : Prop where
  enL : s.en.length = js.length
  dnL : s.dn.length = js.length
  lfI : ∀ i, i ∈ s.lf → i < js.length ∧ jA js i < (t : Int) ∧ s.en.getD i 0 = -1 ∧ s.dn.getD i 0 < jN js i ∧ (s.hi = false → (tkAt l (jK js i)).crit = true → s.dn.getD i 0 < (tkAt l (jK js i)).low) ∧ (s.hi = true → (tkAt l (jK js i)).crit = true)
  fut : ∀ i, i < js.length → (t : Int) ≤ jA js i → s.en.getD i 0 = -1 ∧ s.dn.getD i 0 = 0
  dnLe : ∀ i, i < js.length → 0 ≤ s.dn.getD i 0 ∧ s.dn.getD i 0 ≤ jN js i
  gone : ∀ i, i < js.length → jA js i < (t : Int) → i ∉ s.lf → s.en.getD i 0 ≠ -1
theorem mdOf_lf {s : Mc} {i : Nat} (h : i ∈ s.lf) : mdOf s = s.hi := by
  unfold mdOf
  rw [if_neg (fun e => by rw [e] at h; cases h)]
section
variable {l : List Tk} {js : List Jb} {num den pol : Int}
theorem arrOf_mem {t : Nat} {s : Mc} (i : Nat) : i ∈ (arrOf l js t s).2 ↔ i ∈ s.lf ∨ (i < js.length ∧ jA js i = (t : Int) ∧ (mdOf s = true → (tkAt l (jK js i)).crit = true)) := arr_mem l js t (mdOf s) (s.en, s.lf) js.length i
/-- What is known of the jobs that are there at a tick. -/
theorem MInv.come {t : Nat} {s : Mc} (I : MInv l js t s) (A : Apart l js) (hv : ∀ k, k < l.length → vld (tkAt l k) = true) {i : Nat} (h : i ∈ (arrOf l js t s).2) :
    i < js.length ∧ jA js i ≤ (t : Int) ∧ (arrOf l js t s).1.getD i 0 = -1 ∧ s.dn.getD i 0 < jN js i ∧ (mdOf s = false → (tkAt l (jK js i)).crit = true → s.dn.getD i 0 < (tkAt l (jK js i)).low) ∧ (mdOf s = true → (tkAt l (jK js i)).crit = true) := by
  have hen := fun hi => arr_en l js t (mdOf s) (s.en, s.lf) js.length i hi
  rcases (arrOf_mem i).1 h with h | ⟨h1, h2, h3⟩
  · obtain ⟨a1, a2, a3, a4, a5, a6⟩ := I.lfI i h
    rw [mdOf_lf h]
    refine ⟨a1, by omega, ?_, a4, a5, a6⟩
    unfold arrOf
    rw [hen (by show i < s.en.length; rw [I.enL]; exact a1), if_neg (fun e => by omega)]
    exact a3
  · obtain ⟨b1, b2⟩ := I.fut i h1 (by omega)
    have hn := (A.need i h1).1
    have hb := vld_bd (hv _ (A.tk i h1))
    refine ⟨h1, by omega, ?_, by omega, fun _ _ => by omega, h3⟩
    unfold arrOf
    rw [hen (by show i < s.en.length; rw [I.enL]; exact h1), if_neg]
    · exact b1
    · rintro ⟨_, _, e⟩
      simp only [Bool.and_eq_true, Bool.not_eq_true'] at e
      have := h3 e.1
      rw [e.2] at this
      cases this
theorem MInv.goneA {t : Nat} {s : Mc} (I : MInv l js t s) {i : Nat} (hi : i < js.length) (ha : jA js i ≤ (t : Int)) (h : i ∉ (arrOf l js t s).2) : (arrOf l js t s).1.getD i 0 ≠ -1 := by
  have hen := arr_en l js t (mdOf s) (s.en, s.lf) js.length i (by show i < s.en.length; rw [I.enL]; exact hi)
  rw [arrOf_mem] at h
  unfold arrOf
  rw [hen]
  by_cases e : jA js i = (t : Int)
  · have hc : (mdOf s && !(tkAt l (jK js i)).crit) = true := by
      apply Classical.byContradiction
      intro hn
      apply h
      refine .inr ⟨hi, e, fun hm => ?_⟩
      rw [hm] at hn
      simpa using hn
    rw [if_pos ⟨hi, e, hc⟩]
    decide
  · rw [if_neg (fun h => e h.2.1)]
    exact I.gone i hi (by omega) (fun h' => h (.inl h'))
theorem arrOf_len {t : Nat} {s : Mc} (I : MInv l js t s) : (arrOf l js t s).1.length = js.length := (arr_len ..).trans I.enL
theorem end_len (t : Nat) (hi : Bool) (en : List Int) (lf : List Nat) (sw : List Int) (r : Nat) (d : Int) : (endOf l js t hi en lf sw r d).1.length = en.length := by
  unfold endOf
  split
  · exact List.length_set
  · split
    · exact drop_len ..
    · rfl
theorem end_en (t : Nat) (hi : Bool) (en : List Int) (lf : List Nat) (sw : List Int) (r : Nat) (d : Int) {i : Nat} (hi' : i < en.length) :
    (endOf l js t hi en lf sw r d).1.getD i 0 = en.getD i 0 ∨ (i = r ∧ d = jN js r ∧ (endOf l js t hi en lf sw r d).1.getD i 0 = (t : Int) + 1) ∨ (i ∈ lf ∧ (tkAt l (jK js i)).crit = false ∧ (endOf l js t hi en lf sw r d).1.getD i 0 = -2) := by
  unfold endOf
  split
  · rename_i hd
    dsimp only
    rw [getD_set]
    split
    · rename_i h
      exact .inr (.inl ⟨h.1.symm, hd, rfl⟩)
    · exact .inl rfl
  · split
    · dsimp only
      rw [drop_en _ _ _ _ _ _ hi']
      split
      · rename_i h
        exact .inr (.inr ⟨(mem_getD lf i).1 h.1, h.2, rfl⟩)
      · exact .inl rfl
    · exact .inl rfl
theorem MInv.step (A : Apart l js) (hv : ∀ k, k < l.length → vld (tkAt l k) = true) {t : Nat} {s : Mc} (I : MInv l js t s) : MInv l js (t + 1) (mstep l js num den pol t s) := by
  have hC := fun {i} (h : i ∈ (arrOf l js t s).2) => I.come A hv h
  have hG := fun {i} (h1 : i < js.length) (h2 : jA js i ≤ (t : Int)) (h3 : i ∉ (arrOf l js t s).2) => I.goneA h1 h2 h3
  have hL := arrOf_len I
  have hfutA : ∀ i, i < js.length → ((t : Int) + 1) ≤ jA js i → (arrOf l js t s).1.getD i 0 = -1 := by
    intro i h1 h2
    unfold arrOf
    rw [arr_en l js t (mdOf s) (s.en, s.lf) js.length i (by show i < s.en.length; rw [I.enL]; exact h1), if_neg (fun e => by omega)]
    exact (I.fut i h1 (by omega)).1
  unfold mstep
  by_cases he : (arrOf l js t s).2 = []
  · simp only [he, if_true]
    refine ⟨hL, I.dnL, fun i h => (by cases h), fun i h1 h2 => ⟨hfutA i h1 (by omega), (I.fut i h1 (by omega)).2⟩, I.dnLe, fun i h1 h2 _ => hG h1 (by omega) (by rw [he]; simp)⟩
  · simp only [he, if_false]
    have hlen : 0 < (arrOf l js t s).2.length := by
      apply Nat.pos_of_ne_zero
      intro e
      exact he (List.eq_nil_of_length_eq_zero e)
    have hr := best_mem (goesB l js num den pol (mdOf s)) (arrOf l js t s).2 ((arrOf l js t s).2.length - 1) (by omega)
    change bestOf l js num den pol (mdOf s) (arrOf l js t s).2 ∈ _ at hr
    generalize bestOf l js num den pol (mdOf s) (arrOf l js t s).2 = r at hr
    obtain ⟨r1, r2, r3, r4, r5, r6⟩ := hC hr
    have hdn : ∀ i, (s.dn.set r (s.dn.getD r 0 + 1)).getD i 0 = if r = i then s.dn.getD r 0 + 1 else s.dn.getD i 0 := by
      intro i
      rw [getD_set]
      by_cases e : r = i
      · subst e
        rw [if_pos rfl, if_pos ⟨rfl, by rw [I.dnL]; exact r1⟩]
      · rw [if_neg e, if_neg (fun h => e h.1)]
    have hen := fun {i} (hi' : i < js.length) => end_en (l := l) (js := js) t (mdOf s) (arrOf l js t s).1 (arrOf l js t s).2 s.sw r (s.dn.getD r 0 + 1) (i := i) (by rw [hL]; exact hi')
    have hst : ∀ i, i ∈ stillTo (endOf l js t (mdOf s) (arrOf l js t s).1 (arrOf l js t s).2 s.sw r (s.dn.getD r 0 + 1)).1 (arrOf l js t s).2 (arrOf l js t s).2.length ↔ i ∈ (arrOf l js t s).2 ∧ (endOf l js t (mdOf s) (arrOf l js t s).1 (arrOf l js t s).2 s.sw r (s.dn.getD r 0 + 1)).1.getD i 0 = -1 := by
      intro i
      rw [still_mem, mem_getD]
    refine ⟨by rw [end_len]; exact hL, by rw [List.length_set]; exact I.dnL, ?_, ?_, ?_, ?_⟩
    · intro i h
      rw [hst] at h
      obtain ⟨h1, h2⟩ := h
      obtain ⟨a1, a2, a3, a4, a5, a6⟩ := hC h1
      rw [hdn]
      refine ⟨a1, by omega, h2, ?_⟩
      unfold endOf at h2 ⊢
      by_cases hd : s.dn.getD r 0 + 1 = jN js r
      · rw [if_pos hd] at h2 ⊢
        dsimp only at h2 ⊢
        have hne : ¬ r = i := by
          intro e
          subst e
          rw [getD_set, if_pos ⟨rfl, by rw [hL]; exact a1⟩] at h2
          omega
        rw [if_neg hne]
        exact ⟨a4, a5, a6⟩
      · rw [if_neg hd] at h2 ⊢
        split at h2
        · rename_i hsw
          rw [if_pos hsw]
          dsimp only at h2 ⊢
          rw [drop_en _ _ _ _ _ _ (by rw [hL]; exact a1)] at h2
          have hcr : (tkAt l (jK js i)).crit = true := by
            cases hcr : (tkAt l (jK js i)).crit with
            | true => rfl
            | false =>
              rw [if_pos ⟨(mem_getD _ i).2 h1, hcr⟩] at h2
              cases h2
          refine ⟨?_, fun h => (by cases h), fun _ => hcr⟩
          split
          · rename_i e
            subst e
            omega
          · exact a4
        · rename_i hsw
          rw [if_neg hsw]
          dsimp only at h2 ⊢
          by_cases e : r = i
          · subst e
            rw [if_pos rfl]
            refine ⟨by omega, fun hm hc => ?_, a6⟩
            have h7 := a5 hm hc
            apply Classical.byContradiction
            intro hn
            apply hsw
            have hc' : (tkAt l (jK js r)).crit = true := hc
            simp only [hm, hc', Bool.not_false, Bool.true_and, decide_eq_true_eq]
            omega
          · rw [if_neg e]
            exact ⟨a4, a5, a6⟩
    · intro i h1 h2
      have hni : i ∉ (arrOf l js t s).2 := fun h => by have := (hC h).2.1; omega
      refine ⟨?_, ?_⟩
      · rcases hen h1 with h | ⟨h, _⟩ | ⟨h, _⟩
        · rw [h]
          exact hfutA i h1 (by omega)
        · exact absurd (h ▸ hr) hni
        · exact absurd h hni
      · rw [hdn, if_neg (fun e : r = i => hni (e ▸ hr))]
        exact (I.fut i h1 (by omega)).2
    · intro i h1
      rw [hdn]
      have := I.dnLe i h1
      split
      · rename_i e
        subst e
        omega
      · exact this
    · intro i h1 h2 h3
      by_cases hia : i ∈ (arrOf l js t s).2
      · intro h4
        exact h3 ((hst i).2 ⟨hia, h4⟩)
      · rcases hen h1 with h | ⟨h, _⟩ | ⟨h, _⟩
        · rw [h]
          exact hG h1 (by omega) hia
        · exact absurd (h ▸ hr) hia
        · exact absurd h hia
theorem minv (A : Apart l js) (hv : ∀ k, k < l.length → vld (tkAt l k) = true) (t : Nat) : MInv l js t (mrun l js num den pol t) := by
  induction t with
  | zero =>
    refine ⟨by simp [mrun], by simp [mrun], fun i h => (by cases h), fun i h1 _ => by simp [mrun, h1], fun i h1 => ?_, fun i h1 h2 => ?_⟩
    · have := (A.need i h1).1
      simp [mrun, h1]
      omega
    · have := A.at0 i h1
      omega
  | succ t ih => exact ih.step A hv
end
/-- The factor's numbers. -/
def facQ (l : List Tk) : Rat := if hldPlain l then 1 else facR l
theorem arr_le (l : List Tk) (js : List Jb) (tick : Int) (hi : Bool) (s : List Int × List Nat) (k : Nat) : (arrTo l js tick hi s k).2.length ≤ s.2.length + k := by
  induction k with
  | zero => exact Nat.le_refl _
  | succ k ih =>
    simp only [arrTo, arrS]
    split
    · split
      · dsimp only
        omega
      · simp only [List.length_append, List.length_singleton]
        omega
    · omega
theorem still_le (en : List Int) (lf : List Nat) (k : Nat) : (stillTo en lf k).length ≤ k := by
  induction k with
  | zero => exact Nat.le_refl _
  | succ k ih =>
    simp only [stillTo, List.length_append]
    split <;> simp <;> omega
theorem mrun_len {l : List Tk} {js : List Jb} {num den pol : Int} (h : js.length ≤ 60) (k : Nat) : (mrun l js num den pol k).tr.length = k ∧ (mrun l js num den pol k).sw.length ≤ k ∧ (mrun l js num den pol k).lf.length ≤ 60 * k := by
  induction k with
  | zero => exact ⟨rfl, Nat.le_refl _, Nat.le_refl _⟩
  | succ k ih =>
    obtain ⟨h1, h2, h3⟩ := ih
    have ha := arr_le l js k (mdOf (mrun l js num den pol k)) ((mrun l js num den pol k).en, (mrun l js num den pol k).lf) js.length
    have ha : (arrOf l js k (mrun l js num den pol k)).2.length ≤ (mrun l js num den pol k).lf.length + js.length := ha
    show (mstep l js num den pol k (mrun l js num den pol k)).tr.length = _ ∧ (mstep l js num den pol k (mrun l js num den pol k)).sw.length ≤ _ ∧ (mstep l js num den pol k (mrun l js num den pol k)).lf.length ≤ _
    unfold mstep
    by_cases he : (arrOf l js k (mrun l js num den pol k)).2 = []
    · simp only [he, if_true]
      exact ⟨by simp [h1], by omega, by simp⟩
    · simp only [he, if_false]
      refine ⟨by simp [h1], ?_, ?_⟩
      · unfold endOf
        split
        · show (mrun l js num den pol k).sw.length ≤ _
          omega
        · split
          · simp
            omega
          · show (mrun l js num den pol k).sw.length ≤ _
            omega
      · exact Nat.le_trans (still_le _ _ _) (by omega)
theorem mstep_end {l : List Tk} {js : List Jb} {num den pol : Int} {k : Nat} {s : Mc} {en en' : List Int} {lf st : List Nat} {r : Nat} {d : Int} {hi : Bool} {sw : List Int} (ha : arrOf l js k s = (en, lf)) (hne : lf ≠ []) (hr : bestOf l js num den pol (mdOf s) lf = r) (hd : s.dn.getD r 0 + 1 = d)
    (he : endOf l js k (mdOf s) en lf s.sw r d = (en', hi, sw)) (hst : stillTo en' lf lf.length = st) : mstep l js num den pol k s = ⟨en', s.dn.set r d, st, s.tr ++ [(jobAt js r).task], sw, hi⟩ := by
  unfold mstep
  simp only [ha, hne, if_false, hr, hd, he, hst]
theorem mstep_idle {l : List Tk} {js : List Jb} {num den pol : Int} {k : Nat} {s : Mc} {en : List Int} (ha : arrOf l js k s = (en, [])) : mstep l js num den pol k s = ⟨en, s.dn, [], s.tr ++ [-1], s.sw, mdOf s⟩ := by
  unfold mstep
  simp only [ha, if_true]
end

section
open Go.RowKit
end

section
open Go.RowKit

theorem ints_snoc (o : List Nat) (k : Nat) : ints (o ++ [k]) = ints o ++ [(k : Int)] := by simp [ints]
theorem wpList_app_task' (w : World) {ops : Array Oper} {rest : List Oper} {o : Oper} {a : Act} {Q : Exit → Act → World → Prop} (hgd : o.guard = none) (s x : Operand)
    (ho : o.op = .call { callee := .builtin .append, args := #[s, x], argTypes := #[23, 23] })
    (base : Nat) (A : Option Addr) (l : List Tk) (k c : Nat) (hk : l.length = k) (hs : a.eval s = .slice A k c) (hown : OT base w A c l)
    (b c1 : Nat) (t : Tk) (cs : Array Value) (ty : TypeId) (hx : a.eval x = .slice (some ⟨b, 0, none⟩) 1 c1) (hb : w.heap[b]? = some (.cells cs ty (0, 0))) (hcs : cs.toList = t.cells)
    (hl : l.length ≤ 2000000) (hbase : base ≤ w.heap.size)
    (h : ∀ A' c' w', OT base w' A' c' (l ++ [t]) → w.grownBy w' (Value.slice A k c).ownBlock → Below base w w' → wpList Tryz.prog ops Q rest (a.put o.dst (.slice A' (k + 1) c')) w') : wpList Tryz.prog ops Q (o :: rest) a w := by
  subst hk
  exact wpList_app_task w hgd s x ho base A l c hs hown b c1 t cs ty hx hb hcs hl hbase h
end
end Go.Proofs.YtmkjmancmiphfaaGreatDoor
