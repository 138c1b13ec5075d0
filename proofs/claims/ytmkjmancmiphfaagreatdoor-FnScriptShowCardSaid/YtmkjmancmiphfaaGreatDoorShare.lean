/-
  Shares as rational numbers: plain arithmetic, no program.
  Shares: common, reduced, MakeShare, ShareValid, AddShares.
-/
import Derived.Test.YtmkjmancmiphfaaGreatDoorBase
import Derived.RegionTactic
import Derived.BigRegion
import Derived.StillTailTactics
namespace Go.Proofs.YtmkjmancmiphfaaGreatDoor
open Go.RowKit

/-- n/d in lowest terms. -/
theorem mkRat_num (n : Int) (d : Nat) (hd : d ≠ 0) : (mkRat n d).num = n / ((n.natAbs.gcd d : Nat) : Int) := by
  rw [← Rat.normalize_eq_mkRat hd, Rat.normalize_eq]
theorem mkRat_den (n : Int) (d : Nat) (hd : d ≠ 0) : (mkRat n d).den = d / n.natAbs.gcd d := by
  rw [← Rat.normalize_eq_mkRat hd, Rat.normalize_eq]
theorem rat_num_le {r : Rat} (h : 0 ≤ r) : 0 ≤ r.num := Rat.num_nonneg.2 h
theorem mkRat_nonneg' {n : Int} (hn : 0 ≤ n) (d : Nat) (hd : d ≠ 0) : 0 ≤ mkRat n d := by
  rw [← Rat.num_nonneg, mkRat_num n d hd]
  exact Int.ediv_nonneg hn (by omega)
/-- A number times a whole number that is whole: the denominator divides it. -/
theorem den_dvd_of_mkRat (n : Int) (d : Nat) (hd : d ≠ 0) : (mkRat n d).den ∣ d := by
  rw [mkRat_den n d hd]
  exact Nat.div_dvd_of_dvd (Nat.gcd_dvd_right _ _)
theorem gcd_step (a b : Nat) : Nat.gcd b (a % b) = Nat.gcd a b := by rw [Nat.gcd_comm b, ← Nat.gcd_rec, Nat.gcd_comm]
theorem add_mk (a b : Rat) : mkRat (a.num * b.den + b.num * a.den) (a.den * b.den) = a + b := by
  rw [Rat.add_def, Rat.normalize_eq_mkRat]
theorem mul_mk (a b : Rat) : mkRat (a.num * b.num) (a.den * b.den) = a * b := by
  rw [Rat.mul_def, Rat.normalize_eq_mkRat]

/-- The share of a task. -/
def shr (high : Bool) (t : Tk) : Rat := mkRat (if high then t.high else t.low) t.every.toNat
/-- The sum of the shares of the tasks that are critical, or are not. -/
def shares (crit high : Bool) : List Tk → Rat
  | [] => 0
  | t :: l => (if t.crit = crit then shr high t else 0) + shares crit high l
theorem shares_append (crit high : Bool) (l m : List Tk) : shares crit high (l ++ m) = shares crit high l + shares crit high m := by
  induction l with
  | nil => simp [shares, Rat.zero_add]
  | cons t l ih => simp only [List.cons_append, shares, ih, Rat.add_assoc]
theorem shares_take_succ (crit high : Bool) (l : List Tk) (k : Nat) (hk : k < l.length) :
    shares crit high (l.take (k + 1)) = shares crit high (l.take k) + (if l[k].crit = crit then shr high l[k] else 0) := by
  rw [List.take_succ_eq_append_getElem hk, shares_append]
  simp [shares, Rat.add_zero]
theorem den_add_dvd (a b : Rat) : (a + b).den ∣ a.den * b.den := by
  rw [← add_mk]
  exact den_dvd_of_mkRat _ _ (Nat.mul_ne_zero a.den_nz b.den_nz)
theorem den_mul_dvd (a b : Rat) : (a * b).den ∣ a.den * b.den := by
  rw [← mul_mk]
  exact den_dvd_of_mkRat _ _ (Nat.mul_ne_zero a.den_nz b.den_nz)

theorem vld_bd {t : Tk} (h : vld t = true) : 1 ≤ t.low ∧ t.low ≤ t.high ∧ t.high ≤ t.due ∧ t.due ≤ t.every ∧ t.every ≤ 20 := by
  simp only [vld, Bool.and_eq_true, decide_eq_true_eq] at h
  exact h.1
theorem shr_den {high : Bool} {t : Tk} (h : vld t = true) : (shr high t).den ≤ 20 := by
  have := vld_bd h
  exact Nat.le_trans (Nat.le_of_dvd (by omega) (den_dvd_of_mkRat _ _ (by omega))) (by omega)
theorem shares_den (crit high : Bool) (l : List Tk) (h : ∀ t ∈ l, vld t = true) : (shares crit high l).den ≤ 20 ^ l.length := by
  induction l with
  | nil => simp [shares]
  | cons t l ih =>
    have h1 := ih (fun s hs => h s (List.mem_cons_of_mem _ hs))
    have h2 := h t (by simp)
    simp only [shares, List.length_cons, Nat.pow_succ]
    have hx : (if t.crit = crit then shr high t else 0).den ≤ 20 := by
      split
      · exact shr_den h2
      · simp
    generalize (if t.crit = crit then shr high t else 0) = x at hx
    refine Nat.le_trans (Nat.le_of_dvd (Nat.mul_pos x.den_pos (Rat.den_pos _)) (den_add_dvd _ _)) ?_
    rw [Nat.mul_comm]
    exact Nat.mul_le_mul h1 hx
theorem shr_le {high : Bool} {t : Tk} (h : vld t = true) : 0 ≤ shr high t ∧ shr high t ≤ 1 := by
  have hb := vld_bd h
  have hn : 0 ≤ (if high = true then t.high else t.low) ∧ (if high = true then t.high else t.low) ≤ t.every := by split <;> omega
  unfold shr
  generalize (if high = true then t.high else t.low) = n at hn
  refine ⟨mkRat_nonneg' hn.1 _ (by omega), ?_⟩
  rw [Rat.le_iff, mkRat_num _ _ (by omega), mkRat_den _ _ (by omega)]
  simp only [Rat.num_ofNat, Rat.den_ofNat, Int.mul_one, Int.one_mul, Int.natCast_one, Int.natCast_ediv]
  have hg : (0 : Int) < ((n.natAbs.gcd t.every.toNat : Nat) : Int) := by
    have := Nat.gcd_pos_of_pos_right n.natAbs (show 0 < t.every.toNat by omega)
    omega
  exact Int.ediv_le_ediv hg (by omega)
theorem shares_bd (crit high : Bool) (l : List Tk) (h : ∀ t ∈ l, vld t = true) : 0 ≤ shares crit high l ∧ shares crit high l ≤ (l.length : Rat) := by
  induction l with
  | nil => simp [shares]
  | cons t l ih =>
    have h1 := ih (fun s hs => h s (List.mem_cons_of_mem _ hs))
    have h2 := shr_le (high := high) (h t (by simp))
    have hx : 0 ≤ (if t.crit = crit then shr high t else 0) ∧ (if t.crit = crit then shr high t else 0) ≤ 1 := by
      split
      · exact h2
      · grind
    simp only [shares, List.length_cons]
    generalize (if t.crit = crit then shr high t else 0) = x at hx
    have e : ((l.length + 1 : Nat) : Rat) = (l.length : Rat) + 1 := by simp
    rw [e]
    grind
theorem num_le_of_le {r : Rat} {n : Nat} (h : r ≤ (n : Rat)) : r.num ≤ (n : Int) * (r.den : Int) := by
  rw [Rat.le_iff] at h
  simpa using h

/-- A share as the program has it. -/
abbrev sv (n d : Int) : Value := .agg #[.int .i64 n, .int .i64 d]
abbrev rv (r : Rat) : Value := .agg #[.int .i64 r.num, .int .i64 (r.den : Int)]

theorem impl_common (a b : Nat) (w : World) (ha : a ≤ 4611686018427387904) (hb : b ≤ 4611686018427387904) :
    Calls Tryz.prog 105 #[.int .i64 (a : Int), .int .i64 (b : Int)] w fun e w' => e = .returned (.int .i64 ((Nat.gcd a b : Nat) : Int)) ∧ Below w.heap.size w w' := by
  go_enter Tryz.func105, Tryz.ntmps105
  go_wp2
  go_loopw [0, 1] (fun u v wr => ∃ x y : Nat, u = .int .i64 (x : Int) ∧ v = .int .i64 (y : Int) ∧ Hid (Nat.gcd x y = Nat.gcd a b) ∧ x ≤ 4611686018427387904 ∧ y ≤ 4611686018427387904 ∧ Below w.heap.size w wr) (fun _ v _ => (intOf v).toNat)
  case atStart => exact ⟨a, b, rfl, rfl, rfl, ha, hb, Below.refl _ _⟩
  case round =>
    obtain ⟨x, y, rfl, rfl, hg, hx, hy, hbl⟩ := hrel
    by_cases h0 : y = 0
    · subst h0
      go_wp2
      go_ret
      have := hg.out
      rw [Nat.gcd_zero_right] at this
      exact ⟨by rw [← this]; rfl, hbl⟩
    · have hne : ((y : Int) != 0) = true := by rw [bne_iff_ne]; omega
      have hlt := Nat.mod_lt x (show 0 < y by omega)
      have hz : ((y : Int) == 0) = false := beq_eq_false_iff_ne.2 (by omega)
      have h0' : 0 < y := by omega
      go_wp2
      go_quiet (fail)
      go_wp2
      go_roundw
      case rel => exact ⟨y, x % y, rfl, by go_num, by rw [Hid, gcd_step]; exact hg, hy, by omega, bdr hbl _⟩
      case measure => simp [intOf]; omega

theorem impl_reduced (n d : Nat) (w : World) (hd : 1 ≤ d) (hn : n ≤ 4611686018427387904) (hdm : d ≤ 4611686018427387904) :
    Calls Tryz.prog 65 #[.int .i64 (n : Int), .int .i64 (d : Int)] w fun e w' => e = .returned (rv (mkRat (n : Int) d)) ∧ Below w.heap.size w w' := by
  have hgpos : 0 < Nat.gcd n d := Nat.gcd_pos_of_pos_right _ (by omega)
  have hgle : Nat.gcd n d ≤ d := Nat.le_of_dvd (by omega) (Nat.gcd_dvd_right _ _)
  have e1 : (mkRat (n : Int) d).num = (n : Int) / ((Nat.gcd n d : Nat) : Int) := by rw [mkRat_num _ _ (by omega)]; simp
  have e2 : (((mkRat (n : Int) d).den : Nat) : Int) = (d : Int) / ((Nat.gcd n d : Nat) : Int) := by rw [mkRat_den _ _ (by omega)]; simp
  have hne : (((Nat.gcd n d : Nat) : Int) == 0) = false := beq_eq_false_iff_ne.2 (by omega)
  have E1 := Lib.hid e1
  have E2 := Lib.hid e2
  clear e1 e2
  go_enter Tryz.func65, Tryz.ntmps65
  go_wp2_with fail
  refine (impl_common n d _ hn hdm).mono ?_
  rintro e w1 ⟨rfl, b1⟩
  generalize Nat.gcd n d = c at *
  have hB : w1.heap[w.heap.size]? = some (.cells #[.int .i64 0, .int .i64 0] 54 (0, 0)) := (b1.block _ (by simp)).trans (heap_alloc_new w _)
  have k0 : w1.cell? ⟨w.heap.size, 0, none⟩ = some (.int .i64 0) := by rw [cell_of_row w1 _ 0 _ _ _ hB]; rfl
  have k1 : w1.cell? ⟨w.heap.size, 1, none⟩ = some (.int .i64 0) := by rw [cell_of_row w1 _ 1 _ _ _ hB]; rfl
  have kf : ∀ i, w1.frozen? ⟨w.heap.size, i, none⟩ = false := fun i => frozen_of_row w1 _ i _ _ hB
  clear hB
  have hq1 : IntKind.i64.wrap ((n : Int).tdiv (c : Int)) = (n : Int) / (c : Int) := IntWalk.i64_quo _ _ (by omega)
  have hq2 : IntKind.i64.wrap ((d : Int).tdiv (c : Int)) = (d : Int) / (c : Int) := IntWalk.i64_quo _ _ (by omega)
  go_wp2_with fail
  go_region
  go_wp2_with fail
  have q1 : 0 ≤ (n : Int) / (c : Int) ∧ (n : Int) / (c : Int) ≤ n := ⟨Int.ediv_nonneg (by omega) (by omega), Int.ediv_le_self _ (by omega)⟩
  have q2 : 0 ≤ (d : Int) / (c : Int) ∧ (d : Int) / (c : Int) ≤ d := ⟨Int.ediv_nonneg (by omega) (by omega), Int.ediv_le_self _ (by omega)⟩
  have p1 : wrap64 ((n : Int) / (c : Int)) = (n : Int) / (c : Int) := IntWalk.wrap64_in _ (by omega)
  have p2 : wrap64 ((d : Int) / (c : Int)) = (d : Int) / (c : Int) := IntWalk.wrap64_in _ (by omega)
  refine bodyPost_ret (v := sv ((n : Int) / (c : Int)) ((d : Int) / (c : Int))) (by simp [results, Tryz.results65, go_sem, k0, k1, p1, p2]) rfl ⟨?_, ?_⟩
  · rw [← E1.out, ← E2.out]
  · exact (bst (bst (bthru (bal (Below.refl _ _) _) b1) (Nat.le_refl _) _) (Nat.le_refl _) _).drew

/-- A share from two numbers: in lowest terms, if they are in range. -/
def shIn (n d : Int) : Bool := decide (0 ≤ n ∧ n ≤ 1000000000 ∧ 1 ≤ d ∧ d ≤ 1000000000)
def MakePost (n d : Int) (w : World) (e : Ending) (w' : World) : Prop :=
  (shIn n d = true ∧ e = .returned (.tuple #[rv (mkRat n d.toNat), .bool true]) ∧ Below w.heap.size w w') ∨ (shIn n d = false ∧ e = .returned (.tuple #[sv 0 0, .bool false]) ∧ Below w.heap.size w w')

theorem impl_MakeShare (n d : Int) (w : World) :
    Calls Tryz.prog 229 #[.int .i64 n, .int .i64 d] w (MakePost n d w) := by
  by_cases h0 : 0 ≤ n
  case neg =>
    go_enter Tryz.func229, Tryz.ntmps229
    go_wp2_with fail
    exact bodyPost_ret (v := .tuple #[sv 0 0, .bool false]) (by simp [results, Tryz.results229, go_sem]) rfl (.inr ⟨by simp [shIn]; omega, rfl, bal (Below.refl _ _) _⟩)
  by_cases h1 : n ≤ 1000000000
  case neg =>
    go_enter Tryz.func229, Tryz.ntmps229
    go_wp2_with fail
    exact bodyPost_ret (v := .tuple #[sv 0 0, .bool false]) (by simp [results, Tryz.results229, go_sem]) rfl (.inr ⟨by simp [shIn]; omega, rfl, bal (Below.refl _ _) _⟩)
  by_cases h2 : 1 ≤ d
  case neg =>
    go_enter Tryz.func229, Tryz.ntmps229
    go_wp2_with fail
    exact bodyPost_ret (v := .tuple #[sv 0 0, .bool false]) (by simp [results, Tryz.results229, go_sem]) rfl (.inr ⟨by simp [shIn]; omega, rfl, bal (Below.refl _ _) _⟩)
  by_cases h3 : d ≤ 1000000000
  case neg =>
    go_enter Tryz.func229, Tryz.ntmps229
    go_wp2_with fail
    exact bodyPost_ret (v := .tuple #[sv 0 0, .bool false]) (by simp [results, Tryz.results229, go_sem]) rfl (.inr ⟨by simp [shIn]; omega, rfl, bal (Below.refl _ _) _⟩)
  obtain ⟨n, rfl⟩ : ∃ k : Nat, n = (k : Int) := ⟨n.toNat, (Int.toNat_of_nonneg h0).symm⟩
  obtain ⟨d, rfl⟩ : ∃ k : Nat, d = (k : Int) := ⟨d.toNat, (Int.toNat_of_nonneg (by omega)).symm⟩
  go_enter Tryz.func229, Tryz.ntmps229
  go_wp2_with fail
  refine (impl_reduced n d _ (by omega) (by omega) (by omega)).mono ?_
  rintro e w1 ⟨rfl, b1⟩
  have hB : w1.heap[w.heap.size]? = some (.cells #[.int .i64 0, .int .i64 0] 54 (0, 0)) := (b1.block _ (by simp)).trans (heap_alloc_new w _)
  have k0 : w1.cell? ⟨w.heap.size, 0, none⟩ = some (.int .i64 0) := by rw [cell_of_row w1 _ 0 _ _ _ hB]; rfl
  have k1 : w1.cell? ⟨w.heap.size, 1, none⟩ = some (.int .i64 0) := by rw [cell_of_row w1 _ 1 _ _ _ hB]; rfl
  have kf : ∀ i, w1.frozen? ⟨w.heap.size, i, none⟩ = false := fun i => frozen_of_row w1 _ i _ _ hB
  clear hB
  generalize hr : mkRat (n : Int) d = r
  go_wp2_with fail
  refine bodyPost_ret (v := .tuple #[rv r, .bool true]) (by simp [results, Tryz.results229, go_sem, k0, k1]) rfl (.inl ⟨by simp [shIn]; omega, by rw [← hr]; rfl, ?_⟩)
  exact bst (bst (bthru (bal (Below.refl _ _) _) b1) (Nat.le_refl _) _) (Nat.le_refl _) _

theorem run_eql_share (a b : Int) (w : World) : (binOp .eql 54 (sv a b) (sv a b)).run Tryz.prog w = .ok (.bool true) w := by
  simp [go_sem]

/-- A share in range: not negative, both numbers at most 10^9. -/
def RIn (r : Rat) : Prop := 0 ≤ r.num ∧ r.num ≤ 1000000000 ∧ r.den ≤ 1000000000

theorem shIn_rat {r : Rat} (h : RIn r) : shIn r.num (r.den : Int) = true := by
  have := r.den_pos
  unfold RIn at h
  simp only [shIn, decide_eq_true_eq]
  omega

theorem impl_ShareValid_yes (r : Rat) (w : World) (h : RIn r) :
    Calls Tryz.prog 186 #[rv r] w fun e w' => e = .returned (.bool true) ∧ Below w.heap.size w w' := by
  have hq := fun (w : World) => run_eql_share r.num r.den w
  go_enter Tryz.func186, Tryz.ntmps186
  go_wp2_with fail
  refine (impl_MakeShare r.num r.den _).mono ?_
  rintro e w1 (⟨_, rfl, b1⟩ | ⟨hf, _, _⟩)
  · rw [Int.toNat_natCast, Rat.mkRat_self]
    have hB : w1.heap[w.heap.size]? = some (.cells #[.int .i64 r.num, .int .i64 (r.den : Int)] 54 (0, 0)) := (b1.block _ (by simp)).trans (heap_alloc_new w _)
    have hs : w.heap.size < w1.heap.size := by have := b1.size; simp at this; omega
    have k0 : w1.cell? ⟨w.heap.size, 0, none⟩ = some (.int .i64 r.num) := by rw [cell_of_row w1 _ 0 _ _ _ hB]; rfl
    have k1 : w1.cell? ⟨w.heap.size, 1, none⟩ = some (.int .i64 (r.den : Int)) := by rw [cell_of_row w1 _ 1 _ _ _ hB]; rfl
    clear hB
    go_wp2_with fail
    go_ret
    exact ⟨rfl, bal (bthru (bal (Below.refl _ _) _) b1) _⟩
  · rw [shIn_rat h] at hf
    cases hf

theorem impl_ShareValid_zero (w : World) :
    Calls Tryz.prog 186 #[sv 0 0] w fun e w' => e = .returned (.bool false) ∧ Below w.heap.size w w' := by
  go_enter Tryz.func186, Tryz.ntmps186
  go_wp2_with fail
  refine (impl_MakeShare 0 0 _).mono ?_
  rintro e w1 (⟨hf, _, _⟩ | ⟨_, rfl, b1⟩)
  · cases hf
  · go_wp2_with fail
    go_ret
    exact ⟨rfl, bal (bthru (bal (Below.refl _ _) _) b1) _⟩

theorem impl_reducedI (x y : Int) (w : World) (hx : 0 ≤ x) (hy : 1 ≤ y) (hxm : x ≤ 4611686018427387904) (hym : y ≤ 4611686018427387904) :
    Calls Tryz.prog 65 #[.int .i64 x, .int .i64 y] w fun e w' => e = .returned (rv (mkRat x y.toNat)) ∧ Below w.heap.size w w' := by
  obtain ⟨n, rfl⟩ : ∃ k : Nat, x = (k : Int) := ⟨x.toNat, (Int.toNat_of_nonneg hx).symm⟩
  obtain ⟨d, rfl⟩ : ∃ k : Nat, y = (k : Int) := ⟨y.toNat, (Int.toNat_of_nonneg (by omega)).symm⟩
  rw [Int.toNat_natCast]
  exact impl_reduced n d w (by omega) (by omega) (by omega)

theorem mul_bd {x y a b : Int} (hx : 0 ≤ x) (hxa : x ≤ a) (hy : 0 ≤ y) (hyb : y ≤ b) (ha : 0 ≤ a) : 0 ≤ x * y ∧ x * y ≤ a * b :=
  ⟨Int.mul_nonneg hx hy, Int.mul_le_mul hxa hyb hy ha⟩
theorem mk_add (a b : Rat) : mkRat (a.num * (b.den : Int) + b.num * (a.den : Int)) ((a.den : Int) * (b.den : Int)).toNat = a + b := by
  rw [← Int.natCast_mul, Int.toNat_natCast, add_mk]
theorem mk_mul (a b : Rat) : mkRat (a.num * b.num) ((a.den : Int) * (b.den : Int)).toNat = a * b := by
  rw [← Int.natCast_mul, Int.toNat_natCast, mul_mk]
theorem blk_two {w : World} {b : Nat} {v0 v1 : Value} {t : TypeId} (h : w.heap[b]? = some (.cells #[v0, v1] t (0, 0))) :
    w.cell? ⟨b, 0, none⟩ = some v0 ∧ w.cell? ⟨b, 1, none⟩ = some v1 ∧ ∀ i, w.frozen? ⟨b, i, none⟩ = false :=
  ⟨by rw [cell_of_row w b 0 _ _ _ h]; rfl, by rw [cell_of_row w b 1 _ _ _ h]; rfl, fun i => frozen_of_row w b i _ _ h⟩

theorem heap3 (w : World) (A B C : Obj) : (((w.alloc A).alloc B).alloc C).heap[w.heap.size]? = some A ∧ (((w.alloc A).alloc B).alloc C).heap[w.heap.size + 1]? = some B ∧ (((w.alloc A).alloc B).alloc C).heap[w.heap.size + 1 + 1]? = some C := by
  refine ⟨?_, ?_, ?_⟩
  · show (((w.heap.push A).push B).push C)[_]? = _
    rw [Array.getElem?_push, if_neg (by simp; omega), Array.getElem?_push, if_neg (by simp), Array.getElem?_push, if_pos rfl]
  · show (((w.heap.push A).push B).push C)[_]? = _
    rw [Array.getElem?_push, if_neg (by simp), Array.getElem?_push, if_pos (by simp)]
  · show (((w.heap.push A).push B).push C)[_]? = _
    rw [Array.getElem?_push, if_pos (by simp)]

end Go.Proofs.YtmkjmancmiphfaaGreatDoor
