/-
  Texts of tasks: the program's and the reference's.
-/
import Derived.Test.YtmkjmancmiphfaaGreatDoorDec
import Derived.Test.YtmkjmancmiphfaaGreatDoorSpecValid
import Derived.Test.YtmkjmancmiphfaaGreatDoorDrawTask
import Derived.Test.YtmkjmancmiphfaaGreatDoorShelf
import Derived.Lib.Join
namespace Go.Proofs.YtmkjmancmiphfaaGreatDoor
open Go.RowKit

def highT (t : Tk) : List UInt8 := if t.crit then 47 :: num t.high else []
def dueT (t : Tk) : List UInt8 := if t.due < t.every then [32, 98, 121, 32] ++ num t.due else []
def taskT (t : Tk) : List UInt8 := num t.low ++ highT t ++ ([32, 101, 118, 101, 114, 121, 32] ++ num t.every) ++ dueT t
def fmtTask (t : Tk) : List UInt8 := if vld t then taskT t else []
theorem dec_len (n : Nat) (h : n ≤ 9223372036854775807) : (Lib.decDigits n).length ≤ 21 := by
  have := Lib.itoa_length_le (n : Int) (by omega) (by omega)
  rwa [Lib.itoa, if_neg (by omega), Int.toNat_natCast] at this
theorem num_len (n : Int) (h : n ≤ 9223372036854775807) : (num n).length ≤ 21 := dec_len _ (by omega)
theorem vld_bd {t : Tk} (h : vld t = true) : 1 ≤ t.low ∧ t.low ≤ t.high ∧ t.high ≤ t.due ∧ t.due ≤ t.every ∧ t.every ≤ 20 := by
  simp only [vld, Bool.and_eq_true, decide_eq_true_eq] at h
  omega
theorem taskT_len {t : Tk} (h : vld t = true) : (taskT t).length ≤ 100 := by
  obtain ⟨a, b, c, d, e⟩ := vld_bd h
  have h1 := num_len t.low (by omega)
  have h2 := num_len t.high (by omega)
  have h3 := num_len t.due (by omega)
  have h4 := num_len t.every (by omega)
  have hh : (highT t).length ≤ 22 := by
    unfold highT
    split <;> simp <;> omega
  have hd : (dueT t).length ≤ 25 := by
    unfold dueT
    split <;> simp <;> omega
  simp only [taskT, List.length_append, List.length_cons, List.length_nil]
  omega
theorem fmtTask_len (t : Tk) : (fmtTask t).length ≤ 100 := by
  unfold fmtTask
  split
  · exact taskT_len (by assumption)
  · simp
theorem itoa_num (n : Int) (h0 : 0 ≤ n) (h1 : n < 100) (w : World) :
    Calls Tryz.prog 38 #[.int .i64 n] w fun e w' => e = .returned (.string ⟨(num n).toArray⟩) ∧ w' = w := by
  have K := Tryz.strconv_Itoa_small n.toNat (by omega) w
  rw [Int.toNat_of_nonneg h0] at K
  exact K
theorem dec_num (n : Int) (h0 : 0 ≤ n) (h1 : n < 100) (w : World) :
    Calls Tryz.prog 91 #[.int .i64 n] w fun e w' => e = .returned (.string ⟨(num n).toArray⟩) ∧ Below w.heap.size w w' := by
  have K := spec_l11Dec n.toNat (by omega) w
  rw [Int.toNat_of_nonneg h0] at K
  exact K

theorem str_eq {a b : ByteArray} (h : a = b) : Ending.returned (.string a) = Ending.returned (.string b) := by rw [h]

set_option maxHeartbeats 2000000 in
theorem impl_FormatTask (t : Tk) (w : World) :
    Calls Tryz.prog 35 #[t.val] w fun e w' => e = .returned (.string ⟨(fmtTask t).toArray⟩) ∧ Below w.heap.size w w' := by
  cases hv : vld t with
  | false =>
    have HF : Hid (fmtTask t = []) := by simp [Hid, fmtTask, hv]
    go_enter Tryz.func35, Tryz.ntmps35
    go_wp2_with fail
    refine (impl_TaskValid t _).mono ?_
    rw [hv]
    rintro e w1 ⟨rfl, b1⟩
    go_wp2_with fail
    go_ret
    exact ⟨by rw [HF.out]; rfl, bthru (bal (Below.refl _ _) _) b1⟩
  | true =>
    obtain ⟨h1, h2, h3, h4, h5⟩ := vld_bd hv
    have HF : Hid (fmtTask t = taskT t) := by simp [Hid, fmtTask, hv]
    have HV := Lib.hid hv
    clear hv
    have l1 := num_len t.low (by omega)
    have l2 := num_len t.high (by omega)
    have l3 := num_len t.due (by omega)
    have l4 := num_len t.every (by omega)
    cases hc : t.crit with
    | true =>
      have HC := Lib.hid hc
      clear hc
      by_cases hd : t.due < t.every
      · have HR : Hid (taskT t = num t.low ++ ([47] ++ num t.high) ++ ([32, 101, 118, 101, 114, 121, 32] ++ num t.every) ++ ([32, 98, 121, 32] ++ num t.due)) := by
          rw [Hid, taskT, highT, dueT, HC.out]
          simp [hd]
        go_enter Tryz.func35, Tryz.ntmps35
        go_wp2_with fail
        refine (impl_TaskValid t _).mono ?_
        rw [HV.out]
        rintro e w1 ⟨rfl, b1⟩
        have hN := (b1.block w.heap.size (by simp)).trans (heap_alloc_new w _)
        obtain ⟨k0, k1, k2, k3, k4, _⟩ := blk_five hN
        rw [HC.out] at k4
        have B := bthru (bal (Below.refl w.heap.size w) _) b1
        have hlt : w.heap.size < w1.heap.size := Nat.lt_of_lt_of_le (by simp) b1.size
        clear hN b1
        go_wp2_with fail
        refine (itoa_num t.low (by omega) (by omega) _).mono ?_
        rintro e w2 ⟨rfl, rfl⟩
        go_wp2_with fail
        refine (itoa_num t.high (by omega) (by omega) _).mono ?_
        rintro e w3 ⟨rfl, rfl⟩
        go_wp2_with fail
        refine (itoa_num t.every (by omega) (by omega) _).mono ?_
        rintro e w4 ⟨rfl, rfl⟩
        go_wp2_with fail
        refine (itoa_num t.due (by omega) (by omega) _).mono ?_
        rintro e w5 ⟨rfl, rfl⟩
        go_wp2_with fail
        go_ret
        refine ⟨?_, B⟩
        rw [HF.out, HR.out]
        have e : num t.low ++ ([47] ++ num t.high) ++ ([32, 101, 118, 101, 114, 121, 32] ++ num t.every) ++ ([32, 98, 121, 32] ++ num t.due) = (((num t.low ++ ([47] ++ num t.high)) ++ ([32, 101, 118, 101, 114, 121, 32] ++ num t.every)) ++ ([32, 98, 121, 32] ++ num t.due)) := by simp [List.append_assoc]
        rw [e]
        simp only [← mk_app]
        rfl
      · have HR : Hid (taskT t = num t.low ++ ([47] ++ num t.high) ++ ([32, 101, 118, 101, 114, 121, 32] ++ num t.every) ++ ([])) := by
          rw [Hid, taskT, highT, dueT, HC.out]
          simp [hd]
        go_enter Tryz.func35, Tryz.ntmps35
        go_wp2_with fail
        refine (impl_TaskValid t _).mono ?_
        rw [HV.out]
        rintro e w1 ⟨rfl, b1⟩
        have hN := (b1.block w.heap.size (by simp)).trans (heap_alloc_new w _)
        obtain ⟨k0, k1, k2, k3, k4, _⟩ := blk_five hN
        rw [HC.out] at k4
        have B := bthru (bal (Below.refl w.heap.size w) _) b1
        have hlt : w.heap.size < w1.heap.size := Nat.lt_of_lt_of_le (by simp) b1.size
        clear hN b1
        go_wp2_with fail
        refine (itoa_num t.low (by omega) (by omega) _).mono ?_
        rintro e w2 ⟨rfl, rfl⟩
        go_wp2_with fail
        refine (itoa_num t.high (by omega) (by omega) _).mono ?_
        rintro e w3 ⟨rfl, rfl⟩
        go_wp2_with fail
        refine (itoa_num t.every (by omega) (by omega) _).mono ?_
        rintro e w4 ⟨rfl, rfl⟩
        go_wp2_with fail
        go_ret
        refine ⟨?_, B⟩
        rw [HF.out, HR.out]
        have e : num t.low ++ ([47] ++ num t.high) ++ ([32, 101, 118, 101, 114, 121, 32] ++ num t.every) ++ ([]) = ((num t.low ++ ([47] ++ num t.high)) ++ ([32, 101, 118, 101, 114, 121, 32] ++ num t.every)) := by simp [List.append_assoc]
        rw [e]
        simp only [← mk_app]
        rfl
    | false =>
      have HC := Lib.hid hc
      clear hc
      by_cases hd : t.due < t.every
      · have HR : Hid (taskT t = num t.low ++ ([]) ++ ([32, 101, 118, 101, 114, 121, 32] ++ num t.every) ++ ([32, 98, 121, 32] ++ num t.due)) := by
          rw [Hid, taskT, highT, dueT, HC.out]
          simp [hd]
        go_enter Tryz.func35, Tryz.ntmps35
        go_wp2_with fail
        refine (impl_TaskValid t _).mono ?_
        rw [HV.out]
        rintro e w1 ⟨rfl, b1⟩
        have hN := (b1.block w.heap.size (by simp)).trans (heap_alloc_new w _)
        obtain ⟨k0, k1, k2, k3, k4, _⟩ := blk_five hN
        rw [HC.out] at k4
        have B := bthru (bal (Below.refl w.heap.size w) _) b1
        have hlt : w.heap.size < w1.heap.size := Nat.lt_of_lt_of_le (by simp) b1.size
        clear hN b1
        go_wp2_with fail
        refine (itoa_num t.low (by omega) (by omega) _).mono ?_
        rintro e w2 ⟨rfl, rfl⟩
        go_wp2_with fail
        refine (itoa_num t.every (by omega) (by omega) _).mono ?_
        rintro e w3 ⟨rfl, rfl⟩
        go_wp2_with fail
        refine (itoa_num t.due (by omega) (by omega) _).mono ?_
        rintro e w4 ⟨rfl, rfl⟩
        go_wp2_with fail
        go_ret
        refine ⟨?_, B⟩
        rw [HF.out, HR.out]
        have e : num t.low ++ ([]) ++ ([32, 101, 118, 101, 114, 121, 32] ++ num t.every) ++ ([32, 98, 121, 32] ++ num t.due) = ((num t.low ++ ([32, 101, 118, 101, 114, 121, 32] ++ num t.every)) ++ ([32, 98, 121, 32] ++ num t.due)) := by simp [List.append_assoc]
        rw [e]
        simp only [← mk_app]
        rfl
      · have HR : Hid (taskT t = num t.low ++ ([]) ++ ([32, 101, 118, 101, 114, 121, 32] ++ num t.every) ++ ([])) := by
          rw [Hid, taskT, highT, dueT, HC.out]
          simp [hd]
        go_enter Tryz.func35, Tryz.ntmps35
        go_wp2_with fail
        refine (impl_TaskValid t _).mono ?_
        rw [HV.out]
        rintro e w1 ⟨rfl, b1⟩
        have hN := (b1.block w.heap.size (by simp)).trans (heap_alloc_new w _)
        obtain ⟨k0, k1, k2, k3, k4, _⟩ := blk_five hN
        rw [HC.out] at k4
        have B := bthru (bal (Below.refl w.heap.size w) _) b1
        have hlt : w.heap.size < w1.heap.size := Nat.lt_of_lt_of_le (by simp) b1.size
        clear hN b1
        go_wp2_with fail
        refine (itoa_num t.low (by omega) (by omega) _).mono ?_
        rintro e w2 ⟨rfl, rfl⟩
        go_wp2_with fail
        refine (itoa_num t.every (by omega) (by omega) _).mono ?_
        rintro e w3 ⟨rfl, rfl⟩
        go_wp2_with fail
        go_ret
        refine ⟨?_, B⟩
        rw [HF.out, HR.out]
        have e : num t.low ++ ([]) ++ ([32, 101, 118, 101, 114, 121, 32] ++ num t.every) ++ ([]) = (num t.low ++ ([32, 101, 118, 101, 114, 121, 32] ++ num t.every)) := by simp
        rw [e]
        simp only [← mk_app]
        rfl

set_option maxHeartbeats 2000000 in
theorem spec_FormatTask (t : Tk) (w : World) :
    Calls Tryz.prog 51 #[t.val] w fun e w' => e = .returned (.string ⟨(fmtTask t).toArray⟩) ∧ Below w.heap.size w w' := by
  cases hv : vld t with
  | false =>
    have HF : Hid (fmtTask t = []) := by simp [Hid, fmtTask, hv]
    go_enter Tryz.func51, Tryz.ntmps51
    go_wp2_with fail
    refine (spec_TaskValid t _).mono ?_
    rw [hv]
    rintro e w1 ⟨rfl, b1⟩
    go_wp2_with fail
    go_ret
    exact ⟨by rw [HF.out]; rfl, bthru (bal (Below.refl _ _) _) b1⟩
  | true =>
    obtain ⟨h1, h2, h3, h4, h5⟩ := vld_bd hv
    have HF : Hid (fmtTask t = taskT t) := by simp [Hid, fmtTask, hv]
    have HV := Lib.hid hv
    clear hv
    have l1 := num_len t.low (by omega)
    have l2 := num_len t.high (by omega)
    have l3 := num_len t.due (by omega)
    have l4 := num_len t.every (by omega)
    cases hc : t.crit with
    | true =>
      have HC := Lib.hid hc
      clear hc
      by_cases hd : t.due < t.every
      · have HR : Hid (taskT t = num t.low ++ ([47] ++ num t.high) ++ ([32, 101, 118, 101, 114, 121, 32] ++ num t.every) ++ ([32, 98, 121, 32] ++ num t.due)) := by
          rw [Hid, taskT, highT, dueT, HC.out]
          simp [hd]
        go_enter Tryz.func51, Tryz.ntmps51
        go_wp2_with fail
        refine (spec_TaskValid t _).mono ?_
        rw [HV.out]
        rintro e w1 ⟨rfl, b1⟩
        have hN := (b1.block w.heap.size (by simp)).trans (heap_alloc_new w _)
        obtain ⟨k0, k1, k2, k3, k4, _⟩ := blk_five hN
        rw [HC.out] at k4
        have B := bthru (bal (Below.refl w.heap.size w) _) b1
        have hlt : w.heap.size < w1.heap.size := Nat.lt_of_lt_of_le (by simp) b1.size
        clear hN b1
        go_wp2_with fail
        refine (dec_num t.low (by omega) (by omega) _).mono ?_
        rintro e w2 ⟨rfl, b2⟩
        have k0 := (b2.cell (p := ⟨w.heap.size, 0, none⟩) hlt).trans k0
        have k1 := (b2.cell (p := ⟨w.heap.size, 1, none⟩) hlt).trans k1
        have k2 := (b2.cell (p := ⟨w.heap.size, 2, none⟩) hlt).trans k2
        have k3 := (b2.cell (p := ⟨w.heap.size, 3, none⟩) hlt).trans k3
        have k4 := (b2.cell (p := ⟨w.heap.size, 4, none⟩) hlt).trans k4
        have hlt : w.heap.size < w2.heap.size := Nat.lt_of_lt_of_le hlt b2.size
        have B := bthru B b2
        go_wp2_with fail
        refine (dec_num t.high (by omega) (by omega) _).mono ?_
        rintro e w3 ⟨rfl, b3⟩
        have k0 := (b3.cell (p := ⟨w.heap.size, 0, none⟩) hlt).trans k0
        have k1 := (b3.cell (p := ⟨w.heap.size, 1, none⟩) hlt).trans k1
        have k2 := (b3.cell (p := ⟨w.heap.size, 2, none⟩) hlt).trans k2
        have k3 := (b3.cell (p := ⟨w.heap.size, 3, none⟩) hlt).trans k3
        have k4 := (b3.cell (p := ⟨w.heap.size, 4, none⟩) hlt).trans k4
        have hlt : w.heap.size < w3.heap.size := Nat.lt_of_lt_of_le hlt b3.size
        have B := bthru B b3
        go_wp2_with fail
        refine (dec_num t.every (by omega) (by omega) _).mono ?_
        rintro e w4 ⟨rfl, b4⟩
        have k0 := (b4.cell (p := ⟨w.heap.size, 0, none⟩) hlt).trans k0
        have k1 := (b4.cell (p := ⟨w.heap.size, 1, none⟩) hlt).trans k1
        have k2 := (b4.cell (p := ⟨w.heap.size, 2, none⟩) hlt).trans k2
        have k3 := (b4.cell (p := ⟨w.heap.size, 3, none⟩) hlt).trans k3
        have k4 := (b4.cell (p := ⟨w.heap.size, 4, none⟩) hlt).trans k4
        have hlt : w.heap.size < w4.heap.size := Nat.lt_of_lt_of_le hlt b4.size
        have B := bthru B b4
        go_wp2_with fail
        refine (dec_num t.due (by omega) (by omega) _).mono ?_
        rintro e w5 ⟨rfl, b5⟩
        have k0 := (b5.cell (p := ⟨w.heap.size, 0, none⟩) hlt).trans k0
        have k1 := (b5.cell (p := ⟨w.heap.size, 1, none⟩) hlt).trans k1
        have k2 := (b5.cell (p := ⟨w.heap.size, 2, none⟩) hlt).trans k2
        have k3 := (b5.cell (p := ⟨w.heap.size, 3, none⟩) hlt).trans k3
        have k4 := (b5.cell (p := ⟨w.heap.size, 4, none⟩) hlt).trans k4
        have hlt : w.heap.size < w5.heap.size := Nat.lt_of_lt_of_le hlt b5.size
        have B := bthru B b5
        go_wp2_with fail
        go_ret
        refine ⟨?_, B⟩
        rw [HF.out, HR.out]
        have e : num t.low ++ ([47] ++ num t.high) ++ ([32, 101, 118, 101, 114, 121, 32] ++ num t.every) ++ ([32, 98, 121, 32] ++ num t.due) = ((((((num t.low ++ [47]) ++ num t.high) ++ [32, 101, 118, 101, 114, 121, 32]) ++ num t.every) ++ [32, 98, 121, 32]) ++ num t.due) := by simp [List.append_assoc]
        rw [e]
        simp only [← mk_app]
        rfl
      · have HR : Hid (taskT t = num t.low ++ ([47] ++ num t.high) ++ ([32, 101, 118, 101, 114, 121, 32] ++ num t.every) ++ ([])) := by
          rw [Hid, taskT, highT, dueT, HC.out]
          simp [hd]
        go_enter Tryz.func51, Tryz.ntmps51
        go_wp2_with fail
        refine (spec_TaskValid t _).mono ?_
        rw [HV.out]
        rintro e w1 ⟨rfl, b1⟩
        have hN := (b1.block w.heap.size (by simp)).trans (heap_alloc_new w _)
        obtain ⟨k0, k1, k2, k3, k4, _⟩ := blk_five hN
        rw [HC.out] at k4
        have B := bthru (bal (Below.refl w.heap.size w) _) b1
        have hlt : w.heap.size < w1.heap.size := Nat.lt_of_lt_of_le (by simp) b1.size
        clear hN b1
        go_wp2_with fail
        refine (dec_num t.low (by omega) (by omega) _).mono ?_
        rintro e w2 ⟨rfl, b2⟩
        have k0 := (b2.cell (p := ⟨w.heap.size, 0, none⟩) hlt).trans k0
        have k1 := (b2.cell (p := ⟨w.heap.size, 1, none⟩) hlt).trans k1
        have k2 := (b2.cell (p := ⟨w.heap.size, 2, none⟩) hlt).trans k2
        have k3 := (b2.cell (p := ⟨w.heap.size, 3, none⟩) hlt).trans k3
        have k4 := (b2.cell (p := ⟨w.heap.size, 4, none⟩) hlt).trans k4
        have hlt : w.heap.size < w2.heap.size := Nat.lt_of_lt_of_le hlt b2.size
        have B := bthru B b2
        go_wp2_with fail
        refine (dec_num t.high (by omega) (by omega) _).mono ?_
        rintro e w3 ⟨rfl, b3⟩
        have k0 := (b3.cell (p := ⟨w.heap.size, 0, none⟩) hlt).trans k0
        have k1 := (b3.cell (p := ⟨w.heap.size, 1, none⟩) hlt).trans k1
        have k2 := (b3.cell (p := ⟨w.heap.size, 2, none⟩) hlt).trans k2
        have k3 := (b3.cell (p := ⟨w.heap.size, 3, none⟩) hlt).trans k3
        have k4 := (b3.cell (p := ⟨w.heap.size, 4, none⟩) hlt).trans k4
        have hlt : w.heap.size < w3.heap.size := Nat.lt_of_lt_of_le hlt b3.size
        have B := bthru B b3
        go_wp2_with fail
        refine (dec_num t.every (by omega) (by omega) _).mono ?_
        rintro e w4 ⟨rfl, b4⟩
        have k0 := (b4.cell (p := ⟨w.heap.size, 0, none⟩) hlt).trans k0
        have k1 := (b4.cell (p := ⟨w.heap.size, 1, none⟩) hlt).trans k1
        have k2 := (b4.cell (p := ⟨w.heap.size, 2, none⟩) hlt).trans k2
        have k3 := (b4.cell (p := ⟨w.heap.size, 3, none⟩) hlt).trans k3
        have k4 := (b4.cell (p := ⟨w.heap.size, 4, none⟩) hlt).trans k4
        have hlt : w.heap.size < w4.heap.size := Nat.lt_of_lt_of_le hlt b4.size
        have B := bthru B b4
        go_wp2_with fail
        go_ret
        refine ⟨?_, B⟩
        rw [HF.out, HR.out]
        have e : num t.low ++ ([47] ++ num t.high) ++ ([32, 101, 118, 101, 114, 121, 32] ++ num t.every) ++ ([]) = ((((num t.low ++ [47]) ++ num t.high) ++ [32, 101, 118, 101, 114, 121, 32]) ++ num t.every) := by simp [List.append_assoc]
        rw [e]
        simp only [← mk_app]
        rfl
    | false =>
      have HC := Lib.hid hc
      clear hc
      by_cases hd : t.due < t.every
      · have HR : Hid (taskT t = num t.low ++ ([]) ++ ([32, 101, 118, 101, 114, 121, 32] ++ num t.every) ++ ([32, 98, 121, 32] ++ num t.due)) := by
          rw [Hid, taskT, highT, dueT, HC.out]
          simp [hd]
        go_enter Tryz.func51, Tryz.ntmps51
        go_wp2_with fail
        refine (spec_TaskValid t _).mono ?_
        rw [HV.out]
        rintro e w1 ⟨rfl, b1⟩
        have hN := (b1.block w.heap.size (by simp)).trans (heap_alloc_new w _)
        obtain ⟨k0, k1, k2, k3, k4, _⟩ := blk_five hN
        rw [HC.out] at k4
        have B := bthru (bal (Below.refl w.heap.size w) _) b1
        have hlt : w.heap.size < w1.heap.size := Nat.lt_of_lt_of_le (by simp) b1.size
        clear hN b1
        go_wp2_with fail
        refine (dec_num t.low (by omega) (by omega) _).mono ?_
        rintro e w2 ⟨rfl, b2⟩
        have k0 := (b2.cell (p := ⟨w.heap.size, 0, none⟩) hlt).trans k0
        have k1 := (b2.cell (p := ⟨w.heap.size, 1, none⟩) hlt).trans k1
        have k2 := (b2.cell (p := ⟨w.heap.size, 2, none⟩) hlt).trans k2
        have k3 := (b2.cell (p := ⟨w.heap.size, 3, none⟩) hlt).trans k3
        have k4 := (b2.cell (p := ⟨w.heap.size, 4, none⟩) hlt).trans k4
        have hlt : w.heap.size < w2.heap.size := Nat.lt_of_lt_of_le hlt b2.size
        have B := bthru B b2
        go_wp2_with fail
        refine (dec_num t.every (by omega) (by omega) _).mono ?_
        rintro e w3 ⟨rfl, b3⟩
        have k0 := (b3.cell (p := ⟨w.heap.size, 0, none⟩) hlt).trans k0
        have k1 := (b3.cell (p := ⟨w.heap.size, 1, none⟩) hlt).trans k1
        have k2 := (b3.cell (p := ⟨w.heap.size, 2, none⟩) hlt).trans k2
        have k3 := (b3.cell (p := ⟨w.heap.size, 3, none⟩) hlt).trans k3
        have k4 := (b3.cell (p := ⟨w.heap.size, 4, none⟩) hlt).trans k4
        have hlt : w.heap.size < w3.heap.size := Nat.lt_of_lt_of_le hlt b3.size
        have B := bthru B b3
        go_wp2_with fail
        refine (dec_num t.due (by omega) (by omega) _).mono ?_
        rintro e w4 ⟨rfl, b4⟩
        have k0 := (b4.cell (p := ⟨w.heap.size, 0, none⟩) hlt).trans k0
        have k1 := (b4.cell (p := ⟨w.heap.size, 1, none⟩) hlt).trans k1
        have k2 := (b4.cell (p := ⟨w.heap.size, 2, none⟩) hlt).trans k2
        have k3 := (b4.cell (p := ⟨w.heap.size, 3, none⟩) hlt).trans k3
        have k4 := (b4.cell (p := ⟨w.heap.size, 4, none⟩) hlt).trans k4
        have hlt : w.heap.size < w4.heap.size := Nat.lt_of_lt_of_le hlt b4.size
        have B := bthru B b4
        go_wp2_with fail
        go_ret
        refine ⟨?_, B⟩
        rw [HF.out, HR.out]
        have e : num t.low ++ ([]) ++ ([32, 101, 118, 101, 114, 121, 32] ++ num t.every) ++ ([32, 98, 121, 32] ++ num t.due) = ((((num t.low ++ [32, 101, 118, 101, 114, 121, 32]) ++ num t.every) ++ [32, 98, 121, 32]) ++ num t.due) := by simp [List.append_assoc]
        rw [e]
        simp only [← mk_app]
        rfl
      · have HR : Hid (taskT t = num t.low ++ ([]) ++ ([32, 101, 118, 101, 114, 121, 32] ++ num t.every) ++ ([])) := by
          rw [Hid, taskT, highT, dueT, HC.out]
          simp [hd]
        go_enter Tryz.func51, Tryz.ntmps51
        go_wp2_with fail
        refine (spec_TaskValid t _).mono ?_
        rw [HV.out]
        rintro e w1 ⟨rfl, b1⟩
        have hN := (b1.block w.heap.size (by simp)).trans (heap_alloc_new w _)
        obtain ⟨k0, k1, k2, k3, k4, _⟩ := blk_five hN
        rw [HC.out] at k4
        have B := bthru (bal (Below.refl w.heap.size w) _) b1
        have hlt : w.heap.size < w1.heap.size := Nat.lt_of_lt_of_le (by simp) b1.size
        clear hN b1
        go_wp2_with fail
        refine (dec_num t.low (by omega) (by omega) _).mono ?_
        rintro e w2 ⟨rfl, b2⟩
        have k0 := (b2.cell (p := ⟨w.heap.size, 0, none⟩) hlt).trans k0
        have k1 := (b2.cell (p := ⟨w.heap.size, 1, none⟩) hlt).trans k1
        have k2 := (b2.cell (p := ⟨w.heap.size, 2, none⟩) hlt).trans k2
        have k3 := (b2.cell (p := ⟨w.heap.size, 3, none⟩) hlt).trans k3
        have k4 := (b2.cell (p := ⟨w.heap.size, 4, none⟩) hlt).trans k4
        have hlt : w.heap.size < w2.heap.size := Nat.lt_of_lt_of_le hlt b2.size
        have B := bthru B b2
        go_wp2_with fail
        refine (dec_num t.every (by omega) (by omega) _).mono ?_
        rintro e w3 ⟨rfl, b3⟩
        have k0 := (b3.cell (p := ⟨w.heap.size, 0, none⟩) hlt).trans k0
        have k1 := (b3.cell (p := ⟨w.heap.size, 1, none⟩) hlt).trans k1
        have k2 := (b3.cell (p := ⟨w.heap.size, 2, none⟩) hlt).trans k2
        have k3 := (b3.cell (p := ⟨w.heap.size, 3, none⟩) hlt).trans k3
        have k4 := (b3.cell (p := ⟨w.heap.size, 4, none⟩) hlt).trans k4
        have hlt : w.heap.size < w3.heap.size := Nat.lt_of_lt_of_le hlt b3.size
        have B := bthru B b3
        go_wp2_with fail
        go_ret
        refine ⟨?_, B⟩
        rw [HF.out, HR.out]
        have e : num t.low ++ ([]) ++ ([32, 101, 118, 101, 114, 121, 32] ++ num t.every) ++ ([]) = ((num t.low ++ [32, 101, 118, 101, 114, 121, 32]) ++ num t.every) := by simp [List.append_assoc]
        rw [e]
        simp only [← mk_app]
        rfl
end Go.Proofs.YtmkjmancmiphfaaGreatDoor
