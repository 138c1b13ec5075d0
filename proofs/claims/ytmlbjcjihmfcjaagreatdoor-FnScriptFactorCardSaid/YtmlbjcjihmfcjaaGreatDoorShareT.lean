/-
  Texts of shares: the program's.
-/
import Derived.Test.YtmlbjcjihmfcjaaGreatDoorRun
import Derived.Test.YtmlbjcjihmfcjaaGreatDoorShare
namespace Go.Proofs.YtmlbjcjihmfcjaaGreatDoor
open Go.RowKit

def shareT (r : Rat) : List UInt8 := num r.num ++ (if r.den = 1 then [] else 47 :: num (r.den : Int))
theorem num_len' (n : Int) (h : n ≤ 1000000000) : (num n).length ≤ 21 := num_len n (by omega)
theorem shareT_len (r : Rat) (h : RIn r) : (shareT r).length ≤ 43 := by
  unfold RIn at h
  have h1 := num_len r.num (by omega)
  have h2 := num_len (r.den : Int) (by omega)
  unfold shareT
  split <;> simp <;> omega
set_option maxHeartbeats 2000000 in
set_option maxRecDepth 100000 in
theorem impl_FormatShare {B : Nat} (r : Rat) (h : RIn r) (w : World) (hM : Mx B w) (hB : B ≤ w.heap.size) :
    Calls Tryz.prog 46 #[rv r] w fun e w' => e = .returned (.string ⟨(shareT r).toArray⟩) ∧ Below w.heap.size w w' := by
  obtain ⟨a0, a1, a2⟩ := id h
  have l1 := num_len r.num (by omega)
  have l2 := num_len (r.den : Int) (by omega)
  by_cases hd : r.den = 1
  · have hT : Hid (shareT r = num r.num) := by simp [Hid, shareT, hd]
    have HD := Lib.hid hd
    clear hd
    go_enter Tryz.func46, Tryz.ntmps46
    go_wp2_with fail
    refine (impl_ShareValid_yes r _ h).mono ?_
    rintro e w1 ⟨rfl, b1⟩
    have hN : w1.heap[w.heap.size]? = some (.cells #[.int .i64 r.num, .int .i64 (r.den : Int)] 54 (0, 0)) := (b1.block w.heap.size (by simp)).trans (heap_alloc_new w _)
    obtain ⟨k0, k1, _⟩ := blk_two hN
    have b := bthru (bal (Below.refl w.heap.size w) _) b1
    have hlt : w.heap.size < w1.heap.size := Nat.lt_of_lt_of_le (by simp) b1.size
    clear hN b1
    go_wp2_with fail
    refine (itoa_any (hM.keep (b.mono hB)) r.num a0 a1).mono ?_
    rintro e w2 ⟨rfl, b2⟩
    have k1 := (b2.cell (p := ⟨w.heap.size, 1, none⟩) hlt).trans k1
    rw [HD.out] at k1
    clear k0
    go_wp2_with fail
    go_ret
    exact ⟨by rw [hT.out]; rfl, bthru b b2⟩
  · have hT : Hid (shareT r = num r.num ++ ([47] ++ num (r.den : Int))) := by simp [Hid, shareT, hd]
    have hne : ((r.den : Int) != 1) = true := by rw [bne_iff_ne]; omega
    go_enter Tryz.func46, Tryz.ntmps46
    go_wp2_with fail
    refine (impl_ShareValid_yes r _ h).mono ?_
    rintro e w1 ⟨rfl, b1⟩
    have hN : w1.heap[w.heap.size]? = some (.cells #[.int .i64 r.num, .int .i64 (r.den : Int)] 54 (0, 0)) := (b1.block w.heap.size (by simp)).trans (heap_alloc_new w _)
    obtain ⟨k0, k1, _⟩ := blk_two hN
    have b := bthru (bal (Below.refl w.heap.size w) _) b1
    have hlt : w.heap.size < w1.heap.size := Nat.lt_of_lt_of_le (by simp) b1.size
    clear hN b1
    go_wp2_with fail
    refine (itoa_any (hM.keep (b.mono hB)) r.num a0 a1).mono ?_
    rintro e w2 ⟨rfl, b2⟩
    have k1 := (b2.cell (p := ⟨w.heap.size, 1, none⟩) hlt).trans k1
    have hlt2 : w.heap.size < w2.heap.size := Nat.lt_of_lt_of_le hlt b2.size
    have B2 := bthru b b2
    clear k0
    go_wp2_with fail
    refine (itoa_any (hM.keep (B2.mono hB)) (r.den : Int) (by omega) (by omega)).mono ?_
    rintro e w3 ⟨rfl, b3⟩
    go_wp2_with fail
    go_ret
    refine ⟨?_, bthru B2 b3⟩
    rw [hT.out]
    simp only [← mk_app]
    rfl
end Go.Proofs.YtmlbjcjihmfcjaaGreatDoor
