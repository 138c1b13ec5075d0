/-
  dmNumber; DrawFormatPack.
-/
import Derived.Test.YtmkjmancmiphfaaGreatDoorDrawCase
import Derived.Test.YtmkjmancmiphfaaGreatDoorDec
namespace Go.Proofs.YtmkjmancmiphfaaGreatDoor
open Go.RowKit

set_option maxHeartbeats 1000000 in
theorem laws_dmNumber (n : Nat) (hn : n ≤ 9223372036854775807) (w : World) :
    Calls Tryz.prog 13 #[.int .i64 (n : Int)] w fun e w' => e = .returned (.string ⟨(Lib.decDigits n).toArray⟩) ∧ Below w.heap.size w w' := by
  have hlen : (Lib.decDigits n).length ≤ 21 := by
    have := Lib.itoa_length_le (n : Int) (by omega) (by omega)
    rwa [Lib.itoa, if_neg (by omega), Int.toNat_natCast] at this
  obtain ⟨D, hD⟩ : ∃ D, Lib.decDigits n = D := ⟨_, rfl⟩
  rw [hD] at hlen ⊢
  have HD := Lib.hid hD
  clear hD
  go_enter Tryz.func13, Tryz.ntmps13
  go_wp2_with fail
  go_loopw [0, 3] (fun i v wr => ∃ (m : Nat) (acc : List UInt8), i = .int .i64 (m : Int) ∧ v = .string ⟨acc.toArray⟩ ∧ m ≤ n ∧ Hid (Lib.decDigits m ++ acc = D) ∧ Below w.heap.size w wr) (fun i _ _ => (intOf i).toNat)
  case atStart => exact ⟨n, [], rfl, rfl, Nat.le_refl _, by rw [Hid, List.append_nil]; exact HD.out, Below.refl _ _⟩
  case round =>
    obtain ⟨m, acc, rfl, rfl, hm, hacc, hb⟩ := hrel
    have hal : acc.length ≤ 21 := by
      have := congrArg List.length hacc.out
      rw [List.length_append] at this
      omega
    have h1 := conv_one wr (48 + (m : Int) % 10) (48 + m % 10) (by omega) (by omega)
    by_cases hm9 : 9 < (m : Int)
    · have hq : ((m : Int) / 10 == 0) = false := beq_eq_false_iff_ne.2 (by omega)
      have hd : Hid (Lib.decDigits (m / 10) ++ (UInt8.ofNat (48 + m % 10) :: acc) = D) := by
        rw [Hid, ← hacc.out, dec_big m (by omega), List.append_assoc]
        rfl
      generalize UInt8.ofNat (48 + m % 10) = x at h1 hd
      go_wp2_with fail
      go_roundw
      case rel => exact ⟨m / 10, _, by go_num, by rw [mk_app]; rfl, by omega, hd, bal hb _⟩
      case measure => simp [intOf]; omega
    · have hq : (m : Int) / 10 = 0 := by omega
      have hd : Hid ([UInt8.ofNat (48 + m % 10)] ++ acc = D) := by
        rw [Hid, ← hacc.out, dec_small m (by omega), Nat.mod_eq_of_lt (by omega)]
      generalize UInt8.ofNat (48 + m % 10) = x at h1 hd
      go_wp2_with fail
      go_ret
      exact ⟨by rw [← hd.out, ← mk_app]; rfl, bal hb _⟩
theorem dm_num (n : Int) (h0 : 0 ≤ n) (h1 : n < 100) (w : World) :
    Calls Tryz.prog 13 #[.int .i64 n] w fun e w' => e = .returned (.string ⟨(num n).toArray⟩) ∧ Below w.heap.size w w' := by
  have K := laws_dmNumber n.toNat (by omega) w
  rw [Int.toNat_of_nonneg h0] at K
  exact K
end Go.Proofs.YtmkjmancmiphfaaGreatDoor
