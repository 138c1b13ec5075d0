/-
  Numbers in decimal: the reference's.
-/
import Derived.Test.YtmkjmancmiphfaaGreatDoorBase
import Derived.Lib.ItoaLen
namespace Go.Proofs.YtmkjmancmiphfaaGreatDoor
open Go.RowKit

def num (n : Int) : List UInt8 := Lib.decDigits n.toNat
theorem dec_small (n : Nat) (h : n < 10) : Lib.decDigits n = [UInt8.ofNat (48 + n)] := by
  unfold Lib.decDigits
  rw [dif_pos h]
theorem dec_big (n : Nat) (h : ¬ n < 10) : Lib.decDigits n = Lib.decDigits (n / 10) ++ [UInt8.ofNat (48 + n % 10)] := by
  conv => lhs; unfold Lib.decDigits
  rw [dif_neg h]

/-- A string of one byte, laid by the call. -/
theorem conv_one (w : World) (v : Int) (n : Nat) (hv : v = (n : Int)) (hn : n < 256) :
    (convert 22 9 (.slice (some ⟨w.heap.size, 0, none⟩) 1 1)).run Tryz.prog (w.alloc (.cells #[.int .u8 v] 5)) = .ok (.string ⟨[UInt8.ofNat n].toArray⟩) (w.alloc (.cells #[.int .u8 v] 5)) := by
  subst hv
  refine run_convert_bytes_back _ 22 9 5 _ 1 [UInt8.ofNat n] Tryz.underlying22 Tryz.underlying5 Tryz.underlying9 ?_
  intro j hj
  obtain rfl : j = 0 := by simpa using hj
  have e : ((⟨w.heap.size, 0, none⟩ : Addr).add 0) = ⟨w.heap.size, 0, none⟩ := by unfold Addr.add; split <;> simp_all
  rw [e, World.cell?_alloc_mark]
  have : (UInt8.ofNat n).toNat = n := by rw [UInt8.toNat_ofNat']; omega
  simp [this]
theorem mk_app (x y : List UInt8) : (ByteArray.mk x.toArray ++ ByteArray.mk y.toArray) = ByteArray.mk (x ++ y).toArray := ByteArray.mk_append_mk x y

set_option maxHeartbeats 1000000 in
theorem spec_l11Dec (n : Nat) (hn : n ≤ 9223372036854775807) (w : World) :
    Calls Tryz.prog 91 #[.int .i64 (n : Int)] w fun e w' => e = .returned (.string ⟨(Lib.decDigits n).toArray⟩) ∧ Below w.heap.size w w' := by
  have hlen : (Lib.decDigits n).length ≤ 21 := by
    have := Lib.itoa_length_le (n : Int) (by omega) (by omega)
    rwa [Lib.itoa, if_neg (by omega), Int.toNat_natCast] at this
  obtain ⟨D, hD⟩ : ∃ D, Lib.decDigits n = D := ⟨_, rfl⟩
  rw [hD] at hlen ⊢
  have HD := Lib.hid hD
  clear hD
  go_enter Tryz.func91, Tryz.ntmps91
  go_wp2_with fail
  go_loopw [0, 3] (fun i v wr => ∃ (m : Nat) (acc : List UInt8), i = .int .i64 (m : Int) ∧ v = .string ⟨acc.toArray⟩ ∧ m ≤ n ∧ Hid (Lib.decDigits m ++ acc = D) ∧ Below w.heap.size w wr) (fun i _ _ => (intOf i).toNat)
  case atStart => exact ⟨n, [], rfl, rfl, Nat.le_refl _, by rw [Hid, List.append_nil]; exact HD.out, Below.refl _ _⟩
  case round =>
    obtain ⟨m, acc, rfl, rfl, hm, hacc, hb⟩ := hrel
    have hal : acc.length ≤ 21 := by
      have := congrArg List.length hacc.out
      rw [List.length_append] at this
      omega
    by_cases hm9 : 9 < (m : Int)
    · have h1 := conv_one wr (48 + (m : Int) % 10) (48 + m % 10) (by omega) (by omega)
      have hd : Hid (Lib.decDigits (m / 10) ++ (UInt8.ofNat (48 + m % 10) :: acc) = D) := by
        rw [Hid, ← hacc.out, dec_big m (by omega), List.append_assoc]
        rfl
      generalize UInt8.ofNat (48 + m % 10) = x at h1 hd
      go_wp2_with fail
      go_roundw
      case rel => exact ⟨m / 10, _, by go_num, by rw [mk_app]; rfl, by omega, hd, bal hb _⟩
      case measure => simp [intOf]; omega
    · have h1 := conv_one wr (48 + (m : Int)) (48 + m) (by omega) (by omega)
      have hd : Hid ([UInt8.ofNat (48 + m)] ++ acc = D) := by
        rw [Hid, ← hacc.out, dec_small m (by omega)]
      generalize UInt8.ofNat (48 + m) = x at h1 hd
      go_wp2_with fail
      go_ret
      exact ⟨by rw [← hd.out, ← mk_app]; rfl, bal hb _⟩
end Go.Proofs.YtmkjmancmiphfaaGreatDoor
