/-
  The reference's SetValid: what it returns.
-/
import Derived.Test.YtmkjmancmiphfaaGreatDoorTaskValid
namespace Go.Proofs.YtmkjmancmiphfaaGreatDoor
open Go.RowKit

theorem spec_SetValid (A : Option Addr) (l : List Tk) (c : Nat) (w : World) (h : TS w A l) (hm : l.length ≤ 9223372036854775807) :
    Calls Tryz.prog 55 #[.slice A l.length c] w fun e w' => e = .returned (.bool (setVld l)) ∧ Below w.heap.size w w' := by
  go_enter Tryz.func55, Tryz.ntmps55
  go_wp2
  go_loopw [3] (fun i wr => ∃ k : Nat, k ≤ l.length ∧ k ≤ 6 ∧ i = .int .i64 k ∧ Hid ((l.take k).all vld = true) ∧ Below w.heap.size w wr) (fun i _ => l.length - (intOf i).toNat)
  case atStart => exact ⟨0, Nat.zero_le _, by omega, rfl, by simp [Hid], Below.refl _ _⟩
  case round =>
    obtain ⟨k, hk, hk6, rfl, hall, hb⟩ := hrel
    by_cases hlt : k < l.length ∧ k ≤ 5
    · obtain ⟨hlt, h5⟩ := hlt
      obtain ⟨b, off, rfl, hbl, hc⟩ := h.keep hb (by omega)
      obtain ⟨c0, c1, c2, c3, c4⟩ := task_cells hc k hlt
      clear hc
      go_wp2_with (go_at_call 99; refine (spec_TaskValid _ _).mono ?_; rintro e w' ⟨rfl, hb2⟩)
      · have hv : (!vld l[k]) = true := by assumption
        go_ret
        refine ⟨?_, bthru hb hb2⟩
        have : l.all vld = false := List.all_eq_false.2 ⟨l[k], List.getElem_mem _, by simpa using hv⟩
        simp [setVld, this]
      · have hv : (!vld l[k]) = false := by assumption
        go_roundw
        case rel => exact ⟨k + 1, by omega, by omega, by go_num, by rw [Hid, all_take_succ l k hlt, hall.out]; simpa using hv, bthru hb hb2⟩
        case measure => simp [intOf]; omega
    · by_cases hlen : k < l.length
      · have h5 : 5 < k := by omega
        have h5' : 5 < l.length := by omega
        go_wp2
        go_ret
        refine ⟨?_, hb⟩
        have e : decide (l.length ≤ 5) = false := by simp; omega
        simp [setVld, e]
        omega
      · have h5' : l.length ≤ 6 := by omega
        go_wp2
        go_ret
        refine ⟨?_, hb⟩
        have := hall.out
        rw [List.take_of_length_le (by omega)] at this
        simp [setVld, this]
        omega
end Go.Proofs.YtmkjmancmiphfaaGreatDoor
