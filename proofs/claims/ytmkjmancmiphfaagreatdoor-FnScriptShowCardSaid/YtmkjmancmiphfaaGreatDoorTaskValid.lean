/-
  TaskValid and SetValid: what they return.
-/
import Derived.Test.YtmkjmancmiphfaaGreatDoorBase
namespace Go.Proofs.YtmkjmancmiphfaaGreatDoor
open Go.RowKit

theorem impl_TaskValid (t : Tk) (w : World) :
    Calls Tryz.prog 71 #[t.val] w fun e w' => e = .returned (.bool (vld t)) ∧ Below w.heap.size w w' := by
  obtain ⟨low, high, due, every, crit⟩ := t
  go_enter Tryz.func71, Tryz.ntmps71
  go_wp2
  all_goals go_ret
  all_goals refine ⟨?_, (Below.refl _ _).alloc (Nat.le_refl _) _⟩
  all_goals (simp [vld, *]; try omega)

theorem spec_TaskValid (t : Tk) (w : World) :
    Calls Tryz.prog 99 #[t.val] w fun e w' => e = .returned (.bool (vld t)) ∧ Below w.heap.size w w' := by
  obtain ⟨low, high, due, every, crit⟩ := t
  go_enter Tryz.func99, Tryz.ntmps99
  go_wp2
  all_goals go_ret
  all_goals refine ⟨?_, (Below.refl _ _).alloc (Nat.le_refl _) _⟩
  all_goals (simp [vld, *]; try omega)

theorem all_take_succ (l : List Tk) (k : Nat) (hk : k < l.length) : (l.take (k + 1)).all vld = ((l.take k).all vld && vld l[k]) := by
  rw [List.take_succ_eq_append_getElem hk, List.all_append]; simp

theorem impl_SetValid (A : Option Addr) (l : List Tk) (c : Nat) (w : World) (h : TS w A l) :
    Calls Tryz.prog 34 #[.slice A l.length c] w fun e w' => e = .returned (.bool (setVld l)) ∧ Below w.heap.size w w' := by
  by_cases h5 : l.length ≤ 5
  · go_enter Tryz.func34, Tryz.ntmps34
    go_wp2
    go_loopw [10] (fun i wr => ∃ k : Nat, k ≤ l.length ∧ i = .int .i64 k ∧ Hid ((l.take k).all vld = true) ∧ Below w.heap.size w wr) (fun i _ => l.length - (intOf i).toNat)
    case atStart => exact ⟨0, Nat.zero_le _, rfl, by simp [Hid], Below.refl _ _⟩
    case round =>
      obtain ⟨k, hk, rfl, hall, hb⟩ := hrel
      by_cases hlt : k < l.length
      · obtain ⟨b, off, rfl, hbl, hc⟩ := h.keep hb (by omega)
        obtain ⟨c0, c1, c2, c3, c4⟩ := task_cells hc k hlt
        clear hc
        go_wp2_with (go_at_call 71; refine (impl_TaskValid _ _).mono ?_; rintro e w' ⟨rfl, hb2⟩)
        · have hv : (!vld l[k]) = true := by assumption
          go_ret
          refine ⟨?_, bthru (bal hb _) hb2⟩
          have : l.all vld = false := List.all_eq_false.2 ⟨l[k], List.getElem_mem _, by simpa using hv⟩
          simp [setVld, this]
        · have hv : (!vld l[k]) = false := by assumption
          go_roundw
          case rel => exact ⟨k + 1, by omega, by go_num, by rw [Hid, all_take_succ l k hlt, hall.out]; simpa using hv, bthru (bal hb _) hb2⟩
          case measure => simp [intOf]; omega
      · go_wp2
        go_ret
        have : k = l.length := by omega
        subst this
        exact ⟨by simpa [setVld, h5] using hall.out, hb⟩
  · go_enter Tryz.func34, Tryz.ntmps34
    go_wp2
    go_ret
    exact ⟨by simp [setVld, h5], Below.refl _ _⟩
end Go.Proofs.YtmkjmancmiphfaaGreatDoor
