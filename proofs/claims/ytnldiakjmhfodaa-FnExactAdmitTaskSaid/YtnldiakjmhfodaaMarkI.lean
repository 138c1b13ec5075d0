/-
  heldIntS: marked numbers stand.
-/
import Derived.Test.YtnldiakjmhfodaaMark
namespace Go.Proofs.Ytnldiakjmhfodaa
open Go.RowKit

theorem laws_heldIntS (A : Option Addr) (n : Nat) (c : Nat) (k0 : Int) (w : World) (h : IS w A ((List.range n).map fun (i : Nat) => k0 + (i : Int))) (hl : n ≤ 1048576) (hk0 : 0 ≤ k0) (hk1 : k0 ≤ 100000000) :
    Calls Try.prog 41 #[.slice A n c, .int .i64 k0] w fun e w' => e = .returned (.int .i64 (k0 + n)) ∧ w = w' := by
  go_enter Try.func41, Try.ntmps41
  go_wp2_with fail
  go_loop [1, 5] (fun v i => ∃ k : Nat, i = .int .i64 (k : Int) ∧ v = .int .i64 (k0 + (k : Int)) ∧ k ≤ n) (fun _ i => n - (intOf i).toNat)
  case atStart => exact ⟨0, rfl, by simp, by omega⟩
  case round =>
    obtain ⟨k, rfl, rfl, hk⟩ := hrel
    by_cases hlt : k < n
    · obtain ⟨b, off, rfl, hbl, hc⟩ := h (by simp; omega)
      have c0 := hc k (k0 + (k : Int)) (by simp [hlt])
      clear hc
      go_wp2_with fail
      go_round
      case rel => exact ⟨k + 1, by go_num, by go_num, by omega⟩
      case measure => simp [intOf]; omega
    · go_wp2_with fail
      go_ret
      have ek : k = n := by omega
      exact ⟨by rw [ek]; rfl, rfl⟩
end Go.Proofs.Ytnldiakjmhfodaa
