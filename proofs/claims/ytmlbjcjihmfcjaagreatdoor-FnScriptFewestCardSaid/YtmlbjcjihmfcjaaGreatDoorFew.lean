/-
  FewestFor: the program's and the reference's.
-/
import Derived.Test.YtmlbjcjihmfcjaaGreatDoorPackAI
import Derived.Test.YtmlbjcjihmfcjaaGreatDoorPackAS
namespace Go.Proofs.YtmlbjcjihmfcjaaGreatDoor
open Go.RowKit

theorem few_hit {l : List Tk} {p k : Int} (h1 : 1 ≤ k) (h3 : k ≤ 3) (h : (anyP l k p).isSome = true) (hb : ∀ j : Int, 1 ≤ j → j < k → (anyP l j p).isSome = false) : fewN l p = some k := by
  have hk : k = 1 ∨ k = 2 ∨ k = 3 := by omega
  rcases hk with rfl | rfl | rfl
  · simp [fewN, h]
  · simp [fewN, h, hb 1 (by omega) (by omega)]
  · simp [fewN, h, hb 1 (by omega) (by omega), hb 2 (by omega) (by omega)]
theorem few_miss {l : List Tk} {p : Int} (hb : ∀ j : Int, 1 ≤ j → j ≤ 3 → (anyP l j p).isSome = false) : fewN l p = none := by
  simp [fewN, hb 1 (by omega) (by omega), hb 2 (by omega) (by omega), hb 3 (by omega) (by omega)]

set_option maxHeartbeats 2000000 in
theorem impl_FewestFor (A : Option Addr) (l : List Tk) (c : Nat) (p : Int) (w : World) (h : TS w A l) (hm : l.length ≤ maxLen) (hlc : l.length ≤ c) :
    Calls Tryz.prog 78 #[.slice A l.length c, .int .i64 p] w fun e w' => e = .returned (optV (fewN l p)) ∧ Below w.heap.size w w' := by
  obtain ⟨R, hR⟩ : ∃ R, fewN l p = R := ⟨_, rfl⟩
  rw [hR]
  have HR := Lib.hid hR
  clear hR
  go_enter Tryz.func78, Tryz.ntmps78
  go_wp2_with fail
  go_loopw [6] (fun i wr => ∃ k : Nat, i = .int .i64 (k : Int) ∧ 1 ≤ k ∧ k ≤ 4 ∧ Hid (∀ j : Int, 1 ≤ j → j < (k : Int) → (anyP l j p).isSome = false) ∧ Below w.heap.size w wr) (fun i _ => 4 - (intOf i).toNat)
  case atStart => exact ⟨1, rfl, by omega, by omega, fun j h1 h2 => by omega, Below.refl _ _⟩
  case round =>
    obtain ⟨k, rfl, hk1, hk4, hall, hb⟩ := hrel
    by_cases hlt : (k : Int) ≤ 3
    · have K := impl_PackAny A l c (k : Int) p wr (h.keep hb) hm hlc
      obtain ⟨wm, hwm⟩ : ∃ wm, anyL l (k : Int) p = wm := ⟨_, rfl⟩
      cases hk : (anyP l (k : Int) p).isSome with
      | true =>
        have hf : Hid (R = some (k : Int)) := by rw [Hid, ← HR.out]; exact few_hit (by omega) hlt hk (fun j h1 h2 => hall.out j h1 h2)
        rw [hk, hwm] at K
        clear hk hwm
        go_wp2_with fail
        refine K.mono ?_
        rintro e w2 ⟨A2, c2, rfl, o2, b2⟩
        go_wp2_with fail
        go_ret2
        exact ⟨by rw [hf.out]; rfl, bthru hb b2⟩
      | false =>
        have hnx : Hid (∀ j : Int, 1 ≤ j → j < ((k + 1 : Nat) : Int) → (anyP l j p).isSome = false) := by
          intro j h1 h2
          by_cases e : j = (k : Int)
          · subst e; exact hk
          · exact hall.out j h1 (by omega)
        rw [hk, hwm] at K
        clear hk hwm
        go_wp2_with fail
        refine K.mono ?_
        rintro e w2 ⟨A2, c2, rfl, o2, b2⟩
        go_wp2_with fail
        go_roundw
        case rel => exact ⟨k + 1, by go_num, by omega, by omega, hnx, bthru hb b2⟩
        case measure => simp [intOf]; omega
    · have hf : Hid (R = none) := by rw [Hid, ← HR.out]; exact few_miss (fun j h1 h2 => hall.out j h1 (by omega))
      go_wp2_with fail
      go_ret2
      exact ⟨by rw [hf.out]; rfl, hb⟩

set_option maxHeartbeats 2000000 in
theorem spec_FewestFor (A : Option Addr) (l : List Tk) (c : Nat) (p : Int) (w : World) (h : TS w A l) (hm : l.length ≤ maxLen) (hlc : l.length ≤ c) :
    Calls Tryz.prog 79 #[.slice A l.length c, .int .i64 p] w fun e w' => e = .returned (optV (fewN l p)) ∧ Below w.heap.size w w' := by
  obtain ⟨R, hR⟩ : ∃ R, fewN l p = R := ⟨_, rfl⟩
  rw [hR]
  have HR := Lib.hid hR
  clear hR
  go_enter Tryz.func79, Tryz.ntmps79
  go_wp2_with fail
  go_loopw [6] (fun i wr => ∃ k : Nat, i = .int .i64 (k : Int) ∧ 1 ≤ k ∧ k ≤ 4 ∧ Hid (∀ j : Int, 1 ≤ j → j < (k : Int) → (anyP l j p).isSome = false) ∧ Below w.heap.size w wr) (fun i _ => 4 - (intOf i).toNat)
  case atStart => exact ⟨1, rfl, by omega, by omega, fun j h1 h2 => by omega, Below.refl _ _⟩
  case round =>
    obtain ⟨k, rfl, hk1, hk4, hall, hb⟩ := hrel
    by_cases hlt : (k : Int) ≤ 3
    · have K := spec_PackAny A l c (k : Int) p wr (h.keep hb) hm hlc
      obtain ⟨wm, hwm⟩ : ∃ wm, anyL l (k : Int) p = wm := ⟨_, rfl⟩
      cases hk : (anyP l (k : Int) p).isSome with
      | true =>
        have hf : Hid (R = some (k : Int)) := by rw [Hid, ← HR.out]; exact few_hit (by omega) hlt hk (fun j h1 h2 => hall.out j h1 h2)
        rw [hk, hwm] at K
        clear hk hwm
        go_wp2_with fail
        refine K.mono ?_
        rintro e w2 ⟨A2, c2, rfl, o2, b2⟩
        go_wp2_with fail
        go_ret2
        exact ⟨by rw [hf.out]; rfl, bthru hb b2⟩
      | false =>
        have hnx : Hid (∀ j : Int, 1 ≤ j → j < ((k + 1 : Nat) : Int) → (anyP l j p).isSome = false) := by
          intro j h1 h2
          by_cases e : j = (k : Int)
          · subst e; exact hk
          · exact hall.out j h1 (by omega)
        rw [hk, hwm] at K
        clear hk hwm
        go_wp2_with fail
        refine K.mono ?_
        rintro e w2 ⟨A2, c2, rfl, o2, b2⟩
        go_wp2_with fail
        go_roundw
        case rel => exact ⟨k + 1, by go_num, by omega, by omega, hnx, bthru hb b2⟩
        case measure => simp [intOf]; omega
    · have hf : Hid (R = none) := by rw [Hid, ← HR.out]; exact few_miss (fun j h1 h2 => hall.out j h1 (by omega))
      go_wp2_with fail
      go_ret2
      exact ⟨by rw [hf.out]; rfl, hb⟩
end Go.Proofs.YtmlbjcjihmfcjaaGreatDoor
