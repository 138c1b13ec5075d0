/-
  The helpers of the exact laws: copies, comparisons, sizes.
-/
import Derived.Test.YtnldiakjmhfodaaTaskValid
import Derived.Deep.RegionWith
namespace Go.Proofs.Ytnldiakjmhfodaa
open Go.RowKit

theorem laws_szTaskS_no (A : Option Addr) (n c : Nat) (left : Int) (w : World) (h0 : 0 ≤ left) (h1 : left ≤ 1048576) (hn : n ≤ 9223372036854775807) (h : left < (n : Int)) :
    Calls Try.prog 29 #[.slice A n c, .int .i64 left] w fun e w' => e = .returned (.int .i64 (-1)) ∧ w = w' := by
  go_enter Try.func29, Try.ntmps29
  go_wp2
  go_ret
  exact ⟨rfl, rfl⟩

theorem laws_szTaskS (A : Option Addr) (n c : Nat) (left : Int) (w : World) (h1 : left ≤ 1048576) (h : (n : Int) ≤ left) :
    Calls Try.prog 29 #[.slice A n c, .int .i64 left] w fun e w' => e = .returned (.int .i64 (left - n)) ∧ w = w' := by
  go_enter Try.func29, Try.ntmps29
  go_wp2
  go_ret
  exact ⟨rfl, rfl⟩

theorem laws_eqTask (s t : Tk) (w : World) :
    Calls Try.prog 83 #[s.val, t.val] w fun e w' => e = .returned (.bool (decide (s = t))) ∧ Below w.heap.size w w' := by
  obtain ⟨low, high, due, every, crit⟩ := s
  obtain ⟨low', high', due', every', crit'⟩ := t
  go_enter Try.func83, Try.ntmps83
  go_wp2
  all_goals go_ret
  all_goals refine ⟨?_, bal (bal (Below.refl _ _) _) _⟩
  all_goals (simp_all)

theorem take_eq_succ {α : Type} (l m : List α) (k : Nat) (hl : k < l.length) (hm : k < m.length) (h : l.take k = m.take k) (e : l[k] = m[k]) : l.take (k + 1) = m.take (k + 1) := by
  rw [List.take_succ_eq_append_getElem hl, List.take_succ_eq_append_getElem hm, h, e]

theorem laws_eqTaskS (A B : Option Addr) (l m : List Tk) (c d : Nat) (w : World) (h : TS w A l) (g : TS w B m) (hl : l.length ≤ 9223372036854775807) :
    Calls Try.prog 34 #[.slice A l.length c, .slice B m.length d] w fun e w' => e = .returned (.bool (decide (l = m))) ∧ Below w.heap.size w w' := by
  by_cases hlen : l.length = m.length
  · have hne : ((l.length : Int) != m.length) = false := by simp [hlen]
    go_enter Try.func34, Try.ntmps34
    have hlen' := Lib.hid hlen
    clear hlen
    go_wp2
    go_loopw [5] (fun i wr => ∃ k : Nat, k ≤ l.length ∧ i = .int .i64 k ∧ Hid (l.take k = m.take k) ∧ Below w.heap.size w wr) (fun i _ => l.length - (intOf i).toNat)
    case atStart => exact ⟨0, Nat.zero_le _, rfl, by simp [Hid], Below.refl _ _⟩
    case round =>
      obtain ⟨k, hk, rfl, hall, hb⟩ := hrel
      by_cases hlt : k < l.length
      · have hltm : k < m.length := by rw [← hlen'.out]; exact hlt
        obtain ⟨b, off, rfl, hbl, hc⟩ := h.keep hb (by omega)
        obtain ⟨b', off', rfl, hbl', hc'⟩ := g.keep hb (by omega)
        obtain ⟨c0, c1, c2, c3, c4⟩ := task_cells hc k hlt
        obtain ⟨d0, d1, d2, d3, d4⟩ := task_cells hc' k hltm
        clear hc hc'
        go_wp2
        go_region_with (go_at_call 83; refine (laws_eqTask _ _ _).mono ?_; rintro e w' ⟨rfl, hb2⟩)
        all_goals go_wp2
        all_goals first
          | (have hv : (!decide (l[k] = m[k])) = true := by assumption
             go_ret
             refine ⟨?_, bthru hb.drew hb2⟩
             have : l ≠ m := fun e => by subst e; simp at hv
             simp [this])
          | (have hv : (!decide (l[k] = m[k])) = false := by assumption
             go_roundw
             case rel => exact ⟨k + 1, by omega, by go_num, take_eq_succ l m k hlt hltm hall.out (by simpa using hv), bthru hb.drew hb2⟩
             case measure => simp [intOf]; omega)
      · go_wp2
        go_ret
        have : k = l.length := by omega
        subst this
        refine ⟨?_, hb⟩
        have e := hall.out
        rw [List.take_length, hlen'.out, List.take_length] at e
        simp [e]
  · have hne : ((l.length : Int) != m.length) = true := by simp; omega
    go_enter Try.func34, Try.ntmps34
    go_wp2
    go_ret
    refine ⟨?_, Below.refl _ _⟩
    have : l ≠ m := fun e => hlen (by rw [e])
    simp [this]
end Go.Proofs.Ytnldiakjmhfodaa
