/-
  dmInts: two lists of numbers are equal.
  dmTasks, dmInts: two lists are equal.
-/
import Derived.Test.YtmlbjcjihmfcjaaGreatDoorLawKit
namespace Go.Proofs.YtmlbjcjihmfcjaaGreatDoor
open Go.RowKit

theorem laws_dmInts (A B : Option Addr) (l m : List Int) (c d : Nat) (w : World) (h : IS w A l) (g : IS w B m) (hl : l.length ≤ 9223372036854775807) :
    Calls Tryz.prog 57 #[.slice A l.length c, .slice B m.length d] w fun e w' => e = .returned (.bool (decide (l = m))) ∧ Below w.heap.size w w' := by
  by_cases hlen : l.length = m.length
  · have hne : ((l.length : Int) != m.length) = false := by simp [hlen]
    go_enter Tryz.func57, Tryz.ntmps57
    have hlen' := Lib.hid hlen
    clear hlen
    go_wp2
    go_loopw [5] (fun i wr => ∃ k : Nat, k ≤ l.length ∧ i = .int .i64 k ∧ Hid (l.take k = m.take k) ∧ Below w.heap.size w wr) (fun i _ => l.length - (intOf i).toNat)
    case atStart => exact ⟨0, Nat.zero_le _, rfl, by simp [Hid], Below.refl _ _⟩
    case round =>
      obtain ⟨k, hk, rfl, hall, hb⟩ := hrel
      by_cases hlt : k < l.length
      · have hltm : k < m.length := by rw [← hlen'.out]; exact hlt
        obtain ⟨b, off, rfl, hbl, hc⟩ := h.keep hb (by omega)
        obtain ⟨b', off', rfl, hbl', hc'⟩ := g.keep hb (by omega)
        have c0 := hc k _ (List.getElem?_eq_getElem hlt)
        have d0 := hc' k _ (List.getElem?_eq_getElem hltm)
        clear hc hc'
        go_wp2
        go_quiet (fail)
        all_goals go_wp2
        all_goals first
          | (have hv : (l[k] != m[k]) = true := by assumption
             go_ret
             refine ⟨?_, bdr hb _⟩
             have : l ≠ m := fun e => by subst e; simp at hv
             simp [this])
          | (have hv : (l[k] != m[k]) = false := by assumption
             go_roundw
             case rel => exact ⟨k + 1, by omega, by go_num, take_eq_succ l m k hlt hltm hall.out (by simpa using hv), bdr hb _⟩
             case measure => simp [intOf]; omega)
      · go_wp2
        go_ret
        have : k = l.length := by omega
        subst this
        refine ⟨?_, hb⟩
        have e := hall.out
        rw [List.take_length, hlen'.out, List.take_length] at e
        simp [e]
  · have hne : ((l.length : Int) != m.length) = true := by simp; omega
    go_enter Tryz.func57, Tryz.ntmps57
    go_wp2
    go_ret
    refine ⟨?_, Below.refl _ _⟩
    have : l ≠ m := fun e => hlen (by rw [e])
    simp [this]

theorem run_neq_task (s t : Tk) (w : World) : (binOp .neq 73 s.val t.val).run Tryz.prog w = .ok (.bool (!decide (s = t))) w := by
  obtain ⟨a0, a1, a2, a3, a4⟩ := s
  obtain ⟨b0, b1, b2, b3, b4⟩ := t
  by_cases h0 : a0 = b0
  · by_cases h1 : a1 = b1
    · by_cases h2 : a2 = b2
      · by_cases h3 : a3 = b3
        · by_cases h4 : a4 = b4
          all_goals (simp [go_sem, h0, h1, h2, h3, h4])
        · simp [go_sem, h0, h1, h2, h3]
      · simp [go_sem, h0, h1, h2]
    · simp [go_sem, h0, h1]
  · simp [go_sem, h0]

theorem laws_dmTasks (A B : Option Addr) (l m : List Tk) (c d : Nat) (w : World) (h : TS w A l) (g : TS w B m) (hl : l.length ≤ 2000000) :
    Calls Tryz.prog 34 #[.slice A l.length c, .slice B m.length d] w fun e w' => e = .returned (.bool (decide (l = m))) ∧ Below w.heap.size w w' := by
  by_cases hlen : l.length = m.length
  · have hne : ((l.length : Int) != m.length) = false := by simp [hlen]
    go_enter Tryz.func34, Tryz.ntmps34
    have hlen' := Lib.hid hlen
    clear hlen
    go_wp2
    go_loopw [5] (fun i wr => ∃ k : Nat, k ≤ l.length ∧ i = .int .i64 k ∧ Hid (l.take k = m.take k) ∧ Below w.heap.size w wr) (fun i _ => l.length - (intOf i).toNat)
    case atStart => exact ⟨0, Nat.zero_le _, rfl, by simp [Hid], Below.refl _ _⟩
    case round =>
      obtain ⟨k, hk, rfl, hall, hb⟩ := hrel
      by_cases hlt : k < l.length
      · have hltm : k < m.length := by rw [← hlen'.out]; exact hlt
        obtain ⟨b, off, rfl, hbl, hc⟩ := h.keep hb (by omega)
        obtain ⟨b', off', rfl, hbl', hc'⟩ := g.keep hb (by omega)
        obtain ⟨c0, c1, c2, c3, c4⟩ := task_cells hc k hlt
        obtain ⟨d0, d1, d2, d3, d4⟩ := task_cells hc' k hltm
        clear hc hc'
        have hq := fun (w : World) => run_neq_task l[k] m[k] w
        go_wp2
        go_quiet (fail)
        go_wp2
        · have hv : (!decide (l[k] = m[k])) = true := by assumption
          go_ret
          refine ⟨?_, bdr hb _⟩
          have : l ≠ m := fun e => by subst e; simp at hv
          simp [this]
        · have hv : (!decide (l[k] = m[k])) = false := by assumption
          go_roundw
          case rel => exact ⟨k + 1, by omega, by go_num, take_eq_succ l m k hlt hltm hall.out (by simpa using hv), bdr hb _⟩
          case measure => simp [intOf]; omega
      · go_wp2
        go_ret
        have : k = l.length := by omega
        subst this
        refine ⟨?_, hb⟩
        have e := hall.out
        rw [List.take_length, hlen'.out, List.take_length] at e
        simp [e]
  · have hne : ((l.length : Int) != m.length) = true := by simp; omega
    go_enter Tryz.func34, Tryz.ntmps34
    go_wp2
    go_ret
    refine ⟨?_, Below.refl _ _⟩
    have : l ≠ m := fun e => hlen (by rw [e])
    simp [this]
end Go.Proofs.YtmlbjcjihmfcjaaGreatDoor
