/-
  The reference's SetValid: what it returns.
  The walks of ResponseLow, the reference's.
  The walks of ResponseLow, the program's: the closure, rises.
  The walks of ResponseSwitch.
  The walks of ResponseSwitch, the program's.
  slices.Clone and slices.Delete (of one element): the walks of the library's own text, at tasks and at integers.
-/
import Derived.Test.YtmkjmancmiphfaaGreatDoorRa01
import Derived.Deep.RegionHeld3
import Derived.Deep.RegionLaw
import Derived.Lib.SliceRun
namespace Go.Proofs.YtmkjmancmiphfaaGreatDoor
section
open Go.RowKit

theorem spec_SetValid (A : Option Addr) (l : List Tk) (c : Nat) (w : World) (h : TS w A l) (hm : l.length ≤ 9223372036854775807) :
    Calls Tryz.prog 55 #[.slice A l.length c] w fun e w' => e = .returned (.bool (setVld l)) ∧ Below w.heap.size w w' := by
  go_enter Tryz.func55, Tryz.ntmps55
  go_wp2
  go_loopw [3] (fun i wr => ∃ k : Nat, k ≤ l.length ∧ k ≤ 6 ∧ i = .int .i64 k ∧ Hid ((l.take k).all vld = true) ∧ Below w.heap.size w wr) (fun i _ => l.length - (intOf i).toNat)
  case atStart => exact ⟨0, Nat.zero_le _, by omega, rfl, by simp [Hid], Below.refl _ _⟩
  case round =>
    obtain ⟨k, hk, hk6, rfl, hall, hb⟩ := hrel
    by_cases hlt : k < l.length ∧ k ≤ 5
    · obtain ⟨hlt, h5⟩ := hlt
      obtain ⟨b, off, rfl, hbl, hc⟩ := h.keep hb (by omega)
      obtain ⟨c0, c1, c2, c3, c4⟩ := task_cells hc k hlt
      clear hc
      go_wp2_with (go_at_call 99; refine (spec_TaskValid _ _).mono ?_; rintro e w' ⟨rfl, hb2⟩)
      · have hv : (!vld l[k]) = true := by assumption
        go_ret
        refine ⟨?_, bthru hb hb2⟩
        have : l.all vld = false := List.all_eq_false.2 ⟨l[k], List.getElem_mem _, by simpa using hv⟩
        simp [setVld, this]
      · have hv : (!vld l[k]) = false := by assumption
        go_roundw
        case rel => exact ⟨k + 1, by omega, by omega, by go_num, by rw [Hid, all_take_succ l k hlt, hall.out]; simpa using hv, bthru hb hb2⟩
        case measure => simp [intOf]; omega
    · by_cases hlen : k < l.length
      · have h5 : 5 < k := by omega
        have h5' : 5 < l.length := by omega
        go_wp2
        go_ret
        refine ⟨?_, hb⟩
        have e : decide (l.length ≤ 5) = false := by simp; omega
        simp [setVld, e]
        omega
      · have h5' : l.length ≤ 6 := by omega
        go_wp2
        go_ret
        refine ⟨?_, hb⟩
        have := hall.out
        rw [List.take_of_length_le (by omega)] at this
        simp [setVld, this]
        omega
end

section
open Go.RowKit

theorem cells_tk {w : World} {b off : Nat} {l : List Tk} (hc : ∀ j u, (flat l)[j]? = some u → w.cell? ⟨b, off + j, none⟩ = some u) (k : Nat) (hk : k < l.length) :
    w.cell? ⟨b, off + k * 5, none⟩ = some (.int .i64 (tkAt l k).low) ∧ w.cell? ⟨b, off + k * 5 + 1, none⟩ = some (.int .i64 (tkAt l k).high) ∧ w.cell? ⟨b, off + k * 5 + 2, none⟩ = some (.int .i64 (tkAt l k).due) ∧
    w.cell? ⟨b, off + k * 5 + 3, none⟩ = some (.int .i64 (tkAt l k).every) ∧ w.cell? ⟨b, off + k * 5 + 4, none⟩ = some (.bool (tkAt l k).crit) := by
  rw [tkAt_eq l k hk]
  exact task_cells hc k hk

theorem plc_yes {l : List Tk} {x : Int} (h : plc l x = true) : setVld l = true ∧ l.length ≤ 5 ∧ x.toNat < l.length ∧ x = (x.toNat : Int) := by
  simp only [plc, Bool.and_eq_true, decide_eq_true_eq] at h
  exact ⟨h.1.1, (setVld_all h.1.1).1, by omega, by omega⟩

theorem impl_placed (A : Option Addr) (l : List Tk) (c : Nat) (x : Int) (w : World) (h : TS w A l) :
    Calls Tryz.prog 100 #[.slice A l.length c, .int .i64 x] w fun e w' => e = .returned (.bool (plc l x)) ∧ Below w.heap.size w w' := by
  cases hS : setVld l with
  | false =>
    go_enter Tryz.func100, Tryz.ntmps100
    go_wp2_with fail
    refine (impl_SetValid A l c _ h).mono ?_
    rw [hS]
    rintro e w1 ⟨rfl, b1⟩
    go_wp2_with fail
    go_ret
    exact ⟨by simp [plc, hS], b1⟩
  | true =>
    by_cases h0 : 0 ≤ x
    · have e0 : decide (0 ≤ x) = true := decide_eq_true h0
      go_enter Tryz.func100, Tryz.ntmps100
      go_wp2_with fail
      refine (impl_SetValid A l c _ h).mono ?_
      rw [hS]
      rintro e w1 ⟨rfl, b1⟩
      go_wp2_with fail
      go_ret
      exact ⟨by simp [plc, hS, h0], b1⟩
    · have e0 : decide (0 ≤ x) = false := decide_eq_false h0
      have ef : plc l x = false := by simp [plc, h0]
      have Ef := Lib.hid ef
      clear ef
      go_enter Tryz.func100, Tryz.ntmps100
      go_wp2_with fail
      refine (impl_SetValid A l c _ h).mono ?_
      rw [hS]
      rintro e w1 ⟨rfl, b1⟩
      go_wp2_with fail
      go_ret
      exact ⟨by rw [Ef.out]; simp, b1⟩
end

section
open Go.RowKit

/-- append of a whole slice to a row of the call's own. -/
theorem wpList_app_tasks (w : World) {ops : Array Oper} {rest : List Oper} {o : Oper} {a : Act} {Q : Exit → Act → World → Prop} (hgd : o.guard = none) (s x : Operand)
    (ho : o.op = .call { callee := .builtin .append, args := #[s, x], argTypes := #[23, 23] })
    (base : Nat) (A : Option Addr) (l : List Tk) (c : Nat) (hs : a.eval s = .slice A l.length c) (hown : OT base w A c l)
    (ad : Addr) (c1 : Nat) (m : List Tk) (hx : a.eval x = .slice (some ad) m.length c1) (hm : TS w (some ad) m)
    (hl : l.length ≤ 2000000) (hlm : m.length ≤ 2000000) (hbase : base ≤ w.heap.size)
    (h : ∀ A' c' w', OT base w' A' c' (l ++ m) → w.grownBy w' (Value.slice A l.length c).ownBlock → Below base w w' → wpList Tryz.prog ops Q rest (a.put o.dst (.slice A' (l.length + m.length) c')) w') : wpList Tryz.prog ops Q (o :: rest) a w := by
  obtain ⟨i0, hi, hz0, hz1, hz2⟩ := info_parts infoTaskB
  refine wpList_append_own w hgd s x 23 ho base 58 i0 _ 5 40 Tryz.underlying23 hi hz0 hz1 hz2 rfl (by decide) (.slice A l.length c) l.length (flat l) hs hown
    ad m.length c1 (flat m) hx (by rw [flat_length, Nat.mul_comm]) ?_ ?_ (by unfold maxLen; omega) (by omega) hbase ?_
  · intro j u hj
    have hpos : 0 < m.length := by
      have := (List.getElem?_eq_some_iff.1 hj).1
      rw [flat_length] at this
      omega
    obtain ⟨b, off, hA, _, hc⟩ := hm hpos
    cases hA
    rw [Go.WideShapes.add_plain]
    exact hc j u hj
  · intro u hu
    simp only [flat, List.mem_flatMap, Tk.cells, List.mem_cons, List.not_mem_nil, or_false] at hu
    obtain ⟨t, _, rfl | rfl | rfl | rfl | rfl⟩ := hu <;> rfl
  · intro v' w' hown' hg _
    obtain ⟨A', c', rfl⟩ := own_form hown'
    refine h A' c' w' ?_ hg (own_below hown hg hbase)
    unfold OT
    rw [List.length_append, flat_append]
    exact hown'
theorem flat_drop (l : List Tk) (k : Nat) (hk : k ≤ l.length) : (flat l).drop (k * 5) = flat (l.drop k) := by
  have e : flat l = flat (l.take k) ++ flat (l.drop k) := by rw [← flat_append, List.take_append_drop]
  rw [e, List.drop_left' (by rw [flat_length, List.length_take]; omega)]
end
end Go.Proofs.YtmkjmancmiphfaaGreatDoor
