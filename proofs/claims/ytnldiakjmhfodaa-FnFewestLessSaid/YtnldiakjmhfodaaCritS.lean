/-
  CriticalOf, HighShare, Implicit, HoldsPlain: the reference's.
-/
import Derived.Test.YtnldiakjmhfodaaSumS
namespace Go.Proofs.Ytnldiakjmhfodaa
open Go.RowKit

def critT (t : Tk) : Tk := { t with low := t.high }
def critL (l : List Tk) : List Tk := (l.filter (·.crit)).map critT
theorem critL_snoc (l : List Tk) (t : Tk) : critL (l ++ [t]) = critL l ++ (if t.crit then [critT t] else []) := by
  simp only [critL, List.filter_append, List.map_append]
  cases h : t.crit <;> simp [h]
theorem critL_len (l : List Tk) : (critL l).length ≤ l.length := by
  rw [critL, List.length_map]
  exact List.length_filter_le _ _
theorem critL_vld {l : List Tk} (h : setVld l = true) : setVld (critL l) = true := by
  obtain ⟨h1, h2⟩ := setVld_all h
  have := critL_len l
  simp only [setVld, Bool.and_eq_true, decide_eq_true_eq, List.all_eq_true]
  refine ⟨by omega, fun t ht => ?_⟩
  simp only [critL, List.mem_map, List.mem_filter] at ht
  obtain ⟨s, ⟨hs, hc⟩, rfl⟩ := ht
  have hb := vld_nums (h2 s hs)
  simp only [vld, critT, hc, Bool.true_or, Bool.and_true, decide_eq_true_eq]
  omega
theorem shares_critL (l : List Tk) : shares true false (critL l) = shares true true l := by
  induction l with
  | nil => rfl
  | cons t l ih =>
    cases h : t.crit with
    | false =>
      have e : critL (t :: l) = critL l := by simp [critL, h]
      rw [e, ih]
      simp [shares, h, Rat.zero_add]
    | true =>
      have e : critL (t :: l) = critT t :: critL l := by simp [critL, h]
      rw [e]
      have h2 : (critT t).crit = true := h
      have h3 : shr false (critT t) = shr true t := rfl
      simp only [shares, h, h2, if_true, h3, ih]

set_option maxHeartbeats 1000000 in
theorem spec_CriticalOf_yes (A : Option Addr) (l : List Tk) (c : Nat) (w : World) (h : TS w A l) (hS : setVld l = true) :
    Calls Try.prog 142 #[.slice A l.length c] w (RetT w (critL l)) := by
  have hl5 := (setVld_all hS).1
  have hm : l.length ≤ maxLen := by unfold maxLen; omega
  have HS := Lib.hid hS
  clear hS
  go_enter Try.func142, Try.ntmps142
  go_wp2_with fail
  go_loopw [3, 4] (fun v i wr => ∃ (k n : Nat) (A' : Option Addr) (c' : Nat), i = .int .i64 (k : Int) ∧ v = .slice A' n c' ∧ k ≤ l.length ∧ Hid ((critL (l.take k)).length = n) ∧ n ≤ 5 ∧ OT w.heap.size wr A' c' (critL (l.take k)) ∧ Below w.heap.size w wr) (fun _ i _ => l.length - (intOf i).toNat)
  case atStart => exact ⟨0, 0, _, 0, rfl, rfl, by omega, rfl, by omega, OT_blank w _ (Nat.le_refl _), bal (Below.refl _ _) _⟩
  case round =>
    obtain ⟨k, n, A', c', rfl, rfl, hk, hn, hn5, hO, hb⟩ := hrel
    by_cases hlt : k < l.length
    · have hsn : Hid (critL (l.take (k + 1)) = critL (l.take k) ++ (if l[k].crit then [critT l[k]] else [])) := by rw [Hid, List.take_succ_eq_append_getElem hlt, critL_snoc]
      have hn6 : (critL (l.take (k + 1))).length ≤ 5 := by
        have := critL_len (l.take (k + 1))
        simp at this
        omega
      go_wp2_with fail
      refine (spec_SetValid A l c _ (h.keep hb) hm).mono ?_
      rw [HS.out]
      rintro e w1 ⟨rfl, b1⟩
      have B1 := bthru hb b1
      have O1 := OT_keep hO b1
      obtain ⟨b, off, rfl, hbl, hc⟩ := h.keep B1 (by omega)
      obtain ⟨c0, c1, c2, c3, c4⟩ := task_cells hc k hlt
      clear hc
      cases hcr : l[k].crit with
      | false =>
        rw [hcr] at c4
        have Hcr := Lib.hid hcr
        clear hcr
        go_wp2_with fail
        go_roundw
        case rel => exact ⟨k + 1, n, A', c', by go_num, rfl, by omega, by rw [Hid, hsn.out, Hcr.out]; simpa using hn.out, hn5, by rw [hsn.out, Hcr.out]; simpa using OT_alloc O1 _, bal B1 _⟩
        case measure => simp [intOf]; omega
      | true =>
        rw [hcr] at c4
        have hsn2 : Hid (critL (l.take (k + 1)) = critL (l.take k) ++ [critT l[k]]) := by rw [Hid, hsn.out, hcr]; rfl
        have hcells : Hid ((critT l[k]).cells = [.int .i64 l[k].high, .int .i64 l[k].high, .int .i64 l[k].due, .int .i64 l[k].every, .bool true]) := by simp [Hid, Tk.cells, critT, hcr]
        have hn7 : n + 1 ≤ 5 := by
          rw [hsn2.out, List.length_append, hn.out] at hn6
          simpa using hn6
        clear hcr
        go_wp2_with (at_builtin; refine wpList_app_task' _ rfl _ _ rfl w.heap.size A' (critL (l.take k)) n c' hn.out rfl (OT_alloc (OT_alloc O1 _) _) (w1.heap.size + 1) 1 (critT l[k]) _ 30 rfl (by have := heap_alloc_new (w1.alloc (.cells #[.int .i64 l[k].high, .int .i64 l[k].high, .int .i64 l[k].due, .int .i64 l[k].every, .bool true] 30)) (.cells #[.int .i64 l[k].high, .int .i64 l[k].high, .int .i64 l[k].due, .int .i64 l[k].every, .bool true] 30 (0, 0)); rw [World.size_alloc] at this; exact this) (by rw [hcells.out]) (by rw [hn.out]; omega) (by have := B1.size; simp; omega) ?_; intro A3 c3' w3 hO3 hg3 hb3)
        go_roundw
        case rel => exact ⟨k + 1, n + 1, A3, c3', by go_num, rfl, by omega, by rw [Hid, hsn2.out, List.length_append, hn.out]; rfl, hn7, by rw [hsn2.out]; exact hO3, (bal (bal B1 _) _).trans hb3⟩
        case measure => simp [intOf]; omega
    · obtain rfl : k = l.length := by omega
      go_wp2_with fail
      have e : l.take l.length = l := List.take_length
      rw [e] at hO hn
      have Hn := hn.out
      subst Hn
      go_ret
      exact ⟨A', c', rfl, hO, hb⟩
end Go.Proofs.Ytnldiakjmhfodaa
