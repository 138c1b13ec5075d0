/-
  The helpers of the exact laws: integers; copies.
-/
import Derived.Test.YtnldiakjmhfodaaLawKit
namespace Go.Proofs.Ytnldiakjmhfodaa
open Go.RowKit

theorem Try.infoInt : (Try.prog.info? 3).map (fun i => (i.zero, i.size, i.bytes)) = some (some (.int .i64 0), 1, 8) := by kernel_rfl
theorem Try.infoTask : (Try.prog.info? 30).map (fun i => (i.zero, i.size, i.bytes)) = some (some (.agg #[.int .i64 0, .int .i64 0, .int .i64 0, .int .i64 0, .bool false]), 5, 40) := by kernel_rfl

theorem laws_eqIntS (A B : Option Addr) (l m : List Int) (c d : Nat) (w : World) (h : IS w A l) (g : IS w B m) (hl : l.length ≤ 9223372036854775807) :
    Calls Try.prog 39 #[.slice A l.length c, .slice B m.length d] w fun e w' => e = .returned (.bool (decide (l = m))) ∧ Below w.heap.size w w' := by
  by_cases hlen : l.length = m.length
  · have hne : ((l.length : Int) != m.length) = false := by simp [hlen]
    go_enter Try.func39, Try.ntmps39
    have hlen' := Lib.hid hlen
    clear hlen
    go_wp2
    go_loopw [5] (fun i wr => ∃ k : Nat, k ≤ l.length ∧ i = .int .i64 k ∧ Hid (l.take k = m.take k) ∧ Below w.heap.size w wr) (fun i _ => l.length - (intOf i).toNat)
    case atStart => exact ⟨0, Nat.zero_le _, rfl, by simp [Hid], Below.refl _ _⟩
    case round =>
      obtain ⟨k, hk, rfl, hall, hb⟩ := hrel
      by_cases hlt : k < l.length
      · have hltm : k < m.length := by rw [← hlen'.out]; exact hlt
        obtain ⟨b, off, rfl, hbl, hc⟩ := h.keep hb (by omega)
        obtain ⟨b', off', rfl, hbl', hc'⟩ := g.keep hb (by omega)
        have c0 := hc k _ (List.getElem?_eq_getElem hlt)
        have d0 := hc' k _ (List.getElem?_eq_getElem hltm)
        clear hc hc'
        go_wp2
        go_quiet (fail)
        all_goals go_wp2
        all_goals first
          | (have hv : (l[k] != m[k]) = true := by assumption
             go_ret
             refine ⟨?_, bdr hb _⟩
             have : l ≠ m := fun e => by subst e; simp at hv
             simp [this])
          | (have hv : (l[k] != m[k]) = false := by assumption
             go_roundw
             case rel => exact ⟨k + 1, by omega, by go_num, take_eq_succ l m k hlt hltm hall.out (by simpa using hv), bdr hb _⟩
             case measure => simp [intOf]; omega)
      · go_wp2
        go_ret
        have : k = l.length := by omega
        subst this
        refine ⟨?_, hb⟩
        have e := hall.out
        rw [List.take_length, hlen'.out, List.take_length] at e
        simp [e]
  · have hne : ((l.length : Int) != m.length) = true := by simp; omega
    go_enter Try.func39, Try.ntmps39
    go_wp2
    go_ret
    refine ⟨?_, Below.refl _ _⟩
    have : l ≠ m := fun e => hlen (by rw [e])
    simp [this]

theorem laws_toTask (t : Tk) (w : World) :
    Calls Try.prog 32 #[t.val] w fun e w' => e = .returned t.val ∧ Below w.heap.size w w' := by
  obtain ⟨low, high, due, every, crit⟩ := t
  go_enter Try.func32, Try.ntmps32
  go_wp2
  refine bodyPost_ret (v := .agg #[.int .i64 low, .int .i64 high, .int .i64 due, .int .i64 every, .bool crit]) (by simp [results, Try.results32, go_sem]) rfl ⟨rfl, ?_⟩
  exact bal (bal (bal (Below.refl _ _) _) _) _

theorem laws_toTaskS (A : Option Addr) (l : List Tk) (c : Nat) (w : World) (h : TS w A l) (hl : l.length ≤ 1048576) :
    Calls Try.prog 31 #[.slice A l.length c] w (RetT w l) := by
  obtain ⟨i0, hi, hz0, hz1, hz2⟩ := info_parts Try.infoTask
  obtain ⟨row, hrow, hmk⟩ := run_make_n (P := Try.prog) 26 30 i0 _ 5 Try.underlying26 hi hz0 hz1 (by omega) l.length (by omega)
  have hown := own_new (w := w) (t := 30) hrow (by omega)
  have hrow' := Lib.hid hrow
  clear hrow hi hz0 hz1 hz2
  go_enter Try.func31, Try.ntmps31
  go_wp2
  go_loopw [4] (fun i wr => ∃ k : Nat, k ≤ l.length ∧ i = .int .i64 k ∧ Below w.heap.size w wr ∧ ∃ xs, wr.ownsRow w.heap.size 30 5 (.slice (some ⟨w.heap.size, 0, none⟩) l.length l.length) l.length xs ∧ Hid (xs.take (k * 5) = (flat l).take (k * 5))) (fun i _ => l.length - (intOf i).toNat)
  case atStart => exact ⟨0, Nat.zero_le _, rfl, bal (Below.refl _ _) _, _, hown, by simp [Hid]⟩
  case round =>
    obtain ⟨k, hk, rfl, hb, xs, hox, hxs⟩ := hrel
    by_cases hlt : k < l.length
    · obtain ⟨b, off, rfl, hbl, hc⟩ := h.keep hb (by omega)
      obtain ⟨c0, c1, c2, c3, c4⟩ := task_cells hc k hlt
      clear hc
      go_wp2_with (go_at_call 32; refine (laws_toTask l[k] _).mono ?_; rintro e w2 ⟨rfl, hb2⟩; have hox2 := own_keep hox hb2; obtain ⟨⟨v0, v1, v2, v3, v4, e0, e1, e2, e3, e4⟩, ef⟩ := own_five hox2 k hlt)
      go_roundw
      case rel =>
        obtain ⟨ys, hys, hyt⟩ := own_store5 hox2 k hlt (.int .i64 l[k].low) (.int .i64 l[k].high) (.int .i64 l[k].due) (.int .i64 l[k].every) (.bool l[k].crit)
        exact ⟨k + 1, by omega, by go_num, bst (bst (bst (bst (bst (bthru hb hb2) (Nat.le_refl _) _) (Nat.le_refl _) _) (Nat.le_refl _) _) (Nat.le_refl _) _) (Nat.le_refl _) _, ys, hys, by rw [Hid, hyt, hxs.out, take_five l k hlt]; rfl⟩
      case measure => simp [intOf]; omega
    · go_wp2
      have e := hxs.out
      have hx1 := hox.1
      have hfl := flat_length l
      rw [List.take_of_length_le (by omega), List.take_of_length_le (by omega)] at e
      subst e
      go_ret
      exact ⟨_, _, rfl, hox, hb⟩
end Go.Proofs.Ytnldiakjmhfodaa
