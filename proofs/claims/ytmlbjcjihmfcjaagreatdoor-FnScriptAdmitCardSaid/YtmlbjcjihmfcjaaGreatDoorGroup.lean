/-
  group, GroupOf: the tasks of a processor.
-/
import Derived.Test.YtmlbjcjihmfcjaaGreatDoorPackValid
import Derived.Test.YtmlbjcjihmfcjaaGreatDoorAppend
namespace Go.Proofs.YtmlbjcjihmfcjaaGreatDoor
open Go.RowKit

def grp (l : List Tk) (ws : List Int) (p : Int) : List Tk := ((l.zip ws).filter (fun x => decide (x.2 = p))).map Prod.fst
theorem grp_nil (p : Int) : grp [] [] p = [] := rfl
theorem grp_take_hit {l : List Tk} {ws : List Int} {p : Int} {k : Nat} (hk : k < l.length) (hw : k < ws.length) (h : ws[k] = p) : grp (l.take (k + 1)) (ws.take (k + 1)) p = grp (l.take k) (ws.take k) p ++ [l[k]] := by
  unfold grp
  rw [List.take_succ_eq_append_getElem hk, List.take_succ_eq_append_getElem hw, List.zip_append (by simp; omega), List.filter_append, List.map_append]
  simp [h]
theorem grp_take_miss {l : List Tk} {ws : List Int} {p : Int} {k : Nat} (hk : k < l.length) (hw : k < ws.length) (h : ws[k] ≠ p) : grp (l.take (k + 1)) (ws.take (k + 1)) p = grp (l.take k) (ws.take k) p := by
  unfold grp
  rw [List.take_succ_eq_append_getElem hk, List.take_succ_eq_append_getElem hw, List.zip_append (by simp; omega), List.filter_append, List.map_append]
  simp [h]
theorem grp_len (l : List Tk) (ws : List Int) (p : Int) : (grp l ws p).length ≤ l.length := by
  unfold grp
  rw [List.length_map]
  exact Nat.le_trans (List.length_filter_le _ _) (by rw [List.length_zip]; exact Nat.min_le_left _ _)

theorem impl_group (A B : Option Addr) (l : List Tk) (ws : List Int) (c d : Nat) (p : Int) (w : World) (h : TS w A l) (g : IS w B ws) (hlen : ws.length = l.length) (hl : l.length ≤ 100000) :
    Calls Tryz.prog 155 #[.slice A l.length c, .slice B ws.length d, .int .i64 p] w (RetT w (grp l ws p)) := by
  have hws : ws.length ≤ 100000 := by omega
  have Hlen := Lib.hid hlen
  clear hlen
  go_enter Tryz.func155, Tryz.ntmps155
  go_wp2_with fail
  go_loopw [7, 13] (fun v i wr => ∃ (k : Nat) (A' : Option Addr) (c' : Nat) (l' : List Tk), i = .int .i64 (k : Int) ∧ v = .slice A' l'.length c' ∧ k ≤ ws.length ∧ Hid (l' = grp (l.take k) (ws.take k) p) ∧ OT w.heap.size wr A' c' l' ∧ Below w.heap.size w wr) (fun _ i _ => ws.length - (intOf i).toNat)
  case atStart => exact ⟨0, _, 0, [], rfl, rfl, by omega, by simp [Hid, grp], OT_blank w _ (Nat.le_refl _), bal (Below.refl _ _) _⟩
  case round =>
    obtain ⟨k, A', c', l', rfl, rfl, hk, hg, hO, hb⟩ := hrel
    have hll : l'.length ≤ 100000 := by
      have := grp_len (l.take k) (ws.take k) p
      rw [← hg.out] at this
      have := List.length_take_le k l
      simp at *
      omega
    by_cases hlt : k < ws.length
    · have hltl : k < l.length := by rw [← Hlen.out]; exact hlt
      obtain ⟨b, off, rfl, hbl, hc⟩ := h.keep hb (by omega)
      obtain ⟨b', off', rfl, hbl', hc'⟩ := g.keep hb (by omega)
      obtain ⟨c0, c1, c2, c3, c4⟩ := task_cells hc k hltl
      have d0 := hc' k _ (List.getElem?_eq_getElem hlt)
      clear hc hc'
      by_cases hp : ws[k] = p
      · have hp' : (ws[k] == p) = true := beq_iff_eq.2 hp
        have Hp := Lib.hid hp
        clear hp
        go_wp2_with (at_builtin; refine wpList_app_task _ rfl _ _ rfl w.heap.size A' l' c' rfl (OT_alloc hO _) wr.heap.size 1 l[k] _ 73 rfl (heap_alloc_new wr _) rfl (by omega) (by have := hb.size; simp; omega) ?_; intro A3 c3' w3 hO3 hg3 hb3)
        go_roundw
        case rel => exact ⟨k + 1, A3, c3', l' ++ [l[k]], by go_num, by simp, by omega, by rw [Hid, grp_take_hit hltl hlt Hp.out, hg.out], hO3, (bal hb _).trans hb3⟩
        case measure => simp [intOf]; omega
      · have hp' : (ws[k] == p) = false := beq_eq_false_iff_ne.2 hp
        go_wp2_with fail
        go_roundw
        case rel => exact ⟨k + 1, A', c', l', by go_num, rfl, by omega, by rw [Hid, grp_take_miss hltl hlt hp, hg.out], hO, hb⟩
        case measure => simp [intOf]; omega
    · go_wp2_with fail
      go_ret
      have e := hg.out
      rw [List.take_of_length_le (by rw [← Hlen.out]; omega), List.take_of_length_le (by omega)] at e
      subst e
      exact ⟨A', c', rfl, hO, hb⟩

theorem spec_l9Group (A B : Option Addr) (l : List Tk) (ws : List Int) (c d : Nat) (p : Int) (w : World) (h : TS w A l) (g : IS w B ws) (hlen : ws.length = l.length) (hl : l.length ≤ 100000) :
    Calls Tryz.prog 158 #[.slice A l.length c, .slice B ws.length d, .int .i64 p] w (RetT w (grp l ws p)) := by
  have hws : ws.length ≤ 100000 := by omega
  have Hlen := Lib.hid hlen
  clear hlen
  go_enter Tryz.func158, Tryz.ntmps158
  go_wp2_with fail
  go_loopw [7, 8] (fun v i wr => ∃ (k : Nat) (A' : Option Addr) (c' : Nat) (l' : List Tk), i = .int .i64 (k : Int) ∧ v = .slice A' l'.length c' ∧ k ≤ ws.length ∧ Hid (l' = grp (l.take k) (ws.take k) p) ∧ OT w.heap.size wr A' c' l' ∧ Below w.heap.size w wr) (fun _ i _ => ws.length - (intOf i).toNat)
  case atStart => exact ⟨0, _, 0, [], rfl, rfl, by omega, by simp [Hid, grp], OT_blank w _ (Nat.le_refl _), bal (Below.refl _ _) _⟩
  case round =>
    obtain ⟨k, A', c', l', rfl, rfl, hk, hg, hO, hb⟩ := hrel
    have hll : l'.length ≤ 100000 := by
      have := grp_len (l.take k) (ws.take k) p
      rw [← hg.out] at this
      have := List.length_take_le k l
      simp at *
      omega
    by_cases hlt : k < ws.length
    · have hltl : k < l.length := by rw [← Hlen.out]; exact hlt
      obtain ⟨b, off, rfl, hbl, hc⟩ := h.keep hb (by omega)
      obtain ⟨b', off', rfl, hbl', hc'⟩ := g.keep hb (by omega)
      obtain ⟨c0, c1, c2, c3, c4⟩ := task_cells hc k hltl
      have d0 := hc' k _ (List.getElem?_eq_getElem hlt)
      clear hc hc'
      by_cases hp : ws[k] = p
      · have hp' : (ws[k] == p) = true := beq_iff_eq.2 hp
        have Hp := Lib.hid hp
        clear hp
        go_wp2_with (at_builtin; refine wpList_app_task _ rfl _ _ rfl w.heap.size A' l' c' rfl (OT_alloc hO _) wr.heap.size 1 l[k] _ 73 rfl (heap_alloc_new wr _) rfl (by omega) (by have := hb.size; simp; omega) ?_; intro A3 c3' w3 hO3 hg3 hb3)
        go_roundw
        case rel => exact ⟨k + 1, A3, c3', l' ++ [l[k]], by go_num, by simp, by omega, by rw [Hid, grp_take_hit hltl hlt Hp.out, hg.out], hO3, (bal hb _).trans hb3⟩
        case measure => simp [intOf]; omega
      · have hp' : (ws[k] == p) = false := beq_eq_false_iff_ne.2 hp
        go_wp2_with fail
        go_roundw
        case rel => exact ⟨k + 1, A', c', l', by go_num, rfl, by omega, by rw [Hid, grp_take_miss hltl hlt hp, hg.out], hO, hb⟩
        case measure => simp [intOf]; omega
    · go_wp2_with fail
      go_ret
      have e := hg.out
      rw [List.take_of_length_le (by rw [← Hlen.out]; omega), List.take_of_length_le (by omega)] at e
      subst e
      exact ⟨A', c', rfl, hO, hb⟩

def gOk (l : List Tk) (ws : List Int) (p : Int) : Bool := packVld l ws 3 && decide (0 ≤ p) && decide (p ≤ 2)
def grpOf (l : List Tk) (ws : List Int) (p : Int) : List Tk := if gOk l ws p then grp l ws p else []

theorem grpOf_len (l : List Tk) (ws : List Int) (p : Int) : (grpOf l ws p).length ≤ l.length := by
  unfold grpOf
  split
  · exact grp_len l ws p
  · simp
end Go.Proofs.YtmlbjcjihmfcjaaGreatDoor
