/-
  PackValid: what it returns, in the program and in the reference.
-/
import Derived.Test.YtmlbjcjihmfcjaaGreatDoorSpecValid
namespace Go.Proofs.YtmlbjcjihmfcjaaGreatDoor
open Go.RowKit

def wok (p x : Int) : Bool := decide (0 ≤ x ∧ x < p)
def packVld (l : List Tk) (ws : List Int) (p : Int) : Bool := setVld l && decide (1 ≤ p) && decide (p ≤ 3) && decide (ws.length = l.length) && ws.all (wok p)

theorem wall_take_succ (p : Int) (l : List Int) (k : Nat) (hk : k < l.length) : (l.take (k + 1)).all (wok p) = ((l.take k).all (wok p) && wok p l[k]) := by
  rw [List.take_succ_eq_append_getElem hk, List.all_append]; simp

theorem setVld_len {l : List Tk} (h : setVld l = true) : l.length ≤ 5 := by
  simp [setVld] at h; exact h.1

theorem impl_PackValid (A B : Option Addr) (l : List Tk) (ws : List Int) (c d : Nat) (p : Int) (w : World) (h : TS w A l) (g : IS w B ws) :
    Calls Tryz.prog 160 #[.slice A l.length c, .slice B ws.length d, .int .i64 p] w fun e w' => e = .returned (.bool (packVld l ws p)) ∧ Below w.heap.size w w' := by
  by_cases hS : setVld l = true
  case neg =>
    have hS : setVld l = false := by simpa using hS
    go_enter Tryz.func160, Tryz.ntmps160
    go_wp2_with (go_at_call 36; refine (impl_SetValid _ l _ _ h).mono ?_; rintro e w2 ⟨rfl, hb2⟩)
    go_ret
    exact ⟨by simp [packVld, hS], hb2⟩
  have hl5 := setVld_len hS
  by_cases hall : 1 ≤ p ∧ p ≤ 3 ∧ ws.length = l.length
  case neg =>
    have hf : packVld l ws p = false := by simp only [packVld]; simp; omega
    have Hf := Lib.hid hf
    clear hf
    by_cases h1 : 1 ≤ p
    · by_cases h3 : p ≤ 3
      · have hne : ((ws.length : Int) != l.length) = true := by simp; omega
        go_enter Tryz.func160, Tryz.ntmps160
        go_wp2_with (go_at_call 36; refine (impl_SetValid _ l _ _ h).mono ?_; rintro e w2 ⟨rfl, hb2⟩)
        go_ret
        exact ⟨by rw [Hf.out]; rfl, hb2⟩
      · go_enter Tryz.func160, Tryz.ntmps160
        go_wp2_with (go_at_call 36; refine (impl_SetValid _ l _ _ h).mono ?_; rintro e w2 ⟨rfl, hb2⟩)
        go_ret
        exact ⟨by rw [Hf.out]; rfl, hb2⟩
    · go_enter Tryz.func160, Tryz.ntmps160
      go_wp2_with (go_at_call 36; refine (impl_SetValid _ l _ _ h).mono ?_; rintro e w2 ⟨rfl, hb2⟩)
      go_ret
      exact ⟨by rw [Hf.out]; rfl, hb2⟩
  obtain ⟨h1, h3, hlen⟩ := hall
  have hne : ((ws.length : Int) != l.length) = false := by simp [hlen]
  have hws : ws.length ≤ 5 := by omega
  have hp : packVld l ws p = ws.all (wok p) := by simp [packVld, hS, h1, h3, hlen]
  have Hp := Lib.hid hp
  clear hp hlen
  go_enter Tryz.func160, Tryz.ntmps160
  go_wp2_with (go_at_call 36; refine (impl_SetValid _ l _ _ h).mono ?_; rintro e w2 ⟨rfl, hb2⟩)
  go_loopw [29] (fun i wr => ∃ k : Nat, k ≤ ws.length ∧ i = .int .i64 k ∧ Hid ((ws.take k).all (wok p) = true) ∧ Below w.heap.size w wr) (fun i _ => ws.length - (intOf i).toNat)
  case atStart => exact ⟨0, Nat.zero_le _, rfl, by simp [Hid], hb2⟩
  case round =>
    obtain ⟨k, hk, rfl, hok, hb⟩ := hrel
    by_cases hlt : k < ws.length
    · obtain ⟨b, off, rfl, hbl, hc⟩ := g (by omega)
      have c0 := (hb.cell (p := ⟨b, off + k, none⟩) hbl).trans (hc k _ (List.getElem?_eq_getElem hlt))
      clear hc
      by_cases hx : 0 ≤ ws[k] ∧ ws[k] < p
      · obtain ⟨hx0, hx1⟩ := hx
        go_wp2
        go_roundw
        case rel => exact ⟨k + 1, by omega, by go_num, by rw [Hid, wall_take_succ p ws k hlt, hok.out]; simp [wok, hx0, hx1], hb⟩
        case measure => simp [intOf]; omega
      · have hbad : ws.all (wok p) = false := List.all_eq_false.2 ⟨ws[k], List.getElem_mem _, by simp only [wok]; simpa using hx⟩
        have Hbad := Lib.hid hbad
        clear hbad
        by_cases hx0 : 0 ≤ ws[k]
        all_goals
          go_wp2
          go_ret
          exact ⟨by rw [Hp.out, Hbad.out]; rfl, hb⟩
    · go_wp2
      go_ret
      have e := hok.out
      rw [List.take_of_length_le (by omega)] at e
      exact ⟨by rw [Hp.out, e]; rfl, hb⟩

def num3 (p : Int) : Bool := decide (1 ≤ p ∧ p ≤ 3)

theorem spec_l9Number (p : Int) (w : World) :
    Calls Tryz.prog 157 #[.int .i64 p] w fun e w' => e = .returned (.bool (num3 p)) ∧ w = w' := by
  by_cases h1 : 1 ≤ p
  · by_cases h3 : p ≤ 3
    all_goals
      go_enter Tryz.func157, Tryz.ntmps157
      go_wp2
      go_ret
      exact ⟨by simp [num3]; omega, rfl⟩
  · go_enter Tryz.func157, Tryz.ntmps157
    go_wp2
    go_ret
    exact ⟨by simp [num3]; omega, rfl⟩

theorem spec_PackValid (A B : Option Addr) (l : List Tk) (ws : List Int) (c d : Nat) (p : Int) (w : World) (h : TS w A l) (g : IS w B ws) (hm : l.length ≤ 9223372036854775807) :
    Calls Tryz.prog 236 #[.slice A l.length c, .slice B ws.length d, .int .i64 p] w fun e w' => e = .returned (.bool (packVld l ws p)) ∧ Below w.heap.size w w' := by
  by_cases hS : setVld l = true
  case neg =>
    have hS : setVld l = false := by simpa using hS
    go_enter Tryz.func236, Tryz.ntmps236
    go_wp2_with (go_at_call 112; refine (spec_SetValid _ l _ _ h hm).mono ?_; rintro e w2 ⟨rfl, hb2⟩)
    go_ret
    exact ⟨by simp [packVld, hS], hb2⟩
  have hl5 := setVld_len hS
  by_cases hlen : ws.length = l.length
  case neg =>
    have hf : packVld l ws p = false := by simp only [packVld]; simp; omega
    have Hf := Lib.hid hf
    clear hf
    have hne : ((ws.length : Int) != l.length) = true := by simp; omega
    go_enter Tryz.func236, Tryz.ntmps236
    go_wp2_with (go_at_call 112; refine (spec_SetValid _ l _ _ h hm).mono ?_; rintro e w2 ⟨rfl, hb2⟩)
    go_ret
    exact ⟨by rw [Hf.out]; rfl, hb2⟩
  have hne : ((ws.length : Int) != l.length) = false := by simp [hlen]
  by_cases hn : 1 ≤ p ∧ p ≤ 3
  case neg =>
    have hf : packVld l ws p = false := by simp only [packVld]; simp; omega
    have Hf := Lib.hid hf
    have hn' : num3 p = false := by simpa [num3] using hn
    clear hf hn hlen
    go_enter Tryz.func236, Tryz.ntmps236
    go_wp2_with (first | (go_at_call 112; refine (spec_SetValid _ l _ _ h hm).mono ?_; rintro e w2 ⟨rfl, hb2⟩) | (go_at_call 157; refine (spec_l9Number _ _).mono ?_; rintro e w3 ⟨rfl, rfl⟩))
    all_goals go_ret
    all_goals exact ⟨by rw [Hf.out]; rfl, hb2⟩
  have hn' : num3 p = true := by simpa [num3] using hn
  obtain ⟨h1, h3⟩ := hn
  have hws : ws.length ≤ 5 := by omega
  have hp : packVld l ws p = ws.all (wok p) := by simp [packVld, hS, h1, h3, hlen]
  have Hp := Lib.hid hp
  clear hp hlen
  go_enter Tryz.func236, Tryz.ntmps236
  go_wp2_with (first | (go_at_call 112; refine (spec_SetValid _ l _ _ h hm).mono ?_; rintro e w2 ⟨rfl, hb2⟩) | (go_at_call 157; refine (spec_l9Number _ _).mono ?_; rintro e w3 ⟨rfl, rfl⟩))
  go_loopw [7] (fun i wr => ∃ k : Nat, k ≤ ws.length ∧ i = .int .i64 k ∧ Hid ((ws.take k).all (wok p) = true) ∧ Below w.heap.size w wr) (fun i _ => ws.length - (intOf i).toNat)
  case atStart => exact ⟨0, Nat.zero_le _, rfl, by simp [Hid], hb2⟩
  case round =>
    obtain ⟨k, hk, rfl, hok, hb⟩ := hrel
    by_cases hlt : k < ws.length
    · obtain ⟨b, off, rfl, hbl, hc⟩ := g (by omega)
      have c0 := (hb.cell (p := ⟨b, off + k, none⟩) hbl).trans (hc k _ (List.getElem?_eq_getElem hlt))
      clear hc
      by_cases hx : 0 ≤ ws[k] ∧ ws[k] < p
      · obtain ⟨hx0, hx1⟩ := hx
        go_wp2
        go_roundw
        case rel => exact ⟨k + 1, by omega, by go_num, by rw [Hid, wall_take_succ p ws k hlt, hok.out]; simp [wok, hx0, hx1], hb⟩
        case measure => simp [intOf]; omega
      · have hbad : ws.all (wok p) = false := List.all_eq_false.2 ⟨ws[k], List.getElem_mem _, by simp only [wok]; simpa using hx⟩
        have Hbad := Lib.hid hbad
        clear hbad
        by_cases hx0 : 0 ≤ ws[k]
        all_goals
          go_wp2
          go_ret
          exact ⟨by rw [Hp.out, Hbad.out]; rfl, hb⟩
    · go_wp2
      go_ret
      have e := hok.out
      rw [List.take_of_length_le (by omega)] at e
      exact ⟨by rw [Hp.out, e]; rfl, hb⟩
end Go.Proofs.YtmlbjcjihmfcjaaGreatDoor
