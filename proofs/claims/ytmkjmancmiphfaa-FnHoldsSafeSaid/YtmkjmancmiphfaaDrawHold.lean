/-
  l8Set; DrawHoldsBy, DrawMostHigh, DrawMostLow.
-/
import Derived.Test.YtmkjmancmiphfaaAdmAllS
import Derived.Test.YtmkjmancmiphfaaSortD
import Derived.Test.YtmkjmancmiphfaaDrawPack
namespace Go.Proofs.Ytmkjmancmiphfaa
open Go.RowKit

theorem sortD_len_le (l : List Tk) : (sortD l).length ≤ l.length := by
  unfold sortD
  split
  · rw [sortF_len]; exact Nat.le_refl _
  · simp
theorem admAll_le (ts : List Tk) (p : Int) : (admAll ts p).1.length ≤ ts.length := by
  unfold admAll
  split
  · rename_i hk
    have hp : p = 0 ∨ p = 1 := by
      simp only [admOk, Bool.and_eq_true, polB, Bool.or_eq_true, beq_iff_eq] at hk
      exact hk.2
    have := (admGo_good (p := p) (ts := ts) (i := 0) (out := []) (ref := []) (hldBy_nil hp) rfl rfl).2.2
    omega
  · simp
/-- Tasks drawn: at most m, in new memory. -/
def LPost (W w : World) (g p k m : Nat) (e : Ending) (w' : World) : Prop :=
  ∃ (A : Option Addr) (c : Nat) (l : List Tk) (q : Nat), e = .returned (.slice A l.length c) ∧ OT w.heap.size w' A c l ∧ l.length ≤ m ∧ q ≤ p + k ∧ RD W w' g q ∧ w.grownBy w' (some g)

/-- .. that are valid. -/
def LPostV (W w : World) (g p k m : Nat) (e : Ending) (w' : World) : Prop :=
  ∃ (A : Option Addr) (c : Nat) (l : List Tk) (q : Nat), e = .returned (.slice A l.length c) ∧ OT w.heap.size w' A c l ∧ (l.length ≤ m ∧ setVld l = true) ∧ q ≤ p + k ∧ RD W w' g q ∧ w.grownBy w' (some g)
theorem setVld_of {l : List Tk} (h : l.length ≤ 5) (hv : ∀ t ∈ l, vld t = true) : setVld l = true := by
  simp only [setVld, Bool.and_eq_true, decide_eq_true_eq, List.all_eq_true]
  exact ⟨h, hv⟩
theorem sortD_vld {l : List Tk} (h : setVld l = true) : setVld (sortD l) = true := by
  obtain ⟨h1, h2⟩ := setVld_all h
  unfold sortD
  rw [if_pos h]
  exact setVld_of (by rw [sortF_len]; exact h1) (fun t ht => h2 t ((sortF_perm l).mem_iff.1 ht))
theorem setVld_due {l : List Tk} (h : setVld l = true) (k : Nat) (hk : k < l.length) : Hid (setVld (l.set k ⟨l[k].low, l[k].high, l[k].every, l[k].every, l[k].crit⟩) = true) := by
  obtain ⟨h1, h2⟩ := setVld_all h
  refine setVld_of (by rw [List.length_set]; exact h1) (fun t ht => ?_)
  rcases List.mem_or_eq_of_mem_set ht with ht | rfl
  · exact h2 t ht
  · have hv := h2 _ (List.getElem_mem hk)
    simp only [vld, Bool.and_eq_true, decide_eq_true_eq] at hv ⊢
    exact ⟨by omega, hv.2⟩
theorem admAll_vld (ts : List Tk) (p : Int) : setVld (admAll ts p).1 = true := by
  unfold admAll
  split
  · rename_i hk
    have hp : p = 0 ∨ p = 1 := by
      simp only [admOk, Bool.and_eq_true, polB, Bool.or_eq_true, beq_iff_eq] at hk
      exact hk.2
    exact hldBy_vld (admGo_good (p := p) (ts := ts) (i := 0) (out := []) (ref := []) (hldBy_nil hp) rfl rfl).1
  · rfl

set_option maxHeartbeats 4000000 in
theorem spec_l8SetV (W w : World) (g p : Nat) (m : Int) (h : RD W w g p) (hp : p + 40 ≤ 1099511627776) :
    Calls Try.prog 12 #[.pointer (some ⟨g, 0, none⟩), .int .i64 m] w (LPostV W w g p 32 5) := by
  have hgl := h.lt
  have hWw := h.below.size
  go_enter Try.func12, Try.ntmps12
  go_wp2_with fail
  refine (spec_l1SetV W _ g p h (by omega)).mono ?_
  rintro e w1 ⟨A, c, l, q, rfl, hO, hsm, hl5, hq, hr, hg⟩
  have hG : Hid (w.grownBy w1 (some g)) := hg
  have hs : w.heap.size ≤ w1.heap.size := hg.size
  have hv1 : setVld l = true := setVld_of hl5 (fun t ht => (hsm t ht).2)
  have hv2 := Lib.hid (sortD_vld hv1)
  clear hg hsm hv1
  go_wp2_with fail
  refine (spec_SortDue A l c _ hO.ts (by unfold maxLen; omega)).mono ?_
  rintro e w2 ⟨A2, c2, rfl, o2, b2⟩
  have hlen := sortD_len_le l
  have hr2 := hr.grow b2
  have hG2 : Hid (w.grownBy w2 (some g)) := gb_trans hG.out (gb_below b2 _)
  have o2 : OT w.heap.size w2 A2 c2 (sortD l) := own_base o2 hs
  have hs2 : w.heap.size ≤ w2.heap.size := Nat.le_trans hs b2.size
  clear hO hr hG b2
  generalize sortD l = l2 at *
  have hl2 : l2.length ≤ 5 := by omega
  clear hlen hl5 hs
  by_cases hm : m = 1
  · subst hm
    go_wp2_with fail
    go_loopw [6] (fun i wr => ∃ (k : Nat) (l3 : List Tk), i = .int .i64 (k : Int) ∧ k ≤ l2.length ∧ Hid (l3.length = l2.length) ∧ Hid (setVld l3 = true) ∧ OT w.heap.size wr A2 c2 l3 ∧ RD W wr g q ∧ Hid (w.grownBy wr (some g)) ∧ w.heap.size ≤ wr.heap.size) (fun i _ => 6 - (intOf i).toNat)
    case atStart => exact ⟨0, l2, rfl, by omega, rfl, hv2, o2, hr2, hG2, hs2⟩
    case round =>
      clear o2 hr2 hG2 hs2
      obtain ⟨k, l3, rfl, hk, hL, hV, hO, hr, hG, hs⟩ := hrel
      by_cases hkl : k < l2.length
      · have hkl2 : k < l3.length := by rw [hL.out]; exact hkl
        obtain ⟨b, rfl, hbw, hbl⟩ := OT_addr hO (by omega)
        obtain ⟨c0, c1, c2', c3, c4, cf⟩ := OT_cells hO k hkl2
        go_wp2_with fail
        go_roundw
        case rel =>
          obtain ⟨hO3, hg3⟩ := OT_field hO k 2 hkl2 (by omega) (.int .i64 l3[k].every) ⟨l3[k].low, l3[k].high, l3[k].every, l3[k].every, l3[k].crit⟩ rfl
          exact ⟨k + 1, _, by go_num, by omega, by rw [Hid, List.length_set]; exact hL.out, setVld_due hV.out k hkl2, hO3, hr.row hO (by decide) hg3 (own_below hO hg3 hs |>.mono hWw), gb_row hG.out (own_below hO hg3 hs), by simp; omega⟩
        case measure => simp [intOf]; omega
      · go_wp2_with fail
        refine (spec_pick W _ g q _ hr (by omega)).mono ?_
        rintro e w4 ⟨y, rfl, hy0, hy1, _, hr4, hg4⟩
        have hO4 := OT_only hO hr hg4
        have hG4 : Hid (w.grownBy w4 (some g)) := gb_trans hG.out hg4
        have hs4 : w.heap.size ≤ w4.heap.size := Nat.le_trans hs hg4.size
        clear hg4 hO hr hG hs
        by_cases hy : 0 < y
        · have K := spec_AdmitAll A2 l3 c2 1 w4 hO4.ts (by rw [hL.out]; unfold maxLen; omega)
          rw [hL.out] at K
          go_wp2_with fail
          refine K.mono ?_
          rintro e w5 ⟨A5, c5, B5, d5, rfl, o5, i5, b5⟩
          have hle := admAll_le l3 1
          go_wp2_with fail
          go_ret
          exact ⟨A5, c5, _, q + 1, rfl, own_base o5 hs4, ⟨by rw [hL.out] at hle; omega, admAll_vld l3 1⟩, by omega, hr4.grow b5, gb_trans hG4.out (gb_below b5 _)⟩
        · go_wp2_with fail
          go_ret
          exact ⟨A2, c2, l3, q + 1, by rw [hL.out]; rfl, hO4, ⟨by rw [hL.out]; omega, hV.out⟩, by omega, hr4, hG4.out⟩
  · have hm1 : (m == 1) = false := beq_eq_false_iff_ne.2 hm
    go_wp2_with fail
    refine (spec_pick W _ g q _ hr2 (by omega)).mono ?_
    rintro e w4 ⟨y, rfl, hy0, hy1, _, hr4, hg4⟩
    have hO4 := OT_only o2 hr2 hg4
    have hG4 : Hid (w.grownBy w4 (some g)) := gb_trans hG2.out hg4
    have hs4 : w.heap.size ≤ w4.heap.size := Nat.le_trans hs2 hg4.size
    clear hg4 o2 hr2 hG2 hs2
    by_cases hy : 0 < y
    · have K := spec_AdmitAll A2 l2 c2 m w4 hO4.ts (by unfold maxLen; omega)
      go_wp2_with fail
      refine K.mono ?_
      rintro e w5 ⟨A5, c5, B5, d5, rfl, o5, i5, b5⟩
      have hle := admAll_le l2 m
      go_wp2_with fail
      go_ret
      exact ⟨A5, c5, _, q + 1, rfl, own_base o5 hs4, ⟨by omega, admAll_vld l2 m⟩, by omega, hr4.grow b5, gb_trans hG4.out (gb_below b5 _)⟩
    · go_wp2_with fail
      go_ret
      exact ⟨A2, c2, l2, q + 1, rfl, hO4, ⟨by omega, hv2.out⟩, by omega, hr4, hG4.out⟩

theorem spec_l8Set (W w : World) (g p : Nat) (m : Int) (h : RD W w g p) (hp : p + 40 ≤ 1099511627776) :
    Calls Try.prog 12 #[.pointer (some ⟨g, 0, none⟩), .int .i64 m] w (LPost W w g p 32 5) := by
  refine (spec_l8SetV W w g p m h hp).mono ?_
  rintro e w1 ⟨A, c, l, q, h1, h2, h3, h4⟩
  exact ⟨A, c, l, q, h1, h2, h3.1, h4⟩

theorem spec_DrawHoldsByV (A0 : Option Addr) (code : List Int) (c0 : Nat) (w : World) (h : BS w A0 code) (hl : code.length ≤ maxLen) (hlc : code.length ≤ c0) :
    Calls Try.prog 4 #[.slice A0 code.length c0] w fun e w' => ∃ A c l m, e = .returned (.tuple #[.slice A (List.length l) c, .int .i64 m]) ∧ OT w.heap.size w' A c l ∧ (l.length ≤ 5 ∧ setVld l = true) ∧ -1 ≤ m ∧ m ≤ 2 ∧ Below w.heap.size w w' := by
  go_enter Try.func4, Try.ntmps4
  go_wp2_with fail
  refine (spec_l11Open A0 code c0 w h hl hlc).mono ?_
  rintro e w1 ⟨rfl, hr1⟩
  go_wp2_with fail
  refine (spec_num w _ _ 0 _ [0, 1, 0, 1, 2, -1] _ (hr1.grow (bal (Below.refl _ _) _)) (by omega) (IS_lit _ _ _ _ _ rfl rfl) (by simp) (by simp) (by rintro a ⟨⟩; have := hr1.lt; simp; omega)).mono ?_
  rintro e w2 ⟨m, hm, rfl, hr2, hg2⟩
  have hm : -1 ≤ m ∧ m ≤ 2 := by simp at hm; omega
  go_wp2_with fail
  refine (spec_l8SetV w _ _ 1 m hr2 (by omega)).mono ?_
  rintro e w3 ⟨A, c, l, q, rfl, hO, hl5, hq, hr3, hg3⟩
  go_wp2_with fail
  go_ret2
  exact ⟨A, c, l, m, rfl, own_base hO hr2.below.size, hl5, hm.1, hm.2, hr3.below⟩
theorem spec_DrawHoldsBy (A0 : Option Addr) (code : List Int) (c0 : Nat) (w : World) (h : BS w A0 code) (hl : code.length ≤ maxLen) (hlc : code.length ≤ c0) :
    Calls Try.prog 4 #[.slice A0 code.length c0] w fun e w' => ∃ A c l m, e = .returned (.tuple #[.slice A (List.length l) c, .int .i64 m]) ∧ OT w.heap.size w' A c l ∧ l.length ≤ 5 ∧ -1 ≤ m ∧ m ≤ 2 ∧ Below w.heap.size w w' := by
  refine (spec_DrawHoldsByV A0 code c0 w h hl hlc).mono ?_
  rintro e w1 ⟨A, c, l, m, h1, h2, h3, h4⟩
  exact ⟨A, c, l, m, h1, h2, h3.1, h4⟩
end Go.Proofs.Ytmkjmancmiphfaa
