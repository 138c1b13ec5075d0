/-
  l9Case: drawn tasks, ways, processors and policies; DrawPackValid, DrawGroupOf.
-/
import Derived.Test.YtmlbjcjihmfcjaaGreatDoorDrawPack
namespace Go.Proofs.YtmlbjcjihmfcjaaGreatDoor
open Go.RowKit

theorem results_tmp4 {fn : Func} {t u v x : Tmp} (h : fn.results = #[.tmp t, .tmp u, .tmp v, .tmp x]) (tmps : Array Value) (P : Program) (w : World) :
    (results fn tmps).run P w = .ok (.tuple #[tmps.getD t undef, tmps.getD u undef, tmps.getD v undef, tmps.getD x undef]) w := by simp [results, h]
theorem OT_blk {base : Nat} {w : World} {b c : Nat} {l : List Tk} (h : OT base w (some ⟨b, 0, none⟩) c l) : ∃ cs, w.heap[b]? = some (.cells cs 73 (0, 0)) := by
  rcases h.2 with ⟨hv, _⟩ | ⟨g, cap, cur, hv, hg, hh, _⟩
  · cases hv
  · injection hv with hA
    injection hA with hA
    injection hA with hb
    subst hb
    exact ⟨cur, hh⟩

/-- What l9Case hands over. -/
structure CaseOk (w w' : World) (A : Option Addr) (c : Nat) (l : List Tk) (B : Option Addr) (d : Nat) (ws : List Int) (n m : Int) : Prop where
  tasks : OT w.heap.size w' A c l
  ints : OI w.heap.size w' B d ws
  small : ∀ t ∈ l, Sm t
  ways : ∀ x ∈ ws, -100 ≤ x ∧ x ≤ 100
  len : l.length ≤ 5
  wlen : ws.length ≤ 6
  n0 : 0 ≤ n
  n4 : n ≤ 4
  m0 : 0 ≤ m
  m2 : m ≤ 2
  below : Below w.heap.size w w'
def CasePost (w : World) (e : Ending) (w' : World) : Prop := ∃ A c l B d ws n m, e = .returned (.tuple #[.slice A (List.length l) c, .slice B (List.length ws) d, .int .i64 n, .int .i64 m]) ∧ CaseOk w w' A c l B d ws n m

set_option maxHeartbeats 2000000 in
theorem spec_l9Case (A0 : Option Addr) (code : List Int) (c0 : Nat) (w : World) (h : BS w A0 code) (hl : code.length ≤ maxLen) (hlc : code.length ≤ c0) :
    Calls Tryz.prog 153 #[.slice A0 code.length c0] w (CasePost w) := by
  go_enter Tryz.func153, Tryz.ntmps153
  go_wp2_with fail
  refine (spec_l11Open A0 code c0 w h hl hlc).mono ?_
  rintro e w1 ⟨rfl, hr1⟩
  go_wp2_with fail
  refine (spec_num w _ _ 0 _ [0, 1, 0, 1, 0, 1, 2] _ (hr1.grow (bal (Below.refl _ _) _)) (by omega) (IS_lit _ _ _ _ _ rfl rfl) (by simp) (by simp) (by rintro a ⟨⟩; have := hr1.lt; simp; omega)).mono ?_
  rintro e w2 ⟨m, hm, rfl, hr2, hg2⟩
  have hm : 0 ≤ m ∧ m ≤ 2 := by simp at hm; omega
  clear hg2 hr1
  go_wp2_with fail
  refine (spec_l9Set w _ _ _ m hr2 (by omega)).mono ?_
  rintro e w3 ⟨A, c, l, q3, rfl, hO3, hsm, hl5, hq3, hr3, hg3⟩
  have hO3 := own_base hO3 hr2.below.size
  clear hg3
  go_wp2_with fail
  refine (spec_num w _ _ q3 _ [2, 1, 3, 2, 1] _ (hr3.grow (bal (Below.refl _ _) _)) (by omega) (IS_lit _ _ _ _ _ rfl rfl) (by simp) (by simp) (by rintro a ⟨⟩; have := hr3.lt; simp; omega)).mono ?_
  rintro e w4 ⟨n, hn, rfl, hr4, hg4⟩
  have hn : 0 ≤ n ∧ n ≤ 4 := by simp at hn; omega
  have hO4 : OT w.heap.size w4 A c l := OT_only (OT_alloc hO3 _) (hr3.grow (bal (Below.refl _ _) _)) hg4
  clear hg4 hO3 hr3 hr2
  go_wp2_with fail
  refine (spec_l9Where w _ _ _ l.length n hr4 (by omega) (by omega) (by omega)).mono ?_
  rintro e w5 ⟨B, d, ws, q5, rfl, hI5, hws, hw6, hq5, hr5, hg5⟩
  have hO5 := OT_only hO4 hr4 hg5
  have hI5 : OI w.heap.size w5 B d ws := own_base hI5 hr4.below.size
  clear hg5 hO4 hr4
  go_wp2_with fail
  refine (spec_pick w _ _ _ _ hr5 (by omega)).mono ?_
  rintro e w6 ⟨x6, rfl, hx60, hx61, _, hr6, hg6⟩
  have hx61 := hx61 (by omega)
  have hO6 := OT_only hO5 hr5 hg6
  have hI6 := OI_only hI5 hr5 hg6
  clear hg6 hO5 hI5 hr5
  by_cases hx6 : x6 = 0
  · subst hx6
    go_wp2_with fail
    refine (spec_num w _ _ _ _ [0, 4, 1] _ (hr6.grow (bal (Below.refl _ _) _)) (by omega) (IS_lit _ _ _ _ _ rfl rfl) (by simp) (by simp) (by rintro a ⟨⟩; have := hr6.lt; simp; omega)).mono ?_
    rintro e w7 ⟨n7, hn7, rfl, hr7, hg7⟩
    have hn7 : 0 ≤ n7 ∧ n7 ≤ 4 := by simp at hn7; omega
    have hO7 : OT w.heap.size w7 A c l := OT_only (OT_alloc hO6 _) (hr6.grow (bal (Below.refl _ _) _)) hg7
    have hI7 : OI w.heap.size w7 B d ws := OI_only (OI_alloc hI6 _) (hr6.grow (bal (Below.refl _ _) _)) hg7
    clear hg7 hO6 hI6 hr6
    rcases Nat.eq_zero_or_pos l.length with h0 | h0
    · go_wp2_with fail
      refine bodyPost_ret (results_tmp4 rfl _ _ _) rfl ?_
      exact ⟨A, c, l, B, d, ws, n7, m, by rw [h0]; rfl, hO7, hI7, hsm, hws, hl5, by omega, hn7.1, hn7.2, hm.1, hm.2, hr7.below⟩
    · go_wp2_with fail
      refine (spec_pick w _ _ _ _ hr7 (by omega)).mono ?_
      rintro e w8 ⟨x8, rfl, hx80, hx81, _, hr8, hg8⟩
      have hx81 := hx81 (by omega)
      have hO8 := OT_only hO7 hr7 hg8
      have hI8 := OI_only hI7 hr7 hg8
      clear hg8
      by_cases hx8 : x8 = 0
      · subst hx8
        obtain ⟨b, rfl, hbw, hbl⟩ := OT_addr hO8 h0
        obtain ⟨k0, k1, k2, k3, k4, kf⟩ := OT_cells hO8 0 h0
        simp only [Nat.zero_mul, Nat.zero_add] at k0 k1 k2 k3 k4
        go_wp2_with fail
        refine (spec_l1Wrong w _ _ _ l[0] (hsm _ (List.getElem_mem h0)) hr8 (by omega)).mono ?_
        rintro e w9 ⟨t9, q9, rfl, hs9, hq9, hr9, hg9⟩
        have hO9 := OT_only hO8 hr8 hg9
        have hI9 := OI_only hI8 hr8 hg9
        clear hg9 k0 k1 k2 k3 k4 kf
        go_wp2_with fail
        refine (spec_l1Wrong w _ _ _ t9 hs9 hr9 (by omega)).mono ?_
        rintro e w10 ⟨t10, q10, rfl, hs10, hq10, hr10, hg10⟩
        have hO10 := OT_only hO9 hr9 hg10
        have hI10 := OI_only hI9 hr9 hg10
        clear hg10 hO9 hI9 hr9
        obtain ⟨k0, k1, k2, k3, k4, kf⟩ := OT_cells hO10 0 h0
        simp only [Nat.zero_mul, Nat.zero_add] at k0 k1 k2 k3 k4
        go_wp2_with fail
        refine bodyPost_ret (results_tmp4 rfl _ _ _) rfl ?_
        obtain ⟨cs, hbk⟩ := OT_blk hO10
        have hO11 := OT_whole hO10 0 h0 t10
        have hg11 := gb_set5row (w := w10) (b := b) (i0 := 0) (i1 := 1) (i2 := 2) (i3 := 3) (i4 := 4) (.int .i64 t10.low) (.int .i64 t10.high) (.int .i64 t10.due) (.int .i64 t10.every) (.bool t10.crit)
        simp only [Nat.zero_mul, Nat.zero_add] at hO11
        refine ⟨_, c, l.set 0 t10, B, d, ws, n7, m, by rw [List.length_set]; rfl, hO11, own_only hI10 hg11 hbk (by decide), ?_, hws, by rw [List.length_set]; exact hl5, by omega, hn7.1, hn7.2, hm.1, hm.2, hr10.below.trans ?_⟩
        · intro t ht
          rcases List.mem_or_eq_of_mem_set ht with ht | rfl
          · exact hsm t ht
          · exact hs10
        · exact own_below hO10 hg11 hr10.below.size
      · have hx8' : (x8 == 0) = false := beq_eq_false_iff_ne.2 hx8
        go_wp2_with fail
        refine bodyPost_ret (results_tmp4 rfl _ _ _) rfl ?_
        exact ⟨A, c, l, B, d, ws, n7, m, rfl, hO8, hI8, hsm, hws, hl5, by omega, hn7.1, hn7.2, hm.1, hm.2, hr8.below⟩
  · have hx6' : (x6 == 0) = false := beq_eq_false_iff_ne.2 hx6
    rcases Nat.eq_zero_or_pos l.length with h0 | h0
    · go_wp2_with fail
      refine bodyPost_ret (results_tmp4 rfl _ _ _) rfl ?_
      exact ⟨A, c, l, B, d, ws, n, m, by rw [h0]; rfl, hO6, hI6, hsm, hws, hl5, by omega, hn.1, hn.2, hm.1, hm.2, hr6.below⟩
    · go_wp2_with fail
      refine (spec_pick w _ _ _ _ hr6 (by omega)).mono ?_
      rintro e w8 ⟨x8, rfl, hx80, hx81, _, hr8, hg8⟩
      have hx81 := hx81 (by omega)
      have hO8 := OT_only hO6 hr6 hg8
      have hI8 := OI_only hI6 hr6 hg8
      clear hg8
      by_cases hx8 : x8 = 0
      · subst hx8
        obtain ⟨b, rfl, hbw, hbl⟩ := OT_addr hO8 h0
        obtain ⟨k0, k1, k2, k3, k4, kf⟩ := OT_cells hO8 0 h0
        simp only [Nat.zero_mul, Nat.zero_add] at k0 k1 k2 k3 k4
        go_wp2_with fail
        refine (spec_l1Wrong w _ _ _ l[0] (hsm _ (List.getElem_mem h0)) hr8 (by omega)).mono ?_
        rintro e w9 ⟨t9, q9, rfl, hs9, hq9, hr9, hg9⟩
        have hO9 := OT_only hO8 hr8 hg9
        have hI9 := OI_only hI8 hr8 hg9
        clear hg9 k0 k1 k2 k3 k4 kf
        go_wp2_with fail
        refine (spec_l1Wrong w _ _ _ t9 hs9 hr9 (by omega)).mono ?_
        rintro e w10 ⟨t10, q10, rfl, hs10, hq10, hr10, hg10⟩
        have hO10 := OT_only hO9 hr9 hg10
        have hI10 := OI_only hI9 hr9 hg10
        clear hg10 hO9 hI9 hr9
        obtain ⟨k0, k1, k2, k3, k4, kf⟩ := OT_cells hO10 0 h0
        simp only [Nat.zero_mul, Nat.zero_add] at k0 k1 k2 k3 k4
        go_wp2_with fail
        refine bodyPost_ret (results_tmp4 rfl _ _ _) rfl ?_
        obtain ⟨cs, hbk⟩ := OT_blk hO10
        have hO11 := OT_whole hO10 0 h0 t10
        have hg11 := gb_set5row (w := w10) (b := b) (i0 := 0) (i1 := 1) (i2 := 2) (i3 := 3) (i4 := 4) (.int .i64 t10.low) (.int .i64 t10.high) (.int .i64 t10.due) (.int .i64 t10.every) (.bool t10.crit)
        simp only [Nat.zero_mul, Nat.zero_add] at hO11
        refine ⟨_, c, l.set 0 t10, B, d, ws, n, m, by rw [List.length_set]; rfl, hO11, own_only hI10 hg11 hbk (by decide), ?_, hws, by rw [List.length_set]; exact hl5, by omega, hn.1, hn.2, hm.1, hm.2, hr10.below.trans ?_⟩
        · intro t ht
          rcases List.mem_or_eq_of_mem_set ht with ht | rfl
          · exact hsm t ht
          · exact hs10
        · exact own_below hO10 hg11 hr10.below.size
      · have hx8' : (x8 == 0) = false := beq_eq_false_iff_ne.2 hx8
        go_wp2_with fail
        refine bodyPost_ret (results_tmp4 rfl _ _ _) rfl ?_
        exact ⟨A, c, l, B, d, ws, n, m, rfl, hO8, hI8, hsm, hws, hl5, by omega, hn.1, hn.2, hm.1, hm.2, hr8.below⟩

end Go.Proofs.YtmlbjcjihmfcjaaGreatDoor
