/-
  l1Set: drawn tasks.
-/
import Derived.Test.YtnldiakjmhfodaaDrawTask
import Derived.Test.YtnldiakjmhfodaaAppend
namespace Go.Proofs.Ytnldiakjmhfodaa
open Go.RowKit

theorem RD.row {W w w' : World} {g p : Nat} (h : RD W w g p) {base : Nat} {t : TypeId} {size : Nat} {v : Value} {n : Nat} {xs : List Value} (hown : w.ownsRow base t size v n xs) (hne : t ≠ 115) (hg : w.grownBy w' v.ownBlock) (hb : Below W.heap.size w w') : RD W w' g p := by
  obtain ⟨A, l, c, hh, hs, hl⟩ := h.src
  refine ⟨h.below.trans hb, h.new, ⟨A, l, c, ?_, hs, hl⟩, h.small⟩
  refine (hg.block g h.lt ?_).trans hh
  rcases hown.2 with ⟨rfl, _⟩ | ⟨g', cap, cur, rfl, _, hh', _⟩
  · simp [Value.ownBlock]
  · intro he
    have : g = g' := by simpa [Value.ownBlock] using he
    subst this
    rw [hh] at hh'
    injection hh' with hh'
    injection hh' with _ e
    exact hne e.symm
theorem gb_row {a w w' : World} {g : Nat} (h : a.grownBy w (some g)) (hb : Below a.heap.size w w') : a.grownBy w' (some g) :=
  ⟨hb.os.trans h.os, hb.tape.trans h.tape, hb.output.trans h.output, Nat.le_trans h.size hb.size, fun i hi hne => (hb.block i hi).trans (h.block i hi hne)⟩
theorem OT_only {base : Nat} {w w' : World} {A : Option Addr} {c : Nat} {l : List Tk} (h : OT base w A c l) {W : World} {g p : Nat} (hr : RD W w g p) (hg : w.grownBy w' (some g)) : OT base w' A c l := by
  obtain ⟨A', l', c', hh, _⟩ := hr.src
  exact own_only h hg hh (by decide)
theorem OI_only {base : Nat} {w w' : World} {A : Option Addr} {c : Nat} {l : List Int} (h : OI base w A c l) {W : World} {g p : Nat} (hr : RD W w g p) (hg : w.grownBy w' (some g)) : OI base w' A c l := by
  obtain ⟨A', l', c', hh, _⟩ := hr.src
  exact own_only h hg hh (by decide)

/-- Tasks drawn: at most m, all small, in new memory. -/
def SetPost (W w : World) (g p k m : Nat) (e : Ending) (w' : World) : Prop :=
  ∃ (A : Option Addr) (c : Nat) (l : List Tk) (q : Nat), e = .returned (.slice A l.length c) ∧ OT w.heap.size w' A c l ∧ (∀ t ∈ l, Sm t) ∧ l.length ≤ m ∧ q ≤ p + k ∧ RD W w' g q ∧ w.grownBy w' (some g)

set_option maxHeartbeats 1000000 in
theorem spec_l1Set (W w : World) (g p : Nat) (h : RD W w g p) (hp : p + 31 ≤ 1099511627776) :
    Calls Try.prog 101 #[.pointer (some ⟨g, 0, none⟩)] w (SetPost W w g p 31 5) := by
  have hgl := h.lt
  have hWw := h.below.size
  go_enter Try.func101, Try.ntmps101
  go_wp2_with fail
  refine (spec_num W _ g p _ [3, 2, 4, 1, 5, 0] _ (h.grow (bal (bal (Below.refl _ _) _) _)) (by omega) (IS_lit _ _ _ _ _ rfl (by simp)) (by simp) (by simp) (by rintro a ⟨⟩; simp; omega)).mono ?_
  rintro e w1 ⟨nv, hnv, rfl, hr1, hg1⟩
  have hnv : 0 ≤ nv ∧ nv ≤ 5 := by simp at hnv; omega
  obtain ⟨n, rfl⟩ : ∃ n : Nat, nv = (n : Int) := ⟨nv.toNat, (Int.toNat_of_nonneg hnv.1).symm⟩
  have hn5 : n ≤ 5 := by omega
  have hO1 : OT w.heap.size w1 (some ⟨w.heap.size, 0, none⟩) 0 [] := OT_only (OT_alloc (OT_blank w _ (Nat.le_refl _)) _) (h.grow (bal (bal (Below.refl _ _) _) _)) hg1
  have hG1 : Hid (w.grownBy w1 (some g)) := gb_trans (gb_alloc (gb_alloc (World.grownBy.refl _ _) _) _) hg1
  have hs1 : w.heap.size ≤ w1.heap.size := by have := hg1.size; simp at this; omega
  clear hg1 hnv
  go_wp2_with fail
  go_loopw [3, 4] (fun v i wr => ∃ (k q : Nat) (A : Option Addr) (c : Nat) (l : List Tk), i = .int .i64 (k : Int) ∧ v = .slice A l.length c ∧ k + l.length ≤ 5 ∧ q ≤ p + 1 + 6 * l.length ∧ OT w.heap.size wr A c l ∧ (∀ t ∈ l, Sm t) ∧ RD W wr g q ∧ Hid (w.grownBy wr (some g)) ∧ w.heap.size ≤ wr.heap.size) (fun _ i _ => (intOf i).toNat)
  case atStart => exact ⟨n, p + 1, _, 0, [], rfl, rfl, by simp; omega, by simp, hO1, by simp, hr1, hG1, hs1⟩
  case round =>
    obtain ⟨k, q, A, c, l, rfl, rfl, hkl, hq, hO, hsm, hr, hG, hs⟩ := hrel
    clear hO1 hr1 hG1 hs1
    by_cases hk : 0 < k
    · go_wp2_with fail
      refine (spec_l1Task W _ g q hr (by omega)).mono ?_
      rintro e w2 ⟨t, q2, rfl, hst, hq2, hr2, hg2⟩
      have hO2 := OT_only hO hr hg2
      have hG2 : Hid (w.grownBy w2 (some g)) := gb_trans hG.out hg2
      have hs2 : w.heap.size ≤ w2.heap.size := Nat.le_trans hs hg2.size
      clear hg2 hO hG hr
      go_wp2_with (at_builtin; refine wpList_app_task _ rfl _ _ rfl w.heap.size A l c rfl (OT_alloc hO2 _) w2.heap.size 1 t _ 30 rfl (heap_alloc_new w2 _) rfl (by omega) (by simp; omega) ?_; intro A3 c3 w3 hO3 hg3 hb3)
      have hr3 := (hr2.grow (bal (Below.refl _ _) _)).row (OT_alloc hO2 _) (by decide) hg3 (hb3.mono hWw)
      have hG3 : Hid (w.grownBy w3 (some g)) := gb_row (gb_alloc hG2.out _) hb3
      have hs3 : w.heap.size ≤ w3.heap.size := by have := hb3.size; simp at this; omega
      go_roundw
      case rel => exact ⟨k - 1, q2, A3, c3, l ++ [t], by go_num, by simp, by simp; omega, by simp; omega, hO3, by intro x hx; rcases List.mem_append.1 hx with hx | hx; exact hsm x hx; simp at hx; exact hx ▸ hst, hr3, hG3, hs3⟩
      case measure => simp [intOf]; omega
    · go_wp2_with fail
      go_ret
      exact ⟨A, c, l, q, rfl, hO, hsm, by omega, by omega, hr, hG.out⟩
end Go.Proofs.Ytnldiakjmhfodaa
