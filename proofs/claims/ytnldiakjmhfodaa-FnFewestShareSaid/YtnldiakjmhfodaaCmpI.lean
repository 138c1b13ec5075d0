/-
  CompareShares: the program's, of shares in order.
-/
import Derived.Test.YtnldiakjmhfodaaVirtI
namespace Go.Proofs.Ytnldiakjmhfodaa
open Go.RowKit

theorem cmp_isNaN (x : Int) (w : World) :
    Calls Try.prog 140 #[.int .i64 x] w fun e w' => e = .returned (.bool false) ∧ Below w.heap.size w w' := by
  go_enter Try.func140, Try.ntmps140
  go_wp2_with fail
  go_ret
  exact ⟨by simp, Below.refl _ _⟩
theorem cmp_Compare (x y : Int) (h : x ≤ y) (w : World) :
    Calls Try.prog 113 #[.int .i64 x, .int .i64 y] w fun e w' => ∃ v, e = .returned (.int .i64 v) ∧ v ≤ 0 ∧ Below w.heap.size w w' := by
  go_enter Try.func113, Try.ntmps113
  go_wp2_with fail
  refine (cmp_isNaN x _).mono ?_
  rintro e w1 ⟨rfl, b1⟩
  go_wp2_with fail
  refine (cmp_isNaN y _).mono ?_
  rintro e w2 ⟨rfl, b2⟩
  have B2 := bthru (bthru (Below.refl w.heap.size w) b1) b2
  by_cases hlt : x < y
  · go_wp2_with fail
    go_ret
    exact ⟨-1, rfl, by omega, B2⟩
  · have e : x = y := by omega
    subst e
    go_wp2_with fail
    go_ret
    exact ⟨0, rfl, by omega, B2⟩
theorem impl_CompareShares (a b : Rat) (w : World) (ha : RIn a) (hb : RIn b) (hab : a ≤ b) :
    Calls Try.prog 74 #[rv a, rv b] w fun e w' => ∃ v, e = .returned (.int .i64 v) ∧ v ≤ 0 ∧ Below w.heap.size w w' := by
  obtain ⟨a0, a1, a2⟩ := id ha
  obtain ⟨b0, b1, b2⟩ := id hb
  have da := a.den_pos
  have db := b.den_pos
  have m1 := mul_bd a0 a1 (show 0 ≤ (b.den : Int) by omega) (show (b.den : Int) ≤ 1000000000 by omega) (by omega)
  have m2 := mul_bd b0 b1 (show 0 ≤ (a.den : Int) by omega) (show (a.den : Int) ≤ 1000000000 by omega) (by omega)
  obtain ⟨m10, m11⟩ := m1
  obtain ⟨m20, m21⟩ := m2
  have hle : a.num * (b.den : Int) ≤ b.num * (a.den : Int) := (Rat.le_iff a b).1 hab
  have qa : IntKind.i64.wrap (a.num * (b.den : Int)) = a.num * (b.den : Int) := IntWalk.i64_in _ (by omega)
  have qb : IntKind.i64.wrap (b.num * (a.den : Int)) = b.num * (a.den : Int) := IntWalk.i64_in _ (by omega)
  go_enter Try.func74, Try.ntmps74
  go_wp2_with fail
  refine (impl_ShareValid_yes a _ ha).mono ?_
  rintro e w1 ⟨rfl, c1⟩
  have hz1 := c1.size
  simp only [World.size_alloc] at hz1
  obtain ⟨q0, q1⟩ := heap2 w (.cells #[.int .i64 a.num, .int .i64 (a.den : Int)] 63) (.cells #[.int .i64 b.num, .int .i64 (b.den : Int)] 63)
  have q0 := (c1.block w.heap.size (by simp; omega)).trans q0
  have q1 := (c1.block (w.heap.size + 1) (by simp)).trans q1
  obtain ⟨u0, u1, uf⟩ := blk_two q0
  obtain ⟨v0, v1, vf⟩ := blk_two q1
  have Q0 := Lib.hid q0
  have Q1 := Lib.hid q1
  clear q0 q1
  go_wp2_with fail
  refine (impl_ShareValid_yes b _ hb).mono ?_
  rintro e w2 ⟨rfl, c2⟩
  have q0 := (c2.block w.heap.size (by omega)).trans Q0.out
  have q1 := (c2.block (w.heap.size + 1) (by omega)).trans Q1.out
  clear u0 u1 uf v0 v1 vf Q0 Q1
  obtain ⟨u0, u1, uf⟩ := blk_two q0
  obtain ⟨v0, v1, vf⟩ := blk_two q1
  clear q0 q1
  have B2 := bthru (bthru (bal (bal (Below.refl w.heap.size w) _) _) c1) c2
  go_wp2_with fail
  refine (cmp_Compare _ _ hle _).mono ?_
  rintro e w3 ⟨v, rfl, hv, b3⟩
  go_wp2_with fail
  go_ret
  exact ⟨v, rfl, hv, bthru B2 b3⟩
end Go.Proofs.Ytnldiakjmhfodaa
