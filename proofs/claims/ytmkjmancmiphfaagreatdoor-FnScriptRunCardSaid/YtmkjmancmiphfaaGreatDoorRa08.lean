/-
  The walks of HoldsPlain, FactorOf, HoldsVirtual, HoldsBy: the program's.
-/
import Derived.Test.YtmkjmancmiphfaaGreatDoorRa06
import Derived.Deep.RegionHeld3
namespace Go.Proofs.YtmkjmancmiphfaaGreatDoor
open Go.RowKit

theorem sumV_yes {l : List Tk} (h : setVld l = true) (crit high : Bool) : sumV l crit high = rv (shares crit high l) := by simp [sumV, h]
theorem RIn_shares {l : List Tk} (h : setVld l = true) (crit high : Bool) : RIn (shares crit high l) := by
  obtain ⟨hl5, hall⟩ := setVld_all h
  have := shares_small hall hl5 crit high
  exact ⟨this.1, by omega, by omega⟩
def facV (l : List Tk) : Value := if hldPlain l then .tuple #[sv 1 1, .bool true] else if impl_ l && !facNo l then .tuple #[rv (facR l), .bool true] else .tuple #[sv 0 0, .bool false]

theorem impl_HoldsPlain (A : Option Addr) (l : List Tk) (c : Nat) (w : World) (h : TS w A l) (hm : l.length ≤ maxLen) :
    Calls Tryz.prog 61 #[.slice A l.length c] w fun e w' => e = .returned (.bool (hldPlain l)) ∧ Below w.heap.size w w' := by
  cases hI : impl_ l with
  | false =>
    have Hf : Hid (hldPlain l = false) := by simp [Hid, hldPlain, hI]
    go_enter Tryz.func61, Tryz.ntmps61
    go_wp2_with fail
    refine (impl_Implicit A l c _ h hm).mono ?_
    rw [hI]
    rintro e w1 ⟨rfl, b1⟩
    go_wp2_with fail
    go_ret
    exact ⟨by rw [Hf.out]; rfl, b1⟩
  | true =>
    have Hf : Hid (hldPlain l = fitsR (ua l + uh l)) := by simp [Hid, hldPlain, hI]
    have hs := impl_vld hI
    have ea : Hid (sumV l false false = rv (ua l)) := sumV_yes hs false false
    have eh : Hid (sumV l true true = rv (uh l)) := sumV_yes hs true true
    have ra := RIn_shares hs false false
    have rh := RIn_shares hs true true
    clear hs
    change RIn (ua l) at ra
    change RIn (uh l) at rh
    go_enter Tryz.func61, Tryz.ntmps61
    go_wp2_with fail
    refine (impl_Implicit A l c _ h hm).mono ?_
    rw [hI]
    rintro e w1 ⟨rfl, b1⟩
    go_wp2_with fail
    refine (impl_LowShare A l c false _ (h.keep b1)).mono ?_
    rw [ea.out]
    rintro e w2 ⟨rfl, b2⟩
    have B2 := bthru b1 b2
    go_wp2_with fail
    refine (impl_HighShare A l c _ (h.keep B2)).mono ?_
    rw [eh.out]
    rintro e w3 ⟨rfl, b3⟩
    have B3 := bthru B2 b3
    go_wp2_with fail
    refine (impl_plus (ua l) (uh l) _ ra rh).mono ?_
    rintro e w4 ⟨rfl, b4⟩
    have B4 := bthru B3 b4
    go_wp2_with fail
    refine (impl_fits (ua l + uh l) _).mono ?_
    rintro e w5 ⟨rfl, b5⟩
    go_wp2_with fail
    go_ret
    exact ⟨by rw [Hf.out]; rfl, bthru B4 b5⟩

theorem heap2 (w : World) (A B : Obj) : ((w.alloc A).alloc B).heap[w.heap.size]? = some A ∧ ((w.alloc A).alloc B).heap[w.heap.size + 1]? = some B := by
  refine ⟨?_, ?_⟩
  · show ((w.heap.push A).push B)[_]? = _
    rw [Array.getElem?_push, if_neg (by simp), Array.getElem?_push, if_pos rfl]
  · show ((w.heap.push A).push B)[_]? = _
    rw [Array.getElem?_push, if_pos (by simp)]
theorem facV_no {l : List Tk} (hp : hldPlain l = false) (h : impl_ l = false ∨ facNo l = true) : facV l = .tuple #[sv 0 0, .bool false] := by
  unfold facV
  rw [hp]
  rcases h with h | h <;> simp [h]
theorem plain_no {l : List Tk} (h : impl_ l = false) : hldPlain l = false := by simp [hldPlain, h]
theorem facNo_1 {l : List Tk} (h : fitsR (ua l + ub l) = false) : facNo l = true := by simp [facNo, h]
theorem facNo_2 {l : List Tk} (h : ((ua l).num == ((ua l).den : Int)) = true) : facNo l = true := by simp [facNo, h]

set_option maxHeartbeats 1000000 in
theorem impl_FactorOf (A : Option Addr) (l : List Tk) (c : Nat) (w : World) (h : TS w A l) (hm : l.length ≤ maxLen) :
    Calls Tryz.prog 28 #[.slice A l.length c] w fun e w' => e = .returned (facV l) ∧ Below w.heap.size w w' := by
  cases hI : impl_ l with
  | false =>
    have Hf := Lib.hid (facV_no (plain_no hI) (.inl hI))
    go_enter Tryz.func28, Tryz.ntmps28
    go_wp2_with fail
    refine (impl_Implicit A l c _ (h.keep (bal (Below.refl _ _) _)) hm).mono ?_
    rw [hI]
    rintro e w1 ⟨rfl, b1⟩
    have hB := (b1.block w.heap.size (by simp)).trans (heap_alloc_new w _)
    obtain ⟨x0, x1, xf⟩ := blk_two hB
    clear hB
    go_wp2_with fail
    refine bodyPost_ret (v := .tuple #[sv 0 0, .bool false]) (by simp [results, Tryz.results28, go_sem, x0, x1]) rfl ⟨by rw [Hf.out], ?_⟩
    exact bst (bst (bthru (bal (Below.refl _ _) _) b1) (p := ⟨w.heap.size, 0, none⟩) (Nat.le_refl _) _) (p := ⟨w.heap.size, 1, none⟩) (Nat.le_refl _) _
  | true =>
    have hs := impl_vld hI
    have ea : Hid (sumV l false false = rv (ua l)) := sumV_yes hs false false
    have eb : Hid (sumV l true false = rv (ub l)) := sumV_yes hs true false
    have ra := RIn_shares hs false false
    have rb := RIn_shares hs true false
    change RIn (ua l) at ra
    change RIn (ub l) at rb
    have HS := Lib.hid hs
    clear hs
    go_enter Tryz.func28, Tryz.ntmps28
    go_wp2_with fail
    refine (impl_Implicit A l c _ (h.keep (bal (Below.refl _ _) _)) hm).mono ?_
    rw [hI]
    rintro e w1 ⟨rfl, b1⟩
    have B1 := bthru (bal (Below.refl w.heap.size w) _) b1
    go_wp2_with fail
    refine (impl_HoldsPlain A l c _ (h.keep B1) hm).mono ?_
    cases hP : hldPlain l with
    | true =>
      have Hf : Hid (facV l = .tuple #[sv 1 1, .bool true]) := by simp [Hid, facV, hP]
      rintro e w2 ⟨rfl, b2⟩
      have B2 := bthru B1 b2
      have hB := (bthru b1 b2).block w.heap.size (by simp)
      have hB := hB.trans (heap_alloc_new w _)
      obtain ⟨x0, x1, xf⟩ := blk_two hB
      clear hB
      go_wp2_with fail
      refine bodyPost_ret (v := .tuple #[sv 1 1, .bool true]) (by simp [results, Tryz.results28, go_sem, x0, x1]) rfl ⟨by rw [Hf.out], ?_⟩
      exact bst (bst B2 (p := ⟨w.heap.size, 0, none⟩) (Nat.le_refl _) _) (p := ⟨w.heap.size, 1, none⟩) (Nat.le_refl _) _
    | false =>
      rintro e w2 ⟨rfl, b2⟩
      have B2 := bthru B1 b2
      have HB2 := Lib.hid (((bthru b1 b2).block w.heap.size (by simp)).trans (heap_alloc_new w _))
      go_wp2_with fail
      refine (impl_LowShare A l c false _ (h.keep B2)).mono ?_
      rw [ea.out]
      rintro e w3 ⟨rfl, b3⟩
      have B3 := bthru B2 b3
      go_wp2_with fail
      refine (impl_LowShare A l c true _ (h.keep B3)).mono ?_
      rw [eb.out]
      rintro e w4 ⟨rfl, b4⟩
      have B4 := bthru B3 b4
      have hz : w.heap.size < w4.heap.size := by have := b1.size; have := b2.size; have := b3.size; have := b4.size; simp only [World.size_alloc] at *; omega
      have HB4 := Lib.hid (((bthru b3 b4).block w.heap.size (by have := b1.size; have := b2.size; simp only [World.size_alloc] at *; omega)).trans HB2.out)
      go_wp2_with fail
      refine (impl_plus (ua l) (ub l) _ ra rb).mono ?_
      rintro e w5 ⟨rfl, b5⟩
      have B5 := bthru (bal (bal B4 _) _) b5
      have hz5 := b5.size
      simp only [World.size_alloc] at hz5
      obtain ⟨q0, q1⟩ := heap2 w4 (.cells #[.int .i64 (ua l).num, .int .i64 ((ua l).den : Int)] 54) (.cells #[.int .i64 (ub l).num, .int .i64 ((ub l).den : Int)] 54)
      have q0 := Lib.hid ((b5.block w4.heap.size (by simp; omega)).trans q0)
      have q1 := Lib.hid ((b5.block (w4.heap.size + 1) (by simp)).trans q1)
      have q2 := Lib.hid ((b5.block w.heap.size (by simp; omega)).trans ((Below.heap_alloc _ _ _ (by simp; omega)).trans ((Below.heap_alloc _ _ _ hz).trans HB4.out)))
      go_wp2_with fail
      refine (impl_fits (ua l + ub l) _).mono ?_
      rintro e w6 ⟨rfl, b6⟩
      have B6 := bthru B5 b6
      have hz6 := b6.size
      have k2 := (b6.block w.heap.size (by omega)).trans q2.out
      have k0 := (b6.block w4.heap.size (by omega)).trans q0.out
      have k1 := (b6.block (w4.heap.size + 1) (by omega)).trans q1.out
      clear q0 q1 q2 HB2 HB4
      obtain ⟨z0, z1, zf⟩ := blk_two k2
      obtain ⟨x0, x1, xf⟩ := blk_two k0
      obtain ⟨y0, y1, yf⟩ := blk_two k1
      have K2 := Lib.hid k2
      have K0 := Lib.hid k0
      have K1 := Lib.hid k1
      clear k0 k1 k2
      cases hfit : fitsR (ua l + ub l) with
      | false =>
        have Hf := Lib.hid (facV_no hP (.inr (facNo_1 hfit)))
        clear hfit
        go_wp2_with fail
        refine bodyPost_ret (v := .tuple #[sv 0 0, .bool false]) (by simp [results, Tryz.results28, go_sem, z0, z1]) rfl ⟨by rw [Hf.out], ?_⟩
        exact bst (bst B6 (p := ⟨w.heap.size, 0, none⟩) (Nat.le_refl _) _) (p := ⟨w.heap.size, 1, none⟩) (Nat.le_refl _) _
      | true =>
        cases hne : ((ua l).num == ((ua l).den : Int)) with
        | true =>
          have Hf := Lib.hid (facV_no hP (.inr (facNo_2 hne)))
          clear hfit
          go_wp2_with fail
          refine bodyPost_ret (v := .tuple #[sv 0 0, .bool false]) (by simp [results, Tryz.results28, go_sem, z0, z1]) rfl ⟨by rw [Hf.out], ?_⟩
          exact bst (bst B6 (p := ⟨w.heap.size, 0, none⟩) (Nat.le_refl _) _) (p := ⟨w.heap.size, 1, none⟩) (Nat.le_refl _) _
        | false =>
          have hno : facNo l = false := by simp [facNo, hfit, hne]
          have hok := facOk HS.out hno
          have Hf : Hid (facV l = .tuple #[rv (facR l), .bool true]) := by simp [Hid, facV, hP, hI, hno]
          have hfr : Hid (facR l = mkRat ((ub l).num * (ua l).den) (((ub l).den : Int) * ((ua l).den - (ua l).num)).toNat) := rfl
          obtain ⟨m1, m2, m3, m4, m5, m6, m7, m8, m9, m10, m11, m12⟩ := hok
          obtain ⟨ra1, ra2, ra3, ra4⟩ := RIn_bds ra
          obtain ⟨rb1, rb2, rb3, rb4⟩ := RIn_bds rb
          clear hfit hno ra rb m10 m11 m12
          go_wp2_with fail
          refine (impl_reducedI _ _ _ m6 m8 (by omega) (by omega)).mono ?_
          rw [← hfr.out]
          rintro e w7 ⟨rfl, b7⟩
          have B7 := bthru B6 b7
          have k2 := (b7.block w.heap.size (by omega)).trans K2.out
          clear z0 z1 zf x0 x1 xf y0 y1 yf
          obtain ⟨z0, z1, zf⟩ := blk_two k2
          clear k2
          generalize facR l = f at *
          go_wp2_with fail
          refine bodyPost_ret (v := .tuple #[rv f, .bool true]) (by simp [results, Tryz.results28, go_sem, z0, z1]) rfl ⟨by rw [Hf.out], ?_⟩
          exact bst (bst B7 (p := ⟨w.heap.size, 0, none⟩) (Nat.le_refl _) _) (p := ⟨w.heap.size, 1, none⟩) (Nat.le_refl _) _
end Go.Proofs.YtmkjmancmiphfaaGreatDoor
