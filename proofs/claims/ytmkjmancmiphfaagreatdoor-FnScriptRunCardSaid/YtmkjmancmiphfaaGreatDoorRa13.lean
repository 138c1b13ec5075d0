/-
  FactorOf: the reference's.
-/
import Derived.Test.YtmkjmancmiphfaaGreatDoorRa12
namespace Go.Proofs.YtmkjmancmiphfaaGreatDoor
open Go.RowKit

theorem red_parts {N D : Int} (h0 : 0 ≤ N) (h1 : 1 ≤ D) : ∃ h : Nat, h = Nat.gcd D.toNat N.toNat ∧ 0 < h ∧ (h : Int) ≤ D ∧ N.tdiv (h : Int) = (mkRat N D.toNat).num ∧ D.tdiv (h : Int) = ((mkRat N D.toNat).den : Int) := by
  obtain ⟨n, rfl⟩ : ∃ k : Nat, N = (k : Int) := ⟨N.toNat, (Int.toNat_of_nonneg h0).symm⟩
  obtain ⟨d, rfl⟩ : ∃ k : Nat, D = (k : Int) := ⟨D.toNat, (Int.toNat_of_nonneg (by omega)).symm⟩
  simp only [Int.toNat_natCast]
  have hd : d ≠ 0 := by omega
  have hg : 0 < Nat.gcd d n := Nat.gcd_pos_of_pos_left _ (by omega)
  have hle : Nat.gcd d n ≤ d := Nat.le_of_dvd (by omega) (Nat.gcd_dvd_left _ _)
  refine ⟨_, rfl, hg, by omega, ?_, ?_⟩
  · rw [mkRat_num _ _ hd, Nat.gcd_comm, Int.tdiv_eq_ediv_of_nonneg (by omega)]; simp
  · rw [mkRat_den _ _ hd, Nat.gcd_comm, Int.tdiv_eq_ediv_of_nonneg (by omega)]; simp

set_option maxHeartbeats 4000000 in
set_option maxRecDepth 100000 in
theorem spec_FactorOf (A : Option Addr) (l : List Tk) (c : Nat) (w : World) (h : TS w A l) (hm : l.length ≤ maxLen) :
    Calls Tryz.prog 67 #[.slice A l.length c] w fun e w' => e = .returned (facV l) ∧ Below w.heap.size w w' := by
  cases hI : impl_ l with
  | false =>
    have Hf := Lib.hid (facV_no (plain_no hI) (.inl hI))
    go_enter Tryz.func67, Tryz.ntmps67
    go_wp2_with fail
    refine (spec_Implicit A l c _ (h.keep (bal (Below.refl _ _) _)) hm).mono ?_
    rw [hI]
    rintro e w1 ⟨rfl, b1⟩
    have hB := (b1.block w.heap.size (by simp)).trans (heap_alloc_new w _)
    obtain ⟨x0, x1, xf⟩ := blk_two hB
    clear hB
    go_wp2_with fail
    refine bodyPost_ret (v := .tuple #[sv 0 0, .bool false]) (by simp [results, Tryz.results67, go_sem, x0, x1]) rfl ⟨by rw [Hf.out], ?_⟩
    exact bst (bst (bthru (bal (Below.refl _ _) _) b1) (p := ⟨w.heap.size, 0, none⟩) (Nat.le_refl _) _) (p := ⟨w.heap.size, 1, none⟩) (Nat.le_refl _) _
  | true =>
    have hs := impl_vld hI
    have ea : Hid (sumV l false false = rv (ua l)) := sumV_yes hs false false
    have eb : Hid (sumV l true false = rv (ub l)) := sumV_yes hs true false
    have ra := RIn_shares hs false false
    have rb := RIn_shares hs true false
    have rs : Hid (RIn (ua l + ub l)) := (RIn_plain hs).2
    change RIn (ua l) at ra
    change RIn (ub l) at rb
    have HS := Lib.hid hs
    clear hs
    go_enter Tryz.func67, Tryz.ntmps67
    go_wp2_with fail
    refine (spec_Implicit A l c _ (h.keep (bal (Below.refl _ _) _)) hm).mono ?_
    rw [hI]
    rintro e w1 ⟨rfl, b1⟩
    have B1 := bthru (bal (Below.refl w.heap.size w) _) b1
    go_wp2_with fail
    refine (spec_HoldsPlain A l c _ (h.keep B1) hm).mono ?_
    cases hP : hldPlain l with
    | true =>
      have Hf : Hid (facV l = .tuple #[sv 1 1, .bool true]) := by simp [Hid, facV, hP]
      rintro e w2 ⟨rfl, b2⟩
      have B2 := bthru B1 b2
      have hz1 := b1.size
      have hz2 := b2.size
      simp only [World.size_alloc] at hz1
      go_wp2_with fail
      refine (spec_l5One _).mono ?_
      rintro e w3 ⟨rfl, b3⟩
      have hB := (b3.block w.heap.size (by omega)).trans ((bthru b1 b2).block w.heap.size (by simp))
      have hB := hB.trans (heap_alloc_new w _)
      obtain ⟨x0, x1, xf⟩ := blk_two hB
      clear hB
      go_wp2_with fail
      refine bodyPost_ret (v := .tuple #[sv 1 1, .bool true]) (by simp [results, Tryz.results67, go_sem, x0, x1]) rfl ⟨by rw [Hf.out], ?_⟩
      exact bst (bst (bthru B2 b3) (p := ⟨w.heap.size, 0, none⟩) (Nat.le_refl _) _) (p := ⟨w.heap.size, 1, none⟩) (Nat.le_refl _) _
    | false =>
      rintro e w2 ⟨rfl, b2⟩
      have B2 := bthru B1 b2
      have HB2 := Lib.hid (((bthru b1 b2).block w.heap.size (by simp)).trans (heap_alloc_new w _))
      have hz2 : w.heap.size < w2.heap.size := by have := b1.size; have := b2.size; simp only [World.size_alloc] at *; omega
      go_wp2_with fail
      refine (spec_LowShare A l c false _ (h.keep B2) hm).mono ?_
      rw [ea.out]
      rintro e w3 ⟨rfl, b3⟩
      have B3 := bthru B2 b3
      have hz3 := b3.size
      have HB3 := Lib.hid ((b3.block w.heap.size hz2).trans HB2.out)
      go_wp2_with fail
      refine (spec_LowShare A l c true _ (h.keep (bal B3 _)) hm).mono ?_
      rw [eb.out]
      rintro e w4 ⟨rfl, b4⟩
      have B4 := bthru (bal B3 _) b4
      have hz4 := b4.size
      simp only [World.size_alloc] at hz4
      have k0 := (b4.block w3.heap.size (by simp)).trans (heap_alloc_new w3 _)
      have HB4 := Lib.hid ((b4.block w.heap.size (by simp; omega)).trans ((Below.heap_alloc _ _ _ (by omega)).trans HB3.out))
      obtain ⟨x0, x1, xf⟩ := blk_two k0
      have K0 := Lib.hid k0
      clear k0 HB3 HB2
      have hn3 : w3.heap.size < w4.heap.size := by omega
      have hn3' : w3.heap.size ≠ w4.heap.size := by omega
      go_wp2_with fail
      refine (spec_l2Add (ua l) (ub l) _ ra rb rs.out).mono ?_
      rintro e w5 ⟨rfl, b5⟩
      have B5 := bthru (bal B4 _) b5
      have hz5 := b5.size
      simp only [World.size_alloc] at hz5
      have k0 := (b5.block w3.heap.size (by simp; omega)).trans ((Below.heap_alloc _ _ _ hn3).trans K0.out)
      have k1 := (b5.block w4.heap.size (by simp)).trans (heap_alloc_new w4 _)
      have k2 := (b5.block w.heap.size (by simp; omega)).trans ((Below.heap_alloc _ _ _ (by omega)).trans HB4.out)
      clear x0 x1 xf
      have K0 := Lib.hid k0
      have K1 := Lib.hid k1
      have K2 := Lib.hid k2
      clear k0 k1 k2 HB4
      go_wp2_with fail
      obtain ⟨so, hso⟩ : ∃ r, ua l + ub l = r := ⟨_, rfl⟩
      rw [hso] at rs ⊢
      have hfs : Hid (ua l + ub l = so) := hso
      clear hso
      have hB := heap_alloc_new w5 (.cells #[.int .i64 so.num, .int .i64 (so.den : Int)] 54 (0, 0))
      have hB0 := fun o => (Below.heap_alloc w5 o w3.heap.size (by omega)).trans K0.out
      have hB1 := fun o => (Below.heap_alloc w5 o w4.heap.size (by omega)).trans K1.out
      have hB2 := fun o => (Below.heap_alloc w5 o w.heap.size (by omega)).trans K2.out
      have B6 := bal B5 (.cells #[.int .i64 so.num, .int .i64 (so.den : Int)] 54 (0, 0))
      have hz6 : w5.heap.size < (w5.alloc (.cells #[.int .i64 so.num, .int .i64 (so.den : Int)] 54 (0, 0))).heap.size := by simp
      generalize hg : World.alloc w5 _ = wx at hB B6 hz6 ⊢
      replace hB0 := hB0 (.cells #[.int .i64 so.num, .int .i64 (so.den : Int)] 54 (0, 0))
      replace hB1 := hB1 (.cells #[.int .i64 so.num, .int .i64 (so.den : Int)] 54 (0, 0))
      replace hB2 := hB2 (.cells #[.int .i64 so.num, .int .i64 (so.den : Int)] 54 (0, 0))
      rw [hg] at hB0 hB1 hB2
      have hzx0 : w3.heap.size < wx.heap.size := by omega
      have hzx1 : w4.heap.size < wx.heap.size := by omega
      have hzx2 : w.heap.size < wx.heap.size := by omega
      have HB0 := Lib.hid hB0
      have HB1 := Lib.hid hB1
      have HB2 := Lib.hid hB2
      have HBs := Lib.hid hB
      clear hg hB0 hB1 hB2 hB K0 K1 K2
      have hq := cmp1_gt so
      have hq2 := cmp1_eq (ua l)
      have S_of : ∀ w' : World, Below wx.heap.size wx w' → w'.cell? ⟨w5.heap.size, 0, none⟩ = some (.int .i64 so.num) ∧ w'.cell? ⟨w5.heap.size, 1, none⟩ = some (.int .i64 (so.den : Int)) ∧ w'.cell? ⟨w3.heap.size, 0, none⟩ = some (.int .i64 (ua l).num) ∧ w'.cell? ⟨w3.heap.size, 1, none⟩ = some (.int .i64 ((ua l).den : Int)) ∧ Below wx.heap.size wx w' := fun w' hw => by
        obtain ⟨h0, h1, _⟩ := blk_two ((hw.block _ hz6).trans HBs.out)
        obtain ⟨h2, h3, _⟩ := blk_two ((hw.block _ hzx0).trans HB0.out)
        exact ⟨h0, h1, h2, h3, hw⟩
      cases hfit : fitsR so with
      | false =>
        have Hf := Lib.hid (facV_no hP (.inr (facNo_1 (by rw [hfs.out]; exact hfit))))
        rw [hfit] at hq
        obtain ⟨s0, s1, _⟩ := blk_two HBs.out
        clear hfit
        first
        | go_region_with (first
            | (go_at_call 66; refine (spec_l5One _).mono ?_; rintro e w6 ⟨rfl, b6⟩; have B7 : Below wx.heap.size wx w6 := bthru (Below.drew (Below.refl _ _)) b6; obtain ⟨t0, t1, _, _, _⟩ := S_of w6 B7)
            | (go_at_call 110; refine (spec_Cmp1 so _ rs.out).mono ?_; rintro e w7 ⟨rfl, b7⟩; have B8 : Below wx.heap.size wx w7 := bthru B7 b7))
        | fail
        all_goals
          have hR := (B8.block w.heap.size hzx2).trans HB2.out
          obtain ⟨z0, z1, zf⟩ := blk_two hR
          clear hR
          go_wp2_with fail
          refine bodyPost_ret (v := .tuple #[sv 0 0, .bool false]) (by simp [results, Tryz.results67, go_sem, z0, z1]) rfl ⟨by rw [Hf.out], ?_⟩
          exact bst (bst (bthru B6 B8) (p := ⟨w.heap.size, 0, none⟩) (Nat.le_refl _) _) (p := ⟨w.heap.size, 1, none⟩) (Nat.le_refl _) _
      | true =>
        have Hfit := Lib.hid hfit
        rw [hfit] at hq
        clear hfit
        have Hra := Lib.hid ra
        have Hrb := Lib.hid rb
        have BB : Below wx.heap.size wx wx := Below.refl _ _
        cases hne : ((ua l).num == ((ua l).den : Int)) with
        | true =>
          have Hf := Lib.hid (facV_no hP (.inr (facNo_2 hne)))
          rw [hne] at hq2
          clear hne ra rb
          go_region_held3 (fun w' => w'.cell? ⟨w5.heap.size, 0, none⟩ = some (.int .i64 so.num) ∧ w'.cell? ⟨w5.heap.size, 1, none⟩ = some (.int .i64 (so.den : Int)) ∧ w'.cell? ⟨w3.heap.size, 0, none⟩ = some (.int .i64 (ua l).num) ∧ w'.cell? ⟨w3.heap.size, 1, none⟩ = some (.int .i64 ((ua l).den : Int)) ∧ Below wx.heap.size wx w')
            ((refine S_of _ ?_; first | assumption | exact Below.drew (Below.refl _ _) | exact (by assumption : _ ∧ _ ∧ _ ∧ _ ∧ Below wx.heap.size wx _).2.2.2.2))
            (first
              | (go_at_call 66; refine (spec_l5One _).mono ?_; rintro e w6 ⟨rfl, b6⟩; have B7 : Below wx.heap.size wx w6 := bthru (by first | assumption | exact (by assumption : _ ∧ _ ∧ _ ∧ _ ∧ Below wx.heap.size wx _).2.2.2.2) b6)
              | (go_at_call 110; refine (spec_Cmp1 _ _ (by first | exact rs.out | exact Hra.out)).mono ?_; rintro e w8 ⟨rfl, b8⟩; have B9 : Below wx.heap.size wx w8 := bthru (by first | assumption | exact (by assumption : _ ∧ _ ∧ _ ∧ _ ∧ Below wx.heap.size wx _).2.2.2.2) b8))
          all_goals
            have B9' := (by first | assumption | exact (by assumption : _ ∧ _ ∧ _ ∧ _ ∧ Below wx.heap.size wx _).2.2.2.2 : Below wx.heap.size wx w8)
            have hR := (B9'.block w.heap.size hzx2).trans HB2.out
            obtain ⟨z0, z1, zf⟩ := blk_two hR
            clear hR
            go_wp2_with fail
            refine bodyPost_ret (v := .tuple #[sv 0 0, .bool false]) (by simp [results, Tryz.results67, go_sem, z0, z1]) rfl ⟨by rw [Hf.out], ?_⟩
            exact bst (bst (bthru B6 B9') (p := ⟨w.heap.size, 0, none⟩) (Nat.le_refl _) _) (p := ⟨w.heap.size, 1, none⟩) (Nat.le_refl _) _
        | false =>
          have hno : facNo l = false := by simp [facNo, hfs.out, Hfit.out, hne]
          have hok := facOk HS.out hno
          have Hf : Hid (facV l = .tuple #[rv (facR l), .bool true]) := by simp [Hid, facV, hP, hI, hno]
          obtain ⟨m1, m2, m3, m4, m5, m6, m7, m8, m9, m10, m11, m12⟩ := hok
          obtain ⟨hh, hh0, hhp, hhle, hhn, hhd⟩ := red_parts m6 m8
          have efr : mkRat ((ub l).num * ((ua l).den : Int)) (((ub l).den : Int) * (((ua l).den : Int) - (ua l).num)).toNat = facR l := rfl
          rw [efr] at hhn hhd
          obtain ⟨ff, hff⟩ : ∃ f, facR l = f := ⟨_, rfl⟩
          rw [hff] at hhn hhd m10 Hf
          obtain ⟨f1, f2, f3, f4⟩ := RIn_bds m10
          obtain ⟨ra1, ra2, ra3, ra4⟩ := RIn_bds ra
          obtain ⟨rb1, rb2, rb3, rb4⟩ := RIn_bds rb
          have G := fun (w : World) => spec_l1GcdI (((ub l).den : Int) * (((ua l).den : Int) - (ua l).num)) ((ub l).num * ((ua l).den : Int)) w (by omega) m6 (by omega) (by omega)
          rw [← hh0] at G
          have W7 : Hid (IntKind.i64.wrap (((ub l).num * ((ua l).den : Int)).tdiv (hh : Int)) = ff.num) := by rw [Hid, hhn]; exact IntWalk.i64_in _ (by omega)
          have W8 : Hid (IntKind.i64.wrap ((((ub l).den : Int) * (((ua l).den : Int) - (ua l).num)).tdiv (hh : Int)) = (ff.den : Int)) := by rw [Hid, hhd]; exact IntWalk.i64_in _ (by omega)
          have hhz : ((hh : Int) == 0) = false := beq_eq_false_iff_ne.2 (by omega)
          have HG := Lib.hid G
          have Hff := Lib.hid m10
          rw [hne] at hq2
          clear hne ra rb m10 m11 m12 hno efr hff hhn hhd hh0 G
          go_region_held3 (fun w' => w'.cell? ⟨w5.heap.size, 0, none⟩ = some (.int .i64 so.num) ∧ w'.cell? ⟨w5.heap.size, 1, none⟩ = some (.int .i64 (so.den : Int)) ∧ w'.cell? ⟨w3.heap.size, 0, none⟩ = some (.int .i64 (ua l).num) ∧ w'.cell? ⟨w3.heap.size, 1, none⟩ = some (.int .i64 ((ua l).den : Int)) ∧ Below wx.heap.size wx w')
            ((refine S_of _ ?_; first | assumption | exact Below.drew (Below.refl _ _) | exact (by assumption : _ ∧ _ ∧ _ ∧ _ ∧ Below wx.heap.size wx _).2.2.2.2))
            (first
              | (go_at_call 66; refine (spec_l5One _).mono ?_; rintro e w6 ⟨rfl, b6⟩; have B7 : Below wx.heap.size wx w6 := bthru (by first | assumption | exact (by assumption : _ ∧ _ ∧ _ ∧ _ ∧ Below wx.heap.size wx _).2.2.2.2) b6)
              | (go_at_call 110; refine (spec_Cmp1 _ _ (by first | exact rs.out | exact Hra.out)).mono ?_; rintro e w8 ⟨rfl, b8⟩; have B9 : Below wx.heap.size wx w8 := bthru (by first | assumption | exact (by assumption : _ ∧ _ ∧ _ ∧ _ ∧ Below wx.heap.size wx _).2.2.2.2) b8))
          all_goals
            have B9' := (by first | assumption | exact (by assumption : _ ∧ _ ∧ _ ∧ _ ∧ Below wx.heap.size wx _).2.2.2.2 : Below wx.heap.size wx w8)
            clear hq hq2
            have kR := Lib.hid ((B9'.block w.heap.size hzx2).trans HB2.out)
            obtain ⟨x0, x1, xf⟩ := blk_two ((B9'.block w3.heap.size hzx0).trans HB0.out)
            obtain ⟨y0, y1, yf⟩ := blk_two ((B9'.block w4.heap.size hzx1).trans HB1.out)
            have hz8 := B9'.size
            go_wp2_with fail
            refine (HG.out _).mono ?_
            rintro e w9 ⟨rfl, b9⟩
            have hz9 := b9.size
            have kR2 := Lib.hid ((b9.block w.heap.size (by omega)).trans kR.out)
            clear x0 x1 xf y0 y1 yf
            have B10 := bthru (bthru B6 B9') b9
            go_wp2_with fail
            have x7 := W7.out
            have x8 := W8.out
            go_region_with (first
              | (go_at_call 112; refine (spec_MakeShare_rat ff _ Hff.out).mono ?_; rintro e w10 ⟨rfl, c3⟩; have hC3 := (c3.block w.heap.size (by show w.heap.size < w9.heap.size; omega)).trans kR2.out; obtain ⟨y0, y1, yf⟩ := blk_two hC3; have hz3 := c3.size; have B11 := bthru (Below.drew B10) c3; clear hC3))
          all_goals clear x7 x8
          all_goals go_wp2_with fail
          all_goals
            refine bodyPost_ret (v := .tuple #[rv ff, .bool true]) (by simp [results, Tryz.results67, go_sem, y0, y1]) rfl ⟨by rw [Hf.out], ?_⟩
            exact bst (bst B11 (p := ⟨w.heap.size, 0, none⟩) (Nat.le_refl _) _) (p := ⟨w.heap.size, 1, none⟩) (Nat.le_refl _) _
end Go.Proofs.YtmkjmancmiphfaaGreatDoor
