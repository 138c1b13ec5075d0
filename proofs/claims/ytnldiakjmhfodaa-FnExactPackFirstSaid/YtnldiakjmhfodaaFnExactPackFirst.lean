/-
  FnExactPackFirst returns true for all arguments, and leaves them as they were.
-/
import Derived.Test.YtnldiakjmhfodaaPackFS
import Derived.Test.YtnldiakjmhfodaaMarkI
import Derived.Test.YtnldiakjmhfodaaLawKit2
import Derived.Test.YtnldiakjmhfodaaOpen
import Derived.Test.YtnldiakjmhfodaaMark
namespace Go.Proofs.Ytnldiakjmhfodaa
open Go.RowKit

set_option maxHeartbeats 1000000 in
theorem law_FnExactPackFirst (A0 : Option Addr) (l0 : List Tk) (c0 : Nat) (x1 : Int) (x2 : Int) (w : World) (h0 : TS w A0 l0) (hl0 : l0.length ≤ maxLen) (hx1 : (Lit.int .i64 x1).wf = true) (hx2 : (Lit.int .i64 x2).wf = true) :
    Calls Try.prog 4 #[.slice A0 l0.length c0, .int .i64 x1, .int .i64 x2] w fun e w' => e = .returned (.bool true) ∧ Below w.heap.size w w' := by
  unfold maxLen at hl0
  have hw1 := int_wf hx1
  clear hx1
  have hw2 := int_wf hx2
  clear hx2
  by_cases hs0 : l0.length ≤ 1048576
  case neg =>
    go_enter Try.func4, Try.ntmps4
    go_wp2_with (go_at_call 29; refine (laws_szTaskS_no _ _ _ _ _ (by omega) (by omega) (by omega) (by omega)).mono ?_; rintro e w1 ⟨rfl, rfl⟩)
    go_ret
    exact ⟨rfl, Below.refl _ _⟩
  go_enter Try.func4, Try.ntmps4
  go_wp2_with (go_at_call 29; refine (laws_szTaskS _ _ _ _ _ (by omega) (by omega)).mono ?_; rintro e w1 ⟨rfl, rfl⟩)
  refine (laws_toTaskS A0 l0 c0 _ (h0.keep (Below.refl _ _)) hs0).mono ?_
  rintro e w1 ⟨Pw1, pw1, rfl, ow1, bw1⟩
  have rw1 : Rng Pw1 w.heap.size w1.heap.size := OT_rng ow1
  have zw1 : w.heap.size ≤ w1.heap.size := bw1.size
  have Bw1 : Below w.heap.size w w1 := bthru (Below.refl _ _) bw1
  go_wp2_with fail
  refine (spec_PackFirst Pw1 l0 pw1 x1 x2 _ ow1.ts (by unfold maxLen; omega) (own_size ow1).1).mono ?_
  rintro e w2 ⟨Pw2_0, pw2_0, rfl, ow2_0, bw2⟩
  have oT1_w2 := OT_keep ow1 bw2
  clear ow1
  have rw2_0 : Rng Pw2_0 w1.heap.size w2.heap.size := OI_rng ow2_0
  have zw2 : w1.heap.size ≤ w2.heap.size := bw2.size
  have Bw2 : Below w.heap.size w w2 := bthru Bw1 bw2
  go_wp2_with fail
  refine (laws_toTaskS A0 l0 c0 _ (h0.keep Bw2) hs0).mono ?_
  rintro e w3 ⟨Pw3, pw3, rfl, ow3, bw3⟩
  have ow0_w3 := OI_keep ow2_0 bw3
  clear ow2_0
  have rw3 : Rng Pw3 w2.heap.size w3.heap.size := OT_rng ow3
  have zw3 : w2.heap.size ≤ w3.heap.size := bw3.size
  have Bw3 : Below w.heap.size w w3 := bthru Bw2 bw3
  go_wp2_with fail
  refine (impl_PackFirst Pw3 l0 pw3 x1 x2 _ ow3.ts (by unfold maxLen; omega) (own_size ow3).1).mono ?_
  rintro e w4 ⟨Pw4_0, pw4_0, rfl, ow4_0, bw4⟩
  have ow0_w4 := OI_keep ow0_w3 bw4
  clear ow0_w3
  have ox0_w4 := OT_keep ow3 bw4
  clear ow3
  have rw4_0 : Rng Pw4_0 w3.heap.size w4.heap.size := OI_rng ow4_0
  have zw4 : w3.heap.size ≤ w4.heap.size := bw4.size
  have Bw4 : Below w.heap.size w w4 := bthru Bw3 bw4
  go_wp2_with fail
  refine (laws_eqIntS Pw4_0 Pw2_0 (ffL l0 x1 x2) (ffL l0 x1 x2) pw4_0 pw2_0 _ ow4_0.is ow0_w4.is (by have := ffL_le l0 x1 x2; omega)).mono ?_
  rintro e w5 ⟨rfl, bw5⟩
  simp only [decide_true]
  have ow0_w5 := OI_keep ow0_w4 bw5
  clear ow0_w4
  have ox0_w5 := OT_keep ox0_w4 bw5
  clear ox0_w4
  have og0_w5 := OI_keep ow4_0 bw5
  clear ow4_0
  have Bw5 : Below w.heap.size w w5 := bthru Bw4 bw5
  go_wp2_with fail
  refine (laws_toTaskS A0 l0 c0 _ (h0.keep Bw5) hs0).mono ?_
  rintro e w6 ⟨Pw6, pw6, rfl, ow6, bw6⟩
  have ow0_w6 := OI_keep ow0_w5 bw6
  clear ow0_w5
  have ox0_w6 := OT_keep ox0_w5 bw6
  clear ox0_w5
  have og0_w6 := OI_keep og0_w5 bw6
  clear og0_w5
  have rw6 : Rng Pw6 w5.heap.size w6.heap.size := OT_rng ow6
  have zw6 : w5.heap.size ≤ w6.heap.size := bw6.size
  have Bw6 : Below w.heap.size w w6 := bthru Bw5 bw6
  go_wp2_with fail
  refine (laws_eqTaskS Pw3 Pw6 l0 l0 pw3 pw6 _ ox0_w6.ts ow6.ts (by omega)).mono ?_
  rintro e w7 ⟨rfl, bw7⟩
  simp only [decide_true]
  have ow0_w7 := OI_keep ow0_w6 bw7
  clear ow0_w6
  have ox0_w7 := OT_keep ox0_w6 bw7
  clear ox0_w6
  have og0_w7 := OI_keep og0_w6 bw7
  clear og0_w6
  have oT2_w7 := OT_keep ow6 bw7
  clear ow6
  have Bw7 : Below w.heap.size w w7 := bthru Bw6 bw7
  go_wp2_with fail
  refine (laws_markTaskS w2.heap.size Pw3 l0 pw3 1 _ ox0_w7 (by omega) (by omega) (by omega)).mono ?_
  rintro e w8 ⟨rfl, ow8, gw8⟩
  have ow0_w8 := OI_apart ow0_w7 gw8 (rng_ne rw2_0 rw3 (by omega))
  clear ow0_w7
  have og0_w8 := OI_apart og0_w7 gw8 (rng_ne rw4_0 rw3 (by omega))
  clear og0_w7
  have Bw8 : Below w.heap.size w w8 := bmarkT Bw7 ox0_w7 gw8 (by omega)
  clear ox0_w7
  go_wp2_with fail
  refine (laws_eqIntS Pw4_0 Pw2_0 (ffL l0 x1 x2) (ffL l0 x1 x2) pw4_0 pw2_0 _ og0_w8.is ow0_w8.is (by have := ffL_le l0 x1 x2; omega)).mono ?_
  rintro e w9 ⟨rfl, bw9⟩
  simp only [decide_true]
  have ow0_w9 := OI_keep ow0_w8 bw9
  clear ow0_w8
  have ox0_w9 := OT_keep ow8 bw9
  clear ow8
  have og0_w9 := OI_keep og0_w8 bw9
  clear og0_w8
  have Bw9 : Below w.heap.size w w9 := bthru Bw8 bw9
  go_wp2_with fail
  refine (laws_markIntS w3.heap.size Pw4_0 (ffL l0 x1 x2) pw4_0 1 _ og0_w9 (by have := ffL_le l0 x1 x2; omega) (by omega) (by omega)).mono ?_
  rintro e w10 ⟨rfl, ow10, gw10⟩
  have ow0_w10 := OI_apart ow0_w9 gw10 (rng_ne rw2_0 rw4_0 (by omega))
  clear ow0_w9
  have ox0_w10 := OT_apart ox0_w9 gw10 (rng_ne rw3 rw4_0 (by omega))
  clear ox0_w9
  have Bw10 : Below w.heap.size w w10 := bmarkI Bw9 og0_w9 gw10 (by omega)
  clear og0_w9
  go_wp2_with fail
  refine (laws_heldIntS Pw4_0 ((ffL l0 x1 x2).length) pw4_0 1 _ ow10.is (by have := ffL_le l0 x1 x2; omega) (by omega) (by omega)).mono ?_
  rintro e w11 ⟨rfl, rfl⟩
  go_wp2_with fail
  refine (laws_toTaskS A0 l0 c0 _ (h0.keep Bw10) hs0).mono ?_
  rintro e w12 ⟨Pw12, pw12, rfl, ow12, bw12⟩
  have ow0_w12 := OI_keep ow0_w10 bw12
  clear ow0_w10
  have ox0_w12 := OT_keep ox0_w10 bw12
  clear ox0_w10
  have og0_w12 := OI_keep ow10 bw12
  clear ow10
  have rw12 : Rng Pw12 w10.heap.size w12.heap.size := OT_rng ow12
  have zw12 : w10.heap.size ≤ w12.heap.size := bw12.size
  have Bw12 : Below w.heap.size w w12 := bthru Bw10 bw12
  go_wp2_with fail
  refine (impl_PackFirst Pw12 l0 pw12 x1 x2 _ ow12.ts (by unfold maxLen; omega) (own_size ow12).1).mono ?_
  rintro e w13 ⟨Pw13_0, pw13_0, rfl, ow13_0, bw13⟩
  have ow0_w13 := OI_keep ow0_w12 bw13
  clear ow0_w12
  have ox0_w13 := OT_keep ox0_w12 bw13
  clear ox0_w12
  have og0_w13 := OI_keep og0_w12 bw13
  clear og0_w12
  have oT3_w13 := OT_keep ow12 bw13
  clear ow12
  have rw13_0 : Rng Pw13_0 w12.heap.size w13.heap.size := OI_rng ow13_0
  have zw13 : w12.heap.size ≤ w13.heap.size := bw13.size
  have Bw13 : Below w.heap.size w w13 := bthru Bw12 bw13
  go_wp2_with fail
  refine (laws_eqIntS Pw13_0 Pw2_0 (ffL l0 x1 x2) (ffL l0 x1 x2) pw13_0 pw2_0 _ ow13_0.is ow0_w13.is (by have := ffL_le l0 x1 x2; omega)).mono ?_
  rintro e w14 ⟨rfl, bw14⟩
  simp only [decide_true]
  have ow0_w14 := OI_keep ow0_w13 bw14
  clear ow0_w13
  have ox0_w14 := OT_keep ox0_w13 bw14
  clear ox0_w13
  have og0_w14 := OI_keep og0_w13 bw14
  clear og0_w13
  have oh0_w14 := OI_keep ow13_0 bw14
  clear ow13_0
  have Bw14 : Below w.heap.size w w14 := bthru Bw13 bw14
  go_wp2_with fail
  refine (laws_heldIntS Pw4_0 ((ffL l0 x1 x2).length) pw4_0 1 _ og0_w14.is (by have := ffL_le l0 x1 x2; omega) (by omega) (by omega)).mono ?_
  rintro e w15 ⟨rfl, rfl⟩
  go_wp2_with fail
  go_ret
  exact ⟨rfl, Bw14⟩

open Go.ChangeShapes Go.WideShapes Go.ChangeAt Go.WideElems Go.Deep

set_option maxRecDepth 100000 in
theorem FnExactPackFirst_lifted (os : Os) (started : os.Started) (H : Type) (enc : TypeId × Value → H) :
    ReturnsInHanded {} Try.checked os 4 .any (Rows.fnExactPackFirstSpec.pre6 enc Try.prog Try.f4 Rows.fnExactPackFirstRow.domain false) (Rows.fnExactPackFirstSpec.post enc Try.prog Try.f4 false true false false) := by
  refine returnsInHanded_of_change (C := Try.checked) own started (by as_aux_lemma => kernel_rfl) Try.func4
    (ChangeSpec.witness6 (enc := enc) (C := Try.checked) false ⟨#[], #[.slice none 0 0, .int .i64 0, .int .i64 0], []⟩ 8 (by as_aux_lemma => kernel_rfl) (by as_aux_lemma => kernel_rfl) (by as_aux_lemma => kernel_rfl) (by as_aux_lemma => kernel_rfl)) ?_
  intro W base args ds gs before hval0 hW _ _
  have hval : ∀ (j : Nat) t v, Try.f4.params[j]? = some t → args[j]? = some v → Value.okWide Try.prog W .any base t v := hval0
  have hW' := hW
  obtain ⟨p, q, hA0, hV, rfl, _, _⟩ := hW
  have hA : DataW.TrodAll enc Try.prog W 0 (fun _ => true) true Try.f4.params.toList args.toList ds p := hA0
  rw [Try.params4] at hA hval
  obtain ⟨v0, v1, v2, d0, d1, d2, p0, p1, p2, rfl, rfl, rfl, h0, h1, h2⟩ := trodAll_three hA
  obtain ⟨rfl, rfl⟩ := trodVars_none hV
  clear hA0 hval0
  simp only [List.append_nil] at hW'
  have hlt : ∀ x ∈ p0 ++ (p1 ++ p2), x.block < W.heap.size := fun x hx => hW'.lt x (by simpa using hx)
  have hargs : ∀ W', Below W.heap.size W W' → DataW.TrodAll enc Try.prog W' 0 (fun b => decide (b < W.heap.size)) true [22, 3, 3] [v0, v1, v2] [d0, d1, d2] (p0 ++ (p1 ++ p2)) := fun W' hb =>
    trodAll_mk3 (Below.trod laidOut (by as_aux_lemma => kernel_rfl) (of_decide_eq_true (by as_aux_lemma => kernel_rfl)) h0 hb (fun x hx => hlt x (by simp [hx]))) (Below.trod laidOut (by as_aux_lemma => kernel_rfl) (of_decide_eq_true (by as_aux_lemma => kernel_rfl)) h1 hb (fun x hx => hlt x (by simp [hx]))) (Below.trod laidOut (by as_aux_lemma => kernel_rfl) (of_decide_eq_true (by as_aux_lemma => kernel_rfl)) h2 hb (fun x hx => hlt x (by simp [hx])))
  obtain ⟨A0, l0, c0, rfl, hl0, hlm0⟩ := open_tasks Try.underlying22 Try.underlying24 (by as_aux_lemma => kernel_rfl) (by as_aux_lemma => kernel_rfl) Try.underlying3 Try.underlying4 rfl rfl rfl rfl rfl (okWide_slice Try.underlying22 (hval 0 _ v0 rfl rfl)) h0
  obtain ⟨x1, rfl, _, _, wx1⟩ := open_int Try.underlying3 (hval 1 _ v1 rfl rfl) h1
  obtain ⟨x2, rfl, _, _, wx2⟩ := open_int Try.underlying3 (hval 2 _ v2 rfl rfl) h2
  refine (law_FnExactPackFirst A0 l0 c0 x1 x2 W hl0 hlm0 wx1 wx2).mono fun e W' ⟨he, hb⟩ => ?_
  subst he
  exact ⟨_, rfl, ⟨_, _, _, [], _, [], hW', trodAll_mk1 (shut_bool Try.underlying4 _), hargs W' hb, rfl, hb.frame _, fun h => by cases h⟩⟩

theorem FnExactPackFirst_joined : joinedFacts Try.prog 4 Try.f4 Rows.fnExactPackFirstSpec Rows.fnExactPackFirstRow = true :=
  joined_mk (by as_aux_lemma => kernel_rfl) laidOut mapsRowed_ok (by as_aux_lemma => kernel_rfl) (by as_aux_lemma => kernel_rfl) (by as_aux_lemma => kernel_rfl) stops_ok (by as_aux_lemma => kernel_rfl) knobs_ok (by as_aux_lemma => kernel_rfl) (by as_aux_lemma => kernel_rfl) (by as_aux_lemma => kernel_rfl) (by as_aux_lemma => kernel_rfl) (by as_aux_lemma => kernel_rfl) (by as_aux_lemma => kernel_rfl) (by as_aux_lemma => kernel_rfl) (by as_aux_lemma => kernel_rfl) (by as_aux_lemma => kernel_rfl) (by as_aux_lemma => kernel_rfl) (by as_aux_lemma => kernel_rfl) (by as_aux_lemma => kernel_rfl) (by as_aux_lemma => kernel_rfl) (by rw [keys_ok]; rfl) (by as_aux_lemma => kernel_rfl) heard_ok enter_ok (by rw [lifts_ok]; rfl) (by rw [make_ok]; rfl) (by as_aux_lemma => kernel_rfl) (by as_aux_lemma => kernel_rfl) (by as_aux_lemma => kernel_rfl) (by as_aux_lemma => kernel_rfl)

theorem FnExactPackFirst_holds : Rows.FnExactPackFirstSaid :=
  OpenClaim.holds_of_wide 4 Try.f4 rfl rfl rfl rfl rfl rfl rfl ⟨rfl, rfl, rfl, rfl, rfl⟩ rfl rfl rfl rfl rfl (by as_aux_lemma => kernel_rfl) Try.func4 FnExactPackFirst_joined
    (of_decide_eq_true (by as_aux_lemma => kernel_rfl)) (by unfold Func.isWrapper; rw [if_neg (by decide +kernel)]; exact ⟨rfl, rfl⟩)
    (fun os started H enc _ => FnExactPackFirst_lifted os started H enc)
#print axioms FnExactPackFirst_holds
end Go.Proofs.Ytnldiakjmhfodaa
