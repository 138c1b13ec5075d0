/-
  FnExactAdmitAll returns true for all arguments, and leaves them as they were.
-/
import Derived.Test.YtnldiakjmhfodaaAdmAllI
import Derived.Test.YtnldiakjmhfodaaS2T
import Derived.Test.YtnldiakjmhfodaaMarkI
import Derived.Test.YtnldiakjmhfodaaLawKit2
import Derived.Test.YtnldiakjmhfodaaOpen
import Derived.Test.YtnldiakjmhfodaaMark
namespace Go.Proofs.Ytnldiakjmhfodaa
open Go.RowKit

set_option maxHeartbeats 1000000 in
theorem law_FnExactAdmitAll (A0 : Option Addr) (l0 : List Tk) (c0 : Nat) (x1 : Int) (w : World) (h0 : TS w A0 l0) (hl0 : l0.length ≤ maxLen) (hx1 : (Lit.int .i64 x1).wf = true) :
    Calls Try.prog 20 #[.slice A0 l0.length c0, .int .i64 x1] w fun e w' => e = .returned (.bool true) ∧ Below w.heap.size w w' := by
  unfold maxLen at hl0
  have hw1 := int_wf hx1
  clear hx1
  by_cases hs0 : l0.length ≤ 1048576
  case neg =>
    go_enter Try.func20, Try.ntmps20
    go_wp2_with (go_at_call 29; refine (laws_szTaskS_no _ _ _ _ _ (by omega) (by omega) (by omega) (by omega)).mono ?_; rintro e w1 ⟨rfl, rfl⟩)
    go_ret
    exact ⟨rfl, Below.refl _ _⟩
  go_enter Try.func20, Try.ntmps20
  go_wp2_with (go_at_call 29; refine (laws_szTaskS _ _ _ _ _ (by omega) (by omega)).mono ?_; rintro e w1 ⟨rfl, rfl⟩)
  refine (laws_toTaskS A0 l0 c0 _ (h0.keep (Below.refl _ _)) hs0).mono ?_
  rintro e w1 ⟨Pw1, pw1, rfl, ow1, bw1⟩
  have rw1 : Rng Pw1 w.heap.size w1.heap.size := OT_rng ow1
  have zw1 : w.heap.size ≤ w1.heap.size := bw1.size
  have Bw1 : Below w.heap.size w w1 := bthru (Below.refl _ _) bw1
  go_wp2_with fail
  refine (spec_AdmitAll Pw1 l0 pw1 x1 _ ow1.ts (by unfold maxLen; omega)).mono ?_
  rintro e w2 ⟨Pw2_0, pw2_0, Pw2_1, pw2_1, rfl, ow2_0, ow2_1, bw2⟩
  have oT1_w2 := OT_keep ow1 bw2
  clear ow1
  have rw2_0 : Rng Pw2_0 w1.heap.size w2.heap.size := OT_rng ow2_0
  have rw2_1 : Rng Pw2_1 w1.heap.size w2.heap.size := OI_rng ow2_1
  have zw2 : w1.heap.size ≤ w2.heap.size := bw2.size
  have Bw2 : Below w.heap.size w w2 := bthru Bw1 bw2
  go_wp2_with fail
  refine (laws_toTaskS A0 l0 c0 _ (h0.keep Bw2) hs0).mono ?_
  rintro e w3 ⟨Pw3, pw3, rfl, ow3, bw3⟩
  have ow0_w3 := OT_keep ow2_0 bw3
  clear ow2_0
  have ow1_w3 := OI_keep ow2_1 bw3
  clear ow2_1
  have rw3 : Rng Pw3 w2.heap.size w3.heap.size := OT_rng ow3
  have zw3 : w2.heap.size ≤ w3.heap.size := bw3.size
  have Bw3 : Below w.heap.size w w3 := bthru Bw2 bw3
  go_wp2_with fail
  refine (impl_AdmitAll Pw3 l0 pw3 x1 _ ow3.ts (by unfold maxLen; omega)).mono ?_
  rintro e w4 ⟨Pw4_0, pw4_0, Pw4_1, pw4_1, rfl, ow4_0, ow4_1, bw4⟩
  have ow0_w4 := OT_keep ow0_w3 bw4
  clear ow0_w3
  have ow1_w4 := OI_keep ow1_w3 bw4
  clear ow1_w3
  have ox0_w4 := OT_keep ow3 bw4
  clear ow3
  have rw4_0 : Rng Pw4_0 w3.heap.size w4.heap.size := OT_rng ow4_0
  have rw4_1 : Rng Pw4_1 w3.heap.size w4.heap.size := OI_rng ow4_1
  have zw4 : w3.heap.size ≤ w4.heap.size := bw4.size
  have Bw4 : Below w.heap.size w w4 := bthru Bw3 bw4
  go_wp2_with fail
  refine (laws_eqTaskS Pw4_0 Pw2_0 ((admAll l0 x1).1) ((admAll l0 x1).1) pw4_0 pw2_0 _ ow4_0.ts ow0_w4.ts (by have := admAll_both l0 x1; omega)).mono ?_
  rintro e w5 ⟨rfl, bw5⟩
  simp only [decide_true]
  have ow0_w5 := OT_keep ow0_w4 bw5
  clear ow0_w4
  have ow1_w5 := OI_keep ow1_w4 bw5
  clear ow1_w4
  have ox0_w5 := OT_keep ox0_w4 bw5
  clear ox0_w4
  have og0_w5 := OT_keep ow4_0 bw5
  clear ow4_0
  have og1_w5 := OI_keep ow4_1 bw5
  clear ow4_1
  have Bw5 : Below w.heap.size w w5 := bthru Bw4 bw5
  go_wp2_with fail
  refine (laws_eqIntS Pw4_1 Pw2_1 ((admAll l0 x1).2) ((admAll l0 x1).2) pw4_1 pw2_1 _ og1_w5.is ow1_w5.is (by have := admAll_both l0 x1; omega)).mono ?_
  rintro e w6 ⟨rfl, bw6⟩
  simp only [decide_true]
  have ow0_w6 := OT_keep ow0_w5 bw6
  clear ow0_w5
  have ow1_w6 := OI_keep ow1_w5 bw6
  clear ow1_w5
  have ox0_w6 := OT_keep ox0_w5 bw6
  clear ox0_w5
  have og0_w6 := OT_keep og0_w5 bw6
  clear og0_w5
  have og1_w6 := OI_keep og1_w5 bw6
  clear og1_w5
  have Bw6 : Below w.heap.size w w6 := bthru Bw5 bw6
  go_wp2_with fail
  refine (laws_toTaskS A0 l0 c0 _ (h0.keep Bw6) hs0).mono ?_
  rintro e w7 ⟨Pw7, pw7, rfl, ow7, bw7⟩
  have ow0_w7 := OT_keep ow0_w6 bw7
  clear ow0_w6
  have ow1_w7 := OI_keep ow1_w6 bw7
  clear ow1_w6
  have ox0_w7 := OT_keep ox0_w6 bw7
  clear ox0_w6
  have og0_w7 := OT_keep og0_w6 bw7
  clear og0_w6
  have og1_w7 := OI_keep og1_w6 bw7
  clear og1_w6
  have rw7 : Rng Pw7 w6.heap.size w7.heap.size := OT_rng ow7
  have zw7 : w6.heap.size ≤ w7.heap.size := bw7.size
  have Bw7 : Below w.heap.size w w7 := bthru Bw6 bw7
  go_wp2_with fail
  refine (laws_eqTaskS Pw3 Pw7 l0 l0 pw3 pw7 _ ox0_w7.ts ow7.ts (by omega)).mono ?_
  rintro e w8 ⟨rfl, bw8⟩
  simp only [decide_true]
  have ow0_w8 := OT_keep ow0_w7 bw8
  clear ow0_w7
  have ow1_w8 := OI_keep ow1_w7 bw8
  clear ow1_w7
  have ox0_w8 := OT_keep ox0_w7 bw8
  clear ox0_w7
  have og0_w8 := OT_keep og0_w7 bw8
  clear og0_w7
  have og1_w8 := OI_keep og1_w7 bw8
  clear og1_w7
  have oT2_w8 := OT_keep ow7 bw8
  clear ow7
  have Bw8 : Below w.heap.size w w8 := bthru Bw7 bw8
  go_wp2_with fail
  refine (laws_markTaskS w2.heap.size Pw3 l0 pw3 1 _ ox0_w8 (by omega) (by omega) (by omega)).mono ?_
  rintro e w9 ⟨rfl, ow9, gw9⟩
  have ow0_w9 := OT_apart ow0_w8 gw9 (rng_ne rw2_0 rw3 (by omega))
  clear ow0_w8
  have ow1_w9 := OI_apart ow1_w8 gw9 (rng_ne rw2_1 rw3 (by omega))
  clear ow1_w8
  have og0_w9 := OT_apart og0_w8 gw9 (rng_ne rw4_0 rw3 (by omega))
  clear og0_w8
  have og1_w9 := OI_apart og1_w8 gw9 (rng_ne rw4_1 rw3 (by omega))
  clear og1_w8
  have Bw9 : Below w.heap.size w w9 := bmarkT Bw8 ox0_w8 gw9 (by omega)
  clear ox0_w8
  go_wp2_with fail
  refine (laws_eqTaskS Pw4_0 Pw2_0 ((admAll l0 x1).1) ((admAll l0 x1).1) pw4_0 pw2_0 _ og0_w9.ts ow0_w9.ts (by have := admAll_both l0 x1; omega)).mono ?_
  rintro e w10 ⟨rfl, bw10⟩
  simp only [decide_true]
  have ow0_w10 := OT_keep ow0_w9 bw10
  clear ow0_w9
  have ow1_w10 := OI_keep ow1_w9 bw10
  clear ow1_w9
  have ox0_w10 := OT_keep ow9 bw10
  clear ow9
  have og0_w10 := OT_keep og0_w9 bw10
  clear og0_w9
  have og1_w10 := OI_keep og1_w9 bw10
  clear og1_w9
  have Bw10 : Below w.heap.size w w10 := bthru Bw9 bw10
  go_wp2_with fail
  refine (laws_eqIntS Pw4_1 Pw2_1 ((admAll l0 x1).2) ((admAll l0 x1).2) pw4_1 pw2_1 _ og1_w10.is ow1_w10.is (by have := admAll_both l0 x1; omega)).mono ?_
  rintro e w11 ⟨rfl, bw11⟩
  simp only [decide_true]
  have ow0_w11 := OT_keep ow0_w10 bw11
  clear ow0_w10
  have ow1_w11 := OI_keep ow1_w10 bw11
  clear ow1_w10
  have ox0_w11 := OT_keep ox0_w10 bw11
  clear ox0_w10
  have og0_w11 := OT_keep og0_w10 bw11
  clear og0_w10
  have og1_w11 := OI_keep og1_w10 bw11
  clear og1_w10
  have Bw11 : Below w.heap.size w w11 := bthru Bw10 bw11
  go_wp2_with fail
  refine (laws_markTaskS w3.heap.size Pw4_0 ((admAll l0 x1).1) pw4_0 1 _ og0_w11 (by have := admAll_both l0 x1; omega) (by have := admAll_both l0 x1; omega) (by have := admAll_both l0 x1; omega)).mono ?_
  rintro e w12 ⟨rfl, ow12, gw12⟩
  have ow0_w12 := OT_apart ow0_w11 gw12 (rng_ne rw2_0 rw4_0 (by omega))
  clear ow0_w11
  have ow1_w12 := OI_apart ow1_w11 gw12 (rng_ne rw2_1 rw4_0 (by omega))
  clear ow1_w11
  have ox0_w12 := OT_apart ox0_w11 gw12 (rng_ne rw3 rw4_0 (by omega))
  clear ox0_w11
  have og1_w12 := OI_apart og1_w11 gw12 (IT_ne og1_w11 og0_w11)
  clear og1_w11
  have Bw12 : Below w.heap.size w w12 := bmarkT Bw11 og0_w11 gw12 (by omega)
  clear og0_w11
  go_wp2_with fail
  refine (laws_markIntS w3.heap.size Pw4_1 ((admAll l0 x1).2) pw4_1 (1 + 5 * ((((admAll l0 x1).1).length : Nat) : Int)) _ og1_w12 (by have := admAll_both l0 x1; omega) (by have := admAll_both l0 x1; omega) (by have := admAll_both l0 x1; omega)).mono ?_
  rintro e w13 ⟨rfl, ow13, gw13⟩
  have ow0_w13 := OT_apart ow0_w12 gw13 (rng_ne rw2_0 rw4_1 (by omega))
  clear ow0_w12
  have ow1_w13 := OI_apart ow1_w12 gw13 (rng_ne rw2_1 rw4_1 (by omega))
  clear ow1_w12
  have ox0_w13 := OT_apart ox0_w12 gw13 (rng_ne rw3 rw4_1 (by omega))
  clear ox0_w12
  have og0_w13 := OT_apart ow12 gw13 (TI_ne ow12 og1_w12)
  clear ow12
  have Bw13 : Below w.heap.size w w13 := bmarkI Bw12 og1_w12 gw13 (by omega)
  clear og1_w12
  go_wp2_with fail
  refine (laws_heldTaskS Pw4_0 (((admAll l0 x1).1).length) pw4_0 1 _ og0_w13.ts (by have := admAll_both l0 x1; omega) (by have := admAll_both l0 x1; omega) (by have := admAll_both l0 x1; omega)).mono ?_
  rintro e w14 ⟨rfl, rfl⟩
  go_wp2_with fail
  refine (laws_heldIntS Pw4_1 (((admAll l0 x1).2).length) pw4_1 (1 + 5 * ((((admAll l0 x1).1).length : Nat) : Int)) _ ow13.is (by have := admAll_both l0 x1; omega) (by have := admAll_both l0 x1; omega) (by have := admAll_both l0 x1; omega)).mono ?_
  rintro e w15 ⟨rfl, rfl⟩
  go_wp2_with fail
  refine (laws_toTaskS A0 l0 c0 _ (h0.keep Bw13) hs0).mono ?_
  rintro e w16 ⟨Pw16, pw16, rfl, ow16, bw16⟩
  have ow0_w16 := OT_keep ow0_w13 bw16
  clear ow0_w13
  have ow1_w16 := OI_keep ow1_w13 bw16
  clear ow1_w13
  have ox0_w16 := OT_keep ox0_w13 bw16
  clear ox0_w13
  have og0_w16 := OT_keep og0_w13 bw16
  clear og0_w13
  have og1_w16 := OI_keep ow13 bw16
  clear ow13
  have rw16 : Rng Pw16 w13.heap.size w16.heap.size := OT_rng ow16
  have zw16 : w13.heap.size ≤ w16.heap.size := bw16.size
  have Bw16 : Below w.heap.size w w16 := bthru Bw13 bw16
  go_wp2_with fail
  refine (impl_AdmitAll Pw16 l0 pw16 x1 _ ow16.ts (by unfold maxLen; omega)).mono ?_
  rintro e w17 ⟨Pw17_0, pw17_0, Pw17_1, pw17_1, rfl, ow17_0, ow17_1, bw17⟩
  have ow0_w17 := OT_keep ow0_w16 bw17
  clear ow0_w16
  have ow1_w17 := OI_keep ow1_w16 bw17
  clear ow1_w16
  have ox0_w17 := OT_keep ox0_w16 bw17
  clear ox0_w16
  have og0_w17 := OT_keep og0_w16 bw17
  clear og0_w16
  have og1_w17 := OI_keep og1_w16 bw17
  clear og1_w16
  have oT3_w17 := OT_keep ow16 bw17
  clear ow16
  have rw17_0 : Rng Pw17_0 w16.heap.size w17.heap.size := OT_rng ow17_0
  have rw17_1 : Rng Pw17_1 w16.heap.size w17.heap.size := OI_rng ow17_1
  have zw17 : w16.heap.size ≤ w17.heap.size := bw17.size
  have Bw17 : Below w.heap.size w w17 := bthru Bw16 bw17
  go_wp2_with fail
  refine (laws_eqTaskS Pw17_0 Pw2_0 ((admAll l0 x1).1) ((admAll l0 x1).1) pw17_0 pw2_0 _ ow17_0.ts ow0_w17.ts (by have := admAll_both l0 x1; omega)).mono ?_
  rintro e w18 ⟨rfl, bw18⟩
  simp only [decide_true]
  have ow0_w18 := OT_keep ow0_w17 bw18
  clear ow0_w17
  have ow1_w18 := OI_keep ow1_w17 bw18
  clear ow1_w17
  have ox0_w18 := OT_keep ox0_w17 bw18
  clear ox0_w17
  have og0_w18 := OT_keep og0_w17 bw18
  clear og0_w17
  have og1_w18 := OI_keep og1_w17 bw18
  clear og1_w17
  have oh0_w18 := OT_keep ow17_0 bw18
  clear ow17_0
  have oh1_w18 := OI_keep ow17_1 bw18
  clear ow17_1
  have Bw18 : Below w.heap.size w w18 := bthru Bw17 bw18
  go_wp2_with fail
  refine (laws_eqIntS Pw17_1 Pw2_1 ((admAll l0 x1).2) ((admAll l0 x1).2) pw17_1 pw2_1 _ oh1_w18.is ow1_w18.is (by have := admAll_both l0 x1; omega)).mono ?_
  rintro e w19 ⟨rfl, bw19⟩
  simp only [decide_true]
  have ow0_w19 := OT_keep ow0_w18 bw19
  clear ow0_w18
  have ow1_w19 := OI_keep ow1_w18 bw19
  clear ow1_w18
  have ox0_w19 := OT_keep ox0_w18 bw19
  clear ox0_w18
  have og0_w19 := OT_keep og0_w18 bw19
  clear og0_w18
  have og1_w19 := OI_keep og1_w18 bw19
  clear og1_w18
  have oh0_w19 := OT_keep oh0_w18 bw19
  clear oh0_w18
  have oh1_w19 := OI_keep oh1_w18 bw19
  clear oh1_w18
  have Bw19 : Below w.heap.size w w19 := bthru Bw18 bw19
  go_wp2_with fail
  refine (laws_heldTaskS Pw4_0 (((admAll l0 x1).1).length) pw4_0 1 _ og0_w19.ts (by have := admAll_both l0 x1; omega) (by have := admAll_both l0 x1; omega) (by have := admAll_both l0 x1; omega)).mono ?_
  rintro e w20 ⟨rfl, rfl⟩
  go_wp2_with fail
  refine (laws_heldIntS Pw4_1 (((admAll l0 x1).2).length) pw4_1 (1 + 5 * ((((admAll l0 x1).1).length : Nat) : Int)) _ og1_w19.is (by have := admAll_both l0 x1; omega) (by have := admAll_both l0 x1; omega) (by have := admAll_both l0 x1; omega)).mono ?_
  rintro e w21 ⟨rfl, rfl⟩
  go_wp2_with fail
  go_ret
  exact ⟨rfl, Bw19⟩

open Go.ChangeShapes Go.WideShapes Go.ChangeAt Go.WideElems Go.Deep

set_option maxRecDepth 100000 in
theorem FnExactAdmitAll_lifted (os : Os) (started : os.Started) (H : Type) (enc : TypeId × Value → H) :
    ReturnsInHanded {} Try.checked os 20 .any (Rows.fnExactAdmitAllSpec.pre6 enc Try.prog Try.f20 Rows.fnExactAdmitAllRow.domain false) (Rows.fnExactAdmitAllSpec.post enc Try.prog Try.f20 false true false false) := by
  refine returnsInHanded_of_change (C := Try.checked) own started (by as_aux_lemma => kernel_rfl) Try.func20
    (ChangeSpec.witness6 (enc := enc) (C := Try.checked) false ⟨#[], #[.slice none 0 0, .int .i64 0], []⟩ 8 (by as_aux_lemma => kernel_rfl) (by as_aux_lemma => kernel_rfl) (by as_aux_lemma => kernel_rfl) (by as_aux_lemma => kernel_rfl)) ?_
  intro W base args ds gs before hval0 hW _ _
  have hval : ∀ (j : Nat) t v, Try.f20.params[j]? = some t → args[j]? = some v → Value.okWide Try.prog W .any base t v := hval0
  have hW' := hW
  obtain ⟨p, q, hA0, hV, rfl, _, _⟩ := hW
  have hA : DataW.TrodAll enc Try.prog W 0 (fun _ => true) true Try.f20.params.toList args.toList ds p := hA0
  rw [Try.params20] at hA hval
  obtain ⟨v0, v1, d0, d1, p0, p1, rfl, rfl, rfl, h0, h1⟩ := trodAll_two hA
  obtain ⟨rfl, rfl⟩ := trodVars_none hV
  clear hA0 hval0
  simp only [List.append_nil] at hW'
  have hlt : ∀ x ∈ p0 ++ p1, x.block < W.heap.size := fun x hx => hW'.lt x (by simpa using hx)
  have hargs : ∀ W', Below W.heap.size W W' → DataW.TrodAll enc Try.prog W' 0 (fun b => decide (b < W.heap.size)) true [22, 3] [v0, v1] [d0, d1] (p0 ++ p1) := fun W' hb =>
    trodAll_mk2 (Below.trod laidOut (by as_aux_lemma => kernel_rfl) (of_decide_eq_true (by as_aux_lemma => kernel_rfl)) h0 hb (fun x hx => hlt x (by simp [hx]))) (Below.trod laidOut (by as_aux_lemma => kernel_rfl) (of_decide_eq_true (by as_aux_lemma => kernel_rfl)) h1 hb (fun x hx => hlt x (by simp [hx])))
  obtain ⟨A0, l0, c0, rfl, hl0, hlm0⟩ := open_tasks Try.underlying22 Try.underlying24 (by as_aux_lemma => kernel_rfl) (by as_aux_lemma => kernel_rfl) Try.underlying3 Try.underlying4 rfl rfl rfl rfl rfl (okWide_slice Try.underlying22 (hval 0 _ v0 rfl rfl)) h0
  obtain ⟨x1, rfl, _, _, wx1⟩ := open_int Try.underlying3 (hval 1 _ v1 rfl rfl) h1
  refine (law_FnExactAdmitAll A0 l0 c0 x1 W hl0 hlm0 wx1).mono fun e W' ⟨he, hb⟩ => ?_
  subst he
  exact ⟨_, rfl, ⟨_, _, _, [], _, [], hW', trodAll_mk1 (shut_bool Try.underlying4 _), hargs W' hb, rfl, hb.frame _, fun h => by cases h⟩⟩

theorem FnExactAdmitAll_joined : joinedFacts Try.prog 20 Try.f20 Rows.fnExactAdmitAllSpec Rows.fnExactAdmitAllRow = true :=
  joined_mk (by as_aux_lemma => kernel_rfl) laidOut mapsRowed_ok (by as_aux_lemma => kernel_rfl) (by as_aux_lemma => kernel_rfl) (by as_aux_lemma => kernel_rfl) stops_ok (by as_aux_lemma => kernel_rfl) knobs_ok (by as_aux_lemma => kernel_rfl) (by as_aux_lemma => kernel_rfl) (by as_aux_lemma => kernel_rfl) (by as_aux_lemma => kernel_rfl) (by as_aux_lemma => kernel_rfl) (by as_aux_lemma => kernel_rfl) (by as_aux_lemma => kernel_rfl) (by as_aux_lemma => kernel_rfl) (by as_aux_lemma => kernel_rfl) (by as_aux_lemma => kernel_rfl) (by as_aux_lemma => kernel_rfl) (by as_aux_lemma => kernel_rfl) (by as_aux_lemma => kernel_rfl) (by rw [keys_ok]; rfl) (by as_aux_lemma => kernel_rfl) heard_ok enter_ok (by rw [lifts_ok]; rfl) (by rw [make_ok]; rfl) (by as_aux_lemma => kernel_rfl) (by as_aux_lemma => kernel_rfl) (by as_aux_lemma => kernel_rfl) (by as_aux_lemma => kernel_rfl)

theorem FnExactAdmitAll_holds : Rows.FnExactAdmitAllSaid :=
  OpenClaim.holds_of_wide 20 Try.f20 rfl rfl rfl rfl rfl rfl rfl ⟨rfl, rfl, rfl, rfl, rfl⟩ rfl rfl rfl rfl rfl (by as_aux_lemma => kernel_rfl) Try.func20 FnExactAdmitAll_joined
    (of_decide_eq_true (by as_aux_lemma => kernel_rfl)) (by unfold Func.isWrapper; rw [if_neg (by decide +kernel)]; exact ⟨rfl, rfl⟩)
    (fun os started H enc _ => FnExactAdmitAll_lifted os started H enc)
#print axioms FnExactAdmitAll_holds
end Go.Proofs.Ytnldiakjmhfodaa
