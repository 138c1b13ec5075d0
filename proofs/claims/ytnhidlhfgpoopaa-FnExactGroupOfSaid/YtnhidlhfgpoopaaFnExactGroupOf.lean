/-
  FnExactGroupOf returns true for all arguments, and leaves them as they were.
-/
import Derived.Test.YtnhidlhfgpoopaaGroup
import Derived.Test.YtnhidlhfgpoopaaLawKit2
import Derived.Test.YtnhidlhfgpoopaaOpen
import Derived.Test.YtnhidlhfgpoopaaMark
namespace Go.Proofs.Ytnhidlhfgpoopaa
open Go.RowKit

set_option maxHeartbeats 1000000 in
theorem law_FnExactGroupOf (A0 : Option Addr) (l0 : List Tk) (c0 : Nat) (A1 : Option Addr) (l1 : List Int) (c1 : Nat) (x2 : Int) (w : World) (h0 : TS w A0 l0) (hl0 : l0.length ≤ maxLen) (h1 : IS w A1 l1) (hl1 : l1.length ≤ maxLen) (hx2 : (Lit.int .i64 x2).wf = true) :
    Calls Try.prog 6 #[.slice A0 l0.length c0, .slice A1 l1.length c1, .int .i64 x2] w fun e w' => e = .returned (.bool true) ∧ Below w.heap.size w w' := by
  unfold maxLen at hl0 hl1
  have hw2 := int_wf hx2
  clear hx2
  by_cases hs1 : l1.length ≤ 1048576
  case neg =>
    go_enter Try.func6, Try.ntmps6
    go_wp2_with fail
    go_ret
    exact ⟨rfl, Below.refl _ _⟩
  by_cases hs0 : l0.length ≤ 1048576
  case neg =>
    go_enter Try.func6, Try.ntmps6
    go_wp2_with (go_at_call 21; refine (laws_szTaskS_no _ _ _ _ _ (by omega) (by omega) (by omega) (by omega)).mono ?_; rintro e w1 ⟨rfl, rfl⟩)
    go_ret
    exact ⟨rfl, Below.refl _ _⟩
  go_enter Try.func6, Try.ntmps6
  go_wp2_with (go_at_call 21; refine (laws_szTaskS _ _ _ _ _ (by omega) (by omega)).mono ?_; rintro e w1 ⟨rfl, rfl⟩)
  refine (laws_toTaskS A0 l0 c0 _ (h0.keep (Below.refl _ _)) hs0).mono ?_
  rintro e w1 ⟨Pw1, pw1, rfl, ow1, bw1⟩
  have rw1 : Rng Pw1 w.heap.size w1.heap.size := OT_rng ow1
  have zw1 : w.heap.size ≤ w1.heap.size := bw1.size
  have Bw1 : Below w.heap.size w w1 := bthru (Below.refl _ _) bw1
  go_wp2_with fail
  refine (laws_toIntS A1 l1 c1 _ (h1.keep Bw1) hs1).mono ?_
  rintro e w2 ⟨Pw2, pw2, rfl, ow2, bw2⟩
  have oT1_w2 := OT_keep ow1 bw2
  clear ow1
  have rw2 : Rng Pw2 w1.heap.size w2.heap.size := OI_rng ow2
  have zw2 : w1.heap.size ≤ w2.heap.size := bw2.size
  have Bw2 : Below w.heap.size w w2 := bthru Bw1 bw2
  go_wp2_with fail
  refine (spec_GroupOf Pw1 Pw2 l0 l1 pw1 pw2 x2 _ oT1_w2.ts ow2.is (by omega)).mono ?_
  rintro e w3 ⟨Pw3_0, pw3_0, rfl, ow3_0, bw3⟩
  have oT1_w3 := OT_keep oT1_w2 bw3
  clear oT1_w2
  have oT2_w3 := OI_keep ow2 bw3
  clear ow2
  have rw3_0 : Rng Pw3_0 w2.heap.size w3.heap.size := OT_rng ow3_0
  have zw3 : w2.heap.size ≤ w3.heap.size := bw3.size
  have Bw3 : Below w.heap.size w w3 := bthru Bw2 bw3
  go_wp2_with fail
  refine (laws_toTaskS A0 l0 c0 _ (h0.keep Bw3) hs0).mono ?_
  rintro e w4 ⟨Pw4, pw4, rfl, ow4, bw4⟩
  have ow0_w4 := OT_keep ow3_0 bw4
  clear ow3_0
  have rw4 : Rng Pw4 w3.heap.size w4.heap.size := OT_rng ow4
  have zw4 : w3.heap.size ≤ w4.heap.size := bw4.size
  have Bw4 : Below w.heap.size w w4 := bthru Bw3 bw4
  go_wp2_with fail
  refine (laws_toIntS A1 l1 c1 _ (h1.keep Bw4) hs1).mono ?_
  rintro e w5 ⟨Pw5, pw5, rfl, ow5, bw5⟩
  have ow0_w5 := OT_keep ow0_w4 bw5
  clear ow0_w4
  have ox0_w5 := OT_keep ow4 bw5
  clear ow4
  have rw5 : Rng Pw5 w4.heap.size w5.heap.size := OI_rng ow5
  have zw5 : w4.heap.size ≤ w5.heap.size := bw5.size
  have Bw5 : Below w.heap.size w w5 := bthru Bw4 bw5
  go_wp2_with fail
  refine (impl_GroupOf Pw4 Pw5 l0 l1 pw4 pw5 x2 _ ox0_w5.ts ow5.is (by omega)).mono ?_
  rintro e w6 ⟨Pw6_0, pw6_0, rfl, ow6_0, bw6⟩
  have ow0_w6 := OT_keep ow0_w5 bw6
  clear ow0_w5
  have ox0_w6 := OT_keep ox0_w5 bw6
  clear ox0_w5
  have ox1_w6 := OI_keep ow5 bw6
  clear ow5
  have rw6_0 : Rng Pw6_0 w5.heap.size w6.heap.size := OT_rng ow6_0
  have zw6 : w5.heap.size ≤ w6.heap.size := bw6.size
  have Bw6 : Below w.heap.size w w6 := bthru Bw5 bw6
  go_wp2_with fail
  refine (laws_eqTaskS Pw6_0 Pw3_0 (grpOf l0 l1 x2) (grpOf l0 l1 x2) pw6_0 pw3_0 _ ow6_0.ts ow0_w6.ts (by have := grpOf_len l0 l1 x2; omega)).mono ?_
  rintro e w7 ⟨rfl, bw7⟩
  simp only [decide_true]
  have ow0_w7 := OT_keep ow0_w6 bw7
  clear ow0_w6
  have ox0_w7 := OT_keep ox0_w6 bw7
  clear ox0_w6
  have ox1_w7 := OI_keep ox1_w6 bw7
  clear ox1_w6
  have og0_w7 := OT_keep ow6_0 bw7
  clear ow6_0
  have Bw7 : Below w.heap.size w w7 := bthru Bw6 bw7
  go_wp2_with fail
  refine (laws_toTaskS A0 l0 c0 _ (h0.keep Bw7) hs0).mono ?_
  rintro e w8 ⟨Pw8, pw8, rfl, ow8, bw8⟩
  have ow0_w8 := OT_keep ow0_w7 bw8
  clear ow0_w7
  have ox0_w8 := OT_keep ox0_w7 bw8
  clear ox0_w7
  have ox1_w8 := OI_keep ox1_w7 bw8
  clear ox1_w7
  have og0_w8 := OT_keep og0_w7 bw8
  clear og0_w7
  have rw8 : Rng Pw8 w7.heap.size w8.heap.size := OT_rng ow8
  have zw8 : w7.heap.size ≤ w8.heap.size := bw8.size
  have Bw8 : Below w.heap.size w w8 := bthru Bw7 bw8
  go_wp2_with fail
  refine (laws_eqTaskS Pw4 Pw8 l0 l0 pw4 pw8 _ ox0_w8.ts ow8.ts (by omega)).mono ?_
  rintro e w9 ⟨rfl, bw9⟩
  simp only [decide_true]
  have ow0_w9 := OT_keep ow0_w8 bw9
  clear ow0_w8
  have ox0_w9 := OT_keep ox0_w8 bw9
  clear ox0_w8
  have ox1_w9 := OI_keep ox1_w8 bw9
  clear ox1_w8
  have og0_w9 := OT_keep og0_w8 bw9
  clear og0_w8
  have oT3_w9 := OT_keep ow8 bw9
  clear ow8
  have Bw9 : Below w.heap.size w w9 := bthru Bw8 bw9
  go_wp2_with fail
  refine (laws_toIntS A1 l1 c1 _ (h1.keep Bw9) hs1).mono ?_
  rintro e w10 ⟨Pw10, pw10, rfl, ow10, bw10⟩
  have ow0_w10 := OT_keep ow0_w9 bw10
  clear ow0_w9
  have ox0_w10 := OT_keep ox0_w9 bw10
  clear ox0_w9
  have ox1_w10 := OI_keep ox1_w9 bw10
  clear ox1_w9
  have og0_w10 := OT_keep og0_w9 bw10
  clear og0_w9
  have rw10 : Rng Pw10 w9.heap.size w10.heap.size := OI_rng ow10
  have zw10 : w9.heap.size ≤ w10.heap.size := bw10.size
  have Bw10 : Below w.heap.size w w10 := bthru Bw9 bw10
  go_wp2_with fail
  refine (laws_eqIntS Pw5 Pw10 l1 l1 pw5 pw10 _ ox1_w10.is ow10.is (by omega)).mono ?_
  rintro e w11 ⟨rfl, bw11⟩
  simp only [decide_true]
  have ow0_w11 := OT_keep ow0_w10 bw11
  clear ow0_w10
  have ox0_w11 := OT_keep ox0_w10 bw11
  clear ox0_w10
  have ox1_w11 := OI_keep ox1_w10 bw11
  clear ox1_w10
  have og0_w11 := OT_keep og0_w10 bw11
  clear og0_w10
  have oT4_w11 := OI_keep ow10 bw11
  clear ow10
  have Bw11 : Below w.heap.size w w11 := bthru Bw10 bw11
  go_wp2_with fail
  refine (laws_markTaskS w3.heap.size Pw4 l0 pw4 1 _ ox0_w11 (by omega) (by omega) (by omega)).mono ?_
  rintro e w12 ⟨rfl, ow12, gw12⟩
  have ow0_w12 := OT_apart ow0_w11 gw12 (rng_ne rw3_0 rw4 (by omega))
  clear ow0_w11
  have ox1_w12 := OI_apart ox1_w11 gw12 (rng_ne rw5 rw4 (by omega))
  clear ox1_w11
  have og0_w12 := OT_apart og0_w11 gw12 (rng_ne rw6_0 rw4 (by omega))
  clear og0_w11
  have Bw12 : Below w.heap.size w w12 := bmarkT Bw11 ox0_w11 gw12 (by omega)
  clear ox0_w11
  go_wp2_with fail
  refine (laws_markIntS w4.heap.size Pw5 l1 pw5 (1 + 5 * ((l0.length : Nat) : Int)) _ ox1_w12 (by omega) (by omega) (by omega)).mono ?_
  rintro e w13 ⟨rfl, ow13, gw13⟩
  have ow0_w13 := OT_apart ow0_w12 gw13 (rng_ne rw3_0 rw5 (by omega))
  clear ow0_w12
  have ox0_w13 := OT_apart ow12 gw13 (rng_ne rw4 rw5 (by omega))
  clear ow12
  have og0_w13 := OT_apart og0_w12 gw13 (rng_ne rw6_0 rw5 (by omega))
  clear og0_w12
  have Bw13 : Below w.heap.size w w13 := bmarkI Bw12 ox1_w12 gw13 (by omega)
  clear ox1_w12
  go_wp2_with fail
  refine (laws_eqTaskS Pw6_0 Pw3_0 (grpOf l0 l1 x2) (grpOf l0 l1 x2) pw6_0 pw3_0 _ og0_w13.ts ow0_w13.ts (by have := grpOf_len l0 l1 x2; omega)).mono ?_
  rintro e w14 ⟨rfl, bw14⟩
  simp only [decide_true]
  have ow0_w14 := OT_keep ow0_w13 bw14
  clear ow0_w13
  have ox0_w14 := OT_keep ox0_w13 bw14
  clear ox0_w13
  have ox1_w14 := OI_keep ow13 bw14
  clear ow13
  have og0_w14 := OT_keep og0_w13 bw14
  clear og0_w13
  have Bw14 : Below w.heap.size w w14 := bthru Bw13 bw14
  go_wp2_with fail
  refine (laws_markTaskS w5.heap.size Pw6_0 (grpOf l0 l1 x2) pw6_0 1 _ og0_w14 (by have := grpOf_len l0 l1 x2; omega) (by omega) (by omega)).mono ?_
  rintro e w15 ⟨rfl, ow15, gw15⟩
  have ow0_w15 := OT_apart ow0_w14 gw15 (rng_ne rw3_0 rw6_0 (by omega))
  clear ow0_w14
  have ox0_w15 := OT_apart ox0_w14 gw15 (rng_ne rw4 rw6_0 (by omega))
  clear ox0_w14
  have ox1_w15 := OI_apart ox1_w14 gw15 (rng_ne rw5 rw6_0 (by omega))
  clear ox1_w14
  have Bw15 : Below w.heap.size w w15 := bmarkT Bw14 og0_w14 gw15 (by omega)
  clear og0_w14
  go_wp2_with fail
  refine (laws_heldTaskS Pw6_0 ((grpOf l0 l1 x2).length) pw6_0 1 _ ow15.ts (by have := grpOf_len l0 l1 x2; omega) (by omega) (by omega)).mono ?_
  rintro e w16 ⟨rfl, rfl⟩
  go_wp2_with fail
  refine (laws_toTaskS A0 l0 c0 _ (h0.keep Bw15) hs0).mono ?_
  rintro e w17 ⟨Pw17, pw17, rfl, ow17, bw17⟩
  have ow0_w17 := OT_keep ow0_w15 bw17
  clear ow0_w15
  have ox0_w17 := OT_keep ox0_w15 bw17
  clear ox0_w15
  have ox1_w17 := OI_keep ox1_w15 bw17
  clear ox1_w15
  have og0_w17 := OT_keep ow15 bw17
  clear ow15
  have rw17 : Rng Pw17 w15.heap.size w17.heap.size := OT_rng ow17
  have zw17 : w15.heap.size ≤ w17.heap.size := bw17.size
  have Bw17 : Below w.heap.size w w17 := bthru Bw15 bw17
  go_wp2_with fail
  refine (laws_toIntS A1 l1 c1 _ (h1.keep Bw17) hs1).mono ?_
  rintro e w18 ⟨Pw18, pw18, rfl, ow18, bw18⟩
  have ow0_w18 := OT_keep ow0_w17 bw18
  clear ow0_w17
  have ox0_w18 := OT_keep ox0_w17 bw18
  clear ox0_w17
  have ox1_w18 := OI_keep ox1_w17 bw18
  clear ox1_w17
  have og0_w18 := OT_keep og0_w17 bw18
  clear og0_w17
  have oT5_w18 := OT_keep ow17 bw18
  clear ow17
  have rw18 : Rng Pw18 w17.heap.size w18.heap.size := OI_rng ow18
  have zw18 : w17.heap.size ≤ w18.heap.size := bw18.size
  have Bw18 : Below w.heap.size w w18 := bthru Bw17 bw18
  go_wp2_with fail
  refine (impl_GroupOf Pw17 Pw18 l0 l1 pw17 pw18 x2 _ oT5_w18.ts ow18.is (by omega)).mono ?_
  rintro e w19 ⟨Pw19_0, pw19_0, rfl, ow19_0, bw19⟩
  have ow0_w19 := OT_keep ow0_w18 bw19
  clear ow0_w18
  have ox0_w19 := OT_keep ox0_w18 bw19
  clear ox0_w18
  have ox1_w19 := OI_keep ox1_w18 bw19
  clear ox1_w18
  have og0_w19 := OT_keep og0_w18 bw19
  clear og0_w18
  have oT5_w19 := OT_keep oT5_w18 bw19
  clear oT5_w18
  have oT6_w19 := OI_keep ow18 bw19
  clear ow18
  have rw19_0 : Rng Pw19_0 w18.heap.size w19.heap.size := OT_rng ow19_0
  have zw19 : w18.heap.size ≤ w19.heap.size := bw19.size
  have Bw19 : Below w.heap.size w w19 := bthru Bw18 bw19
  go_wp2_with fail
  refine (laws_eqTaskS Pw19_0 Pw3_0 (grpOf l0 l1 x2) (grpOf l0 l1 x2) pw19_0 pw3_0 _ ow19_0.ts ow0_w19.ts (by have := grpOf_len l0 l1 x2; omega)).mono ?_
  rintro e w20 ⟨rfl, bw20⟩
  simp only [decide_true]
  have ow0_w20 := OT_keep ow0_w19 bw20
  clear ow0_w19
  have ox0_w20 := OT_keep ox0_w19 bw20
  clear ox0_w19
  have ox1_w20 := OI_keep ox1_w19 bw20
  clear ox1_w19
  have og0_w20 := OT_keep og0_w19 bw20
  clear og0_w19
  have oh0_w20 := OT_keep ow19_0 bw20
  clear ow19_0
  have Bw20 : Below w.heap.size w w20 := bthru Bw19 bw20
  go_wp2_with fail
  refine (laws_heldTaskS Pw6_0 ((grpOf l0 l1 x2).length) pw6_0 1 _ og0_w20.ts (by have := grpOf_len l0 l1 x2; omega) (by omega) (by omega)).mono ?_
  rintro e w21 ⟨rfl, rfl⟩
  go_wp2_with fail
  go_ret
  exact ⟨rfl, Bw20⟩

open Go.ChangeShapes Go.WideShapes Go.ChangeAt Go.WideElems Go.Deep

set_option maxRecDepth 100000 in
theorem FnExactGroupOf_lifted (os : Os) (started : os.Started) (H : Type) (enc : TypeId × Value → H) :
    ReturnsInHanded {} Try.checked os 6 .any (Rows.fnExactGroupOfSpec.pre6 enc Try.prog Try.f6 Rows.fnExactGroupOfRow.domain false) (Rows.fnExactGroupOfSpec.post enc Try.prog Try.f6 false true false false) := by
  refine returnsInHanded_of_change (C := Try.checked) own started (by as_aux_lemma => kernel_rfl) Try.func6
    (ChangeSpec.witness6 (enc := enc) (C := Try.checked) false ⟨#[], #[.slice none 0 0, .slice none 0 0, .int .i64 0], []⟩ 8 (by as_aux_lemma => kernel_rfl) (by as_aux_lemma => kernel_rfl) (by as_aux_lemma => kernel_rfl) (by as_aux_lemma => kernel_rfl)) ?_
  intro W base args ds gs before hval0 hW _ _
  have hval : ∀ (j : Nat) t v, Try.f6.params[j]? = some t → args[j]? = some v → Value.okWide Try.prog W .any base t v := hval0
  have hW' := hW
  obtain ⟨p, q, hA0, hV, rfl, _, _⟩ := hW
  have hA : DataW.TrodAll enc Try.prog W 0 (fun _ => true) true Try.f6.params.toList args.toList ds p := hA0
  rw [Try.params6] at hA hval
  obtain ⟨v0, v1, v2, d0, d1, d2, p0, p1, p2, rfl, rfl, rfl, h0, h1, h2⟩ := trodAll_three hA
  obtain ⟨rfl, rfl⟩ := trodVars_none hV
  clear hA0 hval0
  simp only [List.append_nil] at hW'
  have hlt : ∀ x ∈ p0 ++ (p1 ++ p2), x.block < W.heap.size := fun x hx => hW'.lt x (by simpa using hx)
  have hargs : ∀ W', Below W.heap.size W W' → DataW.TrodAll enc Try.prog W' 0 (fun b => decide (b < W.heap.size)) true [22, 23, 3] [v0, v1, v2] [d0, d1, d2] (p0 ++ (p1 ++ p2)) := fun W' hb =>
    trodAll_mk3 (Below.trod laidOut (by as_aux_lemma => kernel_rfl) (of_decide_eq_true (by as_aux_lemma => kernel_rfl)) h0 hb (fun x hx => hlt x (by simp [hx]))) (Below.trod laidOut (by as_aux_lemma => kernel_rfl) (of_decide_eq_true (by as_aux_lemma => kernel_rfl)) h1 hb (fun x hx => hlt x (by simp [hx]))) (Below.trod laidOut (by as_aux_lemma => kernel_rfl) (of_decide_eq_true (by as_aux_lemma => kernel_rfl)) h2 hb (fun x hx => hlt x (by simp [hx])))
  obtain ⟨A0, l0, c0, rfl, hl0, hlm0⟩ := open_tasks Try.underlying22 Try.underlying65 (by as_aux_lemma => kernel_rfl) (by as_aux_lemma => kernel_rfl) Try.underlying3 Try.underlying4 rfl rfl rfl rfl rfl (okWide_slice Try.underlying22 (hval 0 _ v0 rfl rfl)) h0
  obtain ⟨A1, l1, c1, rfl, hlc1, hlm1, hlw1, hl1⟩ := open_kind Try.underlying23 Try.underlying3 (by as_aux_lemma => kernel_rfl) (okWide_slice Try.underlying23 (hval 1 _ v1 rfl rfl)) h1
  obtain ⟨x2, rfl, _, _, wx2⟩ := open_int Try.underlying3 (hval 2 _ v2 rfl rfl) h2
  refine (law_FnExactGroupOf A0 l0 c0 A1 l1 c1 x2 W hl0 hlm0 hl1 hlm1 wx2).mono fun e W' ⟨he, hb⟩ => ?_
  subst he
  exact ⟨_, rfl, ⟨_, _, _, [], _, [], hW', trodAll_mk1 (shut_bool Try.underlying4 _), hargs W' hb, rfl, hb.frame _, fun h => by cases h⟩⟩

theorem FnExactGroupOf_joined : joinedFacts Try.prog 6 Try.f6 Rows.fnExactGroupOfSpec Rows.fnExactGroupOfRow = true :=
  joined_mk (by as_aux_lemma => kernel_rfl) laidOut mapsRowed_ok (by as_aux_lemma => kernel_rfl) (by as_aux_lemma => kernel_rfl) (by as_aux_lemma => kernel_rfl) stops_ok (by as_aux_lemma => kernel_rfl) knobs_ok (by as_aux_lemma => kernel_rfl) (by as_aux_lemma => kernel_rfl) (by as_aux_lemma => kernel_rfl) (by as_aux_lemma => kernel_rfl) (by as_aux_lemma => kernel_rfl) (by as_aux_lemma => kernel_rfl) (by as_aux_lemma => kernel_rfl) (by as_aux_lemma => kernel_rfl) (by as_aux_lemma => kernel_rfl) (by as_aux_lemma => kernel_rfl) (by as_aux_lemma => kernel_rfl) (by as_aux_lemma => kernel_rfl) (by as_aux_lemma => kernel_rfl) (by rw [keys_ok]; rfl) (by as_aux_lemma => kernel_rfl) heard_ok enter_ok (by rw [lifts_ok]; rfl) (by rw [make_ok]; rfl) (by as_aux_lemma => kernel_rfl) (by as_aux_lemma => kernel_rfl) (by as_aux_lemma => kernel_rfl) (by as_aux_lemma => kernel_rfl)

theorem FnExactGroupOf_holds : Rows.FnExactGroupOfSaid :=
  OpenClaim.holds_of_wide 6 Try.f6 rfl rfl rfl rfl rfl rfl rfl ⟨rfl, rfl, rfl, rfl, rfl⟩ rfl rfl rfl rfl rfl (by as_aux_lemma => kernel_rfl) Try.func6 FnExactGroupOf_joined
    (of_decide_eq_true (by as_aux_lemma => kernel_rfl)) (by unfold Func.isWrapper; rw [if_neg (by decide +kernel)]; exact ⟨rfl, rfl⟩)
    (fun os started H enc _ => FnExactGroupOf_lifted os started H enc)
#print axioms FnExactGroupOf_holds
end Go.Proofs.Ytnhidlhfgpoopaa
