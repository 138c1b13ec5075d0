/-
  FnExactPackHolds returns true for all arguments, and leaves them as they were.
-/
import Derived.Test.YtnhidlhfgpoopaaPackH
import Derived.Test.YtnhidlhfgpoopaaLawKit2
import Derived.Test.YtnhidlhfgpoopaaOpen
import Derived.Test.YtnhidlhfgpoopaaMark
namespace Go.Proofs.Ytnhidlhfgpoopaa
open Go.RowKit

set_option maxHeartbeats 1000000 in
theorem law_FnExactPackHolds (A0 : Option Addr) (l0 : List Tk) (c0 : Nat) (A1 : Option Addr) (l1 : List Int) (c1 : Nat) (x2 : Int) (x3 : Int) (w : World) (h0 : TS w A0 l0) (hl0 : l0.length ≤ maxLen) (h1 : IS w A1 l1) (hl1 : l1.length ≤ maxLen) (hx2 : (Lit.int .i64 x2).wf = true) (hx3 : (Lit.int .i64 x3).wf = true) :
    Calls Try.prog 20 #[.slice A0 l0.length c0, .slice A1 l1.length c1, .int .i64 x2, .int .i64 x3] w fun e w' => e = .returned (.bool true) ∧ Below w.heap.size w w' := by
  unfold maxLen at hl0 hl1
  have hw2 := int_wf hx2
  clear hx2
  have hw3 := int_wf hx3
  clear hx3
  by_cases hs1 : l1.length ≤ 1048576
  case neg =>
    go_enter Try.func20, Try.ntmps20
    go_wp2_with fail
    go_ret
    exact ⟨rfl, Below.refl _ _⟩
  by_cases hs0 : l0.length ≤ 1048576
  case neg =>
    go_enter Try.func20, Try.ntmps20
    go_wp2_with (go_at_call 21; refine (laws_szTaskS_no _ _ _ _ _ (by omega) (by omega) (by omega) (by omega)).mono ?_; rintro e w1 ⟨rfl, rfl⟩)
    go_ret
    exact ⟨rfl, Below.refl _ _⟩
  go_enter Try.func20, Try.ntmps20
  go_wp2_with (go_at_call 21; refine (laws_szTaskS _ _ _ _ _ (by omega) (by omega)).mono ?_; rintro e w1 ⟨rfl, rfl⟩)
  refine (laws_toTaskS A0 l0 c0 _ (h0.keep (Below.refl _ _)) hs0).mono ?_
  rintro e w1 ⟨Pw1, pw1, rfl, ow1, bw1⟩
  have rw1 : Rng Pw1 w.heap.size w1.heap.size := OT_rng ow1
  have zw1 : w.heap.size ≤ w1.heap.size := bw1.size
  have Bw1 : Below w.heap.size w w1 := bthru (Below.refl _ _) bw1
  go_wp2_with fail
  refine (laws_toIntS A1 l1 c1 _ (h1.keep Bw1) hs1).mono ?_
  rintro e w2 ⟨Pw2, pw2, rfl, ow2, bw2⟩
  have oT1_w2 := OT_keep ow1 bw2
  clear ow1
  have rw2 : Rng Pw2 w1.heap.size w2.heap.size := OI_rng ow2
  have zw2 : w1.heap.size ≤ w2.heap.size := bw2.size
  have Bw2 : Below w.heap.size w w2 := bthru Bw1 bw2
  go_wp2_with fail
  refine (spec_PackHolds Pw1 Pw2 l0 l1 pw1 pw2 x2 x3 _ oT1_w2.ts ow2.is (by omega)).mono ?_
  rintro e w3 ⟨rfl, bw3⟩
  have oT1_w3 := OT_keep oT1_w2 bw3
  clear oT1_w2
  have oT2_w3 := OI_keep ow2 bw3
  clear ow2
  have zw3 : w2.heap.size ≤ w3.heap.size := bw3.size
  have Bw3 : Below w.heap.size w w3 := bthru Bw2 bw3
  go_wp2_with fail
  refine (laws_toTaskS A0 l0 c0 _ (h0.keep Bw3) hs0).mono ?_
  rintro e w4 ⟨Pw4, pw4, rfl, ow4, bw4⟩
  have rw4 : Rng Pw4 w3.heap.size w4.heap.size := OT_rng ow4
  have zw4 : w3.heap.size ≤ w4.heap.size := bw4.size
  have Bw4 : Below w.heap.size w w4 := bthru Bw3 bw4
  go_wp2_with fail
  refine (laws_toIntS A1 l1 c1 _ (h1.keep Bw4) hs1).mono ?_
  rintro e w5 ⟨Pw5, pw5, rfl, ow5, bw5⟩
  have ox0_w5 := OT_keep ow4 bw5
  clear ow4
  have rw5 : Rng Pw5 w4.heap.size w5.heap.size := OI_rng ow5
  have zw5 : w4.heap.size ≤ w5.heap.size := bw5.size
  have Bw5 : Below w.heap.size w w5 := bthru Bw4 bw5
  go_wp2_with fail
  refine (impl_PackHolds Pw4 Pw5 l0 l1 pw4 pw5 x2 x3 _ ox0_w5.ts ow5.is).mono ?_
  rintro e w6 ⟨rfl, bw6⟩
  have ox0_w6 := OT_keep ox0_w5 bw6
  clear ox0_w5
  have ox1_w6 := OI_keep ow5 bw6
  clear ow5
  have zw6 : w5.heap.size ≤ w6.heap.size := bw6.size
  have Bw6 : Below w.heap.size w w6 := bthru Bw5 bw6
  go_wp2_with fail
  refine (laws_toTaskS A0 l0 c0 _ (h0.keep Bw6) hs0).mono ?_
  rintro e w7 ⟨Pw7, pw7, rfl, ow7, bw7⟩
  have ox0_w7 := OT_keep ox0_w6 bw7
  clear ox0_w6
  have ox1_w7 := OI_keep ox1_w6 bw7
  clear ox1_w6
  have rw7 : Rng Pw7 w6.heap.size w7.heap.size := OT_rng ow7
  have zw7 : w6.heap.size ≤ w7.heap.size := bw7.size
  have Bw7 : Below w.heap.size w w7 := bthru Bw6 bw7
  go_wp2_with fail
  refine (laws_eqTaskS Pw4 Pw7 l0 l0 pw4 pw7 _ ox0_w7.ts ow7.ts (by omega)).mono ?_
  rintro e w8 ⟨rfl, bw8⟩
  simp only [decide_true]
  have ox0_w8 := OT_keep ox0_w7 bw8
  clear ox0_w7
  have ox1_w8 := OI_keep ox1_w7 bw8
  clear ox1_w7
  have oT3_w8 := OT_keep ow7 bw8
  clear ow7
  have Bw8 : Below w.heap.size w w8 := bthru Bw7 bw8
  go_wp2_with fail
  refine (laws_toIntS A1 l1 c1 _ (h1.keep Bw8) hs1).mono ?_
  rintro e w9 ⟨Pw9, pw9, rfl, ow9, bw9⟩
  have ox0_w9 := OT_keep ox0_w8 bw9
  clear ox0_w8
  have ox1_w9 := OI_keep ox1_w8 bw9
  clear ox1_w8
  have rw9 : Rng Pw9 w8.heap.size w9.heap.size := OI_rng ow9
  have zw9 : w8.heap.size ≤ w9.heap.size := bw9.size
  have Bw9 : Below w.heap.size w w9 := bthru Bw8 bw9
  go_wp2_with fail
  refine (laws_eqIntS Pw5 Pw9 l1 l1 pw5 pw9 _ ox1_w9.is ow9.is (by omega)).mono ?_
  rintro e w10 ⟨rfl, bw10⟩
  simp only [decide_true]
  have ox0_w10 := OT_keep ox0_w9 bw10
  clear ox0_w9
  have ox1_w10 := OI_keep ox1_w9 bw10
  clear ox1_w9
  have oT4_w10 := OI_keep ow9 bw10
  clear ow9
  have Bw10 : Below w.heap.size w w10 := bthru Bw9 bw10
  go_wp2_with fail
  go_ret
  exact ⟨rfl, Bw10⟩

open Go.ChangeShapes Go.WideShapes Go.ChangeAt Go.WideElems Go.Deep

set_option maxRecDepth 100000 in
theorem FnExactPackHolds_lifted (os : Os) (started : os.Started) (H : Type) (enc : TypeId × Value → H) :
    ReturnsInHanded {} Try.checked os 20 .any (Rows.fnExactPackHoldsSpec.pre6 enc Try.prog Try.f20 Rows.fnExactPackHoldsRow.domain false) (Rows.fnExactPackHoldsSpec.post enc Try.prog Try.f20 false true false false) := by
  refine returnsInHanded_of_change (C := Try.checked) own started (by as_aux_lemma => kernel_rfl) Try.func20
    (ChangeSpec.witness6 (enc := enc) (C := Try.checked) false ⟨#[], #[.slice none 0 0, .slice none 0 0, .int .i64 0, .int .i64 0], []⟩ 8 (by as_aux_lemma => kernel_rfl) (by as_aux_lemma => kernel_rfl) (by as_aux_lemma => kernel_rfl) (by as_aux_lemma => kernel_rfl)) ?_
  intro W base args ds gs before hval0 hW _ _
  have hval : ∀ (j : Nat) t v, Try.f20.params[j]? = some t → args[j]? = some v → Value.okWide Try.prog W .any base t v := hval0
  have hW' := hW
  obtain ⟨p, q, hA0, hV, rfl, _, _⟩ := hW
  have hA : DataW.TrodAll enc Try.prog W 0 (fun _ => true) true Try.f20.params.toList args.toList ds p := hA0
  rw [Try.params20] at hA hval
  obtain ⟨v0, v1, v2, v3, d0, d1, d2, d3, p0, p1, p2, p3, rfl, rfl, rfl, h0, h1, h2, h3⟩ := trodAll_four hA
  obtain ⟨rfl, rfl⟩ := trodVars_none hV
  clear hA0 hval0
  simp only [List.append_nil] at hW'
  have hlt : ∀ x ∈ p0 ++ (p1 ++ (p2 ++ p3)), x.block < W.heap.size := fun x hx => hW'.lt x (by simpa using hx)
  have hargs : ∀ W', Below W.heap.size W W' → DataW.TrodAll enc Try.prog W' 0 (fun b => decide (b < W.heap.size)) true [22, 23, 3, 3] [v0, v1, v2, v3] [d0, d1, d2, d3] (p0 ++ (p1 ++ (p2 ++ p3))) := fun W' hb =>
    trodAll_mk4 (Below.trod laidOut (by as_aux_lemma => kernel_rfl) (of_decide_eq_true (by as_aux_lemma => kernel_rfl)) h0 hb (fun x hx => hlt x (by simp [hx]))) (Below.trod laidOut (by as_aux_lemma => kernel_rfl) (of_decide_eq_true (by as_aux_lemma => kernel_rfl)) h1 hb (fun x hx => hlt x (by simp [hx]))) (Below.trod laidOut (by as_aux_lemma => kernel_rfl) (of_decide_eq_true (by as_aux_lemma => kernel_rfl)) h2 hb (fun x hx => hlt x (by simp [hx]))) (Below.trod laidOut (by as_aux_lemma => kernel_rfl) (of_decide_eq_true (by as_aux_lemma => kernel_rfl)) h3 hb (fun x hx => hlt x (by simp [hx])))
  obtain ⟨A0, l0, c0, rfl, hl0, hlm0⟩ := open_tasks Try.underlying22 Try.underlying65 (by as_aux_lemma => kernel_rfl) (by as_aux_lemma => kernel_rfl) Try.underlying3 Try.underlying4 rfl rfl rfl rfl rfl (okWide_slice Try.underlying22 (hval 0 _ v0 rfl rfl)) h0
  obtain ⟨A1, l1, c1, rfl, hlc1, hlm1, hlw1, hl1⟩ := open_kind Try.underlying23 Try.underlying3 (by as_aux_lemma => kernel_rfl) (okWide_slice Try.underlying23 (hval 1 _ v1 rfl rfl)) h1
  obtain ⟨x2, rfl, _, _, wx2⟩ := open_int Try.underlying3 (hval 2 _ v2 rfl rfl) h2
  obtain ⟨x3, rfl, _, _, wx3⟩ := open_int Try.underlying3 (hval 3 _ v3 rfl rfl) h3
  refine (law_FnExactPackHolds A0 l0 c0 A1 l1 c1 x2 x3 W hl0 hlm0 hl1 hlm1 wx2 wx3).mono fun e W' ⟨he, hb⟩ => ?_
  subst he
  exact ⟨_, rfl, ⟨_, _, _, [], _, [], hW', trodAll_mk1 (shut_bool Try.underlying4 _), hargs W' hb, rfl, hb.frame _, fun h => by cases h⟩⟩

theorem FnExactPackHolds_joined : joinedFacts Try.prog 20 Try.f20 Rows.fnExactPackHoldsSpec Rows.fnExactPackHoldsRow = true :=
  joined_mk (by as_aux_lemma => kernel_rfl) laidOut mapsRowed_ok (by as_aux_lemma => kernel_rfl) (by as_aux_lemma => kernel_rfl) (by as_aux_lemma => kernel_rfl) stops_ok (by as_aux_lemma => kernel_rfl) knobs_ok (by as_aux_lemma => kernel_rfl) (by as_aux_lemma => kernel_rfl) (by as_aux_lemma => kernel_rfl) (by as_aux_lemma => kernel_rfl) (by as_aux_lemma => kernel_rfl) (by as_aux_lemma => kernel_rfl) (by as_aux_lemma => kernel_rfl) (by as_aux_lemma => kernel_rfl) (by as_aux_lemma => kernel_rfl) (by as_aux_lemma => kernel_rfl) (by as_aux_lemma => kernel_rfl) (by as_aux_lemma => kernel_rfl) (by as_aux_lemma => kernel_rfl) (by rw [keys_ok]; rfl) (by as_aux_lemma => kernel_rfl) heard_ok enter_ok (by rw [lifts_ok]; rfl) (by rw [make_ok]; rfl) (by as_aux_lemma => kernel_rfl) (by as_aux_lemma => kernel_rfl) (by as_aux_lemma => kernel_rfl) (by as_aux_lemma => kernel_rfl)

theorem FnExactPackHolds_holds : Rows.FnExactPackHoldsSaid :=
  OpenClaim.holds_of_wide 20 Try.f20 rfl rfl rfl rfl rfl rfl rfl ⟨rfl, rfl, rfl, rfl, rfl⟩ rfl rfl rfl rfl rfl (by as_aux_lemma => kernel_rfl) Try.func20 FnExactPackHolds_joined
    (of_decide_eq_true (by as_aux_lemma => kernel_rfl)) (by unfold Func.isWrapper; rw [if_neg (by decide +kernel)]; exact ⟨rfl, rfl⟩)
    (fun os started H enc _ => FnExactPackHolds_lifted os started H enc)
#print axioms FnExactPackHolds_holds
end Go.Proofs.Ytnhidlhfgpoopaa
