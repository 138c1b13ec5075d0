/-
  FnExactFewestFor returns true for all arguments, and leaves them as they were.
-/
import Derived.Test.YtnldiakjmhfodaaFew
import Derived.Test.YtnldiakjmhfodaaLawKit2
import Derived.Test.YtnldiakjmhfodaaOpen
import Derived.Test.YtnldiakjmhfodaaMark
namespace Go.Proofs.Ytnldiakjmhfodaa
open Go.RowKit

set_option maxHeartbeats 1000000 in
theorem law_FnExactFewestFor (A0 : Option Addr) (l0 : List Tk) (c0 : Nat) (x1 : Int) (w : World) (h0 : TS w A0 l0) (hl0 : l0.length ≤ maxLen) (hx1 : (Lit.int .i64 x1).wf = true) :
    Calls Try.prog 13 #[.slice A0 l0.length c0, .int .i64 x1] w fun e w' => e = .returned (.bool true) ∧ Below w.heap.size w w' := by
  unfold maxLen at hl0
  have hw1 := int_wf hx1
  clear hx1
  obtain ⟨p1, p2, hv⟩ : ∃ p1 p2, optV (fewN l0 x1) = .tuple #[.int .i64 p1, .bool p2] := by cases fewN l0 x1 <;> exact ⟨_, _, rfl⟩
  by_cases hs0 : l0.length ≤ 1048576
  case neg =>
    go_enter Try.func13, Try.ntmps13
    go_wp2_with (go_at_call 29; refine (laws_szTaskS_no _ _ _ _ _ (by omega) (by omega) (by omega) (by omega)).mono ?_; rintro e w1 ⟨rfl, rfl⟩)
    go_ret
    exact ⟨rfl, Below.refl _ _⟩
  go_enter Try.func13, Try.ntmps13
  go_wp2_with (go_at_call 29; refine (laws_szTaskS _ _ _ _ _ (by omega) (by omega)).mono ?_; rintro e w1 ⟨rfl, rfl⟩)
  refine (laws_toTaskS A0 l0 c0 _ (h0.keep (Below.refl _ _)) hs0).mono ?_
  rintro e w1 ⟨Pw1, pw1, rfl, ow1, bw1⟩
  have rw1 : Rng Pw1 w.heap.size w1.heap.size := OT_rng ow1
  have zw1 : w.heap.size ≤ w1.heap.size := bw1.size
  have Bw1 : Below w.heap.size w w1 := bthru (Below.refl _ _) bw1
  go_wp2_with fail
  have K := spec_FewestFor Pw1 l0 pw1 x1 _ ow1.ts (by unfold maxLen; omega) (own_size ow1).1
  rw [hv] at K
  refine K.mono ?_
  clear K
  rintro e w2 ⟨rfl, bw2⟩
  have oT1_w2 := OT_keep ow1 bw2
  clear ow1
  have zw2 : w1.heap.size ≤ w2.heap.size := bw2.size
  have Bw2 : Below w.heap.size w w2 := bthru Bw1 bw2
  go_wp2_with fail
  refine (laws_toTaskS A0 l0 c0 _ (h0.keep Bw2) hs0).mono ?_
  rintro e w3 ⟨Pw3, pw3, rfl, ow3, bw3⟩
  have rw3 : Rng Pw3 w2.heap.size w3.heap.size := OT_rng ow3
  have zw3 : w2.heap.size ≤ w3.heap.size := bw3.size
  have Bw3 : Below w.heap.size w w3 := bthru Bw2 bw3
  go_wp2_with fail
  have K := impl_FewestFor Pw3 l0 pw3 x1 _ ow3.ts (by unfold maxLen; omega) (own_size ow3).1
  rw [hv] at K
  refine K.mono ?_
  clear K
  rintro e w4 ⟨rfl, bw4⟩
  have ox0_w4 := OT_keep ow3 bw4
  clear ow3
  have zw4 : w3.heap.size ≤ w4.heap.size := bw4.size
  have Bw4 : Below w.heap.size w w4 := bthru Bw3 bw4
  go_wp2_with fail
  refine (laws_toTaskS A0 l0 c0 _ (h0.keep Bw4) hs0).mono ?_
  rintro e w5 ⟨Pw5, pw5, rfl, ow5, bw5⟩
  have ox0_w5 := OT_keep ox0_w4 bw5
  clear ox0_w4
  have rw5 : Rng Pw5 w4.heap.size w5.heap.size := OT_rng ow5
  have zw5 : w4.heap.size ≤ w5.heap.size := bw5.size
  have Bw5 : Below w.heap.size w w5 := bthru Bw4 bw5
  go_wp2_with fail
  refine (laws_eqTaskS Pw3 Pw5 l0 l0 pw3 pw5 _ ox0_w5.ts ow5.ts (by omega)).mono ?_
  rintro e w6 ⟨rfl, bw6⟩
  simp only [decide_true]
  have ox0_w6 := OT_keep ox0_w5 bw6
  clear ox0_w5
  have oT2_w6 := OT_keep ow5 bw6
  clear ow5
  have Bw6 : Below w.heap.size w w6 := bthru Bw5 bw6
  go_wp2_with fail
  go_ret
  exact ⟨rfl, Bw6⟩

open Go.ChangeShapes Go.WideShapes Go.ChangeAt Go.WideElems Go.Deep

set_option maxRecDepth 100000 in
theorem FnExactFewestFor_lifted (os : Os) (started : os.Started) (H : Type) (enc : TypeId × Value → H) :
    ReturnsInHanded {} Try.checked os 13 .any (Rows.fnExactFewestForSpec.pre6 enc Try.prog Try.f13 Rows.fnExactFewestForRow.domain false) (Rows.fnExactFewestForSpec.post enc Try.prog Try.f13 false true false false) := by
  refine returnsInHanded_of_change (C := Try.checked) own started (by as_aux_lemma => kernel_rfl) Try.func13
    (ChangeSpec.witness6 (enc := enc) (C := Try.checked) false ⟨#[], #[.slice none 0 0, .int .i64 0], []⟩ 8 (by as_aux_lemma => kernel_rfl) (by as_aux_lemma => kernel_rfl) (by as_aux_lemma => kernel_rfl) (by as_aux_lemma => kernel_rfl)) ?_
  intro W base args ds gs before hval0 hW _ _
  have hval : ∀ (j : Nat) t v, Try.f13.params[j]? = some t → args[j]? = some v → Value.okWide Try.prog W .any base t v := hval0
  have hW' := hW
  obtain ⟨p, q, hA0, hV, rfl, _, _⟩ := hW
  have hA : DataW.TrodAll enc Try.prog W 0 (fun _ => true) true Try.f13.params.toList args.toList ds p := hA0
  rw [Try.params13] at hA hval
  obtain ⟨v0, v1, d0, d1, p0, p1, rfl, rfl, rfl, h0, h1⟩ := trodAll_two hA
  obtain ⟨rfl, rfl⟩ := trodVars_none hV
  clear hA0 hval0
  simp only [List.append_nil] at hW'
  have hlt : ∀ x ∈ p0 ++ p1, x.block < W.heap.size := fun x hx => hW'.lt x (by simpa using hx)
  have hargs : ∀ W', Below W.heap.size W W' → DataW.TrodAll enc Try.prog W' 0 (fun b => decide (b < W.heap.size)) true [22, 3] [v0, v1] [d0, d1] (p0 ++ p1) := fun W' hb =>
    trodAll_mk2 (Below.trod laidOut (by as_aux_lemma => kernel_rfl) (of_decide_eq_true (by as_aux_lemma => kernel_rfl)) h0 hb (fun x hx => hlt x (by simp [hx]))) (Below.trod laidOut (by as_aux_lemma => kernel_rfl) (of_decide_eq_true (by as_aux_lemma => kernel_rfl)) h1 hb (fun x hx => hlt x (by simp [hx])))
  obtain ⟨A0, l0, c0, rfl, hl0, hlm0⟩ := open_tasks Try.underlying22 Try.underlying24 (by as_aux_lemma => kernel_rfl) (by as_aux_lemma => kernel_rfl) Try.underlying3 Try.underlying4 rfl rfl rfl rfl rfl (okWide_slice Try.underlying22 (hval 0 _ v0 rfl rfl)) h0
  obtain ⟨x1, rfl, _, _, wx1⟩ := open_int Try.underlying3 (hval 1 _ v1 rfl rfl) h1
  refine (law_FnExactFewestFor A0 l0 c0 x1 W hl0 hlm0 wx1).mono fun e W' ⟨he, hb⟩ => ?_
  subst he
  exact ⟨_, rfl, ⟨_, _, _, [], _, [], hW', trodAll_mk1 (shut_bool Try.underlying4 _), hargs W' hb, rfl, hb.frame _, fun h => by cases h⟩⟩

theorem FnExactFewestFor_joined : joinedFacts Try.prog 13 Try.f13 Rows.fnExactFewestForSpec Rows.fnExactFewestForRow = true :=
  joined_mk (by as_aux_lemma => kernel_rfl) laidOut mapsRowed_ok (by as_aux_lemma => kernel_rfl) (by as_aux_lemma => kernel_rfl) (by as_aux_lemma => kernel_rfl) stops_ok (by as_aux_lemma => kernel_rfl) knobs_ok (by as_aux_lemma => kernel_rfl) (by as_aux_lemma => kernel_rfl) (by as_aux_lemma => kernel_rfl) (by as_aux_lemma => kernel_rfl) (by as_aux_lemma => kernel_rfl) (by as_aux_lemma => kernel_rfl) (by as_aux_lemma => kernel_rfl) (by as_aux_lemma => kernel_rfl) (by as_aux_lemma => kernel_rfl) (by as_aux_lemma => kernel_rfl) (by as_aux_lemma => kernel_rfl) (by as_aux_lemma => kernel_rfl) (by as_aux_lemma => kernel_rfl) (by rw [keys_ok]; rfl) (by as_aux_lemma => kernel_rfl) heard_ok enter_ok (by rw [lifts_ok]; rfl) (by rw [make_ok]; rfl) (by as_aux_lemma => kernel_rfl) (by as_aux_lemma => kernel_rfl) (by as_aux_lemma => kernel_rfl) (by as_aux_lemma => kernel_rfl)

theorem FnExactFewestFor_holds : Rows.FnExactFewestForSaid :=
  OpenClaim.holds_of_wide 13 Try.f13 rfl rfl rfl rfl rfl rfl rfl ⟨rfl, rfl, rfl, rfl, rfl⟩ rfl rfl rfl rfl rfl (by as_aux_lemma => kernel_rfl) Try.func13 FnExactFewestFor_joined
    (of_decide_eq_true (by as_aux_lemma => kernel_rfl)) (by unfold Func.isWrapper; rw [if_neg (by decide +kernel)]; exact ⟨rfl, rfl⟩)
    (fun os started H enc _ => FnExactFewestFor_lifted os started H enc)
#print axioms FnExactFewestFor_holds
end Go.Proofs.Ytnldiakjmhfodaa
