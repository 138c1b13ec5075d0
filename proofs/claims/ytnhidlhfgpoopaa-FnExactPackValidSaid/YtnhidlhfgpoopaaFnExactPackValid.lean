/-
  FnExactPackValid returns true for all arguments, and leaves them as they were.
-/
import Derived.Test.YtnhidlhfgpoopaaPackValid
import Derived.Test.YtnhidlhfgpoopaaLawKit2
import Derived.Test.YtnhidlhfgpoopaaOpen
namespace Go.Proofs.Ytnhidlhfgpoopaa
open Go.RowKit

theorem law_FnExactPackValid (A : Option Addr) (l : List Tk) (c : Nat) (B : Option Addr) (ws : List Int) (d : Nat) (p : Int) (w : World) (h : TS w A l) (hl : l.length ≤ maxLen) (g : IS w B ws) (hws : ws.length ≤ maxLen) (_wp : (Lit.int .i64 p).wf = true) :
    Calls Try.prog 3 #[.slice A l.length c, .slice B ws.length d, .int .i64 p] w fun e w' => e = .returned (.bool true) ∧ Below w.heap.size w w' := by
  unfold maxLen at hl hws
  by_cases h1 : ws.length ≤ 1048576
  case neg =>
    go_enter Try.func3, Try.ntmps3
    go_wp2_with fail
    go_ret
    exact ⟨rfl, Below.refl _ _⟩
  by_cases h2 : l.length ≤ 1048576
  case neg =>
    go_enter Try.func3, Try.ntmps3
    go_wp2_with (go_at_call 21; refine (laws_szTaskS_no _ _ _ _ _ (by omega) (by omega) (by omega) (by omega)).mono ?_; rintro e w1 ⟨rfl, rfl⟩)
    go_ret
    exact ⟨rfl, Below.refl _ _⟩
  go_enter Try.func3, Try.ntmps3
  go_wp2_with (go_at_call 21; refine (laws_szTaskS _ _ _ _ _ (by omega) (by omega)).mono ?_; rintro e w1 ⟨rfl, rfl⟩)
  refine (laws_toTaskS A l c _ h h2).mono ?_
  rintro e w1 ⟨A1, c1, rfl, o1, b1⟩
  go_wp2_with fail
  refine (laws_toIntS B ws d _ (g.keep b1) h1).mono ?_
  rintro e w2 ⟨B2, d2, rfl, o2, b2⟩
  have b12 := bthru b1 b2
  go_wp2_with fail
  refine (spec_PackValid A1 B2 l ws c1 d2 p _ (o1.ts.keep b2) o2.is (by omega)).mono ?_
  rintro e w3 ⟨rfl, b3⟩
  have b13 := bthru b12 b3
  go_wp2_with fail
  refine (laws_toTaskS A l c _ (h.keep b13) h2).mono ?_
  rintro e w4 ⟨A4, c4, rfl, o4, b4⟩
  have b14 := bthru b13 b4
  go_wp2_with fail
  refine (laws_toIntS B ws d _ (g.keep b14) h1).mono ?_
  rintro e w5 ⟨B5, d5, rfl, o5, b5⟩
  have b15 := bthru b14 b5
  go_wp2_with fail
  refine (impl_PackValid A4 B5 l ws c4 d5 p _ (o4.ts.keep b5) o5.is).mono ?_
  rintro e w6 ⟨rfl, b6⟩
  have b16 := bthru b15 b6
  have t5 := (o4.ts.keep b5).keep b6
  have i6 := o5.is.keep b6
  go_wp2_with fail
  refine (laws_toTaskS A l c _ (h.keep b16) h2).mono ?_
  rintro e w7 ⟨A7, c7, rfl, o7, b7⟩
  have b17 := bthru b16 b7
  go_wp2_with fail
  refine (laws_eqTaskS A4 A7 l l c4 c7 _ (t5.keep b7) o7.ts (by omega)).mono ?_
  rintro e w8 ⟨rfl, b8⟩
  have b18 := bthru b17 b8
  go_wp2_with fail
  refine (laws_toIntS B ws d _ (g.keep b18) h1).mono ?_
  rintro e w9 ⟨B9, d9, rfl, o9, b9⟩
  have b19 := bthru b18 b9
  go_wp2_with fail
  refine (laws_eqIntS B5 B9 ws ws d5 d9 _ (((i6.keep b7).keep b8).keep b9) o9.is (by omega)).mono ?_
  rintro e w10 ⟨rfl, b10⟩
  go_wp2_with fail
  go_ret
  exact ⟨rfl, bthru b19 b10⟩

open Go.ChangeShapes Go.WideShapes Go.ChangeAt Go.WideElems Go.Deep

set_option maxRecDepth 100000 in
theorem FnExactPackValid_lifted (os : Os) (started : os.Started) (H : Type) (enc : TypeId × Value → H) :
    ReturnsInHanded {} Try.checked os 3 .any (Rows.fnExactPackValidSpec.pre6 enc Try.prog Try.f3 Rows.fnExactPackValidRow.domain false) (Rows.fnExactPackValidSpec.post enc Try.prog Try.f3 false true false false) := by
  refine returnsInHanded_of_change (C := Try.checked) own started (by as_aux_lemma => kernel_rfl) Try.func3
    (ChangeSpec.witness6 (enc := enc) (C := Try.checked) false ⟨#[], #[.slice none 0 0, .slice none 0 0, .int .i64 0], []⟩ 8 (by as_aux_lemma => kernel_rfl) (by as_aux_lemma => kernel_rfl) (by as_aux_lemma => kernel_rfl) (by as_aux_lemma => kernel_rfl)) ?_
  intro W base args ds gs before hval0 hW _ _
  have hval : ∀ (j : Nat) t v, Try.f3.params[j]? = some t → args[j]? = some v → Value.okWide Try.prog W .any base t v := hval0
  have hW' := hW
  obtain ⟨p, q, hA0, hV, rfl, _, _⟩ := hW
  have hA : DataW.TrodAll enc Try.prog W 0 (fun _ => true) true Try.f3.params.toList args.toList ds p := hA0
  rw [Try.params3] at hA hval
  obtain ⟨v0, v1, v2, d0, d1, d2, p0, p1, p2, rfl, rfl, rfl, h0, h1, h2⟩ := trodAll_three hA
  obtain ⟨rfl, rfl⟩ := trodVars_none hV
  clear hA0 hval0
  simp only [List.append_nil] at hW'
  have hlt : ∀ x ∈ p0 ++ (p1 ++ p2), x.block < W.heap.size := fun x hx => hW'.lt x (by simpa using hx)
  have hargs : ∀ W', Below W.heap.size W W' → DataW.TrodAll enc Try.prog W' 0 (fun b => decide (b < W.heap.size)) true [22, 23, 3] [v0, v1, v2] [d0, d1, d2] (p0 ++ (p1 ++ p2)) := fun W' hb =>
    trodAll_mk3 (Below.trod laidOut (by as_aux_lemma => kernel_rfl) (of_decide_eq_true (by as_aux_lemma => kernel_rfl)) h0 hb (fun x hx => hlt x (by simp [hx]))) (Below.trod laidOut (by as_aux_lemma => kernel_rfl) (of_decide_eq_true (by as_aux_lemma => kernel_rfl)) h1 hb (fun x hx => hlt x (by simp [hx]))) (Below.trod laidOut (by as_aux_lemma => kernel_rfl) (of_decide_eq_true (by as_aux_lemma => kernel_rfl)) h2 hb (fun x hx => hlt x (by simp [hx])))
  obtain ⟨A0, l0, c0, rfl, hl0, hlm0⟩ := open_tasks Try.underlying22 Try.underlying65 (by as_aux_lemma => kernel_rfl) (by as_aux_lemma => kernel_rfl) Try.underlying3 Try.underlying4 rfl rfl rfl rfl rfl (okWide_slice Try.underlying22 (hval 0 _ v0 rfl rfl)) h0
  obtain ⟨A1, l1, c1, rfl, hlc1, hlm1, hlw1, hl1⟩ := open_kind Try.underlying23 Try.underlying3 (by as_aux_lemma => kernel_rfl) (okWide_slice Try.underlying23 (hval 1 _ v1 rfl rfl)) h1
  obtain ⟨x2, rfl, _, _, wx2⟩ := open_int Try.underlying3 (hval 2 _ v2 rfl rfl) h2
  refine (law_FnExactPackValid A0 l0 c0 A1 l1 c1 x2 W hl0 hlm0 hl1 hlm1 wx2).mono fun e W' ⟨he, hb⟩ => ?_
  subst he
  exact ⟨_, rfl, ⟨_, _, _, [], _, [], hW', trodAll_mk1 (shut_bool Try.underlying4 _), hargs W' hb, rfl, hb.frame _, fun h => by cases h⟩⟩

theorem FnExactPackValid_joined : joinedFacts Try.prog 3 Try.f3 Rows.fnExactPackValidSpec Rows.fnExactPackValidRow = true :=
  joined_mk (by as_aux_lemma => kernel_rfl) laidOut mapsRowed_ok (by as_aux_lemma => kernel_rfl) (by as_aux_lemma => kernel_rfl) (by as_aux_lemma => kernel_rfl) stops_ok (by as_aux_lemma => kernel_rfl) knobs_ok (by as_aux_lemma => kernel_rfl) (by as_aux_lemma => kernel_rfl) (by as_aux_lemma => kernel_rfl) (by as_aux_lemma => kernel_rfl) (by as_aux_lemma => kernel_rfl) (by as_aux_lemma => kernel_rfl) (by as_aux_lemma => kernel_rfl) (by as_aux_lemma => kernel_rfl) (by as_aux_lemma => kernel_rfl) (by as_aux_lemma => kernel_rfl) (by as_aux_lemma => kernel_rfl) (by as_aux_lemma => kernel_rfl) (by as_aux_lemma => kernel_rfl) (by rw [keys_ok]; rfl) (by as_aux_lemma => kernel_rfl) heard_ok enter_ok (by rw [lifts_ok]; rfl) (by rw [make_ok]; rfl) (by as_aux_lemma => kernel_rfl) (by as_aux_lemma => kernel_rfl) (by as_aux_lemma => kernel_rfl) (by as_aux_lemma => kernel_rfl)

theorem FnExactPackValid_holds : Rows.FnExactPackValidSaid :=
  OpenClaim.holds_of_wide 3 Try.f3 rfl rfl rfl rfl rfl rfl rfl ⟨rfl, rfl, rfl, rfl, rfl⟩ rfl rfl rfl rfl rfl (by as_aux_lemma => kernel_rfl) Try.func3 FnExactPackValid_joined
    (of_decide_eq_true (by as_aux_lemma => kernel_rfl)) (by unfold Func.isWrapper; rw [if_neg (by decide +kernel)]; exact ⟨rfl, rfl⟩)
    (fun os started H enc _ => FnExactPackValid_lifted os started H enc)
#print axioms FnExactPackValid_holds
end Go.Proofs.Ytnhidlhfgpoopaa
