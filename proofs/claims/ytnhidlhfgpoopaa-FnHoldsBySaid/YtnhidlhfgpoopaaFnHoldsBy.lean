/-
  FnHoldsBy returns true for every code.
-/
import Derived.Test.YtnhidlhfgpoopaaDrawHold
import Derived.Test.YtnhidlhfgpoopaaOpen
namespace Go.Proofs.Ytnhidlhfgpoopaa
open Go.RowKit

set_option maxHeartbeats 4000000 in
set_option maxRecDepth 100000 in
theorem law_FnHoldsBy (A0 : Option Addr) (code : List Int) (c0 : Nat) (w : World) (h : BS w A0 code) (hl : code.length ≤ maxLen) (hlc : code.length ≤ c0) :
    Calls Try.prog 19 #[.slice A0 code.length c0] w fun e w' => e = .returned (.bool true) ∧ Below w.heap.size w w' := by
  have hl' := hl
  unfold maxLen at hl'
  by_cases h1 : code.length ≤ 1048576
  case neg =>
    go_enter Try.func19, Try.ntmps19
    go_wp2_with fail
    go_ret
    exact ⟨rfl, Below.refl _ _⟩
  go_enter Try.func19, Try.ntmps19
  go_wp2_with fail
  refine (spec_DrawHoldsBy A0 code c0 w h hl hlc).mono ?_
  rintro e w1 ⟨A, c, l, m, rfl, hO, hl5, m0, m2, hb⟩
  have hsz := own_size hO
  obtain ⟨hsz1, hsz2⟩ := hsz
  have hlm : l.length ≤ maxLen := by unfold maxLen; omega
  clear hsz2
  go_wp2_with fail
  refine (impl_HoldsBy A l c m _ hO.ts hlm hsz1).mono ?_
  rintro e w2 ⟨rfl, b2⟩
  go_wp2_with fail
  refine (spec_HoldsBy A l c m _ (hO.ts.keep b2) hlm).mono ?_
  rintro e w3 ⟨rfl, b3⟩
  have B3 := bthru b2 b3
  cases hc : hldBy l m with
  | false =>
    go_wp2_with fail
    refine (spec_HoldsBy A l c m _ (hO.ts.keep B3) hlm).mono ?_
    rw [hc]
    rintro e w4 ⟨rfl, b4⟩
    go_wp2_with fail
    go_ret
    exact ⟨rfl, bthru hb (bthru B3 b4)⟩
  | true =>
    have HC := Lib.hid hc
    clear hc
    by_cases hm : m = 0
    · subst hm
      have ha : (assign l).isSome = true := by simpa [canH] using hldBy_can HC.out
      obtain ⟨o, ho⟩ := Option.isSome_iff_exists.1 ha
      obtain ⟨g1, g2, g3⟩ := assign_good ho
      have hgl : Hid (asgL l = ints o) := by simp [Hid, asgL, ho]
      have hol : o.length = l.length := by rw [g2.length_eq, List.length_range]
      have hpl : (pick l o).length = l.length := by rw [pick_length, hol]
      have hx : ∀ x ∈ o, x < l.length := fun x hx => List.mem_range.1 (g2.mem_iff.1 hx)
      have G1 := Lib.hid g1
      have G2 := Lib.hid g2
      have G3 : Hid (hldBy (pick l o) 0 = true) := by simpa [Hid, hldBy] using g3
      have HA := Lib.hid ha
      have HX := Lib.hid hx
      have Hol := Lib.hid hol
      have Hpl := Lib.hid hpl
      clear g1 g2 g3 ha hx hol hpl ho
      go_wp2_with fail
      refine (impl_AssignOrder A l c _ (hO.ts.keep B3)).mono ?_
      rw [hgl.out, HA.out]
      rintro e w4 ⟨A4, c4, he, o4, b4⟩
      rw [ints_length, Hol.out] at he
      subst he
      have B4 := bthru B3 b4
      have K4 := impl_PutOrder_yes A A4 l o c c4 w4 (hO.ts.keep B4) o4.is HX.out (by omega) (by rw [Hol.out]; omega) G1.out G2.out
      rw [Hol.out] at K4
      go_wp2_with fail
      refine K4.mono ?_
      rintro e w5 ⟨A5, c5, he, o5, b5⟩
      have s5 := own_size o5
      have K5 := impl_HoldsBy A5 (pick l o) c5 0 w5 o5.ts (by rw [Hpl.out]; exact hlm) s5.1
      rw [G3.out, Hpl.out] at K5
      rw [Hpl.out] at he
      subst he
      clear s5 K4
      go_wp2_with fail
      refine K5.mono ?_
      rintro e w6 ⟨rfl, b6⟩
      go_wp2_with fail
      go_ret
      exact ⟨rfl, bthru hb (bthru B4 (bthru b5 b6))⟩
    · have hm' : (m != 0) = true := by simpa using hm
      go_wp2_with fail
      refine (spec_HoldsBy A l c m _ (hO.ts.keep B3) hlm).mono ?_
      rw [HC.out]
      rintro e w4 ⟨rfl, b4⟩
      go_wp2_with fail
      go_ret
      exact ⟨rfl, bthru hb (bthru B3 b4)⟩

open Go.ChangeShapes Go.WideShapes Go.ChangeAt Go.WideElems Go.Deep

set_option maxRecDepth 100000 in
theorem FnHoldsBy_lifted (os : Os) (started : os.Started) (H : Type) (enc : TypeId × Value → H) :
    ReturnsInHanded {} Try.checked os 19 .any (Rows.fnHoldsBySpec.pre6 enc Try.prog Try.f19 Rows.fnHoldsByRow.domain false) (Rows.fnHoldsBySpec.post enc Try.prog Try.f19 false true false false) := by
  refine returnsInHanded_of_change (C := Try.checked) own started (by as_aux_lemma => kernel_rfl) Try.func19
    (ChangeSpec.witness6 (enc := enc) (C := Try.checked) false ⟨#[], #[.slice none 0 0], []⟩ 8 (by as_aux_lemma => kernel_rfl) (by as_aux_lemma => kernel_rfl) (by as_aux_lemma => kernel_rfl) (by as_aux_lemma => kernel_rfl)) ?_
  intro W base args ds gs before hval0 hW _ _
  have hval : ∀ (j : Nat) t v, Try.f19.params[j]? = some t → args[j]? = some v → Value.okWide Try.prog W .any base t v := hval0
  have hW' := hW
  obtain ⟨p, q, hA0, hV, rfl, _, _⟩ := hW
  have hA : DataW.TrodAll enc Try.prog W 0 (fun _ => true) true Try.f19.params.toList args.toList ds p := hA0
  rw [Try.params19] at hA hval
  obtain ⟨v0, d0, rfl, rfl, h0⟩ := trodAll_one hA
  obtain ⟨rfl, rfl⟩ := trodVars_none hV
  clear hA0 hval0
  simp only [List.append_nil] at hW'
  have hlt : ∀ x ∈ p, x.block < W.heap.size := fun x hx => hW'.lt x (by simpa using hx)
  have hargs : ∀ W', Below W.heap.size W W' → DataW.TrodAll enc Try.prog W' 0 (fun b => decide (b < W.heap.size)) true [32] [v0] [d0] (p) := fun W' hb =>
    trodAll_mk1 (Below.trod laidOut (by as_aux_lemma => kernel_rfl) (of_decide_eq_true (by as_aux_lemma => kernel_rfl)) h0 hb (fun x hx => hlt x (by simp [hx])))
  obtain ⟨A0, l0, c0, rfl, hlc0, hlm0, hlw0, hl0⟩ := open_kind Try.underlying32 Try.underlying5 (by as_aux_lemma => kernel_rfl) (okWide_slice Try.underlying32 (hval 0 _ v0 rfl rfl)) h0
  refine (law_FnHoldsBy A0 l0 c0 W ⟨fun x hx => byte_wf (hlw0 x hx), hl0⟩ hlm0 hlc0).mono fun e W' ⟨he, hb⟩ => ?_
  subst he
  exact ⟨_, rfl, ⟨_, _, _, [], _, [], hW', trodAll_mk1 (shut_bool Try.underlying4 _), hargs W' hb, rfl, hb.frame _, fun h => by cases h⟩⟩

theorem FnHoldsBy_joined : joinedFacts Try.prog 19 Try.f19 Rows.fnHoldsBySpec Rows.fnHoldsByRow = true :=
  joined_mk (by as_aux_lemma => kernel_rfl) laidOut mapsRowed_ok (by as_aux_lemma => kernel_rfl) (by as_aux_lemma => kernel_rfl) (by as_aux_lemma => kernel_rfl) stops_ok (by as_aux_lemma => kernel_rfl) knobs_ok (by as_aux_lemma => kernel_rfl) (by as_aux_lemma => kernel_rfl) (by as_aux_lemma => kernel_rfl) (by as_aux_lemma => kernel_rfl) (by as_aux_lemma => kernel_rfl) (by as_aux_lemma => kernel_rfl) (by as_aux_lemma => kernel_rfl) (by as_aux_lemma => kernel_rfl) (by as_aux_lemma => kernel_rfl) (by as_aux_lemma => kernel_rfl) (by as_aux_lemma => kernel_rfl) (by as_aux_lemma => kernel_rfl) (by as_aux_lemma => kernel_rfl) (by rw [keys_ok]; rfl) (by as_aux_lemma => kernel_rfl) heard_ok enter_ok (by rw [lifts_ok]; rfl) (by rw [make_ok]; rfl) (by as_aux_lemma => kernel_rfl) (by as_aux_lemma => kernel_rfl) (by as_aux_lemma => kernel_rfl) (by as_aux_lemma => kernel_rfl)

theorem FnHoldsBy_holds : Rows.FnHoldsBySaid :=
  OpenClaim.holds_of_wide 19 Try.f19 rfl rfl rfl rfl rfl rfl rfl ⟨rfl, rfl, rfl, rfl, rfl⟩ rfl rfl rfl rfl rfl (by as_aux_lemma => kernel_rfl) Try.func19 FnHoldsBy_joined
    (of_decide_eq_true (by as_aux_lemma => kernel_rfl)) (by unfold Func.isWrapper; rw [if_neg (by decide +kernel)]; exact ⟨rfl, rfl⟩)
    (fun os started H enc _ => FnHoldsBy_lifted os started H enc)
#print axioms FnHoldsBy_holds
end Go.Proofs.Ytnhidlhfgpoopaa
