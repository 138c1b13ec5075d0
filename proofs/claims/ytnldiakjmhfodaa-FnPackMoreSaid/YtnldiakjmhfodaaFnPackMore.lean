/-
  FnPackMore returns true for every code.
-/
import Derived.Test.YtnldiakjmhfodaaDrawP2
import Derived.Test.YtnldiakjmhfodaaPackH
import Derived.Test.YtnldiakjmhfodaaOpen
namespace Go.Proofs.Ytnldiakjmhfodaa
open Go.RowKit

set_option maxHeartbeats 4000000 in
set_option maxRecDepth 100000 in
theorem law_FnPackMore (A0 : Option Addr) (code : List Int) (c0 : Nat) (w : World) (h : BS w A0 code) (hl : code.length ≤ maxLen) (hlc : code.length ≤ c0) :
    Calls Try.prog 5 #[.slice A0 code.length c0] w fun e w' => e = .returned (.bool true) ∧ Below w.heap.size w w' := by
  have hl' := hl
  unfold maxLen at hl'
  by_cases h1 : code.length ≤ 1048576
  case neg =>
    go_enter Try.func5, Try.ntmps5
    go_wp2_with fail
    go_ret
    exact ⟨rfl, Below.refl _ _⟩
  go_enter Try.func5, Try.ntmps5
  go_wp2_with fail
  refine (spec_DrawPackHolds A0 code c0 w h hl hlc).mono ?_
  rintro e w1 ⟨A, c, l, B, d, ws, n, m, rfl, hk⟩
  have hO := hk.tasks
  have hI := hk.ints
  have hl5 := hk.len
  have hw6 := hk.wlen
  have n0 := hk.n0
  have n4 := hk.n4
  have hb := hk.below
  clear hk
  go_wp2_with fail
  refine (impl_PackHolds A B l ws c d n m _ hO.ts hI.is).mono ?_
  rintro e w2 ⟨rfl, b2⟩
  go_wp2_with fail
  refine (spec_PackHolds A B l ws c d n m _ (hO.ts.keep b2) (hI.is.keep b2) (by omega)).mono ?_
  rintro e w3 ⟨rfl, b3⟩
  have B3 := bthru b2 b3
  cases hp : pkH l ws n m with
  | false =>
    go_wp2_with fail
    refine (spec_PackHolds A B l ws c d n m _ (hO.ts.keep B3) (hI.is.keep B3) (by omega)).mono ?_
    rw [hp]
    rintro e w4 ⟨rfl, b4⟩
    go_wp2_with fail
    go_ret
    exact ⟨rfl, bthru hb (bthru B3 b4)⟩
  | true =>

    have hn3 : n ≤ 3 := ((packVld_iff _ _ _).1 ((pkH_iff _ _ _ _).1 hp).1).2.2.1
    have Hm := Lib.hid (pkH_more hp hn3 (Int.le_refl 3))
    clear hp
    go_wp2_with fail
    refine (impl_PackHolds A B l ws c d 3 m _ (hO.ts.keep B3) (hI.is.keep B3)).mono ?_
    rw [Hm.out]
    rintro e w4 ⟨rfl, b4⟩
    go_wp2_with fail
    go_ret
    exact ⟨rfl, bthru hb (bthru B3 b4)⟩

open Go.ChangeShapes Go.WideShapes Go.ChangeAt Go.WideElems Go.Deep

set_option maxRecDepth 100000 in
theorem FnPackMore_lifted (os : Os) (started : os.Started) (H : Type) (enc : TypeId × Value → H) :
    ReturnsInHanded {} Try.checked os 5 .any (Rows.fnPackMoreSpec.pre6 enc Try.prog Try.f5 Rows.fnPackMoreRow.domain false) (Rows.fnPackMoreSpec.post enc Try.prog Try.f5 false true false false) := by
  refine returnsInHanded_of_change (C := Try.checked) own started (by as_aux_lemma => kernel_rfl) Try.func5
    (ChangeSpec.witness6 (enc := enc) (C := Try.checked) false ⟨#[], #[.slice none 0 0], []⟩ 8 (by as_aux_lemma => kernel_rfl) (by as_aux_lemma => kernel_rfl) (by as_aux_lemma => kernel_rfl) (by as_aux_lemma => kernel_rfl)) ?_
  intro W base args ds gs before hval0 hW _ _
  have hval : ∀ (j : Nat) t v, Try.f5.params[j]? = some t → args[j]? = some v → Value.okWide Try.prog W .any base t v := hval0
  have hW' := hW
  obtain ⟨p, q, hA0, hV, rfl, _, _⟩ := hW
  have hA : DataW.TrodAll enc Try.prog W 0 (fun _ => true) true Try.f5.params.toList args.toList ds p := hA0
  rw [Try.params5] at hA hval
  obtain ⟨v0, d0, rfl, rfl, h0⟩ := trodAll_one hA
  obtain ⟨rfl, rfl⟩ := trodVars_none hV
  clear hA0 hval0
  simp only [List.append_nil] at hW'
  have hlt : ∀ x ∈ p, x.block < W.heap.size := fun x hx => hW'.lt x (by simpa using hx)
  have hargs : ∀ W', Below W.heap.size W W' → DataW.TrodAll enc Try.prog W' 0 (fun b => decide (b < W.heap.size)) true [41] [v0] [d0] (p) := fun W' hb =>
    trodAll_mk1 (Below.trod laidOut (by as_aux_lemma => kernel_rfl) (of_decide_eq_true (by as_aux_lemma => kernel_rfl)) h0 hb (fun x hx => hlt x (by simp [hx])))
  obtain ⟨A0, l0, c0, rfl, hlc0, hlm0, hlw0, hl0⟩ := open_kind Try.underlying41 Try.underlying5 (by as_aux_lemma => kernel_rfl) (okWide_slice Try.underlying41 (hval 0 _ v0 rfl rfl)) h0
  refine (law_FnPackMore A0 l0 c0 W ⟨fun x hx => byte_wf (hlw0 x hx), hl0⟩ hlm0 hlc0).mono fun e W' ⟨he, hb⟩ => ?_
  subst he
  exact ⟨_, rfl, ⟨_, _, _, [], _, [], hW', trodAll_mk1 (shut_bool Try.underlying4 _), hargs W' hb, rfl, hb.frame _, fun h => by cases h⟩⟩

theorem FnPackMore_joined : joinedFacts Try.prog 5 Try.f5 Rows.fnPackMoreSpec Rows.fnPackMoreRow = true :=
  joined_mk (by as_aux_lemma => kernel_rfl) laidOut mapsRowed_ok (by as_aux_lemma => kernel_rfl) (by as_aux_lemma => kernel_rfl) (by as_aux_lemma => kernel_rfl) stops_ok (by as_aux_lemma => kernel_rfl) knobs_ok (by as_aux_lemma => kernel_rfl) (by as_aux_lemma => kernel_rfl) (by as_aux_lemma => kernel_rfl) (by as_aux_lemma => kernel_rfl) (by as_aux_lemma => kernel_rfl) (by as_aux_lemma => kernel_rfl) (by as_aux_lemma => kernel_rfl) (by as_aux_lemma => kernel_rfl) (by as_aux_lemma => kernel_rfl) (by as_aux_lemma => kernel_rfl) (by as_aux_lemma => kernel_rfl) (by as_aux_lemma => kernel_rfl) (by as_aux_lemma => kernel_rfl) (by rw [keys_ok]; rfl) (by as_aux_lemma => kernel_rfl) heard_ok enter_ok (by rw [lifts_ok]; rfl) (by rw [make_ok]; rfl) (by as_aux_lemma => kernel_rfl) (by as_aux_lemma => kernel_rfl) (by as_aux_lemma => kernel_rfl) (by as_aux_lemma => kernel_rfl)

theorem FnPackMore_holds : Rows.FnPackMoreSaid :=
  OpenClaim.holds_of_wide 5 Try.f5 rfl rfl rfl rfl rfl rfl rfl ⟨rfl, rfl, rfl, rfl, rfl⟩ rfl rfl rfl rfl rfl (by as_aux_lemma => kernel_rfl) Try.func5 FnPackMore_joined
    (of_decide_eq_true (by as_aux_lemma => kernel_rfl)) (by unfold Func.isWrapper; rw [if_neg (by decide +kernel)]; exact ⟨rfl, rfl⟩)
    (fun os started H enc _ => FnPackMore_lifted os started H enc)
#print axioms FnPackMore_holds
end Go.Proofs.Ytnldiakjmhfodaa
