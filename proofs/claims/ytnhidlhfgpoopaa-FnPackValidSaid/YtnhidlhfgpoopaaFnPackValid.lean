/-
  FnPackValid returns true for every code.
-/
import Derived.Test.YtnhidlhfgpoopaaPackValid
import Derived.Test.YtnhidlhfgpoopaaDrawCase
import Derived.Test.YtnhidlhfgpoopaaOpen
namespace Go.Proofs.Ytnhidlhfgpoopaa
open Go.RowKit

theorem packVld_more {l : List Tk} {ws : List Int} {n : Int} (h : packVld l ws n = true) : packVld l ws 3 = true ∧ setVld l = true ∧ ws.length = l.length := by
  simp only [packVld, Bool.and_eq_true, decide_eq_true_eq, List.all_eq_true] at h ⊢
  obtain ⟨⟨⟨⟨h1, h2⟩, h3⟩, h4⟩, h5⟩ := h
  refine ⟨⟨⟨⟨⟨h1, by omega⟩, by omega⟩, h4⟩, fun x hx => ?_⟩, h1, h4⟩
  have := h5 x hx
  simp only [wok, decide_eq_true_eq] at this ⊢
  omega

theorem law_FnPackValid (A0 : Option Addr) (code : List Int) (c0 : Nat) (w : World) (h : BS w A0 code) (hl : code.length ≤ maxLen) (hlc : code.length ≤ c0) :
    Calls Try.prog 4 #[.slice A0 code.length c0] w fun e w' => e = .returned (.bool true) ∧ Below w.heap.size w w' := by
  have hl' := hl
  unfold maxLen at hl'
  by_cases h1 : code.length ≤ 1048576
  case neg =>
    go_enter Try.func4, Try.ntmps4
    go_wp2_with fail
    go_ret
    exact ⟨rfl, Below.refl _ _⟩
  go_enter Try.func4, Try.ntmps4
  go_wp2_with fail
  refine (spec_DrawPackValid A0 code c0 w h hl hlc).mono ?_
  rintro e w1 ⟨A, c, l, B, d, ws, n, m, rfl, hk⟩
  have hlen := hk.len
  have hwlen := hk.wlen
  go_wp2_with fail
  refine (impl_PackValid A B l ws c d n _ hk.tasks.ts hk.ints.is).mono ?_
  rintro e w2 ⟨rfl, b2⟩
  go_wp2_with fail
  refine (spec_PackValid A B l ws c d n _ (hk.tasks.ts.keep b2) (hk.ints.is.keep b2) (by omega)).mono ?_
  rintro e w3 ⟨rfl, b3⟩
  have b23 := bthru b2 b3
  cases hv : packVld l ws n with
  | false =>
    go_wp2_with fail
    refine (spec_PackValid A B l ws c d n _ (hk.tasks.ts.keep b23) (hk.ints.is.keep b23) (by omega)).mono ?_
    rintro e w4 ⟨rfl, b4⟩
    rw [hv]
    go_wp2_with fail
    go_ret
    exact ⟨rfl, bthru hk.below (bthru b23 b4)⟩
  | true =>
    obtain ⟨hv3, hs, hlw⟩ := packVld_more hv
    have hlw' : ((ws.length : Int) == l.length) = true := beq_iff_eq.2 (by omega)
    have Hv3 := Lib.hid hv3
    have Hs := Lib.hid hs
    clear hv3 hs hlw
    go_wp2_with fail
    refine (impl_PackValid A B l ws c d 3 _ (hk.tasks.ts.keep b23) (hk.ints.is.keep b23)).mono ?_
    rintro e w4 ⟨rfl, b4⟩
    rw [Hv3.out]
    go_wp2_with fail
    refine (impl_SetValid A l c _ ((hk.tasks.ts.keep b23).keep b4)).mono ?_
    rintro e w5 ⟨rfl, b5⟩
    rw [Hs.out]
    go_wp2_with fail
    go_ret
    exact ⟨rfl, bthru hk.below (bthru (bthru b23 b4) b5)⟩

open Go.ChangeShapes Go.WideShapes Go.ChangeAt Go.WideElems Go.Deep

set_option maxRecDepth 100000 in
theorem FnPackValid_lifted (os : Os) (started : os.Started) (H : Type) (enc : TypeId × Value → H) :
    ReturnsInHanded {} Try.checked os 4 .any (Rows.fnPackValidSpec.pre6 enc Try.prog Try.f4 Rows.fnPackValidRow.domain false) (Rows.fnPackValidSpec.post enc Try.prog Try.f4 false true false false) := by
  refine returnsInHanded_of_change (C := Try.checked) own started (by as_aux_lemma => kernel_rfl) Try.func4
    (ChangeSpec.witness6 (enc := enc) (C := Try.checked) false ⟨#[], #[.slice none 0 0], []⟩ 8 (by as_aux_lemma => kernel_rfl) (by as_aux_lemma => kernel_rfl) (by as_aux_lemma => kernel_rfl) (by as_aux_lemma => kernel_rfl)) ?_
  intro W base args ds gs before hval0 hW _ _
  have hval : ∀ (j : Nat) t v, Try.f4.params[j]? = some t → args[j]? = some v → Value.okWide Try.prog W .any base t v := hval0
  have hW' := hW
  obtain ⟨p, q, hA0, hV, rfl, _, _⟩ := hW
  have hA : DataW.TrodAll enc Try.prog W 0 (fun _ => true) true Try.f4.params.toList args.toList ds p := hA0
  rw [Try.params4] at hA hval
  obtain ⟨v0, d0, rfl, rfl, h0⟩ := trodAll_one hA
  obtain ⟨rfl, rfl⟩ := trodVars_none hV
  clear hA0 hval0
  simp only [List.append_nil] at hW'
  have hlt : ∀ x ∈ p, x.block < W.heap.size := fun x hx => hW'.lt x (by simpa using hx)
  have hargs : ∀ W', Below W.heap.size W W' → DataW.TrodAll enc Try.prog W' 0 (fun b => decide (b < W.heap.size)) true [32] [v0] [d0] (p) := fun W' hb =>
    trodAll_mk1 (Below.trod laidOut (by as_aux_lemma => kernel_rfl) (of_decide_eq_true (by as_aux_lemma => kernel_rfl)) h0 hb (fun x hx => hlt x (by simp [hx])))
  obtain ⟨A0, l0, c0, rfl, hlc0, hlm0, hlw0, hl0⟩ := open_kind Try.underlying32 Try.underlying5 (by as_aux_lemma => kernel_rfl) (okWide_slice Try.underlying32 (hval 0 _ v0 rfl rfl)) h0
  refine (law_FnPackValid A0 l0 c0 W ⟨fun x hx => byte_wf (hlw0 x hx), hl0⟩ hlm0 hlc0).mono fun e W' ⟨he, hb⟩ => ?_
  subst he
  exact ⟨_, rfl, ⟨_, _, _, [], _, [], hW', trodAll_mk1 (shut_bool Try.underlying4 _), hargs W' hb, rfl, hb.frame _, fun h => by cases h⟩⟩

theorem FnPackValid_joined : joinedFacts Try.prog 4 Try.f4 Rows.fnPackValidSpec Rows.fnPackValidRow = true :=
  joined_mk (by as_aux_lemma => kernel_rfl) laidOut mapsRowed_ok (by as_aux_lemma => kernel_rfl) (by as_aux_lemma => kernel_rfl) (by as_aux_lemma => kernel_rfl) stops_ok (by as_aux_lemma => kernel_rfl) knobs_ok (by as_aux_lemma => kernel_rfl) (by as_aux_lemma => kernel_rfl) (by as_aux_lemma => kernel_rfl) (by as_aux_lemma => kernel_rfl) (by as_aux_lemma => kernel_rfl) (by as_aux_lemma => kernel_rfl) (by as_aux_lemma => kernel_rfl) (by as_aux_lemma => kernel_rfl) (by as_aux_lemma => kernel_rfl) (by as_aux_lemma => kernel_rfl) (by as_aux_lemma => kernel_rfl) (by as_aux_lemma => kernel_rfl) (by as_aux_lemma => kernel_rfl) (by rw [keys_ok]; rfl) (by as_aux_lemma => kernel_rfl) heard_ok enter_ok (by rw [lifts_ok]; rfl) (by rw [make_ok]; rfl) (by as_aux_lemma => kernel_rfl) (by as_aux_lemma => kernel_rfl) (by as_aux_lemma => kernel_rfl) (by as_aux_lemma => kernel_rfl)

theorem FnPackValid_holds : Rows.FnPackValidSaid :=
  OpenClaim.holds_of_wide 4 Try.f4 rfl rfl rfl rfl rfl rfl rfl ⟨rfl, rfl, rfl, rfl, rfl⟩ rfl rfl rfl rfl rfl (by as_aux_lemma => kernel_rfl) Try.func4 FnPackValid_joined
    (of_decide_eq_true (by as_aux_lemma => kernel_rfl)) (by unfold Func.isWrapper; rw [if_neg (by decide +kernel)]; exact ⟨rfl, rfl⟩)
    (fun os started H enc _ => FnPackValid_lifted os started H enc)
#print axioms FnPackValid_holds
end Go.Proofs.Ytnhidlhfgpoopaa
