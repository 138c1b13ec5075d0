/-
  FnPackHolds returns true for every code.
-/
import Derived.Test.YtnldiakjmhfodaaDrawP2
import Derived.Test.YtnldiakjmhfodaaPackH
import Derived.Test.YtnldiakjmhfodaaOpen
namespace Go.Proofs.Ytnldiakjmhfodaa
open Go.RowKit

set_option maxHeartbeats 4000000 in
set_option maxRecDepth 100000 in
theorem law_FnPackHolds (A0 : Option Addr) (code : List Int) (c0 : Nat) (w : World) (h : BS w A0 code) (hl : code.length ≤ maxLen) (hlc : code.length ≤ c0) :
    Calls Try.prog 7 #[.slice A0 code.length c0] w fun e w' => e = .returned (.bool true) ∧ Below w.heap.size w w' := by
  have hl' := hl
  unfold maxLen at hl'
  by_cases h1 : code.length ≤ 1048576
  case neg =>
    go_enter Try.func7, Try.ntmps7
    go_wp2_with fail
    go_ret
    exact ⟨rfl, Below.refl _ _⟩
  go_enter Try.func7, Try.ntmps7
  go_wp2_with fail
  refine (spec_DrawPackHolds A0 code c0 w h hl hlc).mono ?_
  rintro e w1 ⟨A, c, l, B, d, ws, n, m, rfl, hk⟩
  have hO := hk.tasks
  have hI := hk.ints
  have hl5 := hk.len
  have hw6 := hk.wlen
  have n0 := hk.n0
  have n4 := hk.n4
  have hb := hk.below
  clear hk
  go_wp2_with fail
  refine (impl_PackHolds A B l ws c d n m _ hO.ts hI.is).mono ?_
  rintro e w2 ⟨rfl, b2⟩
  go_wp2_with fail
  refine (spec_PackHolds A B l ws c d n m _ (hO.ts.keep b2) (hI.is.keep b2) (by omega)).mono ?_
  rintro e w3 ⟨rfl, b3⟩
  have B3 := bthru b2 b3
  cases hp : pkH l ws n m with
  | false =>
    go_wp2_with fail
    refine (spec_PackHolds A B l ws c d n m _ (hO.ts.keep B3) (hI.is.keep B3) (by omega)).mono ?_
    rw [hp]
    rintro e w4 ⟨rfl, b4⟩
    go_wp2_with fail
    go_ret
    exact ⟨rfl, bthru hb (bthru B3 b4)⟩
  | true =>

    obtain ⟨hpv, hall⟩ := (pkH_iff _ _ _ _).1 hp
    obtain ⟨hs, h1n, h3n, hlen, hin⟩ := (packVld_iff _ _ _).1 hpv
    have hg : Hid (∀ k : Nat, (k : Int) < n → grpOf l ws (k : Int) = grp l ws (k : Int) ∧ gOk l ws (k : Int) = true ∧ canH (grp l ws (k : Int)) m = true) := by
      intro k hk
      have h3 : packVld l ws 3 = true := (packVld_iff _ _ _).2 ⟨hs, by omega, by omega, hlen, fun x hx => ⟨(hin x hx).1, by have := (hin x hx).2; omega⟩⟩
      have e : gOk l ws (k : Int) = true := by simp [gOk, h3]; omega
      exact ⟨by simp [grpOf, e], e, hall k (by omega)⟩
    have HV := Lib.hid hpv
    clear hp hpv hall hs hlen hin
    go_wp2_with fail
    go_loopw [8] (fun i wr => ∃ k : Nat, i = .int .i64 (k : Int) ∧ (k : Int) ≤ n ∧ Below w1.heap.size w1 wr) (fun i _ => (n - intOf i).toNat)
    case atStart => exact ⟨0, rfl, by omega, B3⟩
    case round =>
      obtain ⟨k, rfl, hk, hbr⟩ := hrel
      by_cases hlt : (k : Int) < n
      · have hgk := hg.out k hlt
        have hgl := grp_len l ws (k : Int)
        go_wp2_with fail
        refine (impl_GroupOf A B l ws c d (k : Int) _ (hO.ts.keep hbr) (hI.is.keep hbr) (by omega)).mono ?_
        rw [hgk.1, hgk.2.1]
        rintro e w4 ⟨A4, c4, rfl, o4, b4⟩
        have s4 := own_size o4
        obtain ⟨s41, _⟩ := s4
        have K := impl_CanHold A4 (grp l ws (k : Int)) c4 m w4 o4.ts (by unfold maxLen; omega) s41
        rw [hgk.2.2] at K
        clear hgk
        go_wp2_with fail
        refine K.mono ?_
        rintro e w5 ⟨rfl, b5⟩
        go_wp2_with fail
        go_roundw
        case rel => exact ⟨k + 1, by go_num, by omega, bthru hbr (bthru b4 b5)⟩
        case measure => simp [intOf]; omega
      · go_wp2_with fail
        refine (impl_PackValid A B l ws c d n _ (hO.ts.keep hbr) (hI.is.keep hbr)).mono ?_
        rw [HV.out]
        rintro e w4 ⟨rfl, b4⟩
        go_wp2_with fail
        go_ret
        exact ⟨rfl, bthru hb (bthru hbr b4)⟩

open Go.ChangeShapes Go.WideShapes Go.ChangeAt Go.WideElems Go.Deep

set_option maxRecDepth 100000 in
theorem FnPackHolds_lifted (os : Os) (started : os.Started) (H : Type) (enc : TypeId × Value → H) :
    ReturnsInHanded {} Try.checked os 7 .any (Rows.fnPackHoldsSpec.pre6 enc Try.prog Try.f7 Rows.fnPackHoldsRow.domain false) (Rows.fnPackHoldsSpec.post enc Try.prog Try.f7 false true false false) := by
  refine returnsInHanded_of_change (C := Try.checked) own started (by as_aux_lemma => kernel_rfl) Try.func7
    (ChangeSpec.witness6 (enc := enc) (C := Try.checked) false ⟨#[], #[.slice none 0 0], []⟩ 8 (by as_aux_lemma => kernel_rfl) (by as_aux_lemma => kernel_rfl) (by as_aux_lemma => kernel_rfl) (by as_aux_lemma => kernel_rfl)) ?_
  intro W base args ds gs before hval0 hW _ _
  have hval : ∀ (j : Nat) t v, Try.f7.params[j]? = some t → args[j]? = some v → Value.okWide Try.prog W .any base t v := hval0
  have hW' := hW
  obtain ⟨p, q, hA0, hV, rfl, _, _⟩ := hW
  have hA : DataW.TrodAll enc Try.prog W 0 (fun _ => true) true Try.f7.params.toList args.toList ds p := hA0
  rw [Try.params7] at hA hval
  obtain ⟨v0, d0, rfl, rfl, h0⟩ := trodAll_one hA
  obtain ⟨rfl, rfl⟩ := trodVars_none hV
  clear hA0 hval0
  simp only [List.append_nil] at hW'
  have hlt : ∀ x ∈ p, x.block < W.heap.size := fun x hx => hW'.lt x (by simpa using hx)
  have hargs : ∀ W', Below W.heap.size W W' → DataW.TrodAll enc Try.prog W' 0 (fun b => decide (b < W.heap.size)) true [41] [v0] [d0] (p) := fun W' hb =>
    trodAll_mk1 (Below.trod laidOut (by as_aux_lemma => kernel_rfl) (of_decide_eq_true (by as_aux_lemma => kernel_rfl)) h0 hb (fun x hx => hlt x (by simp [hx])))
  obtain ⟨A0, l0, c0, rfl, hlc0, hlm0, hlw0, hl0⟩ := open_kind Try.underlying41 Try.underlying5 (by as_aux_lemma => kernel_rfl) (okWide_slice Try.underlying41 (hval 0 _ v0 rfl rfl)) h0
  refine (law_FnPackHolds A0 l0 c0 W ⟨fun x hx => byte_wf (hlw0 x hx), hl0⟩ hlm0 hlc0).mono fun e W' ⟨he, hb⟩ => ?_
  subst he
  exact ⟨_, rfl, ⟨_, _, _, [], _, [], hW', trodAll_mk1 (shut_bool Try.underlying4 _), hargs W' hb, rfl, hb.frame _, fun h => by cases h⟩⟩

theorem FnPackHolds_joined : joinedFacts Try.prog 7 Try.f7 Rows.fnPackHoldsSpec Rows.fnPackHoldsRow = true :=
  joined_mk (by as_aux_lemma => kernel_rfl) laidOut mapsRowed_ok (by as_aux_lemma => kernel_rfl) (by as_aux_lemma => kernel_rfl) (by as_aux_lemma => kernel_rfl) stops_ok (by as_aux_lemma => kernel_rfl) knobs_ok (by as_aux_lemma => kernel_rfl) (by as_aux_lemma => kernel_rfl) (by as_aux_lemma => kernel_rfl) (by as_aux_lemma => kernel_rfl) (by as_aux_lemma => kernel_rfl) (by as_aux_lemma => kernel_rfl) (by as_aux_lemma => kernel_rfl) (by as_aux_lemma => kernel_rfl) (by as_aux_lemma => kernel_rfl) (by as_aux_lemma => kernel_rfl) (by as_aux_lemma => kernel_rfl) (by as_aux_lemma => kernel_rfl) (by as_aux_lemma => kernel_rfl) (by rw [keys_ok]; rfl) (by as_aux_lemma => kernel_rfl) heard_ok enter_ok (by rw [lifts_ok]; rfl) (by rw [make_ok]; rfl) (by as_aux_lemma => kernel_rfl) (by as_aux_lemma => kernel_rfl) (by as_aux_lemma => kernel_rfl) (by as_aux_lemma => kernel_rfl)

theorem FnPackHolds_holds : Rows.FnPackHoldsSaid :=
  OpenClaim.holds_of_wide 7 Try.f7 rfl rfl rfl rfl rfl rfl rfl ⟨rfl, rfl, rfl, rfl, rfl⟩ rfl rfl rfl rfl rfl (by as_aux_lemma => kernel_rfl) Try.func7 FnPackHolds_joined
    (of_decide_eq_true (by as_aux_lemma => kernel_rfl)) (by unfold Func.isWrapper; rw [if_neg (by decide +kernel)]; exact ⟨rfl, rfl⟩)
    (fun os started H enc _ => FnPackHolds_lifted os started H enc)
#print axioms FnPackHolds_holds
end Go.Proofs.Ytnldiakjmhfodaa
