/-
  FnLeaveTask returns true for every code.
-/
import Derived.Test.YtnhidlhfgpoopaaDrawSome
import Derived.Test.YtnhidlhfgpoopaaHoldsBy
import Derived.Test.YtnhidlhfgpoopaaAdmT
import Derived.Test.YtnhidlhfgpoopaaDm
import Derived.Test.YtnhidlhfgpoopaaOpen
namespace Go.Proofs.Ytnhidlhfgpoopaa
open Go.RowKit

theorem lvT_len {l : List Tk} {x : Int} : (lvT l x).length ≤ l.length := by
  unfold lvT
  split
  · exact (List.eraseIdx_sublist l _).length_le
  · simp

set_option maxHeartbeats 4000000 in
set_option maxRecDepth 100000 in
theorem law_FnLeaveTask (A0 : Option Addr) (code : List Int) (c0 : Nat) (w : World) (h : BS w A0 code) (hl : code.length ≤ maxLen) (hlc : code.length ≤ c0) :
    Calls Try.prog 8 #[.slice A0 code.length c0] w fun e w' => e = .returned (.bool true) ∧ Below w.heap.size w w' := by
  have hl' := hl
  unfold maxLen at hl'
  by_cases h1 : code.length ≤ 1048576
  case neg =>
    go_enter Try.func8, Try.ntmps8
    go_wp2_with fail
    go_ret
    exact ⟨rfl, Below.refl _ _⟩
  go_enter Try.func8, Try.ntmps8
  go_wp2_with fail
  refine (spec_DrawLeaveTask A0 code c0 w h hl hlc).mono ?_
  rintro e w1 ⟨A, c, l, x, rfl, hO, hl6, hx0, hx1, hb⟩
  have hsz := own_size hO
  obtain ⟨hsz1, hsz2⟩ := hsz
  have hlm : l.length ≤ maxLen := by unfold maxLen; omega
  clear hsz2
  go_wp2_with fail
  refine (impl_LeaveTask A l c x _ hO.ts).mono ?_
  rintro e w2 ⟨A2, c2, rfl, o2, b2⟩
  go_wp2_with fail
  refine (spec_LeaveTask A l c x _ (hO.ts.keep b2) hlm hsz1).mono ?_
  rintro e w3 ⟨A3, c3, rfl, o3, b3⟩
  have B3 := bthru b2 b3
  have o2 := OT_keep o2 b3
  have hvl := lvT_len (l := l) (x := x)
  go_wp2_with fail
  refine (laws_dmTasks A2 A3 (lvT l x) (lvT l x) c2 c3 _ o2.ts o3.ts (by omega)).mono ?_
  rintro e w4 ⟨rfl, b4⟩
  simp only [decide_true]
  have B4 := bthru B3 b4
  have o2 := OT_keep o2 b4
  have o3 := OT_keep o3 b4
  cases hp : plc l x with
  | false =>
    go_wp2_with fail
    refine (laws_dmTasks A2 A3 (lvT l x) (lvT l x) c2 c3 _ o2.ts o3.ts (by omega)).mono ?_
    rintro e w5 ⟨rfl, b5⟩
    simp only [decide_true]
    go_wp2_with fail
    go_ret
    exact ⟨rfl, bthru hb (bthru B4 b5)⟩
  | true =>
    obtain ⟨hs, hl5, hlt, hxx⟩ := plc_yes hp
    clear hxx
    have hlv : lvT l x = l.eraseIdx x.toNat := by simp [lvT, hp]
    have hlen : (lvT l x).length = l.length - 1 := by rw [hlv, List.length_eraseIdx_of_lt hlt]
    have heq : (((lvT l x).length : Int) == (l.length : Int) - 1) = true := by rw [beq_iff_eq, hlen]; omega
    have hh : hldBoth l = true → hldBoth (lvT l x) = true := fun h => by rw [hlv]; exact leave_holds _ h
    have hpl : hldPlain l = true → hldPlain (lvT l x) = true := fun h => by rw [hlv]; exact leave_plain _ h
    have s2 := own_size o2
    obtain ⟨s21, _⟩ := s2
    have e0 : hldBy l 0 = hldBoth l := rfl
    have e1 : hldBy (lvT l x) 0 = hldBoth (lvT l x) := rfl
    generalize lvT l x = v at *
    have Hh := Lib.hid hh
    have Hpl := Lib.hid hpl
    have E0 := Lib.hid e0
    have E1 := Lib.hid e1
    clear hlv hlen hp hh hpl e0 e1 hs
    obtain ⟨vB, hvB⟩ : ∃ y, hldBoth l = y := ⟨_, rfl⟩
    obtain ⟨vP, hvP⟩ : ∃ y, hldPlain l = y := ⟨_, rfl⟩
    have HvB := Lib.hid hvB
    have HvP := Lib.hid hvP
    clear hvB hvP
    cases vB with
    | false =>
      cases vP with
      | false =>
        go_wp2_with fail
        refine (impl_HoldsBy A l c 0 _ (hO.ts.keep B4) hlm hsz1).mono ?_
        rw [E0.out, HvB.out]
        rintro e w5 ⟨rfl, b5⟩
        have B5 := bthru B4 b5
        go_wp2_with fail
        refine (impl_HoldsPlain A l c _ (hO.ts.keep B5) hlm).mono ?_
        rw [HvP.out]
        rintro e w7 ⟨rfl, b7⟩
        have B7 := bthru B5 b7
        go_wp2_with fail
        go_ret
        exact ⟨rfl, bthru hb B7⟩
      | true =>
        go_wp2_with fail
        refine (impl_HoldsBy A l c 0 _ (hO.ts.keep B4) hlm hsz1).mono ?_
        rw [E0.out, HvB.out]
        rintro e w5 ⟨rfl, b5⟩
        have B5 := bthru B4 b5
        go_wp2_with fail
        refine (impl_HoldsPlain A l c _ (hO.ts.keep B5) hlm).mono ?_
        rw [HvP.out]
        rintro e w7 ⟨rfl, b7⟩
        have B7 := bthru B5 b7
        go_wp2_with fail
        refine (impl_HoldsPlain A2 v c2 _ (o2.ts.keep (bthru b5 b7)) (by unfold maxLen; omega)).mono ?_
        rw [Hpl.out HvP.out]
        rintro e w8 ⟨rfl, b8⟩
        have B8 := bthru B7 b8
        go_wp2_with fail
        go_ret
        exact ⟨rfl, bthru hb B8⟩
    | true =>
      cases vP with
      | false =>
        go_wp2_with fail
        refine (impl_HoldsBy A l c 0 _ (hO.ts.keep B4) hlm hsz1).mono ?_
        rw [E0.out, HvB.out]
        rintro e w5 ⟨rfl, b5⟩
        have B5 := bthru B4 b5
        go_wp2_with fail
        refine (impl_HoldsBy A2 v c2 0 _ (o2.ts.keep b5) (by unfold maxLen; omega) s21).mono ?_
        rw [E1.out, Hh.out HvB.out]
        rintro e w6 ⟨rfl, b6⟩
        have B6 := bthru B5 b6
        go_wp2_with fail
        refine (impl_HoldsPlain A l c _ (hO.ts.keep B6) hlm).mono ?_
        rw [HvP.out]
        rintro e w7 ⟨rfl, b7⟩
        have B7 := bthru B6 b7
        go_wp2_with fail
        go_ret
        exact ⟨rfl, bthru hb B7⟩
      | true =>
        go_wp2_with fail
        refine (impl_HoldsBy A l c 0 _ (hO.ts.keep B4) hlm hsz1).mono ?_
        rw [E0.out, HvB.out]
        rintro e w5 ⟨rfl, b5⟩
        have B5 := bthru B4 b5
        go_wp2_with fail
        refine (impl_HoldsBy A2 v c2 0 _ (o2.ts.keep b5) (by unfold maxLen; omega) s21).mono ?_
        rw [E1.out, Hh.out HvB.out]
        rintro e w6 ⟨rfl, b6⟩
        have B6 := bthru B5 b6
        go_wp2_with fail
        refine (impl_HoldsPlain A l c _ (hO.ts.keep B6) hlm).mono ?_
        rw [HvP.out]
        rintro e w7 ⟨rfl, b7⟩
        have B7 := bthru B6 b7
        go_wp2_with fail
        refine (impl_HoldsPlain A2 v c2 _ (o2.ts.keep (bthru b5 (bthru b6 b7))) (by unfold maxLen; omega)).mono ?_
        rw [Hpl.out HvP.out]
        rintro e w8 ⟨rfl, b8⟩
        have B8 := bthru B7 b8
        go_wp2_with fail
        go_ret
        exact ⟨rfl, bthru hb B8⟩

open Go.ChangeShapes Go.WideShapes Go.ChangeAt Go.WideElems Go.Deep

set_option maxRecDepth 100000 in
theorem FnLeaveTask_lifted (os : Os) (started : os.Started) (H : Type) (enc : TypeId × Value → H) :
    ReturnsInHanded {} Try.checked os 8 .any (Rows.fnLeaveTaskSpec.pre6 enc Try.prog Try.f8 Rows.fnLeaveTaskRow.domain false) (Rows.fnLeaveTaskSpec.post enc Try.prog Try.f8 false true false false) := by
  refine returnsInHanded_of_change (C := Try.checked) own started (by as_aux_lemma => kernel_rfl) Try.func8
    (ChangeSpec.witness6 (enc := enc) (C := Try.checked) false ⟨#[], #[.slice none 0 0], []⟩ 8 (by as_aux_lemma => kernel_rfl) (by as_aux_lemma => kernel_rfl) (by as_aux_lemma => kernel_rfl) (by as_aux_lemma => kernel_rfl)) ?_
  intro W base args ds gs before hval0 hW _ _
  have hval : ∀ (j : Nat) t v, Try.f8.params[j]? = some t → args[j]? = some v → Value.okWide Try.prog W .any base t v := hval0
  have hW' := hW
  obtain ⟨p, q, hA0, hV, rfl, _, _⟩ := hW
  have hA : DataW.TrodAll enc Try.prog W 0 (fun _ => true) true Try.f8.params.toList args.toList ds p := hA0
  rw [Try.params8] at hA hval
  obtain ⟨v0, d0, rfl, rfl, h0⟩ := trodAll_one hA
  obtain ⟨rfl, rfl⟩ := trodVars_none hV
  clear hA0 hval0
  simp only [List.append_nil] at hW'
  have hlt : ∀ x ∈ p, x.block < W.heap.size := fun x hx => hW'.lt x (by simpa using hx)
  have hargs : ∀ W', Below W.heap.size W W' → DataW.TrodAll enc Try.prog W' 0 (fun b => decide (b < W.heap.size)) true [32] [v0] [d0] (p) := fun W' hb =>
    trodAll_mk1 (Below.trod laidOut (by as_aux_lemma => kernel_rfl) (of_decide_eq_true (by as_aux_lemma => kernel_rfl)) h0 hb (fun x hx => hlt x (by simp [hx])))
  obtain ⟨A0, l0, c0, rfl, hlc0, hlm0, hlw0, hl0⟩ := open_kind Try.underlying32 Try.underlying5 (by as_aux_lemma => kernel_rfl) (okWide_slice Try.underlying32 (hval 0 _ v0 rfl rfl)) h0
  refine (law_FnLeaveTask A0 l0 c0 W ⟨fun x hx => byte_wf (hlw0 x hx), hl0⟩ hlm0 hlc0).mono fun e W' ⟨he, hb⟩ => ?_
  subst he
  exact ⟨_, rfl, ⟨_, _, _, [], _, [], hW', trodAll_mk1 (shut_bool Try.underlying4 _), hargs W' hb, rfl, hb.frame _, fun h => by cases h⟩⟩

theorem FnLeaveTask_joined : joinedFacts Try.prog 8 Try.f8 Rows.fnLeaveTaskSpec Rows.fnLeaveTaskRow = true :=
  joined_mk (by as_aux_lemma => kernel_rfl) laidOut mapsRowed_ok (by as_aux_lemma => kernel_rfl) (by as_aux_lemma => kernel_rfl) (by as_aux_lemma => kernel_rfl) stops_ok (by as_aux_lemma => kernel_rfl) knobs_ok (by as_aux_lemma => kernel_rfl) (by as_aux_lemma => kernel_rfl) (by as_aux_lemma => kernel_rfl) (by as_aux_lemma => kernel_rfl) (by as_aux_lemma => kernel_rfl) (by as_aux_lemma => kernel_rfl) (by as_aux_lemma => kernel_rfl) (by as_aux_lemma => kernel_rfl) (by as_aux_lemma => kernel_rfl) (by as_aux_lemma => kernel_rfl) (by as_aux_lemma => kernel_rfl) (by as_aux_lemma => kernel_rfl) (by as_aux_lemma => kernel_rfl) (by rw [keys_ok]; rfl) (by as_aux_lemma => kernel_rfl) heard_ok enter_ok (by rw [lifts_ok]; rfl) (by rw [make_ok]; rfl) (by as_aux_lemma => kernel_rfl) (by as_aux_lemma => kernel_rfl) (by as_aux_lemma => kernel_rfl) (by as_aux_lemma => kernel_rfl)

theorem FnLeaveTask_holds : Rows.FnLeaveTaskSaid :=
  OpenClaim.holds_of_wide 8 Try.f8 rfl rfl rfl rfl rfl rfl rfl ⟨rfl, rfl, rfl, rfl, rfl⟩ rfl rfl rfl rfl rfl (by as_aux_lemma => kernel_rfl) Try.func8 FnLeaveTask_joined
    (of_decide_eq_true (by as_aux_lemma => kernel_rfl)) (by unfold Func.isWrapper; rw [if_neg (by decide +kernel)]; exact ⟨rfl, rfl⟩)
    (fun os started H enc _ => FnLeaveTask_lifted os started H enc)
#print axioms FnLeaveTask_holds
end Go.Proofs.Ytnhidlhfgpoopaa
