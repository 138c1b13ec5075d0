/-
  FnAdmitNone returns true for every code.
-/
import Derived.Test.YtnldiakjmhfodaaDrawS2
import Derived.Test.YtnldiakjmhfodaaAdmAllI
import Derived.Test.YtnldiakjmhfodaaDm
import Derived.Test.YtnldiakjmhfodaaS2T
import Derived.Test.YtnldiakjmhfodaaHoldsBy
import Derived.Test.YtnldiakjmhfodaaDrawPack
import Derived.Test.YtnldiakjmhfodaaPackAI
import Derived.Test.YtnldiakjmhfodaaOpen
namespace Go.Proofs.Ytnldiakjmhfodaa
open Go.RowKit

set_option maxHeartbeats 1000000 in
set_option maxRecDepth 100000 in
theorem law_FnAdmitNone (A0 : Option Addr) (code : List Int) (c0 : Nat) (w : World) (h : BS w A0 code) (hl : code.length ≤ maxLen) (hlc : code.length ≤ c0) :
    Calls Try.prog 18 #[.slice A0 code.length c0] w fun e w' => e = .returned (.bool true) ∧ Below w.heap.size w w' := by
  have hl' := hl
  unfold maxLen at hl'
  by_cases h1 : code.length ≤ 1048576
  case neg =>
    go_enter Try.func18, Try.ntmps18
    go_wp2_with fail
    go_ret
    exact ⟨rfl, Below.refl _ _⟩
  go_enter Try.func18, Try.ntmps18
  go_wp2_with fail
  refine (spec_DrawAdmitAll A0 code c0 w h hl hlc).mono ?_
  rintro e w1 ⟨A, c, ts, m, rfl, hO, hl11, hb⟩
  have hsz := own_size hO
  obtain ⟨hsz1, hsz2⟩ := hsz
  have hlm : ts.length ≤ maxLen := by unfold maxLen; omega
  clear hsz2
  obtain ⟨R, hR⟩ : ∃ R, admAll ts m = R := ⟨_, rfl⟩
  have hlen := admAll_both ts m
  rw [hR] at hlen
  obtain ⟨hx11, hr11⟩ := hlen
  have HR := Lib.hid hR
  obtain ⟨ok, hok⟩ : ∃ ok, admOk ts m = ok := ⟨_, rfl⟩
  have HK := Lib.hid hok
  clear hR hok
  obtain ⟨x, rf⟩ := R
  simp only at hx11 hr11
  go_wp2_with fail
  refine (impl_AdmitAll A ts c m _ hO.ts hlm).mono ?_
  rw [HR.out, HK.out]
  rintro e w2 ⟨A2, c2, B2', d2, rfl, o2, i2, b2⟩
  go_wp2_with fail
  refine (spec_AdmitAll A ts c m _ (hO.ts.keep b2) hlm).mono ?_
  rw [HR.out, HK.out]
  rintro e w3 ⟨A3, c3, B3', d3, rfl, o3, i3, b3⟩
  have o2 := OT_keep o2 b3
  have i2 := OI_keep i2 b3
  have B3 := bthru b2 b3
  go_wp2_with fail
  refine (laws_dmTasks A2 A3 x x c2 c3 _ o2.ts o3.ts (by omega)).mono ?_
  rintro e w4 ⟨rfl, b4⟩
  simp only [decide_true]
  have o2 := OT_keep o2 b4
  have o3 := OT_keep o3 b4
  have i2 := OI_keep i2 b4
  have i3 := OI_keep i3 b4
  have B4 := bthru B3 b4
  go_wp2_with fail
  refine (laws_dmInts B2' B3' rf rf d2 d3 _ i2.is i3.is (by omega)).mono ?_
  rintro e w5 ⟨rfl, b5⟩
  simp only [decide_true]
  have o2 := OT_keep o2 b5
  have o3 := OT_keep o3 b5
  have i2 := OI_keep i2 b5
  have i3 := OI_keep i3 b5
  have B5 := bthru B4 b5
  cases ok with
  | false =>
    go_wp2_with fail
    refine (laws_dmTasks A2 A3 x x c2 c3 _ o2.ts o3.ts (by omega)).mono ?_
    rintro e w6 ⟨rfl, b6⟩
    simp only [decide_true]
    have i2 := OI_keep i2 b6
    have i3 := OI_keep i3 b6
    go_wp2_with fail
    refine (laws_dmInts B2' B3' rf rf d2 d3 _ i2.is i3.is (by omega)).mono ?_
    rintro e w7 ⟨rfl, b7⟩
    simp only [decide_true]
    go_wp2_with fail
    go_ret
    exact ⟨rfl, bthru hb (bthru B5 (bthru b6 b7))⟩
  | true =>
    have hpol : ts.length ≤ 20 ∧ (m = 0 ∨ m = 1) := by simpa [admOk, polB] using HK.out
    have hgo : admAll ts m = admGo m ts 0 [] [] := by simp [admAll, HK.out]
    rw [HR.out] at hgo
    obtain ⟨g1, g2, g3⟩ := admGo_good (p := m) (ts := ts) (i := 0) (out := []) (ref := []) (hldBy_nil hpol.2) rfl rfl
    rw [← hgo] at g1 g2 g3
    rw [Nat.zero_add] at g2 g3
    simp only at g1 g2 g3
    cases ts with
    | nil =>
      clear g1 g2 g3 hgo hpol
      go_wp2_with fail
      refine (laws_dmTasks A2 A3 x x c2 c3 _ o2.ts o3.ts (by omega)).mono ?_
      rintro e w6 ⟨rfl, b6⟩
      simp only [decide_true]
      have i2 := OI_keep i2 b6
      have i3 := OI_keep i3 b6
      go_wp2_with fail
      refine (laws_dmInts B2' B3' rf rf d2 d3 _ i2.is i3.is (by omega)).mono ?_
      rintro e w7 ⟨rfl, b7⟩
      simp only [decide_true]
      go_wp2_with fail
      go_ret
      exact ⟨rfl, bthru hb (bthru B5 (bthru b6 b7))⟩
    | cons t tl =>
      have hf := admAll_first HK.out
      rw [HR.out] at hf
      simp only at hf
      have Hf := Lib.hid hf
      clear g1 g2 g3 hgo hpol hf
      obtain ⟨b, rfl, _, hbl⟩ := OT_addr hO (by simp)
      obtain ⟨k0, k1, k2, k3, k4, _⟩ := OT_cells (OT_keep hO B5) 0 (by simp)
      simp only [List.getElem_cons_zero, Nat.zero_mul, Nat.zero_add] at k0 k1 k2 k3 k4
      have hT := TS_take (hO.ts.keep B5) 1
      have e1 : (t :: tl).take 1 = [t] := rfl
      rw [e1] at hT
      simp only [List.length_cons] at hlm hsz1 hl11 hx11 hr11 ⊢
      have q1 : (1 : Int) ≤ (c : Int) := by omega
      have q2 : (0 : Int) < ((tl.length + 1 : Nat) : Int) := by omega
      obtain ⟨vt, hvt⟩ : ∃ y, vld t = y := ⟨_, rfl⟩
      obtain ⟨ct, hct⟩ : ∃ y, canH [t] m = y := ⟨_, rfl⟩
      have Hvt := Lib.hid hvt
      have Hct := Lib.hid hct
      clear hvt hct
      have HF2 : Hid ((vt && ct) = (rf.head?.all (fun x => decide (0 < x)))) := by rw [Hid, ← Hvt.out, ← Hct.out]; exact Hf.out
      go_wp2_with fail
      refine (impl_TaskValid t _).mono ?_
      rw [Hvt.out]
      rintro e w6 ⟨rfl, b6⟩
      have i2 := OI_keep i2 b6
      have B6 := bthru B5 b6
      clear k0 k1 k2 k3 k4
      cases vt with
      | false =>
        cases rf with
        | nil => exact absurd HF2.out (by simp)
        | cons r0 rs =>
          have hr0 : ¬ 0 < r0 := by
            have := HF2.out
            simp at this
            omega
          obtain ⟨b2', rfl, _, hbl2⟩ := OI_addr i2 (by simp)
          obtain ⟨kc, _⟩ := OI_cell i2 0 r0 rfl
          simp only [List.length_cons] at hr11 ⊢
          go_wp2_with fail
          go_ret
          exact ⟨rfl, bthru hb B6⟩
      | true =>
        go_wp2_with fail
        refine (impl_CanHold (some ⟨b, 0, none⟩) [t] c m _ (hT.keep b6) (by unfold maxLen; simp) (by simp; omega)).mono ?_
        rw [Hct.out]
        rintro e w7 ⟨rfl, b7⟩
        have i2 := OI_keep i2 b7
        have B7 := bthru B6 b7
        cases rf with
        | nil =>
          have hc1 : ct = true := by
            have := HF2.out
            simpa using this
          subst hc1
          go_wp2_with fail
          go_ret
          exact ⟨rfl, bthru hb B7⟩
        | cons r0 rs =>
          have hc1 : ct = decide (0 < r0) := by
            have := HF2.out
            simpa using this
          obtain ⟨b2', rfl, _, hbl2⟩ := OI_addr i2 (by simp)
          obtain ⟨kc, _⟩ := OI_cell i2 0 r0 rfl
          simp only [List.length_cons] at hr11 ⊢
          by_cases hr0 : 0 < r0
          · have hc2 : ct = true := by rw [hc1]; simp [hr0]
            clear hc1
            subst hc2
            go_wp2_with fail
            go_ret
            exact ⟨rfl, bthru hb B7⟩
          · have hc2 : ct = false := by rw [hc1]; simp [hr0]
            clear hc1
            subst hc2
            go_wp2_with fail
            go_ret
            exact ⟨rfl, bthru hb B7⟩

open Go.ChangeShapes Go.WideShapes Go.ChangeAt Go.WideElems Go.Deep

set_option maxRecDepth 100000 in
theorem FnAdmitNone_lifted (os : Os) (started : os.Started) (H : Type) (enc : TypeId × Value → H) :
    ReturnsInHanded {} Try.checked os 18 .any (Rows.fnAdmitNoneSpec.pre6 enc Try.prog Try.f18 Rows.fnAdmitNoneRow.domain false) (Rows.fnAdmitNoneSpec.post enc Try.prog Try.f18 false true false false) := by
  refine returnsInHanded_of_change (C := Try.checked) own started (by as_aux_lemma => kernel_rfl) Try.func18
    (ChangeSpec.witness6 (enc := enc) (C := Try.checked) false ⟨#[], #[.slice none 0 0], []⟩ 8 (by as_aux_lemma => kernel_rfl) (by as_aux_lemma => kernel_rfl) (by as_aux_lemma => kernel_rfl) (by as_aux_lemma => kernel_rfl)) ?_
  intro W base args ds gs before hval0 hW _ _
  have hval : ∀ (j : Nat) t v, Try.f18.params[j]? = some t → args[j]? = some v → Value.okWide Try.prog W .any base t v := hval0
  have hW' := hW
  obtain ⟨p, q, hA0, hV, rfl, _, _⟩ := hW
  have hA : DataW.TrodAll enc Try.prog W 0 (fun _ => true) true Try.f18.params.toList args.toList ds p := hA0
  rw [Try.params18] at hA hval
  obtain ⟨v0, d0, rfl, rfl, h0⟩ := trodAll_one hA
  obtain ⟨rfl, rfl⟩ := trodVars_none hV
  clear hA0 hval0
  simp only [List.append_nil] at hW'
  have hlt : ∀ x ∈ p, x.block < W.heap.size := fun x hx => hW'.lt x (by simpa using hx)
  have hargs : ∀ W', Below W.heap.size W W' → DataW.TrodAll enc Try.prog W' 0 (fun b => decide (b < W.heap.size)) true [41] [v0] [d0] (p) := fun W' hb =>
    trodAll_mk1 (Below.trod laidOut (by as_aux_lemma => kernel_rfl) (of_decide_eq_true (by as_aux_lemma => kernel_rfl)) h0 hb (fun x hx => hlt x (by simp [hx])))
  obtain ⟨A0, l0, c0, rfl, hlc0, hlm0, hlw0, hl0⟩ := open_kind Try.underlying41 Try.underlying5 (by as_aux_lemma => kernel_rfl) (okWide_slice Try.underlying41 (hval 0 _ v0 rfl rfl)) h0
  refine (law_FnAdmitNone A0 l0 c0 W ⟨fun x hx => byte_wf (hlw0 x hx), hl0⟩ hlm0 hlc0).mono fun e W' ⟨he, hb⟩ => ?_
  subst he
  exact ⟨_, rfl, ⟨_, _, _, [], _, [], hW', trodAll_mk1 (shut_bool Try.underlying4 _), hargs W' hb, rfl, hb.frame _, fun h => by cases h⟩⟩

theorem FnAdmitNone_joined : joinedFacts Try.prog 18 Try.f18 Rows.fnAdmitNoneSpec Rows.fnAdmitNoneRow = true :=
  joined_mk (by as_aux_lemma => kernel_rfl) laidOut mapsRowed_ok (by as_aux_lemma => kernel_rfl) (by as_aux_lemma => kernel_rfl) (by as_aux_lemma => kernel_rfl) stops_ok (by as_aux_lemma => kernel_rfl) knobs_ok (by as_aux_lemma => kernel_rfl) (by as_aux_lemma => kernel_rfl) (by as_aux_lemma => kernel_rfl) (by as_aux_lemma => kernel_rfl) (by as_aux_lemma => kernel_rfl) (by as_aux_lemma => kernel_rfl) (by as_aux_lemma => kernel_rfl) (by as_aux_lemma => kernel_rfl) (by as_aux_lemma => kernel_rfl) (by as_aux_lemma => kernel_rfl) (by as_aux_lemma => kernel_rfl) (by as_aux_lemma => kernel_rfl) (by as_aux_lemma => kernel_rfl) (by rw [keys_ok]; rfl) (by as_aux_lemma => kernel_rfl) heard_ok enter_ok (by rw [lifts_ok]; rfl) (by rw [make_ok]; rfl) (by as_aux_lemma => kernel_rfl) (by as_aux_lemma => kernel_rfl) (by as_aux_lemma => kernel_rfl) (by as_aux_lemma => kernel_rfl)

theorem FnAdmitNone_holds : Rows.FnAdmitNoneSaid :=
  OpenClaim.holds_of_wide 18 Try.f18 rfl rfl rfl rfl rfl rfl rfl ⟨rfl, rfl, rfl, rfl, rfl⟩ rfl rfl rfl rfl rfl (by as_aux_lemma => kernel_rfl) Try.func18 FnAdmitNone_joined
    (of_decide_eq_true (by as_aux_lemma => kernel_rfl)) (by unfold Func.isWrapper; rw [if_neg (by decide +kernel)]; exact ⟨rfl, rfl⟩)
    (fun os started H enc _ => FnAdmitNone_lifted os started H enc)
#print axioms FnAdmitNone_holds
end Go.Proofs.Ytnldiakjmhfodaa
