/-
  FnAdmitAgain returns true for every code.
-/
import Derived.Test.YtnldiakjmhfodaaDrawS2
import Derived.Test.YtnldiakjmhfodaaAdmI
import Derived.Test.YtnldiakjmhfodaaDm
import Derived.Test.YtnldiakjmhfodaaS2T
import Derived.Test.YtnldiakjmhfodaaOpen
namespace Go.Proofs.Ytnldiakjmhfodaa
open Go.RowKit

theorem blk_below {w w' : World} {b : Nat} {o : Obj} (h : w.heap[b]? = some o) (hb : Below w.heap.size w w') : w'.heap[b]? = some o :=
  (hb.block b (Array.getElem?_eq_some_iff.1 h).1).trans h

set_option maxHeartbeats 1000000 in
set_option maxRecDepth 100000 in
theorem law_FnAdmitAgain (A0 : Option Addr) (code : List Int) (c0 : Nat) (w : World) (h : BS w A0 code) (hl : code.length ≤ maxLen) (hlc : code.length ≤ c0) :
    Calls Try.prog 11 #[.slice A0 code.length c0] w fun e w' => e = .returned (.bool true) ∧ Below w.heap.size w w' := by
  have hl' := hl
  unfold maxLen at hl'
  by_cases h1 : code.length ≤ 1048576
  case neg =>
    go_enter Try.func11, Try.ntmps11
    go_wp2_with fail
    go_ret
    exact ⟨rfl, Below.refl _ _⟩
  go_enter Try.func11, Try.ntmps11
  go_wp2_with fail
  refine (spec_DrawAdmitTask A0 code c0 w h hl hlc).mono ?_
  rintro e w1 ⟨A, c, l, t, m, rfl, hO, hl5, m0, m2, hb⟩
  have hsz := own_size hO
  obtain ⟨hsz1, hsz2⟩ := hsz
  clear hsz2
  have hA := OT_none hO
  have HA := Lib.hid hA
  clear hA
  have hT := heap_alloc_new w1 (.cells #[.int .i64 t.low, .int .i64 t.high, .int .i64 t.due, .int .i64 t.every, .bool t.crit] 30 (0, 0))
  have hO := OT_alloc hO (.cells #[.int .i64 t.low, .int .i64 t.high, .int .i64 t.due, .int .i64 t.every, .bool t.crit] 30 (0, 0))
  have hb := bal hb (.cells #[.int .i64 t.low, .int .i64 t.high, .int .i64 t.due, .int .i64 t.every, .bool t.crit] 30 (0, 0))
  obtain ⟨x, hx⟩ : ∃ x, admL l t m = x := ⟨_, rfl⟩
  have hxl : x.length ≤ 6 := by rw [← hx]; exact admL_le hl5
  have HX := Lib.hid hx
  obtain ⟨ok, hok⟩ : ∃ ok, (admitT l t m).isSome = ok := ⟨_, rfl⟩
  have HK := Lib.hid hok
  clear hx hok
  go_upto_region 4 with fail
  generalize World.alloc w1 _ = wb at hT hO hb ⊢
  generalize w1.heap.size = nT at hT ⊢
  have hT1 := Lib.hid hT
  clear hT
  obtain ⟨t0, t1, t2, t3, t4, _⟩ := blk_five hT1.out
  go_wp2_with fail
  refine (impl_AdmitTask A l t c m _ hO.ts (by omega) hsz1).mono ?_
  rw [HX.out, HK.out]
  rintro e w2 ⟨A2, c2, rfl, o2, b2⟩
  have hT2 := Lib.hid (blk_below hT1.out b2)
  clear hT1 t0 t1 t2 t3 t4
  obtain ⟨t0, t1, t2, t3, t4, _⟩ := blk_five hT2.out
  go_wp2_with fail
  refine (spec_AdmitTask A l t c m _ (OT_keep hO b2).ts (by omega) HA.out).mono ?_
  rw [HX.out, HK.out]
  rintro e w3 ⟨A3, c3, rfl, o3, b3⟩
  have hT3 := Lib.hid (blk_below hT2.out b3)
  clear hT2 t0 t1 t2 t3 t4
  have o2 := OT_keep o2 b3
  have B3 := bthru b2 b3
  go_wp2_with fail
  refine (laws_dmTasks A2 A3 x x c2 c3 _ o2.ts o3.ts (by omega)).mono ?_
  rintro e w4 ⟨rfl, b4⟩
  simp only [decide_true]
  have o2 := OT_keep o2 b4
  have o3 := OT_keep o3 b4
  have B4 := bthru B3 b4
  have hT4 := Lib.hid (blk_below hT3.out b4)
  clear hT3
  obtain ⟨t0, t1, t2, t3, t4, _⟩ := blk_five hT4.out
  cases hr : admitT l t m with
  | none =>
    have e1 : ok = false := by rw [← HK.out, hr]; rfl
    have e2 : x = [] := by rw [← HX.out, admL, hr]; rfl
    subst e1
    by_cases hm : m = 0
    · subst hm
      have Hr := Lib.hid hr
      clear hr
      obtain ⟨s, hs⟩ : ∃ s : Tk, s = ⟨1, 1, 20, 20, false⟩ := ⟨_, rfl⟩
      have hsv : (⟨1, 1, 20, 20, false⟩ : Tk).val = s.val := by rw [hs]
      subst e2
      clear hs
      have K := impl_AdmitTask A l s c 0 w4 (hO.ts.keep B4) (by omega) hsz1
      cases hq : admitT l s 0 with
      | none =>
        rw [(admL_none hq).1, (admL_none hq).2] at K
        clear hq
        go_wp2_with fail
        refine K.mono ?_
        rintro e w5 ⟨A5, c5, rfl, o5, b5⟩
        go_wp2_with fail
        go_ret
        exact ⟨rfl, bthru hb (bthru B4 b5)⟩
      | some more =>
        rw [(admL_some hq).1, (admL_some hq).2] at K
        have hag := admit_again Hr.out hq
        have Hag := Lib.hid (admL_none hag)
        have hml := Lib.hid (admL_len hq)
        clear hq hag
        go_wp2_with fail
        refine K.mono ?_
        rintro e w5 ⟨A5, c5, rfl, o5, b5⟩
        have s5 := own_size o5
        obtain ⟨s51, _⟩ := s5
        have hT5 := blk_below hT4.out b5
        clear t0 t1 t2 t3 t4
        obtain ⟨t0, t1, t2, t3, t4, _⟩ := blk_five hT5
        go_wp2_with fail
        refine (impl_AdmitTask A5 more t c5 0 _ o5.ts (by rw [hml.out]; omega) s51).mono ?_
        rw [Hag.out.1, Hag.out.2]
        rintro e w6 ⟨A6, c6, rfl, o6, b6⟩
        go_wp2_with fail
        go_ret
        exact ⟨rfl, bthru hb (bthru B4 (bthru b5 b6))⟩
    · have hm' : (m != 0) = true := by simpa using hm
      clear hr e2
      go_wp2_with fail
      refine (laws_dmTasks A2 A3 x x c2 c3 _ o2.ts o3.ts (by omega)).mono ?_
      rintro e w5 ⟨rfl, b5⟩
      simp only [decide_true]
      go_wp2_with fail
      go_ret
      exact ⟨rfl, bthru hb (bthru B4 b5)⟩
  | some x' =>
    have e1 : ok = true := by rw [← HK.out, hr]; rfl
    have e2 : x' = x := by rw [← HX.out, admL, hr]; rfl
    subst e1
    subst e2
    obtain ⟨f1, f2, f3, f4⟩ := admitT_some hr
    clear hr f1 f2 f3 f4
    go_wp2_with fail
    refine (laws_dmTasks A2 A3 x' x' c2 c3 _ o2.ts o3.ts (by omega)).mono ?_
    rintro e w5 ⟨rfl, b5⟩
    simp only [decide_true]
    go_wp2_with fail
    go_ret
    exact ⟨rfl, bthru hb (bthru B4 b5)⟩

open Go.ChangeShapes Go.WideShapes Go.ChangeAt Go.WideElems Go.Deep

set_option maxRecDepth 100000 in
theorem FnAdmitAgain_lifted (os : Os) (started : os.Started) (H : Type) (enc : TypeId × Value → H) :
    ReturnsInHanded {} Try.checked os 11 .any (Rows.fnAdmitAgainSpec.pre6 enc Try.prog Try.f11 Rows.fnAdmitAgainRow.domain false) (Rows.fnAdmitAgainSpec.post enc Try.prog Try.f11 false true false false) := by
  refine returnsInHanded_of_change (C := Try.checked) own started (by as_aux_lemma => kernel_rfl) Try.func11
    (ChangeSpec.witness6 (enc := enc) (C := Try.checked) false ⟨#[], #[.slice none 0 0], []⟩ 8 (by as_aux_lemma => kernel_rfl) (by as_aux_lemma => kernel_rfl) (by as_aux_lemma => kernel_rfl) (by as_aux_lemma => kernel_rfl)) ?_
  intro W base args ds gs before hval0 hW _ _
  have hval : ∀ (j : Nat) t v, Try.f11.params[j]? = some t → args[j]? = some v → Value.okWide Try.prog W .any base t v := hval0
  have hW' := hW
  obtain ⟨p, q, hA0, hV, rfl, _, _⟩ := hW
  have hA : DataW.TrodAll enc Try.prog W 0 (fun _ => true) true Try.f11.params.toList args.toList ds p := hA0
  rw [Try.params11] at hA hval
  obtain ⟨v0, d0, rfl, rfl, h0⟩ := trodAll_one hA
  obtain ⟨rfl, rfl⟩ := trodVars_none hV
  clear hA0 hval0
  simp only [List.append_nil] at hW'
  have hlt : ∀ x ∈ p, x.block < W.heap.size := fun x hx => hW'.lt x (by simpa using hx)
  have hargs : ∀ W', Below W.heap.size W W' → DataW.TrodAll enc Try.prog W' 0 (fun b => decide (b < W.heap.size)) true [41] [v0] [d0] (p) := fun W' hb =>
    trodAll_mk1 (Below.trod laidOut (by as_aux_lemma => kernel_rfl) (of_decide_eq_true (by as_aux_lemma => kernel_rfl)) h0 hb (fun x hx => hlt x (by simp [hx])))
  obtain ⟨A0, l0, c0, rfl, hlc0, hlm0, hlw0, hl0⟩ := open_kind Try.underlying41 Try.underlying5 (by as_aux_lemma => kernel_rfl) (okWide_slice Try.underlying41 (hval 0 _ v0 rfl rfl)) h0
  refine (law_FnAdmitAgain A0 l0 c0 W ⟨fun x hx => byte_wf (hlw0 x hx), hl0⟩ hlm0 hlc0).mono fun e W' ⟨he, hb⟩ => ?_
  subst he
  exact ⟨_, rfl, ⟨_, _, _, [], _, [], hW', trodAll_mk1 (shut_bool Try.underlying4 _), hargs W' hb, rfl, hb.frame _, fun h => by cases h⟩⟩

theorem FnAdmitAgain_joined : joinedFacts Try.prog 11 Try.f11 Rows.fnAdmitAgainSpec Rows.fnAdmitAgainRow = true :=
  joined_mk (by as_aux_lemma => kernel_rfl) laidOut mapsRowed_ok (by as_aux_lemma => kernel_rfl) (by as_aux_lemma => kernel_rfl) (by as_aux_lemma => kernel_rfl) stops_ok (by as_aux_lemma => kernel_rfl) knobs_ok (by as_aux_lemma => kernel_rfl) (by as_aux_lemma => kernel_rfl) (by as_aux_lemma => kernel_rfl) (by as_aux_lemma => kernel_rfl) (by as_aux_lemma => kernel_rfl) (by as_aux_lemma => kernel_rfl) (by as_aux_lemma => kernel_rfl) (by as_aux_lemma => kernel_rfl) (by as_aux_lemma => kernel_rfl) (by as_aux_lemma => kernel_rfl) (by as_aux_lemma => kernel_rfl) (by as_aux_lemma => kernel_rfl) (by as_aux_lemma => kernel_rfl) (by rw [keys_ok]; rfl) (by as_aux_lemma => kernel_rfl) heard_ok enter_ok (by rw [lifts_ok]; rfl) (by rw [make_ok]; rfl) (by as_aux_lemma => kernel_rfl) (by as_aux_lemma => kernel_rfl) (by as_aux_lemma => kernel_rfl) (by as_aux_lemma => kernel_rfl)

theorem FnAdmitAgain_holds : Rows.FnAdmitAgainSaid :=
  OpenClaim.holds_of_wide 11 Try.f11 rfl rfl rfl rfl rfl rfl rfl ⟨rfl, rfl, rfl, rfl, rfl⟩ rfl rfl rfl rfl rfl (by as_aux_lemma => kernel_rfl) Try.func11 FnAdmitAgain_joined
    (of_decide_eq_true (by as_aux_lemma => kernel_rfl)) (by unfold Func.isWrapper; rw [if_neg (by decide +kernel)]; exact ⟨rfl, rfl⟩)
    (fun os started H enc _ => FnAdmitAgain_lifted os started H enc)
#print axioms FnAdmitAgain_holds
end Go.Proofs.Ytnldiakjmhfodaa
