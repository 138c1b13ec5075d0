/-
  FnFirstPart returns true for every code.
-/
import Derived.Test.YtnldiakjmhfodaaDrawP2
import Derived.Test.YtnldiakjmhfodaaPackFS
import Derived.Test.YtnldiakjmhfodaaDm
import Derived.Test.YtnldiakjmhfodaaLeave
import Derived.Test.YtnldiakjmhfodaaOpen
namespace Go.Proofs.Ytnldiakjmhfodaa
open Go.RowKit

set_option maxHeartbeats 1000000 in
set_option maxRecDepth 100000 in
theorem law_FnFirstPart (A0 : Option Addr) (code : List Int) (c0 : Nat) (w : World) (h : BS w A0 code) (hl : code.length ≤ maxLen) (hlc : code.length ≤ c0) :
    Calls Try.prog 10 #[.slice A0 code.length c0] w fun e w' => e = .returned (.bool true) ∧ Below w.heap.size w w' := by
  have hl' := hl
  unfold maxLen at hl'
  by_cases h1 : code.length ≤ 1048576
  case neg =>
    go_enter Try.func10, Try.ntmps10
    go_wp2_with fail
    go_ret
    exact ⟨rfl, Below.refl _ _⟩
  go_enter Try.func10, Try.ntmps10
  go_wp2_with fail
  refine (spec_DrawPackFirst A0 code c0 w h hl hlc).mono ?_
  rintro e w1 ⟨A, c, l, n, m, rfl, hO, hl5, n0, n4, m0, m2, hb⟩
  have hsz := own_size hO
  obtain ⟨hsz1, hsz2⟩ := hsz
  have hlm : l.length ≤ maxLen := by unfold maxLen; omega
  clear hsz2

  obtain ⟨ws, hws⟩ : ∃ ws, ffL l n m = ws := ⟨_, rfl⟩
  have hwl : ws.length ≤ 5 := by rw [← hws]; exact ffL_le l n m
  have HW := Lib.hid hws
  obtain ⟨ok, hok⟩ : ∃ ok, (ffit l n m).isSome = ok := ⟨_, rfl⟩
  have HK := Lib.hid hok
  clear hws hok
  go_wp2_with fail
  refine (impl_PackFirst A l c n m _ hO.ts hlm hsz1).mono ?_
  rw [HW.out, HK.out]
  rintro e w2 ⟨A2, c2, rfl, o2, b2⟩
  go_wp2_with fail
  refine (spec_PackFirst A l c n m _ (hO.ts.keep b2) hlm hsz1).mono ?_
  rw [HW.out, HK.out]
  rintro e w3 ⟨A3, c3, rfl, o3, b3⟩
  have o2 := OI_keep o2 b3
  have B3 := bthru b2 b3
  go_wp2_with fail
  refine (laws_dmInts A2 A3 ws ws c2 c3 _ o2.is o3.is (by omega)).mono ?_
  rintro e w4 ⟨rfl, b4⟩
  simp only [decide_true]
  have o2 := OI_keep o2 b4
  have o3 := OI_keep o3 b4
  have B4 := bthru B3 b4

  cases hr : ffit l n m with
  | none =>
    have e1 : ok = false := by rw [← HK.out, hr]; rfl
    have e2 : ws = [] := by rw [← HW.out, ffL, hr]; rfl
    subst e1
    subst e2
    clear hr
    go_wp2_with fail
    refine (laws_dmInts A2 A3 [] [] c2 c3 _ o2.is o3.is (by simp)).mono ?_
    rintro e w5 ⟨rfl, b5⟩
    simp only [decide_true]
    go_wp2_with fail
    go_ret
    exact ⟨rfl, bthru hb (bthru B4 b5)⟩
  | some ws' =>
    have e1 : ok = true := by rw [← HK.out, hr]; rfl
    have e2 : ws' = ws := by rw [← HW.out, ffL, hr]; rfl
    subst e1
    subst e2
    have hk := ffit_some hr
    have hwl2 : ws'.length = l.length := by
      obtain ⟨_, _, _, hl, _⟩ := (packVld_iff _ _ _).1 ((pkH_iff _ _ _ _).1 hk.2.2.2.2.2).1
      exact hl
    have hp := ffit_part (l.length / 2) (by omega) hr
    have Hm : Hid (ffL (l.take (l.length / 2)) n m = ws'.take (l.length / 2)) := by rw [Hid, ffL, hp]; rfl
    have Hs : Hid ((ffit (l.take (l.length / 2)) n m).isSome = true) := by rw [Hid, hp]; rfl
    have Hwl2 := Lib.hid hwl2
    clear hr hp hk hwl2
    obtain ⟨q, hq⟩ : ∃ q, l.length / 2 = q := ⟨_, rfl⟩
    have hq2 : ((l.length : Int) / 2) = (q : Int) := by omega
    have hql : q ≤ l.length := by omega
    rw [hq] at Hm Hs
    have ht : Hid ((l.take q).length = q) := by rw [Hid, List.length_take]; omega
    have htw : Hid ((ws'.take q).length = q) := by rw [Hid, List.length_take, Hwl2.out]; omega
    have hs2 := own_size o2
    obtain ⟨hs21, _⟩ := hs2
    clear hq
    have K := impl_PackFirst A (l.take q) c n m w4 (TS_take (hO.ts.keep B4) q) (by rw [ht.out]; unfold maxLen; omega) (by rw [ht.out]; omega)
    rw [ht.out, Hm.out, Hs.out] at K
    have hqc : q ≤ c := by omega
    have hqc2 : q ≤ c2 := by have := Hwl2.out; omega
    go_wp2_with fail
    refine K.mono ?_
    rintro e w5 ⟨A5, c5, he, o5, b5⟩
    rw [htw.out] at he
    subst he
    have o2 := OI_keep o2 b5
    have K2 := fun w (h1 : IS w A5 (ws'.take q)) (h2 : IS w A2 (ws'.take q)) => laws_dmInts A5 A2 (ws'.take q) (ws'.take q) c5 c2 w h1 h2 (by rw [htw.out]; omega)
    rw [htw.out] at K2
    go_wp2_with fail
    refine (K2 _ o5.is (IS_take o2.is q)).mono ?_
    rintro e w6 ⟨rfl, b6⟩
    simp only [decide_true]
    go_wp2_with fail
    go_ret
    exact ⟨rfl, bthru hb (bthru B4 (bthru b5 b6))⟩

open Go.ChangeShapes Go.WideShapes Go.ChangeAt Go.WideElems Go.Deep

set_option maxRecDepth 100000 in
theorem FnFirstPart_lifted (os : Os) (started : os.Started) (H : Type) (enc : TypeId × Value → H) :
    ReturnsInHanded {} Try.checked os 10 .any (Rows.fnFirstPartSpec.pre6 enc Try.prog Try.f10 Rows.fnFirstPartRow.domain false) (Rows.fnFirstPartSpec.post enc Try.prog Try.f10 false true false false) := by
  refine returnsInHanded_of_change (C := Try.checked) own started (by as_aux_lemma => kernel_rfl) Try.func10
    (ChangeSpec.witness6 (enc := enc) (C := Try.checked) false ⟨#[], #[.slice none 0 0], []⟩ 8 (by as_aux_lemma => kernel_rfl) (by as_aux_lemma => kernel_rfl) (by as_aux_lemma => kernel_rfl) (by as_aux_lemma => kernel_rfl)) ?_
  intro W base args ds gs before hval0 hW _ _
  have hval : ∀ (j : Nat) t v, Try.f10.params[j]? = some t → args[j]? = some v → Value.okWide Try.prog W .any base t v := hval0
  have hW' := hW
  obtain ⟨p, q, hA0, hV, rfl, _, _⟩ := hW
  have hA : DataW.TrodAll enc Try.prog W 0 (fun _ => true) true Try.f10.params.toList args.toList ds p := hA0
  rw [Try.params10] at hA hval
  obtain ⟨v0, d0, rfl, rfl, h0⟩ := trodAll_one hA
  obtain ⟨rfl, rfl⟩ := trodVars_none hV
  clear hA0 hval0
  simp only [List.append_nil] at hW'
  have hlt : ∀ x ∈ p, x.block < W.heap.size := fun x hx => hW'.lt x (by simpa using hx)
  have hargs : ∀ W', Below W.heap.size W W' → DataW.TrodAll enc Try.prog W' 0 (fun b => decide (b < W.heap.size)) true [41] [v0] [d0] (p) := fun W' hb =>
    trodAll_mk1 (Below.trod laidOut (by as_aux_lemma => kernel_rfl) (of_decide_eq_true (by as_aux_lemma => kernel_rfl)) h0 hb (fun x hx => hlt x (by simp [hx])))
  obtain ⟨A0, l0, c0, rfl, hlc0, hlm0, hlw0, hl0⟩ := open_kind Try.underlying41 Try.underlying5 (by as_aux_lemma => kernel_rfl) (okWide_slice Try.underlying41 (hval 0 _ v0 rfl rfl)) h0
  refine (law_FnFirstPart A0 l0 c0 W ⟨fun x hx => byte_wf (hlw0 x hx), hl0⟩ hlm0 hlc0).mono fun e W' ⟨he, hb⟩ => ?_
  subst he
  exact ⟨_, rfl, ⟨_, _, _, [], _, [], hW', trodAll_mk1 (shut_bool Try.underlying4 _), hargs W' hb, rfl, hb.frame _, fun h => by cases h⟩⟩

theorem FnFirstPart_joined : joinedFacts Try.prog 10 Try.f10 Rows.fnFirstPartSpec Rows.fnFirstPartRow = true :=
  joined_mk (by as_aux_lemma => kernel_rfl) laidOut mapsRowed_ok (by as_aux_lemma => kernel_rfl) (by as_aux_lemma => kernel_rfl) (by as_aux_lemma => kernel_rfl) stops_ok (by as_aux_lemma => kernel_rfl) knobs_ok (by as_aux_lemma => kernel_rfl) (by as_aux_lemma => kernel_rfl) (by as_aux_lemma => kernel_rfl) (by as_aux_lemma => kernel_rfl) (by as_aux_lemma => kernel_rfl) (by as_aux_lemma => kernel_rfl) (by as_aux_lemma => kernel_rfl) (by as_aux_lemma => kernel_rfl) (by as_aux_lemma => kernel_rfl) (by as_aux_lemma => kernel_rfl) (by as_aux_lemma => kernel_rfl) (by as_aux_lemma => kernel_rfl) (by as_aux_lemma => kernel_rfl) (by rw [keys_ok]; rfl) (by as_aux_lemma => kernel_rfl) heard_ok enter_ok (by rw [lifts_ok]; rfl) (by rw [make_ok]; rfl) (by as_aux_lemma => kernel_rfl) (by as_aux_lemma => kernel_rfl) (by as_aux_lemma => kernel_rfl) (by as_aux_lemma => kernel_rfl)

theorem FnFirstPart_holds : Rows.FnFirstPartSaid :=
  OpenClaim.holds_of_wide 10 Try.f10 rfl rfl rfl rfl rfl rfl rfl ⟨rfl, rfl, rfl, rfl, rfl⟩ rfl rfl rfl rfl rfl (by as_aux_lemma => kernel_rfl) Try.func10 FnFirstPart_joined
    (of_decide_eq_true (by as_aux_lemma => kernel_rfl)) (by unfold Func.isWrapper; rw [if_neg (by decide +kernel)]; exact ⟨rfl, rfl⟩)
    (fun os started H enc _ => FnFirstPart_lifted os started H enc)
#print axioms FnFirstPart_holds
end Go.Proofs.Ytnldiakjmhfodaa
