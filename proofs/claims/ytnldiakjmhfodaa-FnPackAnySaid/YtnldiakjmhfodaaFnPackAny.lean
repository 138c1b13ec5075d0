/-
  FnPackAny returns true for every code.
-/
import Derived.Test.YtnldiakjmhfodaaPackAI
import Derived.Test.YtnldiakjmhfodaaPackAS
import Derived.Test.YtnldiakjmhfodaaDmI
import Derived.Test.YtnldiakjmhfodaaFew
import Derived.Test.YtnldiakjmhfodaaOpen
import Derived.Test.YtnldiakjmhfodaaDrawCase
namespace Go.Proofs.Ytnldiakjmhfodaa
open Go.RowKit

/-! DrawPackHolds, DrawPackFirst, DrawPackAny, DrawFewestFor. -/

theorem spec_DrawPackHolds (A0 : Option Addr) (code : List Int) (c0 : Nat) (w : World) (h : BS w A0 code) (hl : code.length ≤ maxLen) (hlc : code.length ≤ c0) :
    Calls Try.prog 42 #[.slice A0 code.length c0] w (CasePost w) := by
  go_enter Try.func42, Try.ntmps42
  go_wp2_with fail
  refine (spec_l9Case A0 code c0 w h hl hlc).mono ?_
  rintro e w1 ⟨A, c, l, B, d, ws, n, m, rfl, hk⟩
  go_wp2_with fail
  refine bodyPost_ret (results_tmp4 rfl _ _ _) rfl ?_
  exact ⟨A, c, l, B, d, ws, n, m, rfl, hk⟩
theorem spec_DrawPackFirst (A0 : Option Addr) (code : List Int) (c0 : Nat) (w : World) (h : BS w A0 code) (hl : code.length ≤ maxLen) (hlc : code.length ≤ c0) :
    Calls Try.prog 48 #[.slice A0 code.length c0] w fun e w' => ∃ A c l n m, e = .returned (.tuple #[.slice A (List.length l) c, .int .i64 n, .int .i64 m]) ∧ OT w.heap.size w' A c l ∧ l.length ≤ 5 ∧ 0 ≤ n ∧ n ≤ 4 ∧ 0 ≤ m ∧ m ≤ 2 ∧ Below w.heap.size w w' := by
  go_enter Try.func48, Try.ntmps48
  go_wp2_with fail
  refine (spec_l9Case A0 code c0 w h hl hlc).mono ?_
  rintro e w1 ⟨A, c, l, B, d, ws, n, m, rfl, hk⟩
  go_wp2_with fail
  go_ret3
  exact ⟨A, c, l, n, m, rfl, hk.tasks, hk.len, hk.n0, hk.n4, hk.m0, hk.m2, hk.below⟩
theorem spec_DrawPackAny (A0 : Option Addr) (code : List Int) (c0 : Nat) (w : World) (h : BS w A0 code) (hl : code.length ≤ maxLen) (hlc : code.length ≤ c0) :
    Calls Try.prog 69 #[.slice A0 code.length c0] w fun e w' => ∃ A c l n m, e = .returned (.tuple #[.slice A (List.length l) c, .int .i64 n, .int .i64 m]) ∧ OT w.heap.size w' A c l ∧ l.length ≤ 5 ∧ 0 ≤ n ∧ n ≤ 4 ∧ 0 ≤ m ∧ m ≤ 2 ∧ Below w.heap.size w w' := by
  go_enter Try.func69, Try.ntmps69
  go_wp2_with fail
  refine (spec_DrawPackFirst A0 code c0 w h hl hlc).mono ?_
  rintro e w1 ⟨A, c, l, n, m, rfl, hO, hl5, n0, n4, m0, m2, hb⟩
  go_wp2_with fail
  go_ret3
  exact ⟨A, c, l, n, m, rfl, hO, hl5, n0, n4, m0, m2, hb⟩
theorem spec_DrawFewestFor (A0 : Option Addr) (code : List Int) (c0 : Nat) (w : World) (h : BS w A0 code) (hl : code.length ≤ maxLen) (hlc : code.length ≤ c0) :
    Calls Try.prog 71 #[.slice A0 code.length c0] w fun e w' => ∃ A c l m, e = .returned (.tuple #[.slice A (List.length l) c, .int .i64 m]) ∧ OT w.heap.size w' A c l ∧ l.length ≤ 5 ∧ 0 ≤ m ∧ m ≤ 2 ∧ Below w.heap.size w w' := by
  go_enter Try.func71, Try.ntmps71
  go_wp2_with fail
  refine (spec_l9Case A0 code c0 w h hl hlc).mono ?_
  rintro e w1 ⟨A, c, l, B, d, ws, n, m, rfl, hk⟩
  go_wp2_with fail
  go_ret2
  exact ⟨A, c, l, m, rfl, hk.tasks, hk.len, hk.m0, hk.m2, hk.below⟩

set_option maxHeartbeats 1000000 in
set_option maxRecDepth 100000 in
theorem law_FnPackAny (A0 : Option Addr) (code : List Int) (c0 : Nat) (w : World) (h : BS w A0 code) (hl : code.length ≤ maxLen) (hlc : code.length ≤ c0) :
    Calls Try.prog 27 #[.slice A0 code.length c0] w fun e w' => e = .returned (.bool true) ∧ Below w.heap.size w w' := by
  have hl' := hl
  unfold maxLen at hl'
  by_cases h1 : code.length ≤ 1048576
  case neg =>
    go_enter Try.func27, Try.ntmps27
    go_wp2_with fail
    go_ret
    exact ⟨rfl, Below.refl _ _⟩
  go_enter Try.func27, Try.ntmps27
  go_wp2_with fail
  refine (spec_DrawPackAny A0 code c0 w h hl hlc).mono ?_
  rintro e w1 ⟨A, c, l, n, m, rfl, hO, hl5, n0, n4, m0, m2, hb⟩
  have hsz := own_size hO
  obtain ⟨hsz1, hsz2⟩ := hsz
  have hlm : l.length ≤ maxLen := by unfold maxLen; omega
  clear hsz2

  obtain ⟨ws, hws⟩ : ∃ ws, anyL l n m = ws := ⟨_, rfl⟩
  have hwl : ws.length ≤ 5 := by rw [← hws]; exact anyL_le l n m
  have HW := Lib.hid hws
  obtain ⟨ok, hok⟩ : ∃ ok, (anyP l n m).isSome = ok := ⟨_, rfl⟩
  have HK := Lib.hid hok
  clear hws hok
  go_wp2_with fail
  refine (impl_PackAny A l c n m _ hO.ts hlm hsz1).mono ?_
  rw [HW.out, HK.out]
  rintro e w2 ⟨A2, c2, rfl, o2, b2⟩
  go_wp2_with fail
  refine (spec_PackAny A l c n m _ (hO.ts.keep b2) hlm hsz1).mono ?_
  rw [HW.out, HK.out]
  rintro e w3 ⟨A3, c3, rfl, o3, b3⟩
  have o2 := OI_keep o2 b3
  have B3 := bthru b2 b3
  go_wp2_with fail
  refine (laws_dmInts A2 A3 ws ws c2 c3 _ o2.is o3.is (by omega)).mono ?_
  rintro e w4 ⟨rfl, b4⟩
  simp only [decide_true]
  have o2 := OI_keep o2 b4
  have o3 := OI_keep o3 b4
  have B4 := bthru B3 b4

  cases hr : anyP l n m with
  | none =>
    have e1 : ok = false := by rw [← HK.out, hr]; rfl
    have e2 : ws = [] := by rw [← HW.out, anyL, hr]; rfl
    subst e1
    subst e2
    clear hr
    go_wp2_with fail
    refine (laws_dmInts A2 A3 [] [] c2 c3 _ o2.is o3.is (by simp)).mono ?_
    rintro e w5 ⟨rfl, b5⟩
    simp only [decide_true]
    go_wp2_with fail
    go_ret
    exact ⟨rfl, bthru hb (bthru B4 b5)⟩
  | some ws' =>
    have e1 : ok = true := by rw [← HK.out, hr]; rfl
    have e2 : ws' = ws := by rw [← HW.out, anyL, hr]; rfl
    subst e1
    subst e2
    obtain ⟨hs, h1n, h3n, hk, _⟩ := anyP_some hr
    obtain ⟨f, hf, hfn⟩ := fewN_of (l := l) (p := m) (m := n) (by rw [hr]; rfl)
    obtain ⟨wm, hwm⟩ : ∃ wm, anyL l (n + 1) m = wm := ⟨_, rfl⟩
    obtain ⟨okM, hokM⟩ : ∃ okM, (anyP l (n + 1) m).isSome = okM := ⟨_, rfl⟩
    have hor : n = 3 ∨ okM = true := by
      by_cases h3 : n = 3
      · exact .inl h3
      · refine .inr ?_
        rw [← hokM]
        exact (anyP_iff l (n + 1) m).2 ⟨_, pkH_more hk (by omega) (by omega)⟩
    have HM1 := Lib.hid hwm
    have HM2 := Lib.hid hokM
    have Hf := Lib.hid hf
    have Hk := Lib.hid hk
    clear hr hs hwm hokM hf hk
    go_wp2_with fail
    refine (impl_PackAny A l c (n + 1) m _ (hO.ts.keep B4) hlm hsz1).mono ?_
    rw [HM1.out, HM2.out]
    rintro e w5 ⟨A5, c5, rfl, o5, b5⟩
    have B5 := bthru B4 b5
    have o2 := OI_keep o2 b5
    go_wp2_with fail
    refine (impl_FewestFor A l c m _ (hO.ts.keep B5) hlm hsz1).mono ?_
    rw [Hf.out, show optV (some f) = .tuple #[.int .i64 f, .bool true] from rfl]
    rintro e w6 ⟨rfl, b6⟩
    have B6 := bthru B5 b6
    have o2 := OI_keep o2 b6
    go_wp2_with fail
    refine (impl_PackHolds A A2 l ws' c c2 n m _ (hO.ts.keep B6) o2.is).mono ?_
    rw [Hk.out]
    rintro e w7 ⟨rfl, b7⟩
    rcases hor with rfl | rfl
    · go_wp2_with fail
      go_ret
      exact ⟨rfl, bthru hb (bthru B6 b7)⟩
    · by_cases h3 : n = 3
      · subst h3
        go_wp2_with fail
        go_ret
        exact ⟨rfl, bthru hb (bthru B6 b7)⟩
      · have h3' : (n == 3) = false := beq_eq_false_iff_ne.2 h3
        go_wp2_with fail
        go_ret
        exact ⟨rfl, bthru hb (bthru B6 b7)⟩

open Go.ChangeShapes Go.WideShapes Go.ChangeAt Go.WideElems Go.Deep

set_option maxRecDepth 100000 in
theorem FnPackAny_lifted (os : Os) (started : os.Started) (H : Type) (enc : TypeId × Value → H) :
    ReturnsInHanded {} Try.checked os 27 .any (Rows.fnPackAnySpec.pre6 enc Try.prog Try.f27 Rows.fnPackAnyRow.domain false) (Rows.fnPackAnySpec.post enc Try.prog Try.f27 false true false false) := by
  refine returnsInHanded_of_change (C := Try.checked) own started (by as_aux_lemma => kernel_rfl) Try.func27
    (ChangeSpec.witness6 (enc := enc) (C := Try.checked) false ⟨#[], #[.slice none 0 0], []⟩ 8 (by as_aux_lemma => kernel_rfl) (by as_aux_lemma => kernel_rfl) (by as_aux_lemma => kernel_rfl) (by as_aux_lemma => kernel_rfl)) ?_
  intro W base args ds gs before hval0 hW _ _
  have hval : ∀ (j : Nat) t v, Try.f27.params[j]? = some t → args[j]? = some v → Value.okWide Try.prog W .any base t v := hval0
  have hW' := hW
  obtain ⟨p, q, hA0, hV, rfl, _, _⟩ := hW
  have hA : DataW.TrodAll enc Try.prog W 0 (fun _ => true) true Try.f27.params.toList args.toList ds p := hA0
  rw [Try.params27] at hA hval
  obtain ⟨v0, d0, rfl, rfl, h0⟩ := trodAll_one hA
  obtain ⟨rfl, rfl⟩ := trodVars_none hV
  clear hA0 hval0
  simp only [List.append_nil] at hW'
  have hlt : ∀ x ∈ p, x.block < W.heap.size := fun x hx => hW'.lt x (by simpa using hx)
  have hargs : ∀ W', Below W.heap.size W W' → DataW.TrodAll enc Try.prog W' 0 (fun b => decide (b < W.heap.size)) true [41] [v0] [d0] (p) := fun W' hb =>
    trodAll_mk1 (Below.trod laidOut (by as_aux_lemma => kernel_rfl) (of_decide_eq_true (by as_aux_lemma => kernel_rfl)) h0 hb (fun x hx => hlt x (by simp [hx])))
  obtain ⟨A0, l0, c0, rfl, hlc0, hlm0, hlw0, hl0⟩ := open_kind Try.underlying41 Try.underlying5 (by as_aux_lemma => kernel_rfl) (okWide_slice Try.underlying41 (hval 0 _ v0 rfl rfl)) h0
  refine (law_FnPackAny A0 l0 c0 W ⟨fun x hx => byte_wf (hlw0 x hx), hl0⟩ hlm0 hlc0).mono fun e W' ⟨he, hb⟩ => ?_
  subst he
  exact ⟨_, rfl, ⟨_, _, _, [], _, [], hW', trodAll_mk1 (shut_bool Try.underlying4 _), hargs W' hb, rfl, hb.frame _, fun h => by cases h⟩⟩

theorem FnPackAny_joined : joinedFacts Try.prog 27 Try.f27 Rows.fnPackAnySpec Rows.fnPackAnyRow = true :=
  joined_mk (by as_aux_lemma => kernel_rfl) laidOut mapsRowed_ok (by as_aux_lemma => kernel_rfl) (by as_aux_lemma => kernel_rfl) (by as_aux_lemma => kernel_rfl) stops_ok (by as_aux_lemma => kernel_rfl) knobs_ok (by as_aux_lemma => kernel_rfl) (by as_aux_lemma => kernel_rfl) (by as_aux_lemma => kernel_rfl) (by as_aux_lemma => kernel_rfl) (by as_aux_lemma => kernel_rfl) (by as_aux_lemma => kernel_rfl) (by as_aux_lemma => kernel_rfl) (by as_aux_lemma => kernel_rfl) (by as_aux_lemma => kernel_rfl) (by as_aux_lemma => kernel_rfl) (by as_aux_lemma => kernel_rfl) (by as_aux_lemma => kernel_rfl) (by as_aux_lemma => kernel_rfl) (by rw [keys_ok]; rfl) (by as_aux_lemma => kernel_rfl) heard_ok enter_ok (by rw [lifts_ok]; rfl) (by rw [make_ok]; rfl) (by as_aux_lemma => kernel_rfl) (by as_aux_lemma => kernel_rfl) (by as_aux_lemma => kernel_rfl) (by as_aux_lemma => kernel_rfl)

theorem FnPackAny_holds : Rows.FnPackAnySaid :=
  OpenClaim.holds_of_wide 27 Try.f27 rfl rfl rfl rfl rfl rfl rfl ⟨rfl, rfl, rfl, rfl, rfl⟩ rfl rfl rfl rfl rfl (by as_aux_lemma => kernel_rfl) Try.func27 FnPackAny_joined
    (of_decide_eq_true (by as_aux_lemma => kernel_rfl)) (by unfold Func.isWrapper; rw [if_neg (by decide +kernel)]; exact ⟨rfl, rfl⟩)
    (fun os started H enc _ => FnPackAny_lifted os started H enc)
#print axioms FnPackAny_holds
end Go.Proofs.Ytnldiakjmhfodaa
