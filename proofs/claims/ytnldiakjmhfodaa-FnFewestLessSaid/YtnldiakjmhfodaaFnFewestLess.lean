/-
  FnFewestLess returns true for every code.
-/
import Derived.Test.YtnldiakjmhfodaaDrawP2
import Derived.Test.YtnldiakjmhfodaaFew
import Derived.Test.YtnldiakjmhfodaaLeave
import Derived.Test.YtnldiakjmhfodaaOpen
namespace Go.Proofs.Ytnldiakjmhfodaa
open Go.RowKit

set_option maxHeartbeats 1000000 in
set_option maxRecDepth 100000 in
theorem law_FnFewestLess (A0 : Option Addr) (code : List Int) (c0 : Nat) (w : World) (h : BS w A0 code) (hl : code.length ≤ maxLen) (hlc : code.length ≤ c0) :
    Calls Try.prog 26 #[.slice A0 code.length c0] w fun e w' => e = .returned (.bool true) ∧ Below w.heap.size w w' := by
  have hl' := hl
  unfold maxLen at hl'
  by_cases h1 : code.length ≤ 1048576
  case neg =>
    go_enter Try.func26, Try.ntmps26
    go_wp2_with fail
    go_ret
    exact ⟨rfl, Below.refl _ _⟩
  go_enter Try.func26, Try.ntmps26
  go_wp2_with fail
  refine (spec_DrawFewestFor A0 code c0 w h hl hlc).mono ?_
  rintro e w1 ⟨A, c, l, m, rfl, hO, hl5, m0, m2, hb⟩
  have hsz := own_size hO
  obtain ⟨hsz1, hsz2⟩ := hsz
  have hlm : l.length ≤ maxLen := by unfold maxLen; omega
  clear hsz2

  cases hr : fewN l m with
  | none =>
    go_wp2_with fail
    refine (impl_FewestFor A l c m _ hO.ts hlm hsz1).mono ?_
    rw [hr, show optV none = .tuple #[.int .i64 0, .bool false] from rfl]
    rintro e w2 ⟨rfl, b2⟩
    go_wp2_with fail
    refine (spec_FewestFor A l c m _ (hO.ts.keep b2) hlm hsz1).mono ?_
    rw [hr, show optV none = .tuple #[.int .i64 0, .bool false] from rfl]
    rintro e w3 ⟨rfl, b3⟩
    go_wp2_with fail
    go_ret
    exact ⟨rfl, bthru hb (bthru b2 b3)⟩
  | some n =>
    have HR := Lib.hid hr
    clear hr
    go_wp2_with fail
    refine (impl_FewestFor A l c m _ hO.ts hlm hsz1).mono ?_
    rw [HR.out, show optV (some n) = .tuple #[.int .i64 n, .bool true] from rfl]
    rintro e w2 ⟨rfl, b2⟩
    go_wp2_with fail
    refine (spec_FewestFor A l c m _ (hO.ts.keep b2) hlm hsz1).mono ?_
    rw [HR.out, show optV (some n) = .tuple #[.int .i64 n, .bool true] from rfl]
    rintro e w3 ⟨rfl, b3⟩
    have B3 := bthru b2 b3
    by_cases hlen : 0 < l.length
    · have e0 : ((l.length : Int) == 0) = false := beq_eq_false_iff_ne.2 (by omega)
      by_cases hm : m = 0
      · subst hm
        obtain ⟨n', hn1, hn2⟩ := fewN_less (l.length - 1) HR.out
        have Hn1 := Lib.hid hn1
        clear hn1
        have ht : Hid ((l.take (l.length - 1)).length = l.length - 1) := by rw [Hid, List.length_take]; omega
        have K := impl_FewestFor A (l.take (l.length - 1)) c 0 w3 (TS_take (hO.ts.keep B3) _) (by rw [ht.out]; unfold maxLen; omega) (by rw [ht.out]; omega)
        rw [ht.out, Hn1.out, show optV (some n') = .tuple #[.int .i64 n', .bool true] from rfl] at K
        have q1 : (0 : Int) ≤ (l.length : Int) - 1 := by omega
        have q2 : ((l.length : Int) - 1).toNat = l.length - 1 := by omega
        go_wp2_with fail
        refine K.mono ?_
        rintro e w4 ⟨rfl, b4⟩
        go_wp2_with fail
        go_ret
        exact ⟨rfl, bthru hb (bthru B3 b4)⟩
      · have hm' : (m != 0) = true := by simpa using hm
        go_wp2_with fail
        go_ret
        exact ⟨rfl, bthru hb B3⟩
    · have hl0 : l.length = 0 := by omega
      have e0 : ((l.length : Int) == 0) = true := by rw [hl0]; rfl
      go_wp2_with fail
      go_ret
      exact ⟨rfl, bthru hb B3⟩

open Go.ChangeShapes Go.WideShapes Go.ChangeAt Go.WideElems Go.Deep

set_option maxRecDepth 100000 in
theorem FnFewestLess_lifted (os : Os) (started : os.Started) (H : Type) (enc : TypeId × Value → H) :
    ReturnsInHanded {} Try.checked os 26 .any (Rows.fnFewestLessSpec.pre6 enc Try.prog Try.f26 Rows.fnFewestLessRow.domain false) (Rows.fnFewestLessSpec.post enc Try.prog Try.f26 false true false false) := by
  refine returnsInHanded_of_change (C := Try.checked) own started (by as_aux_lemma => kernel_rfl) Try.func26
    (ChangeSpec.witness6 (enc := enc) (C := Try.checked) false ⟨#[], #[.slice none 0 0], []⟩ 8 (by as_aux_lemma => kernel_rfl) (by as_aux_lemma => kernel_rfl) (by as_aux_lemma => kernel_rfl) (by as_aux_lemma => kernel_rfl)) ?_
  intro W base args ds gs before hval0 hW _ _
  have hval : ∀ (j : Nat) t v, Try.f26.params[j]? = some t → args[j]? = some v → Value.okWide Try.prog W .any base t v := hval0
  have hW' := hW
  obtain ⟨p, q, hA0, hV, rfl, _, _⟩ := hW
  have hA : DataW.TrodAll enc Try.prog W 0 (fun _ => true) true Try.f26.params.toList args.toList ds p := hA0
  rw [Try.params26] at hA hval
  obtain ⟨v0, d0, rfl, rfl, h0⟩ := trodAll_one hA
  obtain ⟨rfl, rfl⟩ := trodVars_none hV
  clear hA0 hval0
  simp only [List.append_nil] at hW'
  have hlt : ∀ x ∈ p, x.block < W.heap.size := fun x hx => hW'.lt x (by simpa using hx)
  have hargs : ∀ W', Below W.heap.size W W' → DataW.TrodAll enc Try.prog W' 0 (fun b => decide (b < W.heap.size)) true [41] [v0] [d0] (p) := fun W' hb =>
    trodAll_mk1 (Below.trod laidOut (by as_aux_lemma => kernel_rfl) (of_decide_eq_true (by as_aux_lemma => kernel_rfl)) h0 hb (fun x hx => hlt x (by simp [hx])))
  obtain ⟨A0, l0, c0, rfl, hlc0, hlm0, hlw0, hl0⟩ := open_kind Try.underlying41 Try.underlying5 (by as_aux_lemma => kernel_rfl) (okWide_slice Try.underlying41 (hval 0 _ v0 rfl rfl)) h0
  refine (law_FnFewestLess A0 l0 c0 W ⟨fun x hx => byte_wf (hlw0 x hx), hl0⟩ hlm0 hlc0).mono fun e W' ⟨he, hb⟩ => ?_
  subst he
  exact ⟨_, rfl, ⟨_, _, _, [], _, [], hW', trodAll_mk1 (shut_bool Try.underlying4 _), hargs W' hb, rfl, hb.frame _, fun h => by cases h⟩⟩

theorem FnFewestLess_joined : joinedFacts Try.prog 26 Try.f26 Rows.fnFewestLessSpec Rows.fnFewestLessRow = true :=
  joined_mk (by as_aux_lemma => kernel_rfl) laidOut mapsRowed_ok (by as_aux_lemma => kernel_rfl) (by as_aux_lemma => kernel_rfl) (by as_aux_lemma => kernel_rfl) stops_ok (by as_aux_lemma => kernel_rfl) knobs_ok (by as_aux_lemma => kernel_rfl) (by as_aux_lemma => kernel_rfl) (by as_aux_lemma => kernel_rfl) (by as_aux_lemma => kernel_rfl) (by as_aux_lemma => kernel_rfl) (by as_aux_lemma => kernel_rfl) (by as_aux_lemma => kernel_rfl) (by as_aux_lemma => kernel_rfl) (by as_aux_lemma => kernel_rfl) (by as_aux_lemma => kernel_rfl) (by as_aux_lemma => kernel_rfl) (by as_aux_lemma => kernel_rfl) (by as_aux_lemma => kernel_rfl) (by rw [keys_ok]; rfl) (by as_aux_lemma => kernel_rfl) heard_ok enter_ok (by rw [lifts_ok]; rfl) (by rw [make_ok]; rfl) (by as_aux_lemma => kernel_rfl) (by as_aux_lemma => kernel_rfl) (by as_aux_lemma => kernel_rfl) (by as_aux_lemma => kernel_rfl)

theorem FnFewestLess_holds : Rows.FnFewestLessSaid :=
  OpenClaim.holds_of_wide 26 Try.f26 rfl rfl rfl rfl rfl rfl rfl ⟨rfl, rfl, rfl, rfl, rfl⟩ rfl rfl rfl rfl rfl (by as_aux_lemma => kernel_rfl) Try.func26 FnFewestLess_joined
    (of_decide_eq_true (by as_aux_lemma => kernel_rfl)) (by unfold Func.isWrapper; rw [if_neg (by decide +kernel)]; exact ⟨rfl, rfl⟩)
    (fun os started H enc _ => FnFewestLess_lifted os started H enc)
#print axioms FnFewestLess_holds
end Go.Proofs.Ytnldiakjmhfodaa
