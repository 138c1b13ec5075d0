/-
  FnFewestShare returns true for every code.
-/
import Derived.Test.YtnldiakjmhfodaaDrawP2
import Derived.Test.YtnldiakjmhfodaaFew
import Derived.Test.YtnldiakjmhfodaaCmpI
import Derived.Test.YtnldiakjmhfodaaAdmT
import Derived.Test.YtnldiakjmhfodaaOpen
namespace Go.Proofs.Ytnldiakjmhfodaa
open Go.RowKit

set_option maxHeartbeats 1000000 in
set_option maxRecDepth 100000 in
theorem law_FnFewestShare (A0 : Option Addr) (code : List Int) (c0 : Nat) (w : World) (h : BS w A0 code) (hl : code.length ≤ maxLen) (hlc : code.length ≤ c0) :
    Calls Try.prog 28 #[.slice A0 code.length c0] w fun e w' => e = .returned (.bool true) ∧ Below w.heap.size w w' := by
  have hl' := hl
  unfold maxLen at hl'
  by_cases h1 : code.length ≤ 1048576
  case neg =>
    go_enter Try.func28, Try.ntmps28
    go_wp2_with fail
    go_ret
    exact ⟨rfl, Below.refl _ _⟩
  go_enter Try.func28, Try.ntmps28
  go_wp2_with fail
  refine (spec_DrawFewestFor A0 code c0 w h hl hlc).mono ?_
  rintro e w1 ⟨A, c, l, m, rfl, hO, hl5, m0, m2, hb⟩
  have hsz := own_size hO
  obtain ⟨hsz1, hsz2⟩ := hsz
  have hlm : l.length ≤ maxLen := by unfold maxLen; omega
  clear hsz2

  cases hr : fewN l m with
  | none =>
    go_wp2_with fail
    refine (impl_FewestFor A l c m _ hO.ts hlm hsz1).mono ?_
    rw [hr, show optV none = .tuple #[.int .i64 0, .bool false] from rfl]
    rintro e w2 ⟨rfl, b2⟩
    go_wp2_with fail
    refine (spec_FewestFor A l c m _ (hO.ts.keep b2) hlm hsz1).mono ?_
    rw [hr, show optV none = .tuple #[.int .i64 0, .bool false] from rfl]
    rintro e w3 ⟨rfl, b3⟩
    go_wp2_with fail
    go_ret
    exact ⟨rfl, bthru hb (bthru b2 b3)⟩
  | some n =>
    obtain ⟨h1n, h3n, ha, _⟩ := fewN_some hr
    obtain ⟨hsum, hhigh⟩ := fewN_share hr
    have hs : setVld l = true := by
      obtain ⟨w0, hw0⟩ := Option.isSome_iff_exists.1 ha
      exact (anyP_some hw0).1
    have HR := Lib.hid hr
    have rsum : RIn (ub l + ua l) := by rw [Rat.add_comm]; exact (RIn_plain hs).2
    have ra : RIn (ua l) := RIn_shares hs false false
    have rb : RIn (ub l) := RIn_shares hs true false
    have rh : RIn (uh l) := RIn_shares hs true true
    have nn : (n : Rat).num = n := Rat.num_intCast n
    have nd : (n : Rat).den = 1 := Rat.den_intCast n
    have rn : RIn (n : Rat) := ⟨by rw [nn]; omega, by rw [nn]; omega, by rw [nd]; omega⟩
    have hsv : sv n 1 = rv (n : Rat) := by show sv n 1 = sv (n : Rat).num ((n : Rat).den : Int); rw [nn, nd]; rfl
    have sb : sumV l true false = rv (ub l) := by simp [sumV, hs, ub]
    have sa : sumV l false false = rv (ua l) := by simp [sumV, hs, ua]
    have sh : sumV l true true = rv (uh l) := by simp [sumV, hs, uh]
    clear hr ha hs
    go_wp2_with fail
    refine (impl_FewestFor A l c m _ hO.ts hlm hsz1).mono ?_
    rw [HR.out, show optV (some n) = .tuple #[.int .i64 n, .bool true] from rfl]
    rintro e w2 ⟨rfl, b2⟩
    go_wp2_with fail
    refine (spec_FewestFor A l c m _ (hO.ts.keep b2) hlm hsz1).mono ?_
    rw [HR.out, show optV (some n) = .tuple #[.int .i64 n, .bool true] from rfl]
    rintro e w3 ⟨rfl, b3⟩
    have B3 := bthru b2 b3
    go_wp2_with fail
    refine (impl_LowShare A l c true _ (hO.ts.keep B3)).mono ?_
    rw [sb]
    rintro e w4 ⟨rfl, b4⟩
    have B4 := bthru B3 b4
    go_wp2_with fail
    refine (impl_LowShare A l c false _ (hO.ts.keep B4)).mono ?_
    rw [sa]
    rintro e w5 ⟨rfl, b5⟩
    have B5 := bthru B4 b5
    go_wp2_with fail
    refine (impl_AddShares_yes (ub l) (ua l) _ rb ra rsum).mono ?_
    rintro e w6 ⟨rfl, b6⟩
    have B6 := bthru B5 b6
    go_wp2_with fail
    refine (impl_CompareShares (ub l + ua l) (n : Rat) _ rsum rn hsum).mono ?_
    rintro e w7 ⟨v, rfl, hv, b7⟩
    have B7 := bthru (bal B6 _) b7
    go_wp2_with fail
    refine (impl_HighShare A l c _ (hO.ts.keep B7)).mono ?_
    rw [sh]
    rintro e w8 ⟨rfl, b8⟩
    have B8 := bthru B7 b8
    go_wp2_with fail
    refine (impl_CompareShares (uh l) (n : Rat) _ rh rn hhigh).mono ?_
    rintro e w9 ⟨v', rfl, hv', b9⟩
    go_wp2_with fail
    go_ret
    exact ⟨by first | rfl | (simp; omega), bthru hb (bthru B8 b9)⟩

open Go.ChangeShapes Go.WideShapes Go.ChangeAt Go.WideElems Go.Deep

set_option maxRecDepth 100000 in
theorem FnFewestShare_lifted (os : Os) (started : os.Started) (H : Type) (enc : TypeId × Value → H) :
    ReturnsInHanded {} Try.checked os 28 .any (Rows.fnFewestShareSpec.pre6 enc Try.prog Try.f28 Rows.fnFewestShareRow.domain false) (Rows.fnFewestShareSpec.post enc Try.prog Try.f28 false true false false) := by
  refine returnsInHanded_of_change (C := Try.checked) own started (by as_aux_lemma => kernel_rfl) Try.func28
    (ChangeSpec.witness6 (enc := enc) (C := Try.checked) false ⟨#[], #[.slice none 0 0], []⟩ 8 (by as_aux_lemma => kernel_rfl) (by as_aux_lemma => kernel_rfl) (by as_aux_lemma => kernel_rfl) (by as_aux_lemma => kernel_rfl)) ?_
  intro W base args ds gs before hval0 hW _ _
  have hval : ∀ (j : Nat) t v, Try.f28.params[j]? = some t → args[j]? = some v → Value.okWide Try.prog W .any base t v := hval0
  have hW' := hW
  obtain ⟨p, q, hA0, hV, rfl, _, _⟩ := hW
  have hA : DataW.TrodAll enc Try.prog W 0 (fun _ => true) true Try.f28.params.toList args.toList ds p := hA0
  rw [Try.params28] at hA hval
  obtain ⟨v0, d0, rfl, rfl, h0⟩ := trodAll_one hA
  obtain ⟨rfl, rfl⟩ := trodVars_none hV
  clear hA0 hval0
  simp only [List.append_nil] at hW'
  have hlt : ∀ x ∈ p, x.block < W.heap.size := fun x hx => hW'.lt x (by simpa using hx)
  have hargs : ∀ W', Below W.heap.size W W' → DataW.TrodAll enc Try.prog W' 0 (fun b => decide (b < W.heap.size)) true [41] [v0] [d0] (p) := fun W' hb =>
    trodAll_mk1 (Below.trod laidOut (by as_aux_lemma => kernel_rfl) (of_decide_eq_true (by as_aux_lemma => kernel_rfl)) h0 hb (fun x hx => hlt x (by simp [hx])))
  obtain ⟨A0, l0, c0, rfl, hlc0, hlm0, hlw0, hl0⟩ := open_kind Try.underlying41 Try.underlying5 (by as_aux_lemma => kernel_rfl) (okWide_slice Try.underlying41 (hval 0 _ v0 rfl rfl)) h0
  refine (law_FnFewestShare A0 l0 c0 W ⟨fun x hx => byte_wf (hlw0 x hx), hl0⟩ hlm0 hlc0).mono fun e W' ⟨he, hb⟩ => ?_
  subst he
  exact ⟨_, rfl, ⟨_, _, _, [], _, [], hW', trodAll_mk1 (shut_bool Try.underlying4 _), hargs W' hb, rfl, hb.frame _, fun h => by cases h⟩⟩

theorem FnFewestShare_joined : joinedFacts Try.prog 28 Try.f28 Rows.fnFewestShareSpec Rows.fnFewestShareRow = true :=
  joined_mk (by as_aux_lemma => kernel_rfl) laidOut mapsRowed_ok (by as_aux_lemma => kernel_rfl) (by as_aux_lemma => kernel_rfl) (by as_aux_lemma => kernel_rfl) stops_ok (by as_aux_lemma => kernel_rfl) knobs_ok (by as_aux_lemma => kernel_rfl) (by as_aux_lemma => kernel_rfl) (by as_aux_lemma => kernel_rfl) (by as_aux_lemma => kernel_rfl) (by as_aux_lemma => kernel_rfl) (by as_aux_lemma => kernel_rfl) (by as_aux_lemma => kernel_rfl) (by as_aux_lemma => kernel_rfl) (by as_aux_lemma => kernel_rfl) (by as_aux_lemma => kernel_rfl) (by as_aux_lemma => kernel_rfl) (by as_aux_lemma => kernel_rfl) (by as_aux_lemma => kernel_rfl) (by rw [keys_ok]; rfl) (by as_aux_lemma => kernel_rfl) heard_ok enter_ok (by rw [lifts_ok]; rfl) (by rw [make_ok]; rfl) (by as_aux_lemma => kernel_rfl) (by as_aux_lemma => kernel_rfl) (by as_aux_lemma => kernel_rfl) (by as_aux_lemma => kernel_rfl)

theorem FnFewestShare_holds : Rows.FnFewestShareSaid :=
  OpenClaim.holds_of_wide 28 Try.f28 rfl rfl rfl rfl rfl rfl rfl ⟨rfl, rfl, rfl, rfl, rfl⟩ rfl rfl rfl rfl rfl (by as_aux_lemma => kernel_rfl) Try.func28 FnFewestShare_joined
    (of_decide_eq_true (by as_aux_lemma => kernel_rfl)) (by unfold Func.isWrapper; rw [if_neg (by decide +kernel)]; exact ⟨rfl, rfl⟩)
    (fun os started H enc _ => FnFewestShare_lifted os started H enc)
#print axioms FnFewestShare_holds
end Go.Proofs.Ytnldiakjmhfodaa
