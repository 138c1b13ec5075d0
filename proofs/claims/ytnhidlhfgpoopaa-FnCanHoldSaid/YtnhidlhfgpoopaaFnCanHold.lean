/-
  FnCanHold returns true for every code.
-/
import Derived.Test.YtnhidlhfgpoopaaHoldsBy
import Derived.Test.YtnhidlhfgpoopaaPackT
import Derived.Test.YtnhidlhfgpoopaaDrawCase
import Derived.Test.YtnhidlhfgpoopaaOpen
namespace Go.Proofs.Ytnhidlhfgpoopaa
open Go.RowKit

theorem spec_DrawFewestFor (A0 : Option Addr) (code : List Int) (c0 : Nat) (w : World) (h : BS w A0 code) (hl : code.length ≤ maxLen) (hlc : code.length ≤ c0) :
    Calls Try.prog 91 #[.slice A0 code.length c0] w fun e w' => ∃ A c l m, e = .returned (.tuple #[.slice A (List.length l) c, .int .i64 m]) ∧ OT w.heap.size w' A c l ∧ l.length ≤ 5 ∧ 0 ≤ m ∧ m ≤ 2 ∧ Below w.heap.size w w' := by
  go_enter Try.func91, Try.ntmps91
  go_wp2_with fail
  refine (spec_l9Case A0 code c0 w h hl hlc).mono ?_
  rintro e w1 ⟨A, c, l, B, d, ws, n, m, rfl, hk⟩
  go_wp2_with fail
  go_ret2
  exact ⟨A, c, l, m, rfl, hk.tasks, hk.len, hk.m0, hk.m2, hk.below⟩
theorem spec_DrawCanHold (A0 : Option Addr) (code : List Int) (c0 : Nat) (w : World) (h : BS w A0 code) (hl : code.length ≤ maxLen) (hlc : code.length ≤ c0) :
    Calls Try.prog 51 #[.slice A0 code.length c0] w fun e w' => ∃ A c l m, e = .returned (.tuple #[.slice A (List.length l) c, .int .i64 m]) ∧ OT w.heap.size w' A c l ∧ l.length ≤ 5 ∧ 0 ≤ m ∧ m ≤ 2 ∧ Below w.heap.size w w' := by
  go_enter Try.func51, Try.ntmps51
  go_wp2_with fail
  refine (spec_DrawFewestFor A0 code c0 w h hl hlc).mono ?_
  rintro e w1 ⟨A, c, l, m, rfl, hO, hl5, m0, m2, hb⟩
  go_wp2_with fail
  go_ret2
  exact ⟨A, c, l, m, rfl, hO, hl5, m0, m2, hb⟩

set_option maxHeartbeats 1000000 in
theorem law_FnCanHold (A0 : Option Addr) (code : List Int) (c0 : Nat) (w : World) (h : BS w A0 code) (hl : code.length ≤ maxLen) (hlc : code.length ≤ c0) :
    Calls Try.prog 13 #[.slice A0 code.length c0] w fun e w' => e = .returned (.bool true) ∧ Below w.heap.size w w' := by
  have hl' := hl
  unfold maxLen at hl'
  by_cases h1 : code.length ≤ 1048576
  case neg =>
    go_enter Try.func13, Try.ntmps13
    go_wp2_with fail
    go_ret
    exact ⟨rfl, Below.refl _ _⟩
  go_enter Try.func13, Try.ntmps13
  go_wp2_with fail
  refine (spec_DrawCanHold A0 code c0 w h hl hlc).mono ?_
  rintro e w1 ⟨A, c, l, m, rfl, hO, hl5, m0, m2, hb⟩
  have hsz := own_size hO
  obtain ⟨hsz1, hsz2⟩ := hsz
  have hlm : l.length ≤ maxLen := by unfold maxLen; omega
  clear hsz2
  go_wp2_with fail
  refine (impl_CanHold A l c m _ hO.ts hlm hsz1).mono ?_
  rintro e w2 ⟨rfl, b2⟩
  go_wp2_with fail
  refine (spec_CanHold A l c m _ (hO.ts.keep b2) hlm).mono ?_
  rintro e w3 ⟨rfl, b3⟩
  have B3 := bthru b2 b3
  cases hc : canH l m with
  | false =>
    have hh : hldBy l m = false := by
      cases e : hldBy l m with
      | false => rfl
      | true => rw [hldBy_can e] at hc; cases hc
    go_wp2_with fail
    refine (impl_HoldsBy A l c m _ (hO.ts.keep B3) hlm hsz1).mono ?_
    rw [hh]
    rintro e w4 ⟨rfl, b4⟩
    go_wp2_with fail
    go_ret
    exact ⟨rfl, bthru hb (bthru B3 b4)⟩
  | true =>
    go_wp2_with fail
    refine (impl_HoldsBy A l c m _ (hO.ts.keep B3) hlm hsz1).mono ?_
    rintro e w4 ⟨rfl, b4⟩
    have B4 := bthru B3 b4
    have Hc := Lib.hid hc
    clear hc
    cases hh : hldBy l m
    all_goals
      clear hh
      by_cases hp : 0 < l.length
      · by_cases hm : m = 0
        · subst hm
          obtain ⟨b, rfl, hb1, hb2⟩ := OT_addr hO hp
          have hD := TS_drop (hO.ts.keep B4) 1 hsz1
          obtain ⟨A2, hA2, hS2⟩ := hD
          rw [Nat.zero_add] at hA2
          have hd : Hid ((l.drop 1).length = l.length - 1) := by simp [Hid]
          have K := impl_CanHold (some A2) (l.drop 1) (c - 1) 0 _ hS2 (by rw [hd.out]; unfold maxLen; omega) (by rw [hd.out]; omega)
          rw [hd.out, canH_sub0 (Sub.sub (List.drop_sublist 1 l)) Hc.out] at K
          have q1 : (1 : Int) ≤ (l.length : Int) := by omega
          go_wp2_with fail
          refine K.mono ?_
          rintro e w5 ⟨rfl, b5⟩
          go_wp2_with fail
          go_ret
          exact ⟨rfl, bthru hb (bthru B4 b5)⟩
        · have hm' : (m == 0) = false := beq_eq_false_iff_ne.2 hm
          go_wp2_with fail
          go_ret
          exact ⟨rfl, bthru hb B4⟩
      · go_wp2_with fail
        go_ret
        exact ⟨rfl, bthru hb B4⟩

open Go.ChangeShapes Go.WideShapes Go.ChangeAt Go.WideElems Go.Deep

set_option maxRecDepth 100000 in
theorem FnCanHold_lifted (os : Os) (started : os.Started) (H : Type) (enc : TypeId × Value → H) :
    ReturnsInHanded {} Try.checked os 13 .any (Rows.fnCanHoldSpec.pre6 enc Try.prog Try.f13 Rows.fnCanHoldRow.domain false) (Rows.fnCanHoldSpec.post enc Try.prog Try.f13 false true false false) := by
  refine returnsInHanded_of_change (C := Try.checked) own started (by as_aux_lemma => kernel_rfl) Try.func13
    (ChangeSpec.witness6 (enc := enc) (C := Try.checked) false ⟨#[], #[.slice none 0 0], []⟩ 8 (by as_aux_lemma => kernel_rfl) (by as_aux_lemma => kernel_rfl) (by as_aux_lemma => kernel_rfl) (by as_aux_lemma => kernel_rfl)) ?_
  intro W base args ds gs before hval0 hW _ _
  have hval : ∀ (j : Nat) t v, Try.f13.params[j]? = some t → args[j]? = some v → Value.okWide Try.prog W .any base t v := hval0
  have hW' := hW
  obtain ⟨p, q, hA0, hV, rfl, _, _⟩ := hW
  have hA : DataW.TrodAll enc Try.prog W 0 (fun _ => true) true Try.f13.params.toList args.toList ds p := hA0
  rw [Try.params13] at hA hval
  obtain ⟨v0, d0, rfl, rfl, h0⟩ := trodAll_one hA
  obtain ⟨rfl, rfl⟩ := trodVars_none hV
  clear hA0 hval0
  simp only [List.append_nil] at hW'
  have hlt : ∀ x ∈ p, x.block < W.heap.size := fun x hx => hW'.lt x (by simpa using hx)
  have hargs : ∀ W', Below W.heap.size W W' → DataW.TrodAll enc Try.prog W' 0 (fun b => decide (b < W.heap.size)) true [32] [v0] [d0] (p) := fun W' hb =>
    trodAll_mk1 (Below.trod laidOut (by as_aux_lemma => kernel_rfl) (of_decide_eq_true (by as_aux_lemma => kernel_rfl)) h0 hb (fun x hx => hlt x (by simp [hx])))
  obtain ⟨A0, l0, c0, rfl, hlc0, hlm0, hlw0, hl0⟩ := open_kind Try.underlying32 Try.underlying5 (by as_aux_lemma => kernel_rfl) (okWide_slice Try.underlying32 (hval 0 _ v0 rfl rfl)) h0
  refine (law_FnCanHold A0 l0 c0 W ⟨fun x hx => byte_wf (hlw0 x hx), hl0⟩ hlm0 hlc0).mono fun e W' ⟨he, hb⟩ => ?_
  subst he
  exact ⟨_, rfl, ⟨_, _, _, [], _, [], hW', trodAll_mk1 (shut_bool Try.underlying4 _), hargs W' hb, rfl, hb.frame _, fun h => by cases h⟩⟩

theorem FnCanHold_joined : joinedFacts Try.prog 13 Try.f13 Rows.fnCanHoldSpec Rows.fnCanHoldRow = true :=
  joined_mk (by as_aux_lemma => kernel_rfl) laidOut mapsRowed_ok (by as_aux_lemma => kernel_rfl) (by as_aux_lemma => kernel_rfl) (by as_aux_lemma => kernel_rfl) stops_ok (by as_aux_lemma => kernel_rfl) knobs_ok (by as_aux_lemma => kernel_rfl) (by as_aux_lemma => kernel_rfl) (by as_aux_lemma => kernel_rfl) (by as_aux_lemma => kernel_rfl) (by as_aux_lemma => kernel_rfl) (by as_aux_lemma => kernel_rfl) (by as_aux_lemma => kernel_rfl) (by as_aux_lemma => kernel_rfl) (by as_aux_lemma => kernel_rfl) (by as_aux_lemma => kernel_rfl) (by as_aux_lemma => kernel_rfl) (by as_aux_lemma => kernel_rfl) (by as_aux_lemma => kernel_rfl) (by rw [keys_ok]; rfl) (by as_aux_lemma => kernel_rfl) heard_ok enter_ok (by rw [lifts_ok]; rfl) (by rw [make_ok]; rfl) (by as_aux_lemma => kernel_rfl) (by as_aux_lemma => kernel_rfl) (by as_aux_lemma => kernel_rfl) (by as_aux_lemma => kernel_rfl)

theorem FnCanHold_holds : Rows.FnCanHoldSaid :=
  OpenClaim.holds_of_wide 13 Try.f13 rfl rfl rfl rfl rfl rfl rfl ⟨rfl, rfl, rfl, rfl, rfl⟩ rfl rfl rfl rfl rfl (by as_aux_lemma => kernel_rfl) Try.func13 FnCanHold_joined
    (of_decide_eq_true (by as_aux_lemma => kernel_rfl)) (by unfold Func.isWrapper; rw [if_neg (by decide +kernel)]; exact ⟨rfl, rfl⟩)
    (fun os started H enc _ => FnCanHold_lifted os started H enc)
#print axioms FnCanHold_holds
end Go.Proofs.Ytnhidlhfgpoopaa
