/-
  FnMostLowHigh returns true for every code.
-/
import Derived.Test.YtnhidlhfgpoopaaDrawHold
import Derived.Test.YtnhidlhfgpoopaaMost
import Derived.Test.YtnhidlhfgpoopaaOpen
namespace Go.Proofs.Ytnhidlhfgpoopaa
open Go.RowKit

set_option maxHeartbeats 4000000 in
set_option maxRecDepth 100000 in
theorem law_FnMostLowHigh (A0 : Option Addr) (code : List Int) (c0 : Nat) (w : World) (h : BS w A0 code) (hl : code.length ≤ maxLen) (hlc : code.length ≤ c0) :
    Calls Try.prog 18 #[.slice A0 code.length c0] w fun e w' => e = .returned (.bool true) ∧ Below w.heap.size w w' := by
  have hl' := hl
  unfold maxLen at hl'
  by_cases h1 : code.length ≤ 1048576
  case neg =>
    go_enter Try.func18, Try.ntmps18
    go_wp2_with fail
    go_ret
    exact ⟨rfl, Below.refl _ _⟩
  go_enter Try.func18, Try.ntmps18
  go_wp2_with fail
  refine (spec_DrawMostLow A0 code c0 w h hl hlc).mono ?_
  rintro e w1 ⟨A, c, l, x, m, rfl, hO, hl5, hx0, hx1, m0, m2, hb⟩
  have hsz := own_size hO
  obtain ⟨hsz1, hsz2⟩ := hsz
  have hlm : l.length ≤ maxLen := by unfold maxLen; omega
  clear hsz2
  cases hr : mostLow l x m with
  | none =>
    go_wp2_with fail
    refine (impl_MostLow A l c x m _ hO.ts hlm hsz1).mono ?_
    rw [hr, show optV none = .tuple #[.int .i64 0, .bool false] from rfl]
    rintro e w2 ⟨rfl, b2⟩
    go_wp2_with fail
    refine (spec_MostLow A l c x m _ (hO.ts.keep b2) hlm hsz1).mono ?_
    rw [hr, show optV none = .tuple #[.int .i64 0, .bool false] from rfl]
    rintro e w3 ⟨rfl, b3⟩
    go_wp2_with fail
    go_ret
    exact ⟨rfl, bthru hb (bthru b2 b3)⟩
  | some n =>
    obtain ⟨f1, f2, f3, f4, f5, f6, f7⟩ := mostLow_some hr
    obtain ⟨hs, _, hlt, hx⟩ := plc_yes f1
    obtain ⟨k, rfl⟩ : ∃ q : Nat, x = (q : Int) := ⟨_, hx⟩
    rw [Int.toNat_natCast] at *
    have hbd := vld_nums (tkAt_vld hs hlt)
    obtain ⟨n1, n2, n3, n4, n5⟩ := hbd
    have F1 := Lib.hid f1
    have F3 := Lib.hid f3
    have F7 := Lib.hid f7
    have hlen : Hid (∀ j, (setLow l k j).length = l.length) := fun j => by simp [setLow]
    clear f1 f2 f3 f7 hs hx
    have HR := Lib.hid hr
    clear hr
    go_wp2_with fail
    refine (impl_MostLow A l c k m _ hO.ts hlm hsz1).mono ?_
    rw [HR.out, show optV (some n) = .tuple #[.int .i64 n, .bool true] from rfl]
    rintro e w2 ⟨rfl, b2⟩
    go_wp2_with fail
    refine (spec_MostLow A l c k m _ (hO.ts.keep b2) hlm hsz1).mono ?_
    rw [HR.out, show optV (some n) = .tuple #[.int .i64 n, .bool true] from rfl]
    rintro e w3 ⟨rfl, b3⟩
    have B3 := bthru b2 b3
    obtain ⟨b, rfl, hbw, hbl⟩ := OT_addr hO (by omega)
    have hbl3 : b < w3.heap.size := Nat.lt_of_lt_of_le hbl B3.size
    obtain ⟨k0, k1, k2, k3, k4, _⟩ := OT_cells' (OT_keep hO B3) k hlt
    rw [← tkAt_eq l k hlt] at k0 k1 k2 k3 k4
    have hT3 := hO.ts.keep B3
    cases hcr : (tkAt l k).crit with
    | false =>
      rw [hcr] at k4
      clear hcr
      go_wp2_with fail
      go_ret
      exact ⟨rfl, bthru hb B3⟩
    | true =>
      have f7 := F7.out hcr
      rw [hcr] at k4
      clear hcr
      go_wp2_with fail
      go_ret
      exact ⟨rfl, bthru hb B3⟩

open Go.ChangeShapes Go.WideShapes Go.ChangeAt Go.WideElems Go.Deep

set_option maxRecDepth 100000 in
theorem FnMostLowHigh_lifted (os : Os) (started : os.Started) (H : Type) (enc : TypeId × Value → H) :
    ReturnsInHanded {} Try.checked os 18 .any (Rows.fnMostLowHighSpec.pre6 enc Try.prog Try.f18 Rows.fnMostLowHighRow.domain false) (Rows.fnMostLowHighSpec.post enc Try.prog Try.f18 false true false false) := by
  refine returnsInHanded_of_change (C := Try.checked) own started (by as_aux_lemma => kernel_rfl) Try.func18
    (ChangeSpec.witness6 (enc := enc) (C := Try.checked) false ⟨#[], #[.slice none 0 0], []⟩ 8 (by as_aux_lemma => kernel_rfl) (by as_aux_lemma => kernel_rfl) (by as_aux_lemma => kernel_rfl) (by as_aux_lemma => kernel_rfl)) ?_
  intro W base args ds gs before hval0 hW _ _
  have hval : ∀ (j : Nat) t v, Try.f18.params[j]? = some t → args[j]? = some v → Value.okWide Try.prog W .any base t v := hval0
  have hW' := hW
  obtain ⟨p, q, hA0, hV, rfl, _, _⟩ := hW
  have hA : DataW.TrodAll enc Try.prog W 0 (fun _ => true) true Try.f18.params.toList args.toList ds p := hA0
  rw [Try.params18] at hA hval
  obtain ⟨v0, d0, rfl, rfl, h0⟩ := trodAll_one hA
  obtain ⟨rfl, rfl⟩ := trodVars_none hV
  clear hA0 hval0
  simp only [List.append_nil] at hW'
  have hlt : ∀ x ∈ p, x.block < W.heap.size := fun x hx => hW'.lt x (by simpa using hx)
  have hargs : ∀ W', Below W.heap.size W W' → DataW.TrodAll enc Try.prog W' 0 (fun b => decide (b < W.heap.size)) true [32] [v0] [d0] (p) := fun W' hb =>
    trodAll_mk1 (Below.trod laidOut (by as_aux_lemma => kernel_rfl) (of_decide_eq_true (by as_aux_lemma => kernel_rfl)) h0 hb (fun x hx => hlt x (by simp [hx])))
  obtain ⟨A0, l0, c0, rfl, hlc0, hlm0, hlw0, hl0⟩ := open_kind Try.underlying32 Try.underlying5 (by as_aux_lemma => kernel_rfl) (okWide_slice Try.underlying32 (hval 0 _ v0 rfl rfl)) h0
  refine (law_FnMostLowHigh A0 l0 c0 W ⟨fun x hx => byte_wf (hlw0 x hx), hl0⟩ hlm0 hlc0).mono fun e W' ⟨he, hb⟩ => ?_
  subst he
  exact ⟨_, rfl, ⟨_, _, _, [], _, [], hW', trodAll_mk1 (shut_bool Try.underlying4 _), hargs W' hb, rfl, hb.frame _, fun h => by cases h⟩⟩

theorem FnMostLowHigh_joined : joinedFacts Try.prog 18 Try.f18 Rows.fnMostLowHighSpec Rows.fnMostLowHighRow = true :=
  joined_mk (by as_aux_lemma => kernel_rfl) laidOut mapsRowed_ok (by as_aux_lemma => kernel_rfl) (by as_aux_lemma => kernel_rfl) (by as_aux_lemma => kernel_rfl) stops_ok (by as_aux_lemma => kernel_rfl) knobs_ok (by as_aux_lemma => kernel_rfl) (by as_aux_lemma => kernel_rfl) (by as_aux_lemma => kernel_rfl) (by as_aux_lemma => kernel_rfl) (by as_aux_lemma => kernel_rfl) (by as_aux_lemma => kernel_rfl) (by as_aux_lemma => kernel_rfl) (by as_aux_lemma => kernel_rfl) (by as_aux_lemma => kernel_rfl) (by as_aux_lemma => kernel_rfl) (by as_aux_lemma => kernel_rfl) (by as_aux_lemma => kernel_rfl) (by as_aux_lemma => kernel_rfl) (by rw [keys_ok]; rfl) (by as_aux_lemma => kernel_rfl) heard_ok enter_ok (by rw [lifts_ok]; rfl) (by rw [make_ok]; rfl) (by as_aux_lemma => kernel_rfl) (by as_aux_lemma => kernel_rfl) (by as_aux_lemma => kernel_rfl) (by as_aux_lemma => kernel_rfl)

theorem FnMostLowHigh_holds : Rows.FnMostLowHighSaid :=
  OpenClaim.holds_of_wide 18 Try.f18 rfl rfl rfl rfl rfl rfl rfl ⟨rfl, rfl, rfl, rfl, rfl⟩ rfl rfl rfl rfl rfl (by as_aux_lemma => kernel_rfl) Try.func18 FnMostLowHigh_joined
    (of_decide_eq_true (by as_aux_lemma => kernel_rfl)) (by unfold Func.isWrapper; rw [if_neg (by decide +kernel)]; exact ⟨rfl, rfl⟩)
    (fun os started H enc _ => FnMostLowHigh_lifted os started H enc)
#print axioms FnMostLowHigh_holds
end Go.Proofs.Ytnhidlhfgpoopaa
