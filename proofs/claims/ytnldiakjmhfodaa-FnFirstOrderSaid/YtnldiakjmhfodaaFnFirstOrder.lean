/-
  FnFirstOrder returns true for every code.
-/
import Derived.Test.YtnldiakjmhfodaaDrawP2
import Derived.Test.YtnldiakjmhfodaaPackFS
import Derived.Test.YtnldiakjmhfodaaDm
import Derived.Test.YtnldiakjmhfodaaS2T
import Derived.Test.YtnldiakjmhfodaaPackAI
import Derived.Test.YtnldiakjmhfodaaOpen
namespace Go.Proofs.Ytnldiakjmhfodaa
open Go.RowKit

set_option maxHeartbeats 1000000 in
set_option maxRecDepth 100000 in
theorem law_FnFirstOrder (A0 : Option Addr) (code : List Int) (c0 : Nat) (w : World) (h : BS w A0 code) (hl : code.length ≤ maxLen) (hlc : code.length ≤ c0) :
    Calls Try.prog 9 #[.slice A0 code.length c0] w fun e w' => e = .returned (.bool true) ∧ Below w.heap.size w w' := by
  have hl' := hl
  unfold maxLen at hl'
  by_cases h1 : code.length ≤ 1048576
  case neg =>
    go_enter Try.func9, Try.ntmps9
    go_wp2_with fail
    go_ret
    exact ⟨rfl, Below.refl _ _⟩
  go_enter Try.func9, Try.ntmps9
  go_wp2_with fail
  refine (spec_DrawPackFirst A0 code c0 w h hl hlc).mono ?_
  rintro e w1 ⟨A, c, l, n, m, rfl, hO, hl5, n0, n4, m0, m2, hb⟩
  have hsz := own_size hO
  obtain ⟨hsz1, hsz2⟩ := hsz
  have hlm : l.length ≤ maxLen := by unfold maxLen; omega
  clear hsz2

  obtain ⟨ws, hws⟩ : ∃ ws, ffL l n m = ws := ⟨_, rfl⟩
  have hwl : ws.length ≤ 5 := by rw [← hws]; exact ffL_le l n m
  have HW := Lib.hid hws
  obtain ⟨ok, hok⟩ : ∃ ok, (ffit l n m).isSome = ok := ⟨_, rfl⟩
  have HK := Lib.hid hok
  clear hws hok
  go_wp2_with fail
  refine (impl_PackFirst A l c n m _ hO.ts hlm hsz1).mono ?_
  rw [HW.out, HK.out]
  rintro e w2 ⟨A2, c2, rfl, o2, b2⟩
  go_wp2_with fail
  refine (spec_PackFirst A l c n m _ (hO.ts.keep b2) hlm hsz1).mono ?_
  rw [HW.out, HK.out]
  rintro e w3 ⟨A3, c3, rfl, o3, b3⟩
  have o2 := OI_keep o2 b3
  have B3 := bthru b2 b3
  go_wp2_with fail
  refine (laws_dmInts A2 A3 ws ws c2 c3 _ o2.is o3.is (by omega)).mono ?_
  rintro e w4 ⟨rfl, b4⟩
  simp only [decide_true]
  have o2 := OI_keep o2 b4
  have o3 := OI_keep o3 b4
  have B4 := bthru B3 b4

  cases hr : ffit l n m with
  | none =>
    have e1 : ok = false := by rw [← HK.out, hr]; rfl
    have e2 : ws = [] := by rw [← HW.out, ffL, hr]; rfl
    subst e1
    subst e2
    clear hr
    go_wp2_with fail
    refine (laws_dmInts A2 A3 [] [] c2 c3 _ o2.is o3.is (by simp)).mono ?_
    rintro e w5 ⟨rfl, b5⟩
    simp only [decide_true]
    go_wp2_with fail
    go_ret
    exact ⟨rfl, bthru hb (bthru B4 b5)⟩
  | some ws' =>
    have e1 : ok = true := by rw [← HK.out, hr]; rfl
    have e2 : ws' = ws := by rw [← HW.out, ffL, hr]; rfl
    subst e1
    subst e2
    obtain ⟨_, h1n, _, _, _, hk⟩ := ffit_some hr
    have HIN := Lib.hid (pkH_ints hk).2
    have hcan := Lib.hid (ffit_can hr)
    clear hr hk
    go_wp2_with fail
    go_loopw [10, 11] (fun v i wr => ∃ (k : Nat) (mo : Int), i = .int .i64 (k : Int) ∧ v = .int .i64 mo ∧ k ≤ ws'.length ∧ -1 ≤ mo ∧ mo < n ∧ Hid (canB mo (ws'.drop k) = true) ∧ Below w4.heap.size w4 wr) (fun _ i _ => ws'.length - (intOf i).toNat)
    case atStart => exact ⟨0, -1, rfl, rfl, by omega, by omega, by omega, hcan, Below.refl _ _⟩
    case round =>
      obtain ⟨k, mo, rfl, rfl, hk, hm1, hmn, hcb, hbr⟩ := hrel
      by_cases hlt : k < ws'.length
      · obtain ⟨b, rfl, _, hbl⟩ := OI_addr o2 (by omega)
        obtain ⟨kc, _⟩ := OI_cell o2 k ws'[k] (List.getElem?_eq_getElem hlt)
        obtain ⟨g1, g2⟩ := canB_drop hlt hcb.out
        have g3 := HIN.out ws'[k] (List.getElem_mem hlt)
        have kc := (hbr.cell (p := ⟨b, k, none⟩) hbl).trans kc
        generalize ws'[k] = x at kc g1 g2 g3
        by_cases hx : mo < x
        · rw [if_pos hx] at g2
          have G2 := Lib.hid g2
          clear g2
          go_wp2_with fail
          go_roundw
          case rel => exact ⟨k + 1, x, by go_num, rfl, by omega, by omega, by omega, G2, hbr⟩
          case measure => simp [intOf]; omega
        · rw [if_neg hx] at g2
          have G2 := Lib.hid g2
          clear g2
          go_wp2_with fail
          go_roundw
          case rel => exact ⟨k + 1, mo, by go_num, rfl, by omega, by omega, by omega, G2, hbr⟩
          case measure => simp [intOf]; omega

      · go_wp2_with fail
        go_ret
        exact ⟨rfl, bthru hb (bthru B4 hbr)⟩

open Go.ChangeShapes Go.WideShapes Go.ChangeAt Go.WideElems Go.Deep

set_option maxRecDepth 100000 in
theorem FnFirstOrder_lifted (os : Os) (started : os.Started) (H : Type) (enc : TypeId × Value → H) :
    ReturnsInHanded {} Try.checked os 9 .any (Rows.fnFirstOrderSpec.pre6 enc Try.prog Try.f9 Rows.fnFirstOrderRow.domain false) (Rows.fnFirstOrderSpec.post enc Try.prog Try.f9 false true false false) := by
  refine returnsInHanded_of_change (C := Try.checked) own started (by as_aux_lemma => kernel_rfl) Try.func9
    (ChangeSpec.witness6 (enc := enc) (C := Try.checked) false ⟨#[], #[.slice none 0 0], []⟩ 8 (by as_aux_lemma => kernel_rfl) (by as_aux_lemma => kernel_rfl) (by as_aux_lemma => kernel_rfl) (by as_aux_lemma => kernel_rfl)) ?_
  intro W base args ds gs before hval0 hW _ _
  have hval : ∀ (j : Nat) t v, Try.f9.params[j]? = some t → args[j]? = some v → Value.okWide Try.prog W .any base t v := hval0
  have hW' := hW
  obtain ⟨p, q, hA0, hV, rfl, _, _⟩ := hW
  have hA : DataW.TrodAll enc Try.prog W 0 (fun _ => true) true Try.f9.params.toList args.toList ds p := hA0
  rw [Try.params9] at hA hval
  obtain ⟨v0, d0, rfl, rfl, h0⟩ := trodAll_one hA
  obtain ⟨rfl, rfl⟩ := trodVars_none hV
  clear hA0 hval0
  simp only [List.append_nil] at hW'
  have hlt : ∀ x ∈ p, x.block < W.heap.size := fun x hx => hW'.lt x (by simpa using hx)
  have hargs : ∀ W', Below W.heap.size W W' → DataW.TrodAll enc Try.prog W' 0 (fun b => decide (b < W.heap.size)) true [41] [v0] [d0] (p) := fun W' hb =>
    trodAll_mk1 (Below.trod laidOut (by as_aux_lemma => kernel_rfl) (of_decide_eq_true (by as_aux_lemma => kernel_rfl)) h0 hb (fun x hx => hlt x (by simp [hx])))
  obtain ⟨A0, l0, c0, rfl, hlc0, hlm0, hlw0, hl0⟩ := open_kind Try.underlying41 Try.underlying5 (by as_aux_lemma => kernel_rfl) (okWide_slice Try.underlying41 (hval 0 _ v0 rfl rfl)) h0
  refine (law_FnFirstOrder A0 l0 c0 W ⟨fun x hx => byte_wf (hlw0 x hx), hl0⟩ hlm0 hlc0).mono fun e W' ⟨he, hb⟩ => ?_
  subst he
  exact ⟨_, rfl, ⟨_, _, _, [], _, [], hW', trodAll_mk1 (shut_bool Try.underlying4 _), hargs W' hb, rfl, hb.frame _, fun h => by cases h⟩⟩

theorem FnFirstOrder_joined : joinedFacts Try.prog 9 Try.f9 Rows.fnFirstOrderSpec Rows.fnFirstOrderRow = true :=
  joined_mk (by as_aux_lemma => kernel_rfl) laidOut mapsRowed_ok (by as_aux_lemma => kernel_rfl) (by as_aux_lemma => kernel_rfl) (by as_aux_lemma => kernel_rfl) stops_ok (by as_aux_lemma => kernel_rfl) knobs_ok (by as_aux_lemma => kernel_rfl) (by as_aux_lemma => kernel_rfl) (by as_aux_lemma => kernel_rfl) (by as_aux_lemma => kernel_rfl) (by as_aux_lemma => kernel_rfl) (by as_aux_lemma => kernel_rfl) (by as_aux_lemma => kernel_rfl) (by as_aux_lemma => kernel_rfl) (by as_aux_lemma => kernel_rfl) (by as_aux_lemma => kernel_rfl) (by as_aux_lemma => kernel_rfl) (by as_aux_lemma => kernel_rfl) (by as_aux_lemma => kernel_rfl) (by rw [keys_ok]; rfl) (by as_aux_lemma => kernel_rfl) heard_ok enter_ok (by rw [lifts_ok]; rfl) (by rw [make_ok]; rfl) (by as_aux_lemma => kernel_rfl) (by as_aux_lemma => kernel_rfl) (by as_aux_lemma => kernel_rfl) (by as_aux_lemma => kernel_rfl)

theorem FnFirstOrder_holds : Rows.FnFirstOrderSaid :=
  OpenClaim.holds_of_wide 9 Try.f9 rfl rfl rfl rfl rfl rfl rfl ⟨rfl, rfl, rfl, rfl, rfl⟩ rfl rfl rfl rfl rfl (by as_aux_lemma => kernel_rfl) Try.func9 FnFirstOrder_joined
    (of_decide_eq_true (by as_aux_lemma => kernel_rfl)) (by unfold Func.isWrapper; rw [if_neg (by decide +kernel)]; exact ⟨rfl, rfl⟩)
    (fun os started H enc _ => FnFirstOrder_lifted os started H enc)
#print axioms FnFirstOrder_holds
end Go.Proofs.Ytnldiakjmhfodaa
