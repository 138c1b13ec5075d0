/-
  FnAdmitRefused returns true for every code.
-/
import Derived.Test.YtnldiakjmhfodaaDrawS2
import Derived.Test.YtnldiakjmhfodaaAdmAllI
import Derived.Test.YtnldiakjmhfodaaDm
import Derived.Test.YtnldiakjmhfodaaS2T
import Derived.Test.YtnldiakjmhfodaaPackAI
import Derived.Test.YtnldiakjmhfodaaOpen
namespace Go.Proofs.Ytnldiakjmhfodaa
open Go.RowKit

set_option maxHeartbeats 1000000 in
set_option maxRecDepth 100000 in
theorem law_FnAdmitRefused (A0 : Option Addr) (code : List Int) (c0 : Nat) (w : World) (h : BS w A0 code) (hl : code.length ≤ maxLen) (hlc : code.length ≤ c0) :
    Calls Try.prog 16 #[.slice A0 code.length c0] w fun e w' => e = .returned (.bool true) ∧ Below w.heap.size w w' := by
  have hl' := hl
  unfold maxLen at hl'
  by_cases h1 : code.length ≤ 1048576
  case neg =>
    go_enter Try.func16, Try.ntmps16
    go_wp2_with fail
    go_ret
    exact ⟨rfl, Below.refl _ _⟩
  go_enter Try.func16, Try.ntmps16
  go_wp2_with fail
  refine (spec_DrawAdmitAll A0 code c0 w h hl hlc).mono ?_
  rintro e w1 ⟨A, c, ts, m, rfl, hO, hl11, hb⟩
  have hsz := own_size hO
  obtain ⟨hsz1, hsz2⟩ := hsz
  have hlm : ts.length ≤ maxLen := by unfold maxLen; omega
  clear hsz2
  obtain ⟨R, hR⟩ : ∃ R, admAll ts m = R := ⟨_, rfl⟩
  have hlen := admAll_both ts m
  rw [hR] at hlen
  obtain ⟨hx11, hr11⟩ := hlen
  have HR := Lib.hid hR
  obtain ⟨ok, hok⟩ : ∃ ok, admOk ts m = ok := ⟨_, rfl⟩
  have HK := Lib.hid hok
  clear hR hok
  obtain ⟨x, rf⟩ := R
  simp only at hx11 hr11
  go_wp2_with fail
  refine (impl_AdmitAll A ts c m _ hO.ts hlm).mono ?_
  rw [HR.out, HK.out]
  rintro e w2 ⟨A2, c2, B2', d2, rfl, o2, i2, b2⟩
  go_wp2_with fail
  refine (spec_AdmitAll A ts c m _ (hO.ts.keep b2) hlm).mono ?_
  rw [HR.out, HK.out]
  rintro e w3 ⟨A3, c3, B3', d3, rfl, o3, i3, b3⟩
  have o2 := OT_keep o2 b3
  have i2 := OI_keep i2 b3
  have B3 := bthru b2 b3
  go_wp2_with fail
  refine (laws_dmTasks A2 A3 x x c2 c3 _ o2.ts o3.ts (by omega)).mono ?_
  rintro e w4 ⟨rfl, b4⟩
  simp only [decide_true]
  have o2 := OT_keep o2 b4
  have o3 := OT_keep o3 b4
  have i2 := OI_keep i2 b4
  have i3 := OI_keep i3 b4
  have B4 := bthru B3 b4
  go_wp2_with fail
  refine (laws_dmInts B2' B3' rf rf d2 d3 _ i2.is i3.is (by omega)).mono ?_
  rintro e w5 ⟨rfl, b5⟩
  simp only [decide_true]
  have o2 := OT_keep o2 b5
  have o3 := OT_keep o3 b5
  have i2 := OI_keep i2 b5
  have i3 := OI_keep i3 b5
  have B5 := bthru B4 b5
  cases ok with
  | false =>
    go_wp2_with fail
    refine (laws_dmTasks A2 A3 x x c2 c3 _ o2.ts o3.ts (by omega)).mono ?_
    rintro e w6 ⟨rfl, b6⟩
    simp only [decide_true]
    have i2 := OI_keep i2 b6
    have i3 := OI_keep i3 b6
    go_wp2_with fail
    refine (laws_dmInts B2' B3' rf rf d2 d3 _ i2.is i3.is (by omega)).mono ?_
    rintro e w7 ⟨rfl, b7⟩
    simp only [decide_true]
    go_wp2_with fail
    go_ret
    exact ⟨rfl, bthru hb (bthru B5 (bthru b6 b7))⟩
  | true =>
    have hpol : ts.length ≤ 20 ∧ (m = 0 ∨ m = 1) := by simpa [admOk, polB] using HK.out
    have hgo : admAll ts m = admGo m ts 0 [] [] := by simp [admAll, HK.out]
    rw [HR.out] at hgo
    obtain ⟨g1, g2, g3⟩ := admGo_good (p := m) (ts := ts) (i := 0) (out := []) (ref := []) (hldBy_nil hpol.2) rfl rfl
    rw [← hgo] at g1 g2 g3
    rw [Nat.zero_add] at g2 g3
    simp only at g1 g2 g3
    have hx5 : x.length ≤ 5 := (setVld_all (hldBy_vld g1)).1
    have G2 := Lib.hid g2
    clear g1 g2 g3 hgo hpol
    go_wp2_with fail
    go_loopw [11] (fun i wr => ∃ (k : Nat) (a : Int), i = .int .i64 (k : Int) ∧ k ≤ rf.length ∧ 0 ≤ a ∧ Hid (ordB (ts.length : Int) a (rf.drop k) = true) ∧ (0 < k → ∃ y, rf[k - 1]? = some y ∧ y < a) ∧ Below w5.heap.size w5 wr) (fun i _ => rf.length - (intOf i).toNat)
    case atStart => exact ⟨0, 0, rfl, by omega, by omega, G2, fun h => by omega, Below.refl _ _⟩
    case round =>
      obtain ⟨k, a, rfl, hk, ha, hor, hpr, hbr⟩ := hrel
      by_cases hlt : k < rf.length
      · obtain ⟨b, rfl, _, hbl⟩ := OI_addr i2 (by omega)
        obtain ⟨kc, _⟩ := OI_cell i2 k rf[k] (List.getElem?_eq_getElem hlt)
        obtain ⟨q1, q2, q3⟩ := ordB_drop hlt hor.out
        have kc := (hbr.cell (p := ⟨b, k, none⟩) hbl).trans kc
        have hy : rf[k]? = some rf[k] := List.getElem?_eq_getElem hlt
        generalize rf[k] = y at kc q1 q2 q3 hy
        have Q3 := Lib.hid q3
        have HY := Lib.hid hy
        clear q3 hy
        have d1 : decide (y < 0) = false := decide_eq_false (by omega)
        have d2 : decide ((ts.length : Int) ≤ y) = false := decide_eq_false (by omega)
        cases k with
        | zero =>
          have qr : (0 : Int) < (rf.length : Int) := by omega
          rw [show (((0 : Nat) : Int)) = 0 from rfl]
          go_wp2_with fail
          go_quiet (fail)
          go_wp2_with fail
          go_roundw
          case rel => exact ⟨0 + 1, y + 1, by go_num, by omega, by omega, Q3, fun _ => ⟨y, HY.out, by omega⟩, bdr hbr _⟩
          case measure => simp [intOf]; omega
        | succ r =>
          obtain ⟨z, hz, hza⟩ := hpr (by omega)
          rw [Nat.add_sub_cancel] at hz
          obtain ⟨kz, _⟩ := OI_cell i2 r z hz
          have kz := (hbr.cell (p := ⟨b, r, none⟩) hbl).trans kz
          have hcast : (((r + 1 : Nat) : Int)) = (r : Int) + 1 := by omega
          rw [hcast] at *
          have q0 : (0 : Int) ≤ (r : Int) := by omega
          have qw : (r : Int) + 1 - 1 = (r : Int) := by omega
          have qr : (r : Int) < (rf.length : Int) := by omega
          have qp : (0 : Int) < (r : Int) + 1 := by omega
          have d3 : decide ((0 : Int) < (r : Int) + 1) = true := decide_eq_true qp
          have d4 : decide (y ≤ z) = false := decide_eq_false (by omega)
          clear hz hpr
          go_wp2_with fail
          go_quiet (fail)
          go_wp2_with fail
          go_roundw
          case rel => exact ⟨r + 1 + 1, y + 1, by go_num, by omega, by omega, Q3, fun _ => ⟨y, HY.out, by omega⟩, bdr hbr _⟩
          case measure => simp [intOf]; omega
      · go_wp2_with fail
        go_ret
        exact ⟨by first | rfl | (simp; omega), bthru hb (bthru B5 hbr)⟩

open Go.ChangeShapes Go.WideShapes Go.ChangeAt Go.WideElems Go.Deep

set_option maxRecDepth 100000 in
theorem FnAdmitRefused_lifted (os : Os) (started : os.Started) (H : Type) (enc : TypeId × Value → H) :
    ReturnsInHanded {} Try.checked os 16 .any (Rows.fnAdmitRefusedSpec.pre6 enc Try.prog Try.f16 Rows.fnAdmitRefusedRow.domain false) (Rows.fnAdmitRefusedSpec.post enc Try.prog Try.f16 false true false false) := by
  refine returnsInHanded_of_change (C := Try.checked) own started (by as_aux_lemma => kernel_rfl) Try.func16
    (ChangeSpec.witness6 (enc := enc) (C := Try.checked) false ⟨#[], #[.slice none 0 0], []⟩ 8 (by as_aux_lemma => kernel_rfl) (by as_aux_lemma => kernel_rfl) (by as_aux_lemma => kernel_rfl) (by as_aux_lemma => kernel_rfl)) ?_
  intro W base args ds gs before hval0 hW _ _
  have hval : ∀ (j : Nat) t v, Try.f16.params[j]? = some t → args[j]? = some v → Value.okWide Try.prog W .any base t v := hval0
  have hW' := hW
  obtain ⟨p, q, hA0, hV, rfl, _, _⟩ := hW
  have hA : DataW.TrodAll enc Try.prog W 0 (fun _ => true) true Try.f16.params.toList args.toList ds p := hA0
  rw [Try.params16] at hA hval
  obtain ⟨v0, d0, rfl, rfl, h0⟩ := trodAll_one hA
  obtain ⟨rfl, rfl⟩ := trodVars_none hV
  clear hA0 hval0
  simp only [List.append_nil] at hW'
  have hlt : ∀ x ∈ p, x.block < W.heap.size := fun x hx => hW'.lt x (by simpa using hx)
  have hargs : ∀ W', Below W.heap.size W W' → DataW.TrodAll enc Try.prog W' 0 (fun b => decide (b < W.heap.size)) true [41] [v0] [d0] (p) := fun W' hb =>
    trodAll_mk1 (Below.trod laidOut (by as_aux_lemma => kernel_rfl) (of_decide_eq_true (by as_aux_lemma => kernel_rfl)) h0 hb (fun x hx => hlt x (by simp [hx])))
  obtain ⟨A0, l0, c0, rfl, hlc0, hlm0, hlw0, hl0⟩ := open_kind Try.underlying41 Try.underlying5 (by as_aux_lemma => kernel_rfl) (okWide_slice Try.underlying41 (hval 0 _ v0 rfl rfl)) h0
  refine (law_FnAdmitRefused A0 l0 c0 W ⟨fun x hx => byte_wf (hlw0 x hx), hl0⟩ hlm0 hlc0).mono fun e W' ⟨he, hb⟩ => ?_
  subst he
  exact ⟨_, rfl, ⟨_, _, _, [], _, [], hW', trodAll_mk1 (shut_bool Try.underlying4 _), hargs W' hb, rfl, hb.frame _, fun h => by cases h⟩⟩

theorem FnAdmitRefused_joined : joinedFacts Try.prog 16 Try.f16 Rows.fnAdmitRefusedSpec Rows.fnAdmitRefusedRow = true :=
  joined_mk (by as_aux_lemma => kernel_rfl) laidOut mapsRowed_ok (by as_aux_lemma => kernel_rfl) (by as_aux_lemma => kernel_rfl) (by as_aux_lemma => kernel_rfl) stops_ok (by as_aux_lemma => kernel_rfl) knobs_ok (by as_aux_lemma => kernel_rfl) (by as_aux_lemma => kernel_rfl) (by as_aux_lemma => kernel_rfl) (by as_aux_lemma => kernel_rfl) (by as_aux_lemma => kernel_rfl) (by as_aux_lemma => kernel_rfl) (by as_aux_lemma => kernel_rfl) (by as_aux_lemma => kernel_rfl) (by as_aux_lemma => kernel_rfl) (by as_aux_lemma => kernel_rfl) (by as_aux_lemma => kernel_rfl) (by as_aux_lemma => kernel_rfl) (by as_aux_lemma => kernel_rfl) (by rw [keys_ok]; rfl) (by as_aux_lemma => kernel_rfl) heard_ok enter_ok (by rw [lifts_ok]; rfl) (by rw [make_ok]; rfl) (by as_aux_lemma => kernel_rfl) (by as_aux_lemma => kernel_rfl) (by as_aux_lemma => kernel_rfl) (by as_aux_lemma => kernel_rfl)

theorem FnAdmitRefused_holds : Rows.FnAdmitRefusedSaid :=
  OpenClaim.holds_of_wide 16 Try.f16 rfl rfl rfl rfl rfl rfl rfl ⟨rfl, rfl, rfl, rfl, rfl⟩ rfl rfl rfl rfl rfl (by as_aux_lemma => kernel_rfl) Try.func16 FnAdmitRefused_joined
    (of_decide_eq_true (by as_aux_lemma => kernel_rfl)) (by unfold Func.isWrapper; rw [if_neg (by decide +kernel)]; exact ⟨rfl, rfl⟩)
    (fun os started H enc _ => FnAdmitRefused_lifted os started H enc)
#print axioms FnAdmitRefused_holds
end Go.Proofs.Ytnldiakjmhfodaa
