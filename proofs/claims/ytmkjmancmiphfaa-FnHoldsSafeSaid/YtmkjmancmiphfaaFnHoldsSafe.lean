/-
  FnHoldsSafe returns true for every code.
-/
import Derived.Test.YtmkjmancmiphfaaDrawHold
import Derived.Test.YtmkjmancmiphfaaHoldsBy
import Derived.Test.YtmkjmancmiphfaaWorstI
import Derived.Test.YtmkjmancmiphfaaWorstV
import Derived.Test.YtmkjmancmiphfaaRunI
import Derived.Test.YtmkjmancmiphfaaOpen
namespace Go.Proofs.Ytmkjmancmiphfaa
open Go.RowKit

theorem virt_fac {l : List Tk} (h : hldVirt l = true) : facB l = true := by
  unfold hldVirt at h
  unfold facB
  cases h1 : hldPlain l with
  | true => rfl
  | false =>
    rw [h1, Bool.false_or, Bool.and_eq_true] at h
    rw [h.1]
    rfl
theorem hold_pol {l : List Tk} {p : Int} (h : hldBy l p = true) : (p = 0 ∨ p = 1) ∧ (p = 1 → facB l = true) ∧ (p = 1 → facN l = (facQ l).num ∧ facD l = ((facQ l).den : Int)) := by
  unfold hldBy at h
  by_cases h0 : p = 0
  · exact ⟨.inl h0, fun h1 => by omega, fun h1 => by omega⟩
  · rw [if_neg h0] at h
    by_cases h1 : p = 1
    · rw [if_pos h1] at h
      have := virt_fac h
      exact ⟨.inr h1, fun _ => this, fun _ => by simp [facN, facD, this]⟩
    · rw [if_neg h1] at h
      cases h
set_option maxHeartbeats 4000000 in
set_option maxRecDepth 100000 in
theorem law_FnHoldsSafe (A0 : Option Addr) (code : List Int) (c0 : Nat) (w : World) (h : BS w A0 code) (hl : code.length ≤ maxLen) (hlc : code.length ≤ c0) :
    Calls Try.prog 3 #[.slice A0 code.length c0] w fun e w' => e = .returned (.bool true) ∧ Below w.heap.size w w' := by
  have hl' := hl
  unfold maxLen at hl'
  by_cases h1 : code.length ≤ 1048576
  case neg =>
    go_enter Try.func3, Try.ntmps3
    go_wp2_with fail
    go_ret
    exact ⟨rfl, Below.refl _ _⟩
  go_enter Try.func3, Try.ntmps3
  go_wp2_with fail
  refine (spec_DrawHoldsBy A0 code c0 w h hl hlc).mono ?_
  rintro e w1 ⟨A, c, l, m, rfl, hO, hl5, m0, m2, hb⟩
  have hsz := own_size hO
  obtain ⟨hsz1, hsz2⟩ := hsz
  have hlm : l.length ≤ maxLen := by unfold maxLen; omega
  clear hsz2
  go_wp2_with fail
  refine (impl_HoldsBy A l c m _ hO.ts hlm hsz1).mono ?_
  rintro e w2 ⟨rfl, b2⟩
  go_wp2_with fail
  refine (spec_HoldsBy A l c m _ (hO.ts.keep b2) hlm).mono ?_
  rintro e w3 ⟨rfl, b3⟩
  have B3 := bthru b2 b3
  cases hc : hldBy l m with
  | false =>
    go_wp2_with fail
    refine (spec_HoldsBy A l c m _ (hO.ts.keep B3) hlm).mono ?_
    rw [hc]
    rintro e w4 ⟨rfl, b4⟩
    go_wp2_with fail
    go_ret
    exact ⟨rfl, bthru hb (bthru B3 b4)⟩
  | true =>
    have hS := hldBy_vld hc
    obtain ⟨hpol, hfb, hnd⟩ := hold_pol hc
    obtain ⟨js, ok, hj, hw, hok, hlen⟩ : ∃ js ok, worstL l 20 true = js ∧ jobsV l js = true ∧ (worst l 20 true).isSome = ok ∧ js.length ≤ 60 := by
      cases hw : worst l 20 true with
      | none => exact ⟨[], false, by simp [worstL, hw], jobsV_nil hS, rfl, by simp⟩
      | some js =>
        have hv := worst_valid hw
        have hv2 := hv
        simp only [jobsV, Bool.and_eq_true, decide_eq_true_eq] at hv2
        exact ⟨js, true, by simp [worstL, hw], hv, rfl, hv2.1.2⟩
    have hsafe := hold_safe (num := facN l) (den := facD l) hc hw hnd 40
    have hI := minv (num := facN l) (den := facD l) (pol := m) (apart_of hw) (fun k hk => tkAt_vld hS hk) 40
    have hln := mrun_len (l := l) (num := facN l) (den := facD l) (pol := m) hlen 40
    have HC := Lib.hid hc
    have HJ := Lib.hid hj
    have HOK := Lib.hid hok
    have HS := Lib.hid hsafe
    have HL := Lib.hid hln.1
    have HEL := Lib.hid hI.enL
    have HW := Lib.hid hw
    have HPOL := Lib.hid hpol
    have HFB := Lib.hid hfb
    clear hc hj hok hsafe hln hI hnd hS hw hpol hfb
    go_wp2_with fail
    refine (impl_WorstJobs A l c 20 true _ (hO.ts.keep B3)).mono ?_
    rw [HJ.out, HOK.out]
    rintro e w4 ⟨A4, c4, rfl, o4, b4⟩
    have B4 := bthru B3 b4
    have s4 := own_size o4
    have hcast : (((40 : Nat) : Int)) = 40 := rfl
    go_wp2_with fail
    refine (impl_RunJobs HW.out m HPOL.out HFB.out 40 (by omega) A c A4 c4 w4 (hO.ts.keep B4) o4.js hlm s4.1 (by unfold maxLen; omega)).mono ?_
    rintro e w5 ⟨ge, ce, gt, ct, gs, cs, he, R5, b5⟩
    have B5 := bthru B4 b5
    have o5 : OI w4.heap.size w5 (some ⟨ge, 0, none⟩) ce (mrun l js (facN l) (facD l) m 40).en := R5.own _ (List.mem_cons_self ..)
    have O4 := OJ_keep o4 b5
    rw [HEL.out, HL.out] at he
    subst he
    clear R5
    generalize (mrun l js (facN l) (facD l) m 40).sw.length = ns
    generalize (mrun l js (facN l) (facD l) m 40).hi = hi
    cases ok with
    | false =>
      go_wp2_with fail
      go_ret
      exact ⟨rfl, bal (bthru hb B5) _⟩
    | true =>
      have hT5 := heap_alloc_new w5 (.cells #[sl ge js.length ce, sl gt 40 ct, sl gs ns cs, .bool hi] RT (0, 0))
      have b6 := bal (Below.refl w5.heap.size w5) (.cells #[sl ge js.length ce, sl gt 40 ct, sl gs ns cs, .bool hi] RT (0, 0))
      go_upto_region 9 with fail
      generalize World.alloc w5 _ = w6 at hT5 b6 ⊢
      generalize w5.heap.size = nR at hT5 ⊢
      have z0 : w6.cell? ⟨nR, 0, none⟩ = some (sl ge js.length ce) := (Lib.cell_of_heap hT5 0).trans rfl
      have z1 : w6.cell? ⟨nR, 1, none⟩ = some (sl gt 40 ct) := (Lib.cell_of_heap hT5 1).trans rfl
      have z2 : w6.cell? ⟨nR, 2, none⟩ = some (sl gs ns cs) := (Lib.cell_of_heap hT5 2).trans rfl
      have z3 : w6.cell? ⟨nR, 3, none⟩ = some (.bool hi) := (Lib.cell_of_heap hT5 3).trans rfl
      have B6 := bthru B5 b6
      clear hT5
      go_wp2_with fail
      refine (impl_MissesOf A l c A4 js c4 (some ⟨ge, 0, none⟩) (mrun l js (facN l) (facD l) m 40).en ce (some ⟨gt, 0, none⟩) 40 ct (some ⟨gs, 0, none⟩) ns cs hi w6 (hO.ts.keep B6) (O4.js.keep b6) (o5.is.keep b6) HEL.out s4.1 (by unfold maxLen; omega) (by omega) HW.out).mono ?_
      rw [HS.out]
      rintro e w7 ⟨A7, c7, rfl, o7, b7⟩
      go_wp2_with fail
      go_ret
      exact ⟨rfl, bthru hb (bthru B6 b7)⟩

open Go.ChangeShapes Go.WideShapes Go.ChangeAt Go.WideElems Go.Deep

set_option maxRecDepth 100000 in
theorem FnHoldsSafe_lifted (os : Os) (started : os.Started) (H : Type) (enc : TypeId × Value → H) :
    ReturnsInHanded {} Try.checked os 3 .any (Rows.fnHoldsSafeSpec.pre6 enc Try.prog Try.f3 Rows.fnHoldsSafeRow.domain false) (Rows.fnHoldsSafeSpec.post enc Try.prog Try.f3 false true false false) := by
  refine returnsInHanded_of_change (C := Try.checked) own started (by as_aux_lemma => kernel_rfl) Try.func3
    (ChangeSpec.witness6 (enc := enc) (C := Try.checked) false ⟨#[], #[.slice none 0 0], []⟩ 8 (by as_aux_lemma => kernel_rfl) (by as_aux_lemma => kernel_rfl) (by as_aux_lemma => kernel_rfl) (by as_aux_lemma => kernel_rfl)) ?_
  intro W base args ds gs before hval0 hW _ _
  have hval : ∀ (j : Nat) t v, Try.f3.params[j]? = some t → args[j]? = some v → Value.okWide Try.prog W .any base t v := hval0
  have hW' := hW
  obtain ⟨p, q, hA0, hV, rfl, _, _⟩ := hW
  have hA : DataW.TrodAll enc Try.prog W 0 (fun _ => true) true Try.f3.params.toList args.toList ds p := hA0
  rw [Try.params3] at hA hval
  obtain ⟨v0, d0, rfl, rfl, h0⟩ := trodAll_one hA
  obtain ⟨rfl, rfl⟩ := trodVars_none hV
  clear hA0 hval0
  simp only [List.append_nil] at hW'
  have hlt : ∀ x ∈ p, x.block < W.heap.size := fun x hx => hW'.lt x (by simpa using hx)
  have hargs : ∀ W', Below W.heap.size W W' → DataW.TrodAll enc Try.prog W' 0 (fun b => decide (b < W.heap.size)) true [22] [v0] [d0] (p) := fun W' hb =>
    trodAll_mk1 (Below.trod laidOut (by as_aux_lemma => kernel_rfl) (of_decide_eq_true (by as_aux_lemma => kernel_rfl)) h0 hb (fun x hx => hlt x (by simp [hx])))
  obtain ⟨A0, l0, c0, rfl, hlc0, hlm0, hlw0, hl0⟩ := open_kind Try.underlying22 Try.underlying5 (by as_aux_lemma => kernel_rfl) (okWide_slice Try.underlying22 (hval 0 _ v0 rfl rfl)) h0
  refine (law_FnHoldsSafe A0 l0 c0 W ⟨fun x hx => byte_wf (hlw0 x hx), hl0⟩ hlm0 hlc0).mono fun e W' ⟨he, hb⟩ => ?_
  subst he
  exact ⟨_, rfl, ⟨_, _, _, [], _, [], hW', trodAll_mk1 (shut_bool Try.underlying4 _), hargs W' hb, rfl, hb.frame _, fun h => by cases h⟩⟩

theorem FnHoldsSafe_joined : joinedFacts Try.prog 3 Try.f3 Rows.fnHoldsSafeSpec Rows.fnHoldsSafeRow = true :=
  joined_mk (by as_aux_lemma => kernel_rfl) laidOut mapsRowed_ok (by as_aux_lemma => kernel_rfl) (by as_aux_lemma => kernel_rfl) (by as_aux_lemma => kernel_rfl) stops_ok (by as_aux_lemma => kernel_rfl) knobs_ok (by as_aux_lemma => kernel_rfl) (by as_aux_lemma => kernel_rfl) (by as_aux_lemma => kernel_rfl) (by as_aux_lemma => kernel_rfl) (by as_aux_lemma => kernel_rfl) (by as_aux_lemma => kernel_rfl) (by as_aux_lemma => kernel_rfl) (by as_aux_lemma => kernel_rfl) (by as_aux_lemma => kernel_rfl) (by as_aux_lemma => kernel_rfl) (by as_aux_lemma => kernel_rfl) (by as_aux_lemma => kernel_rfl) (by as_aux_lemma => kernel_rfl) (by rw [keys_ok]; rfl) (by as_aux_lemma => kernel_rfl) heard_ok enter_ok (by rw [lifts_ok]; rfl) (by rw [make_ok]; rfl) (by as_aux_lemma => kernel_rfl) (by as_aux_lemma => kernel_rfl) (by as_aux_lemma => kernel_rfl) (by as_aux_lemma => kernel_rfl)

theorem FnHoldsSafe_holds : Rows.FnHoldsSafeSaid :=
  OpenClaim.holds_of_wide 3 Try.f3 rfl rfl rfl rfl rfl rfl rfl ⟨rfl, rfl, rfl, rfl, rfl⟩ rfl rfl rfl rfl rfl (by as_aux_lemma => kernel_rfl) Try.func3 FnHoldsSafe_joined
    (of_decide_eq_true (by as_aux_lemma => kernel_rfl)) (by unfold Func.isWrapper; rw [if_neg (by decide +kernel)]; exact ⟨rfl, rfl⟩)
    (fun os started H enc _ => FnHoldsSafe_lifted os started H enc)
#print axioms FnHoldsSafe_holds
end Go.Proofs.Ytmkjmancmiphfaa
