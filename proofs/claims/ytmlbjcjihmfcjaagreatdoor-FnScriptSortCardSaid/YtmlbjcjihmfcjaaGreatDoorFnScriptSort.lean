/-
  FnScriptSort returns true for every code.
-/
import Derived.Test.YtmlbjcjihmfcjaaGreatDoorDrawL
import Derived.Test.YtmlbjcjihmfcjaaGreatDoorDm
import Derived.Test.YtmlbjcjihmfcjaaGreatDoorSortI
import Derived.Test.YtmlbjcjihmfcjaaGreatDoorWords
import Derived.Test.YtmlbjcjihmfcjaaGreatDoorDoor
import Derived.Test.YtmlbjcjihmfcjaaGreatDoorOpen
import Derived.Test.YtmlbjcjihmfcjaaGreatDoorTie
import Derived.Test.YtmlbjcjihmfcjaaGreatDoorCards
namespace Go.Proofs.YtmlbjcjihmfcjaaGreatDoor
open Go.RowKit

set_option maxHeartbeats 4000000 in
set_option maxRecDepth 100000 in
theorem plain_sort (s : St) (_hl : s.l.length ≤ maxLen) (ho : s.out.length ≤ 700000) : PlainIs [115, 111, 114, 116] s ⟨sortD s.l, 0, [], s.pol, s.out ++ (fmtSet (sortD s.l) ++ [10])⟩ := by
  intro B b w hM D hBw
  have D0 := D
  obtain ⟨A, c, jv, c0, c1, c2, f0, f1, f2, hO, hlc⟩ := D0.cells
  go_enter Tryz.func172, Tryz.ntmps172
  go_wp2_with fail
  refine (impl_SortDue A s.l c _ hO.ts).mono ?_
  rintro e w1 ⟨A1, d1, rfl, o1, b1⟩
  have D1 := D.keep b1
  have F1 := (Frm.refl B b w).thru hBw b1
  go_wp2_with fail
  refine (desk_setYes D1 A1 _ d1 (own_base o1 hBw) (by omega) (Nat.le_trans hBw b1.size)).mono ?_
  rintro e w2 ⟨rfl, D2, F2⟩
  go_wp2_with fail
  go_ret
  exact ⟨rfl, D2, F1.trans F2⟩

set_option maxHeartbeats 4000000 in
set_option maxRecDepth 100000 in
theorem law_FnScriptSort (A0 : Option Addr) (code : List Int) (c0 : Nat) (w : World) (h : BS w A0 code) (hl : code.length ≤ maxLen) (hlc : code.length ≤ c0) (hM : Mx w.heap.size w) :
    Calls Tryz.prog 6 #[.slice A0 code.length c0] w fun e w' => e = .returned (.bool true) ∧ Below w.heap.size w w' := by
  have hl' := hl
  unfold maxLen at hl'
  by_cases h1 : code.length ≤ 1048576
  case neg =>
    go_enter Tryz.func6, Tryz.ntmps6
    go_wp2_with fail
    go_ret
    exact ⟨rfl, Below.refl _ _⟩
  go_enter Tryz.func6, Tryz.ntmps6
  go_wp2_with fail
  refine (spec_DrawSortDue A0 code c0 w h hl hlc).mono ?_
  rintro e w1 ⟨A, c, l, rfl, hO, hl6, hb⟩
  have hsz := own_size hO
  obtain ⟨hsz1, hsz2⟩ := hsz
  have hlm : l.length ≤ maxLen := by unfold maxLen; omega
  clear hsz2
  obtain ⟨F, hF⟩ : ∃ F, fmtSet l = F := ⟨_, rfl⟩
  have HFl : F.length ≤ 510 := by rw [← hF]; exact fmtSet_le _
  have HF10 : (10 : UInt8) ∉ F := by rw [← hF]; exact fmtSet_no _
  have HF := Lib.hid hF
  clear hF
  obtain ⟨x, hx⟩ : ∃ x, sortD l = x := ⟨_, rfl⟩
  have hxl : x.length ≤ 6 := by rw [← hx]; have := sortD_le l; omega
  have HX := Lib.hid hx
  clear hx
  go_wp2_with fail
  refine (impl_SortDue A l c _ hO.ts).mono ?_
  rw [HX.out]
  rintro e w2 ⟨A2, c2, rfl, o2, b2⟩
  go_wp2_with fail
  refine (spec_SortDue A l c _ (hO.ts.keep b2) hlm).mono ?_
  rw [HX.out]
  rintro e w3 ⟨A3, c3, rfl, o3, b3⟩
  have B3 := bthru b2 b3
  have o2 := OT_keep o2 b3
  go_wp2_with fail
  refine (laws_dmTasks A2 A3 x x c2 c3 _ o2.ts o3.ts (by omega)).mono ?_
  rintro e w4 ⟨rfl, b4⟩
  simp only [decide_true]
  have B4 := bthru B3 b4
  have o2 := OT_keep o2 b4
  cases hS : setVld l with
  | false =>
    go_wp2_with fail
    refine (impl_SetValid A l c _ (hO.ts.keep B4)).mono ?_
    rw [hS]
    rintro e w5 ⟨rfl, b5⟩
    have B5 := bthru B4 b5
    have o2 := OT_keep o2 b5
    go_wp2_with fail
    refine (spec_SortDue A l c _ (hO.ts.keep B5) hlm).mono ?_
    rw [HX.out]
    rintro e w6 ⟨A6, c6, rfl, o6, b6⟩
    have B6 := bthru B5 b6
    have o2 := OT_keep o2 b6
    go_wp2_with fail
    refine (laws_dmTasks A2 A6 x x c2 c6 _ o2.ts o6.ts (by omega)).mono ?_
    rintro e w7 ⟨rfl, b7⟩
    simp only [decide_true]
    go_wp2_with fail
    go_ret
    exact ⟨rfl, bthru hb (bthru B6 b7)⟩
  | true =>
    have hT := text_tasks l hS
    rw [HF.out] at hT
    have hW : ∀ o : List UInt8, o.length ≤ 700000 → PlainIs [115, 111, 114, 116] ⟨l, 0, [], 0, o⟩ ⟨sortD l, 0, [], 0, o ++ (fmtSet (sortD l) ++ [10])⟩ := fun o ho => plain_sort ⟨l, 0, [], 0, o⟩ hlm ho
    rw [HX.out] at hW
    obtain ⟨G, hG⟩ : ∃ G, fmtSet x = G := ⟨_, rfl⟩
    have HGl : G.length ≤ 510 := by rw [← hG]; exact fmtSet_le _
    have HG10 : (10 : UInt8) ∉ G := by rw [← hG]; exact fmtSet_no _
    have HG := Lib.hid hG
    clear hG
    rw [HG.out] at hW
    have HS := Lib.hid hS
    clear hS
    go_wp2_with fail
    refine (impl_SetValid A l c _ (hO.ts.keep B4)).mono ?_
    rw [HS.out]
    rintro e w5 ⟨rfl, b5⟩
    have B5 := bthru B4 b5
    have o2 := OT_keep o2 b5
    go_wp2_with fail
    refine (impl_FormatSet A l c _ (hO.ts.keep B5)).mono ?_
    rw [HF.out]
    rintro e w6 ⟨rfl, b6⟩
    have B6 := bthru B5 b6
    have o2 := OT_keep o2 b6
    have hp : pieces [10] (([116, 97, 115, 107, 115, 32] ++ F) ++ [10] ++ (([115, 111, 114, 116]) ++ [10] ++ ([]))) = [[116, 97, 115, 107, 115, 32] ++ F, [115, 111, 114, 116], []] := by
      rw [pieces_app 10 [] _ _ (by simp [HF10]), pieces_app 10 [] _ _ (by decide), pieces_no 10 [] [] (by simp)]
    have hC : Chain [[116, 97, 115, 107, 115, 32] ++ F, [115, 111, 114, 116], []] St0 ⟨x, 0, [], 0, St0.out ++ (F ++ [10]) ++ (G ++ [10])⟩ := by
      refine .step (by simp) (by simp [St0] <;> omega) (do_text (x := [116, 97, 115, 107, 115]) (by decide) (by simp <;> omega) (hT _ (by simp [St0] <;> omega))) ?_
      refine .step (by simp) (by simp [St0] <;> omega) (do_plain (by decide) (by simp) (hW _ (by simp [St0] <;> omega))) ?_
      exact .skip (.nil _)
    go_wp2_with fail
    refine (impl_RunScript _ _ (((ByteArray.mk F.toArray ++ ByteArray.mk #[10]) ++ ByteArray.mk G.toArray) ++ ByteArray.mk #[10]) ?hT _ hp _ ?hR _ (by simp <;> omega) (by simp) hC (by simp) ((hM.keep (bthru hb B6)).up (Below.size (bthru hb B6)))).mono ?_
    case hT => simp only [mk_app]; simp
    case hR => simp only [mk_app]; simp [St0]
    rintro e w7 ⟨rfl, b7⟩
    have B7 := bthru B6 b7
    have o2 := OT_keep o2 b7
    go_wp2_with fail
    refine (impl_FormatSet A l c _ (hO.ts.keep B7)).mono ?_
    rw [HF.out]
    rintro e w8 ⟨rfl, b8⟩
    have B8 := bthru B7 b8
    have o2 := OT_keep o2 b8
    go_wp2_with fail
    refine (impl_FormatSet A2 x c2 _ o2.ts).mono ?_
    rw [HG.out]
    rintro e w9 ⟨rfl, b9⟩
    go_wp2_with fail
    go_ret
    exact ⟨rfl, bthru hb (bthru B8 b9)⟩

open Go.ChangeShapes Go.WideShapes Go.ChangeAt Go.WideElems Go.Deep

set_option maxRecDepth 100000 in
set_option maxHeartbeats 4000000 in
theorem FnScriptSort_lifted (os : Os) (started : os.Started) (H : Type) (enc : TypeId × Value → H) :
    ReturnsInHanded {} Tryz.checked os 6 .any (fun w args => (Rows.fnScriptSortSpec.pre enc Tryz.prog Tryz.f6 [] false w args ∧ laidMetH Tryz.prog Rows.fnScriptSortRow.laid w) ∧ sizedMet enc Tryz.prog Tryz.f6 (OpenSpec.ofChange Rows.fnScriptSortSpec) false w args) (Rows.fnScriptSortSpec.post enc Tryz.prog Tryz.f6 false true false false) := by
  refine returns_row (C := Tryz.checked) (X := fun w _ => laidMetH Tryz.prog Rows.fnScriptSortRow.laid w) (fun _ _ _ hh h => h.of_heap hh) own started (by as_aux_lemma => kernel_rfl) Tryz.func6
    (ChangeSpec.witness_shaped (enc := enc) (C := Tryz.checked) (os := os) (X := fun w _ => laidMetH Tryz.prog Rows.fnScriptSortRow.laid w) false (World.laidAll Tryz.prog os Rows.fnScriptSortRow.laid) #[.slice none 0 0] 8 (World.laidAll_os _ _ _) (shapedS os) (by as_aux_lemma => kernel_rfl) (by as_aux_lemma => kernel_rfl) (by as_aux_lemma => kernel_rfl) (metS os _)) ?_
  intro W base args ds gs before hval0 hW hL hsh
  have hM : Mx W.heap.size W := mx_of hL hsh (by as_aux_lemma => rfl)
  have hval : ∀ (j : Nat) t v, Tryz.f6.params[j]? = some t → args[j]? = some v → Value.okWide Tryz.prog W .any base t v := hval0
  have hW' := hW
  obtain ⟨p, q, hA0, hV, rfl, _, _⟩ := hW
  have hA : DataW.TrodAll enc Tryz.prog W 0 (fun _ => true) true Tryz.f6.params.toList args.toList ds p := hA0
  rw [Tryz.params6] at hA hval
  obtain ⟨v0, d0, rfl, rfl, h0⟩ := trodAll_one hA
  obtain ⟨rfl, rfl⟩ := trodVars_none hV
  clear hA0 hval0
  simp only [List.append_nil] at hW'
  have hlt : ∀ x ∈ p, x.block < W.heap.size := fun x hx => hW'.lt x (by simpa using hx)
  have hargs : ∀ W', Below W.heap.size W W' → DataW.TrodAll enc Tryz.prog W' 0 (fun b => decide (b < W.heap.size)) true [22] [v0] [d0] (p) := fun W' hb =>
    trodAll_mk1 (Below.trod laidOut (by as_aux_lemma => kernel_rfl) (of_decide_eq_true (by as_aux_lemma => kernel_rfl)) h0 hb (fun x hx => hlt x (by simp [hx])))
  obtain ⟨A0, l0, c0, rfl, hlc0, hlm0, hlw0, hl0⟩ := open_kind Tryz.underlying22 Tryz.underlying5 (by as_aux_lemma => kernel_rfl) (okWide_slice Tryz.underlying22 (hval 0 _ v0 rfl rfl)) h0
  refine (law_FnScriptSort A0 l0 c0 W ⟨fun x hx => byte_wf (hlw0 x hx), hl0⟩ hlm0 hlc0 hM).mono fun e W' ⟨he, hb⟩ => ?_
  subst he
  exact ⟨_, rfl, ⟨_, _, _, [], _, [], hW', trodAll_mk1 (shut_bool Tryz.underlying4 _), hargs W' hb, rfl, hb.frame _, fun h => by cases h⟩⟩

set_option maxHeartbeats 4000000 in
theorem FnScriptSort_joined : joinedFacts Tryz.prog 6 Tryz.f6 Rows.fnScriptSortSpec Rows.fnScriptSortRow = true :=
  joined_mk (by as_aux_lemma => kernel_rfl) laidOut mapsRowed_ok (by as_aux_lemma => kernel_rfl) (by as_aux_lemma => kernel_rfl) (by as_aux_lemma => kernel_rfl) stops_ok (by as_aux_lemma => kernel_rfl) knobs_ok (by as_aux_lemma => kernel_rfl) (by as_aux_lemma => kernel_rfl) (by as_aux_lemma => kernel_rfl) (by as_aux_lemma => kernel_rfl) (by as_aux_lemma => kernel_rfl) (by as_aux_lemma => kernel_rfl) (by as_aux_lemma => kernel_rfl) (by as_aux_lemma => kernel_rfl) (by as_aux_lemma => kernel_rfl) (by as_aux_lemma => kernel_rfl) (by as_aux_lemma => kernel_rfl) (by as_aux_lemma => kernel_rfl) (by as_aux_lemma => kernel_rfl) (by rw [keys_ok]; rfl) (by as_aux_lemma => kernel_rfl) heard_ok enter_ok (by rw [lifts_ok]; rfl) (by rw [make_ok]; rfl) (by as_aux_lemma => kernel_rfl) (by as_aux_lemma => kernel_rfl) (by as_aux_lemma => kernel_rfl) (by as_aux_lemma => kernel_rfl)

theorem FnScriptSort_holds : Rows.FnScriptSortSaid :=
  OpenClaim.holds_of_wide 6 Tryz.f6 rfl rfl rfl rfl rfl rfl rfl ⟨rfl, rfl, rfl, rfl, rfl⟩ rfl rfl rfl rfl rfl (by as_aux_lemma => kernel_rfl) Tryz.func6 FnScriptSort_joined
    (of_decide_eq_true (by as_aux_lemma => kernel_rfl)) (by unfold Func.isWrapper; rw [if_neg (by decide +kernel)]; exact ⟨rfl, rfl⟩)
    (fun os started H enc _ => FnScriptSort_lifted os started H enc)

set_option maxHeartbeats 4000000 in
theorem FnScriptSort_card : Rows.FnScriptSortCardSaid :=
  Claim7.holds_tied_plain_at .later [] [.data, .data, .data, .data, .sentinel, .sentinel, .pinned] true (true, "30109cd8cbb2acdc283dc4e050a6b74cca50f9e931557688499b7dc81236a7d2") true
    FnScriptSort_holds (fun _ h => by cases h) (by as_aux_lemma => kernel_rfl) (fun _ h => by cases h) fnScriptSort_row_tie rfl ⟨rfl, rfl⟩ (by as_aux_lemma => kernel_rfl) rfl
    (fun f fn hf hfn => by
      obtain rfl : f = 6 := Option.some.inj ((show Tryz.prog.funcNamed "loop.example/dualmodes/laws.FnScriptSort" = some 6 by as_aux_lemma => kernel_rfl).symm.trans hf) |>.symm
      obtain rfl : fn = Tryz.f6 := (Option.some.inj (Tryz.func6.symm.trans hfn)).symm
      exact ⟨looksS, fun j t ht => by
        rw [Tryz.params6] at ht
        have hm : t ∈ [22] := by simpa using Array.mem_of_getElem? ht
        have hall : ([22].all fun u => !Tryz.prog.wantsStandIn u) = true := by as_aux_lemma => kernel_rfl
        exact (show Tryz.prog.wantsStandIn t = false by simpa using List.all_eq_true.1 hall t hm)⟩)
    (by as_aux_lemma => kernel_rfl)
#print axioms FnScriptSort_card
end Go.Proofs.YtmlbjcjihmfcjaaGreatDoor
