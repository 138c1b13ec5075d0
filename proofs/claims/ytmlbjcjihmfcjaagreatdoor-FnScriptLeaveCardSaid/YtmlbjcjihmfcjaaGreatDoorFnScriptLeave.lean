/-
  FnScriptLeave returns true for every code.
-/
import Derived.Test.YtmlbjcjihmfcjaaGreatDoorDrawSome
import Derived.Test.YtmlbjcjihmfcjaaGreatDoorWords
import Derived.Test.YtmlbjcjihmfcjaaGreatDoorDrawFmt
import Derived.Test.YtmlbjcjihmfcjaaGreatDoorDm
import Derived.Test.YtmlbjcjihmfcjaaGreatDoorDoor
import Derived.Test.YtmlbjcjihmfcjaaGreatDoorOpen
import Derived.Test.YtmlbjcjihmfcjaaGreatDoorTie
import Derived.Test.YtmlbjcjihmfcjaaGreatDoorCards
namespace Go.Proofs.YtmlbjcjihmfcjaaGreatDoor
open Go.RowKit

theorem lvT_len {l : List Tk} {x : Int} : (lvT l x).length ≤ l.length := by
  unfold lvT
  split
  · exact (List.eraseIdx_sublist l _).length_le
  · simp
theorem plc_no9 {l : List Tk} (h : l.length ≤ 6) : plc l 9 = false := by
  simp [plc]
  intro _
  omega

set_option maxHeartbeats 4000000 in
set_option maxRecDepth 100000 in
theorem law_FnScriptLeave (A0 : Option Addr) (code : List Int) (c0 : Nat) (w : World) (h : BS w A0 code) (hl : code.length ≤ maxLen) (hlc : code.length ≤ c0) (hM : Mx w.heap.size w) :
    Calls Tryz.prog 10 #[.slice A0 code.length c0] w fun e w' => e = .returned (.bool true) ∧ Below w.heap.size w w' := by
  have hl' := hl
  unfold maxLen at hl'
  by_cases h1 : code.length ≤ 1048576
  case neg =>
    go_enter Tryz.func10, Tryz.ntmps10
    go_wp2_with fail
    go_ret
    exact ⟨rfl, Below.refl _ _⟩
  go_enter Tryz.func10, Tryz.ntmps10
  go_wp2_with fail
  refine (spec_DrawLeaveTask A0 code c0 w h hl hlc).mono ?_
  rintro e w1 ⟨A, c, l, x, rfl, hO, hl6, hx0, hx1, hb⟩
  have hsz := own_size hO
  obtain ⟨hsz1, hsz2⟩ := hsz
  have hlm : l.length ≤ maxLen := by unfold maxLen; omega
  clear hsz2
  go_wp2_with fail
  refine (impl_LeaveTask A l c x _ hO.ts).mono ?_
  rintro e w2 ⟨A2, c2, rfl, o2, b2⟩
  go_wp2_with fail
  refine (spec_LeaveTask A l c x _ (hO.ts.keep b2) hlm hsz1).mono ?_
  rintro e w3 ⟨A3, c3, rfl, o3, b3⟩
  have B3 := bthru b2 b3
  have o2 := OT_keep o2 b3
  have hvl := lvT_len (l := l) (x := x)
  go_wp2_with fail
  refine (laws_dmTasks A2 A3 (lvT l x) (lvT l x) c2 c3 _ o2.ts o3.ts (by omega)).mono ?_
  rintro e w4 ⟨rfl, b4⟩
  simp only [decide_true]
  have B4 := bthru B3 b4
  have o2 := OT_keep o2 b4
  have o3 := OT_keep o3 b4
  cases hp : plc l x with
  | false =>
    go_wp2_with fail
    refine (laws_dmTasks A2 A3 (lvT l x) (lvT l x) c2 c3 _ o2.ts o3.ts (by omega)).mono ?_
    rintro e w5 ⟨rfl, b5⟩
    simp only [decide_true]
    go_wp2_with fail
    go_ret
    exact ⟨rfl, bthru hb (bthru B4 b5)⟩
  | true =>
    obtain ⟨hs, hl5, hlt, hxx⟩ := plc_yes hp
    have hx0' : 0 ≤ x := by omega
    have hT := text_tasks l hs
    have hL := count_leave x ⟨l, 0, [], 0, St0.out ++ (fmtSet l ++ [10])⟩ hp
    have hN : ∀ o : List UInt8, o.length ≤ 700000 → CountIs [108, 101, 97, 118, 101] 9 ⟨lvT l x, 0, [], 0, o⟩ ⟨lvT l x, 0, [], 0, o ++ [110, 111, 10]⟩ := fun o ho => count_leave_no 9 ⟨lvT l x, 0, [], 0, o⟩ (plc_no9 (show (lvT l x).length ≤ 6 by omega)) ho
    clear hxx hs
    obtain ⟨F, hF⟩ : ∃ F, fmtSet l = F := ⟨_, rfl⟩
    have HFl : F.length ≤ 510 := by rw [← hF]; exact fmtSet_le _
    have HF10 : (10 : UInt8) ∉ F := by rw [← hF]; exact fmtSet_no _
    have HF := Lib.hid hF
    clear hF
    obtain ⟨G, hG⟩ : ∃ G, fmtSet (lvT l x) = G := ⟨_, rfl⟩
    have HGl : G.length ≤ 510 := by rw [← hG]; exact fmtSet_le _
    have HG10 : (10 : UInt8) ∉ G := by rw [← hG]; exact fmtSet_no _
    have HG := Lib.hid hG
    clear hG
    rw [HF.out] at hT hL
    dsimp only at hL
    rw [HG.out] at hL
    have hL := hL (by simp [St0] <;> omega)
    have hX := num_no 10 x (by decide)
    have hX9 : num 9 = [57] := by unfold num; rw [dec_small _ (by decide)]; rfl
    have h9 := num_no 10 9 (by decide)
    have h9l := num_len 9 (by omega)
    have hXl := num_len x (by omega)
    have HP := Lib.hid hp
    clear hp
    generalize lvT l x = v at *
    go_wp2_with fail
    refine (impl_FormatSet A l c _ (hO.ts.keep B4)).mono ?_
    rw [HF.out]
    rintro e w5 ⟨rfl, b5⟩
    have B5 := bthru B4 b5
    have o2 := OT_keep o2 b5
    go_wp2_with fail
    refine (dm_num x hx0' (by omega) _).mono ?_
    rintro e w6 ⟨rfl, b6⟩
    have B6 := bthru B5 b6
    have o2 := OT_keep o2 b6
    have hp : pieces [10] (([116, 97, 115, 107, 115, 32] ++ F) ++ [10] ++ (([108, 101, 97, 118, 101, 32] ++ num x) ++ [10] ++ (([108, 101, 97, 118, 101, 32] ++ num 9) ++ [10] ++ ([])))) = [[116, 97, 115, 107, 115, 32] ++ F, [108, 101, 97, 118, 101, 32] ++ num x, [108, 101, 97, 118, 101, 32] ++ num 9, []] := by
      rw [pieces_app 10 [] _ _ (by simp [HF10]), pieces_app 10 [] _ _ (by simp [hX]), pieces_app 10 [] _ _ (by simp [h9]), pieces_no 10 [] [] (by simp)]
    have hC : Chain [[116, 97, 115, 107, 115, 32] ++ F, [108, 101, 97, 118, 101, 32] ++ num x, [108, 101, 97, 118, 101, 32] ++ num 9, []] St0 ⟨v, 0, [], 0, St0.out ++ (F ++ [10]) ++ (G ++ [10]) ++ [110, 111, 10]⟩ := by
      refine .step (by simp) (by simp [St0] <;> omega) (do_text (x := [116, 97, 115, 107, 115]) (by decide) (by simp <;> omega) (hT St0 (by simp [St0]))) ?_
      refine .step (by simp) (by simp [St0] <;> omega) (do_count (x := [108, 101, 97, 118, 101]) (n := x) (by decide) (by simp) (by omega) (by omega) (text_no_leave _ _) (hL)) ?_
      refine .step (by simp) (by simp [St0] <;> omega) (do_count (x := [108, 101, 97, 118, 101]) (n := 9) (by decide) (by simp) (by omega) (by omega) (text_no_leave _ _) (hN _ (by simp [St0] <;> omega))) ?_
      exact .skip (.nil _)
    go_wp2_with fail
    refine (impl_RunScript _ _ (((ByteArray.mk F.toArray ++ ByteArray.mk #[10]) ++ ByteArray.mk G.toArray) ++ ByteArray.mk #[10, 110, 111, 10]) ?hT _ hp _ ?hR _ (by simp <;> omega) (by simp) hC (by simp) ((hM.keep (bthru hb B6)).up (Below.size (bthru hb B6)))).mono ?_
    case hT => simp only [mk_app]; simp [hX9]
    case hR => simp only [mk_app]; simp [St0]
    rintro e w7 ⟨rfl, b7⟩
    have o2 := OT_keep o2 b7
    go_wp2_with fail
    refine (impl_FormatSet A2 v c2 _ o2.ts).mono ?_
    rw [HG.out]
    rintro e w8 ⟨rfl, b8⟩
    go_wp2_with fail
    go_ret
    exact ⟨rfl, bthru hb (bthru (bthru B6 b7) b8)⟩

open Go.ChangeShapes Go.WideShapes Go.ChangeAt Go.WideElems Go.Deep

set_option maxRecDepth 100000 in
set_option maxHeartbeats 4000000 in
theorem FnScriptLeave_lifted (os : Os) (started : os.Started) (H : Type) (enc : TypeId × Value → H) :
    ReturnsInHanded {} Tryz.checked os 10 .any (fun w args => (Rows.fnScriptLeaveSpec.pre enc Tryz.prog Tryz.f10 [] false w args ∧ laidMetH Tryz.prog Rows.fnScriptLeaveRow.laid w) ∧ sizedMet enc Tryz.prog Tryz.f10 (OpenSpec.ofChange Rows.fnScriptLeaveSpec) false w args) (Rows.fnScriptLeaveSpec.post enc Tryz.prog Tryz.f10 false true false false) := by
  refine returns_row (C := Tryz.checked) (X := fun w _ => laidMetH Tryz.prog Rows.fnScriptLeaveRow.laid w) (fun _ _ _ hh h => h.of_heap hh) own started (by as_aux_lemma => kernel_rfl) Tryz.func10
    (ChangeSpec.witness_shaped (enc := enc) (C := Tryz.checked) (os := os) (X := fun w _ => laidMetH Tryz.prog Rows.fnScriptLeaveRow.laid w) false (World.laidAll Tryz.prog os Rows.fnScriptLeaveRow.laid) #[.slice none 0 0] 8 (World.laidAll_os _ _ _) (shapedS os) (by as_aux_lemma => kernel_rfl) (by as_aux_lemma => kernel_rfl) (by as_aux_lemma => kernel_rfl) (metS os _)) ?_
  intro W base args ds gs before hval0 hW hL hsh
  have hM : Mx W.heap.size W := mx_of hL hsh (by as_aux_lemma => rfl)
  have hval : ∀ (j : Nat) t v, Tryz.f10.params[j]? = some t → args[j]? = some v → Value.okWide Tryz.prog W .any base t v := hval0
  have hW' := hW
  obtain ⟨p, q, hA0, hV, rfl, _, _⟩ := hW
  have hA : DataW.TrodAll enc Tryz.prog W 0 (fun _ => true) true Tryz.f10.params.toList args.toList ds p := hA0
  rw [Tryz.params10] at hA hval
  obtain ⟨v0, d0, rfl, rfl, h0⟩ := trodAll_one hA
  obtain ⟨rfl, rfl⟩ := trodVars_none hV
  clear hA0 hval0
  simp only [List.append_nil] at hW'
  have hlt : ∀ x ∈ p, x.block < W.heap.size := fun x hx => hW'.lt x (by simpa using hx)
  have hargs : ∀ W', Below W.heap.size W W' → DataW.TrodAll enc Tryz.prog W' 0 (fun b => decide (b < W.heap.size)) true [22] [v0] [d0] (p) := fun W' hb =>
    trodAll_mk1 (Below.trod laidOut (by as_aux_lemma => kernel_rfl) (of_decide_eq_true (by as_aux_lemma => kernel_rfl)) h0 hb (fun x hx => hlt x (by simp [hx])))
  obtain ⟨A0, l0, c0, rfl, hlc0, hlm0, hlw0, hl0⟩ := open_kind Tryz.underlying22 Tryz.underlying5 (by as_aux_lemma => kernel_rfl) (okWide_slice Tryz.underlying22 (hval 0 _ v0 rfl rfl)) h0
  refine (law_FnScriptLeave A0 l0 c0 W ⟨fun x hx => byte_wf (hlw0 x hx), hl0⟩ hlm0 hlc0 hM).mono fun e W' ⟨he, hb⟩ => ?_
  subst he
  exact ⟨_, rfl, ⟨_, _, _, [], _, [], hW', trodAll_mk1 (shut_bool Tryz.underlying4 _), hargs W' hb, rfl, hb.frame _, fun h => by cases h⟩⟩

set_option maxHeartbeats 4000000 in
theorem FnScriptLeave_joined : joinedFacts Tryz.prog 10 Tryz.f10 Rows.fnScriptLeaveSpec Rows.fnScriptLeaveRow = true :=
  joined_mk (by as_aux_lemma => kernel_rfl) laidOut mapsRowed_ok (by as_aux_lemma => kernel_rfl) (by as_aux_lemma => kernel_rfl) (by as_aux_lemma => kernel_rfl) stops_ok (by as_aux_lemma => kernel_rfl) knobs_ok (by as_aux_lemma => kernel_rfl) (by as_aux_lemma => kernel_rfl) (by as_aux_lemma => kernel_rfl) (by as_aux_lemma => kernel_rfl) (by as_aux_lemma => kernel_rfl) (by as_aux_lemma => kernel_rfl) (by as_aux_lemma => kernel_rfl) (by as_aux_lemma => kernel_rfl) (by as_aux_lemma => kernel_rfl) (by as_aux_lemma => kernel_rfl) (by as_aux_lemma => kernel_rfl) (by as_aux_lemma => kernel_rfl) (by as_aux_lemma => kernel_rfl) (by rw [keys_ok]; rfl) (by as_aux_lemma => kernel_rfl) heard_ok enter_ok (by rw [lifts_ok]; rfl) (by rw [make_ok]; rfl) (by as_aux_lemma => kernel_rfl) (by as_aux_lemma => kernel_rfl) (by as_aux_lemma => kernel_rfl) (by as_aux_lemma => kernel_rfl)

theorem FnScriptLeave_holds : Rows.FnScriptLeaveSaid :=
  OpenClaim.holds_of_wide 10 Tryz.f10 rfl rfl rfl rfl rfl rfl rfl ⟨rfl, rfl, rfl, rfl, rfl⟩ rfl rfl rfl rfl rfl (by as_aux_lemma => kernel_rfl) Tryz.func10 FnScriptLeave_joined
    (of_decide_eq_true (by as_aux_lemma => kernel_rfl)) (by unfold Func.isWrapper; rw [if_neg (by decide +kernel)]; exact ⟨rfl, rfl⟩)
    (fun os started H enc _ => FnScriptLeave_lifted os started H enc)

set_option maxHeartbeats 4000000 in
theorem FnScriptLeave_card : Rows.FnScriptLeaveCardSaid :=
  Claim7.holds_tied_plain_at .later [] [.data, .data, .data, .data, .sentinel, .sentinel, .pinned] true (true, "30109cd8cbb2acdc283dc4e050a6b74cca50f9e931557688499b7dc81236a7d2") true
    FnScriptLeave_holds (fun _ h => by cases h) (by as_aux_lemma => kernel_rfl) (fun _ h => by cases h) fnScriptLeave_row_tie rfl ⟨rfl, rfl⟩ (by as_aux_lemma => kernel_rfl) rfl
    (fun f fn hf hfn => by
      obtain rfl : f = 10 := Option.some.inj ((show Tryz.prog.funcNamed "loop.example/dualmodes/laws.FnScriptLeave" = some 10 by as_aux_lemma => kernel_rfl).symm.trans hf) |>.symm
      obtain rfl : fn = Tryz.f10 := (Option.some.inj (Tryz.func10.symm.trans hfn)).symm
      exact ⟨looksS, fun j t ht => by
        rw [Tryz.params10] at ht
        have hm : t ∈ [22] := by simpa using Array.mem_of_getElem? ht
        have hall : ([22].all fun u => !Tryz.prog.wantsStandIn u) = true := by as_aux_lemma => kernel_rfl
        exact (show Tryz.prog.wantsStandIn t = false by simpa using List.all_eq_true.1 hall t hm)⟩)
    (by as_aux_lemma => kernel_rfl)
#print axioms FnScriptLeave_card
end Go.Proofs.YtmlbjcjihmfcjaaGreatDoor
