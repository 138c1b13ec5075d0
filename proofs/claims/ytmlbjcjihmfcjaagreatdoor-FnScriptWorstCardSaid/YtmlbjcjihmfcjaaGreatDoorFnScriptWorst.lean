/-
  FnScriptWorst returns true for every code.
-/
import Derived.Test.YtmlbjcjihmfcjaaGreatDoorWorstL
import Derived.Test.YtmlbjcjihmfcjaaGreatDoorDrawFmt
import Derived.Test.YtmlbjcjihmfcjaaGreatDoorDoor
import Derived.Test.YtmlbjcjihmfcjaaGreatDoorOpen
import Derived.Test.YtmlbjcjihmfcjaaGreatDoorTie
import Derived.Test.YtmlbjcjihmfcjaaGreatDoorCards
namespace Go.Proofs.YtmlbjcjihmfcjaaGreatDoor
open Go.RowKit

theorem worstL_le (l : List Tk) (n : Int) (high : Bool) : (worstL l n high).length ≤ 60 := by
  cases h : worst l n high with
  | none => simp [worstL, h]
  | some x =>
    obtain ⟨_, _, _, ht⟩ := worst_some h
    simpa [worstL, h] using (told_all ht).1
theorem dm_numB (n : Int) (h0 : 0 ≤ n) (h1 : n ≤ 100000) (w : World) :
    Calls Tryz.prog 25 #[.int .i64 n] w fun e w' => e = .returned (.string ⟨(num n).toArray⟩) ∧ Below w.heap.size w w' := by
  have K := laws_dmNumber n.toNat (by omega) w
  rw [Int.toNat_of_nonneg h0] at K
  exact K

set_option maxHeartbeats 4000000 in
set_option maxRecDepth 100000 in
theorem law_FnScriptWorst (A0 : Option Addr) (code : List Int) (c0 : Nat) (w : World) (h : BS w A0 code) (hl : code.length ≤ maxLen) (hlc : code.length ≤ c0) (hM : Mx w.heap.size w) :
    Calls Tryz.prog 8 #[.slice A0 code.length c0] w fun e w' => e = .returned (.bool true) ∧ Below w.heap.size w w' := by
  have hl' := hl
  unfold maxLen at hl'
  by_cases h1 : code.length ≤ 1048576
  case neg =>
    go_enter Tryz.func8, Tryz.ntmps8
    go_wp2_with fail
    go_ret
    exact ⟨rfl, Below.refl _ _⟩
  go_enter Tryz.func8, Tryz.ntmps8
  go_wp2_with fail
  refine (spec_DrawWorstJobs A0 code c0 w h hl hlc).mono ?_
  rintro e w1 ⟨A, c, l, n, hi, rfl, hO, hl6, n0, n1, hb⟩
  have hsz := own_size hO
  obtain ⟨hsz1, hsz2⟩ := hsz
  have hlm : l.length ≤ maxLen := by unfold maxLen; omega
  clear hsz2
  obtain ⟨F, hF⟩ : ∃ F, fmtSet l = F := ⟨_, rfl⟩
  have HFl : F.length ≤ 510 := by rw [← hF]; exact fmtSet_le _
  have HF10 : (10 : UInt8) ∉ F := by rw [← hF]; exact fmtSet_no _
  have HF := Lib.hid hF
  clear hF
  obtain ⟨x, hx⟩ : ∃ x, worstL l n hi = x := ⟨_, rfl⟩
  have hxl : x.length ≤ 60 := by rw [← hx]; exact worstL_le l n hi
  have HX := Lib.hid hx
  obtain ⟨ok, hok⟩ : ∃ ok, (worst l n hi).isSome = ok := ⟨_, rfl⟩
  have HK := Lib.hid hok
  clear hx hok
  go_wp2_with fail
  refine (impl_WorstJobs A l c n hi _ hO.ts).mono ?_
  rw [HX.out, HK.out]
  rintro e w2 ⟨A2, c2, rfl, o2, b2⟩
  go_wp2_with fail
  refine (spec_WorstJobs A l c n hi _ (hO.ts.keep b2) hlm).mono ?_
  rw [HX.out, HK.out]
  rintro e w3 ⟨A3, c3, rfl, o3, b3⟩
  have o2 := OJ_keep o2 b3
  have B3 := bthru b2 b3
  go_wp2_with fail
  refine (laws_dmJobs A2 A3 x x c2 c3 _ o2.js o3.js (by omega)).mono ?_
  rintro e w4 ⟨rfl, b4⟩
  simp only [decide_true]
  have o2 := OJ_keep o2 b4
  have o3 := OJ_keep o3 b4
  have B4 := bthru B3 b4
  cases hr : worst l n hi with
  | none =>
    have e1 : ok = false := by rw [← HK.out, hr]; rfl
    subst e1
    clear hr
    go_wp2_with fail
    refine (laws_dmJobs A2 A3 x x c2 c3 _ o2.js o3.js (by omega)).mono ?_
    rintro e w5 ⟨rfl, b5⟩
    simp only [decide_true]
    go_wp2_with fail
    go_ret
    exact ⟨rfl, bthru hb (bthru B4 b5)⟩
  | some x' =>
    have e1 : ok = true := by rw [← HK.out, hr]; rfl
    have e2 : x' = x := by rw [← HX.out, worstL, hr]; rfl
    subst e1
    subst e2
    obtain ⟨hS, h0n, hn2, ht⟩ := worst_some hr
    have hT := text_tasks l hS
    rw [HF.out] at hT
    have hW := plain_showJ ⟨l, x'.length, flatJ x', 0, St0.out ++ (F ++ [10]) ++ ([111, 107] ++ [10])⟩ x' rfl rfl ht (by simp [St0] <;> omega)
    obtain ⟨P, hP⟩ : ∃ P, fmtJobs x' = P := ⟨_, rfl⟩
    have hPl : P.length ≤ 3960 := by rw [← hP]; exact fmtJobs_le x'
    have HP := Lib.hid hP
    clear hP
    dsimp only at hW
    rw [HP.out, HF.out] at hW
    have hX := num_no 10 n (by decide)
    have hnl := num_len n (by omega)
    have HR := Lib.hid hr
    have Ht := Lib.hid ht
    have HW := Lib.hid hW
    clear hr hS ht hW
    cases hi with
    | true =>
      go_wp2_with fail
      refine (impl_FormatSet A l c _ (hO.ts.keep B4)).mono ?_
      rw [HF.out]
      rintro e w5 ⟨rfl, b5⟩
      have B5 := bthru B4 b5
      have o2 := OJ_keep o2 b5
      go_wp2_with fail
      refine (dm_numB n h0n (by omega) _).mono ?_
      rintro e w6 ⟨rfl, b6⟩
      have B6 := bthru B5 b6
      have o2 := OJ_keep o2 b6
      have hp : pieces [10] (([116, 97, 115, 107, 115, 32] ++ F) ++ [10] ++ (([119, 111, 114, 115, 116, 32] ++ num n) ++ [10] ++ (([115, 104, 111, 119]) ++ [10] ++ ([])))) = [[116, 97, 115, 107, 115, 32] ++ F, [119, 111, 114, 115, 116, 32] ++ num n, [115, 104, 111, 119], []] := by
        rw [pieces_app 10 [] _ _ (by simp [HF10]), pieces_app 10 [] _ _ (by simp [hX]), pieces_app 10 [] _ _ (by decide), pieces_no 10 [] [] (by simp)]
      have hC : Chain [[116, 97, 115, 107, 115, 32] ++ F, [119, 111, 114, 115, 116, 32] ++ num n, [115, 104, 111, 119], []] St0 ⟨l, x'.length, flatJ x', 0, St0.out ++ (F ++ [10]) ++ ([111, 107] ++ [10]) ++ (F ++ [10]) ++ (P ++ [10])⟩ := by
        refine .step (by simp) (by simp [St0] <;> omega) (do_text (x := [116, 97, 115, 107, 115]) (by decide) (by simp <;> omega) (hT _ (by simp [St0] <;> omega))) ?_
        refine .step (by simp) (by simp [St0] <;> omega) (do_count (x := [119, 111, 114, 115, 116]) (n := n) (by decide) (by simp) (by omega) (by omega) (text_no_worst _ _) (count_worst n _ x' HR.out (by simp [St0] <;> omega))) ?_
        refine .step (by simp) (by simp [St0] <;> omega) (do_plain (by decide) (by simp) (HW.out)) ?_
        exact .skip (.nil _)
      go_wp2_with fail
      refine (impl_RunScript _ _ (((((ByteArray.mk F.toArray ++ ByteArray.mk #[10, 111, 107, 10]) ++ ByteArray.mk F.toArray) ++ ByteArray.mk #[10]) ++ ByteArray.mk P.toArray) ++ ByteArray.mk #[10]) ?hT _ hp _ ?hR _ (by simp <;> omega) (by simp) hC (by simp) ((hM.keep (bthru hb B6)).up (Below.size (bthru hb B6)))).mono ?_
      case hT => simp only [mk_app]; simp
      case hR => simp only [mk_app]; simp [St0]
      rintro e w7 ⟨rfl, b7⟩
      have B7 := bthru B6 b7
      have o2 := OJ_keep o2 b7
      go_wp2_with fail
      refine (impl_FormatJobs A2 x' c2 _ o2.js Ht.out (hM.keep (bthru hb B7)) (Below.size (bthru hb B7))).mono ?_
      rw [HP.out]
      rintro e w8 ⟨rfl, b8⟩
      go_wp2_with fail
      go_ret
      exact ⟨rfl, bthru hb (bthru B7 b8)⟩
    | false =>
      go_wp2_with fail
      refine (impl_FormatSet A l c _ (hO.ts.keep B4)).mono ?_
      rw [HF.out]
      rintro e w5 ⟨rfl, b5⟩
      have B5 := bthru B4 b5
      have o2 := OJ_keep o2 b5
      go_wp2_with fail
      refine (dm_numB n h0n (by omega) _).mono ?_
      rintro e w6 ⟨rfl, b6⟩
      have B6 := bthru B5 b6
      have o2 := OJ_keep o2 b6
      have hp : pieces [10] (([116, 97, 115, 107, 115, 32] ++ F) ++ [10] ++ (([114, 117, 108, 101, 32] ++ num n) ++ [10] ++ (([115, 104, 111, 119]) ++ [10] ++ ([])))) = [[116, 97, 115, 107, 115, 32] ++ F, [114, 117, 108, 101, 32] ++ num n, [115, 104, 111, 119], []] := by
        rw [pieces_app 10 [] _ _ (by simp [HF10]), pieces_app 10 [] _ _ (by simp [hX]), pieces_app 10 [] _ _ (by decide), pieces_no 10 [] [] (by simp)]
      have hC : Chain [[116, 97, 115, 107, 115, 32] ++ F, [114, 117, 108, 101, 32] ++ num n, [115, 104, 111, 119], []] St0 ⟨l, x'.length, flatJ x', 0, St0.out ++ (F ++ [10]) ++ ([111, 107] ++ [10]) ++ (F ++ [10]) ++ (P ++ [10])⟩ := by
        refine .step (by simp) (by simp [St0] <;> omega) (do_text (x := [116, 97, 115, 107, 115]) (by decide) (by simp <;> omega) (hT _ (by simp [St0] <;> omega))) ?_
        refine .step (by simp) (by simp [St0] <;> omega) (do_count (x := [114, 117, 108, 101]) (n := n) (by decide) (by simp) (by omega) (by omega) (text_no_rule _ _) (count_rule n _ x' HR.out (by simp [St0] <;> omega))) ?_
        refine .step (by simp) (by simp [St0] <;> omega) (do_plain (by decide) (by simp) (HW.out)) ?_
        exact .skip (.nil _)
      go_wp2_with fail
      refine (impl_RunScript _ _ (((((ByteArray.mk F.toArray ++ ByteArray.mk #[10, 111, 107, 10]) ++ ByteArray.mk F.toArray) ++ ByteArray.mk #[10]) ++ ByteArray.mk P.toArray) ++ ByteArray.mk #[10]) ?hT _ hp _ ?hR _ (by simp <;> omega) (by simp) hC (by simp) ((hM.keep (bthru hb B6)).up (Below.size (bthru hb B6)))).mono ?_
      case hT => simp only [mk_app]; simp
      case hR => simp only [mk_app]; simp [St0]
      rintro e w7 ⟨rfl, b7⟩
      have B7 := bthru B6 b7
      have o2 := OJ_keep o2 b7
      go_wp2_with fail
      refine (impl_FormatJobs A2 x' c2 _ o2.js Ht.out (hM.keep (bthru hb B7)) (Below.size (bthru hb B7))).mono ?_
      rw [HP.out]
      rintro e w8 ⟨rfl, b8⟩
      go_wp2_with fail
      go_ret
      exact ⟨rfl, bthru hb (bthru B7 b8)⟩

open Go.ChangeShapes Go.WideShapes Go.ChangeAt Go.WideElems Go.Deep

set_option maxRecDepth 100000 in
set_option maxHeartbeats 4000000 in
theorem FnScriptWorst_lifted (os : Os) (started : os.Started) (H : Type) (enc : TypeId × Value → H) :
    ReturnsInHanded {} Tryz.checked os 8 .any (fun w args => (Rows.fnScriptWorstSpec.pre enc Tryz.prog Tryz.f8 [] false w args ∧ laidMetH Tryz.prog Rows.fnScriptWorstRow.laid w) ∧ sizedMet enc Tryz.prog Tryz.f8 (OpenSpec.ofChange Rows.fnScriptWorstSpec) false w args) (Rows.fnScriptWorstSpec.post enc Tryz.prog Tryz.f8 false true false false) := by
  refine returns_row (C := Tryz.checked) (X := fun w _ => laidMetH Tryz.prog Rows.fnScriptWorstRow.laid w) (fun _ _ _ hh h => h.of_heap hh) own started (by as_aux_lemma => kernel_rfl) Tryz.func8
    (ChangeSpec.witness_shaped (enc := enc) (C := Tryz.checked) (os := os) (X := fun w _ => laidMetH Tryz.prog Rows.fnScriptWorstRow.laid w) false (World.laidAll Tryz.prog os Rows.fnScriptWorstRow.laid) #[.slice none 0 0] 8 (World.laidAll_os _ _ _) (shapedS os) (by as_aux_lemma => kernel_rfl) (by as_aux_lemma => kernel_rfl) (by as_aux_lemma => kernel_rfl) (metS os _)) ?_
  intro W base args ds gs before hval0 hW hL hsh
  have hM : Mx W.heap.size W := mx_of hL hsh (by as_aux_lemma => rfl)
  have hval : ∀ (j : Nat) t v, Tryz.f8.params[j]? = some t → args[j]? = some v → Value.okWide Tryz.prog W .any base t v := hval0
  have hW' := hW
  obtain ⟨p, q, hA0, hV, rfl, _, _⟩ := hW
  have hA : DataW.TrodAll enc Tryz.prog W 0 (fun _ => true) true Tryz.f8.params.toList args.toList ds p := hA0
  rw [Tryz.params8] at hA hval
  obtain ⟨v0, d0, rfl, rfl, h0⟩ := trodAll_one hA
  obtain ⟨rfl, rfl⟩ := trodVars_none hV
  clear hA0 hval0
  simp only [List.append_nil] at hW'
  have hlt : ∀ x ∈ p, x.block < W.heap.size := fun x hx => hW'.lt x (by simpa using hx)
  have hargs : ∀ W', Below W.heap.size W W' → DataW.TrodAll enc Tryz.prog W' 0 (fun b => decide (b < W.heap.size)) true [22] [v0] [d0] (p) := fun W' hb =>
    trodAll_mk1 (Below.trod laidOut (by as_aux_lemma => kernel_rfl) (of_decide_eq_true (by as_aux_lemma => kernel_rfl)) h0 hb (fun x hx => hlt x (by simp [hx])))
  obtain ⟨A0, l0, c0, rfl, hlc0, hlm0, hlw0, hl0⟩ := open_kind Tryz.underlying22 Tryz.underlying5 (by as_aux_lemma => kernel_rfl) (okWide_slice Tryz.underlying22 (hval 0 _ v0 rfl rfl)) h0
  refine (law_FnScriptWorst A0 l0 c0 W ⟨fun x hx => byte_wf (hlw0 x hx), hl0⟩ hlm0 hlc0 hM).mono fun e W' ⟨he, hb⟩ => ?_
  subst he
  exact ⟨_, rfl, ⟨_, _, _, [], _, [], hW', trodAll_mk1 (shut_bool Tryz.underlying4 _), hargs W' hb, rfl, hb.frame _, fun h => by cases h⟩⟩

set_option maxHeartbeats 4000000 in
theorem FnScriptWorst_joined : joinedFacts Tryz.prog 8 Tryz.f8 Rows.fnScriptWorstSpec Rows.fnScriptWorstRow = true :=
  joined_mk (by as_aux_lemma => kernel_rfl) laidOut mapsRowed_ok (by as_aux_lemma => kernel_rfl) (by as_aux_lemma => kernel_rfl) (by as_aux_lemma => kernel_rfl) stops_ok (by as_aux_lemma => kernel_rfl) knobs_ok (by as_aux_lemma => kernel_rfl) (by as_aux_lemma => kernel_rfl) (by as_aux_lemma => kernel_rfl) (by as_aux_lemma => kernel_rfl) (by as_aux_lemma => kernel_rfl) (by as_aux_lemma => kernel_rfl) (by as_aux_lemma => kernel_rfl) (by as_aux_lemma => kernel_rfl) (by as_aux_lemma => kernel_rfl) (by as_aux_lemma => kernel_rfl) (by as_aux_lemma => kernel_rfl) (by as_aux_lemma => kernel_rfl) (by as_aux_lemma => kernel_rfl) (by rw [keys_ok]; rfl) (by as_aux_lemma => kernel_rfl) heard_ok enter_ok (by rw [lifts_ok]; rfl) (by rw [make_ok]; rfl) (by as_aux_lemma => kernel_rfl) (by as_aux_lemma => kernel_rfl) (by as_aux_lemma => kernel_rfl) (by as_aux_lemma => kernel_rfl)

theorem FnScriptWorst_holds : Rows.FnScriptWorstSaid :=
  OpenClaim.holds_of_wide 8 Tryz.f8 rfl rfl rfl rfl rfl rfl rfl ⟨rfl, rfl, rfl, rfl, rfl⟩ rfl rfl rfl rfl rfl (by as_aux_lemma => kernel_rfl) Tryz.func8 FnScriptWorst_joined
    (of_decide_eq_true (by as_aux_lemma => kernel_rfl)) (by unfold Func.isWrapper; rw [if_neg (by decide +kernel)]; exact ⟨rfl, rfl⟩)
    (fun os started H enc _ => FnScriptWorst_lifted os started H enc)

set_option maxHeartbeats 4000000 in
theorem FnScriptWorst_card : Rows.FnScriptWorstCardSaid :=
  Claim7.holds_tied_plain_at .later [] [.data, .data, .data, .data, .sentinel, .sentinel, .pinned] true (true, "30109cd8cbb2acdc283dc4e050a6b74cca50f9e931557688499b7dc81236a7d2") true
    FnScriptWorst_holds (fun _ h => by cases h) (by as_aux_lemma => kernel_rfl) (fun _ h => by cases h) fnScriptWorst_row_tie rfl ⟨rfl, rfl⟩ (by as_aux_lemma => kernel_rfl) rfl
    (fun f fn hf hfn => by
      obtain rfl : f = 8 := Option.some.inj ((show Tryz.prog.funcNamed "loop.example/dualmodes/laws.FnScriptWorst" = some 8 by as_aux_lemma => kernel_rfl).symm.trans hf) |>.symm
      obtain rfl : fn = Tryz.f8 := (Option.some.inj (Tryz.func8.symm.trans hfn)).symm
      exact ⟨looksS, fun j t ht => by
        rw [Tryz.params8] at ht
        have hm : t ∈ [22] := by simpa using Array.mem_of_getElem? ht
        have hall : ([22].all fun u => !Tryz.prog.wantsStandIn u) = true := by as_aux_lemma => kernel_rfl
        exact (show Tryz.prog.wantsStandIn t = false by simpa using List.all_eq_true.1 hall t hm)⟩)
    (by as_aux_lemma => kernel_rfl)
#print axioms FnScriptWorst_card
end Go.Proofs.YtmlbjcjihmfcjaaGreatDoor
