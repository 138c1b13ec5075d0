/-
  FnScriptPack returns true for every code.
-/
import Derived.Test.YtmlbjcjihmfcjaaGreatDoorDrawP2
import Derived.Test.YtmlbjcjihmfcjaaGreatDoorPackFS
import Derived.Test.YtmlbjcjihmfcjaaGreatDoorDm
import Derived.Test.YtmlbjcjihmfcjaaGreatDoorFmtPack
import Derived.Test.YtmlbjcjihmfcjaaGreatDoorWords
import Derived.Test.YtmlbjcjihmfcjaaGreatDoorDrawFmt
import Derived.Test.YtmlbjcjihmfcjaaGreatDoorDoor
import Derived.Test.YtmlbjcjihmfcjaaGreatDoorOpen
import Derived.Test.YtmlbjcjihmfcjaaGreatDoorTie
import Derived.Test.YtmlbjcjihmfcjaaGreatDoorCards
namespace Go.Proofs.YtmlbjcjihmfcjaaGreatDoor
open Go.RowKit

theorem fmtPack_le (l : List Tk) (ws : List Int) : (fmtPack l ws).length ≤ 1800 := by
  unfold fmtPack
  split
  · exact packTo_le l ws 3 (by omega)
  · simp
set_option maxHeartbeats 4000000 in
set_option maxRecDepth 100000 in
theorem count_pack (n : Int) (s : St) (ws : List Int) (hr : ffit s.l n s.pol = some ws) (hl : s.l.length ≤ maxLen) (ho : s.out.length ≤ 700000) : CountIs [112, 97, 99, 107] n s { s with out := s.out ++ fmtPack s.l ws ++ ([101, 110, 100] ++ [10]) } := by
  intro B b w hM D hBw
  have D0 := D
  obtain ⟨A, c, jv, c0, c1, c2, f0, f1, f2, hO, hlc⟩ := D0.cells
  go_enter Tryz.func175, Tryz.ntmps175
  have hfl := fmtPack_le s.l ws
  have e1 : ffL s.l n s.pol = ws := by simp [ffL, hr]
  have e2 : (ffit s.l n s.pol).isSome = true := by simp [hr]
  go_wp2_with fail
  go_region_with (go_at_call 74; refine (impl_PackFirst A s.l c n s.pol _ (hO.ts.keep (bdr (Below.refl _ _) _)) hl hlc).mono ?_; rw [e1, e2]; rintro e w1 ⟨A1, d1, rfl, o1, b1⟩; replace b1 := bthru (bdr (Below.refl w.heap.size w) _) b1)
  all_goals
    have D1 := D.keep b1
    have F1 := (Frm.refl B b w).thru hBw b1
    have HO1 := OT_keep hO b1
    clear e1 e2
    have C1 := D1.cells
    clear c0 c1 c2 f0 f1 f2
    obtain ⟨A3, c3, jv3, c0, c1, c2, f0, f1, f2, hO3, hlc3⟩ := C1
    go_wp2_with fail
    go_region_with (first
      | (go_at_call 76; refine (impl_FormatPack A3 A1 s.l ws c3 d1 _ (hO3.ts.keep (bdr (Below.refl _ _) _)) (o1.is.keep (bdr (Below.refl _ _) _))).mono ?_; rintro e w1' ⟨rfl, b1'⟩; replace b1' := bthru (bdr (Below.refl w1.heap.size w1) _) b1'; replace F1 := F1.thru hBw b1'; replace D1 := D1.keep b1')
      | (go_at_call 168; refine (desk_WriteS D1 (fmtPack s.l ws) _ rfl (by omega) (Nat.le_trans hBw F1.size)).mono ?_; rintro e wm ⟨rfl, Dm, Fm⟩; replace F1 := F1.trans Fm))
    all_goals
      go_wp2_with fail
      refine (desk_tell Dm [101, 110, 100] _ (rfl) (by simp <;> omega) (Nat.le_trans hBw F1.size)).mono ?_
      rintro e w2 ⟨rfl, D2, F2⟩
      go_wp2_with fail
      go_ret
      exact ⟨rfl, D2, F1.trans F2⟩

set_option maxHeartbeats 4000000 in
set_option maxRecDepth 100000 in
theorem law_FnScriptPack (A0 : Option Addr) (code : List Int) (c0 : Nat) (w : World) (h : BS w A0 code) (hl : code.length ≤ maxLen) (hlc : code.length ≤ c0) (hM : Mx w.heap.size w) :
    Calls Tryz.prog 17 #[.slice A0 code.length c0] w fun e w' => e = .returned (.bool true) ∧ Below w.heap.size w w' := by
  have hl' := hl
  unfold maxLen at hl'
  by_cases h1 : code.length ≤ 1048576
  case neg =>
    go_enter Tryz.func17, Tryz.ntmps17
    go_wp2_with fail
    go_ret
    exact ⟨rfl, Below.refl _ _⟩
  go_enter Tryz.func17, Tryz.ntmps17
  go_wp2_with fail
  refine (spec_DrawPackFirst A0 code c0 w h hl hlc).mono ?_
  rintro e w1 ⟨A, c, l, n, m, rfl, hO, hl5, n0, n4, m0, m2, hb⟩
  have hsz := own_size hO
  obtain ⟨hsz1, hsz2⟩ := hsz
  have hlm : l.length ≤ maxLen := by unfold maxLen; omega
  clear hsz2
  obtain ⟨F, hF⟩ : ∃ F, fmtSet l = F := ⟨_, rfl⟩
  have HFl : F.length ≤ 510 := by rw [← hF]; exact fmtSet_le _
  have HF10 : (10 : UInt8) ∉ F := by rw [← hF]; exact fmtSet_no _
  have HF := Lib.hid hF
  clear hF
  obtain ⟨ws, hws⟩ : ∃ ws, ffL l n m = ws := ⟨_, rfl⟩
  have hwl : ws.length ≤ 5 := by rw [← hws]; exact ffL_le l n m
  have HW := Lib.hid hws
  obtain ⟨ok, hok⟩ : ∃ ok, (ffit l n m).isSome = ok := ⟨_, rfl⟩
  have HK := Lib.hid hok
  clear hws hok
  go_wp2_with fail
  refine (impl_PackFirst A l c n m _ hO.ts hlm hsz1).mono ?_
  rw [HW.out, HK.out]
  rintro e w2 ⟨A2, c2, rfl, o2, b2⟩
  go_wp2_with fail
  refine (spec_PackFirst A l c n m _ (hO.ts.keep b2) hlm hsz1).mono ?_
  rw [HW.out, HK.out]
  rintro e w3 ⟨A3, c3, rfl, o3, b3⟩
  have o2 := OI_keep o2 b3
  have B3 := bthru b2 b3
  go_wp2_with fail
  refine (laws_dmInts A2 A3 ws ws c2 c3 _ o2.is o3.is (by omega)).mono ?_
  rintro e w4 ⟨rfl, b4⟩
  simp only [decide_true]
  have o2 := OI_keep o2 b4
  have o3 := OI_keep o3 b4
  have B4 := bthru B3 b4
  cases hr : ffit l n m with
  | none =>
    have e1 : ok = false := by rw [← HK.out, hr]; rfl
    subst e1
    clear hr
    go_wp2_with fail
    refine (laws_dmInts A2 A3 ws ws c2 c3 _ o2.is o3.is (by omega)).mono ?_
    rintro e w5 ⟨rfl, b5⟩
    simp only [decide_true]
    go_wp2_with fail
    go_ret
    exact ⟨rfl, bthru hb (bthru B4 b5)⟩
  | some ws' =>
    have e1 : ok = true := by rw [← HK.out, hr]; rfl
    have e2 : ws' = ws := by rw [← HW.out, ffL, hr]; rfl
    subst e1
    subst e2
    obtain ⟨hS, n1, n3, _, _, _⟩ := ffit_some hr
    have hT := text_tasks l hS
    rw [HF.out] at hT
    have HR := Lib.hid hr
    clear hr hS
    by_cases hm : m = 0
    case neg =>
      have e1 : (m != 0) = true := by rw [bne_iff_ne]; exact hm
      clear hm
      go_wp2_with fail
      refine (laws_dmInts A2 A3 ws' ws' c2 c3 _ o2.is o3.is (by omega)).mono ?_
      rintro e w5 ⟨rfl, b5⟩
      simp only [decide_true]
      go_wp2_with fail
      go_ret
      exact ⟨rfl, bthru hb (bthru B4 b5)⟩
    subst hm
    have hnl := num_len n (by omega)
    have hX := num_no 10 n (by decide)
    obtain ⟨P, hP⟩ : ∃ P, fmtPack l ws' = P := ⟨_, rfl⟩
    have hPl : P.length ≤ 1800 := by rw [← hP]; exact fmtPack_le l ws'
    have HP := Lib.hid hP
    clear hP
    have hK : ∀ o : List UInt8, o.length ≤ 700000 → CountIs [112, 97, 99, 107] n ⟨l, 0, [], 0, o⟩ ⟨l, 0, [], 0, o ++ P ++ ([101, 110, 100] ++ [10])⟩ := fun o ho => by
      have := count_pack n ⟨l, 0, [], 0, o⟩ ws' HR.out hlm ho
      rw [HP.out] at this
      exact this
    go_wp2_with fail
    refine (impl_FormatSet A l c _ (hO.ts.keep B4)).mono ?_
    rw [HF.out]
    rintro e w5 ⟨rfl, b5⟩
    have B5 := bthru B4 b5
    have o2 := OI_keep o2 b5
    go_wp2_with fail
    refine (dm_num n (by omega) (by omega) _).mono ?_
    rintro e w6 ⟨rfl, b6⟩
    have B6 := bthru B5 b6
    have o2 := OI_keep o2 b6
    have hp : pieces [10] (([116, 97, 115, 107, 115, 32] ++ F) ++ [10] ++ (([112, 97, 99, 107, 32] ++ num n) ++ [10] ++ ([]))) = [[116, 97, 115, 107, 115, 32] ++ F, [112, 97, 99, 107, 32] ++ num n, []] := by
      rw [pieces_app 10 [] _ _ (by simp [HF10]), pieces_app 10 [] _ _ (by simp [hX]), pieces_no 10 [] [] (by simp)]
    have hC : Chain [[116, 97, 115, 107, 115, 32] ++ F, [112, 97, 99, 107, 32] ++ num n, []] St0 ⟨l, 0, [], 0, St0.out ++ (F ++ [10]) ++ P ++ ([101, 110, 100] ++ [10])⟩ := by
      refine .step (by simp) (by simp [St0] <;> omega) (do_text (x := [116, 97, 115, 107, 115]) (by decide) (by simp <;> omega) (hT _ (by simp [St0] <;> omega))) ?_
      refine .step (by simp) (by simp [St0] <;> omega) (do_count (x := [112, 97, 99, 107]) (n := n) (by decide) (by simp) (by omega) (by omega) (text_no_pack _ _) (hK _ (by simp [St0] <;> omega))) ?_
      exact .skip (.nil _)
    go_wp2_with fail
    refine (impl_RunScript _ _ (((ByteArray.mk F.toArray ++ ByteArray.mk #[10]) ++ ByteArray.mk P.toArray) ++ ByteArray.mk #[101, 110, 100, 10]) ?hT _ hp _ ?hR _ (by simp <;> omega) (by simp) hC (by simp) ((hM.keep (bthru hb B6)).up (Below.size (bthru hb B6)))).mono ?_
    case hT => simp only [mk_app]; simp
    case hR => simp only [mk_app]; simp [St0]
    rintro e w7 ⟨rfl, b7⟩
    have B7 := bthru B6 b7
    have o2 := OI_keep o2 b7
    go_wp2_with fail
    refine (impl_FormatPack A A2 l ws' c c2 _ (hO.ts.keep B7) o2.is).mono ?_
    rw [HP.out]
    rintro e w8 ⟨rfl, b8⟩
    go_wp2_with fail
    go_ret
    exact ⟨rfl, bthru hb (bthru B7 b8)⟩

open Go.ChangeShapes Go.WideShapes Go.ChangeAt Go.WideElems Go.Deep

set_option maxRecDepth 100000 in
set_option maxHeartbeats 4000000 in
theorem FnScriptPack_lifted (os : Os) (started : os.Started) (H : Type) (enc : TypeId × Value → H) :
    ReturnsInHanded {} Tryz.checked os 17 .any (fun w args => (Rows.fnScriptPackSpec.pre enc Tryz.prog Tryz.f17 [] false w args ∧ laidMetH Tryz.prog Rows.fnScriptPackRow.laid w) ∧ sizedMet enc Tryz.prog Tryz.f17 (OpenSpec.ofChange Rows.fnScriptPackSpec) false w args) (Rows.fnScriptPackSpec.post enc Tryz.prog Tryz.f17 false true false false) := by
  refine returns_row (C := Tryz.checked) (X := fun w _ => laidMetH Tryz.prog Rows.fnScriptPackRow.laid w) (fun _ _ _ hh h => h.of_heap hh) own started (by as_aux_lemma => kernel_rfl) Tryz.func17
    (ChangeSpec.witness_shaped (enc := enc) (C := Tryz.checked) (os := os) (X := fun w _ => laidMetH Tryz.prog Rows.fnScriptPackRow.laid w) false (World.laidAll Tryz.prog os Rows.fnScriptPackRow.laid) #[.slice none 0 0] 8 (World.laidAll_os _ _ _) (shapedS os) (by as_aux_lemma => kernel_rfl) (by as_aux_lemma => kernel_rfl) (by as_aux_lemma => kernel_rfl) (metS os _)) ?_
  intro W base args ds gs before hval0 hW hL hsh
  have hM : Mx W.heap.size W := mx_of hL hsh (by as_aux_lemma => rfl)
  have hval : ∀ (j : Nat) t v, Tryz.f17.params[j]? = some t → args[j]? = some v → Value.okWide Tryz.prog W .any base t v := hval0
  have hW' := hW
  obtain ⟨p, q, hA0, hV, rfl, _, _⟩ := hW
  have hA : DataW.TrodAll enc Tryz.prog W 0 (fun _ => true) true Tryz.f17.params.toList args.toList ds p := hA0
  rw [Tryz.params17] at hA hval
  obtain ⟨v0, d0, rfl, rfl, h0⟩ := trodAll_one hA
  obtain ⟨rfl, rfl⟩ := trodVars_none hV
  clear hA0 hval0
  simp only [List.append_nil] at hW'
  have hlt : ∀ x ∈ p, x.block < W.heap.size := fun x hx => hW'.lt x (by simpa using hx)
  have hargs : ∀ W', Below W.heap.size W W' → DataW.TrodAll enc Tryz.prog W' 0 (fun b => decide (b < W.heap.size)) true [22] [v0] [d0] (p) := fun W' hb =>
    trodAll_mk1 (Below.trod laidOut (by as_aux_lemma => kernel_rfl) (of_decide_eq_true (by as_aux_lemma => kernel_rfl)) h0 hb (fun x hx => hlt x (by simp [hx])))
  obtain ⟨A0, l0, c0, rfl, hlc0, hlm0, hlw0, hl0⟩ := open_kind Tryz.underlying22 Tryz.underlying5 (by as_aux_lemma => kernel_rfl) (okWide_slice Tryz.underlying22 (hval 0 _ v0 rfl rfl)) h0
  refine (law_FnScriptPack A0 l0 c0 W ⟨fun x hx => byte_wf (hlw0 x hx), hl0⟩ hlm0 hlc0 hM).mono fun e W' ⟨he, hb⟩ => ?_
  subst he
  exact ⟨_, rfl, ⟨_, _, _, [], _, [], hW', trodAll_mk1 (shut_bool Tryz.underlying4 _), hargs W' hb, rfl, hb.frame _, fun h => by cases h⟩⟩

set_option maxHeartbeats 4000000 in
theorem FnScriptPack_joined : joinedFacts Tryz.prog 17 Tryz.f17 Rows.fnScriptPackSpec Rows.fnScriptPackRow = true :=
  joined_mk (by as_aux_lemma => kernel_rfl) laidOut mapsRowed_ok (by as_aux_lemma => kernel_rfl) (by as_aux_lemma => kernel_rfl) (by as_aux_lemma => kernel_rfl) stops_ok (by as_aux_lemma => kernel_rfl) knobs_ok (by as_aux_lemma => kernel_rfl) (by as_aux_lemma => kernel_rfl) (by as_aux_lemma => kernel_rfl) (by as_aux_lemma => kernel_rfl) (by as_aux_lemma => kernel_rfl) (by as_aux_lemma => kernel_rfl) (by as_aux_lemma => kernel_rfl) (by as_aux_lemma => kernel_rfl) (by as_aux_lemma => kernel_rfl) (by as_aux_lemma => kernel_rfl) (by as_aux_lemma => kernel_rfl) (by as_aux_lemma => kernel_rfl) (by as_aux_lemma => kernel_rfl) (by rw [keys_ok]; rfl) (by as_aux_lemma => kernel_rfl) heard_ok enter_ok (by rw [lifts_ok]; rfl) (by rw [make_ok]; rfl) (by as_aux_lemma => kernel_rfl) (by as_aux_lemma => kernel_rfl) (by as_aux_lemma => kernel_rfl) (by as_aux_lemma => kernel_rfl)

theorem FnScriptPack_holds : Rows.FnScriptPackSaid :=
  OpenClaim.holds_of_wide 17 Tryz.f17 rfl rfl rfl rfl rfl rfl rfl ⟨rfl, rfl, rfl, rfl, rfl⟩ rfl rfl rfl rfl rfl (by as_aux_lemma => kernel_rfl) Tryz.func17 FnScriptPack_joined
    (of_decide_eq_true (by as_aux_lemma => kernel_rfl)) (by unfold Func.isWrapper; rw [if_neg (by decide +kernel)]; exact ⟨rfl, rfl⟩)
    (fun os started H enc _ => FnScriptPack_lifted os started H enc)

set_option maxHeartbeats 4000000 in
theorem FnScriptPack_card : Rows.FnScriptPackCardSaid :=
  Claim7.holds_tied_plain_at .later [] [.data, .data, .data, .data, .sentinel, .sentinel, .pinned] true (true, "30109cd8cbb2acdc283dc4e050a6b74cca50f9e931557688499b7dc81236a7d2") true
    FnScriptPack_holds (fun _ h => by cases h) (by as_aux_lemma => kernel_rfl) (fun _ h => by cases h) fnScriptPack_row_tie rfl ⟨rfl, rfl⟩ (by as_aux_lemma => kernel_rfl) rfl
    (fun f fn hf hfn => by
      obtain rfl : f = 17 := Option.some.inj ((show Tryz.prog.funcNamed "loop.example/dualmodes/laws.FnScriptPack" = some 17 by as_aux_lemma => kernel_rfl).symm.trans hf) |>.symm
      obtain rfl : fn = Tryz.f17 := (Option.some.inj (Tryz.func17.symm.trans hfn)).symm
      exact ⟨looksS, fun j t ht => by
        rw [Tryz.params17] at ht
        have hm : t ∈ [22] := by simpa using Array.mem_of_getElem? ht
        have hall : ([22].all fun u => !Tryz.prog.wantsStandIn u) = true := by as_aux_lemma => kernel_rfl
        exact (show Tryz.prog.wantsStandIn t = false by simpa using List.all_eq_true.1 hall t hm)⟩)
    (by as_aux_lemma => kernel_rfl)
#print axioms FnScriptPack_card
end Go.Proofs.YtmlbjcjihmfcjaaGreatDoor
