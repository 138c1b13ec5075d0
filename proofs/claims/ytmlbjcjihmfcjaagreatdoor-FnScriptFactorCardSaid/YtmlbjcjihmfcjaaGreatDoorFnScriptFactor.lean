/-
  FnScriptFactor returns true for every code.
-/
import Derived.Test.YtmlbjcjihmfcjaaGreatDoorDrawFac
import Derived.Test.YtmlbjcjihmfcjaaGreatDoorFacS
import Derived.Test.YtmlbjcjihmfcjaaGreatDoorShareT
import Derived.Test.YtmlbjcjihmfcjaaGreatDoorWords
import Derived.Test.YtmlbjcjihmfcjaaGreatDoorDoor
import Derived.Test.YtmlbjcjihmfcjaaGreatDoorOpen
import Derived.Test.YtmlbjcjihmfcjaaGreatDoorTie
import Derived.Test.YtmlbjcjihmfcjaaGreatDoorCards
namespace Go.Proofs.YtmlbjcjihmfcjaaGreatDoor
open Go.RowKit

theorem run_neq_share (a b : Int) (w : World) : (binOp .neq 54 (sv a b) (sv a b)).run Tryz.prog w = .ok (.bool false) w := by
  simp [go_sem]
theorem facV_bad {l : List Tk} (h : setVld l = false) : facV l = .tuple #[sv 0 0, .bool false] := by
  have : impl_ l = false := by simp [impl_, h]
  simp [facV, hldPlain, this]
theorem facV_cases {l : List Tk} (h : setVld l = true) : (∃ r, facV l = .tuple #[rv r, .bool true] ∧ RIn r) ∨ facV l = .tuple #[sv 0 0, .bool false] := by
  unfold facV
  split
  · refine .inl ⟨1, rfl, ?_⟩
    simp [RIn]
  · split
    · rename_i hf
      simp only [Bool.and_eq_true, Bool.not_eq_true'] at hf
      exact .inl ⟨_, rfl, (facOk h hf.2).facIn⟩
    · exact .inr rfl
set_option maxHeartbeats 4000000 in
set_option maxRecDepth 100000 in
theorem plain_factor (s : St) (r : Rat) (hr : facV s.l = .tuple #[rv r, .bool true]) (hR : RIn r) (hl : s.l.length ≤ maxLen) (ho : s.out.length ≤ 700000) : PlainIs [102, 97, 99, 116, 111, 114] s { s with out := s.out ++ (([102, 97, 99, 116, 111, 114, 32] ++ shareT r) ++ [10]) } := by
  intro B b w hM D hBw
  have D0 := D
  obtain ⟨A, c, jv, c0, c1, c2, f0, f1, f2, hO, hlc⟩ := D0.cells
  go_enter Tryz.func172, Tryz.ntmps172
  have hnl := shareT_len r hR
  go_wp2_with fail
  refine (impl_FactorOf A s.l c _ hO.ts hl).mono ?_
  rw [hr]
  rintro e w1 ⟨rfl, b1⟩
  have D1 := D.keep b1
  have F1 := (Frm.refl B b w).thru hBw b1
  have F1 := F1.thru hBw (bal (Below.refl w1.heap.size w1) (.cells #[.int .i64 r.num, .int .i64 (r.den : Int)] 54 (0, 0)))
  have D1 := D1.keep (bal (Below.refl w1.heap.size w1) (.cells #[.int .i64 r.num, .int .i64 (r.den : Int)] 54 (0, 0)))
  go_wp2_with fail
  refine (impl_FormatShare r hR _ (hM.keep F1.2) (Nat.le_trans hBw F1.size)).mono ?_
  rintro e w1' ⟨rfl, b1'⟩
  replace F1 := F1.thru hBw b1'
  replace D1 := D1.keep b1'
  go_wp2_with fail
  refine (desk_tell D1 ([102, 97, 99, 116, 111, 114, 32] ++ shareT r) _ (mk_app _ _) (by simp <;> omega) (Nat.le_trans hBw F1.size)).mono ?_
  rintro e w2 ⟨rfl, D2, F2⟩
  go_wp2_with fail
  go_ret
  exact ⟨rfl, D2, F1.trans F2⟩
set_option maxHeartbeats 4000000 in
set_option maxRecDepth 100000 in
theorem plain_factor_no (s : St) (hr : facV s.l = .tuple #[sv 0 0, .bool false]) (hl : s.l.length ≤ maxLen) (ho : s.out.length ≤ 700000) : PlainIs [102, 97, 99, 116, 111, 114] s { s with out := s.out ++ ([110, 111, 110, 101] ++ [10]) } := by
  intro B b w hM D hBw
  have D0 := D
  obtain ⟨A, c, jv, c0, c1, c2, f0, f1, f2, hO, hlc⟩ := D0.cells
  go_enter Tryz.func172, Tryz.ntmps172
  go_wp2_with fail
  refine (impl_FactorOf A s.l c _ hO.ts hl).mono ?_
  rw [hr]
  rintro e w1 ⟨rfl, b1⟩
  have D1 := D.keep b1
  have F1 := (Frm.refl B b w).thru hBw b1
  have F1 := F1.thru hBw (bal (Below.refl w1.heap.size w1) (.cells #[.int .i64 0, .int .i64 0] 54 (0, 0)))
  have D1 := D1.keep (bal (Below.refl w1.heap.size w1) (.cells #[.int .i64 0, .int .i64 0] 54 (0, 0)))
  go_wp2_with fail
  refine (desk_tell D1 [110, 111, 110, 101] _ (rfl) (by simp <;> omega) (Nat.le_trans hBw F1.size)).mono ?_
  rintro e w2 ⟨rfl, D2, F2⟩
  go_wp2_with fail
  go_ret
  exact ⟨rfl, D2, F1.trans F2⟩

set_option maxHeartbeats 4000000 in
set_option maxRecDepth 100000 in
theorem law_FnScriptFactor (A0 : Option Addr) (code : List Int) (c0 : Nat) (w : World) (h : BS w A0 code) (hl : code.length ≤ maxLen) (hlc : code.length ≤ c0) (hM : Mx w.heap.size w) :
    Calls Tryz.prog 13 #[.slice A0 code.length c0] w fun e w' => e = .returned (.bool true) ∧ Below w.heap.size w w' := by
  have hl' := hl
  unfold maxLen at hl'
  by_cases h1 : code.length ≤ 1048576
  case neg =>
    go_enter Tryz.func13, Tryz.ntmps13
    go_wp2_with fail
    go_ret
    exact ⟨rfl, Below.refl _ _⟩
  go_enter Tryz.func13, Tryz.ntmps13
  go_wp2_with fail
  refine (spec_DrawFactorOf A0 code c0 w h hl hlc).mono ?_
  rintro e w1 ⟨A, c, l, rfl, hO, hl6, hb⟩
  have hsz := own_size hO
  obtain ⟨hsz1, hsz2⟩ := hsz
  have hlm : l.length ≤ maxLen := by unfold maxLen; omega
  clear hsz2
  obtain ⟨F, hF⟩ : ∃ F, fmtSet l = F := ⟨_, rfl⟩
  have HFl : F.length ≤ 510 := by rw [← hF]; exact fmtSet_le _
  have HF10 : (10 : UInt8) ∉ F := by rw [← hF]; exact fmtSet_no _
  have HF := Lib.hid hF
  clear hF
  have hq0 := fun (w : World) => run_eql_share 0 0 w
  have hn0 := fun (w : World) => run_neq_share 0 0 w
  cases hS : setVld l with
  | false =>
    have hv : facV l = .tuple #[sv 0 0, .bool false] := facV_bad hS
    have HV := Lib.hid hv
    have HS := Lib.hid hS
    clear hv hS
    go_wp2_with fail
    refine (impl_FactorOf A l c _ hO.ts hlm).mono ?_
    rw [HV.out]
    rintro e w2 ⟨rfl, b2⟩
    have k2 := bal b2 (.cells #[.int .i64 0, .int .i64 0] 54 (0, 0))
    have hN2 := heap_alloc_new w2 (.cells #[.int .i64 0, .int .i64 0] 54 (0, 0))
    go_upto_region 5 with fail
    generalize World.alloc w2 _ = wa at k2 hN2 ⊢
    generalize w2.heap.size = n2 at hN2 ⊢
    go_wp2_with fail
    refine (spec_FactorOf A l c _ (hO.ts.keep k2) hlm).mono ?_
    rw [HV.out]
    rintro e w3 ⟨rfl, b3⟩
    have HN2 := Lib.hid ((b3.block n2 (Array.getElem?_eq_some_iff.1 hN2).1).trans hN2)
    clear hN2
    have k3 := bal b3 (.cells #[.int .i64 0, .int .i64 0] 54 (0, 0))
    have hN3 := heap_alloc_new w3 (.cells #[.int .i64 0, .int .i64 0] 54 (0, 0))
    have HN2' := Lib.hid ((Below.heap_alloc w3 (.cells #[.int .i64 0, .int .i64 0] 54 (0, 0)) n2 (Array.getElem?_eq_some_iff.1 HN2.out).1).trans HN2.out)
    have B3 := bthru k2 k3
    go_upto_region 6 with fail
    generalize World.alloc w3 _ = wb at k3 hN3 HN2' B3 ⊢
    generalize w3.heap.size = n3 at hN3 ⊢
    clear HN2
    obtain ⟨x0, x1, xf⟩ := blk_two HN2'.out
    obtain ⟨y0, y1, yf⟩ := blk_two hN3
    have HN3 := Lib.hid hN3
    clear hN3
    go_wp2_with fail
    refine (impl_SetValid A l c _ (hO.ts.keep B3)).mono ?_
    rw [HS.out]
    rintro e w4 ⟨rfl, b4⟩
    clear x0 x1 y0 y1 xf yf
    obtain ⟨x0, x1, xf⟩ := blk_two ((b4.block n2 (Array.getElem?_eq_some_iff.1 HN2'.out).1).trans HN2'.out)
    obtain ⟨y0, y1, yf⟩ := blk_two ((b4.block n3 (Array.getElem?_eq_some_iff.1 HN3.out).1).trans HN3.out)
    have B4 := bthru B3 b4
    go_wp2_with fail
    go_ret
    exact ⟨rfl, bthru hb B4⟩
  | true =>
    have hT := text_tasks l hS
    rw [HF.out] at hT
    have HS := Lib.hid hS
    rcases facV_cases hS with ⟨r, hv, hR⟩ | hv
    · have hq1 := fun (w : World) => run_eql_share r.num r.den w
      have hn1 := fun (w : World) => run_neq_share r.num r.den w
      have hrl := shareT_len r hR
      have HV := Lib.hid hv
      clear hv hS hq0 hn0
      go_wp2_with fail
      refine (impl_FactorOf A l c _ hO.ts hlm).mono ?_
      rw [HV.out]
      rintro e w2 ⟨rfl, b2⟩
      have k2 := bal b2 (.cells #[.int .i64 r.num, .int .i64 (r.den : Int)] 54 (0, 0))
      have hN2 := heap_alloc_new w2 (.cells #[.int .i64 r.num, .int .i64 (r.den : Int)] 54 (0, 0))
      go_upto_region 5 with fail
      generalize World.alloc w2 _ = wa at k2 hN2 ⊢
      generalize w2.heap.size = n2 at hN2 ⊢
      go_wp2_with fail
      refine (spec_FactorOf A l c _ (hO.ts.keep k2) hlm).mono ?_
      rw [HV.out]
      rintro e w3 ⟨rfl, b3⟩
      have HN2 := Lib.hid ((b3.block n2 (Array.getElem?_eq_some_iff.1 hN2).1).trans hN2)
      clear hN2
      have k3 := bal b3 (.cells #[.int .i64 r.num, .int .i64 (r.den : Int)] 54 (0, 0))
      have hN3 := heap_alloc_new w3 (.cells #[.int .i64 r.num, .int .i64 (r.den : Int)] 54 (0, 0))
      have HN2' := Lib.hid ((Below.heap_alloc w3 (.cells #[.int .i64 r.num, .int .i64 (r.den : Int)] 54 (0, 0)) n2 (Array.getElem?_eq_some_iff.1 HN2.out).1).trans HN2.out)
      have B3 := bthru k2 k3
      go_upto_region 6 with fail
      generalize World.alloc w3 _ = wb at k3 hN3 HN2' B3 ⊢
      generalize w3.heap.size = n3 at hN3 ⊢
      clear HN2
      obtain ⟨x0, x1, xf⟩ := blk_two HN2'.out
      obtain ⟨y0, y1, yf⟩ := blk_two hN3
      have HN3 := Lib.hid hN3
      clear hN3
      go_wp2_with fail
      refine (impl_SetValid A l c _ (hO.ts.keep B3)).mono ?_
      rw [HS.out]
      rintro e w4 ⟨rfl, b4⟩
      clear x0 x1 y0 y1 xf yf
      obtain ⟨x0, x1, xf⟩ := blk_two ((b4.block n2 (Array.getElem?_eq_some_iff.1 HN2'.out).1).trans HN2'.out)
      obtain ⟨y0, y1, yf⟩ := blk_two ((b4.block n3 (Array.getElem?_eq_some_iff.1 HN3.out).1).trans HN3.out)
      have B4 := bthru B3 b4
      go_wp2_with fail
      refine (impl_FormatSet A l c _ (hO.ts.keep B4)).mono ?_
      rw [HF.out]
      rintro e w5 ⟨rfl, b5⟩
      clear x0 x1 y0 y1 xf yf
      obtain ⟨x0, x1, xf⟩ := blk_two (((bthru b4 b5).block n2 (Array.getElem?_eq_some_iff.1 HN2'.out).1).trans HN2'.out)
      obtain ⟨y0, y1, yf⟩ := blk_two (((bthru b4 b5).block n3 (Array.getElem?_eq_some_iff.1 HN3.out).1).trans HN3.out)
      have B5 := bthru B4 b5
      clear y0 y1 yf
      go_wp2_with fail
      refine (impl_FormatShare r hR _ (hM.keep (bthru hb B5)) (Below.size (bthru hb B5))).mono ?_
      rintro e w6 ⟨rfl, b6⟩
      have B6 := bthru B5 b6
      clear x0 x1 xf
      have hp : pieces [10] (([116, 97, 115, 107, 115, 32] ++ F) ++ [10] ++ (([102, 97, 99, 116, 111, 114]) ++ [10] ++ ([]))) = [[116, 97, 115, 107, 115, 32] ++ F, [102, 97, 99, 116, 111, 114], []] := by
        rw [pieces_app 10 [] _ _ (by simp [HF10]), pieces_app 10 [] _ _ (by decide), pieces_no 10 [] [] (by simp)]
      have hC : Chain [[116, 97, 115, 107, 115, 32] ++ F, [102, 97, 99, 116, 111, 114], []] St0 ⟨l, 0, [], 0, St0.out ++ (F ++ [10]) ++ (([102, 97, 99, 116, 111, 114, 32] ++ shareT r) ++ [10])⟩ := by
        refine .step (by simp) (by simp [St0] <;> omega) (do_text (x := [116, 97, 115, 107, 115]) (by decide) (by simp <;> omega) (hT _ (by simp [St0] <;> omega))) ?_
        refine .step (by simp) (by simp [St0] <;> omega) (do_plain (by decide) (by simp) (plain_factor _ r HV.out hR hlm (by simp [St0] <;> omega))) ?_
        exact .skip (.nil _)
      go_wp2_with fail
      refine (impl_RunScript _ _ ((ByteArray.mk F.toArray ++ ByteArray.mk #[10]) ++ ((ByteArray.mk #[102, 97, 99, 116, 111, 114, 32] ++ ByteArray.mk (shareT r).toArray) ++ ByteArray.mk #[10])) ?hT _ hp _ ?hR _ (by simp <;> omega) (by simp) hC (by simp) ((hM.keep (bthru hb B6)).up (Below.size (bthru hb B6)))).mono ?_
      case hT => simp only [mk_app]; simp
      case hR => simp only [mk_app]; simp [St0]
      rintro e w7 ⟨rfl, b7⟩
      go_wp2_with fail
      go_ret
      exact ⟨rfl, bthru hb (bthru B6 b7)⟩
    · have HV := Lib.hid hv
      clear hv hS
      go_wp2_with fail
      refine (impl_FactorOf A l c _ hO.ts hlm).mono ?_
      rw [HV.out]
      rintro e w2 ⟨rfl, b2⟩
      have k2 := bal b2 (.cells #[.int .i64 0, .int .i64 0] 54 (0, 0))
      have hN2 := heap_alloc_new w2 (.cells #[.int .i64 0, .int .i64 0] 54 (0, 0))
      go_upto_region 5 with fail
      generalize World.alloc w2 _ = wa at k2 hN2 ⊢
      generalize w2.heap.size = n2 at hN2 ⊢
      go_wp2_with fail
      refine (spec_FactorOf A l c _ (hO.ts.keep k2) hlm).mono ?_
      rw [HV.out]
      rintro e w3 ⟨rfl, b3⟩
      have HN2 := Lib.hid ((b3.block n2 (Array.getElem?_eq_some_iff.1 hN2).1).trans hN2)
      clear hN2
      have k3 := bal b3 (.cells #[.int .i64 0, .int .i64 0] 54 (0, 0))
      have hN3 := heap_alloc_new w3 (.cells #[.int .i64 0, .int .i64 0] 54 (0, 0))
      have HN2' := Lib.hid ((Below.heap_alloc w3 (.cells #[.int .i64 0, .int .i64 0] 54 (0, 0)) n2 (Array.getElem?_eq_some_iff.1 HN2.out).1).trans HN2.out)
      have B3 := bthru k2 k3
      go_upto_region 6 with fail
      generalize World.alloc w3 _ = wb at k3 hN3 HN2' B3 ⊢
      generalize w3.heap.size = n3 at hN3 ⊢
      clear HN2
      obtain ⟨x0, x1, xf⟩ := blk_two HN2'.out
      obtain ⟨y0, y1, yf⟩ := blk_two hN3
      have HN3 := Lib.hid hN3
      clear hN3
      go_wp2_with fail
      refine (impl_SetValid A l c _ (hO.ts.keep B3)).mono ?_
      rw [HS.out]
      rintro e w4 ⟨rfl, b4⟩
      clear x0 x1 y0 y1 xf yf
      obtain ⟨x0, x1, xf⟩ := blk_two ((b4.block n2 (Array.getElem?_eq_some_iff.1 HN2'.out).1).trans HN2'.out)
      obtain ⟨y0, y1, yf⟩ := blk_two ((b4.block n3 (Array.getElem?_eq_some_iff.1 HN3.out).1).trans HN3.out)
      have B4 := bthru B3 b4
      go_wp2_with fail
      refine (impl_FormatSet A l c _ (hO.ts.keep B4)).mono ?_
      rw [HF.out]
      rintro e w5 ⟨rfl, b5⟩
      clear x0 x1 y0 y1 xf yf
      obtain ⟨x0, x1, xf⟩ := blk_two (((bthru b4 b5).block n2 (Array.getElem?_eq_some_iff.1 HN2'.out).1).trans HN2'.out)
      obtain ⟨y0, y1, yf⟩ := blk_two (((bthru b4 b5).block n3 (Array.getElem?_eq_some_iff.1 HN3.out).1).trans HN3.out)
      have B5 := bthru B4 b5
      have hp : pieces [10] (([116, 97, 115, 107, 115, 32] ++ F) ++ [10] ++ (([102, 97, 99, 116, 111, 114]) ++ [10] ++ ([]))) = [[116, 97, 115, 107, 115, 32] ++ F, [102, 97, 99, 116, 111, 114], []] := by
        rw [pieces_app 10 [] _ _ (by simp [HF10]), pieces_app 10 [] _ _ (by decide), pieces_no 10 [] [] (by simp)]
      have hC : Chain [[116, 97, 115, 107, 115, 32] ++ F, [102, 97, 99, 116, 111, 114], []] St0 ⟨l, 0, [], 0, St0.out ++ (F ++ [10]) ++ ([110, 111, 110, 101] ++ [10])⟩ := by
        refine .step (by simp) (by simp [St0] <;> omega) (do_text (x := [116, 97, 115, 107, 115]) (by decide) (by simp <;> omega) (hT _ (by simp [St0] <;> omega))) ?_
        refine .step (by simp) (by simp [St0] <;> omega) (do_plain (by decide) (by simp) (plain_factor_no _ HV.out hlm (by simp [St0] <;> omega))) ?_
        exact .skip (.nil _)
      go_wp2_with fail
      refine (impl_RunScript _ _ ((ByteArray.mk F.toArray ++ ByteArray.mk #[10]) ++ ByteArray.mk #[110, 111, 110, 101, 10]) ?hT _ hp _ ?hR _ (by simp <;> omega) (by simp) hC (by simp) ((hM.keep (bthru hb B5)).up (Below.size (bthru hb B5)))).mono ?_
      case hT => simp only [mk_app]; simp
      case hR => simp only [mk_app]; simp [St0]
      rintro e w7 ⟨rfl, b7⟩
      go_wp2_with fail
      go_ret
      exact ⟨rfl, bthru hb (bthru B5 b7)⟩

open Go.ChangeShapes Go.WideShapes Go.ChangeAt Go.WideElems Go.Deep

set_option maxRecDepth 100000 in
set_option maxHeartbeats 4000000 in
theorem FnScriptFactor_lifted (os : Os) (started : os.Started) (H : Type) (enc : TypeId × Value → H) :
    ReturnsInHanded {} Tryz.checked os 13 .any (fun w args => (Rows.fnScriptFactorSpec.pre enc Tryz.prog Tryz.f13 [] false w args ∧ laidMetH Tryz.prog Rows.fnScriptFactorRow.laid w) ∧ sizedMet enc Tryz.prog Tryz.f13 (OpenSpec.ofChange Rows.fnScriptFactorSpec) false w args) (Rows.fnScriptFactorSpec.post enc Tryz.prog Tryz.f13 false true false false) := by
  refine returns_row (C := Tryz.checked) (X := fun w _ => laidMetH Tryz.prog Rows.fnScriptFactorRow.laid w) (fun _ _ _ hh h => h.of_heap hh) own started (by as_aux_lemma => kernel_rfl) Tryz.func13
    (ChangeSpec.witness_shaped (enc := enc) (C := Tryz.checked) (os := os) (X := fun w _ => laidMetH Tryz.prog Rows.fnScriptFactorRow.laid w) false (World.laidAll Tryz.prog os Rows.fnScriptFactorRow.laid) #[.slice none 0 0] 8 (World.laidAll_os _ _ _) (shapedS os) (by as_aux_lemma => kernel_rfl) (by as_aux_lemma => kernel_rfl) (by as_aux_lemma => kernel_rfl) (metS os _)) ?_
  intro W base args ds gs before hval0 hW hL hsh
  have hM : Mx W.heap.size W := mx_of hL hsh (by as_aux_lemma => rfl)
  have hval : ∀ (j : Nat) t v, Tryz.f13.params[j]? = some t → args[j]? = some v → Value.okWide Tryz.prog W .any base t v := hval0
  have hW' := hW
  obtain ⟨p, q, hA0, hV, rfl, _, _⟩ := hW
  have hA : DataW.TrodAll enc Tryz.prog W 0 (fun _ => true) true Tryz.f13.params.toList args.toList ds p := hA0
  rw [Tryz.params13] at hA hval
  obtain ⟨v0, d0, rfl, rfl, h0⟩ := trodAll_one hA
  obtain ⟨rfl, rfl⟩ := trodVars_none hV
  clear hA0 hval0
  simp only [List.append_nil] at hW'
  have hlt : ∀ x ∈ p, x.block < W.heap.size := fun x hx => hW'.lt x (by simpa using hx)
  have hargs : ∀ W', Below W.heap.size W W' → DataW.TrodAll enc Tryz.prog W' 0 (fun b => decide (b < W.heap.size)) true [22] [v0] [d0] (p) := fun W' hb =>
    trodAll_mk1 (Below.trod laidOut (by as_aux_lemma => kernel_rfl) (of_decide_eq_true (by as_aux_lemma => kernel_rfl)) h0 hb (fun x hx => hlt x (by simp [hx])))
  obtain ⟨A0, l0, c0, rfl, hlc0, hlm0, hlw0, hl0⟩ := open_kind Tryz.underlying22 Tryz.underlying5 (by as_aux_lemma => kernel_rfl) (okWide_slice Tryz.underlying22 (hval 0 _ v0 rfl rfl)) h0
  refine (law_FnScriptFactor A0 l0 c0 W ⟨fun x hx => byte_wf (hlw0 x hx), hl0⟩ hlm0 hlc0 hM).mono fun e W' ⟨he, hb⟩ => ?_
  subst he
  exact ⟨_, rfl, ⟨_, _, _, [], _, [], hW', trodAll_mk1 (shut_bool Tryz.underlying4 _), hargs W' hb, rfl, hb.frame _, fun h => by cases h⟩⟩

set_option maxHeartbeats 4000000 in
theorem FnScriptFactor_joined : joinedFacts Tryz.prog 13 Tryz.f13 Rows.fnScriptFactorSpec Rows.fnScriptFactorRow = true :=
  joined_mk (by as_aux_lemma => kernel_rfl) laidOut mapsRowed_ok (by as_aux_lemma => kernel_rfl) (by as_aux_lemma => kernel_rfl) (by as_aux_lemma => kernel_rfl) stops_ok (by as_aux_lemma => kernel_rfl) knobs_ok (by as_aux_lemma => kernel_rfl) (by as_aux_lemma => kernel_rfl) (by as_aux_lemma => kernel_rfl) (by as_aux_lemma => kernel_rfl) (by as_aux_lemma => kernel_rfl) (by as_aux_lemma => kernel_rfl) (by as_aux_lemma => kernel_rfl) (by as_aux_lemma => kernel_rfl) (by as_aux_lemma => kernel_rfl) (by as_aux_lemma => kernel_rfl) (by as_aux_lemma => kernel_rfl) (by as_aux_lemma => kernel_rfl) (by as_aux_lemma => kernel_rfl) (by rw [keys_ok]; rfl) (by as_aux_lemma => kernel_rfl) heard_ok enter_ok (by rw [lifts_ok]; rfl) (by rw [make_ok]; rfl) (by as_aux_lemma => kernel_rfl) (by as_aux_lemma => kernel_rfl) (by as_aux_lemma => kernel_rfl) (by as_aux_lemma => kernel_rfl)

theorem FnScriptFactor_holds : Rows.FnScriptFactorSaid :=
  OpenClaim.holds_of_wide 13 Tryz.f13 rfl rfl rfl rfl rfl rfl rfl ⟨rfl, rfl, rfl, rfl, rfl⟩ rfl rfl rfl rfl rfl (by as_aux_lemma => kernel_rfl) Tryz.func13 FnScriptFactor_joined
    (of_decide_eq_true (by as_aux_lemma => kernel_rfl)) (by unfold Func.isWrapper; rw [if_neg (by decide +kernel)]; exact ⟨rfl, rfl⟩)
    (fun os started H enc _ => FnScriptFactor_lifted os started H enc)

set_option maxHeartbeats 4000000 in
theorem FnScriptFactor_card : Rows.FnScriptFactorCardSaid :=
  Claim7.holds_tied_plain_at .later [] [.data, .data, .data, .data, .sentinel, .sentinel, .pinned] true (true, "30109cd8cbb2acdc283dc4e050a6b74cca50f9e931557688499b7dc81236a7d2") true
    FnScriptFactor_holds (fun _ h => by cases h) (by as_aux_lemma => kernel_rfl) (fun _ h => by cases h) fnScriptFactor_row_tie rfl ⟨rfl, rfl⟩ (by as_aux_lemma => kernel_rfl) rfl
    (fun f fn hf hfn => by
      obtain rfl : f = 13 := Option.some.inj ((show Tryz.prog.funcNamed "loop.example/dualmodes/laws.FnScriptFactor" = some 13 by as_aux_lemma => kernel_rfl).symm.trans hf) |>.symm
      obtain rfl : fn = Tryz.f13 := (Option.some.inj (Tryz.func13.symm.trans hfn)).symm
      exact ⟨looksS, fun j t ht => by
        rw [Tryz.params13] at ht
        have hm : t ∈ [22] := by simpa using Array.mem_of_getElem? ht
        have hall : ([22].all fun u => !Tryz.prog.wantsStandIn u) = true := by as_aux_lemma => kernel_rfl
        exact (show Tryz.prog.wantsStandIn t = false by simpa using List.all_eq_true.1 hall t hm)⟩)
    (by as_aux_lemma => kernel_rfl)
#print axioms FnScriptFactor_card
end Go.Proofs.YtmlbjcjihmfcjaaGreatDoor
