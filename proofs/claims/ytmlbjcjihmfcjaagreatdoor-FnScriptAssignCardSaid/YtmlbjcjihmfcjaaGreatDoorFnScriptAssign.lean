/-
  FnScriptAssign returns true for every code.
-/
import Derived.Test.YtmlbjcjihmfcjaaGreatDoorDrawL
import Derived.Test.YtmlbjcjihmfcjaaGreatDoorAsgS
import Derived.Test.YtmlbjcjihmfcjaaGreatDoorDm
import Derived.Test.YtmlbjcjihmfcjaaGreatDoorHoldsBy
import Derived.Test.YtmlbjcjihmfcjaaGreatDoorWords
import Derived.Test.YtmlbjcjihmfcjaaGreatDoorDoor
import Derived.Test.YtmlbjcjihmfcjaaGreatDoorOpen
import Derived.Test.YtmlbjcjihmfcjaaGreatDoorTie
import Derived.Test.YtmlbjcjihmfcjaaGreatDoorCards
namespace Go.Proofs.YtmlbjcjihmfcjaaGreatDoor
open Go.RowKit

theorem asgL_le (l : List Tk) : (asgL l).length ≤ 5 := by
  cases h : assign l with
  | none => simp [asgL, h]
  | some o =>
    obtain ⟨g1, g2, _⟩ := assign_good h
    have := setVld_len g1
    have := g2.length_eq
    simp [asgL, h, ints] at *
    omega
set_option maxHeartbeats 4000000 in
set_option maxRecDepth 100000 in
theorem plain_holds_yes (s : St) (hh : hldBy s.l s.pol = true) (hl : s.l.length ≤ maxLen) (ho : s.out.length ≤ 700000) : PlainIs [104, 111, 108, 100, 115] s { s with out := s.out ++ ([104, 111, 108, 100, 115, 32, 121, 101, 115] ++ [10]) } := by
  intro B b w hM D hBw
  have D0 := D
  obtain ⟨A, c, jv, c0, c1, c2, f0, f1, f2, hO, hlc⟩ := D0.cells
  go_enter Tryz.func172, Tryz.ntmps172
  go_wp2_with fail
  go_region_with (go_at_call 63; refine (impl_HoldsBy A s.l c s.pol _ (hO.ts.keep (bdr (Below.refl _ _) _)) hl hlc).mono ?_; rw [hh]; rintro e w1 ⟨rfl, b1⟩; replace b1 := bthru (bdr (Below.refl w.heap.size w) _) b1)
  all_goals
    have D1 := D.keep b1
    have F1 := (Frm.refl B b w).thru hBw b1
    go_wp2_with fail
    refine (desk_tell D1 [104, 111, 108, 100, 115, 32, 121, 101, 115] _ (rfl) (by simp <;> omega) (Nat.le_trans hBw F1.size)).mono ?_
    rintro e w2 ⟨rfl, D2, F2⟩
    go_wp2_with fail
    go_ret
    exact ⟨rfl, D2, F1.trans F2⟩
set_option maxHeartbeats 4000000 in
set_option maxRecDepth 100000 in
theorem plain_holds_no (s : St) (hh : hldBy s.l s.pol = false) (hl : s.l.length ≤ maxLen) (ho : s.out.length ≤ 700000) : PlainIs [104, 111, 108, 100, 115] s { s with out := s.out ++ ([104, 111, 108, 100, 115, 32, 110, 111] ++ [10]) } := by
  intro B b w hM D hBw
  have D0 := D
  obtain ⟨A, c, jv, c0, c1, c2, f0, f1, f2, hO, hlc⟩ := D0.cells
  go_enter Tryz.func172, Tryz.ntmps172
  go_wp2_with fail
  go_region_with (go_at_call 63; refine (impl_HoldsBy A s.l c s.pol _ (hO.ts.keep (bdr (Below.refl _ _) _)) hl hlc).mono ?_; rw [hh]; rintro e w1 ⟨rfl, b1⟩; replace b1 := bthru (bdr (Below.refl w.heap.size w) _) b1)
  all_goals
    have D1 := D.keep b1
    have F1 := (Frm.refl B b w).thru hBw b1
    go_wp2_with fail
    refine (desk_tell D1 [104, 111, 108, 100, 115, 32, 110, 111] _ (rfl) (by simp <;> omega) (Nat.le_trans hBw F1.size)).mono ?_
    rintro e w2 ⟨rfl, D2, F2⟩
    go_wp2_with fail
    go_ret
    exact ⟨rfl, D2, F1.trans F2⟩
theorem impl_OrderValid_len (A B : Option Addr) (l : List Tk) (c d : Nat) (w : World) (h : TS w A l) (h0 : l.length ≠ 0) :
    Calls Tryz.prog 130 #[.slice A l.length c, .slice B 0 d] w fun e w' => e = .returned (.bool false) ∧ Below w.heap.size w w' := by
  have hne : ((0 : Int) != (l.length : Int)) = true := by rw [bne_iff_ne]; omega
  clear h0
  cases hS : setVld l
  all_goals
    go_enter Tryz.func130, Tryz.ntmps130
    go_wp2_with fail
    refine (impl_SetValid A l c _ h).mono ?_
    rw [hS]
    rintro e w1 ⟨rfl, b1⟩
    go_wp2_with fail
    go_ret
    exact ⟨rfl, b1⟩
theorem impl_PutOrder_len (A B : Option Addr) (l : List Tk) (c d : Nat) (w : World) (h : TS w A l) (h0 : l.length ≠ 0) :
    Calls Tryz.prog 58 #[.slice A l.length c, .slice B 0 d] w fun e w' => e = .returned (.tuple #[.slice none 0 0, .bool false]) ∧ Below w.heap.size w w' := by
  go_enter Tryz.func58, Tryz.ntmps58
  go_wp2_with fail
  refine (impl_OrderValid_len A B l c d _ h h0).mono ?_
  rintro e w1 ⟨rfl, b1⟩
  go_wp2_with fail
  go_ret2
  exact ⟨rfl, b1⟩
theorem assign_len0 {l : List Tk} (h : assign l = none) : l.length ≠ 0 := by
  intro e
  have : l = [] := List.length_eq_zero_iff.1 e
  subst this
  simp [assign, setVld, aud] at h
set_option maxHeartbeats 4000000 in
set_option maxRecDepth 100000 in
theorem plain_assign (s : St) (o : List Nat) (hao : assign s.l = some o) (_hl : s.l.length ≤ maxLen) (ho : s.out.length ≤ 700000) : PlainIs [97, 115, 115, 105, 103, 110] s ⟨pick s.l o, 0, [], s.pol, s.out ++ (fmtSet (pick s.l o) ++ [10])⟩ := by
  intro B b w hM D hBw
  have D0 := D
  obtain ⟨A, c, jv, c0, c1, c2, f0, f1, f2, hO, hlc⟩ := D0.cells
  go_enter Tryz.func172, Tryz.ntmps172
  obtain ⟨g1, g2, g3⟩ := assign_good hao
  have hl5 := setVld_len g1
  have hol : Hid (o.length = s.l.length) := by have := g2.length_eq; simpa [Hid] using this
  have ho5 : o.length ≤ 5 := by rw [hol.out]; exact hl5
  have hx : ∀ x ∈ o, x < s.l.length := fun x hx => List.mem_range.1 ((g2.mem_iff).1 hx)
  have e1 : asgL s.l = ints o := by simp [asgL, hao]
  have e2 : (assign s.l).isSome = true := by simp [hao]
  have HX := Lib.hid hx
  have H1 := Lib.hid g1
  have H2 := Lib.hid g2
  have HE1 := Lib.hid e1
  have HE2 := Lib.hid e2
  clear hx g1 g2 g3 hao e1 e2
  go_wp2_with fail
  refine (impl_AssignOrder A s.l c _ hO.ts).mono ?_
  rw [HE1.out, HE2.out]
  rintro e w1 ⟨A5, c5, he, o5, b1⟩
  rw [ints_length] at he
  subst he
  have D1 := D.keep b1
  have F1 := (Frm.refl B b w).thru hBw b1
  have C1 := D1.cells
  clear c0 c1 c2 f0 f1 f2
  obtain ⟨A3, c3, jv3, c0, c1, c2, f0, f1, f2, hO3, hlc3⟩ := C1
  go_wp2_with fail
  refine (impl_PutOrder_yes A3 A5 s.l o c3 c5 _ hO3.ts o5.is HX.out (by omega) (by omega) H1.out H2.out).mono ?_
  rintro e w1' ⟨A6, c6, rfl, o6, b1'⟩
  replace F1 := F1.thru hBw b1'
  replace D1 := D1.keep b1'
  go_wp2_with fail
  refine (desk_setYes D1 A6 _ c6 (own_base o6 (Nat.le_trans hBw b1.size)) (by omega) (Nat.le_trans hBw F1.size)).mono ?_
  rintro e w2 ⟨rfl, D2, F2⟩
  go_wp2_with fail
  go_ret
  exact ⟨rfl, D2, F1.trans F2⟩
set_option maxHeartbeats 4000000 in
set_option maxRecDepth 100000 in
theorem plain_assign_no (s : St) (hao : assign s.l = none) (_hl : s.l.length ≤ maxLen) (ho : s.out.length ≤ 700000) : PlainIs [97, 115, 115, 105, 103, 110] s { s with out := s.out ++ [110, 111, 10] } := by
  intro B b w hM D hBw
  have D0 := D
  obtain ⟨A, c, jv, c0, c1, c2, f0, f1, f2, hO, hlc⟩ := D0.cells
  go_enter Tryz.func172, Tryz.ntmps172
  have h0 := assign_len0 hao
  have e1 : asgL s.l = [] := by simp [asgL, hao]
  have e2 : (assign s.l).isSome = false := by simp [hao]
  have HE1 := Lib.hid e1
  have HE2 := Lib.hid e2
  clear hao e1 e2
  go_wp2_with fail
  refine (impl_AssignOrder A s.l c _ hO.ts).mono ?_
  rw [HE1.out, HE2.out]
  rintro e w1 ⟨A5, c5, rfl, o5, b1⟩
  have D1 := D.keep b1
  have F1 := (Frm.refl B b w).thru hBw b1
  have C1 := D1.cells
  clear c0 c1 c2 f0 f1 f2
  obtain ⟨A3, c3, jv3, c0, c1, c2, f0, f1, f2, hO3, hlc3⟩ := C1
  go_wp2_with fail
  refine (impl_PutOrder_len A3 A5 s.l c3 c5 _ hO3.ts h0).mono ?_
  rintro e w1' ⟨rfl, b1'⟩
  replace F1 := F1.thru hBw b1'
  replace D1 := D1.keep b1'
  go_wp2_with fail
  refine (desk_setNo D1 _ (by omega) (Nat.le_trans hBw F1.size)).mono ?_
  rintro e w2 ⟨rfl, D2, F2⟩
  go_wp2_with fail
  go_ret
  exact ⟨rfl, D2, F1.trans F2⟩

set_option maxHeartbeats 4000000 in
set_option maxRecDepth 100000 in
theorem law_FnScriptAssign (A0 : Option Addr) (code : List Int) (c0 : Nat) (w : World) (h : BS w A0 code) (hl : code.length ≤ maxLen) (hlc : code.length ≤ c0) (hM : Mx w.heap.size w) :
    Calls Tryz.prog 12 #[.slice A0 code.length c0] w fun e w' => e = .returned (.bool true) ∧ Below w.heap.size w w' := by
  have hl' := hl
  unfold maxLen at hl'
  by_cases h1 : code.length ≤ 1048576
  case neg =>
    go_enter Tryz.func12, Tryz.ntmps12
    go_wp2_with fail
    go_ret
    exact ⟨rfl, Below.refl _ _⟩
  go_enter Tryz.func12, Tryz.ntmps12
  go_wp2_with fail
  refine (spec_DrawAssignOrder A0 code c0 w h hl hlc).mono ?_
  rintro e w1 ⟨A, c, l, rfl, hO, hl6, hb⟩
  have hsz := own_size hO
  obtain ⟨hsz1, hsz2⟩ := hsz
  have hlm : l.length ≤ maxLen := by unfold maxLen; omega
  clear hsz2
  obtain ⟨F, hF⟩ : ∃ F, fmtSet l = F := ⟨_, rfl⟩
  have HFl : F.length ≤ 510 := by rw [← hF]; exact fmtSet_le _
  have HF10 : (10 : UInt8) ∉ F := by rw [← hF]; exact fmtSet_no _
  have HF := Lib.hid hF
  clear hF
  obtain ⟨X, hX⟩ : ∃ X, asgL l = X := ⟨_, rfl⟩
  have hXl : X.length ≤ 5 := by rw [← hX]; exact asgL_le l
  have HX := Lib.hid hX
  obtain ⟨ok, hok⟩ : ∃ ok, (assign l).isSome = ok := ⟨_, rfl⟩
  have HK := Lib.hid hok
  clear hX hok
  go_wp2_with fail
  refine (impl_AssignOrder A l c _ hO.ts).mono ?_
  rw [HX.out, HK.out]
  rintro e w2 ⟨A2, c2, rfl, o2, b2⟩
  go_wp2_with fail
  refine (spec_AssignOrder A l c _ (hO.ts.keep b2) hlm).mono ?_
  rw [HX.out, HK.out]
  rintro e w3 ⟨A3, c3, rfl, o3, b3⟩
  have o2 := OI_keep o2 b3
  have B3 := bthru b2 b3
  go_wp2_with fail
  refine (laws_dmInts A2 A3 X X c2 c3 _ o2.is o3.is (by omega)).mono ?_
  rintro e w4 ⟨rfl, b4⟩
  simp only [decide_true]
  have o2 := OI_keep o2 b4
  have o3 := OI_keep o3 b4
  have B4 := bthru B3 b4
  cases hS : setVld l with
  | false =>
    cases ok
    all_goals
      go_wp2_with fail
      refine (impl_SetValid A l c _ (hO.ts.keep B4)).mono ?_
      rw [hS]
      rintro e w5 ⟨rfl, b5⟩
      have o2 := OI_keep o2 b5
      have o3 := OI_keep o3 b5
      have B5 := bthru B4 b5
      go_wp2_with fail
      refine (laws_dmInts A2 A3 X X c2 c3 _ o2.is o3.is (by omega)).mono ?_
      rintro e w6 ⟨rfl, b6⟩
      simp only [decide_true]
      go_wp2_with fail
      go_ret
      exact ⟨rfl, bthru hb (bthru B5 b6)⟩
  | true =>
    have hT := text_tasks l hS
    rw [HF.out] at hT
    have HS := Lib.hid hS
    clear hS
    cases hr : assign l with
    | none =>
      have e1 : ok = false := by rw [← HK.out, hr]; rfl
      subst e1
      have hn : hldBy l 0 = false := by
        cases hh : hldBy l 0 with
        | false => rfl
        | true =>
          have := assign_some (List.Perm.refl l) (by simpa [hldBy] using hh)
          rw [hr] at this
          cases this
      have HR := Lib.hid hr
      have HN := Lib.hid hn
      clear hr hn
      go_wp2_with fail
      refine (impl_SetValid A l c _ (hO.ts.keep B4)).mono ?_
      rw [HS.out]
      rintro e w5 ⟨rfl, b5⟩
      have o2 := OI_keep o2 b5
      have B5 := bthru B4 b5
      go_wp2_with fail
      refine (impl_FormatSet A l c _ (hO.ts.keep B5)).mono ?_
      rw [HF.out]
      rintro e w6 ⟨rfl, b6⟩
      have o2 := OI_keep o2 b6
      have B6 := bthru B5 b6
      have hp : pieces [10] (([116, 97, 115, 107, 115, 32] ++ F) ++ [10] ++ (([97, 115, 115, 105, 103, 110]) ++ [10] ++ (([104, 111, 108, 100, 115]) ++ [10] ++ ([])))) = [[116, 97, 115, 107, 115, 32] ++ F, [97, 115, 115, 105, 103, 110], [104, 111, 108, 100, 115], []] := by
        rw [pieces_app 10 [] _ _ (by simp [HF10]), pieces_app 10 [] _ _ (by decide), pieces_app 10 [] _ _ (by decide), pieces_no 10 [] [] (by simp)]
      have hC : Chain [[116, 97, 115, 107, 115, 32] ++ F, [97, 115, 115, 105, 103, 110], [104, 111, 108, 100, 115], []] St0 ⟨l, 0, [], 0, St0.out ++ (F ++ [10]) ++ [110, 111, 10] ++ ([104, 111, 108, 100, 115, 32, 110, 111] ++ [10])⟩ := by
        refine .step (by simp) (by simp [St0] <;> omega) (do_text (x := [116, 97, 115, 107, 115]) (by decide) (by simp <;> omega) (hT _ (by simp [St0] <;> omega))) ?_
        refine .step (by simp) (by simp [St0] <;> omega) (do_plain (by decide) (by simp) (plain_assign_no _ HR.out hlm (by simp [St0] <;> omega))) ?_
        refine .step (by simp) (by simp [St0] <;> omega) (do_plain (by decide) (by simp) (plain_holds_no _ HN.out hlm (by simp [St0] <;> omega))) ?_
        exact .skip (.nil _)
      go_wp2_with fail
      refine (impl_RunScript _ _ (ByteArray.mk F.toArray ++ ByteArray.mk #[10, 110, 111, 10, 104, 111, 108, 100, 115, 32, 110, 111, 10]) ?hT _ hp _ ?hR _ (by simp <;> omega) (by simp) hC (by simp) ((hM.keep (bthru hb B6)).up (Below.size (bthru hb B6)))).mono ?_
      case hT => simp only [mk_app]; simp
      case hR => simp only [mk_app]; simp [St0]
      rintro e w7 ⟨rfl, b7⟩
      go_wp2_with fail
      go_ret
      exact ⟨rfl, bthru hb (bthru B6 b7)⟩
    | some o =>
      have e1 : ok = true := by rw [← HK.out, hr]; rfl
      subst e1
      obtain ⟨g1, g2, g3⟩ := assign_good hr
      have hXo : X = ints o := by rw [← HX.out, asgL, hr]
      subst hXo
      have hl5 := setVld_len g1
      have hol : Hid (o.length = l.length) := by have := g2.length_eq; simpa [Hid] using this
      have ho5 : o.length ≤ 5 := by rw [hol.out]; exact hl5
      have hx : ∀ x ∈ o, x < l.length := fun x hx => List.mem_range.1 ((g2.mem_iff).1 hx)
      have hA := plain_assign ⟨l, 0, [], 0, St0.out ++ (F ++ [10])⟩ o hr hlm (by simp [St0] <;> omega)
      have hH := plain_holds_yes ⟨pick l o, 0, [], 0, St0.out ++ (F ++ [10]) ++ (fmtSet (pick l o) ++ [10])⟩ (by simpa [hldBy] using g3) (by simp [pick]; unfold maxLen; omega) (by have := fmtSet_le (pick l o); simp [St0] <;> omega)
      have HXX := Lib.hid hx
      have H1 := Lib.hid g1
      have H2 := Lib.hid g2
      have HR := Lib.hid hr
      clear hx g1 g2 g3 hr
      dsimp only at hA hH
      go_wp2_with fail
      refine (impl_SetValid A l c _ (hO.ts.keep B4)).mono ?_
      rw [HS.out]
      rintro e w5 ⟨rfl, b5⟩
      have o2 := OI_keep o2 b5
      have B5 := bthru B4 b5
      go_wp2_with fail
      refine (impl_FormatSet A l c _ (hO.ts.keep B5)).mono ?_
      rw [HF.out]
      rintro e w6 ⟨rfl, b6⟩
      have o2 := OI_keep o2 b6
      have B6 := bthru B5 b6
      obtain ⟨G, hG⟩ : ∃ G, fmtSet (pick l o) = G := ⟨_, rfl⟩
      have HGl : G.length ≤ 510 := by rw [← hG]; exact fmtSet_le _
      have HG10 : (10 : UInt8) ∉ G := by rw [← hG]; exact fmtSet_no _
      have HG := Lib.hid hG
      clear hG
      rw [HG.out] at hA hH
      rw [ints_length]
      go_wp2_with fail
      refine (impl_PutOrder_yes A A2 l o c c2 _ (hO.ts.keep B6) o2.is HXX.out (by omega) (by omega) H1.out H2.out).mono ?_
      rintro e w7 ⟨A7, c7, rfl, o7, b7⟩
      have B7 := bthru B6 b7
      have hp : pieces [10] (([116, 97, 115, 107, 115, 32] ++ F) ++ [10] ++ (([97, 115, 115, 105, 103, 110]) ++ [10] ++ (([104, 111, 108, 100, 115]) ++ [10] ++ ([])))) = [[116, 97, 115, 107, 115, 32] ++ F, [97, 115, 115, 105, 103, 110], [104, 111, 108, 100, 115], []] := by
        rw [pieces_app 10 [] _ _ (by simp [HF10]), pieces_app 10 [] _ _ (by decide), pieces_app 10 [] _ _ (by decide), pieces_no 10 [] [] (by simp)]
      have hC : Chain [[116, 97, 115, 107, 115, 32] ++ F, [97, 115, 115, 105, 103, 110], [104, 111, 108, 100, 115], []] St0 ⟨pick l o, 0, [], 0, St0.out ++ (F ++ [10]) ++ (G ++ [10]) ++ ([104, 111, 108, 100, 115, 32, 121, 101, 115] ++ [10])⟩ := by
        refine .step (by simp) (by simp [St0] <;> omega) (do_text (x := [116, 97, 115, 107, 115]) (by decide) (by simp <;> omega) (hT _ (by simp [St0] <;> omega))) ?_
        refine .step (by simp) (by simp [St0] <;> omega) (do_plain (by decide) (by simp) (hA)) ?_
        refine .step (by simp) (by simp [St0] <;> omega) (do_plain (by decide) (by simp) (hH)) ?_
        exact .skip (.nil _)
      go_wp2_with fail
      refine (impl_RunScript _ _ (((ByteArray.mk F.toArray ++ ByteArray.mk #[10]) ++ ByteArray.mk G.toArray) ++ ByteArray.mk #[10, 104, 111, 108, 100, 115, 32, 121, 101, 115, 10]) ?hT _ hp _ ?hR _ (by simp <;> omega) (by simp) hC (by simp) ((hM.keep (bthru hb B7)).up (Below.size (bthru hb B7)))).mono ?_
      case hT => simp only [mk_app]; simp
      case hR => simp only [mk_app]; simp [St0]
      rintro e w8 ⟨rfl, b8⟩
      have o7 := OT_keep o7 b8
      go_wp2_with fail
      refine (impl_FormatSet A7 (pick l o) c7 _ o7.ts).mono ?_
      rw [HG.out]
      rintro e w9 ⟨rfl, b9⟩
      go_wp2_with fail
      go_ret
      exact ⟨rfl, bthru hb (bthru (bthru B7 b8) b9)⟩

open Go.ChangeShapes Go.WideShapes Go.ChangeAt Go.WideElems Go.Deep

set_option maxRecDepth 100000 in
set_option maxHeartbeats 4000000 in
theorem FnScriptAssign_lifted (os : Os) (started : os.Started) (H : Type) (enc : TypeId × Value → H) :
    ReturnsInHanded {} Tryz.checked os 12 .any (fun w args => (Rows.fnScriptAssignSpec.pre enc Tryz.prog Tryz.f12 [] false w args ∧ laidMetH Tryz.prog Rows.fnScriptAssignRow.laid w) ∧ sizedMet enc Tryz.prog Tryz.f12 (OpenSpec.ofChange Rows.fnScriptAssignSpec) false w args) (Rows.fnScriptAssignSpec.post enc Tryz.prog Tryz.f12 false true false false) := by
  refine returns_row (C := Tryz.checked) (X := fun w _ => laidMetH Tryz.prog Rows.fnScriptAssignRow.laid w) (fun _ _ _ hh h => h.of_heap hh) own started (by as_aux_lemma => kernel_rfl) Tryz.func12
    (ChangeSpec.witness_shaped (enc := enc) (C := Tryz.checked) (os := os) (X := fun w _ => laidMetH Tryz.prog Rows.fnScriptAssignRow.laid w) false (World.laidAll Tryz.prog os Rows.fnScriptAssignRow.laid) #[.slice none 0 0] 8 (World.laidAll_os _ _ _) (shapedS os) (by as_aux_lemma => kernel_rfl) (by as_aux_lemma => kernel_rfl) (by as_aux_lemma => kernel_rfl) (metS os _)) ?_
  intro W base args ds gs before hval0 hW hL hsh
  have hM : Mx W.heap.size W := mx_of hL hsh (by as_aux_lemma => rfl)
  have hval : ∀ (j : Nat) t v, Tryz.f12.params[j]? = some t → args[j]? = some v → Value.okWide Tryz.prog W .any base t v := hval0
  have hW' := hW
  obtain ⟨p, q, hA0, hV, rfl, _, _⟩ := hW
  have hA : DataW.TrodAll enc Tryz.prog W 0 (fun _ => true) true Tryz.f12.params.toList args.toList ds p := hA0
  rw [Tryz.params12] at hA hval
  obtain ⟨v0, d0, rfl, rfl, h0⟩ := trodAll_one hA
  obtain ⟨rfl, rfl⟩ := trodVars_none hV
  clear hA0 hval0
  simp only [List.append_nil] at hW'
  have hlt : ∀ x ∈ p, x.block < W.heap.size := fun x hx => hW'.lt x (by simpa using hx)
  have hargs : ∀ W', Below W.heap.size W W' → DataW.TrodAll enc Tryz.prog W' 0 (fun b => decide (b < W.heap.size)) true [22] [v0] [d0] (p) := fun W' hb =>
    trodAll_mk1 (Below.trod laidOut (by as_aux_lemma => kernel_rfl) (of_decide_eq_true (by as_aux_lemma => kernel_rfl)) h0 hb (fun x hx => hlt x (by simp [hx])))
  obtain ⟨A0, l0, c0, rfl, hlc0, hlm0, hlw0, hl0⟩ := open_kind Tryz.underlying22 Tryz.underlying5 (by as_aux_lemma => kernel_rfl) (okWide_slice Tryz.underlying22 (hval 0 _ v0 rfl rfl)) h0
  refine (law_FnScriptAssign A0 l0 c0 W ⟨fun x hx => byte_wf (hlw0 x hx), hl0⟩ hlm0 hlc0 hM).mono fun e W' ⟨he, hb⟩ => ?_
  subst he
  exact ⟨_, rfl, ⟨_, _, _, [], _, [], hW', trodAll_mk1 (shut_bool Tryz.underlying4 _), hargs W' hb, rfl, hb.frame _, fun h => by cases h⟩⟩

set_option maxHeartbeats 4000000 in
theorem FnScriptAssign_joined : joinedFacts Tryz.prog 12 Tryz.f12 Rows.fnScriptAssignSpec Rows.fnScriptAssignRow = true :=
  joined_mk (by as_aux_lemma => kernel_rfl) laidOut mapsRowed_ok (by as_aux_lemma => kernel_rfl) (by as_aux_lemma => kernel_rfl) (by as_aux_lemma => kernel_rfl) stops_ok (by as_aux_lemma => kernel_rfl) knobs_ok (by as_aux_lemma => kernel_rfl) (by as_aux_lemma => kernel_rfl) (by as_aux_lemma => kernel_rfl) (by as_aux_lemma => kernel_rfl) (by as_aux_lemma => kernel_rfl) (by as_aux_lemma => kernel_rfl) (by as_aux_lemma => kernel_rfl) (by as_aux_lemma => kernel_rfl) (by as_aux_lemma => kernel_rfl) (by as_aux_lemma => kernel_rfl) (by as_aux_lemma => kernel_rfl) (by as_aux_lemma => kernel_rfl) (by as_aux_lemma => kernel_rfl) (by rw [keys_ok]; rfl) (by as_aux_lemma => kernel_rfl) heard_ok enter_ok (by rw [lifts_ok]; rfl) (by rw [make_ok]; rfl) (by as_aux_lemma => kernel_rfl) (by as_aux_lemma => kernel_rfl) (by as_aux_lemma => kernel_rfl) (by as_aux_lemma => kernel_rfl)

theorem FnScriptAssign_holds : Rows.FnScriptAssignSaid :=
  OpenClaim.holds_of_wide 12 Tryz.f12 rfl rfl rfl rfl rfl rfl rfl ⟨rfl, rfl, rfl, rfl, rfl⟩ rfl rfl rfl rfl rfl (by as_aux_lemma => kernel_rfl) Tryz.func12 FnScriptAssign_joined
    (of_decide_eq_true (by as_aux_lemma => kernel_rfl)) (by unfold Func.isWrapper; rw [if_neg (by decide +kernel)]; exact ⟨rfl, rfl⟩)
    (fun os started H enc _ => FnScriptAssign_lifted os started H enc)

set_option maxHeartbeats 4000000 in
theorem FnScriptAssign_card : Rows.FnScriptAssignCardSaid :=
  Claim7.holds_tied_plain_at .later [] [.data, .data, .data, .data, .sentinel, .sentinel, .pinned] true (true, "30109cd8cbb2acdc283dc4e050a6b74cca50f9e931557688499b7dc81236a7d2") true
    FnScriptAssign_holds (fun _ h => by cases h) (by as_aux_lemma => kernel_rfl) (fun _ h => by cases h) fnScriptAssign_row_tie rfl ⟨rfl, rfl⟩ (by as_aux_lemma => kernel_rfl) rfl
    (fun f fn hf hfn => by
      obtain rfl : f = 12 := Option.some.inj ((show Tryz.prog.funcNamed "loop.example/dualmodes/laws.FnScriptAssign" = some 12 by as_aux_lemma => kernel_rfl).symm.trans hf) |>.symm
      obtain rfl : fn = Tryz.f12 := (Option.some.inj (Tryz.func12.symm.trans hfn)).symm
      exact ⟨looksS, fun j t ht => by
        rw [Tryz.params12] at ht
        have hm : t ∈ [22] := by simpa using Array.mem_of_getElem? ht
        have hall : ([22].all fun u => !Tryz.prog.wantsStandIn u) = true := by as_aux_lemma => kernel_rfl
        exact (show Tryz.prog.wantsStandIn t = false by simpa using List.all_eq_true.1 hall t hm)⟩)
    (by as_aux_lemma => kernel_rfl)
#print axioms FnScriptAssign_card
end Go.Proofs.YtmlbjcjihmfcjaaGreatDoor
