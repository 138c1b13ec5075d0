/-
  FnScriptHigh returns true for every code.
-/
import Derived.Test.YtmlbjcjihmfcjaaGreatDoorDrawHold
import Derived.Test.YtmlbjcjihmfcjaaGreatDoorMost
import Derived.Test.YtmlbjcjihmfcjaaGreatDoorWords
import Derived.Test.YtmlbjcjihmfcjaaGreatDoorDrawFmt
import Derived.Test.YtmlbjcjihmfcjaaGreatDoorDoor
import Derived.Test.YtmlbjcjihmfcjaaGreatDoorOpen
import Derived.Test.YtmlbjcjihmfcjaaGreatDoorTie
import Derived.Test.YtmlbjcjihmfcjaaGreatDoorCards
namespace Go.Proofs.YtmlbjcjihmfcjaaGreatDoor
open Go.RowKit

set_option maxHeartbeats 4000000 in
set_option maxRecDepth 100000 in
theorem count_high (x : Int) (s : St) (n : Int) (hr : mostHigh s.l x s.pol = some n) (h0 : 0 ≤ n) (h9 : n ≤ 100000) (hl : s.l.length ≤ maxLen) (ho : s.out.length ≤ 700000) : CountIs [104, 105, 103, 104] x s { s with out := s.out ++ (([104, 105, 103, 104, 32] ++ num n) ++ [10]) } := by
  intro B b w hM D hBw
  have D0 := D
  obtain ⟨A, c, jv, c0, c1, c2, f0, f1, f2, hO, hlc⟩ := D0.cells
  go_enter Tryz.func175, Tryz.ntmps175
  have hnl := num_len n (by omega)
  go_wp2_with fail
  go_region_with (go_at_call 71; refine (impl_MostHigh A s.l c x s.pol _ (hO.ts.keep (bdr (Below.refl _ _) _)) hl hlc).mono ?_; rw [hr, show optV (some n) = .tuple #[.int .i64 n, .bool true] from rfl]; rintro e w1 ⟨rfl, b1⟩; replace b1 := bthru (bdr (Below.refl w.heap.size w) _) b1)
  all_goals
    have D1 := D.keep b1
    have F1 := (Frm.refl B b w).thru hBw b1
    go_wp2_with fail
    refine (itoa_any (hM.keep F1.2) n h0 (by omega)).mono ?_
    rintro e w1' ⟨rfl, b1'⟩
    replace F1 := F1.thru hBw b1'
    replace D1 := D1.keep b1'
    go_wp2_with fail
    refine (desk_tell D1 ([104, 105, 103, 104, 32] ++ num n) _ (mk_app _ _) (by simp <;> omega) (Nat.le_trans hBw F1.size)).mono ?_
    rintro e w2 ⟨rfl, D2, F2⟩
    go_wp2_with fail
    go_ret
    exact ⟨rfl, D2, F1.trans F2⟩

set_option maxHeartbeats 4000000 in
set_option maxRecDepth 100000 in
theorem law_FnScriptHigh (A0 : Option Addr) (code : List Int) (c0 : Nat) (w : World) (h : BS w A0 code) (hl : code.length ≤ maxLen) (hlc : code.length ≤ c0) (hM : Mx w.heap.size w) :
    Calls Tryz.prog 16 #[.slice A0 code.length c0] w fun e w' => e = .returned (.bool true) ∧ Below w.heap.size w w' := by
  have hl' := hl
  unfold maxLen at hl'
  by_cases h1 : code.length ≤ 1048576
  case neg =>
    go_enter Tryz.func16, Tryz.ntmps16
    go_wp2_with fail
    go_ret
    exact ⟨rfl, Below.refl _ _⟩
  go_enter Tryz.func16, Tryz.ntmps16
  go_wp2_with fail
  refine (spec_DrawMostHigh A0 code c0 w h hl hlc).mono ?_
  rintro e w1 ⟨A, c, l, x, m, rfl, hO, hl5, hx0, hx1, m0, m2, hb⟩
  have hsz := own_size hO
  obtain ⟨hsz1, hsz2⟩ := hsz
  have hlm : l.length ≤ maxLen := by unfold maxLen; omega
  clear hsz2
  obtain ⟨F, hF⟩ : ∃ F, fmtSet l = F := ⟨_, rfl⟩
  have HFl : F.length ≤ 510 := by rw [← hF]; exact fmtSet_le _
  have HF10 : (10 : UInt8) ∉ F := by rw [← hF]; exact fmtSet_no _
  have HF := Lib.hid hF
  clear hF
  cases hr : mostHigh l x m with
  | none =>
    go_wp2_with fail
    refine (impl_MostHigh A l c x m _ hO.ts hlm hsz1).mono ?_
    rw [hr, show optV none = .tuple #[.int .i64 0, .bool false] from rfl]
    rintro e w2 ⟨rfl, b2⟩
    go_wp2_with fail
    refine (spec_MostHigh A l c x m _ (hO.ts.keep b2) hlm hsz1).mono ?_
    rw [hr, show optV none = .tuple #[.int .i64 0, .bool false] from rfl]
    rintro e w3 ⟨rfl, b3⟩
    go_wp2_with fail
    go_ret
    exact ⟨rfl, bthru hb (bthru b2 b3)⟩
  | some n =>
    obtain ⟨f1, f2, f3, f4, f5, f6, f7, f8⟩ := mostHigh_some hr
    obtain ⟨hS, _, hlt, hxx⟩ := plc_yes f1
    have hbd := vld_nums (tkAt_vld hS hlt)
    obtain ⟨n1, n2, n3, n4, n5⟩ := hbd
    have hn0 : 0 ≤ n := by omega
    have hx0' : 0 ≤ x := by omega
    have hT := text_tasks l hS
    rw [HF.out] at hT
    have HR := Lib.hid hr
    clear hr f1 f2 f3 f4 f5 f6 f7 hS hxx n1 n2 n3 n4 n5
    go_wp2_with fail
    refine (impl_MostHigh A l c x m _ hO.ts hlm hsz1).mono ?_
    rw [HR.out, show optV (some n) = .tuple #[.int .i64 n, .bool true] from rfl]
    rintro e w2 ⟨rfl, b2⟩
    go_wp2_with fail
    refine (spec_MostHigh A l c x m _ (hO.ts.keep b2) hlm hsz1).mono ?_
    rw [HR.out, show optV (some n) = .tuple #[.int .i64 n, .bool true] from rfl]
    rintro e w3 ⟨rfl, b3⟩
    have B3 := bthru b2 b3
    by_cases hm : m = 0
    case neg =>
      have e1 : (m != 0) = true := by rw [bne_iff_ne]; exact hm
      go_wp2_with fail
      go_ret
      exact ⟨rfl, bthru hb B3⟩
    subst hm
    have hnl := num_len n (by omega)
    have hxl := num_len x (by omega)
    have hX := num_no 10 x (by decide)
    go_wp2_with fail
    refine (impl_FormatSet A l c _ (hO.ts.keep B3)).mono ?_
    rw [HF.out]
    rintro e w4 ⟨rfl, b4⟩
    have B4 := bthru B3 b4
    go_wp2_with fail
    refine (dm_num x hx0' (by omega) _).mono ?_
    rintro e w5 ⟨rfl, b5⟩
    have B5 := bthru B4 b5
    have hp : pieces [10] (([116, 97, 115, 107, 115, 32] ++ F) ++ [10] ++ (([104, 105, 103, 104, 32] ++ num x) ++ [10] ++ ([]))) = [[116, 97, 115, 107, 115, 32] ++ F, [104, 105, 103, 104, 32] ++ num x, []] := by
      rw [pieces_app 10 [] _ _ (by simp [HF10]), pieces_app 10 [] _ _ (by simp [hX]), pieces_no 10 [] [] (by simp)]
    have hC : Chain [[116, 97, 115, 107, 115, 32] ++ F, [104, 105, 103, 104, 32] ++ num x, []] St0 ⟨l, 0, [], 0, St0.out ++ (F ++ [10]) ++ (([104, 105, 103, 104, 32] ++ num n) ++ [10])⟩ := by
      refine .step (by simp) (by simp [St0] <;> omega) (do_text (x := [116, 97, 115, 107, 115]) (by decide) (by simp <;> omega) (hT _ (by simp [St0] <;> omega))) ?_
      refine .step (by simp) (by simp [St0] <;> omega) (do_count (x := [104, 105, 103, 104]) (n := x) (by decide) (by simp) (by omega) (by omega) (text_no_high _ _) (count_high x _ n HR.out hn0 (by omega) hlm (by simp [St0] <;> omega))) ?_
      exact .skip (.nil _)
    go_wp2_with fail
    refine (impl_RunScript _ _ (((ByteArray.mk F.toArray ++ ByteArray.mk #[10, 104, 105, 103, 104, 32]) ++ ByteArray.mk (num n).toArray) ++ ByteArray.mk #[10]) ?hT _ hp _ ?hR _ (by simp <;> omega) (by simp) hC (by simp) ((hM.keep (bthru hb B5)).up (Below.size (bthru hb B5)))).mono ?_
    case hT => simp only [mk_app]; simp
    case hR => simp only [mk_app]; simp [St0]
    rintro e w6 ⟨rfl, b6⟩
    go_wp2_with fail
    refine (dm_num n hn0 (by omega) _).mono ?_
    rintro e w7 ⟨rfl, b7⟩
    go_wp2_with fail
    go_ret
    exact ⟨rfl, bthru hb (bthru (bthru B5 b6) b7)⟩

open Go.ChangeShapes Go.WideShapes Go.ChangeAt Go.WideElems Go.Deep

set_option maxRecDepth 100000 in
set_option maxHeartbeats 4000000 in
theorem FnScriptHigh_lifted (os : Os) (started : os.Started) (H : Type) (enc : TypeId × Value → H) :
    ReturnsInHanded {} Tryz.checked os 16 .any (fun w args => (Rows.fnScriptHighSpec.pre enc Tryz.prog Tryz.f16 [] false w args ∧ laidMetH Tryz.prog Rows.fnScriptHighRow.laid w) ∧ sizedMet enc Tryz.prog Tryz.f16 (OpenSpec.ofChange Rows.fnScriptHighSpec) false w args) (Rows.fnScriptHighSpec.post enc Tryz.prog Tryz.f16 false true false false) := by
  refine returns_row (C := Tryz.checked) (X := fun w _ => laidMetH Tryz.prog Rows.fnScriptHighRow.laid w) (fun _ _ _ hh h => h.of_heap hh) own started (by as_aux_lemma => kernel_rfl) Tryz.func16
    (ChangeSpec.witness_shaped (enc := enc) (C := Tryz.checked) (os := os) (X := fun w _ => laidMetH Tryz.prog Rows.fnScriptHighRow.laid w) false (World.laidAll Tryz.prog os Rows.fnScriptHighRow.laid) #[.slice none 0 0] 8 (World.laidAll_os _ _ _) (shapedS os) (by as_aux_lemma => kernel_rfl) (by as_aux_lemma => kernel_rfl) (by as_aux_lemma => kernel_rfl) (metS os _)) ?_
  intro W base args ds gs before hval0 hW hL hsh
  have hM : Mx W.heap.size W := mx_of hL hsh (by as_aux_lemma => rfl)
  have hval : ∀ (j : Nat) t v, Tryz.f16.params[j]? = some t → args[j]? = some v → Value.okWide Tryz.prog W .any base t v := hval0
  have hW' := hW
  obtain ⟨p, q, hA0, hV, rfl, _, _⟩ := hW
  have hA : DataW.TrodAll enc Tryz.prog W 0 (fun _ => true) true Tryz.f16.params.toList args.toList ds p := hA0
  rw [Tryz.params16] at hA hval
  obtain ⟨v0, d0, rfl, rfl, h0⟩ := trodAll_one hA
  obtain ⟨rfl, rfl⟩ := trodVars_none hV
  clear hA0 hval0
  simp only [List.append_nil] at hW'
  have hlt : ∀ x ∈ p, x.block < W.heap.size := fun x hx => hW'.lt x (by simpa using hx)
  have hargs : ∀ W', Below W.heap.size W W' → DataW.TrodAll enc Tryz.prog W' 0 (fun b => decide (b < W.heap.size)) true [22] [v0] [d0] (p) := fun W' hb =>
    trodAll_mk1 (Below.trod laidOut (by as_aux_lemma => kernel_rfl) (of_decide_eq_true (by as_aux_lemma => kernel_rfl)) h0 hb (fun x hx => hlt x (by simp [hx])))
  obtain ⟨A0, l0, c0, rfl, hlc0, hlm0, hlw0, hl0⟩ := open_kind Tryz.underlying22 Tryz.underlying5 (by as_aux_lemma => kernel_rfl) (okWide_slice Tryz.underlying22 (hval 0 _ v0 rfl rfl)) h0
  refine (law_FnScriptHigh A0 l0 c0 W ⟨fun x hx => byte_wf (hlw0 x hx), hl0⟩ hlm0 hlc0 hM).mono fun e W' ⟨he, hb⟩ => ?_
  subst he
  exact ⟨_, rfl, ⟨_, _, _, [], _, [], hW', trodAll_mk1 (shut_bool Tryz.underlying4 _), hargs W' hb, rfl, hb.frame _, fun h => by cases h⟩⟩

set_option maxHeartbeats 4000000 in
theorem FnScriptHigh_joined : joinedFacts Tryz.prog 16 Tryz.f16 Rows.fnScriptHighSpec Rows.fnScriptHighRow = true :=
  joined_mk (by as_aux_lemma => kernel_rfl) laidOut mapsRowed_ok (by as_aux_lemma => kernel_rfl) (by as_aux_lemma => kernel_rfl) (by as_aux_lemma => kernel_rfl) stops_ok (by as_aux_lemma => kernel_rfl) knobs_ok (by as_aux_lemma => kernel_rfl) (by as_aux_lemma => kernel_rfl) (by as_aux_lemma => kernel_rfl) (by as_aux_lemma => kernel_rfl) (by as_aux_lemma => kernel_rfl) (by as_aux_lemma => kernel_rfl) (by as_aux_lemma => kernel_rfl) (by as_aux_lemma => kernel_rfl) (by as_aux_lemma => kernel_rfl) (by as_aux_lemma => kernel_rfl) (by as_aux_lemma => kernel_rfl) (by as_aux_lemma => kernel_rfl) (by as_aux_lemma => kernel_rfl) (by rw [keys_ok]; rfl) (by as_aux_lemma => kernel_rfl) heard_ok enter_ok (by rw [lifts_ok]; rfl) (by rw [make_ok]; rfl) (by as_aux_lemma => kernel_rfl) (by as_aux_lemma => kernel_rfl) (by as_aux_lemma => kernel_rfl) (by as_aux_lemma => kernel_rfl)

theorem FnScriptHigh_holds : Rows.FnScriptHighSaid :=
  OpenClaim.holds_of_wide 16 Tryz.f16 rfl rfl rfl rfl rfl rfl rfl ⟨rfl, rfl, rfl, rfl, rfl⟩ rfl rfl rfl rfl rfl (by as_aux_lemma => kernel_rfl) Tryz.func16 FnScriptHigh_joined
    (of_decide_eq_true (by as_aux_lemma => kernel_rfl)) (by unfold Func.isWrapper; rw [if_neg (by decide +kernel)]; exact ⟨rfl, rfl⟩)
    (fun os started H enc _ => FnScriptHigh_lifted os started H enc)

set_option maxHeartbeats 4000000 in
theorem FnScriptHigh_card : Rows.FnScriptHighCardSaid :=
  Claim7.holds_tied_plain_at .later [] [.data, .data, .data, .data, .sentinel, .sentinel, .pinned] true (true, "30109cd8cbb2acdc283dc4e050a6b74cca50f9e931557688499b7dc81236a7d2") true
    FnScriptHigh_holds (fun _ h => by cases h) (by as_aux_lemma => kernel_rfl) (fun _ h => by cases h) fnScriptHigh_row_tie rfl ⟨rfl, rfl⟩ (by as_aux_lemma => kernel_rfl) rfl
    (fun f fn hf hfn => by
      obtain rfl : f = 16 := Option.some.inj ((show Tryz.prog.funcNamed "loop.example/dualmodes/laws.FnScriptHigh" = some 16 by as_aux_lemma => kernel_rfl).symm.trans hf) |>.symm
      obtain rfl : fn = Tryz.f16 := (Option.some.inj (Tryz.func16.symm.trans hfn)).symm
      exact ⟨looksS, fun j t ht => by
        rw [Tryz.params16] at ht
        have hm : t ∈ [22] := by simpa using Array.mem_of_getElem? ht
        have hall : ([22].all fun u => !Tryz.prog.wantsStandIn u) = true := by as_aux_lemma => kernel_rfl
        exact (show Tryz.prog.wantsStandIn t = false by simpa using List.all_eq_true.1 hall t hm)⟩)
    (by as_aux_lemma => kernel_rfl)
#print axioms FnScriptHigh_card
end Go.Proofs.YtmlbjcjihmfcjaaGreatDoor
