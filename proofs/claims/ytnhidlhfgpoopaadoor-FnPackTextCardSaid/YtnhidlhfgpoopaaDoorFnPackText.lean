/-
  FnPackText returns true for every code.
-/
import Derived.Test.YtnhidlhfgpoopaaDoorDrawFmt
import Derived.Test.YtnhidlhfgpoopaaDoorFmtPack
import Derived.Test.YtnhidlhfgpoopaaDoorOpen
import Derived.LaidMore
import Derived.Test.YtnhidlhfgpoopaaDoorTie
import Derived.Test.YtnhidlhfgpoopaaDoorCards
namespace Go.Proofs.YtnhidlhfgpoopaaDoor
open Go.RowKit


set_option maxHeartbeats 4000000 in
set_option maxRecDepth 100000 in
theorem law_FnPackText (A0 : Option Addr) (code : List Int) (c0 : Nat) (w : World) (h : BS w A0 code) (hl : code.length ≤ maxLen) (hlc : code.length ≤ c0) :
    Calls Tryd.prog 5 #[.slice A0 code.length c0] w fun e w' => e = .returned (.bool true) ∧ Below w.heap.size w w' := by
  have hl' := hl
  unfold maxLen at hl'
  by_cases h1 : code.length ≤ 1048576
  case neg =>
    go_enter Tryd.func5, Tryd.ntmps5
    go_wp2_with fail
    go_ret
    exact ⟨rfl, Below.refl _ _⟩
  go_enter Tryd.func5, Tryd.ntmps5
  go_wp2_with fail
  refine (spec_DrawFormatPack A0 code c0 w h hl hlc).mono ?_
  rintro e w1 ⟨A, c, l, B, d, ws, n0, m0, rfl, hk⟩
  have hO := hk.tasks
  have hI := hk.ints
  have hl5 := hk.len
  have hw6 := hk.wlen
  have hb := hk.below
  clear hk
  obtain ⟨F, hF⟩ : ∃ F, fmtPack l ws = F := ⟨_, rfl⟩
  have HF := Lib.hid hF
  clear hF
  have HFl : F.length ≤ 1800 := by
    rw [← HF.out]
    unfold fmtPack
    split
    · have := packTo_le l ws 3 (by omega); omega
    · simp
  have eqF : ((ByteArray.mk F.toArray).toList == (ByteArray.mk F.toArray).toList) = true := beq_self_eq_true _
  go_wp2_with fail
  refine (impl_FormatPack A B l ws c d _ hO.ts hI.is).mono ?_
  rw [HF.out]
  rintro e w2 ⟨rfl, b2⟩
  go_wp2_with fail
  refine (spec_FormatPack A B l ws c d _ (hO.ts.keep b2) (hI.is.keep b2) (by omega)).mono ?_
  rw [HF.out]
  rintro e w3 ⟨rfl, b3⟩
  have B3 := bthru b2 b3
  by_cases hF0 : F = []
  · subst hF0
    go_wp2_with fail
    refine (spec_FormatPack A B l ws c d _ (hO.ts.keep B3) (hI.is.keep B3) (by omega)).mono ?_
    rw [HF.out]
    rintro e w4 ⟨rfl, b4⟩
    go_wp2_with fail
    go_ret
    exact ⟨rfl, bthru hb (bthru B3 b4)⟩
  · have hP : packVld l ws 3 = true := by
      cases e : packVld l ws 3 with
      | true => rfl
      | false =>
        exfalso
        apply hF0
        rw [← HF.out]
        simp [fmtPack, e]
    have HT : Hid (F = packTo l ws 3) := by rw [Hid, ← HF.out]; simp [fmtPack, hP]
    have hgo : Hid (∀ k : Nat, k < 3 → grpOf l ws (k : Int) = grp l ws (k : Int) ∧ gOk l ws (k : Int) = true) := by
      intro k hk
      have : gOk l ws (k : Int) = true := by simp [gOk, hP]; omega
      exact ⟨by simp [grpOf, this], this⟩
    have hne : (F == []) = false := beq_eq_false_iff_ne.2 hF0
    clear hP hF0
    go_wp2_with fail
    go_loopw [6, 7] (fun v i wr => ∃ (k : Nat) (T : List UInt8), i = .int .i64 (k : Int) ∧ v = .string ⟨T.toArray⟩ ∧ k ≤ 3 ∧ Hid (T = packTo l ws k) ∧ Below w1.heap.size w1 wr) (fun _ i _ => 3 - (intOf i).toNat)
    case atStart => exact ⟨0, [], rfl, rfl, by omega, rfl, B3⟩
    case round =>
      obtain ⟨k, T, rfl, rfl, hk, hT, hbr⟩ := hrel
      have hTl : T.length ≤ 1800 := by
        rw [hT.out]
        have := packTo_le l ws k (by omega)
        omega
      by_cases hlt : (k : Int) < 3
      · have hgl := grp_len l ws (k : Int)
        have hnl := num_len (k : Int) (by omega)
        have hsl := fmtSet_le (grp l ws (k : Int))
        have hnx : Hid (packTo l ws (k + 1) = T ++ piece l ws (k : Int)) := by rw [Hid, hT.out]; rfl
        have hg := hgo.out k (by omega)
        go_wp2_with fail
        refine (impl_GroupOf A B l ws c d (k : Int) _ (hO.ts.keep hbr) (hI.is.keep hbr) (by omega)).mono ?_
        rw [hg.1, hg.2]
        rintro e w4 ⟨A4, c4, rfl, o4, b4⟩
        clear hg
        have B4 := bthru hbr b4
        by_cases hg0 : 0 < (grp l ws (k : Int)).length
        · have hpc : Hid (T ++ piece l ws (k : Int) = ((((T ++ [112, 114, 111, 99, 101, 115, 115, 111, 114, 32]) ++ num (k : Int)) ++ [58, 32]) ++ fmtSet (grp l ws (k : Int))) ++ [10]) := by rw [Hid, piece, if_pos hg0]; simp [List.append_assoc]
          generalize grp l ws (k : Int) = G at *
          go_wp2_with fail
          refine (dm_num (k : Int) (by omega) (by omega) _).mono ?_
          rintro e w5 ⟨rfl, b5⟩
          go_wp2_with fail
          refine (impl_FormatSet A4 G c4 _ (o4.ts.keep b5)).mono ?_
          rintro e w6 ⟨rfl, b6⟩
          go_wp2_with fail
          go_roundw
          case rel => exact ⟨k + 1, _, by go_num, by rw [hnx.out, hpc.out]; simp only [← mk_app], by omega, rfl, bthru B4 (bthru b5 b6)⟩
          case measure => simp [intOf]; omega
        · have hpc : Hid (packTo l ws (k + 1) = T) := by rw [Hid, hnx.out, piece, if_neg hg0, List.append_nil]
          go_wp2_with fail
          go_roundw
          case rel => exact ⟨k + 1, _, by go_num, by rw [hpc.out], by omega, rfl, B4⟩
          case measure => simp [intOf]; omega
      · obtain rfl : k = 3 := by omega
        have hTF : T = F := by rw [hT.out, HT.out]
        subst hTF
        go_wp2_with fail
        go_ret
        exact ⟨rfl, bthru hb hbr⟩

open Go.ChangeShapes Go.WideShapes Go.ChangeAt Go.WideElems Go.Deep

theorem FnPackText_doorMet (os : Os) : laidMetH Tryd.prog Rows.fnPackTextRow.laid ((World.doorLaid Tryd.prog 400 os).forCall (fun _ _ => 0) ⟨#[], #[.slice none 0 0], []⟩).memory :=
  laidMetH_of_parts3 (fuel := 8) (laidMet_of_run' 8 (by as_aux_lemma => kernel_rfl) (by as_aux_lemma => kernel_rfl)) (by as_aux_lemma => kernel_rfl) (by as_aux_lemma => kernel_rfl)

set_option maxRecDepth 100000 in
theorem FnPackText_lifted (os : Os) (started : os.Started) (H : Type) (enc : TypeId × Value → H) :
    ReturnsInHanded {} Tryd.checked os 5 .any (fun w args => (Rows.fnPackTextSpec.pre enc Tryd.prog Tryd.f5 [] false w args ∧ laidMetH Tryd.prog Rows.fnPackTextRow.laid w) ∧ sizedMet enc Tryd.prog Tryd.f5 (OpenSpec.ofChange Rows.fnPackTextSpec) false w args) (Rows.fnPackTextSpec.post enc Tryd.prog Tryd.f5 false true false false) := by
  refine returnsInHanded_of_change_and (C := Tryd.checked) (X := fun w _ => laidMetH Tryd.prog Rows.fnPackTextRow.laid w) (fun _ _ _ hh h => h.of_heap hh) own started (by as_aux_lemma => kernel_rfl) Tryd.func5
    (ChangeSpec.witness_shaped (enc := enc) (C := Tryd.checked) (os := os) (X := fun w _ => laidMetH Tryd.prog Rows.fnPackTextRow.laid w) false (World.doorLaid Tryd.prog 400 os) #[.slice none 0 0] 8 rfl (World.shaped_of_RefB (by as_aux_lemma => kernel_rfl) (by as_aux_lemma => kernel_rfl)) (by as_aux_lemma => kernel_rfl) (by as_aux_lemma => kernel_rfl) (by as_aux_lemma => kernel_rfl) (FnPackText_doorMet os)) ?_
  intro W base args ds gs before hval0 hW _ _ _ _
  have hval : ∀ (j : Nat) t v, Tryd.f5.params[j]? = some t → args[j]? = some v → Value.okWide Tryd.prog W .any base t v := hval0
  have hW' := hW
  obtain ⟨p, q, hA0, hV, rfl, _, _⟩ := hW
  have hA : DataW.TrodAll enc Tryd.prog W 0 (fun _ => true) true Tryd.f5.params.toList args.toList ds p := hA0
  rw [Tryd.params5] at hA hval
  obtain ⟨v0, d0, rfl, rfl, h0⟩ := trodAll_one hA
  obtain ⟨rfl, rfl⟩ := trodVars_none hV
  clear hA0 hval0
  simp only [List.append_nil] at hW'
  have hlt : ∀ x ∈ p, x.block < W.heap.size := fun x hx => hW'.lt x (by simpa using hx)
  have hargs : ∀ W', Below W.heap.size W W' → DataW.TrodAll enc Tryd.prog W' 0 (fun b => decide (b < W.heap.size)) true [32] [v0] [d0] (p) := fun W' hb =>
    trodAll_mk1 (Below.trod laidOut (by as_aux_lemma => kernel_rfl) (of_decide_eq_true (by as_aux_lemma => kernel_rfl)) h0 hb (fun x hx => hlt x (by simp [hx])))
  obtain ⟨A0, l0, c0, rfl, hlc0, hlm0, hlw0, hl0⟩ := open_kind Tryd.underlying32 Tryd.underlying5 (by as_aux_lemma => kernel_rfl) (okWide_slice Tryd.underlying32 (hval 0 _ v0 rfl rfl)) h0
  refine (law_FnPackText A0 l0 c0 W ⟨fun x hx => byte_wf (hlw0 x hx), hl0⟩ hlm0 hlc0).mono fun e W' ⟨he, hb⟩ => ?_
  subst he
  exact ⟨_, rfl, ⟨_, _, _, [], _, [], hW', trodAll_mk1 (shut_bool Tryd.underlying4 _), hargs W' hb, rfl, hb.frame _, fun h => by cases h⟩⟩

theorem FnPackText_joined : joinedFacts Tryd.prog 5 Tryd.f5 Rows.fnPackTextSpec Rows.fnPackTextRow = true :=
  joined_mk (by as_aux_lemma => kernel_rfl) laidOut mapsRowed_ok (by as_aux_lemma => kernel_rfl) (by as_aux_lemma => kernel_rfl) (by as_aux_lemma => kernel_rfl) stops_ok (by as_aux_lemma => kernel_rfl) knobs_ok (by as_aux_lemma => kernel_rfl) (by as_aux_lemma => kernel_rfl) (by as_aux_lemma => kernel_rfl) (by as_aux_lemma => kernel_rfl) (by as_aux_lemma => kernel_rfl) (by as_aux_lemma => kernel_rfl) (by as_aux_lemma => kernel_rfl) (by as_aux_lemma => kernel_rfl) (by as_aux_lemma => kernel_rfl) (by as_aux_lemma => kernel_rfl) (by as_aux_lemma => kernel_rfl) (by as_aux_lemma => kernel_rfl) (by as_aux_lemma => kernel_rfl) (by rw [keys_ok]; rfl) (by as_aux_lemma => kernel_rfl) heard_ok enter_ok (by rw [lifts_ok]; rfl) (by rw [make_ok]; rfl) (by as_aux_lemma => kernel_rfl) (by as_aux_lemma => kernel_rfl) (by as_aux_lemma => kernel_rfl) (by as_aux_lemma => kernel_rfl)

theorem FnPackText_holds : Rows.FnPackTextSaid :=
  OpenClaim.holds_of_wide 5 Tryd.f5 rfl rfl rfl rfl rfl rfl rfl ⟨rfl, rfl, rfl, rfl, rfl⟩ rfl rfl rfl rfl rfl (by as_aux_lemma => kernel_rfl) Tryd.func5 FnPackText_joined
    (of_decide_eq_true (by as_aux_lemma => kernel_rfl)) (by unfold Func.isWrapper; rw [if_neg (by decide +kernel)]; exact ⟨rfl, rfl⟩)
    (fun os started H enc _ => FnPackText_lifted os started H enc)

theorem FnPackText_card : Rows.FnPackTextCardSaid :=
  Claim7.holds_tied_plain_at .later [] [.data, .data, .data] true (true, "f0e8bc768f18842d9165121d099d81a523b996871c0c07baa66a3fe503588234") false
    FnPackText_holds (fun _ h => by cases h) (by as_aux_lemma => kernel_rfl) (fun _ h => by cases h) fnPackText_row_tie rfl ⟨rfl, rfl⟩ (by as_aux_lemma => kernel_rfl) rfl
    (fun f fn hf hfn => by
      obtain rfl : f = 5 := Option.some.inj ((show Tryd.prog.funcNamed "loop.example/dualmodes/laws.FnPackText" = some 5 by as_aux_lemma => kernel_rfl).symm.trans hf) |>.symm
      obtain rfl : fn = Tryd.f5 := (Option.some.inj (Tryd.func5.symm.trans hfn)).symm
      exact ⟨by as_aux_lemma => kernel_rfl, fun j t ht => by
        rw [Tryd.params5] at ht
        have hm : t ∈ [32] := by simpa using Array.mem_of_getElem? ht
        have hall : ([32].all fun u => !Tryd.prog.wantsStandIn u) = true := by as_aux_lemma => kernel_rfl
        exact (show Tryd.prog.wantsStandIn t = false by simpa using List.all_eq_true.1 hall t hm)⟩)
    (by as_aux_lemma => kernel_rfl)
#print axioms FnPackText_card
end Go.Proofs.YtnhidlhfgpoopaaDoor
