/-
  FnFormatPack returns true for every code.
-/
import Derived.Test.YtnhidlhfgpoopaaDoorDrawFmt
import Derived.Test.YtnhidlhfgpoopaaDoorFmtPack
import Derived.Test.YtnhidlhfgpoopaaDoorOpen
import Derived.LaidMore
import Derived.Test.YtnhidlhfgpoopaaDoorTie
import Derived.Test.YtnhidlhfgpoopaaDoorCards
namespace Go.Proofs.YtnhidlhfgpoopaaDoor
open Go.RowKit

def cnt10 (s : List UInt8) : Nat := (s.filter (fun x => x == 10)).length
theorem cnt_app (a b : List UInt8) : cnt10 (a ++ b) = cnt10 a + cnt10 b := by simp [cnt10]
theorem cnt_le (a : List UInt8) : cnt10 a ≤ a.length := List.length_filter_le _ _
theorem dec_cnt (n : Nat) : cnt10 (Lib.decDigits n) = 0 := by
  induction n using Nat.strongRecOn with
  | _ n ih =>
    have hd : ∀ d : Nat, d < 10 → cnt10 [UInt8.ofNat (48 + d)] = 0 := by decide
    by_cases h : n < 10
    · rw [dec_small n h]
      exact hd n h
    · rw [dec_big n h, cnt_app, ih (n / 10) (by omega), hd _ (by omega)]
theorem num_cnt (n : Int) : cnt10 (num n) = 0 := dec_cnt _
theorem task_cnt (t : Tk) : cnt10 (fmtTask t) = 0 := by
  unfold fmtTask
  split
  · simp only [taskT, cnt_app, num_cnt, highT, dueT]
    have e1 : cnt10 (47 :: num t.high) = 0 := by
      have := cnt_app [47] (num t.high)
      rw [num_cnt, show cnt10 [47] = 0 from rfl] at this
      exact this
    split <;> split <;> first | rfl | (simp only [cnt_app, num_cnt, e1]; done) | (simp only [cnt_app, num_cnt, e1]; rfl)
  · rfl
theorem join_cnt (sep : List UInt8) (hs : cnt10 sep = 0) (xs : List (List UInt8)) (h : ∀ x ∈ xs, cnt10 x = 0) : cnt10 (Lib.join xs sep) = 0 := by
  have ht : ∀ r : List (List UInt8), (∀ x ∈ r, cnt10 x = 0) → cnt10 (Lib.joinTail sep r) = 0 := by
    intro r
    induction r with
    | nil => intro _; rfl
    | cons x r ih =>
      intro h
      have e : Lib.joinTail sep (x :: r) = (sep ++ x) ++ Lib.joinTail sep r := by simp [Lib.joinTail]
      rw [e, cnt_app, cnt_app, hs, h x (by simp), ih (fun y hy => h y (List.mem_cons_of_mem _ hy))]
  cases xs with
  | nil => rfl
  | cons x r =>
    rw [Lib.join_cons, cnt_app, h x (by simp), ht r (fun y hy => h y (List.mem_cons_of_mem _ hy))]
theorem set_cnt (l : List Tk) : cnt10 (fmtSet l) = 0 := by
  unfold fmtSet
  split
  · refine join_cnt _ rfl _ (fun x hx => ?_)
    obtain ⟨t, _, rfl⟩ := List.mem_map.1 hx
    exact task_cnt t
  · rfl
def pks (l : List Tk) (ws : List Int) : Nat → Nat
  | 0 => 0
  | n + 1 => pks l ws n + (if 0 < (grp l ws (n : Int)).length then 1 else 0)
theorem pack_cnt (l : List Tk) (ws : List Int) (n : Nat) : cnt10 (packTo l ws n) = pks l ws n := by
  induction n with
  | zero => rfl
  | succ n ih =>
    simp only [packTo, pks, cnt_app, ih, piece]
    split
    · simp only [cnt_app, num_cnt, set_cnt]
      rfl
    · rfl
theorem pks_le (l : List Tk) (ws : List Int) (n : Nat) : pks l ws n ≤ n := by
  induction n with
  | zero => exact Nat.le_refl _
  | succ n ih =>
    simp only [pks]
    split <;> omega
theorem cnt_take (s : List UInt8) (k : Nat) (hk : k < s.length) : cnt10 (s.take (k + 1)) = cnt10 (s.take k) + (if s[k] = 10 then 1 else 0) := by
  rw [List.take_succ_eq_append_getElem hk, cnt_app]
  congr 1
  unfold cnt10
  split
  · rename_i h
    simp [h]
  · rename_i h
    simp [h]
set_option maxHeartbeats 4000000 in
set_option maxRecDepth 100000 in
theorem law_FnFormatPack (A0 : Option Addr) (code : List Int) (c0 : Nat) (w : World) (h : BS w A0 code) (hl : code.length ≤ maxLen) (hlc : code.length ≤ c0) :
    Calls Tryd.prog 4 #[.slice A0 code.length c0] w fun e w' => e = .returned (.bool true) ∧ Below w.heap.size w w' := by
  have hl' := hl
  unfold maxLen at hl'
  by_cases h1 : code.length ≤ 1048576
  case neg =>
    go_enter Tryd.func4, Tryd.ntmps4
    go_wp2_with fail
    go_ret
    exact ⟨rfl, Below.refl _ _⟩
  go_enter Tryd.func4, Tryd.ntmps4
  go_wp2_with fail
  refine (spec_DrawFormatPack A0 code c0 w h hl hlc).mono ?_
  rintro e w1 ⟨A, c, l, B, d, ws, n0, m0, rfl, hk⟩
  have hO := hk.tasks
  have hI := hk.ints
  have hl5 := hk.len
  have hw6 := hk.wlen
  have hb := hk.below
  clear hk
  obtain ⟨F, hF⟩ : ∃ F, fmtPack l ws = F := ⟨_, rfl⟩
  have HF := Lib.hid hF
  clear hF
  have HFl : F.length ≤ 1800 := by
    rw [← HF.out]
    unfold fmtPack
    split
    · have := packTo_le l ws 3 (by omega); omega
    · simp
  have eqF : ((ByteArray.mk F.toArray).toList == (ByteArray.mk F.toArray).toList) = true := beq_self_eq_true _
  go_wp2_with fail
  refine (impl_FormatPack A B l ws c d _ hO.ts hI.is).mono ?_
  rw [HF.out]
  rintro e w2 ⟨rfl, b2⟩
  go_wp2_with fail
  refine (spec_FormatPack A B l ws c d _ (hO.ts.keep b2) (hI.is.keep b2) (by omega)).mono ?_
  rw [HF.out]
  rintro e w3 ⟨rfl, b3⟩
  have B3 := bthru b2 b3
  by_cases hF0 : F = []
  · subst hF0
    go_wp2_with fail
    refine (spec_FormatPack A B l ws c d _ (hO.ts.keep B3) (hI.is.keep B3) (by omega)).mono ?_
    rw [HF.out]
    rintro e w4 ⟨rfl, b4⟩
    go_wp2_with fail
    go_ret
    exact ⟨rfl, bthru hb (bthru B3 b4)⟩
  · have hP : packVld l ws 3 = true := by
      cases e : packVld l ws 3 with
      | true => rfl
      | false =>
        exfalso
        apply hF0
        rw [← HF.out]
        simp [fmtPack, e]
    have HT : Hid (F = packTo l ws 3) := by rw [Hid, ← HF.out]; simp [fmtPack, hP]
    have hgo : Hid (∀ k : Nat, k < 3 → grpOf l ws (k : Int) = grp l ws (k : Int) ∧ gOk l ws (k : Int) = true) := by
      intro k hk
      have : gOk l ws (k : Int) = true := by simp [gOk, hP]; omega
      exact ⟨by simp [grpOf, this], this⟩
    have hne : (F == []) = false := beq_eq_false_iff_ne.2 hF0
    clear hP hF0
    go_wp2_with fail
    go_loopw [6, 7] (fun v i wr => ∃ k : Nat, i = .int .i64 (k : Int) ∧ v = .int .i64 (cnt10 (F.take k) : Int) ∧ k ≤ F.length ∧ Below w1.heap.size w1 wr) (fun _ i _ => F.length - (intOf i).toNat)
    case atStart => exact ⟨0, rfl, rfl, by omega, B3⟩
    case round =>
      obtain ⟨k, rfl, rfl, hk, hbr⟩ := hrel
      have hcl := cnt_le (F.take k)
      rw [List.length_take] at hcl
      by_cases hlt : k < F.length
      · have hst := cnt_take F k hlt
        have eb : (ByteArray.mk F.toArray)[k]'(by show k < F.toArray.size; simpa using hlt) = F[k] := by show F.toArray[k] = F[k]; simp
        by_cases hx : F[k] = 10
        · have hx' : ((((ByteArray.mk F.toArray)[k]'(by show k < F.toArray.size; simpa using hlt)).toNat : Int) == 10) = true := by rw [eb, hx]; rfl
          have hst2 : Hid (cnt10 (F.take (k + 1)) = cnt10 (F.take k) + 1) := by rw [Hid, hst, if_pos hx]
          clear hst hx eb
          go_wp2_with fail
          go_roundw
          case rel => exact ⟨k + 1, by go_num, by rw [hst2.out]; go_num, by omega, hbr⟩
          case measure => simp [intOf]; omega
        · have hx' : ((((ByteArray.mk F.toArray)[k]'(by show k < F.toArray.size; simpa using hlt)).toNat : Int) == 10) = false := by
            rw [eb]
            refine beq_eq_false_iff_ne.2 (fun e => hx ?_)
            have e2 : (F[k]).toNat = 10 := by exact_mod_cast e
            exact UInt8.toNat_inj.1 e2
          have hst2 : Hid (cnt10 (F.take (k + 1)) = cnt10 (F.take k)) := by rw [Hid, hst, if_neg hx, Nat.add_zero]
          clear hst hx eb
          go_wp2_with fail
          go_roundw
          case rel => exact ⟨k + 1, by go_num, by rw [hst2.out], by omega, hbr⟩
          case measure => simp [intOf]; omega
      · obtain rfl : k = F.length := by omega
        rw [List.take_length]
        clear hcl
        have hend : ((pks l ws 3 : Int) == (cnt10 F : Int)) = true := by rw [HT.out, pack_cnt]; exact beq_self_eq_true _
        have Hend := Lib.hid hend
        clear hend
        go_wp2_with fail
        go_loopw [8, 9] (fun v i wy => ∃ k : Nat, i = .int .i64 (k : Int) ∧ v = .int .i64 (pks l ws k : Int) ∧ k ≤ 3 ∧ Below w1.heap.size w1 wy) (fun _ i _ => 3 - (intOf i).toNat)
        case atStart => exact ⟨0, rfl, rfl, by omega, hbr⟩
        case round =>
          obtain ⟨k, rfl, rfl, hk, hbr⟩ := hrel
          have hpl := pks_le l ws k
          by_cases hlt : (k : Int) < 3
          · have hgl := grp_len l ws (k : Int)
            have hg := hgo.out k (by omega)
            go_wp2_with fail
            refine (impl_GroupOf A B l ws c d (k : Int) _ (hO.ts.keep hbr) (hI.is.keep hbr) (by omega)).mono ?_
            rw [hg.1, hg.2]
            rintro e w4 ⟨A4, c4, rfl, o4, b4⟩
            clear hg
            by_cases hg0 : 0 < (grp l ws (k : Int)).length
            · have hst2 : Hid (pks l ws (k + 1) = pks l ws k + 1) := by rw [Hid, pks, if_pos hg0]
              generalize grp l ws (k : Int) = G at *
              go_wp2_with fail
              go_roundw
              case rel => exact ⟨k + 1, by go_num, by rw [hst2.out]; go_num, by omega, bthru hbr b4⟩
              case measure => simp [intOf]; omega
            · have hst2 : Hid (pks l ws (k + 1) = pks l ws k) := by rw [Hid, pks, if_neg hg0, Nat.add_zero]
              go_wp2_with fail
              go_roundw
              case rel => exact ⟨k + 1, by go_num, by rw [hst2.out], by omega, bthru hbr b4⟩
              case measure => simp [intOf]; omega
          · obtain rfl : k = 3 := by omega
            have hend := Hend.out
            go_wp2_with fail
            go_ret
            exact ⟨rfl, bthru hb hbr⟩

open Go.ChangeShapes Go.WideShapes Go.ChangeAt Go.WideElems Go.Deep

theorem FnFormatPack_doorMet (os : Os) : laidMetH Tryd.prog Rows.fnFormatPackRow.laid ((World.doorLaid Tryd.prog 400 os).forCall (fun _ _ => 0) ⟨#[], #[.slice none 0 0], []⟩).memory :=
  laidMetH_of_parts3 (fuel := 8) (laidMet_of_run' 8 (by as_aux_lemma => kernel_rfl) (by as_aux_lemma => kernel_rfl)) (by as_aux_lemma => kernel_rfl) (by as_aux_lemma => kernel_rfl)

set_option maxRecDepth 100000 in
theorem FnFormatPack_lifted (os : Os) (started : os.Started) (H : Type) (enc : TypeId × Value → H) :
    ReturnsInHanded {} Tryd.checked os 4 .any (fun w args => (Rows.fnFormatPackSpec.pre enc Tryd.prog Tryd.f4 [] false w args ∧ laidMetH Tryd.prog Rows.fnFormatPackRow.laid w) ∧ sizedMet enc Tryd.prog Tryd.f4 (OpenSpec.ofChange Rows.fnFormatPackSpec) false w args) (Rows.fnFormatPackSpec.post enc Tryd.prog Tryd.f4 false true false false) := by
  refine returnsInHanded_of_change_and (C := Tryd.checked) (X := fun w _ => laidMetH Tryd.prog Rows.fnFormatPackRow.laid w) (fun _ _ _ hh h => h.of_heap hh) own started (by as_aux_lemma => kernel_rfl) Tryd.func4
    (ChangeSpec.witness_shaped (enc := enc) (C := Tryd.checked) (os := os) (X := fun w _ => laidMetH Tryd.prog Rows.fnFormatPackRow.laid w) false (World.doorLaid Tryd.prog 400 os) #[.slice none 0 0] 8 rfl (World.shaped_of_RefB (by as_aux_lemma => kernel_rfl) (by as_aux_lemma => kernel_rfl)) (by as_aux_lemma => kernel_rfl) (by as_aux_lemma => kernel_rfl) (by as_aux_lemma => kernel_rfl) (FnFormatPack_doorMet os)) ?_
  intro W base args ds gs before hval0 hW _ _ _ _
  have hval : ∀ (j : Nat) t v, Tryd.f4.params[j]? = some t → args[j]? = some v → Value.okWide Tryd.prog W .any base t v := hval0
  have hW' := hW
  obtain ⟨p, q, hA0, hV, rfl, _, _⟩ := hW
  have hA : DataW.TrodAll enc Tryd.prog W 0 (fun _ => true) true Tryd.f4.params.toList args.toList ds p := hA0
  rw [Tryd.params4] at hA hval
  obtain ⟨v0, d0, rfl, rfl, h0⟩ := trodAll_one hA
  obtain ⟨rfl, rfl⟩ := trodVars_none hV
  clear hA0 hval0
  simp only [List.append_nil] at hW'
  have hlt : ∀ x ∈ p, x.block < W.heap.size := fun x hx => hW'.lt x (by simpa using hx)
  have hargs : ∀ W', Below W.heap.size W W' → DataW.TrodAll enc Tryd.prog W' 0 (fun b => decide (b < W.heap.size)) true [32] [v0] [d0] (p) := fun W' hb =>
    trodAll_mk1 (Below.trod laidOut (by as_aux_lemma => kernel_rfl) (of_decide_eq_true (by as_aux_lemma => kernel_rfl)) h0 hb (fun x hx => hlt x (by simp [hx])))
  obtain ⟨A0, l0, c0, rfl, hlc0, hlm0, hlw0, hl0⟩ := open_kind Tryd.underlying32 Tryd.underlying5 (by as_aux_lemma => kernel_rfl) (okWide_slice Tryd.underlying32 (hval 0 _ v0 rfl rfl)) h0
  refine (law_FnFormatPack A0 l0 c0 W ⟨fun x hx => byte_wf (hlw0 x hx), hl0⟩ hlm0 hlc0).mono fun e W' ⟨he, hb⟩ => ?_
  subst he
  exact ⟨_, rfl, ⟨_, _, _, [], _, [], hW', trodAll_mk1 (shut_bool Tryd.underlying4 _), hargs W' hb, rfl, hb.frame _, fun h => by cases h⟩⟩

theorem FnFormatPack_joined : joinedFacts Tryd.prog 4 Tryd.f4 Rows.fnFormatPackSpec Rows.fnFormatPackRow = true :=
  joined_mk (by as_aux_lemma => kernel_rfl) laidOut mapsRowed_ok (by as_aux_lemma => kernel_rfl) (by as_aux_lemma => kernel_rfl) (by as_aux_lemma => kernel_rfl) stops_ok (by as_aux_lemma => kernel_rfl) knobs_ok (by as_aux_lemma => kernel_rfl) (by as_aux_lemma => kernel_rfl) (by as_aux_lemma => kernel_rfl) (by as_aux_lemma => kernel_rfl) (by as_aux_lemma => kernel_rfl) (by as_aux_lemma => kernel_rfl) (by as_aux_lemma => kernel_rfl) (by as_aux_lemma => kernel_rfl) (by as_aux_lemma => kernel_rfl) (by as_aux_lemma => kernel_rfl) (by as_aux_lemma => kernel_rfl) (by as_aux_lemma => kernel_rfl) (by as_aux_lemma => kernel_rfl) (by rw [keys_ok]; rfl) (by as_aux_lemma => kernel_rfl) heard_ok enter_ok (by rw [lifts_ok]; rfl) (by rw [make_ok]; rfl) (by as_aux_lemma => kernel_rfl) (by as_aux_lemma => kernel_rfl) (by as_aux_lemma => kernel_rfl) (by as_aux_lemma => kernel_rfl)

theorem FnFormatPack_holds : Rows.FnFormatPackSaid :=
  OpenClaim.holds_of_wide 4 Tryd.f4 rfl rfl rfl rfl rfl rfl rfl ⟨rfl, rfl, rfl, rfl, rfl⟩ rfl rfl rfl rfl rfl (by as_aux_lemma => kernel_rfl) Tryd.func4 FnFormatPack_joined
    (of_decide_eq_true (by as_aux_lemma => kernel_rfl)) (by unfold Func.isWrapper; rw [if_neg (by decide +kernel)]; exact ⟨rfl, rfl⟩)
    (fun os started H enc _ => FnFormatPack_lifted os started H enc)

theorem FnFormatPack_card : Rows.FnFormatPackCardSaid :=
  Claim7.holds_tied_plain_at .later [] [.data, .data, .data] true (true, "f0e8bc768f18842d9165121d099d81a523b996871c0c07baa66a3fe503588234") false
    FnFormatPack_holds (fun _ h => by cases h) (by as_aux_lemma => kernel_rfl) (fun _ h => by cases h) fnFormatPack_row_tie rfl ⟨rfl, rfl⟩ (by as_aux_lemma => kernel_rfl) rfl
    (fun f fn hf hfn => by
      obtain rfl : f = 4 := Option.some.inj ((show Tryd.prog.funcNamed "loop.example/dualmodes/laws.FnFormatPack" = some 4 by as_aux_lemma => kernel_rfl).symm.trans hf) |>.symm
      obtain rfl : fn = Tryd.f4 := (Option.some.inj (Tryd.func4.symm.trans hfn)).symm
      exact ⟨by as_aux_lemma => kernel_rfl, fun j t ht => by
        rw [Tryd.params4] at ht
        have hm : t ∈ [32] := by simpa using Array.mem_of_getElem? ht
        have hall : ([32].all fun u => !Tryd.prog.wantsStandIn u) = true := by as_aux_lemma => kernel_rfl
        exact (show Tryd.prog.wantsStandIn t = false by simpa using List.all_eq_true.1 hall t hm)⟩)
    (by as_aux_lemma => kernel_rfl)
#print axioms FnFormatPack_card
end Go.Proofs.YtnhidlhfgpoopaaDoor
