/-
  FnPackSwap returns true for every code.
-/
import Derived.Test.YtnldiakjmhfodaaDrawP2
import Derived.Test.YtnldiakjmhfodaaPackH
import Derived.Test.YtnldiakjmhfodaaPackAI
import Derived.Test.YtnldiakjmhfodaaClone
import Derived.Test.YtnldiakjmhfodaaOpen
namespace Go.Proofs.Ytnldiakjmhfodaa
open Go.RowKit

theorem swp_at (f : Int → Int) (ws : List Int) (k : Nat) (hk : k < ws.length) : ((ws.take k).map f ++ ws.drop k)[k]? = some ws[k] := by
  have hl : ((ws.take k).map f).length = k := by simp; omega
  rw [List.getElem?_append_right (by omega), hl, Nat.sub_self, List.drop_eq_getElem_cons hk]
  rfl
theorem swp_set (f : Int → Int) (ws : List Int) (k : Nat) (hk : k < ws.length) : ((ws.take k).map f ++ ws.drop k).set k (f ws[k]) = (ws.take (k + 1)).map f ++ ws.drop (k + 1) := by
  have hl : ((ws.take k).map f).length = k := by simp; omega
  rw [List.set_append_right _ _ (by omega), hl, Nat.sub_self, List.drop_eq_getElem_cons hk, List.set_cons_zero, List.take_succ_eq_append_getElem hk, List.map_append, List.append_assoc]
  rfl

set_option maxHeartbeats 1000000 in
set_option maxRecDepth 100000 in
theorem law_FnPackSwap (A0 : Option Addr) (code : List Int) (c0 : Nat) (w : World) (h : BS w A0 code) (hl : code.length ≤ maxLen) (hlc : code.length ≤ c0) :
    Calls Try.prog 6 #[.slice A0 code.length c0] w fun e w' => e = .returned (.bool true) ∧ Below w.heap.size w w' := by
  have hl' := hl
  unfold maxLen at hl'
  by_cases h1 : code.length ≤ 1048576
  case neg =>
    go_enter Try.func6, Try.ntmps6
    go_wp2_with fail
    go_ret
    exact ⟨rfl, Below.refl _ _⟩
  go_enter Try.func6, Try.ntmps6
  go_wp2_with fail
  refine (spec_DrawPackHolds A0 code c0 w h hl hlc).mono ?_
  rintro e w1 ⟨A, c, l, B, d, ws, n, m, rfl, hk⟩
  have hO := hk.tasks
  have hI := hk.ints
  have hl5 := hk.len
  have hw6 := hk.wlen
  have n0 := hk.n0
  have n4 := hk.n4
  have hb := hk.below
  clear hk
  obtain ⟨v, hv⟩ : ∃ v, pkH l ws n m = v := ⟨_, rfl⟩
  have HV := Lib.hid hv
  go_wp2_with fail
  refine (impl_PackHolds A B l ws c d n m _ hO.ts hI.is).mono ?_
  rw [HV.out]
  rintro e w2 ⟨rfl, b2⟩
  go_wp2_with fail
  refine (spec_PackHolds A B l ws c d n m _ (hO.ts.keep b2) (hI.is.keep b2) (by omega)).mono ?_
  rw [HV.out]
  rintro e w3 ⟨rfl, b3⟩
  have B3 := bthru b2 b3
  obtain ⟨pv, hpv⟩ : ∃ y, packVld l ws n = y := ⟨_, rfl⟩
  have HP := Lib.hid hpv
  clear hpv hv
  cases v
  all_goals
    go_wp2_with fail
    refine (impl_PackValid A B l ws c d n _ (hO.ts.keep B3) (hI.is.keep B3)).mono ?_
    rw [HP.out]
    rintro e w4 ⟨rfl, b4⟩
    have B4 := bthru B3 b4
    by_cases hgo : pv = true ∧ 2 ≤ n
    case neg =>
      have hor : pv = false ∨ ¬ 2 ≤ n := by
        cases pv with
        | false => exact .inl rfl
        | true => exact .inr fun e => hgo ⟨rfl, e⟩
      clear hgo
      rcases hor with rfl | hn2
      · go_wp2_with fail
        refine (spec_PackHolds A B l ws c d n m _ (hO.ts.keep B4) (hI.is.keep B4) (by omega)).mono ?_
        rw [HV.out]
        rintro e w5 ⟨rfl, b5⟩
        go_wp2_with fail
        go_ret
        exact ⟨rfl, bthru hb (bthru B4 b5)⟩
      · cases pv
        all_goals
          go_wp2_with fail
          refine (spec_PackHolds A B l ws c d n m _ (hO.ts.keep B4) (hI.is.keep B4) (by omega)).mono ?_
          rw [HV.out]
          rintro e w5 ⟨rfl, b5⟩
          go_wp2_with fail
          go_ret
          exact ⟨rfl, bthru hb (bthru B4 b5)⟩
    case pos =>
      obtain ⟨rfl, hn2⟩ := hgo
      have hin := ((packVld_iff _ _ _).1 HP.out).2.2.2.2
      have hn3 := ((packVld_iff _ _ _).1 HP.out).2.2.1
      have hsw : ∀ x, x ∈ ws → swp 0 1 x = if x < 2 then 1 - x else x := by
        intro x hx
        have := hin x hx
        unfold swp
        split
        · rw [if_pos (by omega)]; omega
        · split
          · rw [if_pos (by omega)]; omega
          · rw [if_neg (by omega)]
      have hmap : pkH l (ws.map (swp 0 1)) n m = pkH l ws n m := pkH_map_eq (swp_swp 0 1) (fun x h0 h1 => swp_in (by omega) (by omega) x h0 h1)
      have HM := Lib.hid (hmap.trans HV.out)
      have HS := Lib.hid hsw
      have HIN := Lib.hid hin
      clear hmap hsw hin
      cases B with
      | none =>
        have e0 := IS_none hI.is
        subst e0
        have HM2 := HM.out
        rw [List.map_nil] at HM2
        have HMn := Lib.hid HM2
        clear HM2
        go_wp2_with fail
        go_loopw [9] (fun i wr => i = .int .i64 0 ∧ OI w4.heap.size wr (some ⟨w4.heap.size, 0, none⟩) 0 [] ∧ Below w4.heap.size w4 wr) (fun _ _ => 0)
        case atStart => exact ⟨rfl, OI_blank w4 _ (Nat.le_refl _), bal (Below.refl _ _) _⟩
        case round =>
          obtain ⟨rfl, hok, hbr⟩ := hrel
          have K := impl_PackHolds A (some ⟨w4.heap.size, 0, none⟩) l [] c 0 n m wr (hO.ts.keep (bthru B4 hbr)) hok.is
          rw [HMn.out] at K
          go_wp2_with fail
          refine K.mono ?_
          rintro e w7 ⟨rfl, b7⟩
          go_wp2_with fail
          go_ret
          exact ⟨rfl, bthru hb (bthru B4 (bthru hbr b7))⟩
      | some ad =>
        go_wp2_with (at_builtin; refine wpList_app_ints _ rfl _ _ rfl w4.heap.size (some ⟨w4.heap.size, 0, none⟩) [] 0 rfl (OI_blank w4 _ (Nat.le_refl _)) ad d ws rfl (hI.is.keep (bal B4 _)) (by simp) (by omega) (by simp) ?_; intro A5 c5 w5 o5 g5 b5; rw [List.nil_append] at o5; have B5 : Below w4.heap.size w4 w5 := (bal (Below.refl _ _) _).trans b5)
        go_loopw [9] (fun i wr => ∃ k : Nat, i = .int .i64 (k : Int) ∧ k ≤ ws.length ∧ OI w4.heap.size wr A5 c5 ((ws.take k).map (swp 0 1) ++ ws.drop k) ∧ Below w4.heap.size w4 wr) (fun i _ => ws.length - (intOf i).toNat)
        case atStart => exact ⟨0, rfl, by omega, by simpa using o5, B5⟩
        case round =>
          obtain ⟨k, rfl, hk, hok, hbr⟩ := hrel
          have hlk : ((ws.take k).map (swp 0 1) ++ ws.drop k).length = ws.length := by simp; omega
          by_cases hlt : k < ws.length
          · obtain ⟨b, rfl, hbb, hbl⟩ := OI_addr hok (by rw [hlk]; omega)
            have hat := swp_at (swp 0 1) ws k hlt
            obtain ⟨kc, kf⟩ := OI_cell hok k ws[k] hat
            have hx := HS.out ws[k] (List.getElem_mem hlt)
            have hi := HIN.out ws[k] (List.getElem_mem hlt)
            have hnx := swp_set (swp 0 1) ws k hlt
            by_cases hx2 : ws[k] < 2
            · rw [if_pos hx2] at hx
              have hset := OI_set hok k (1 - ws[k])
              rw [← hx, hnx, hx] at hset
              have HSet := Lib.hid hset
              have Hlk := Lib.hid hlk
              clear hset hx hnx hat hlk
              generalize ws[k] = x at *
              have hw1 : IntKind.i64.wrap (1 - x) = 1 - x := IntWalk.i64_in _ (by omega)
              go_wp2_with fail
              go_roundw
              case rel => exact ⟨k + 1, by go_num, by omega, HSet.out.1, hbr.trans (gb_low HSet.out.2 hbb hbr.size)⟩
              case measure => simp [intOf]; omega
            · rw [if_neg hx2] at hx
              rw [hx] at hnx
              have hsame : ((ws.take k).map (swp 0 1) ++ ws.drop k).set k ws[k] = (ws.take k).map (swp 0 1) ++ ws.drop k := by
                apply List.ext_getElem?
                intro j
                by_cases e : k = j
                · subst e
                  rw [List.getElem?_set_self (by rw [hlk]; omega), hat]
                · rw [List.getElem?_set_ne e]
              rw [hsame] at hnx
              rw [hnx] at hok
              have Hlk := Lib.hid hlk
              clear hx hnx hat hlk hsame
              generalize ws[k] = x at *
              go_wp2_with fail
              go_roundw
              case rel => exact ⟨k + 1, by go_num, by omega, hok, hbr⟩
              case measure => simp [intOf]; omega
          · obtain rfl : k = ws.length := by omega
            rw [List.take_length, List.drop_length, List.append_nil] at hok
            have hml : (ws.map (swp 0 1)).length = ws.length := List.length_map ..
            have K := impl_PackHolds A A5 l (ws.map (swp 0 1)) c c5 n m wr (hO.ts.keep (bthru B4 hbr)) hok.is
            rw [hml, HM.out] at K
            clear hlk hml
            go_wp2_with fail
            refine K.mono ?_
            rintro e w7 ⟨rfl, b7⟩
            go_wp2_with fail
            go_ret
            exact ⟨rfl, bthru hb (bthru B4 (bthru hbr b7))⟩

open Go.ChangeShapes Go.WideShapes Go.ChangeAt Go.WideElems Go.Deep

set_option maxRecDepth 100000 in
theorem FnPackSwap_lifted (os : Os) (started : os.Started) (H : Type) (enc : TypeId × Value → H) :
    ReturnsInHanded {} Try.checked os 6 .any (Rows.fnPackSwapSpec.pre6 enc Try.prog Try.f6 Rows.fnPackSwapRow.domain false) (Rows.fnPackSwapSpec.post enc Try.prog Try.f6 false true false false) := by
  refine returnsInHanded_of_change (C := Try.checked) own started (by as_aux_lemma => kernel_rfl) Try.func6
    (ChangeSpec.witness6 (enc := enc) (C := Try.checked) false ⟨#[], #[.slice none 0 0], []⟩ 8 (by as_aux_lemma => kernel_rfl) (by as_aux_lemma => kernel_rfl) (by as_aux_lemma => kernel_rfl) (by as_aux_lemma => kernel_rfl)) ?_
  intro W base args ds gs before hval0 hW _ _
  have hval : ∀ (j : Nat) t v, Try.f6.params[j]? = some t → args[j]? = some v → Value.okWide Try.prog W .any base t v := hval0
  have hW' := hW
  obtain ⟨p, q, hA0, hV, rfl, _, _⟩ := hW
  have hA : DataW.TrodAll enc Try.prog W 0 (fun _ => true) true Try.f6.params.toList args.toList ds p := hA0
  rw [Try.params6] at hA hval
  obtain ⟨v0, d0, rfl, rfl, h0⟩ := trodAll_one hA
  obtain ⟨rfl, rfl⟩ := trodVars_none hV
  clear hA0 hval0
  simp only [List.append_nil] at hW'
  have hlt : ∀ x ∈ p, x.block < W.heap.size := fun x hx => hW'.lt x (by simpa using hx)
  have hargs : ∀ W', Below W.heap.size W W' → DataW.TrodAll enc Try.prog W' 0 (fun b => decide (b < W.heap.size)) true [41] [v0] [d0] (p) := fun W' hb =>
    trodAll_mk1 (Below.trod laidOut (by as_aux_lemma => kernel_rfl) (of_decide_eq_true (by as_aux_lemma => kernel_rfl)) h0 hb (fun x hx => hlt x (by simp [hx])))
  obtain ⟨A0, l0, c0, rfl, hlc0, hlm0, hlw0, hl0⟩ := open_kind Try.underlying41 Try.underlying5 (by as_aux_lemma => kernel_rfl) (okWide_slice Try.underlying41 (hval 0 _ v0 rfl rfl)) h0
  refine (law_FnPackSwap A0 l0 c0 W ⟨fun x hx => byte_wf (hlw0 x hx), hl0⟩ hlm0 hlc0).mono fun e W' ⟨he, hb⟩ => ?_
  subst he
  exact ⟨_, rfl, ⟨_, _, _, [], _, [], hW', trodAll_mk1 (shut_bool Try.underlying4 _), hargs W' hb, rfl, hb.frame _, fun h => by cases h⟩⟩

theorem FnPackSwap_joined : joinedFacts Try.prog 6 Try.f6 Rows.fnPackSwapSpec Rows.fnPackSwapRow = true :=
  joined_mk (by as_aux_lemma => kernel_rfl) laidOut mapsRowed_ok (by as_aux_lemma => kernel_rfl) (by as_aux_lemma => kernel_rfl) (by as_aux_lemma => kernel_rfl) stops_ok (by as_aux_lemma => kernel_rfl) knobs_ok (by as_aux_lemma => kernel_rfl) (by as_aux_lemma => kernel_rfl) (by as_aux_lemma => kernel_rfl) (by as_aux_lemma => kernel_rfl) (by as_aux_lemma => kernel_rfl) (by as_aux_lemma => kernel_rfl) (by as_aux_lemma => kernel_rfl) (by as_aux_lemma => kernel_rfl) (by as_aux_lemma => kernel_rfl) (by as_aux_lemma => kernel_rfl) (by as_aux_lemma => kernel_rfl) (by as_aux_lemma => kernel_rfl) (by as_aux_lemma => kernel_rfl) (by rw [keys_ok]; rfl) (by as_aux_lemma => kernel_rfl) heard_ok enter_ok (by rw [lifts_ok]; rfl) (by rw [make_ok]; rfl) (by as_aux_lemma => kernel_rfl) (by as_aux_lemma => kernel_rfl) (by as_aux_lemma => kernel_rfl) (by as_aux_lemma => kernel_rfl)

theorem FnPackSwap_holds : Rows.FnPackSwapSaid :=
  OpenClaim.holds_of_wide 6 Try.f6 rfl rfl rfl rfl rfl rfl rfl ⟨rfl, rfl, rfl, rfl, rfl⟩ rfl rfl rfl rfl rfl (by as_aux_lemma => kernel_rfl) Try.func6 FnPackSwap_joined
    (of_decide_eq_true (by as_aux_lemma => kernel_rfl)) (by unfold Func.isWrapper; rw [if_neg (by decide +kernel)]; exact ⟨rfl, rfl⟩)
    (fun os started H enc _ => FnPackSwap_lifted os started H enc)
#print axioms FnPackSwap_holds
end Go.Proofs.Ytnldiakjmhfodaa
