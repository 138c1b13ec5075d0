/-
  FnGroupOf returns true for every code.
-/
import Derived.Test.YtnhidlhfgpoopaaGroup
import Derived.Test.YtnhidlhfgpoopaaDrawCase
import Derived.Test.YtnhidlhfgpoopaaDm
import Derived.Test.YtnhidlhfgpoopaaOpen
namespace Go.Proofs.Ytnhidlhfgpoopaa
open Go.RowKit

theorem grp_mem {l : List Tk} {ws : List Int} {p : Int} {t : Tk} (h : t ∈ grp l ws p) : t ∈ l := by
  simp only [grp, List.mem_map, List.mem_filter] at h
  obtain ⟨x, ⟨hx, _⟩, rfl⟩ := h
  exact (List.of_mem_zip hx).1
theorem setVld_grp {l : List Tk} (h : setVld l = true) (ws : List Int) (p : Int) : setVld (grp l ws p) = true := by
  simp only [setVld, Bool.and_eq_true, decide_eq_true_eq, List.all_eq_true] at h ⊢
  exact ⟨Nat.le_trans (grp_len l ws p) h.1, fun t ht => h.2 t (grp_mem ht)⟩
theorem zip_three (z : List (Tk × Int)) (h : ∀ x ∈ z, 0 ≤ x.2 ∧ x.2 < 3) :
    (z.filter (fun x => decide (x.2 = 0))).length + (z.filter (fun x => decide (x.2 = 1))).length + (z.filter (fun x => decide (x.2 = 2))).length = z.length := by
  induction z with
  | nil => rfl
  | cons a z ih =>
    have ha := h a (by simp)
    have := ih (fun x hx => h x (List.mem_cons_of_mem _ hx))
    rcases (show a.2 = 0 ∨ a.2 = 1 ∨ a.2 = 2 from by omega) with e | e | e <;> simp [List.filter_cons, e] <;> omega
def sumGrp (l : List Tk) (ws : List Int) : Nat → Nat
  | 0 => 0
  | n + 1 => sumGrp l ws n + (grp l ws (n : Int)).length
theorem sumGrp_three {l : List Tk} {ws : List Int} (h : packVld l ws 3 = true) : sumGrp l ws 3 = l.length := by
  simp only [packVld, Bool.and_eq_true, decide_eq_true_eq, List.all_eq_true] at h
  have hz := zip_three (l.zip ws) (fun x hx => by
    have := h.2 x.2 (List.of_mem_zip hx).2
    simpa [wok] using this)
  simp only [sumGrp, grp, List.length_map]
  rw [List.length_zip, h.1.2, Nat.min_self] at hz
  simpa [Nat.add_assoc] using hz
theorem sumGrp_le (l : List Tk) (ws : List Int) (n : Nat) : sumGrp l ws n ≤ n * l.length := by
  induction n with
  | zero => simp [sumGrp]
  | succ n ih => have := grp_len l ws (n : Int); simp only [sumGrp, Nat.succ_mul]; omega

theorem law_FnGroupOf (A0 : Option Addr) (code : List Int) (c0 : Nat) (w : World) (h : BS w A0 code) (hl : code.length ≤ maxLen) (hlc : code.length ≤ c0) :
    Calls Try.prog 5 #[.slice A0 code.length c0] w fun e w' => e = .returned (.bool true) ∧ Below w.heap.size w w' := by
  have hl' := hl
  unfold maxLen at hl'
  by_cases h1 : code.length ≤ 1048576
  case neg =>
    go_enter Try.func5, Try.ntmps5
    go_wp2_with fail
    go_ret
    exact ⟨rfl, Below.refl _ _⟩
  go_enter Try.func5, Try.ntmps5
  go_wp2_with fail
  refine (spec_DrawGroupOf A0 code c0 w h hl hlc).mono ?_
  rintro e w1 ⟨A, c, l, B, d, ws, n, m, x, rfl, hk, hx0, hx1⟩
  have hlen := hk.len
  have hwlen := hk.wlen
  go_wp2_with fail
  refine (impl_GroupOf A B l ws c d x _ hk.tasks.ts hk.ints.is (by omega)).mono ?_
  rintro e w2 ⟨A2, c2, rfl, o2, b2⟩
  go_wp2_with fail
  refine (spec_GroupOf A B l ws c d x _ (hk.tasks.ts.keep b2) (hk.ints.is.keep b2) (by omega)).mono ?_
  rintro e w3 ⟨A3, c3, rfl, o3, b3⟩
  have b13 := bthru b2 b3
  have o2 := OT_keep o2 b3
  have hgl := grpOf_len l ws x
  go_wp2_with fail
  refine (laws_dmTasks A2 A3 (grpOf l ws x) (grpOf l ws x) c2 c3 _ o2.ts o3.ts (by omega)).mono ?_
  rintro e w4 ⟨rfl, b4⟩
  simp only [decide_true]
  have b14 := bthru b13 b4
  cases hg : gOk l ws x with
  | false =>
    go_wp2_with fail
    refine (laws_dmTasks A2 A3 (grpOf l ws x) (grpOf l ws x) c2 c3 _ (o2.ts.keep b4) (o3.ts.keep b4) (by omega)).mono ?_
    rintro e w5 ⟨rfl, b5⟩
    simp only [decide_true]
    go_wp2_with fail
    go_ret
    exact ⟨rfl, bthru hk.below (bthru b14 b5)⟩
  | true =>
    have hp : packVld l ws 3 = true := by
      simp only [gOk, Bool.and_eq_true] at hg
      exact hg.1.1
    have hs : setVld l = true := by
      simp only [packVld, Bool.and_eq_true] at hp
      exact hp.1.1.1.1
    have Hp := Lib.hid hp
    have Hs := Lib.hid hs
    clear hp hs
    go_wp2_with fail
    clear hg
    go_loopw [10, 11] (fun v i wr => ∃ k : Nat, k ≤ 3 ∧ i = .int .i64 (k : Int) ∧ v = .int .i64 ((sumGrp l ws k : Nat) : Int) ∧ Below w1.heap.size w1 wr) (fun _ i _ => 3 - (intOf i).toNat)
    case atStart => exact ⟨0, by omega, rfl, rfl, b14⟩
    case round =>
      obtain ⟨k, hk3, rfl, rfl, hb⟩ := hrel
      have hsum := sumGrp_le l ws k
      have hsum2 : sumGrp l ws k ≤ 100 := by
        have := Nat.mul_le_mul hk3 hlen
        omega
      clear hsum
      by_cases hlt : k < 3
      · have hgk : gOk l ws (k : Int) = true := by simp [gOk, Hp.out]; omega
        have hgr : grpOf l ws (k : Int) = grp l ws (k : Int) := by simp [grpOf, hgk]
        have hgl2 := grp_len l ws (k : Int)
        go_wp2_with fail
        refine (impl_GroupOf A B l ws c d (k : Int) _ (hk.tasks.ts.keep hb) (hk.ints.is.keep hb) (by omega)).mono ?_
        rw [hgk, hgr]
        clear hgk hgr
        rintro e w5 ⟨A5, c5, rfl, o5, b5⟩
        go_wp2_with fail
        refine (impl_SetValid A5 _ c5 _ o5.ts).mono ?_
        rintro e w6 ⟨rfl, b6⟩
        rw [setVld_grp Hs.out]
        go_wp2_with fail
        go_roundw
        case rel => exact ⟨k + 1, by omega, by go_num, by simp [sumGrp], bthru hb (bthru b5 b6)⟩
        case measure => simp [intOf]; omega
      · have hk' : k = 3 := by omega
        subst hk'
        have hfin : (((sumGrp l ws 3 : Nat) : Int) == (l.length : Int)) = true := by rw [sumGrp_three Hp.out]; simp
        go_wp2_with fail
        go_ret
        exact ⟨rfl, bthru hk.below hb⟩

open Go.ChangeShapes Go.WideShapes Go.ChangeAt Go.WideElems Go.Deep

set_option maxRecDepth 100000 in
theorem FnGroupOf_lifted (os : Os) (started : os.Started) (H : Type) (enc : TypeId × Value → H) :
    ReturnsInHanded {} Try.checked os 5 .any (Rows.fnGroupOfSpec.pre6 enc Try.prog Try.f5 Rows.fnGroupOfRow.domain false) (Rows.fnGroupOfSpec.post enc Try.prog Try.f5 false true false false) := by
  refine returnsInHanded_of_change (C := Try.checked) own started (by as_aux_lemma => kernel_rfl) Try.func5
    (ChangeSpec.witness6 (enc := enc) (C := Try.checked) false ⟨#[], #[.slice none 0 0], []⟩ 8 (by as_aux_lemma => kernel_rfl) (by as_aux_lemma => kernel_rfl) (by as_aux_lemma => kernel_rfl) (by as_aux_lemma => kernel_rfl)) ?_
  intro W base args ds gs before hval0 hW _ _
  have hval : ∀ (j : Nat) t v, Try.f5.params[j]? = some t → args[j]? = some v → Value.okWide Try.prog W .any base t v := hval0
  have hW' := hW
  obtain ⟨p, q, hA0, hV, rfl, _, _⟩ := hW
  have hA : DataW.TrodAll enc Try.prog W 0 (fun _ => true) true Try.f5.params.toList args.toList ds p := hA0
  rw [Try.params5] at hA hval
  obtain ⟨v0, d0, rfl, rfl, h0⟩ := trodAll_one hA
  obtain ⟨rfl, rfl⟩ := trodVars_none hV
  clear hA0 hval0
  simp only [List.append_nil] at hW'
  have hlt : ∀ x ∈ p, x.block < W.heap.size := fun x hx => hW'.lt x (by simpa using hx)
  have hargs : ∀ W', Below W.heap.size W W' → DataW.TrodAll enc Try.prog W' 0 (fun b => decide (b < W.heap.size)) true [32] [v0] [d0] (p) := fun W' hb =>
    trodAll_mk1 (Below.trod laidOut (by as_aux_lemma => kernel_rfl) (of_decide_eq_true (by as_aux_lemma => kernel_rfl)) h0 hb (fun x hx => hlt x (by simp [hx])))
  obtain ⟨A0, l0, c0, rfl, hlc0, hlm0, hlw0, hl0⟩ := open_kind Try.underlying32 Try.underlying5 (by as_aux_lemma => kernel_rfl) (okWide_slice Try.underlying32 (hval 0 _ v0 rfl rfl)) h0
  refine (law_FnGroupOf A0 l0 c0 W ⟨fun x hx => byte_wf (hlw0 x hx), hl0⟩ hlm0 hlc0).mono fun e W' ⟨he, hb⟩ => ?_
  subst he
  exact ⟨_, rfl, ⟨_, _, _, [], _, [], hW', trodAll_mk1 (shut_bool Try.underlying4 _), hargs W' hb, rfl, hb.frame _, fun h => by cases h⟩⟩

theorem FnGroupOf_joined : joinedFacts Try.prog 5 Try.f5 Rows.fnGroupOfSpec Rows.fnGroupOfRow = true :=
  joined_mk (by as_aux_lemma => kernel_rfl) laidOut mapsRowed_ok (by as_aux_lemma => kernel_rfl) (by as_aux_lemma => kernel_rfl) (by as_aux_lemma => kernel_rfl) stops_ok (by as_aux_lemma => kernel_rfl) knobs_ok (by as_aux_lemma => kernel_rfl) (by as_aux_lemma => kernel_rfl) (by as_aux_lemma => kernel_rfl) (by as_aux_lemma => kernel_rfl) (by as_aux_lemma => kernel_rfl) (by as_aux_lemma => kernel_rfl) (by as_aux_lemma => kernel_rfl) (by as_aux_lemma => kernel_rfl) (by as_aux_lemma => kernel_rfl) (by as_aux_lemma => kernel_rfl) (by as_aux_lemma => kernel_rfl) (by as_aux_lemma => kernel_rfl) (by as_aux_lemma => kernel_rfl) (by rw [keys_ok]; rfl) (by as_aux_lemma => kernel_rfl) heard_ok enter_ok (by rw [lifts_ok]; rfl) (by rw [make_ok]; rfl) (by as_aux_lemma => kernel_rfl) (by as_aux_lemma => kernel_rfl) (by as_aux_lemma => kernel_rfl) (by as_aux_lemma => kernel_rfl)

theorem FnGroupOf_holds : Rows.FnGroupOfSaid :=
  OpenClaim.holds_of_wide 5 Try.f5 rfl rfl rfl rfl rfl rfl rfl ⟨rfl, rfl, rfl, rfl, rfl⟩ rfl rfl rfl rfl rfl (by as_aux_lemma => kernel_rfl) Try.func5 FnGroupOf_joined
    (of_decide_eq_true (by as_aux_lemma => kernel_rfl)) (by unfold Func.isWrapper; rw [if_neg (by decide +kernel)]; exact ⟨rfl, rfl⟩)
    (fun os started H enc _ => FnGroupOf_lifted os started H enc)
#print axioms FnGroupOf_holds
end Go.Proofs.Ytnhidlhfgpoopaa
