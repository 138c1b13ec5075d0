/-
  FnGroupShare returns true for every code.
-/
import Derived.Test.YtnhidlhfgpoopaaFnGroupOf
import Derived.Test.YtnhidlhfgpoopaaSumOf
import Derived.Deep.RegionHeld3
namespace Go.Proofs.Ytnhidlhfgpoopaa
open Go.RowKit

theorem shares_zip (cr hi : Bool) (z : List (Tk × Int)) (h : ∀ x ∈ z, 0 ≤ x.2 ∧ x.2 < 3) :
    shares cr hi ((z.filter (fun x => decide (x.2 = 0))).map Prod.fst) + shares cr hi ((z.filter (fun x => decide (x.2 = 1))).map Prod.fst) + shares cr hi ((z.filter (fun x => decide (x.2 = 2))).map Prod.fst) = shares cr hi (z.map Prod.fst) := by
  induction z with
  | nil => simp [shares, Rat.add_zero]
  | cons a z ih =>
    have ha := h a (by simp)
    have := ih (fun x hx => h x (List.mem_cons_of_mem _ hx))
    rcases (show a.2 = 0 ∨ a.2 = 1 ∨ a.2 = 2 from by omega) with e | e | e <;> simp [List.filter_cons, e, shares] <;> grind
def sumShr (l : List Tk) (ws : List Int) : Nat → Rat
  | 0 => 0
  | n + 1 => sumShr l ws n + shares true true (grp l ws (n : Int))
theorem sumShr_three {l : List Tk} {ws : List Int} (h : packVld l ws 3 = true) : sumShr l ws 3 = shares true true l := by
  simp only [packVld, Bool.and_eq_true, decide_eq_true_eq, List.all_eq_true] at h
  have hz := shares_zip true true (l.zip ws) (fun x hx => by
    have := h.2 x.2 (List.of_mem_zip hx).2
    simpa [wok] using this)
  rw [List.map_fst_zip (by omega)] at hz
  simp only [sumShr, grp, Rat.zero_add]
  exact hz
theorem shares_nonneg {l : List Tk} (h : ∀ t ∈ l, vld t = true) (cr hi : Bool) : 0 ≤ shares cr hi l := (shares_bd cr hi l h).1
theorem sumShr_bd {l : List Tk} (ws : List Int) (h : setVld l = true) (n : Nat) : 0 ≤ sumShr l ws n ∧ sumShr l ws n ≤ ((sumGrp l ws n : Nat) : Rat) ∧ (sumShr l ws n).den ≤ 20 ^ sumGrp l ws n := by
  induction n with
  | zero => simp [sumShr, sumGrp]
  | succ n ih =>
    obtain ⟨i1, i2, i3⟩ := ih
    have hg := (setVld_all (setVld_grp h ws (n : Int))).2
    have hb := shares_bd true true _ hg
    have hd := shares_den true true _ hg
    simp only [sumShr, sumGrp]
    generalize shares true true (grp l ws (n : Int)) = x at *
    generalize sumShr l ws n = y at *
    have e : ((sumGrp l ws n + (grp l ws (n : Int)).length : Nat) : Rat) = ((sumGrp l ws n : Nat) : Rat) + (((grp l ws (n : Int)).length : Nat) : Rat) := by simp
    refine ⟨by grind, by rw [e]; grind, ?_⟩
    rw [Nat.pow_add]
    exact Nat.le_trans (Nat.le_of_dvd (Nat.mul_pos y.den_pos x.den_pos) (den_add_dvd _ _)) (Nat.mul_le_mul i3 hd)
theorem sumGrp_mono (l : List Tk) (ws : List Int) {n m : Nat} (h : n ≤ m) : sumGrp l ws n ≤ sumGrp l ws m := by
  induction h with
  | refl => exact Nat.le_refl _
  | step _ ih => exact Nat.le_trans ih (by simp [sumGrp])
theorem RIn_of {r : Rat} {n : Nat} (h0 : 0 ≤ r) (h1 : r ≤ (n : Rat)) (hn : n ≤ 5) (hd : r.den ≤ 3200000) : RIn r := by
  have h3 := num_le_of_le h1
  have h5 : (n : Int) * (r.den : Int) ≤ 5 * (r.den : Int) := Int.mul_le_mul_of_nonneg_right (by omega) (by omega)
  exact ⟨rat_num_le h0, by omega, by omega⟩
theorem pow_le5 {n : Nat} (h : n ≤ 5) : 20 ^ n ≤ 3200000 := Nat.le_trans (Nat.pow_le_pow_right (by omega) h) (by decide)
theorem sumShr_small {l : List Tk} {ws : List Int} (h : setVld l = true) (hp : packVld l ws 3 = true) (n : Nat) (hn : n ≤ 3) : RIn (sumShr l ws n) := by
  have h1 := sumShr_bd ws h n
  have h2 := sumGrp_mono l ws hn
  rw [sumGrp_three hp] at h2
  have h3 := (setVld_all h).1
  exact RIn_of h1.1 h1.2.1 (by omega) (Nat.le_trans h1.2.2 (pow_le5 (by omega)))
theorem shares_RIn {l : List Tk} (h : setVld l = true) (cr hi : Bool) : RIn (shares cr hi l) := by
  have h1 := setVld_all h
  have h2 := shares_bd cr hi l h1.2
  exact RIn_of h2.1 h2.2 h1.1 (Nat.le_trans (shares_den cr hi l h1.2) (pow_le5 h1.1))
theorem sumV_yes {l : List Tk} (h : setVld l = true) (cr hi : Bool) : sumV l cr hi = rv (shares cr hi l) := by simp [sumV, h]
theorem rv_zero : rv 0 = sv 0 1 := rfl

theorem S_of {w w' : World} {b : Nat} {v0 v1 : Value} {t : TypeId} (h : w.heap[b]? = some (.cells #[v0, v1] t (0, 0))) (hb : b < w.heap.size) (hw : Below w.heap.size w w') :
    w'.cell? ⟨b, 0, none⟩ = some v0 ∧ w'.cell? ⟨b, 1, none⟩ = some v1 ∧ Below w.heap.size w w' := by
  obtain ⟨h0, h1, _⟩ := blk_two ((hw.block b hb).trans h)
  exact ⟨h0, h1, hw⟩

set_option maxHeartbeats 2000000 in
theorem law_FnGroupShare (A0 : Option Addr) (code : List Int) (c0 : Nat) (w : World) (h : BS w A0 code) (hl : code.length ≤ maxLen) (hlc : code.length ≤ c0) :
    Calls Try.prog 7 #[.slice A0 code.length c0] w fun e w' => e = .returned (.bool true) ∧ Below w.heap.size w w' := by
  have hl' := hl
  unfold maxLen at hl'
  by_cases h1 : code.length ≤ 1048576
  case neg =>
    go_enter Try.func7, Try.ntmps7
    go_wp2_with fail
    go_ret
    exact ⟨rfl, Below.refl _ _⟩
  go_enter Try.func7, Try.ntmps7
  go_wp2_with fail
  refine (spec_DrawGroupOf A0 code c0 w h hl hlc).mono ?_
  rintro e w1 ⟨A, c, l, B, d, ws, n, m, x, rfl, hk, hx0, hx1⟩
  have hlen := hk.len
  have hwlen := hk.wlen
  go_wp2_with fail
  refine (impl_GroupOf A B l ws c d x _ hk.tasks.ts hk.ints.is (by omega)).mono ?_
  rintro e w2 ⟨A2, c2, rfl, o2, b2⟩
  go_wp2_with fail
  refine (spec_GroupOf A B l ws c d x _ (hk.tasks.ts.keep b2) (hk.ints.is.keep b2) (by omega)).mono ?_
  rintro e w3 ⟨A3, c3, rfl, o3, b3⟩
  have b13 := bthru b2 b3
  have o2 := OT_keep o2 b3
  have hgl := grpOf_len l ws x
  go_wp2_with fail
  refine (laws_dmTasks A2 A3 (grpOf l ws x) (grpOf l ws x) c2 c3 _ o2.ts o3.ts (by omega)).mono ?_
  rintro e w4 ⟨rfl, b4⟩
  simp only [decide_true]
  have b14 := bthru b13 b4
  cases hg : gOk l ws x with
  | false =>
    go_wp2_with fail
    refine (laws_dmTasks A2 A3 (grpOf l ws x) (grpOf l ws x) c2 c3 _ (o2.ts.keep b4) (o3.ts.keep b4) (by omega)).mono ?_
    rintro e w5 ⟨rfl, b5⟩
    simp only [decide_true]
    go_wp2_with fail
    go_ret
    exact ⟨rfl, bthru hk.below (bthru b14 b5)⟩
  | true =>
    have hp : packVld l ws 3 = true := by
      simp only [gOk, Bool.and_eq_true] at hg
      exact hg.1.1
    have hs : setVld l = true := by
      simp only [packVld, Bool.and_eq_true] at hp
      exact hp.1.1.1.1
    have Hp := Lib.hid hp
    have Hs := Lib.hid hs
    clear hp hs
    go_wp2_with fail
    clear hg
    have hz4 := b4.size
    have hz14 := b14.size
    go_loopw [11] (fun i wr => ∃ k : Nat, k ≤ 3 ∧ i = .int .i64 (k : Int) ∧ Below w1.heap.size w1 wr ∧ w4.heap.size < wr.heap.size ∧ Hid (wr.heap[w4.heap.size]? = some (.cells #[.int .i64 (sumShr l ws k).num, .int .i64 ((sumShr l ws k).den : Int)] 42 (0, 0)))) (fun i _ => 3 - (intOf i).toNat)
    case atStart =>
      exact ⟨0, by omega, rfl, bal b14 _, by simp, heap_alloc_new w4 _⟩
    case round =>
      obtain ⟨k, hk3, rfl, hb, hBl, hB⟩ := hrel
      have hB' := hB.out
      obtain ⟨z0, z1, zf⟩ := blk_two hB'
      clear hB'
      by_cases hlt : k < 3
      · have hgk : gOk l ws (k : Int) = true := by simp [gOk, Hp.out]; omega
        have hgr : grpOf l ws (k : Int) = grp l ws (k : Int) := by simp [grpOf, hgk]
        have hgl2 := grp_len l ws (k : Int)
        have hr1 := sumShr_small Hs.out Hp.out k hk3
        have hr3 := sumShr_small Hs.out Hp.out (k + 1) (by omega)
        have hr2 := shares_RIn (setVld_grp Hs.out ws (k : Int)) true true
        have hsv := Lib.hid (sumV_yes (setVld_grp Hs.out ws (k : Int)) true true)
        have hss : Hid (sumShr l ws (k + 1) = sumShr l ws k + shares true true (grp l ws (k : Int))) := rfl
        go_wp2_with fail
        refine (impl_GroupOf A B l ws c d (k : Int) _ (hk.tasks.ts.keep hb) (hk.ints.is.keep hb) (by omega)).mono ?_
        rw [hgk, hgr]
        clear hgk hgr
        rintro e w5 ⟨A5, c5, rfl, o5, b5⟩
        have hz5 := b5.size
        have hB5 := (b5.block w4.heap.size (by omega)).trans hB.out
        obtain ⟨y0, y1, yf⟩ := blk_two hB5
        have HB5 := Lib.hid hB5
        clear z0 z1 zf hB5
        go_wp2_with fail
        have hlt5 : w4.heap.size < w5.heap.size := by omega
        clear hlen hwlen hx0 hx1 hl hl' hlc hgl hgl2
        go_region_held3 (fun w' => w'.cell? ⟨w4.heap.size, 0, none⟩ = some (.int .i64 (sumShr l ws k).num) ∧ w'.cell? ⟨w4.heap.size, 1, none⟩ = some (.int .i64 ((sumShr l ws k).den : Int)) ∧ Below w5.heap.size w5 w')
          ((refine S_of HB5.out hlt5 ?_; first | assumption | exact Below.drew (Below.refl _ _) | exact Below.drew (bal (Below.refl _ _) _) | exact (by assumption : _ ∧ _ ∧ Below w5.heap.size w5 _).2.2 | (refine bal ?_ _; first | assumption | exact (by assumption : _ ∧ _ ∧ Below w5.heap.size w5 _).2.2) | (refine bst (bst ?_ (p := ⟨_, 0, none⟩) ?_ _) (p := ⟨_, 1, none⟩) ?_ _ <;> first | assumption | exact (by assumption : _ ∧ _ ∧ Below w5.heap.size w5 _).2.2 | exact Nat.le_refl _ | exact B6.size | exact B7.size)))
          (first
            | (go_at_call 38; refine (impl_HighShare A5 _ c5 (World.drew (World.alloc _ _)) (o5.ts.keep (by first | assumption | exact (by assumption : _ ∧ _ ∧ Below w5.heap.size w5 _).2.2))).mono ?_; rw [hsv.out]; rintro e w6 ⟨rfl, b6⟩; have HN := Lib.hid ((b6.block w5.heap.size (by show w5.heap.size < (World.alloc w5 _).heap.size; rw [World.size_alloc]; exact Nat.lt_succ_self _)).trans (heap_alloc_new w5 _)); have hn6 : w5.heap.size < w6.heap.size := Nat.lt_of_lt_of_le (by show w5.heap.size < (World.alloc w5 _).heap.size; rw [World.size_alloc]; exact Nat.lt_succ_self _) b6.size; have B6 : Below w5.heap.size w5 w6 := bthru (by first | assumption | exact (by assumption : _ ∧ _ ∧ Below w5.heap.size w5 _).2.2) b6)
            | (go_at_call 38; refine (impl_HighShare A5 _ c5 _ (o5.ts.keep (by first | assumption | exact (by assumption : _ ∧ _ ∧ Below w5.heap.size w5 _).2.2))).mono ?_; rw [hsv.out]; rintro e w6 ⟨rfl, b6⟩; have B6 : Below w5.heap.size w5 w6 := bthru (by first | assumption | exact (by assumption : _ ∧ _ ∧ Below w5.heap.size w5 _).2.2) b6)
            | (go_at_call 37; refine (impl_AddShares_yes _ _ (World.alloc _ _) hr1 hr2 (by rw [← hss.out]; exact hr3)).mono ?_; rw [← hss.out]; rintro e w7 ⟨rfl, b7⟩; have qb := (b7.block w6.heap.size (by rw [World.size_alloc]; exact Nat.lt_succ_self _)).trans (heap_alloc_new w6 _); have B7 : Below w5.heap.size w5 w7 := bthru (by first | assumption | exact (by assumption : _ ∧ _ ∧ Below w5.heap.size w5 _).2.2) b7; have HQ := Lib.hid qb; obtain ⟨y0, y1, yf⟩ := blk_two qb; clear qb)
            | (go_at_call 37; refine (impl_AddShares_yes _ _ _ hr1 hr2 (by rw [← hss.out]; exact hr3)).mono ?_; rw [← hss.out]; rintro e w7 ⟨rfl, b7⟩; have q6 := hn6; have qN := HN.out; have qb := (b7.block w5.heap.size q6).trans qN; have B7 : Below w5.heap.size w5 w7 := bthru (by first | assumption | exact (by assumption : _ ∧ _ ∧ Below w5.heap.size w5 _).2.2) b7; have HQ := Lib.hid qb; obtain ⟨y0, y1, yf⟩ := blk_two qb; clear qb qN)
            | (go_at_call 37; refine (impl_AddShares_yes _ _ _ hr1 hr2 (by rw [← hss.out]; exact hr3)).mono ?_; rw [← hss.out]; rintro e w7 ⟨rfl, b7⟩; have B7 : Below w5.heap.size w5 w7 := bthru (by first | assumption | exact (by assumption : _ ∧ _ ∧ Below w5.heap.size w5 _).2.2) b7))
        all_goals (rename_i hS; replace hS := hS.2.2)
        · have hN := heap_alloc_new w7 (.cells #[.int .i64 (sumShr l ws (k + 1)).num, .int .i64 ((sumShr l ws (k + 1)).den : Int)] 42 (0, 0))
          have hnb : w4.heap.size < w7.heap.size := Nat.lt_of_lt_of_le hlt5 B7.size
          generalize hw : World.alloc w7 _ = wx at hN hS ⊢
          clear hw
          have hO := (hS.block _ hlt5).trans HB5.out
          obtain ⟨n0, n1, nf⟩ := blk_two hN
          obtain ⟨p0, p1, pf⟩ := blk_two hO
          have HO := Lib.hid hO
          have hzx := hS.size
          clear hO hN
          go_wp2_with fail
          go_roundw
          case rel => exact ⟨k + 1, by omega, by go_num, bst (bst (bthru (bthru hb b5) hS) (p := ⟨w4.heap.size, 0, none⟩) hz14 _) (p := ⟨w4.heap.size, 1, none⟩) hz14 _, by simp; omega, blk_set2 HO.out _ _⟩
          case measure => simp [intOf]; omega
        · have hN := blk_set2 HQ.out (.int .i64 (sumShr l ws (k + 1)).num) (.int .i64 ((sumShr l ws (k + 1)).den : Int))
          have hnb : w4.heap.size < w6.heap.size := Nat.lt_of_lt_of_le hlt5 B6.size
          generalize hw : (World.setCell (World.setCell w7 ⟨w6.heap.size, 0, none⟩ _) ⟨w6.heap.size, 1, none⟩ _) = wx at hN hS ⊢
          clear hw
          have hO := (hS.block _ hlt5).trans HB5.out
          obtain ⟨n0, n1, nf⟩ := blk_two hN
          obtain ⟨p0, p1, pf⟩ := blk_two hO
          have HO := Lib.hid hO
          have hzx := hS.size
          clear hO hN
          go_wp2_with fail
          go_roundw
          case rel => exact ⟨k + 1, by omega, by go_num, bst (bst (bthru (bthru hb b5) hS) (p := ⟨w4.heap.size, 0, none⟩) hz14 _) (p := ⟨w4.heap.size, 1, none⟩) hz14 _, by simp; omega, blk_set2 HO.out _ _⟩
          case measure => simp [intOf]; omega
        · have hN := blk_set2 HQ.out (.int .i64 (sumShr l ws (k + 1)).num) (.int .i64 ((sumShr l ws (k + 1)).den : Int))
          have hnb : w4.heap.size < w5.heap.size := hlt5
          generalize hw : (World.setCell (World.setCell w7 ⟨w5.heap.size, 0, none⟩ _) ⟨w5.heap.size, 1, none⟩ _) = wx at hN hS ⊢
          clear hw
          have hO := (hS.block _ hlt5).trans HB5.out
          obtain ⟨n0, n1, nf⟩ := blk_two hN
          obtain ⟨p0, p1, pf⟩ := blk_two hO
          have HO := Lib.hid hO
          have hzx := hS.size
          clear hO hN
          go_wp2_with fail
          go_roundw
          case rel => exact ⟨k + 1, by omega, by go_num, bst (bst (bthru (bthru hb b5) hS) (p := ⟨w4.heap.size, 0, none⟩) hz14 _) (p := ⟨w4.heap.size, 1, none⟩) hz14 _, by simp; omega, blk_set2 HO.out _ _⟩
          case measure => simp [intOf]; omega
      · have hk' : k = 3 := by omega
        subst hk'
        have hsv := Lib.hid (sumV_yes Hs.out true true)
        have hq := fun (w : World) => run_eql_share (sumShr l ws 3).num (sumShr l ws 3).den w
        have h3 := Lib.hid (sumShr_three Hp.out)
        go_wp2_with fail
        clear hlen hwlen hx0 hx1 hl hl' hlc hgl
        go_region_held3 (fun w' => w'.cell? ⟨w4.heap.size, 0, none⟩ = some (.int .i64 (sumShr l ws 3).num) ∧ w'.cell? ⟨w4.heap.size, 1, none⟩ = some (.int .i64 ((sumShr l ws 3).den : Int)) ∧ Below wr.heap.size wr w')
          ((refine S_of hB.out hBl ?_; first | assumption | exact Below.drew (Below.refl _ _) | exact (by assumption : _ ∧ _ ∧ Below wr.heap.size wr _).2.2))
          (first
            | (go_at_call 38; refine (impl_HighShare A l c _ (hk.tasks.ts.keep (bthru hb (by first | assumption | exact (by assumption : _ ∧ _ ∧ Below wr.heap.size wr _).2.2)))).mono ?_; rw [hsv.out, ← h3.out]; rintro e w6 ⟨rfl, b6⟩; have B6 : Below wr.heap.size wr w6 := bthru (by first | assumption | exact (by assumption : _ ∧ _ ∧ Below wr.heap.size wr _).2.2) b6))
        go_wp2_with fail
        go_ret
        exact ⟨rfl, bthru hk.below (bthru hb B6)⟩

open Go.ChangeShapes Go.WideShapes Go.ChangeAt Go.WideElems Go.Deep

set_option maxRecDepth 100000 in
theorem FnGroupShare_lifted (os : Os) (started : os.Started) (H : Type) (enc : TypeId × Value → H) :
    ReturnsInHanded {} Try.checked os 7 .any (Rows.fnGroupShareSpec.pre6 enc Try.prog Try.f7 Rows.fnGroupShareRow.domain false) (Rows.fnGroupShareSpec.post enc Try.prog Try.f7 false true false false) := by
  refine returnsInHanded_of_change (C := Try.checked) own started (by as_aux_lemma => kernel_rfl) Try.func7
    (ChangeSpec.witness6 (enc := enc) (C := Try.checked) false ⟨#[], #[.slice none 0 0], []⟩ 8 (by as_aux_lemma => kernel_rfl) (by as_aux_lemma => kernel_rfl) (by as_aux_lemma => kernel_rfl) (by as_aux_lemma => kernel_rfl)) ?_
  intro W base args ds gs before hval0 hW _ _
  have hval : ∀ (j : Nat) t v, Try.f7.params[j]? = some t → args[j]? = some v → Value.okWide Try.prog W .any base t v := hval0
  have hW' := hW
  obtain ⟨p, q, hA0, hV, rfl, _, _⟩ := hW
  have hA : DataW.TrodAll enc Try.prog W 0 (fun _ => true) true Try.f7.params.toList args.toList ds p := hA0
  rw [Try.params7] at hA hval
  obtain ⟨v0, d0, rfl, rfl, h0⟩ := trodAll_one hA
  obtain ⟨rfl, rfl⟩ := trodVars_none hV
  clear hA0 hval0
  simp only [List.append_nil] at hW'
  have hlt : ∀ x ∈ p, x.block < W.heap.size := fun x hx => hW'.lt x (by simpa using hx)
  have hargs : ∀ W', Below W.heap.size W W' → DataW.TrodAll enc Try.prog W' 0 (fun b => decide (b < W.heap.size)) true [32] [v0] [d0] (p) := fun W' hb =>
    trodAll_mk1 (Below.trod laidOut (by as_aux_lemma => kernel_rfl) (of_decide_eq_true (by as_aux_lemma => kernel_rfl)) h0 hb (fun x hx => hlt x (by simp [hx])))
  obtain ⟨A0, l0, c0, rfl, hlc0, hlm0, hlw0, hl0⟩ := open_kind Try.underlying32 Try.underlying5 (by as_aux_lemma => kernel_rfl) (okWide_slice Try.underlying32 (hval 0 _ v0 rfl rfl)) h0
  refine (law_FnGroupShare A0 l0 c0 W ⟨fun x hx => byte_wf (hlw0 x hx), hl0⟩ hlm0 hlc0).mono fun e W' ⟨he, hb⟩ => ?_
  subst he
  exact ⟨_, rfl, ⟨_, _, _, [], _, [], hW', trodAll_mk1 (shut_bool Try.underlying4 _), hargs W' hb, rfl, hb.frame _, fun h => by cases h⟩⟩

theorem FnGroupShare_joined : joinedFacts Try.prog 7 Try.f7 Rows.fnGroupShareSpec Rows.fnGroupShareRow = true :=
  joined_mk (by as_aux_lemma => kernel_rfl) laidOut mapsRowed_ok (by as_aux_lemma => kernel_rfl) (by as_aux_lemma => kernel_rfl) (by as_aux_lemma => kernel_rfl) stops_ok (by as_aux_lemma => kernel_rfl) knobs_ok (by as_aux_lemma => kernel_rfl) (by as_aux_lemma => kernel_rfl) (by as_aux_lemma => kernel_rfl) (by as_aux_lemma => kernel_rfl) (by as_aux_lemma => kernel_rfl) (by as_aux_lemma => kernel_rfl) (by as_aux_lemma => kernel_rfl) (by as_aux_lemma => kernel_rfl) (by as_aux_lemma => kernel_rfl) (by as_aux_lemma => kernel_rfl) (by as_aux_lemma => kernel_rfl) (by as_aux_lemma => kernel_rfl) (by as_aux_lemma => kernel_rfl) (by rw [keys_ok]; rfl) (by as_aux_lemma => kernel_rfl) heard_ok enter_ok (by rw [lifts_ok]; rfl) (by rw [make_ok]; rfl) (by as_aux_lemma => kernel_rfl) (by as_aux_lemma => kernel_rfl) (by as_aux_lemma => kernel_rfl) (by as_aux_lemma => kernel_rfl)

theorem FnGroupShare_holds : Rows.FnGroupShareSaid :=
  OpenClaim.holds_of_wide 7 Try.f7 rfl rfl rfl rfl rfl rfl rfl ⟨rfl, rfl, rfl, rfl, rfl⟩ rfl rfl rfl rfl rfl (by as_aux_lemma => kernel_rfl) Try.func7 FnGroupShare_joined
    (of_decide_eq_true (by as_aux_lemma => kernel_rfl)) (by unfold Func.isWrapper; rw [if_neg (by decide +kernel)]; exact ⟨rfl, rfl⟩)
    (fun os started H enc _ => FnGroupShare_lifted os started H enc)
#print axioms FnGroupShare_holds
end Go.Proofs.Ytnhidlhfgpoopaa
