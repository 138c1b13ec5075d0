/-
  FnAdmitTask returns true for every code.
-/
import Derived.Test.YtnldiakjmhfodaaDrawS2
import Derived.Test.YtnldiakjmhfodaaAdmI
import Derived.Test.YtnldiakjmhfodaaDm
import Derived.Test.YtnldiakjmhfodaaS2T
import Derived.Test.YtnldiakjmhfodaaHypI
import Derived.Test.YtnldiakjmhfodaaSumOf
import Derived.Test.YtnldiakjmhfodaaOpen
namespace Go.Proofs.Ytnldiakjmhfodaa
open Go.RowKit

theorem blk_below {w w' : World} {b : Nat} {o : Obj} (h : w.heap[b]? = some o) (hb : Below w.heap.size w w') : w'.heap[b]? = some o :=
  (hb.block b (Array.getElem?_eq_some_iff.1 h).1).trans h

set_option maxHeartbeats 1000000 in
set_option maxRecDepth 100000 in
theorem law_FnAdmitTask (A0 : Option Addr) (code : List Int) (c0 : Nat) (w : World) (h : BS w A0 code) (hl : code.length ≤ maxLen) (hlc : code.length ≤ c0) :
    Calls Try.prog 17 #[.slice A0 code.length c0] w fun e w' => e = .returned (.bool true) ∧ Below w.heap.size w w' := by
  have hl' := hl
  unfold maxLen at hl'
  by_cases h1 : code.length ≤ 1048576
  case neg =>
    go_enter Try.func17, Try.ntmps17
    go_wp2_with fail
    go_ret
    exact ⟨rfl, Below.refl _ _⟩
  go_enter Try.func17, Try.ntmps17
  go_wp2_with fail
  refine (spec_DrawAdmitTask A0 code c0 w h hl hlc).mono ?_
  rintro e w1 ⟨A, c, l, t, m, rfl, hO, hl5, m0, m2, hb⟩
  have hsz := own_size hO
  obtain ⟨hsz1, hsz2⟩ := hsz
  clear hsz2
  have hA := OT_none hO
  have HA := Lib.hid hA
  clear hA
  have hT := heap_alloc_new w1 (.cells #[.int .i64 t.low, .int .i64 t.high, .int .i64 t.due, .int .i64 t.every, .bool t.crit] 30 (0, 0))
  have hO := OT_alloc hO (.cells #[.int .i64 t.low, .int .i64 t.high, .int .i64 t.due, .int .i64 t.every, .bool t.crit] 30 (0, 0))
  have hb := bal hb (.cells #[.int .i64 t.low, .int .i64 t.high, .int .i64 t.due, .int .i64 t.every, .bool t.crit] 30 (0, 0))
  obtain ⟨x, hx⟩ : ∃ x, admL l t m = x := ⟨_, rfl⟩
  have hxl : x.length ≤ 6 := by rw [← hx]; exact admL_le hl5
  have HX := Lib.hid hx
  obtain ⟨ok, hok⟩ : ∃ ok, (admitT l t m).isSome = ok := ⟨_, rfl⟩
  have HK := Lib.hid hok
  clear hx hok
  go_upto_region 4 with fail
  generalize World.alloc w1 _ = wb at hT hO hb ⊢
  generalize w1.heap.size = nT at hT ⊢
  have hT1 := Lib.hid hT
  clear hT
  obtain ⟨t0, t1, t2, t3, t4, _⟩ := blk_five hT1.out
  go_wp2_with fail
  refine (impl_AdmitTask A l t c m _ hO.ts (by omega) hsz1).mono ?_
  rw [HX.out, HK.out]
  rintro e w2 ⟨A2, c2, rfl, o2, b2⟩
  have hT2 := Lib.hid (blk_below hT1.out b2)
  clear hT1 t0 t1 t2 t3 t4
  obtain ⟨t0, t1, t2, t3, t4, _⟩ := blk_five hT2.out
  go_wp2_with fail
  refine (spec_AdmitTask A l t c m _ (OT_keep hO b2).ts (by omega) HA.out).mono ?_
  rw [HX.out, HK.out]
  rintro e w3 ⟨A3, c3, rfl, o3, b3⟩
  have hT3 := Lib.hid (blk_below hT2.out b3)
  clear hT2 t0 t1 t2 t3 t4
  have o2 := OT_keep o2 b3
  have B3 := bthru b2 b3
  go_wp2_with fail
  refine (laws_dmTasks A2 A3 x x c2 c3 _ o2.ts o3.ts (by omega)).mono ?_
  rintro e w4 ⟨rfl, b4⟩
  simp only [decide_true]
  have o2 := OT_keep o2 b4
  have o3 := OT_keep o3 b4
  have B4 := bthru B3 b4
  have hT4 := Lib.hid (blk_below hT3.out b4)
  clear hT3
  obtain ⟨t0, t1, t2, t3, t4, _⟩ := blk_five hT4.out
  cases hr : admitT l t m with
  | none =>
    have e1 : ok = false := by rw [← HK.out, hr]; rfl
    have e2 : x = [] := by rw [← HX.out, admL, hr]; rfl
    subst e1
    clear hr e2
    go_wp2_with fail
    refine (laws_dmTasks A2 A3 x x c2 c3 _ o2.ts o3.ts (by omega)).mono ?_
    rintro e w5 ⟨rfl, b5⟩
    simp only [decide_true]
    go_wp2_with fail
    go_ret
    exact ⟨rfl, bthru hb (bthru B4 b5)⟩
  | some x' =>
    have e1 : ok = true := by rw [← HK.out, hr]; rfl
    have e2 : x' = x := by rw [← HX.out, admL, hr]; rfl
    subst e1
    subst e2
    obtain ⟨f1, f2, f3, f4⟩ := admitT_some hr
    have hvx := hldBy_vld f4
    have hlen : x'.length = l.length + 1 := by rw [f3.length_eq]; simp
    have hva : setVld (l ++ [t]) = true := f2
    have hhyp := hyp_perm f3
    have hshr : sumV x' true true = sumV (l ++ [t]) true true := by simp only [sumV, hvx, hva, if_true]; rw [shares_perm true true f3]
    have Hlen := Lib.hid hlen
    have F4 := Lib.hid f4
    have Hvx := Lib.hid hvx
    have Hva := Lib.hid hva
    have Hhyp := Lib.hid hhyp
    have Hshr := Lib.hid hshr
    have hlx : x'.length ≤ 6 := hxl
    clear hr f1 f2 f3 f4 hvx hlen hva hhyp hshr
    have hLT : ∀ w', Below w4.heap.size w4 w' → TS w' A l := fun w' hw => (hO.ts.keep B4).keep hw
    have hTC : ∀ w', Below w4.heap.size w4 w' → w'.cell? ⟨nT, 0, none⟩ = some (.int .i64 t.low) ∧ w'.cell? ⟨nT, 1, none⟩ = some (.int .i64 t.high) ∧ w'.cell? ⟨nT, 2, none⟩ = some (.int .i64 t.due) ∧ w'.cell? ⟨nT, 3, none⟩ = some (.int .i64 t.every) ∧ w'.cell? ⟨nT, 4, none⟩ = some (.bool t.crit) := fun w' hw => by
      obtain ⟨z0, z1, z2, z3, z4, _⟩ := blk_five (blk_below hT4.out hw)
      exact ⟨z0, z1, z2, z3, z4⟩
    clear t0 t1 t2 t3 t4
    have hs2 := (own_size o2).1
    go_upto_region 8 with fail
    go_cut [10] from 55 to 60 (fun v wc => ∃ A8 c8, v = .slice A8 (l.length + 1) c8 ∧ OT w4.heap.size wc A8 c8 (l ++ [t]) ∧ Below w4.heap.size w4 wc)
    case first =>
      refine wp_region_any (by kernel_rfl) ?_
      have C : Below w4.heap.size w4 w4.drew := Below.drew (Below.refl _ _)
      obtain ⟨v0, hv0⟩ : ∃ v, v = World.drew w4 := ⟨_, rfl⟩
      change wpAny _ _ _ _ _ _ _ (World.drew w4)
      rw [← hv0] at C ⊢
      clear hv0
      refine takeL (i := 1) 56 (.slice A l.length c) rfl rfl (by kernel_rfl) (by kernel_rfl) (by kernel_rfl) (fun _ _ _ h => h) (.inl ⟨by rfl, fun _ => rfl⟩) ?_
      simp only [List.set_cons_succ, List.set_cons_zero]
      refine wpAny_ready (rs := [0, 3]) (by kernel_rfl) (by simp) (wantL (i := 0) 55 rfl rfl (by rfl) (fun K hK => ?_) (wantL (i := 3) 58 rfl rfl (by rfl) (fun K hK => ?_) AllReady.nil))
      · go_simp
        refine hK _ _ ?_
        simp only [List.set_cons_succ, List.set_cons_zero]
        have S := OT_blank v0 w4.heap.size C.size
        have C := bal C (.cells #[] 30)
        have hx0 : v0.heap.size < (v0.alloc (.cells #[] 30)).heap.size := by simp
        generalize hgw : World.alloc v0 _ = v1 at S C hx0 ⊢
        clear hgw
        generalize v0.heap.size = x0 at S hx0 ⊢
        refine wpAny_ready (rs := [2, 3]) (by kernel_rfl) (by simp) (wantL (i := 2) 57 rfl rfl (by rfl) (fun K hK => ?_) (wantL (i := 3) 58 rfl rfl (by rfl) (fun K hK => ?_) AllReady.nil))
        · refine wp_of_step (step_app_any rfl (.tmp 55) (.tmp 56) rfl w4.heap.size (some ⟨x0, 0, none⟩) [] 0 0 rfl rfl S A l.length c l rfl rfl (hLT _ C) HA.out (by simp) (by omega) C.size ?_)
          intro A7 c7 v2 o7 g7 b7
          rw [List.nil_append] at o7
          rw [Nat.zero_add]
          have C := C.trans b7
          refine hK _ _ ?_
          simp only [List.set_cons_succ, List.set_cons_zero]
          refine wpAny_ready (rs := [3]) (by kernel_rfl) (by simp) (wantL (i := 3) 58 rfl rfl (by rfl) (fun K hK => ?_) AllReady.nil)
          obtain ⟨e0, e1, e2, e3, e4⟩ := hTC _ C
          go_simp
          refine hK _ _ ?_
          simp only [List.set_cons_succ, List.set_cons_zero]
          clear e0 e1 e2 e3 e4
          refine wpAny_ready (rs := [4]) (by kernel_rfl) (by simp) (wantL (i := 4) 59 rfl rfl (by rfl) (fun K hK => ?_) AllReady.nil)
          go_simp
          refine hK _ _ ?_
          simp only [List.set_cons_succ, List.set_cons_zero]
          have T := heap_alloc_new v2 (.cells #[.int .i64 t.low, .int .i64 t.high, .int .i64 t.due, .int .i64 t.every, .bool t.crit] 30)
          have C := bal C (.cells #[.int .i64 t.low, .int .i64 t.high, .int .i64 t.due, .int .i64 t.every, .bool t.crit] 30)
          have hy : v2.heap.size < (v2.alloc (.cells #[.int .i64 t.low, .int .i64 t.high, .int .i64 t.due, .int .i64 t.every, .bool t.crit] 30)).heap.size := by simp
          have o7 := OT_alloc o7 (.cells #[.int .i64 t.low, .int .i64 t.high, .int .i64 t.due, .int .i64 t.every, .bool t.crit] 30)
          generalize hgw : World.alloc v2 _ = v3 at T C hy o7 ⊢
          clear hgw
          generalize v2.heap.size = y at T hy ⊢
          refine wpAny_ready (rs := [5]) (by kernel_rfl) (by simp) (wantL (i := 5) 60 rfl rfl (by rfl) (fun K hK => ?_) AllReady.nil)
          refine wp_of_step (step_app_any rfl (.tmp 57) (.tmp 59) rfl w4.heap.size A7 l l.length c7 rfl rfl o7 (some ⟨y, 0, none⟩) 1 1 [t] rfl rfl (TS_blk T rfl) (fun h => by cases h) (by omega) (by simp) C.size ?_)
          intro A8 c8 v5 o8 g8 b8
          have C := C.trans b8
          refine hK _ _ ?_
          simp only [List.set_cons_succ, List.set_cons_zero]
          refine takeL (i := 6) 10 (.slice A8 (l.length + 1) c8) rfl rfl (by kernel_rfl) (by kernel_rfl) (by kernel_rfl) (fun _ _ _ h => h) (.inl ⟨by rfl, fun _ => rfl⟩) ?_
          simp only [List.set_cons_succ, List.set_cons_zero]
          refine wpAny_done (by kernel_rfl) ?_ _
          go_wp2_with fail
          go_meet
          exact ⟨A8, c8, rfl, o8, C⟩
        · obtain ⟨e0, e1, e2, e3, e4⟩ := hTC _ C
          go_simp
          refine hK _ _ ?_
          simp only [List.set_cons_succ, List.set_cons_zero]
          clear e0 e1 e2 e3 e4
          refine wpAny_ready (rs := [2, 4]) (by kernel_rfl) (by simp) (wantL (i := 2) 57 rfl rfl (by rfl) (fun K hK => ?_) (wantL (i := 4) 59 rfl rfl (by rfl) (fun K hK => ?_) AllReady.nil))
          · refine wp_of_step (step_app_any rfl (.tmp 55) (.tmp 56) rfl w4.heap.size (some ⟨x0, 0, none⟩) [] 0 0 rfl rfl S A l.length c l rfl rfl (hLT _ C) HA.out (by simp) (by omega) C.size ?_)
            intro A7 c7 v2 o7 g7 b7
            rw [List.nil_append] at o7
            rw [Nat.zero_add]
            have C := C.trans b7
            refine hK _ _ ?_
            simp only [List.set_cons_succ, List.set_cons_zero]
            refine wpAny_ready (rs := [4]) (by kernel_rfl) (by simp) (wantL (i := 4) 59 rfl rfl (by rfl) (fun K hK => ?_) AllReady.nil)
            go_simp
            refine hK _ _ ?_
            simp only [List.set_cons_succ, List.set_cons_zero]
            have T := heap_alloc_new v2 (.cells #[.int .i64 t.low, .int .i64 t.high, .int .i64 t.due, .int .i64 t.every, .bool t.crit] 30)
            have C := bal C (.cells #[.int .i64 t.low, .int .i64 t.high, .int .i64 t.due, .int .i64 t.every, .bool t.crit] 30)
            have hy : v2.heap.size < (v2.alloc (.cells #[.int .i64 t.low, .int .i64 t.high, .int .i64 t.due, .int .i64 t.every, .bool t.crit] 30)).heap.size := by simp
            have o7 := OT_alloc o7 (.cells #[.int .i64 t.low, .int .i64 t.high, .int .i64 t.due, .int .i64 t.every, .bool t.crit] 30)
            generalize hgw : World.alloc v2 _ = v3 at T C hy o7 ⊢
            clear hgw
            generalize v2.heap.size = y at T hy ⊢
            refine wpAny_ready (rs := [5]) (by kernel_rfl) (by simp) (wantL (i := 5) 60 rfl rfl (by rfl) (fun K hK => ?_) AllReady.nil)
            refine wp_of_step (step_app_any rfl (.tmp 57) (.tmp 59) rfl w4.heap.size A7 l l.length c7 rfl rfl o7 (some ⟨y, 0, none⟩) 1 1 [t] rfl rfl (TS_blk T rfl) (fun h => by cases h) (by omega) (by simp) C.size ?_)
            intro A8 c8 v5 o8 g8 b8
            have C := C.trans b8
            refine hK _ _ ?_
            simp only [List.set_cons_succ, List.set_cons_zero]
            refine takeL (i := 6) 10 (.slice A8 (l.length + 1) c8) rfl rfl (by kernel_rfl) (by kernel_rfl) (by kernel_rfl) (fun _ _ _ h => h) (.inl ⟨by rfl, fun _ => rfl⟩) ?_
            simp only [List.set_cons_succ, List.set_cons_zero]
            refine wpAny_done (by kernel_rfl) ?_ _
            go_wp2_with fail
            go_meet
            exact ⟨A8, c8, rfl, o8, C⟩
          · go_simp
            refine hK _ _ ?_
            simp only [List.set_cons_succ, List.set_cons_zero]
            have T := heap_alloc_new v1 (.cells #[.int .i64 t.low, .int .i64 t.high, .int .i64 t.due, .int .i64 t.every, .bool t.crit] 30)
            have C := bal C (.cells #[.int .i64 t.low, .int .i64 t.high, .int .i64 t.due, .int .i64 t.every, .bool t.crit] 30)
            have hy : v1.heap.size < (v1.alloc (.cells #[.int .i64 t.low, .int .i64 t.high, .int .i64 t.due, .int .i64 t.every, .bool t.crit] 30)).heap.size := by simp
            have S := OT_alloc S (.cells #[.int .i64 t.low, .int .i64 t.high, .int .i64 t.due, .int .i64 t.every, .bool t.crit] 30)
            have hxy : x0 ≠ v1.heap.size := by omega
            generalize hgw : World.alloc v1 _ = v2 at T C hy S ⊢
            clear hgw
            generalize v1.heap.size = y at T hy hxy ⊢
            refine wpAny_ready (rs := [2]) (by kernel_rfl) (by simp) (wantL (i := 2) 57 rfl rfl (by rfl) (fun K hK => ?_) AllReady.nil)
            refine wp_of_step (step_app_any rfl (.tmp 55) (.tmp 56) rfl w4.heap.size (some ⟨x0, 0, none⟩) [] 0 0 rfl rfl S A l.length c l rfl rfl (hLT _ C) HA.out (by simp) (by omega) C.size ?_)
            intro A7 c7 v3 o7 g7 b7
            rw [List.nil_append] at o7
            rw [Nat.zero_add]
            have T := (g7.block y hy (fun e => hxy (by simpa [Value.ownBlock] using e.symm))).trans T
            have hy := Nat.lt_of_lt_of_le hy b7.size
            have C := C.trans b7
            refine hK _ _ ?_
            simp only [List.set_cons_succ, List.set_cons_zero]
            refine wpAny_ready (rs := [5]) (by kernel_rfl) (by simp) (wantL (i := 5) 60 rfl rfl (by rfl) (fun K hK => ?_) AllReady.nil)
            refine wp_of_step (step_app_any rfl (.tmp 57) (.tmp 59) rfl w4.heap.size A7 l l.length c7 rfl rfl o7 (some ⟨y, 0, none⟩) 1 1 [t] rfl rfl (TS_blk T rfl) (fun h => by cases h) (by omega) (by simp) C.size ?_)
            intro A8 c8 v5 o8 g8 b8
            have C := C.trans b8
            refine hK _ _ ?_
            simp only [List.set_cons_succ, List.set_cons_zero]
            refine takeL (i := 6) 10 (.slice A8 (l.length + 1) c8) rfl rfl (by kernel_rfl) (by kernel_rfl) (by kernel_rfl) (fun _ _ _ h => h) (.inl ⟨by rfl, fun _ => rfl⟩) ?_
            simp only [List.set_cons_succ, List.set_cons_zero]
            refine wpAny_done (by kernel_rfl) ?_ _
            go_wp2_with fail
            go_meet
            exact ⟨A8, c8, rfl, o8, C⟩
      · obtain ⟨e0, e1, e2, e3, e4⟩ := hTC _ C
        go_simp
        refine hK _ _ ?_
        simp only [List.set_cons_succ, List.set_cons_zero]
        clear e0 e1 e2 e3 e4
        refine wpAny_ready (rs := [0, 4]) (by kernel_rfl) (by simp) (wantL (i := 0) 55 rfl rfl (by rfl) (fun K hK => ?_) (wantL (i := 4) 59 rfl rfl (by rfl) (fun K hK => ?_) AllReady.nil))
        · go_simp
          refine hK _ _ ?_
          simp only [List.set_cons_succ, List.set_cons_zero]
          have S := OT_blank v0 w4.heap.size C.size
          have C := bal C (.cells #[] 30)
          have hx0 : v0.heap.size < (v0.alloc (.cells #[] 30)).heap.size := by simp
          generalize hgw : World.alloc v0 _ = v1 at S C hx0 ⊢
          clear hgw
          generalize v0.heap.size = x0 at S hx0 ⊢
          refine wpAny_ready (rs := [2, 4]) (by kernel_rfl) (by simp) (wantL (i := 2) 57 rfl rfl (by rfl) (fun K hK => ?_) (wantL (i := 4) 59 rfl rfl (by rfl) (fun K hK => ?_) AllReady.nil))
          · refine wp_of_step (step_app_any rfl (.tmp 55) (.tmp 56) rfl w4.heap.size (some ⟨x0, 0, none⟩) [] 0 0 rfl rfl S A l.length c l rfl rfl (hLT _ C) HA.out (by simp) (by omega) C.size ?_)
            intro A7 c7 v2 o7 g7 b7
            rw [List.nil_append] at o7
            rw [Nat.zero_add]
            have C := C.trans b7
            refine hK _ _ ?_
            simp only [List.set_cons_succ, List.set_cons_zero]
            refine wpAny_ready (rs := [4]) (by kernel_rfl) (by simp) (wantL (i := 4) 59 rfl rfl (by rfl) (fun K hK => ?_) AllReady.nil)
            go_simp
            refine hK _ _ ?_
            simp only [List.set_cons_succ, List.set_cons_zero]
            have T := heap_alloc_new v2 (.cells #[.int .i64 t.low, .int .i64 t.high, .int .i64 t.due, .int .i64 t.every, .bool t.crit] 30)
            have C := bal C (.cells #[.int .i64 t.low, .int .i64 t.high, .int .i64 t.due, .int .i64 t.every, .bool t.crit] 30)
            have hy : v2.heap.size < (v2.alloc (.cells #[.int .i64 t.low, .int .i64 t.high, .int .i64 t.due, .int .i64 t.every, .bool t.crit] 30)).heap.size := by simp
            have o7 := OT_alloc o7 (.cells #[.int .i64 t.low, .int .i64 t.high, .int .i64 t.due, .int .i64 t.every, .bool t.crit] 30)
            generalize hgw : World.alloc v2 _ = v3 at T C hy o7 ⊢
            clear hgw
            generalize v2.heap.size = y at T hy ⊢
            refine wpAny_ready (rs := [5]) (by kernel_rfl) (by simp) (wantL (i := 5) 60 rfl rfl (by rfl) (fun K hK => ?_) AllReady.nil)
            refine wp_of_step (step_app_any rfl (.tmp 57) (.tmp 59) rfl w4.heap.size A7 l l.length c7 rfl rfl o7 (some ⟨y, 0, none⟩) 1 1 [t] rfl rfl (TS_blk T rfl) (fun h => by cases h) (by omega) (by simp) C.size ?_)
            intro A8 c8 v5 o8 g8 b8
            have C := C.trans b8
            refine hK _ _ ?_
            simp only [List.set_cons_succ, List.set_cons_zero]
            refine takeL (i := 6) 10 (.slice A8 (l.length + 1) c8) rfl rfl (by kernel_rfl) (by kernel_rfl) (by kernel_rfl) (fun _ _ _ h => h) (.inl ⟨by rfl, fun _ => rfl⟩) ?_
            simp only [List.set_cons_succ, List.set_cons_zero]
            refine wpAny_done (by kernel_rfl) ?_ _
            go_wp2_with fail
            go_meet
            exact ⟨A8, c8, rfl, o8, C⟩
          · go_simp
            refine hK _ _ ?_
            simp only [List.set_cons_succ, List.set_cons_zero]
            have T := heap_alloc_new v1 (.cells #[.int .i64 t.low, .int .i64 t.high, .int .i64 t.due, .int .i64 t.every, .bool t.crit] 30)
            have C := bal C (.cells #[.int .i64 t.low, .int .i64 t.high, .int .i64 t.due, .int .i64 t.every, .bool t.crit] 30)
            have hy : v1.heap.size < (v1.alloc (.cells #[.int .i64 t.low, .int .i64 t.high, .int .i64 t.due, .int .i64 t.every, .bool t.crit] 30)).heap.size := by simp
            have S := OT_alloc S (.cells #[.int .i64 t.low, .int .i64 t.high, .int .i64 t.due, .int .i64 t.every, .bool t.crit] 30)
            have hxy : x0 ≠ v1.heap.size := by omega
            generalize hgw : World.alloc v1 _ = v2 at T C hy S ⊢
            clear hgw
            generalize v1.heap.size = y at T hy hxy ⊢
            refine wpAny_ready (rs := [2]) (by kernel_rfl) (by simp) (wantL (i := 2) 57 rfl rfl (by rfl) (fun K hK => ?_) AllReady.nil)
            refine wp_of_step (step_app_any rfl (.tmp 55) (.tmp 56) rfl w4.heap.size (some ⟨x0, 0, none⟩) [] 0 0 rfl rfl S A l.length c l rfl rfl (hLT _ C) HA.out (by simp) (by omega) C.size ?_)
            intro A7 c7 v3 o7 g7 b7
            rw [List.nil_append] at o7
            rw [Nat.zero_add]
            have T := (g7.block y hy (fun e => hxy (by simpa [Value.ownBlock] using e.symm))).trans T
            have hy := Nat.lt_of_lt_of_le hy b7.size
            have C := C.trans b7
            refine hK _ _ ?_
            simp only [List.set_cons_succ, List.set_cons_zero]
            refine wpAny_ready (rs := [5]) (by kernel_rfl) (by simp) (wantL (i := 5) 60 rfl rfl (by rfl) (fun K hK => ?_) AllReady.nil)
            refine wp_of_step (step_app_any rfl (.tmp 57) (.tmp 59) rfl w4.heap.size A7 l l.length c7 rfl rfl o7 (some ⟨y, 0, none⟩) 1 1 [t] rfl rfl (TS_blk T rfl) (fun h => by cases h) (by omega) (by simp) C.size ?_)
            intro A8 c8 v5 o8 g8 b8
            have C := C.trans b8
            refine hK _ _ ?_
            simp only [List.set_cons_succ, List.set_cons_zero]
            refine takeL (i := 6) 10 (.slice A8 (l.length + 1) c8) rfl rfl (by kernel_rfl) (by kernel_rfl) (by kernel_rfl) (fun _ _ _ h => h) (.inl ⟨by rfl, fun _ => rfl⟩) ?_
            simp only [List.set_cons_succ, List.set_cons_zero]
            refine wpAny_done (by kernel_rfl) ?_ _
            go_wp2_with fail
            go_meet
            exact ⟨A8, c8, rfl, o8, C⟩
        · go_simp
          refine hK _ _ ?_
          simp only [List.set_cons_succ, List.set_cons_zero]
          have T := heap_alloc_new v0 (.cells #[.int .i64 t.low, .int .i64 t.high, .int .i64 t.due, .int .i64 t.every, .bool t.crit] 30)
          have C := bal C (.cells #[.int .i64 t.low, .int .i64 t.high, .int .i64 t.due, .int .i64 t.every, .bool t.crit] 30)
          have hy : v0.heap.size < (v0.alloc (.cells #[.int .i64 t.low, .int .i64 t.high, .int .i64 t.due, .int .i64 t.every, .bool t.crit] 30)).heap.size := by simp
          generalize hgw : World.alloc v0 _ = v1 at T C hy ⊢
          clear hgw
          generalize v0.heap.size = y at T hy ⊢
          refine wpAny_ready (rs := [0]) (by kernel_rfl) (by simp) (wantL (i := 0) 55 rfl rfl (by rfl) (fun K hK => ?_) AllReady.nil)
          go_simp
          refine hK _ _ ?_
          simp only [List.set_cons_succ, List.set_cons_zero]
          have S := OT_blank v1 w4.heap.size C.size
          have C := bal C (.cells #[] 30)
          have hx0 : v1.heap.size < (v1.alloc (.cells #[] 30)).heap.size := by simp
          have T := (heap_alloc_old v1 (.cells #[] 30) hy).trans T
          have hxy : v1.heap.size ≠ y := by omega
          have hy : y < (v1.alloc (.cells #[] 30)).heap.size := by simp; omega
          generalize hgw : World.alloc v1 _ = v2 at S C hx0 T hy ⊢
          clear hgw
          generalize v1.heap.size = x0 at S hx0 hxy ⊢
          refine wpAny_ready (rs := [2]) (by kernel_rfl) (by simp) (wantL (i := 2) 57 rfl rfl (by rfl) (fun K hK => ?_) AllReady.nil)
          refine wp_of_step (step_app_any rfl (.tmp 55) (.tmp 56) rfl w4.heap.size (some ⟨x0, 0, none⟩) [] 0 0 rfl rfl S A l.length c l rfl rfl (hLT _ C) HA.out (by simp) (by omega) C.size ?_)
          intro A7 c7 v3 o7 g7 b7
          rw [List.nil_append] at o7
          rw [Nat.zero_add]
          have T := (g7.block y hy (fun e => hxy (by simpa [Value.ownBlock] using e.symm))).trans T
          have hy := Nat.lt_of_lt_of_le hy b7.size
          have C := C.trans b7
          refine hK _ _ ?_
          simp only [List.set_cons_succ, List.set_cons_zero]
          refine wpAny_ready (rs := [5]) (by kernel_rfl) (by simp) (wantL (i := 5) 60 rfl rfl (by rfl) (fun K hK => ?_) AllReady.nil)
          refine wp_of_step (step_app_any rfl (.tmp 57) (.tmp 59) rfl w4.heap.size A7 l l.length c7 rfl rfl o7 (some ⟨y, 0, none⟩) 1 1 [t] rfl rfl (TS_blk T rfl) (fun h => by cases h) (by omega) (by simp) C.size ?_)
          intro A8 c8 v5 o8 g8 b8
          have C := C.trans b8
          refine hK _ _ ?_
          simp only [List.set_cons_succ, List.set_cons_zero]
          refine takeL (i := 6) 10 (.slice A8 (l.length + 1) c8) rfl rfl (by kernel_rfl) (by kernel_rfl) (by kernel_rfl) (fun _ _ _ h => h) (.inl ⟨by rfl, fun _ => rfl⟩) ?_
          simp only [List.set_cons_succ, List.set_cons_zero]
          refine wpAny_done (by kernel_rfl) ?_ _
          go_wp2_with fail
          go_meet
          exact ⟨A8, c8, rfl, o8, C⟩
    case rest =>
      obtain ⟨A8, c8, rfl, o8, C⟩ := hcut
      have hLs : (l ++ [t]).length = l.length + 1 := by simp
      have K2 := fun w' (hw : Below wc.heap.size wc w') => impl_HyperOf A8 (l ++ [t]) c8 w' (o8.ts.keep hw) Hva.out
      have K3 := fun w' (hw : Below wc.heap.size wc w') => impl_HighShare A8 (l ++ [t]) c8 w' (o8.ts.keep hw)
      rw [hLs, ← Hhyp.out] at K2
      rw [hLs, ← Hshr.out] at K3
      have o2 := OT_keep o2 C
      obtain ⟨sa, sb, hsh⟩ : ∃ a b, sumV x' true true = sv a b := by
        unfold sumV
        split
        · exact ⟨_, _, rfl⟩
        · exact ⟨_, _, rfl⟩
      rw [hsh] at K3
      have hqs := fun (w : World) => run_eql_share sa sb w
      have Hsh := Lib.hid hsh
      have heq : ((x'.length : Int) == (l.length : Int) + 1) = true := by rw [beq_iff_eq, Hlen.out]; omega
      have hw1 : IntKind.i64.wrap ((l.length : Int) + 1) = (l.length : Int) + 1 := IntWalk.i64_in _ (by omega)
      clear hsh hLs
      go_wp2_with fail
      refine (impl_HoldsBy A2 x' c2 m _ o2.ts (by unfold maxLen; omega) hs2).mono ?_
      rw [F4.out]
      rintro e w6 ⟨rfl, b6⟩
      have D6 := bthru (Below.refl wc.heap.size wc) b6
      go_wp2_with fail
      refine (impl_HyperOf A2 x' c2 _ (o2.ts.keep D6) Hvx.out).mono ?_
      rintro e w7 ⟨rfl, b7⟩
      have D7 := bthru D6 b7
      go_wp2_with fail
      refine (K2 _ D7).mono ?_
      rintro e w8 ⟨rfl, b8⟩
      have D8 := bthru D7 b8
      go_wp2_with fail
      refine (impl_HighShare A2 x' c2 _ (o2.ts.keep D8)).mono ?_
      rw [Hsh.out]
      rintro e w9 ⟨rfl, b9⟩
      have D9 := bthru D8 b9
      go_wp2_with fail
      refine (K3 _ D9).mono ?_
      rintro e w10 ⟨rfl, b10⟩
      have D10 := bthru D9 b10
      go_wp2_with fail
      go_ret
      exact ⟨rfl, bthru hb (bthru (bthru B4 C) D10)⟩

open Go.ChangeShapes Go.WideShapes Go.ChangeAt Go.WideElems Go.Deep

set_option maxRecDepth 100000 in
theorem FnAdmitTask_lifted (os : Os) (started : os.Started) (H : Type) (enc : TypeId × Value → H) :
    ReturnsInHanded {} Try.checked os 17 .any (Rows.fnAdmitTaskSpec.pre6 enc Try.prog Try.f17 Rows.fnAdmitTaskRow.domain false) (Rows.fnAdmitTaskSpec.post enc Try.prog Try.f17 false true false false) := by
  refine returnsInHanded_of_change (C := Try.checked) own started (by as_aux_lemma => kernel_rfl) Try.func17
    (ChangeSpec.witness6 (enc := enc) (C := Try.checked) false ⟨#[], #[.slice none 0 0], []⟩ 8 (by as_aux_lemma => kernel_rfl) (by as_aux_lemma => kernel_rfl) (by as_aux_lemma => kernel_rfl) (by as_aux_lemma => kernel_rfl)) ?_
  intro W base args ds gs before hval0 hW _ _
  have hval : ∀ (j : Nat) t v, Try.f17.params[j]? = some t → args[j]? = some v → Value.okWide Try.prog W .any base t v := hval0
  have hW' := hW
  obtain ⟨p, q, hA0, hV, rfl, _, _⟩ := hW
  have hA : DataW.TrodAll enc Try.prog W 0 (fun _ => true) true Try.f17.params.toList args.toList ds p := hA0
  rw [Try.params17] at hA hval
  obtain ⟨v0, d0, rfl, rfl, h0⟩ := trodAll_one hA
  obtain ⟨rfl, rfl⟩ := trodVars_none hV
  clear hA0 hval0
  simp only [List.append_nil] at hW'
  have hlt : ∀ x ∈ p, x.block < W.heap.size := fun x hx => hW'.lt x (by simpa using hx)
  have hargs : ∀ W', Below W.heap.size W W' → DataW.TrodAll enc Try.prog W' 0 (fun b => decide (b < W.heap.size)) true [41] [v0] [d0] (p) := fun W' hb =>
    trodAll_mk1 (Below.trod laidOut (by as_aux_lemma => kernel_rfl) (of_decide_eq_true (by as_aux_lemma => kernel_rfl)) h0 hb (fun x hx => hlt x (by simp [hx])))
  obtain ⟨A0, l0, c0, rfl, hlc0, hlm0, hlw0, hl0⟩ := open_kind Try.underlying41 Try.underlying5 (by as_aux_lemma => kernel_rfl) (okWide_slice Try.underlying41 (hval 0 _ v0 rfl rfl)) h0
  refine (law_FnAdmitTask A0 l0 c0 W ⟨fun x hx => byte_wf (hlw0 x hx), hl0⟩ hlm0 hlc0).mono fun e W' ⟨he, hb⟩ => ?_
  subst he
  exact ⟨_, rfl, ⟨_, _, _, [], _, [], hW', trodAll_mk1 (shut_bool Try.underlying4 _), hargs W' hb, rfl, hb.frame _, fun h => by cases h⟩⟩

theorem FnAdmitTask_joined : joinedFacts Try.prog 17 Try.f17 Rows.fnAdmitTaskSpec Rows.fnAdmitTaskRow = true :=
  joined_mk (by as_aux_lemma => kernel_rfl) laidOut mapsRowed_ok (by as_aux_lemma => kernel_rfl) (by as_aux_lemma => kernel_rfl) (by as_aux_lemma => kernel_rfl) stops_ok (by as_aux_lemma => kernel_rfl) knobs_ok (by as_aux_lemma => kernel_rfl) (by as_aux_lemma => kernel_rfl) (by as_aux_lemma => kernel_rfl) (by as_aux_lemma => kernel_rfl) (by as_aux_lemma => kernel_rfl) (by as_aux_lemma => kernel_rfl) (by as_aux_lemma => kernel_rfl) (by as_aux_lemma => kernel_rfl) (by as_aux_lemma => kernel_rfl) (by as_aux_lemma => kernel_rfl) (by as_aux_lemma => kernel_rfl) (by as_aux_lemma => kernel_rfl) (by as_aux_lemma => kernel_rfl) (by rw [keys_ok]; rfl) (by as_aux_lemma => kernel_rfl) heard_ok enter_ok (by rw [lifts_ok]; rfl) (by rw [make_ok]; rfl) (by as_aux_lemma => kernel_rfl) (by as_aux_lemma => kernel_rfl) (by as_aux_lemma => kernel_rfl) (by as_aux_lemma => kernel_rfl)

theorem FnAdmitTask_holds : Rows.FnAdmitTaskSaid :=
  OpenClaim.holds_of_wide 17 Try.f17 rfl rfl rfl rfl rfl rfl rfl ⟨rfl, rfl, rfl, rfl, rfl⟩ rfl rfl rfl rfl rfl (by as_aux_lemma => kernel_rfl) Try.func17 FnAdmitTask_joined
    (of_decide_eq_true (by as_aux_lemma => kernel_rfl)) (by unfold Func.isWrapper; rw [if_neg (by decide +kernel)]; exact ⟨rfl, rfl⟩)
    (fun os started H enc _ => FnAdmitTask_lifted os started H enc)
#print axioms FnAdmitTask_holds
end Go.Proofs.Ytnldiakjmhfodaa
