/-
  FnScriptAdmit returns true for every code.
-/
import Derived.Test.YtmlbjcjihmfcjaaGreatDoorDrawS2
import Derived.Test.YtmlbjcjihmfcjaaGreatDoorWAdmit
import Derived.Test.YtmlbjcjihmfcjaaGreatDoorDoor
import Derived.Test.YtmlbjcjihmfcjaaGreatDoorOpen
import Derived.Test.YtmlbjcjihmfcjaaGreatDoorTie
import Derived.Test.YtmlbjcjihmfcjaaGreatDoorCards
namespace Go.Proofs.YtmlbjcjihmfcjaaGreatDoor
open Go.RowKit

theorem blk_below {w w' : World} {b : Nat} {o : Obj} (h : w.heap[b]? = some o) (hb : Below w.heap.size w w') : w'.heap[b]? = some o :=
  (hb.block b (Array.getElem?_eq_some_iff.1 h).1).trans h
theorem S_five5 {w w' : World} {b : Nat} {t : Tk} (h : w.heap[b]? = some (.cells #[.int .i64 t.low, .int .i64 t.high, .int .i64 t.due, .int .i64 t.every, .bool t.crit] 73 (0, 0))) (hb : Below w.heap.size w w') :
    w'.cell? ⟨b, 0, none⟩ = some (.int .i64 t.low) ∧ w'.cell? ⟨b, 1, none⟩ = some (.int .i64 t.high) ∧ w'.cell? ⟨b, 2, none⟩ = some (.int .i64 t.due) ∧ w'.cell? ⟨b, 3, none⟩ = some (.int .i64 t.every) ∧ w'.cell? ⟨b, 4, none⟩ = some (.bool t.crit) := by
  obtain ⟨t0, t1, t2, t3, t4, _⟩ := blk_five (blk_below h hb)
  exact ⟨t0, t1, t2, t3, t4⟩

set_option maxHeartbeats 4000000 in
set_option maxRecDepth 100000 in
theorem law_FnScriptAdmit (A0 : Option Addr) (code : List Int) (c0 : Nat) (w : World) (h : BS w A0 code) (hl : code.length ≤ maxLen) (hlc : code.length ≤ c0) (hM : Mx w.heap.size w) :
    Calls Tryz.prog 15 #[.slice A0 code.length c0] w fun e w' => e = .returned (.bool true) ∧ Below w.heap.size w w' := by
  have hl' := hl
  unfold maxLen at hl'
  by_cases h1 : code.length ≤ 1048576
  case neg =>
    go_enter Tryz.func15, Tryz.ntmps15
    go_wp2_with fail
    go_ret
    exact ⟨rfl, Below.refl _ _⟩
  go_enter Tryz.func15, Tryz.ntmps15
  go_wp2_with fail
  refine (spec_DrawAdmitTaskV A0 code c0 w h hl hlc).mono ?_
  rintro e w1 ⟨A, c, l, t, m, rfl, hO, ⟨hl5, hS⟩, m0, m2, hb⟩
  have hT := text_tasks l hS
  clear hS
  have hsz := own_size hO
  obtain ⟨hsz1, hsz2⟩ := hsz
  clear hsz2
  have hA := OT_none hO
  have HA := Lib.hid hA
  clear hA
  obtain ⟨F, hF⟩ : ∃ F, fmtSet l = F := ⟨_, rfl⟩
  have HFl : F.length ≤ 510 := by rw [← hF]; exact fmtSet_le _
  have HF10 : (10 : UInt8) ∉ F := by rw [← hF]; exact fmtSet_no _
  have HF := Lib.hid hF
  clear hF
  rw [HF.out] at hT
  have hT0 := heap_alloc_new w1 (.cells #[.int .i64 t.low, .int .i64 t.high, .int .i64 t.due, .int .i64 t.every, .bool t.crit] 73 (0, 0))
  have hO := OT_alloc hO (.cells #[.int .i64 t.low, .int .i64 t.high, .int .i64 t.due, .int .i64 t.every, .bool t.crit] 73 (0, 0))
  have hb := bal hb (.cells #[.int .i64 t.low, .int .i64 t.high, .int .i64 t.due, .int .i64 t.every, .bool t.crit] 73 (0, 0))
  obtain ⟨x, hx⟩ : ∃ x, admL l t m = x := ⟨_, rfl⟩
  have hxl : x.length ≤ 6 := by rw [← hx]; exact admL_le hl5
  have HX := Lib.hid hx
  obtain ⟨ok, hok⟩ : ∃ ok, (admitT l t m).isSome = ok := ⟨_, rfl⟩
  have HK := Lib.hid hok
  clear hx hok
  go_upto_region 4 with fail
  generalize World.alloc w1 _ = wb at hT0 hO hb ⊢
  generalize w1.heap.size = nT at hT0 ⊢
  have hT1 := Lib.hid hT0
  clear hT0
  obtain ⟨t0, t1, t2, t3, t4, _⟩ := blk_five hT1.out
  go_wp2_with fail
  refine (impl_AdmitTask A l t c m _ hO.ts (by omega) hsz1).mono ?_
  rw [HX.out, HK.out]
  rintro e w2 ⟨A2, c2, rfl, o2, b2⟩
  have hT2 := Lib.hid (blk_below hT1.out b2)
  clear hT1 t0 t1 t2 t3 t4
  obtain ⟨t0, t1, t2, t3, t4, _⟩ := blk_five hT2.out
  go_wp2_with fail
  refine (spec_AdmitTask A l t c m _ (OT_keep hO b2).ts (by omega) HA.out).mono ?_
  rw [HX.out, HK.out]
  rintro e w3 ⟨A3, c3, rfl, o3, b3⟩
  have hT3 := Lib.hid (blk_below hT2.out b3)
  clear hT2 t0 t1 t2 t3 t4
  have o2 := OT_keep o2 b3
  have B3 := bthru b2 b3
  go_wp2_with fail
  refine (laws_dmTasks A2 A3 x x c2 c3 _ o2.ts o3.ts (by omega)).mono ?_
  rintro e w4 ⟨rfl, b4⟩
  simp only [decide_true]
  have o2 := OT_keep o2 b4
  have o3 := OT_keep o3 b4
  have B4 := bthru B3 b4
  have hT4 := Lib.hid (blk_below hT3.out b4)
  clear hT3
  obtain ⟨t0, t1, t2, t3, t4, _⟩ := blk_five hT4.out
  by_cases hm : m = 0
  case neg =>
    have hm' : (m != 0) = true := by simpa using hm
    clear hm
    cases ok
    all_goals
      go_wp2_with fail
      refine (laws_dmTasks A2 A3 x x c2 c3 _ o2.ts o3.ts (by omega)).mono ?_
      rintro e w6 ⟨rfl, b6⟩
      simp only [decide_true]
      go_wp2_with fail
      go_ret
      exact ⟨rfl, bthru hb (bthru B4 b6)⟩
  subst hm
  cases hV : vld t with
  | false =>
    have HV := Lib.hid hV
    clear hV
    cases ok
    all_goals
      go_wp2_with fail
      refine (impl_TaskValid t _).mono ?_
      rw [HV.out]
      rintro e w5 ⟨rfl, b5⟩
      have o2 := OT_keep o2 b5
      have o3 := OT_keep o3 b5
      have B5 := bthru B4 b5
      go_wp2_with fail
      refine (laws_dmTasks A2 A3 x x c2 c3 _ o2.ts o3.ts (by omega)).mono ?_
      rintro e w6 ⟨rfl, b6⟩
      simp only [decide_true]
      go_wp2_with fail
      go_ret
      exact ⟨rfl, bthru hb (bthru B5 b6)⟩
  | true =>
    have HV := Lib.hid hV
    have hF : Hid (fmtTask t = taskT t) := by simp [Hid, fmtTask, hV]
    have hX : (10 : UInt8) ∉ taskT t := taskT_no 10 t (.inr rfl)
    have hXl : (taskT t).length ≤ 100 := by rw [← hF.out]; exact fmtTask_len t
    clear hV
    cases hr : admitT l t 0 with
    | none =>
      have e1 : ok = false := by rw [← HK.out, hr]; rfl
      subst e1
      have HR := Lib.hid hr
      clear hr
      go_wp2_with fail
      refine (impl_TaskValid t _).mono ?_
      rw [HV.out]
      rintro e w5 ⟨rfl, b5⟩
      have hT5 := Lib.hid (blk_below hT4.out b5)
      have B5 := bthru B4 b5
      clear t0 t1 t2 t3 t4
      obtain ⟨t0, t1, t2, t3, t4, _⟩ := blk_five hT5.out
      have hp : pieces [10] (([116, 97, 115, 107, 115, 32] ++ F) ++ [10] ++ (([97, 100, 109, 105, 116, 32] ++ taskT t) ++ [10] ++ [])) = [[116, 97, 115, 107, 115, 32] ++ F, [97, 100, 109, 105, 116, 32] ++ taskT t, []] := by
        rw [pieces_app 10 [] _ _ (by simp [HF10]), pieces_app 10 [] _ _ (by simp [hX]), pieces_no 10 [] [] (by simp)]
      have hC : Chain [[116, 97, 115, 107, 115, 32] ++ F, [97, 100, 109, 105, 116, 32] ++ taskT t, []] St0 ⟨l, 0, [], 0, St0.out ++ (F ++ [10]) ++ [110, 111, 10]⟩ := by
        refine .step (by simp) (by simp [St0] <;> omega) (do_text (x := [116, 97, 115, 107, 115]) (by decide) (by simp <;> omega) (hT _ (by simp [St0] <;> omega))) ?_
        refine .step (by simp) (by simp [St0] <;> omega) (do_text (x := [97, 100, 109, 105, 116]) (by decide) (by simp <;> omega) (text_admit_no t HV.out _ HR.out (show l.length ≤ 1000000 by omega) (by simp [St0] <;> omega))) ?_
        exact .skip (.nil _)
      have hRun : ∀ u, Below w5.heap.size w5 u → Calls Tryz.prog 26 #[.string ⟨(((([116, 97, 115, 107, 115, 32] ++ F) ++ [10, 97, 100, 109, 105, 116, 32]) ++ taskT t) ++ [10]).toArray⟩] u fun e w' => e = .returned (.string ⟨((F ++ [10]) ++ [110, 111, 10]).toArray⟩) ∧ Below u.heap.size u w' := fun u hu =>
        impl_RunScript _ _ _ (by simp) _ hp _ (by simp [St0]) u (by simp <;> omega) (by simp) hC (by simp) ((hM.keep (bthru hb (bthru B5 hu))).up (Below.size (bthru hb (bthru B5 hu))))
      have HRun := Lib.hid hRun
      clear hRun hp hC
      generalize taskT t = Y at HRun hF hX hXl
      go_wp2_with fail
      clear t0 t1 t2 t3 t4
      refine wp_region_held (S := fun w' => w'.cell? ⟨nT, 0, none⟩ = some (.int .i64 t.low) ∧ w'.cell? ⟨nT, 1, none⟩ = some (.int .i64 t.high) ∧ w'.cell? ⟨nT, 2, none⟩ = some (.int .i64 t.due) ∧ w'.cell? ⟨nT, 3, none⟩ = some (.int .i64 t.every) ∧ w'.cell? ⟨nT, 4, none⟩ = some (.bool t.crit)) (by kernel_rfl) ?_
      change wpAnyH _ _ _ _ _ _ _ _ (World.drew _)
      have Kz : Below w5.heap.size w5 (World.drew w5) := Below.drew (Below.refl _ _)
      have hS0 := S_five5 hT5.out Kz
      refine takeHL (i := 0) 64 (.slice A l.length c) rfl rfl (by kernel_rfl) (by kernel_rfl) (by kernel_rfl) (fun _ _ _ h => h) (.inl ⟨by rfl, fun _ _ => rfl⟩) hS0 ?_
      simp only [List.set_cons_succ, List.set_cons_zero]
      refine takeHL (i := 4) 68 (t.val) rfl rfl (by kernel_rfl) (by kernel_rfl) (by kernel_rfl) (fun _ _ _ h => h) (.inl ⟨by rfl, fun w hS => by obtain ⟨h0, h1, h2, h3, h4⟩ := hS; go_simp⟩) hS0 ?_
      simp only [List.set_cons_succ, List.set_cons_zero]
      refine takeHL (i := 9) 73 (.slice A l.length c) rfl rfl (by kernel_rfl) (by kernel_rfl) (by kernel_rfl) (fun _ _ _ h => h) (.inl ⟨by rfl, fun _ _ => rfl⟩) hS0 ?_
      simp only [List.set_cons_succ, List.set_cons_zero]
      refine takeHL (i := 12) 76 (.string ⟨#[110, 111, 10]⟩) rfl rfl (by kernel_rfl) (by kernel_rfl) (by kernel_rfl) (fun _ _ _ h => h) (.inl ⟨by rfl, fun _ _ => rfl⟩) hS0 ?_
      simp only [List.set_cons_succ, List.set_cons_zero]
      refine callHL 1 65 rfl rfl (by kernel_rfl) (by rfl) 23 Tryz.func23 (by kernel_rfl) rfl _ _ rfl _ ?hv (impl_FormatSet A l c _ (hO.ts.keep (bthru B5 Kz))) ?_
      case hv => simp [Act.eval]
      rw [HF.out]
      rintro e v1 ⟨rfl, k1⟩
      have K1 : Below w5.heap.size w5 v1 := bthru Kz k1
      have S1 := S_five5 hT5.out K1
      refine ⟨_, rfl, S1, ?_⟩
      simp only [List.set_cons_succ, List.set_cons_zero]
      refine takeHL (i := 2) 66 (.string ⟨([116, 97, 115, 107, 115, 32] ++ F).toArray⟩) rfl rfl (by kernel_rfl) (by kernel_rfl) (by kernel_rfl) (fun _ _ _ h => h) (.inl ⟨by rfl, fun w _ => by go_simp; rw [if_neg (by omega)]; simp [mk_app]⟩) S1 ?_
      simp only [List.set_cons_succ, List.set_cons_zero]
      refine takeHL (i := 3) 67 (.string ⟨(([116, 97, 115, 107, 115, 32] ++ F) ++ [10, 97, 100, 109, 105, 116, 32]).toArray⟩) rfl rfl (by kernel_rfl) (by kernel_rfl) (by kernel_rfl) (fun _ _ _ h => h) (.inl ⟨by rfl, fun w _ => by go_simp; rw [if_neg (by omega)]; simp [mk_app]⟩) S1 ?_
      simp only [List.set_cons_succ, List.set_cons_zero]
      refine callHL 5 69 rfl rfl (by kernel_rfl) (by rfl) 69 Tryz.func69 (by kernel_rfl) rfl _ _ rfl _ ?hv (impl_FormatTask t _) ?_
      case hv => simp [Act.eval]
      rw [hF.out]
      rintro e v2 ⟨rfl, k2⟩
      have K2 : Below w5.heap.size w5 v2 := bthru K1 k2
      have S2 := S_five5 hT5.out K2
      refine ⟨_, rfl, S2, ?_⟩
      simp only [List.set_cons_succ, List.set_cons_zero]
      refine takeHL (i := 6) 70 (.string ⟨((([116, 97, 115, 107, 115, 32] ++ F) ++ [10, 97, 100, 109, 105, 116, 32]) ++ Y).toArray⟩) rfl rfl (by kernel_rfl) (by kernel_rfl) (by kernel_rfl) (fun _ _ _ h => h) (.inl ⟨by rfl, fun w _ => by go_simp; rw [if_neg (by omega)]; simp [mk_app]⟩) S2 ?_
      simp only [List.set_cons_succ, List.set_cons_zero]
      refine takeHL (i := 7) 71 (.string ⟨(((([116, 97, 115, 107, 115, 32] ++ F) ++ [10, 97, 100, 109, 105, 116, 32]) ++ Y) ++ [10]).toArray⟩) rfl rfl (by kernel_rfl) (by kernel_rfl) (by kernel_rfl) (fun _ _ _ h => h) (.inl ⟨by rfl, fun w _ => by go_simp; rw [if_neg (by omega)]; simp [mk_app]⟩) S2 ?_
      simp only [List.set_cons_succ, List.set_cons_zero]
      refine callHL 8 72 rfl rfl (by kernel_rfl) (by rfl) 26 Tryz.func26 (by kernel_rfl) rfl _ _ rfl _ ?hv (HRun.out _ K2) ?_
      case hv => simp [Act.eval]
      rintro e v3 ⟨rfl, k3⟩
      have K3 : Below w5.heap.size w5 v3 := bthru K2 k3
      have S3 := S_five5 hT5.out K3
      refine ⟨_, rfl, S3, ?_⟩
      simp only [List.set_cons_succ, List.set_cons_zero]
      refine callHL 10 74 rfl rfl (by kernel_rfl) (by rfl) 23 Tryz.func23 (by kernel_rfl) rfl _ _ rfl _ ?hv (impl_FormatSet A l c _ (hO.ts.keep (bthru B5 K3))) ?_
      case hv => simp [Act.eval]
      rw [HF.out]
      rintro e v4 ⟨rfl, k4⟩
      have K4 : Below w5.heap.size w5 v4 := bthru K3 k4
      have S4 := S_five5 hT5.out K4
      refine ⟨_, rfl, S4, ?_⟩
      simp only [List.set_cons_succ, List.set_cons_zero]
      refine takeHL (i := 11) 75 (.string ⟨(F ++ [10]).toArray⟩) rfl rfl (by kernel_rfl) (by kernel_rfl) (by kernel_rfl) (fun _ _ _ h => h) (.inl ⟨by rfl, fun w _ => by go_simp; rw [if_neg (by omega)]; simp [mk_app]⟩) S4 ?_
      simp only [List.set_cons_succ, List.set_cons_zero]
      refine takeHL (i := 13) 77 (.string ⟨((F ++ [10]) ++ [110, 111, 10]).toArray⟩) rfl rfl (by kernel_rfl) (by kernel_rfl) (by kernel_rfl) (fun _ _ _ h => h) (.inl ⟨by rfl, fun w _ => by go_simp; rw [if_neg (by omega)]; simp [mk_app]⟩) S4 ?_
      simp only [List.set_cons_succ, List.set_cons_zero]
      refine takeHL (i := 14) 78 (.bool true) rfl rfl (by kernel_rfl) (by kernel_rfl) (by kernel_rfl) (fun _ _ _ h => h) (.inl ⟨by rfl, fun w _ => by go_simp⟩) S4 ?_
      simp only [List.set_cons_succ, List.set_cons_zero]
      refine takeHL (i := 15) 2 (.bool true) rfl rfl (by kernel_rfl) (by kernel_rfl) (by kernel_rfl) (fun _ _ _ h => h) (.inl ⟨by rfl, fun _ _ => rfl⟩) S4 ?_
      simp only [List.set_cons_succ, List.set_cons_zero]
      refine wpAnyH_done (by kernel_rfl) ?_ _
      go_wp2_with fail
      go_ret
      exact ⟨rfl, bthru hb (bthru B5 K4)⟩
    | some x' =>
      have e1 : ok = true := by rw [← HK.out, hr]; rfl
      have e2 : x' = x := by rw [← HX.out, admL, hr]; rfl
      subst e1
      subst e2
      have HR := Lib.hid hr
      clear hr
      have hAd : ∀ o : List UInt8, o.length ≤ 700000 → TextIs [97, 100, 109, 105, 116] (taskT t) ⟨l, 0, [], 0, o⟩ ⟨x', 0, [], 0, o ++ (fmtSet x' ++ [10])⟩ := fun o ho => text_admit t HV.out ⟨l, 0, [], 0, o⟩ x' HR.out (show l.length ≤ 1000000 by omega) ho
      obtain ⟨G, hG⟩ : ∃ G, fmtSet x' = G := ⟨_, rfl⟩
      have HGl : G.length ≤ 510 := by rw [← hG]; exact fmtSet_le _
      have HG10 : (10 : UInt8) ∉ G := by rw [← hG]; exact fmtSet_no _
      have HG := Lib.hid hG
      clear hG
      rw [HG.out] at hAd
      go_wp2_with fail
      refine (impl_TaskValid t _).mono ?_
      rw [HV.out]
      rintro e w5 ⟨rfl, b5⟩
      have hT5 := Lib.hid (blk_below hT4.out b5)
      have B5 := bthru B4 b5
      have o2 := OT_keep o2 b5
      clear t0 t1 t2 t3 t4
      obtain ⟨t0, t1, t2, t3, t4, _⟩ := blk_five hT5.out
      go_wp2_with fail
      refine (impl_FormatSet A2 x' c2 _ o2.ts).mono ?_
      rw [HG.out]
      rintro e w6 ⟨rfl, b6⟩
      have hT6 := Lib.hid (blk_below hT5.out b6)
      have B6 := bthru B5 b6
      clear t0 t1 t2 t3 t4
      obtain ⟨t0, t1, t2, t3, t4, _⟩ := blk_five hT6.out
      have hp : pieces [10] (([116, 97, 115, 107, 115, 32] ++ F) ++ [10] ++ (([97, 100, 109, 105, 116, 32] ++ taskT t) ++ [10] ++ [])) = [[116, 97, 115, 107, 115, 32] ++ F, [97, 100, 109, 105, 116, 32] ++ taskT t, []] := by
        rw [pieces_app 10 [] _ _ (by simp [HF10]), pieces_app 10 [] _ _ (by simp [hX]), pieces_no 10 [] [] (by simp)]
      have hC : Chain [[116, 97, 115, 107, 115, 32] ++ F, [97, 100, 109, 105, 116, 32] ++ taskT t, []] St0 ⟨x', 0, [], 0, St0.out ++ (F ++ [10]) ++ (G ++ [10])⟩ := by
        refine .step (by simp) (by simp [St0] <;> omega) (do_text (x := [116, 97, 115, 107, 115]) (by decide) (by simp <;> omega) (hT _ (by simp [St0] <;> omega))) ?_
        refine .step (by simp) (by simp [St0] <;> omega) (do_text (x := [97, 100, 109, 105, 116]) (by decide) (by simp <;> omega) (hAd _ (by simp [St0] <;> omega))) ?_
        exact .skip (.nil _)
      have hRun : ∀ u, Below w6.heap.size w6 u → Calls Tryz.prog 26 #[.string ⟨(((([116, 97, 115, 107, 115, 32] ++ F) ++ [10, 97, 100, 109, 105, 116, 32]) ++ taskT t) ++ [10]).toArray⟩] u fun e w' => e = .returned (.string ⟨((F ++ [10]) ++ (G ++ [10])).toArray⟩) ∧ Below u.heap.size u w' := fun u hu =>
        impl_RunScript _ _ _ (by simp) _ hp _ (by simp [St0]) u (by simp <;> omega) (by simp) hC (by simp) ((hM.keep (bthru hb (bthru B6 hu))).up (Below.size (bthru hb (bthru B6 hu))))
      have HRun := Lib.hid hRun
      clear hRun hp hC
      generalize taskT t = Y at HRun hF hX hXl
      go_wp2_with fail
      clear t0 t1 t2 t3 t4
      refine wp_region_held (S := fun w' => w'.cell? ⟨nT, 0, none⟩ = some (.int .i64 t.low) ∧ w'.cell? ⟨nT, 1, none⟩ = some (.int .i64 t.high) ∧ w'.cell? ⟨nT, 2, none⟩ = some (.int .i64 t.due) ∧ w'.cell? ⟨nT, 3, none⟩ = some (.int .i64 t.every) ∧ w'.cell? ⟨nT, 4, none⟩ = some (.bool t.crit)) (by kernel_rfl) ?_
      change wpAnyH _ _ _ _ _ _ _ _ (World.drew _)
      have Kz : Below w6.heap.size w6 (World.drew w6) := Below.drew (Below.refl _ _)
      have hS0 := S_five5 hT6.out Kz
      refine takeHL (i := 0) 64 (.slice A l.length c) rfl rfl (by kernel_rfl) (by kernel_rfl) (by kernel_rfl) (fun _ _ _ h => h) (.inl ⟨by rfl, fun _ _ => rfl⟩) hS0 ?_
      simp only [List.set_cons_succ, List.set_cons_zero]
      refine takeHL (i := 4) 68 (t.val) rfl rfl (by kernel_rfl) (by kernel_rfl) (by kernel_rfl) (fun _ _ _ h => h) (.inl ⟨by rfl, fun w hS => by obtain ⟨h0, h1, h2, h3, h4⟩ := hS; go_simp⟩) hS0 ?_
      simp only [List.set_cons_succ, List.set_cons_zero]
      refine takeHL (i := 9) 73 (.slice A l.length c) rfl rfl (by kernel_rfl) (by kernel_rfl) (by kernel_rfl) (fun _ _ _ h => h) (.inl ⟨by rfl, fun _ _ => rfl⟩) hS0 ?_
      simp only [List.set_cons_succ, List.set_cons_zero]
      refine takeHL (i := 12) 76 (.string (ByteArray.mk G.toArray ++ ByteArray.mk #[10])) rfl rfl (by kernel_rfl) (by kernel_rfl) (by kernel_rfl) (fun _ _ _ h => h) (.inl ⟨by rfl, fun _ _ => rfl⟩) hS0 ?_
      simp only [List.set_cons_succ, List.set_cons_zero]
      refine callHL 1 65 rfl rfl (by kernel_rfl) (by rfl) 23 Tryz.func23 (by kernel_rfl) rfl _ _ rfl _ ?hv (impl_FormatSet A l c _ (hO.ts.keep (bthru B6 Kz))) ?_
      case hv => simp [Act.eval]
      rw [HF.out]
      rintro e v1 ⟨rfl, k1⟩
      have K1 : Below w6.heap.size w6 v1 := bthru Kz k1
      have S1 := S_five5 hT6.out K1
      refine ⟨_, rfl, S1, ?_⟩
      simp only [List.set_cons_succ, List.set_cons_zero]
      refine takeHL (i := 2) 66 (.string ⟨([116, 97, 115, 107, 115, 32] ++ F).toArray⟩) rfl rfl (by kernel_rfl) (by kernel_rfl) (by kernel_rfl) (fun _ _ _ h => h) (.inl ⟨by rfl, fun w _ => by go_simp; rw [if_neg (by omega)]; simp [mk_app]⟩) S1 ?_
      simp only [List.set_cons_succ, List.set_cons_zero]
      refine takeHL (i := 3) 67 (.string ⟨(([116, 97, 115, 107, 115, 32] ++ F) ++ [10, 97, 100, 109, 105, 116, 32]).toArray⟩) rfl rfl (by kernel_rfl) (by kernel_rfl) (by kernel_rfl) (fun _ _ _ h => h) (.inl ⟨by rfl, fun w _ => by go_simp; rw [if_neg (by omega)]; simp [mk_app]⟩) S1 ?_
      simp only [List.set_cons_succ, List.set_cons_zero]
      refine callHL 5 69 rfl rfl (by kernel_rfl) (by rfl) 69 Tryz.func69 (by kernel_rfl) rfl _ _ rfl _ ?hv (impl_FormatTask t _) ?_
      case hv => simp [Act.eval]
      rw [hF.out]
      rintro e v2 ⟨rfl, k2⟩
      have K2 : Below w6.heap.size w6 v2 := bthru K1 k2
      have S2 := S_five5 hT6.out K2
      refine ⟨_, rfl, S2, ?_⟩
      simp only [List.set_cons_succ, List.set_cons_zero]
      refine takeHL (i := 6) 70 (.string ⟨((([116, 97, 115, 107, 115, 32] ++ F) ++ [10, 97, 100, 109, 105, 116, 32]) ++ Y).toArray⟩) rfl rfl (by kernel_rfl) (by kernel_rfl) (by kernel_rfl) (fun _ _ _ h => h) (.inl ⟨by rfl, fun w _ => by go_simp; rw [if_neg (by omega)]; simp [mk_app]⟩) S2 ?_
      simp only [List.set_cons_succ, List.set_cons_zero]
      refine takeHL (i := 7) 71 (.string ⟨(((([116, 97, 115, 107, 115, 32] ++ F) ++ [10, 97, 100, 109, 105, 116, 32]) ++ Y) ++ [10]).toArray⟩) rfl rfl (by kernel_rfl) (by kernel_rfl) (by kernel_rfl) (fun _ _ _ h => h) (.inl ⟨by rfl, fun w _ => by go_simp; rw [if_neg (by omega)]; simp [mk_app]⟩) S2 ?_
      simp only [List.set_cons_succ, List.set_cons_zero]
      refine callHL 8 72 rfl rfl (by kernel_rfl) (by rfl) 26 Tryz.func26 (by kernel_rfl) rfl _ _ rfl _ ?hv (HRun.out _ K2) ?_
      case hv => simp [Act.eval]
      rintro e v3 ⟨rfl, k3⟩
      have K3 : Below w6.heap.size w6 v3 := bthru K2 k3
      have S3 := S_five5 hT6.out K3
      refine ⟨_, rfl, S3, ?_⟩
      simp only [List.set_cons_succ, List.set_cons_zero]
      refine callHL 10 74 rfl rfl (by kernel_rfl) (by rfl) 23 Tryz.func23 (by kernel_rfl) rfl _ _ rfl _ ?hv (impl_FormatSet A l c _ (hO.ts.keep (bthru B6 K3))) ?_
      case hv => simp [Act.eval]
      rw [HF.out]
      rintro e v4 ⟨rfl, k4⟩
      have K4 : Below w6.heap.size w6 v4 := bthru K3 k4
      have S4 := S_five5 hT6.out K4
      refine ⟨_, rfl, S4, ?_⟩
      simp only [List.set_cons_succ, List.set_cons_zero]
      refine takeHL (i := 11) 75 (.string ⟨(F ++ [10]).toArray⟩) rfl rfl (by kernel_rfl) (by kernel_rfl) (by kernel_rfl) (fun _ _ _ h => h) (.inl ⟨by rfl, fun w _ => by go_simp; rw [if_neg (by omega)]; simp [mk_app]⟩) S4 ?_
      simp only [List.set_cons_succ, List.set_cons_zero]
      refine takeHL (i := 13) 77 (.string ⟨((F ++ [10]) ++ (G ++ [10])).toArray⟩) rfl rfl (by kernel_rfl) (by kernel_rfl) (by kernel_rfl) (fun _ _ _ h => h) (.inl ⟨by rfl, fun w _ => by go_simp; rw [if_neg (by omega)]; simp [mk_app]⟩) S4 ?_
      simp only [List.set_cons_succ, List.set_cons_zero]
      refine takeHL (i := 14) 78 (.bool true) rfl rfl (by kernel_rfl) (by kernel_rfl) (by kernel_rfl) (fun _ _ _ h => h) (.inl ⟨by rfl, fun w _ => by go_simp⟩) S4 ?_
      simp only [List.set_cons_succ, List.set_cons_zero]
      refine takeHL (i := 15) 2 (.bool true) rfl rfl (by kernel_rfl) (by kernel_rfl) (by kernel_rfl) (fun _ _ _ h => h) (.inl ⟨by rfl, fun _ _ => rfl⟩) S4 ?_
      simp only [List.set_cons_succ, List.set_cons_zero]
      refine wpAnyH_done (by kernel_rfl) ?_ _
      go_wp2_with fail
      go_ret
      exact ⟨rfl, bthru hb (bthru B6 K4)⟩

open Go.ChangeShapes Go.WideShapes Go.ChangeAt Go.WideElems Go.Deep

set_option maxRecDepth 100000 in
set_option maxHeartbeats 4000000 in
theorem FnScriptAdmit_lifted (os : Os) (started : os.Started) (H : Type) (enc : TypeId × Value → H) :
    ReturnsInHanded {} Tryz.checked os 15 .any (fun w args => (Rows.fnScriptAdmitSpec.pre enc Tryz.prog Tryz.f15 [] false w args ∧ laidMetH Tryz.prog Rows.fnScriptAdmitRow.laid w) ∧ sizedMet enc Tryz.prog Tryz.f15 (OpenSpec.ofChange Rows.fnScriptAdmitSpec) false w args) (Rows.fnScriptAdmitSpec.post enc Tryz.prog Tryz.f15 false true false false) := by
  refine returns_row (C := Tryz.checked) (X := fun w _ => laidMetH Tryz.prog Rows.fnScriptAdmitRow.laid w) (fun _ _ _ hh h => h.of_heap hh) own started (by as_aux_lemma => kernel_rfl) Tryz.func15
    (ChangeSpec.witness_shaped (enc := enc) (C := Tryz.checked) (os := os) (X := fun w _ => laidMetH Tryz.prog Rows.fnScriptAdmitRow.laid w) false (World.laidAll Tryz.prog os Rows.fnScriptAdmitRow.laid) #[.slice none 0 0] 8 (World.laidAll_os _ _ _) (shapedS os) (by as_aux_lemma => kernel_rfl) (by as_aux_lemma => kernel_rfl) (by as_aux_lemma => kernel_rfl) (metS os _)) ?_
  intro W base args ds gs before hval0 hW hL hsh
  have hM : Mx W.heap.size W := mx_of hL hsh (by as_aux_lemma => rfl)
  have hval : ∀ (j : Nat) t v, Tryz.f15.params[j]? = some t → args[j]? = some v → Value.okWide Tryz.prog W .any base t v := hval0
  have hW' := hW
  obtain ⟨p, q, hA0, hV, rfl, _, _⟩ := hW
  have hA : DataW.TrodAll enc Tryz.prog W 0 (fun _ => true) true Tryz.f15.params.toList args.toList ds p := hA0
  rw [Tryz.params15] at hA hval
  obtain ⟨v0, d0, rfl, rfl, h0⟩ := trodAll_one hA
  obtain ⟨rfl, rfl⟩ := trodVars_none hV
  clear hA0 hval0
  simp only [List.append_nil] at hW'
  have hlt : ∀ x ∈ p, x.block < W.heap.size := fun x hx => hW'.lt x (by simpa using hx)
  have hargs : ∀ W', Below W.heap.size W W' → DataW.TrodAll enc Tryz.prog W' 0 (fun b => decide (b < W.heap.size)) true [22] [v0] [d0] (p) := fun W' hb =>
    trodAll_mk1 (Below.trod laidOut (by as_aux_lemma => kernel_rfl) (of_decide_eq_true (by as_aux_lemma => kernel_rfl)) h0 hb (fun x hx => hlt x (by simp [hx])))
  obtain ⟨A0, l0, c0, rfl, hlc0, hlm0, hlw0, hl0⟩ := open_kind Tryz.underlying22 Tryz.underlying5 (by as_aux_lemma => kernel_rfl) (okWide_slice Tryz.underlying22 (hval 0 _ v0 rfl rfl)) h0
  refine (law_FnScriptAdmit A0 l0 c0 W ⟨fun x hx => byte_wf (hlw0 x hx), hl0⟩ hlm0 hlc0 hM).mono fun e W' ⟨he, hb⟩ => ?_
  subst he
  exact ⟨_, rfl, ⟨_, _, _, [], _, [], hW', trodAll_mk1 (shut_bool Tryz.underlying4 _), hargs W' hb, rfl, hb.frame _, fun h => by cases h⟩⟩

set_option maxHeartbeats 4000000 in
theorem FnScriptAdmit_joined : joinedFacts Tryz.prog 15 Tryz.f15 Rows.fnScriptAdmitSpec Rows.fnScriptAdmitRow = true :=
  joined_mk (by as_aux_lemma => kernel_rfl) laidOut mapsRowed_ok (by as_aux_lemma => kernel_rfl) (by as_aux_lemma => kernel_rfl) (by as_aux_lemma => kernel_rfl) stops_ok (by as_aux_lemma => kernel_rfl) knobs_ok (by as_aux_lemma => kernel_rfl) (by as_aux_lemma => kernel_rfl) (by as_aux_lemma => kernel_rfl) (by as_aux_lemma => kernel_rfl) (by as_aux_lemma => kernel_rfl) (by as_aux_lemma => kernel_rfl) (by as_aux_lemma => kernel_rfl) (by as_aux_lemma => kernel_rfl) (by as_aux_lemma => kernel_rfl) (by as_aux_lemma => kernel_rfl) (by as_aux_lemma => kernel_rfl) (by as_aux_lemma => kernel_rfl) (by as_aux_lemma => kernel_rfl) (by rw [keys_ok]; rfl) (by as_aux_lemma => kernel_rfl) heard_ok enter_ok (by rw [lifts_ok]; rfl) (by rw [make_ok]; rfl) (by as_aux_lemma => kernel_rfl) (by as_aux_lemma => kernel_rfl) (by as_aux_lemma => kernel_rfl) (by as_aux_lemma => kernel_rfl)

theorem FnScriptAdmit_holds : Rows.FnScriptAdmitSaid :=
  OpenClaim.holds_of_wide 15 Tryz.f15 rfl rfl rfl rfl rfl rfl rfl ⟨rfl, rfl, rfl, rfl, rfl⟩ rfl rfl rfl rfl rfl (by as_aux_lemma => kernel_rfl) Tryz.func15 FnScriptAdmit_joined
    (of_decide_eq_true (by as_aux_lemma => kernel_rfl)) (by unfold Func.isWrapper; rw [if_neg (by decide +kernel)]; exact ⟨rfl, rfl⟩)
    (fun os started H enc _ => FnScriptAdmit_lifted os started H enc)

set_option maxHeartbeats 4000000 in
theorem FnScriptAdmit_card : Rows.FnScriptAdmitCardSaid :=
  Claim7.holds_tied_plain_at .later [] [.data, .data, .data, .data, .sentinel, .sentinel, .pinned] true (true, "30109cd8cbb2acdc283dc4e050a6b74cca50f9e931557688499b7dc81236a7d2") true
    FnScriptAdmit_holds (fun _ h => by cases h) (by as_aux_lemma => kernel_rfl) (fun _ h => by cases h) fnScriptAdmit_row_tie rfl ⟨rfl, rfl⟩ (by as_aux_lemma => kernel_rfl) rfl
    (fun f fn hf hfn => by
      obtain rfl : f = 15 := Option.some.inj ((show Tryz.prog.funcNamed "loop.example/dualmodes/laws.FnScriptAdmit" = some 15 by as_aux_lemma => kernel_rfl).symm.trans hf) |>.symm
      obtain rfl : fn = Tryz.f15 := (Option.some.inj (Tryz.func15.symm.trans hfn)).symm
      exact ⟨looksS, fun j t ht => by
        rw [Tryz.params15] at ht
        have hm : t ∈ [22] := by simpa using Array.mem_of_getElem? ht
        have hall : ([22].all fun u => !Tryz.prog.wantsStandIn u) = true := by as_aux_lemma => kernel_rfl
        exact (show Tryz.prog.wantsStandIn t = false by simpa using List.all_eq_true.1 hall t hm)⟩)
    (by as_aux_lemma => kernel_rfl)
#print axioms FnScriptAdmit_card
end Go.Proofs.YtmlbjcjihmfcjaaGreatDoor
