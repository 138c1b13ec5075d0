/-
  FnScriptShares returns true for every code.
-/
import Derived.Test.YtmlbjcjihmfcjaaGreatDoorDrawL
import Derived.Test.YtmlbjcjihmfcjaaGreatDoorVirtS
import Derived.Test.YtmlbjcjihmfcjaaGreatDoorWShares
import Derived.Test.YtmlbjcjihmfcjaaGreatDoorDoor
import Derived.Test.YtmlbjcjihmfcjaaGreatDoorOpen
import Derived.Test.YtmlbjcjihmfcjaaGreatDoorTie
import Derived.Test.YtmlbjcjihmfcjaaGreatDoorCards
namespace Go.Proofs.YtmlbjcjihmfcjaaGreatDoor
open Go.RowKit

theorem run_neq_share (a b : Int) (w : World) : (binOp .neq 54 (sv a b) (sv a b)).run Tryz.prog w = .ok (.bool false) w := by
  simp [go_sem]
theorem S_two {w w' : World} {b : Nat} {x y : Int} {t : TypeId} (h : w.heap[b]? = some (.cells #[.int .i64 x, .int .i64 y] t (0, 0))) (hb : Below w.heap.size w w') :
    w'.cell? ⟨b, 0, none⟩ = some (.int .i64 x) ∧ w'.cell? ⟨b, 1, none⟩ = some (.int .i64 y) := by
  obtain ⟨t0, t1, _⟩ := blk_two ((hb.block b (Array.getElem?_eq_some_iff.1 h).1).trans h)
  exact ⟨t0, t1⟩

set_option maxHeartbeats 4000000 in
set_option maxRecDepth 100000 in
theorem law_FnScriptShares (A0 : Option Addr) (code : List Int) (c0 : Nat) (w : World) (h : BS w A0 code) (hl : code.length ≤ maxLen) (hlc : code.length ≤ c0) (hM : Mx w.heap.size w) :
    Calls Tryz.prog 9 #[.slice A0 code.length c0] w fun e w' => e = .returned (.bool true) ∧ Below w.heap.size w w' := by
  have hl' := hl
  unfold maxLen at hl'
  by_cases h1 : code.length ≤ 1048576
  case neg =>
    go_enter Tryz.func9, Tryz.ntmps9
    go_wp2_with fail
    go_ret
    exact ⟨rfl, Below.refl _ _⟩
  go_enter Tryz.func9, Tryz.ntmps9
  go_wp2_with fail
  refine (spec_DrawHighShare A0 code c0 w h hl hlc).mono ?_
  rintro e w1 ⟨A, c, l, rfl, hO, hl6, hb⟩
  have hsz := own_size hO
  obtain ⟨hsz1, hsz2⟩ := hsz
  have hlm : l.length ≤ maxLen := by unfold maxLen; omega
  clear hsz2
  obtain ⟨F, hF⟩ : ∃ F, fmtSet l = F := ⟨_, rfl⟩
  have HFl : F.length ≤ 510 := by rw [← hF]; exact fmtSet_le _
  have HF10 : (10 : UInt8) ∉ F := by rw [← hF]; exact fmtSet_no _
  have HF := Lib.hid hF
  clear hF
  have hq0 := fun (w : World) => run_eql_share 0 0 w
  have hn0 := fun (w : World) => run_neq_share 0 0 w
  cases hS : setVld l with
  | false =>
    have hv : sumV l true true = sv 0 0 := by simp [sumV, hS]
    have HV := Lib.hid hv
    have HS := Lib.hid hS
    clear hv hS
    go_wp2_with fail
    refine (impl_HighShare A l c _ hO.ts).mono ?_
    rw [HV.out]
    rintro e w2 ⟨rfl, b2⟩
    have k2 := bal b2 (.cells #[.int .i64 0, .int .i64 0] 54 (0, 0))
    have hN2 := heap_alloc_new w2 (.cells #[.int .i64 0, .int .i64 0] 54 (0, 0))
    go_upto_region 5 with fail
    generalize World.alloc w2 _ = wa at k2 hN2 ⊢
    generalize w2.heap.size = n2 at hN2 ⊢
    have hOa := OT_keep hO k2
    have hba := bthru hb k2
    clear hb k2 hO
    have HN2 := Lib.hid hN2
    have hlt := (Array.getElem?_eq_some_iff.1 hN2).1
    obtain ⟨x0, x1, xf⟩ := blk_two hN2
    clear hN2 xf
    go_region_with (first
      | (go_at_call 45; refine (spec_HighShare A l c _ (hOa.ts.keep (by first | assumption | exact Below.refl _ _ | exact bdr (Below.refl _ _) _ | exact Below.drew (Below.refl _ _) | exact Below.drew (by assumption) | exact bdr (by assumption) _)) hlm).mono ?_; rw [HV.out]; rintro e v1 ⟨rfl, k1⟩; have K1 : Below wa.heap.size wa v1 := bthru (by first | assumption | exact Below.refl _ _ | exact bdr (Below.refl _ _) _ | exact Below.drew (Below.refl _ _) | exact Below.drew (by assumption) | exact bdr (by assumption) _) k1; have x01 := (K1.cell (p := ⟨n2, 0, none⟩) hlt).trans x0; have x11 := (K1.cell (p := ⟨n2, 1, none⟩) hlt).trans x1)
      | (go_at_call 36; refine (impl_SetValid A l c _ (hOa.ts.keep (by first | assumption | exact Below.refl _ _ | exact bdr (Below.refl _ _) _ | exact Below.drew (Below.refl _ _) | exact Below.drew (by assumption) | exact bdr (by assumption) _))).mono ?_; rw [HS.out]; rintro e v2 ⟨rfl, k2⟩; have K2 : Below wa.heap.size wa v2 := bthru (by first | assumption | exact Below.refl _ _ | exact bdr (Below.refl _ _) _ | exact Below.drew (Below.refl _ _) | exact Below.drew (by assumption) | exact bdr (by assumption) _) k2; have x02 := (K2.cell (p := ⟨n2, 0, none⟩) hlt).trans x0; have x12 := (K2.cell (p := ⟨n2, 1, none⟩) hlt).trans x1))
    all_goals
      go_wp2_with fail
    all_goals
      clear x0 x1 x01 x11
      go_region_with (first
        | (go_at_call 45; refine (spec_HighShare A l c _ (hOa.ts.keep (by first | assumption | exact Below.refl _ _ | exact bdr (Below.refl _ _) _ | exact Below.drew (Below.refl _ _) | exact Below.drew (by assumption) | exact bdr (by assumption) _)) hlm).mono ?_; rw [HV.out]; rintro e v3 ⟨rfl, k3⟩; have K3 : Below wa.heap.size wa v3 := bthru (by first | assumption | exact Below.refl _ _ | exact bdr (Below.refl _ _) _ | exact Below.drew (Below.refl _ _) | exact Below.drew (by assumption) | exact bdr (by assumption) _) k3; have x03 := (K3.cell (p := ⟨n2, 0, none⟩) hlt).trans (blk_two HN2.out).1; have x13 := (K3.cell (p := ⟨n2, 1, none⟩) hlt).trans (blk_two HN2.out).2.1))
    all_goals
      go_wp2_with fail
      go_ret
      exact ⟨rfl, bthru hba K3⟩
  | true =>
    have hT := text_tasks l hS
    rw [HF.out] at hT
    have hW := plain_shares ⟨l, 0, [], 0, St0.out ++ (F ++ [10])⟩ hS (by simp [St0] <;> omega)
    have R1 := RIn_shares hS false false
    have R2 := RIn_shares hS true false
    have R3 := RIn_shares hS true true
    have L1 := shareT_len _ R1
    have L2 := shareT_len _ R2
    have L3 := shareT_len _ R3
    have V1 := Lib.hid (sumV_yes hS false false)
    have V2 := Lib.hid (sumV_yes hS true false)
    have HV := Lib.hid (sumV_yes hS true true)
    have HS := Lib.hid hS
    clear hS hq0 hn0
    dsimp only at hW
    generalize shares false false l = r1 at *
    generalize shares true false l = r2 at *
    generalize shares true true l = r3 at *
    have hq1 := fun (w : World) => run_eql_share r3.num r3.den w
    have hn1 := fun (w : World) => run_neq_share r3.num r3.den w
    go_wp2_with fail
    refine (impl_HighShare A l c _ hO.ts).mono ?_
    rw [HV.out]
    rintro e w2 ⟨rfl, b2⟩
    have k2 := bal b2 (.cells #[.int .i64 r3.num, .int .i64 (r3.den : Int)] 54 (0, 0))
    have hN2 := heap_alloc_new w2 (.cells #[.int .i64 r3.num, .int .i64 (r3.den : Int)] 54 (0, 0))
    go_upto_region 5 with fail
    generalize World.alloc w2 _ = wa at k2 hN2 ⊢
    generalize w2.heap.size = n2 at hN2 ⊢
    have hOa := OT_keep hO k2
    have hba := bthru hb k2
    clear hb k2 hO
    have HN2 := Lib.hid hN2
    have hlt := (Array.getElem?_eq_some_iff.1 hN2).1
    obtain ⟨x0, x1, xf⟩ := blk_two hN2
    clear hN2 xf
    refine wp_region_held (S := fun w' => w'.cell? ⟨n2, 0, none⟩ = some (.int .i64 r3.num) ∧ w'.cell? ⟨n2, 1, none⟩ = some (.int .i64 (r3.den : Int))) (by kernel_rfl) ?_
    change wpAnyH _ _ _ _ _ _ _ _ (World.drew _)
    have Kzwa : Below wa.heap.size wa (World.drew wa) := Below.drew (Below.refl _ _)
    have hSwa := S_two HN2.out (Below.trans (Below.refl wa.heap.size wa) Kzwa)
    refine takeHL (i := 0) 14 (rv r3) rfl rfl (by kernel_rfl) (by kernel_rfl) (by kernel_rfl) (fun _ _ _ h => h) (.inl ⟨by rfl, fun w hS => by obtain ⟨h0, h1⟩ := hS; go_simp⟩) hSwa ?_
    simp only [List.set_cons_succ, List.set_cons_zero]
    refine takeHL (i := 1) 15 (.slice A l.length c) rfl rfl (by kernel_rfl) (by kernel_rfl) (by kernel_rfl) (fun _ _ _ h => h) (.inl ⟨by rfl, fun _ _ => rfl⟩) hSwa ?_
    simp only [List.set_cons_succ, List.set_cons_zero]
    refine callHL 2 16 rfl rfl (by kernel_rfl) (by rfl) 45 Tryz.func45 (by kernel_rfl) rfl _ _ rfl (#[.slice A l.length c]) (by simp [Act.eval]) (spec_HighShare A l c _ (hOa.ts.keep Kzwa) hlm) ?_
    rw [HV.out]
    rintro e v1 ⟨rfl, k1⟩
    have K1 : Below wa.heap.size wa v1 := bthru Kzwa k1
    have S1 := S_two HN2.out (Below.trans (Below.refl wa.heap.size wa) K1)
    refine ⟨_, rfl, S1, ?_⟩
    simp only [List.set_cons_succ, List.set_cons_zero]
    refine takeHL (i := 3) 17 (.bool false) rfl rfl (by kernel_rfl) (by kernel_rfl) (by kernel_rfl) (fun _ _ _ h => h) (.inl ⟨by rfl, fun w _ => by go_simp⟩) S1 ?_
    simp only [List.set_cons_succ, List.set_cons_zero]
    refine takeHL (i := 4) 18 (.bool false) rfl rfl (by kernel_rfl) (by kernel_rfl) (by kernel_rfl) (fun _ _ _ h => h) (.inl ⟨by rfl, fun _ _ => rfl⟩) S1 ?_
    simp only [List.set_cons_succ, List.set_cons_zero]
    refine takeHL (i := 5) 19 (.slice A l.length c) rfl rfl (by kernel_rfl) (by kernel_rfl) (by kernel_rfl) (fun _ _ _ h => h) (.inl ⟨by rfl, fun _ _ => rfl⟩) S1 ?_
    simp only [List.set_cons_succ, List.set_cons_zero]
    refine callHL 6 20 rfl rfl (by kernel_rfl) (by rfl) 36 Tryz.func36 (by kernel_rfl) rfl _ _ rfl (#[.slice A l.length c]) (by simp [Act.eval]) (impl_SetValid A l c _ (hOa.ts.keep K1)) ?_
    rw [HS.out]
    rintro e v2 ⟨rfl, k2⟩
    have K2 : Below wa.heap.size wa v2 := bthru K1 k2
    have S2 := S_two HN2.out (Below.trans (Below.refl wa.heap.size wa) K2)
    refine ⟨_, rfl, S2, ?_⟩
    simp only [List.set_cons_succ, List.set_cons_zero]
    refine takeHL (i := 7) 21 (.bool false) rfl rfl (by kernel_rfl) (by kernel_rfl) (by kernel_rfl) (fun _ _ _ h => h) (.inl ⟨by rfl, fun w _ => by go_simp⟩) S2 ?_
    simp only [List.set_cons_succ, List.set_cons_zero]
    refine takeHL (i := 8) 22 (.bool false) rfl rfl (by kernel_rfl) (by kernel_rfl) (by kernel_rfl) (fun _ _ _ h => h) (.inl ⟨by rfl, fun w _ => by go_simp⟩) S2 ?_
    simp only [List.set_cons_succ, List.set_cons_zero]
    refine wpAnyH_done (by kernel_rfl) ?_ _
    go_wp2_with fail
    refine (impl_FormatSet A l c _ (hOa.ts.keep K2)).mono ?_
    rw [HF.out]
    rintro e u3 ⟨rfl, j3⟩
    have J3 : Below wa.heap.size wa u3 := bthru K2 j3
    go_wp2_with fail
    refine wp_region_held (S := fun w' => w'.cell? ⟨n2, 0, none⟩ = some (.int .i64 r3.num) ∧ w'.cell? ⟨n2, 1, none⟩ = some (.int .i64 (r3.den : Int))) (by kernel_rfl) ?_
    change wpAnyH _ _ _ _ _ _ _ _ (World.drew _)
    have Kzu3 : Below u3.heap.size u3 (World.drew u3) := Below.drew (Below.refl _ _)
    have hSu3 := S_two HN2.out (bthru J3 Kzu3)
    refine takeHL (i := 0) 29 (.slice A l.length c) rfl rfl (by kernel_rfl) (by kernel_rfl) (by kernel_rfl) (fun _ _ _ h => h) (.inl ⟨by rfl, fun _ _ => rfl⟩) hSu3 ?_
    simp only [List.set_cons_succ, List.set_cons_zero]
    refine takeHL (i := 5) 34 (.slice A l.length c) rfl rfl (by kernel_rfl) (by kernel_rfl) (by kernel_rfl) (fun _ _ _ h => h) (.inl ⟨by rfl, fun _ _ => rfl⟩) hSu3 ?_
    simp only [List.set_cons_succ, List.set_cons_zero]
    refine takeHL (i := 10) 39 (rv r3) rfl rfl (by kernel_rfl) (by kernel_rfl) (by kernel_rfl) (fun _ _ _ h => h) (.inl ⟨by rfl, fun w hS => by obtain ⟨h0, h1⟩ := hS; go_simp⟩) hSu3 ?_
    simp only [List.set_cons_succ, List.set_cons_zero]
    refine callHL 1 30 rfl rfl (by kernel_rfl) (by rfl) 47 Tryz.func47 (by kernel_rfl) rfl _ _ rfl (#[.slice A l.length c, .bool false]) (by simp [Act.eval]) (impl_LowShare A l c false _ (hOa.ts.keep (bthru J3 Kzu3))) ?_
    rw [V1.out]
    rintro e v3 ⟨rfl, k3⟩
    have K3 : Below u3.heap.size u3 v3 := bthru Kzu3 k3
    have S3 := S_two HN2.out (bthru J3 K3)
    refine ⟨_, rfl, S3, ?_⟩
    simp only [List.set_cons_succ, List.set_cons_zero]
    refine callHL 2 31 rfl rfl (by kernel_rfl) (by rfl) 46 Tryz.func46 (by kernel_rfl) rfl _ _ rfl (#[rv r1]) (by simp [Act.eval]) (impl_FormatShare r1 R1 _ (hM.keep (bthru hba (bthru J3 K3))) (Below.size (bthru hba (bthru J3 K3)))) ?_
    rintro e v4 ⟨rfl, k4⟩
    have K4 : Below u3.heap.size u3 v4 := bthru K3 k4
    have S4 := S_two HN2.out (bthru J3 K4)
    refine ⟨_, rfl, S4, ?_⟩
    simp only [List.set_cons_succ, List.set_cons_zero]
    refine takeHL (i := 3) 32 (.string ⟨([115, 104, 97, 114, 101, 115, 32] ++ shareT r1).toArray⟩) rfl rfl (by kernel_rfl) (by kernel_rfl) (by kernel_rfl) (fun _ _ _ h => h) (.inl ⟨by rfl, fun w _ => by go_simp; rw [if_neg (by omega)]; simp only [mk_app]; first | rfl | simp⟩) S4 ?_
    simp only [List.set_cons_succ, List.set_cons_zero]
    refine takeHL (i := 4) 33 (.string ⟨(([115, 104, 97, 114, 101, 115, 32] ++ shareT r1) ++ [32]).toArray⟩) rfl rfl (by kernel_rfl) (by kernel_rfl) (by kernel_rfl) (fun _ _ _ h => h) (.inl ⟨by rfl, fun w _ => by go_simp; rw [if_neg (by omega)]; simp only [mk_app]; first | rfl | simp⟩) S4 ?_
    simp only [List.set_cons_succ, List.set_cons_zero]
    refine callHL 6 35 rfl rfl (by kernel_rfl) (by rfl) 47 Tryz.func47 (by kernel_rfl) rfl _ _ rfl (#[.slice A l.length c, .bool true]) (by simp [Act.eval]) (impl_LowShare A l c true _ (hOa.ts.keep (bthru J3 K4))) ?_
    rw [V2.out]
    rintro e v5 ⟨rfl, k5⟩
    have K5 : Below u3.heap.size u3 v5 := bthru K4 k5
    have S5 := S_two HN2.out (bthru J3 K5)
    refine ⟨_, rfl, S5, ?_⟩
    simp only [List.set_cons_succ, List.set_cons_zero]
    refine callHL 7 36 rfl rfl (by kernel_rfl) (by rfl) 46 Tryz.func46 (by kernel_rfl) rfl _ _ rfl (#[rv r2]) (by simp [Act.eval]) (impl_FormatShare r2 R2 _ (hM.keep (bthru hba (bthru J3 K5))) (Below.size (bthru hba (bthru J3 K5)))) ?_
    rintro e v6 ⟨rfl, k6⟩
    have K6 : Below u3.heap.size u3 v6 := bthru K5 k6
    have S6 := S_two HN2.out (bthru J3 K6)
    refine ⟨_, rfl, S6, ?_⟩
    simp only [List.set_cons_succ, List.set_cons_zero]
    refine takeHL (i := 8) 37 (.string ⟨((([115, 104, 97, 114, 101, 115, 32] ++ shareT r1) ++ [32]) ++ shareT r2).toArray⟩) rfl rfl (by kernel_rfl) (by kernel_rfl) (by kernel_rfl) (fun _ _ _ h => h) (.inl ⟨by rfl, fun w _ => by go_simp; rw [if_neg (by omega)]; simp only [mk_app]; first | rfl | simp⟩) S6 ?_
    simp only [List.set_cons_succ, List.set_cons_zero]
    refine takeHL (i := 9) 38 (.string ⟨(((([115, 104, 97, 114, 101, 115, 32] ++ shareT r1) ++ [32]) ++ shareT r2) ++ [32]).toArray⟩) rfl rfl (by kernel_rfl) (by kernel_rfl) (by kernel_rfl) (fun _ _ _ h => h) (.inl ⟨by rfl, fun w _ => by go_simp; rw [if_neg (by omega)]; simp only [mk_app]; first | rfl | simp⟩) S6 ?_
    simp only [List.set_cons_succ, List.set_cons_zero]
    refine callHL 11 40 rfl rfl (by kernel_rfl) (by rfl) 46 Tryz.func46 (by kernel_rfl) rfl _ _ rfl (#[rv r3]) (by simp [Act.eval]) (impl_FormatShare r3 R3 _ (hM.keep (bthru hba (bthru J3 K6))) (Below.size (bthru hba (bthru J3 K6)))) ?_
    rintro e v7 ⟨rfl, k7⟩
    have K7 : Below u3.heap.size u3 v7 := bthru K6 k7
    have S7 := S_two HN2.out (bthru J3 K7)
    refine ⟨_, rfl, S7, ?_⟩
    simp only [List.set_cons_succ, List.set_cons_zero]
    refine takeHL (i := 12) 41 (.string ⟨((((([115, 104, 97, 114, 101, 115, 32] ++ shareT r1) ++ [32]) ++ shareT r2) ++ [32]) ++ shareT r3).toArray⟩) rfl rfl (by kernel_rfl) (by kernel_rfl) (by kernel_rfl) (fun _ _ _ h => h) (.inl ⟨by rfl, fun w _ => by go_simp; rw [if_neg (by omega)]; simp only [mk_app]; first | rfl | simp⟩) S7 ?_
    simp only [List.set_cons_succ, List.set_cons_zero]
    refine takeHL (i := 13) 42 (.string ⟨(((((([115, 104, 97, 114, 101, 115, 32] ++ shareT r1) ++ [32]) ++ shareT r2) ++ [32]) ++ shareT r3) ++ [10]).toArray⟩) rfl rfl (by kernel_rfl) (by kernel_rfl) (by kernel_rfl) (fun _ _ _ h => h) (.inl ⟨by rfl, fun w _ => by go_simp; rw [if_neg (by omega)]; simp only [mk_app]; first | rfl | simp⟩) S7 ?_
    simp only [List.set_cons_succ, List.set_cons_zero]
    refine takeHL (i := 14) 6 (.string ⟨(((((([115, 104, 97, 114, 101, 115, 32] ++ shareT r1) ++ [32]) ++ shareT r2) ++ [32]) ++ shareT r3) ++ [10]).toArray⟩) rfl rfl (by kernel_rfl) (by kernel_rfl) (by kernel_rfl) (fun _ _ _ h => h) (.inl ⟨by rfl, fun _ _ => rfl⟩) S7 ?_
    simp only [List.set_cons_succ, List.set_cons_zero]
    refine wpAnyH_done (by kernel_rfl) ?_ _
    have B8 : Below wa.heap.size wa _ := bthru J3 K7
    obtain ⟨E, hE⟩ : ∃ E, ((((([115, 104, 97, 114, 101, 115, 32] ++ shareT r1) ++ [32]) ++ shareT r2) ++ [32]) ++ shareT r3) ++ [10] = E := ⟨_, rfl⟩
    have hEl : E.length ≤ 200 := by rw [← hE]; simp <;> omega
    have HE := Lib.hid hE
    rw [hE]
    clear hE
    have hp : pieces [10] (([116, 97, 115, 107, 115, 32] ++ F) ++ [10] ++ (([115, 104, 97, 114, 101, 115]) ++ [10] ++ ([]))) = [[116, 97, 115, 107, 115, 32] ++ F, [115, 104, 97, 114, 101, 115], []] := by
      rw [pieces_app 10 [] _ _ (by simp [HF10]), pieces_app 10 [] _ _ (by decide), pieces_no 10 [] [] (by simp)]
    have hC : Chain [[116, 97, 115, 107, 115, 32] ++ F, [115, 104, 97, 114, 101, 115], []] St0 ⟨l, 0, [], 0, St0.out ++ (F ++ [10]) ++ (((((([115, 104, 97, 114, 101, 115, 32] ++ shareT r1) ++ [32]) ++ shareT r2) ++ [32]) ++ shareT r3) ++ [10])⟩ := by
      refine .step (by simp) (by simp [St0] <;> omega) (do_text (x := [116, 97, 115, 107, 115]) (by decide) (by simp <;> omega) (hT _ (by simp [St0] <;> omega))) ?_
      refine .step (by simp) (by simp [St0] <;> omega) (do_plain (by decide) (by simp) (hW)) ?_
      exact .skip (.nil _)
    go_wp2_with fail
    refine (impl_RunScript _ _ ((ByteArray.mk F.toArray ++ ByteArray.mk #[10]) ++ ByteArray.mk E.toArray) ?hT _ hp _ ?hR _ (by simp <;> omega) (by simp) hC (by simp) ((hM.keep (bthru hba B8)).up (Below.size (bthru hba B8)))).mono ?_
    case hT => simp only [mk_app]; simp
    case hR => rw [← HE.out]; simp only [mk_app]; simp [St0]
    rintro e w9 ⟨rfl, b9⟩
    go_wp2_with fail
    go_ret
    exact ⟨rfl, bthru hba (bthru B8 b9)⟩

open Go.ChangeShapes Go.WideShapes Go.ChangeAt Go.WideElems Go.Deep

set_option maxRecDepth 100000 in
set_option maxHeartbeats 4000000 in
theorem FnScriptShares_lifted (os : Os) (started : os.Started) (H : Type) (enc : TypeId × Value → H) :
    ReturnsInHanded {} Tryz.checked os 9 .any (fun w args => (Rows.fnScriptSharesSpec.pre enc Tryz.prog Tryz.f9 [] false w args ∧ laidMetH Tryz.prog Rows.fnScriptSharesRow.laid w) ∧ sizedMet enc Tryz.prog Tryz.f9 (OpenSpec.ofChange Rows.fnScriptSharesSpec) false w args) (Rows.fnScriptSharesSpec.post enc Tryz.prog Tryz.f9 false true false false) := by
  refine returns_row (C := Tryz.checked) (X := fun w _ => laidMetH Tryz.prog Rows.fnScriptSharesRow.laid w) (fun _ _ _ hh h => h.of_heap hh) own started (by as_aux_lemma => kernel_rfl) Tryz.func9
    (ChangeSpec.witness_shaped (enc := enc) (C := Tryz.checked) (os := os) (X := fun w _ => laidMetH Tryz.prog Rows.fnScriptSharesRow.laid w) false (World.laidAll Tryz.prog os Rows.fnScriptSharesRow.laid) #[.slice none 0 0] 8 (World.laidAll_os _ _ _) (shapedS os) (by as_aux_lemma => kernel_rfl) (by as_aux_lemma => kernel_rfl) (by as_aux_lemma => kernel_rfl) (metS os _)) ?_
  intro W base args ds gs before hval0 hW hL hsh
  have hM : Mx W.heap.size W := mx_of hL hsh (by as_aux_lemma => rfl)
  have hval : ∀ (j : Nat) t v, Tryz.f9.params[j]? = some t → args[j]? = some v → Value.okWide Tryz.prog W .any base t v := hval0
  have hW' := hW
  obtain ⟨p, q, hA0, hV, rfl, _, _⟩ := hW
  have hA : DataW.TrodAll enc Tryz.prog W 0 (fun _ => true) true Tryz.f9.params.toList args.toList ds p := hA0
  rw [Tryz.params9] at hA hval
  obtain ⟨v0, d0, rfl, rfl, h0⟩ := trodAll_one hA
  obtain ⟨rfl, rfl⟩ := trodVars_none hV
  clear hA0 hval0
  simp only [List.append_nil] at hW'
  have hlt : ∀ x ∈ p, x.block < W.heap.size := fun x hx => hW'.lt x (by simpa using hx)
  have hargs : ∀ W', Below W.heap.size W W' → DataW.TrodAll enc Tryz.prog W' 0 (fun b => decide (b < W.heap.size)) true [22] [v0] [d0] (p) := fun W' hb =>
    trodAll_mk1 (Below.trod laidOut (by as_aux_lemma => kernel_rfl) (of_decide_eq_true (by as_aux_lemma => kernel_rfl)) h0 hb (fun x hx => hlt x (by simp [hx])))
  obtain ⟨A0, l0, c0, rfl, hlc0, hlm0, hlw0, hl0⟩ := open_kind Tryz.underlying22 Tryz.underlying5 (by as_aux_lemma => kernel_rfl) (okWide_slice Tryz.underlying22 (hval 0 _ v0 rfl rfl)) h0
  refine (law_FnScriptShares A0 l0 c0 W ⟨fun x hx => byte_wf (hlw0 x hx), hl0⟩ hlm0 hlc0 hM).mono fun e W' ⟨he, hb⟩ => ?_
  subst he
  exact ⟨_, rfl, ⟨_, _, _, [], _, [], hW', trodAll_mk1 (shut_bool Tryz.underlying4 _), hargs W' hb, rfl, hb.frame _, fun h => by cases h⟩⟩

set_option maxHeartbeats 4000000 in
theorem FnScriptShares_joined : joinedFacts Tryz.prog 9 Tryz.f9 Rows.fnScriptSharesSpec Rows.fnScriptSharesRow = true :=
  joined_mk (by as_aux_lemma => kernel_rfl) laidOut mapsRowed_ok (by as_aux_lemma => kernel_rfl) (by as_aux_lemma => kernel_rfl) (by as_aux_lemma => kernel_rfl) stops_ok (by as_aux_lemma => kernel_rfl) knobs_ok (by as_aux_lemma => kernel_rfl) (by as_aux_lemma => kernel_rfl) (by as_aux_lemma => kernel_rfl) (by as_aux_lemma => kernel_rfl) (by as_aux_lemma => kernel_rfl) (by as_aux_lemma => kernel_rfl) (by as_aux_lemma => kernel_rfl) (by as_aux_lemma => kernel_rfl) (by as_aux_lemma => kernel_rfl) (by as_aux_lemma => kernel_rfl) (by as_aux_lemma => kernel_rfl) (by as_aux_lemma => kernel_rfl) (by as_aux_lemma => kernel_rfl) (by rw [keys_ok]; rfl) (by as_aux_lemma => kernel_rfl) heard_ok enter_ok (by rw [lifts_ok]; rfl) (by rw [make_ok]; rfl) (by as_aux_lemma => kernel_rfl) (by as_aux_lemma => kernel_rfl) (by as_aux_lemma => kernel_rfl) (by as_aux_lemma => kernel_rfl)

theorem FnScriptShares_holds : Rows.FnScriptSharesSaid :=
  OpenClaim.holds_of_wide 9 Tryz.f9 rfl rfl rfl rfl rfl rfl rfl ⟨rfl, rfl, rfl, rfl, rfl⟩ rfl rfl rfl rfl rfl (by as_aux_lemma => kernel_rfl) Tryz.func9 FnScriptShares_joined
    (of_decide_eq_true (by as_aux_lemma => kernel_rfl)) (by unfold Func.isWrapper; rw [if_neg (by decide +kernel)]; exact ⟨rfl, rfl⟩)
    (fun os started H enc _ => FnScriptShares_lifted os started H enc)

set_option maxHeartbeats 4000000 in
theorem FnScriptShares_card : Rows.FnScriptSharesCardSaid :=
  Claim7.holds_tied_plain_at .later [] [.data, .data, .data, .data, .sentinel, .sentinel, .pinned] true (true, "30109cd8cbb2acdc283dc4e050a6b74cca50f9e931557688499b7dc81236a7d2") true
    FnScriptShares_holds (fun _ h => by cases h) (by as_aux_lemma => kernel_rfl) (fun _ h => by cases h) fnScriptShares_row_tie rfl ⟨rfl, rfl⟩ (by as_aux_lemma => kernel_rfl) rfl
    (fun f fn hf hfn => by
      obtain rfl : f = 9 := Option.some.inj ((show Tryz.prog.funcNamed "loop.example/dualmodes/laws.FnScriptShares" = some 9 by as_aux_lemma => kernel_rfl).symm.trans hf) |>.symm
      obtain rfl : fn = Tryz.f9 := (Option.some.inj (Tryz.func9.symm.trans hfn)).symm
      exact ⟨looksS, fun j t ht => by
        rw [Tryz.params9] at ht
        have hm : t ∈ [22] := by simpa using Array.mem_of_getElem? ht
        have hall : ([22].all fun u => !Tryz.prog.wantsStandIn u) = true := by as_aux_lemma => kernel_rfl
        exact (show Tryz.prog.wantsStandIn t = false by simpa using List.all_eq_true.1 hall t hm)⟩)
    (by as_aux_lemma => kernel_rfl)
#print axioms FnScriptShares_card
end Go.Proofs.YtmlbjcjihmfcjaaGreatDoor
