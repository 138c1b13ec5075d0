/-
  Which jobs are valid: the program's. (Printed by gen_jobv.py.)
-/
import Derived.Test.YtmkjmancmiphfaaGreatDoorJobT
import Derived.Test.YtmkjmancmiphfaaGreatDoorDrawTask
import Derived.Test.YtmkjmancmiphfaaGreatDoorRespSwI
import Derived.Test.YtmkjmancmiphfaaGreatDoorHeld
import Derived.Deep.CutBlock
import Derived.Deep.LoopGhost
namespace Go.Proofs.YtmkjmancmiphfaaGreatDoor
open Go.RowKit

theorem blk3 {w : World} {b : Nat} {v0 v1 v2 : Value} {t : TypeId} (h : w.heap[b]? = some (.cells #[v0, v1, v2] t (0, 0))) :
    w.cell? ⟨b, 0, none⟩ = some v0 ∧ w.cell? ⟨b, 1, none⟩ = some v1 ∧ w.cell? ⟨b, 2, none⟩ = some v2 := by
  refine ⟨?_, ?_, ?_⟩ <;> (rw [Lib.cell_of_heap h]; rfl)
set_option maxHeartbeats 2000000 in
theorem impl_jobOf (A : Option Addr) (l : List Tk) (c : Nat) (j : Jb) (w : World) (h : TS w A l) :
    Calls Tryz.prog 54 #[.slice A l.length c, j.val] w fun e w' => e = .returned (.bool (jobOfB l j)) ∧ Below w.heap.size w w' := by
  obtain ⟨q, a, n⟩ := j
  cases hp : plc l q with
  | false =>
    have E : Hid (jobOfB l ⟨q, a, n⟩ = false) := by simp [Hid, jobOfB, hp]
    have HP := Lib.hid hp
    clear hp
    go_enter Tryz.func54, Tryz.ntmps54
    go_upto_region 1 with fail
    have hT := heap_alloc_new w (.cells #[.int .i64 q, .int .i64 a, .int .i64 n] 60 (0, 0))
    have hba := bal (Below.refl w.heap.size w) (.cells #[.int .i64 q, .int .i64 a, .int .i64 n] 60 (0, 0))
    generalize World.alloc w _ = wa at hT hba ⊢
    obtain ⟨nb, hnb⟩ : ∃ nb, w.heap.size = nb := ⟨_, rfl⟩
    have hbaw := hba
    rw [hnb] at hT ⊢
    have hlT := (Array.getElem?_eq_some_iff.1 hT).1
    have hSof : ∀ {w' : World}, Below wa.heap.size wa w' → w'.cell? ⟨nb, 0, none⟩ = some (.int .i64 q) ∧ w'.cell? ⟨nb, 1, none⟩ = some (.int .i64 a) ∧ w'.cell? ⟨nb, 2, none⟩ = some (.int .i64 n) := by
      intro w' hw
      obtain ⟨h0, h1, h2⟩ := blk3 ((hw.block nb hlT).trans hT)
      exact ⟨h0, h1, h2⟩
    refine wp_region_held (S := fun w' => w'.cell? ⟨nb, 0, none⟩ = some (.int .i64 q) ∧ w'.cell? ⟨nb, 1, none⟩ = some (.int .i64 a) ∧ w'.cell? ⟨nb, 2, none⟩ = some (.int .i64 n)) (by kernel_rfl) ?_
    change wpAnyH _ _ _ _ _ _ _ _ (World.drew _)
    have Kz : Below wa.heap.size wa (World.drew wa) := Below.drew (Below.refl _ _)
    have hS0 := hSof Kz
    refine takeHL (i := 0) 5 (.slice A l.length c) rfl rfl (by kernel_rfl) (by kernel_rfl) (by kernel_rfl) (fun _ _ _ h => h) (.inl ⟨by rfl, fun _ _ => rfl⟩) hS0 ?_
    simp only [List.set_cons_succ, List.set_cons_zero]
    refine takeHL (i := 1) 6 (.pointer (some ⟨nb, 0, none⟩)) rfl rfl (by kernel_rfl) (by kernel_rfl) (by kernel_rfl) (fun _ _ _ h => h) (.inl ⟨by rfl, fun w _ => by go_simp⟩) hS0 ?_
    simp only [List.set_cons_succ, List.set_cons_zero]
    refine takeHL (i := 2) 7 (.int .i64 (q)) rfl rfl (by kernel_rfl) (by kernel_rfl) (by kernel_rfl) (fun _ _ _ h => h) (.inl ⟨by rfl, fun w hS => by obtain ⟨h0, h1, h2⟩ := hS; go_simp⟩) hS0 ?_
    simp only [List.set_cons_succ, List.set_cons_zero]
    refine callHL 3 8 rfl rfl (by kernel_rfl) (by rfl) 100 Tryz.func100 (by kernel_rfl) rfl _ _ rfl #[.slice A l.length c, .int .i64 q] ?hv (impl_placed _ l c q _ (h.keep (bthru hba Kz))) ?_
    case hv => simp [Act.eval]
    rw [HP.out]
    rintro e v1 ⟨rfl, k1⟩
    have K1 : Below wa.heap.size wa v1 := bthru Kz k1
    have S1 := hSof K1
    refine ⟨_, rfl, S1, ?_⟩
    simp only [List.set_cons_succ, List.set_cons_zero]
    refine takeHL (i := 4) 9 (.bool false) rfl rfl (by kernel_rfl) (by kernel_rfl) (by kernel_rfl) (fun _ _ _ h => h) (.inl ⟨by rfl, fun _ _ => rfl⟩) S1 ?_
    simp only [List.set_cons_succ, List.set_cons_zero]
    refine takeHL (i := 5) 10 undef rfl rfl (by kernel_rfl) (by kernel_rfl) (by kernel_rfl) (fun _ _ _ h => h) (.inr ⟨by rfl, rfl⟩) S1 ?_
    simp only [List.set_cons_succ, List.set_cons_zero]
    refine takeHL (i := 6) 11 undef rfl rfl (by kernel_rfl) (by kernel_rfl) (by kernel_rfl) (fun _ _ _ h => h) (.inr ⟨by rfl, rfl⟩) S1 ?_
    simp only [List.set_cons_succ, List.set_cons_zero]
    refine takeHL (i := 7) 12 undef rfl rfl (by kernel_rfl) (by kernel_rfl) (by kernel_rfl) (fun _ _ _ h => h) (.inr ⟨by rfl, rfl⟩) S1 ?_
    simp only [List.set_cons_succ, List.set_cons_zero]
    refine takeHL (i := 8) 13 (.bool false) rfl rfl (by kernel_rfl) (by kernel_rfl) (by kernel_rfl) (fun _ _ _ h => h) (.inl ⟨by rfl, fun w _ => by go_simp⟩) S1 ?_
    simp only [List.set_cons_succ, List.set_cons_zero]
    refine takeHL (i := 9) 14 (.bool false) rfl rfl (by kernel_rfl) (by kernel_rfl) (by kernel_rfl) (fun _ _ _ h => h) (.inl ⟨by rfl, fun _ _ => rfl⟩) S1 ?_
    simp only [List.set_cons_succ, List.set_cons_zero]
    refine takeHL (i := 10) 15 undef rfl rfl (by kernel_rfl) (by kernel_rfl) (by kernel_rfl) (fun _ _ _ h => h) (.inr ⟨by rfl, rfl⟩) S1 ?_
    simp only [List.set_cons_succ, List.set_cons_zero]
    refine takeHL (i := 11) 16 undef rfl rfl (by kernel_rfl) (by kernel_rfl) (by kernel_rfl) (fun _ _ _ h => h) (.inr ⟨by rfl, rfl⟩) S1 ?_
    simp only [List.set_cons_succ, List.set_cons_zero]
    refine takeHL (i := 12) 17 undef rfl rfl (by kernel_rfl) (by kernel_rfl) (by kernel_rfl) (fun _ _ _ h => h) (.inr ⟨by rfl, rfl⟩) S1 ?_
    simp only [List.set_cons_succ, List.set_cons_zero]
    refine takeHL (i := 13) 18 (.bool false) rfl rfl (by kernel_rfl) (by kernel_rfl) (by kernel_rfl) (fun _ _ _ h => h) (.inl ⟨by rfl, fun w _ => by go_simp⟩) S1 ?_
    simp only [List.set_cons_succ, List.set_cons_zero]
    refine takeHL (i := 14) 19 (.bool false) rfl rfl (by kernel_rfl) (by kernel_rfl) (by kernel_rfl) (fun _ _ _ h => h) (.inl ⟨by rfl, fun _ _ => rfl⟩) S1 ?_
    simp only [List.set_cons_succ, List.set_cons_zero]
    refine takeHL (i := 15) 20 undef rfl rfl (by kernel_rfl) (by kernel_rfl) (by kernel_rfl) (fun _ _ _ h => h) (.inr ⟨by rfl, rfl⟩) S1 ?_
    simp only [List.set_cons_succ, List.set_cons_zero]
    refine takeHL (i := 16) 21 undef rfl rfl (by kernel_rfl) (by kernel_rfl) (by kernel_rfl) (fun _ _ _ h => h) (.inr ⟨by rfl, rfl⟩) S1 ?_
    simp only [List.set_cons_succ, List.set_cons_zero]
    refine takeHL (i := 17) 22 undef rfl rfl (by kernel_rfl) (by kernel_rfl) (by kernel_rfl) (fun _ _ _ h => h) (.inr ⟨by rfl, rfl⟩) S1 ?_
    simp only [List.set_cons_succ, List.set_cons_zero]
    refine takeHL (i := 18) 23 (.bool false) rfl rfl (by kernel_rfl) (by kernel_rfl) (by kernel_rfl) (fun _ _ _ h => h) (.inl ⟨by rfl, fun w _ => by go_simp⟩) S1 ?_
    simp only [List.set_cons_succ, List.set_cons_zero]
    refine takeHL (i := 19) 24 (.bool false) rfl rfl (by kernel_rfl) (by kernel_rfl) (by kernel_rfl) (fun _ _ _ h => h) (.inl ⟨by rfl, fun _ _ => rfl⟩) S1 ?_
    simp only [List.set_cons_succ, List.set_cons_zero]
    refine takeHL (i := 20) 25 undef rfl rfl (by kernel_rfl) (by kernel_rfl) (by kernel_rfl) (fun _ _ _ h => h) (.inr ⟨by rfl, rfl⟩) S1 ?_
    simp only [List.set_cons_succ, List.set_cons_zero]
    refine takeHL (i := 21) 26 undef rfl rfl (by kernel_rfl) (by kernel_rfl) (by kernel_rfl) (fun _ _ _ h => h) (.inr ⟨by rfl, rfl⟩) S1 ?_
    simp only [List.set_cons_succ, List.set_cons_zero]
    refine takeHL (i := 22) 27 undef rfl rfl (by kernel_rfl) (by kernel_rfl) (by kernel_rfl) (fun _ _ _ h => h) (.inr ⟨by rfl, rfl⟩) S1 ?_
    simp only [List.set_cons_succ, List.set_cons_zero]
    refine takeHL (i := 23) 28 undef rfl rfl (by kernel_rfl) (by kernel_rfl) (by kernel_rfl) (fun _ _ _ h => h) (.inr ⟨by rfl, rfl⟩) S1 ?_
    simp only [List.set_cons_succ, List.set_cons_zero]
    refine takeHL (i := 24) 29 undef rfl rfl (by kernel_rfl) (by kernel_rfl) (by kernel_rfl) (fun _ _ _ h => h) (.inr ⟨by rfl, rfl⟩) S1 ?_
    simp only [List.set_cons_succ, List.set_cons_zero]
    refine takeHL (i := 25) 30 undef rfl rfl (by kernel_rfl) (by kernel_rfl) (by kernel_rfl) (fun _ _ _ h => h) (.inr ⟨by rfl, rfl⟩) S1 ?_
    simp only [List.set_cons_succ, List.set_cons_zero]
    refine takeHL (i := 26) 31 undef rfl rfl (by kernel_rfl) (by kernel_rfl) (by kernel_rfl) (fun _ _ _ h => h) (.inr ⟨by rfl, rfl⟩) S1 ?_
    simp only [List.set_cons_succ, List.set_cons_zero]
    refine takeHL (i := 27) 32 undef rfl rfl (by kernel_rfl) (by kernel_rfl) (by kernel_rfl) (fun _ _ _ h => h) (.inr ⟨by rfl, rfl⟩) S1 ?_
    simp only [List.set_cons_succ, List.set_cons_zero]
    refine takeHL (i := 28) 33 undef rfl rfl (by kernel_rfl) (by kernel_rfl) (by kernel_rfl) (fun _ _ _ h => h) (.inr ⟨by rfl, rfl⟩) S1 ?_
    simp only [List.set_cons_succ, List.set_cons_zero]
    refine takeHL (i := 29) 34 (.bool false) rfl rfl (by kernel_rfl) (by kernel_rfl) (by kernel_rfl) (fun _ _ _ h => h) (.inl ⟨by rfl, fun w _ => by go_simp⟩) S1 ?_
    simp only [List.set_cons_succ, List.set_cons_zero]
    refine takeHL (i := 30) 4 (.bool false) rfl rfl (by kernel_rfl) (by kernel_rfl) (by kernel_rfl) (fun _ _ _ h => h) (.inl ⟨by rfl, fun _ _ => rfl⟩) S1 ?_
    simp only [List.set_cons_succ, List.set_cons_zero]
    refine wpAnyH_done (by kernel_rfl) ?_ _
    go_wp2_with fail
    go_ret
    exact ⟨by rw [E.out]; rfl, by first | exact bthru hba K1 | (rw [← hnb]; exact bthru hba K1)⟩
  | true =>
    by_cases hd : 0 ≤ a ∧ a ≤ 200 ∧ 1 ≤ n
    case pos =>
      obtain ⟨h0, h1, h2⟩ := hd
      have E : Hid (jobOfB l ⟨q, a, n⟩ = decide (n ≤ (tkAt l q.toNat).high)) := by simp [Hid, jobOfB, hp, h0, h1, h2]
      obtain ⟨_, hl5, hk, hq⟩ := plc_yes hp
      have HP := Lib.hid hp
      clear hp
      generalize q.toNat = k at hk hq E
      subst hq
      obtain ⟨b, off, rfl, hbl, hc⟩ := h (by omega)
      obtain ⟨_, k1, _⟩ := cells_tk hc k hk
      clear hc
      go_enter Tryz.func54, Tryz.ntmps54
      go_upto_region 1 with fail
      have hT := heap_alloc_new w (.cells #[.int .i64 (k : Int), .int .i64 a, .int .i64 n] 60 (0, 0))
      have hba := bal (Below.refl w.heap.size w) (.cells #[.int .i64 (k : Int), .int .i64 a, .int .i64 n] 60 (0, 0))
      generalize World.alloc w _ = wa at hT hba ⊢
      obtain ⟨nb, hnb⟩ : ∃ nb, w.heap.size = nb := ⟨_, rfl⟩
      have hbaw := hba
      rw [hnb] at hT ⊢
      have hlT := (Array.getElem?_eq_some_iff.1 hT).1
      have hSof : ∀ {w' : World}, Below wa.heap.size wa w' → w'.cell? ⟨nb, 0, none⟩ = some (.int .i64 (k : Int)) ∧ w'.cell? ⟨nb, 1, none⟩ = some (.int .i64 a) ∧ w'.cell? ⟨nb, 2, none⟩ = some (.int .i64 n) ∧ w'.cell? ⟨b, off + k * 5 + 1, none⟩ = some (.int .i64 (tkAt l k).high) := by
        intro w' hw
        obtain ⟨h0, h1, h2⟩ := blk3 ((hw.block nb hlT).trans hT)
        exact ⟨h0, h1, h2, (hw.cell (p := ⟨b, off + k * 5 + 1, none⟩) (Nat.lt_of_lt_of_le hbl hba.size)).trans ((hba.cell (p := ⟨b, off + k * 5 + 1, none⟩) hbl).trans k1)⟩
      refine wp_region_held (S := fun w' => w'.cell? ⟨nb, 0, none⟩ = some (.int .i64 (k : Int)) ∧ w'.cell? ⟨nb, 1, none⟩ = some (.int .i64 a) ∧ w'.cell? ⟨nb, 2, none⟩ = some (.int .i64 n) ∧ w'.cell? ⟨b, off + k * 5 + 1, none⟩ = some (.int .i64 (tkAt l k).high)) (by kernel_rfl) ?_
      change wpAnyH _ _ _ _ _ _ _ _ (World.drew _)
      have Kz : Below wa.heap.size wa (World.drew wa) := Below.drew (Below.refl _ _)
      have hS0 := hSof Kz
      refine takeHL (i := 0) 5 (.slice (some ⟨b, off, none⟩) (l.length) c) rfl rfl (by kernel_rfl) (by kernel_rfl) (by kernel_rfl) (fun _ _ _ h => h) (.inl ⟨by rfl, fun _ _ => rfl⟩) hS0 ?_
      simp only [List.set_cons_succ, List.set_cons_zero]
      refine takeHL (i := 1) 6 (.pointer (some ⟨nb, 0, none⟩)) rfl rfl (by kernel_rfl) (by kernel_rfl) (by kernel_rfl) (fun _ _ _ h => h) (.inl ⟨by rfl, fun w _ => by go_simp⟩) hS0 ?_
      simp only [List.set_cons_succ, List.set_cons_zero]
      refine takeHL (i := 2) 7 (.int .i64 ((k : Int))) rfl rfl (by kernel_rfl) (by kernel_rfl) (by kernel_rfl) (fun _ _ _ h => h) (.inl ⟨by rfl, fun w hS => by obtain ⟨h0, h1, h2, h3⟩ := hS; go_simp⟩) hS0 ?_
      simp only [List.set_cons_succ, List.set_cons_zero]
      refine callHL 3 8 rfl rfl (by kernel_rfl) (by rfl) 100 Tryz.func100 (by kernel_rfl) rfl _ _ rfl #[.slice (some ⟨b, off, none⟩) (l.length) c, .int .i64 (k : Int)] ?hv (impl_placed _ l c (k : Int) _ (h.keep (bthru hba Kz))) ?_
      case hv => simp [Act.eval]
      rw [HP.out]
      rintro e v1 ⟨rfl, k1⟩
      have K1 : Below wa.heap.size wa v1 := bthru Kz k1
      have S1 := hSof K1
      refine ⟨_, rfl, S1, ?_⟩
      simp only [List.set_cons_succ, List.set_cons_zero]
      refine takeHL (i := 4) 9 (.bool true) rfl rfl (by kernel_rfl) (by kernel_rfl) (by kernel_rfl) (fun _ _ _ h => h) (.inl ⟨by rfl, fun _ _ => rfl⟩) S1 ?_
      simp only [List.set_cons_succ, List.set_cons_zero]
      refine takeHL (i := 5) 10 (.pointer (some ⟨nb, 1, none⟩)) rfl rfl (by kernel_rfl) (by kernel_rfl) (by kernel_rfl) (fun _ _ _ h => h) (.inl ⟨by rfl, fun w _ => by go_simp⟩) S1 ?_
      simp only [List.set_cons_succ, List.set_cons_zero]
      refine takeHL (i := 6) 11 (.int .i64 (a)) rfl rfl (by kernel_rfl) (by kernel_rfl) (by kernel_rfl) (fun _ _ _ h => h) (.inl ⟨by rfl, fun w hS => by obtain ⟨h0, h1, h2, h3⟩ := hS; go_simp⟩) S1 ?_
      simp only [List.set_cons_succ, List.set_cons_zero]
      refine takeHL (i := 7) 12 (.bool true) rfl rfl (by kernel_rfl) (by kernel_rfl) (by kernel_rfl) (fun _ _ _ h => h) (.inl ⟨by rfl, fun w _ => by go_simp <;> (first | omega)⟩) S1 ?_
      simp only [List.set_cons_succ, List.set_cons_zero]
      refine takeHL (i := 8) 13 (.bool true) rfl rfl (by kernel_rfl) (by kernel_rfl) (by kernel_rfl) (fun _ _ _ h => h) (.inl ⟨by rfl, fun w _ => by go_simp⟩) S1 ?_
      simp only [List.set_cons_succ, List.set_cons_zero]
      refine takeHL (i := 9) 14 (.bool true) rfl rfl (by kernel_rfl) (by kernel_rfl) (by kernel_rfl) (fun _ _ _ h => h) (.inl ⟨by rfl, fun _ _ => rfl⟩) S1 ?_
      simp only [List.set_cons_succ, List.set_cons_zero]
      refine takeHL (i := 10) 15 (.pointer (some ⟨nb, 1, none⟩)) rfl rfl (by kernel_rfl) (by kernel_rfl) (by kernel_rfl) (fun _ _ _ h => h) (.inl ⟨by rfl, fun w _ => by go_simp⟩) S1 ?_
      simp only [List.set_cons_succ, List.set_cons_zero]
      refine takeHL (i := 11) 16 (.int .i64 (a)) rfl rfl (by kernel_rfl) (by kernel_rfl) (by kernel_rfl) (fun _ _ _ h => h) (.inl ⟨by rfl, fun w hS => by obtain ⟨h0, h1, h2, h3⟩ := hS; go_simp⟩) S1 ?_
      simp only [List.set_cons_succ, List.set_cons_zero]
      refine takeHL (i := 12) 17 (.bool true) rfl rfl (by kernel_rfl) (by kernel_rfl) (by kernel_rfl) (fun _ _ _ h => h) (.inl ⟨by rfl, fun w _ => by go_simp <;> (first | omega)⟩) S1 ?_
      simp only [List.set_cons_succ, List.set_cons_zero]
      refine takeHL (i := 13) 18 (.bool true) rfl rfl (by kernel_rfl) (by kernel_rfl) (by kernel_rfl) (fun _ _ _ h => h) (.inl ⟨by rfl, fun w _ => by go_simp⟩) S1 ?_
      simp only [List.set_cons_succ, List.set_cons_zero]
      refine takeHL (i := 14) 19 (.bool true) rfl rfl (by kernel_rfl) (by kernel_rfl) (by kernel_rfl) (fun _ _ _ h => h) (.inl ⟨by rfl, fun _ _ => rfl⟩) S1 ?_
      simp only [List.set_cons_succ, List.set_cons_zero]
      refine takeHL (i := 15) 20 (.pointer (some ⟨nb, 2, none⟩)) rfl rfl (by kernel_rfl) (by kernel_rfl) (by kernel_rfl) (fun _ _ _ h => h) (.inl ⟨by rfl, fun w _ => by go_simp⟩) S1 ?_
      simp only [List.set_cons_succ, List.set_cons_zero]
      refine takeHL (i := 16) 21 (.int .i64 (n)) rfl rfl (by kernel_rfl) (by kernel_rfl) (by kernel_rfl) (fun _ _ _ h => h) (.inl ⟨by rfl, fun w hS => by obtain ⟨h0, h1, h2, h3⟩ := hS; go_simp⟩) S1 ?_
      simp only [List.set_cons_succ, List.set_cons_zero]
      refine takeHL (i := 17) 22 (.bool true) rfl rfl (by kernel_rfl) (by kernel_rfl) (by kernel_rfl) (fun _ _ _ h => h) (.inl ⟨by rfl, fun w _ => by go_simp <;> (first | omega)⟩) S1 ?_
      simp only [List.set_cons_succ, List.set_cons_zero]
      refine takeHL (i := 18) 23 (.bool true) rfl rfl (by kernel_rfl) (by kernel_rfl) (by kernel_rfl) (fun _ _ _ h => h) (.inl ⟨by rfl, fun w _ => by go_simp⟩) S1 ?_
      simp only [List.set_cons_succ, List.set_cons_zero]
      refine takeHL (i := 19) 24 (.bool true) rfl rfl (by kernel_rfl) (by kernel_rfl) (by kernel_rfl) (fun _ _ _ h => h) (.inl ⟨by rfl, fun _ _ => rfl⟩) S1 ?_
      simp only [List.set_cons_succ, List.set_cons_zero]
      refine takeHL (i := 20) 25 (.pointer (some ⟨nb, 2, none⟩)) rfl rfl (by kernel_rfl) (by kernel_rfl) (by kernel_rfl) (fun _ _ _ h => h) (.inl ⟨by rfl, fun w _ => by go_simp⟩) S1 ?_
      simp only [List.set_cons_succ, List.set_cons_zero]
      refine takeHL (i := 21) 26 (.int .i64 (n)) rfl rfl (by kernel_rfl) (by kernel_rfl) (by kernel_rfl) (fun _ _ _ h => h) (.inl ⟨by rfl, fun w hS => by obtain ⟨h0, h1, h2, h3⟩ := hS; go_simp⟩) S1 ?_
      simp only [List.set_cons_succ, List.set_cons_zero]
      refine takeHL (i := 22) 27 (.slice (some ⟨b, off, none⟩) (l.length) c) rfl rfl (by kernel_rfl) (by kernel_rfl) (by kernel_rfl) (fun _ _ _ h => h) (.inl ⟨by rfl, fun _ _ => rfl⟩) S1 ?_
      simp only [List.set_cons_succ, List.set_cons_zero]
      refine takeHL (i := 23) 28 (.pointer (some ⟨nb, 0, none⟩)) rfl rfl (by kernel_rfl) (by kernel_rfl) (by kernel_rfl) (fun _ _ _ h => h) (.inl ⟨by rfl, fun w _ => by go_simp⟩) S1 ?_
      simp only [List.set_cons_succ, List.set_cons_zero]
      refine takeHL (i := 24) 29 (.int .i64 ((k : Int))) rfl rfl (by kernel_rfl) (by kernel_rfl) (by kernel_rfl) (fun _ _ _ h => h) (.inl ⟨by rfl, fun w hS => by obtain ⟨h0, h1, h2, h3⟩ := hS; go_simp⟩) S1 ?_
      simp only [List.set_cons_succ, List.set_cons_zero]
      refine takeHL (i := 25) 30 (.pointer (some ⟨b, off + k * 5, none⟩)) rfl rfl (by kernel_rfl) (by kernel_rfl) (by kernel_rfl) (fun _ _ _ h => h) (.inl ⟨by rfl, fun w _ => by go_simp <;> (first | omega | (simp; omega))⟩) S1 ?_
      simp only [List.set_cons_succ, List.set_cons_zero]
      refine takeHL (i := 26) 31 (.pointer (some ⟨b, off + k * 5 + 1, none⟩)) rfl rfl (by kernel_rfl) (by kernel_rfl) (by kernel_rfl) (fun _ _ _ h => h) (.inl ⟨by rfl, fun w _ => by go_simp⟩) S1 ?_
      simp only [List.set_cons_succ, List.set_cons_zero]
      refine takeHL (i := 27) 32 (.int .i64 ((tkAt l k).high)) rfl rfl (by kernel_rfl) (by kernel_rfl) (by kernel_rfl) (fun _ _ _ h => h) (.inl ⟨by rfl, fun w hS => by obtain ⟨h0, h1, h2, h3⟩ := hS; go_simp⟩) S1 ?_
      simp only [List.set_cons_succ, List.set_cons_zero]
      refine takeHL (i := 28) 33 (.bool (decide (n ≤ (tkAt l k).high))) rfl rfl (by kernel_rfl) (by kernel_rfl) (by kernel_rfl) (fun _ _ _ h => h) (.inl ⟨by rfl, fun w _ => by go_simp⟩) S1 ?_
      simp only [List.set_cons_succ, List.set_cons_zero]
      refine takeHL (i := 29) 34 (.bool (decide (n ≤ (tkAt l k).high))) rfl rfl (by kernel_rfl) (by kernel_rfl) (by kernel_rfl) (fun _ _ _ h => h) (.inl ⟨by rfl, fun w _ => by go_simp⟩) S1 ?_
      simp only [List.set_cons_succ, List.set_cons_zero]
      refine takeHL (i := 30) 4 (.bool (decide (n ≤ (tkAt l k).high))) rfl rfl (by kernel_rfl) (by kernel_rfl) (by kernel_rfl) (fun _ _ _ h => h) (.inl ⟨by rfl, fun _ _ => rfl⟩) S1 ?_
      simp only [List.set_cons_succ, List.set_cons_zero]
      refine wpAnyH_done (by kernel_rfl) ?_ _
      go_wp2_with fail
      go_ret
      exact ⟨by rw [E.out]; rfl, by first | exact bthru hba K1 | (rw [← hnb]; exact bthru hba K1)⟩
    case neg =>
      have E : Hid (jobOfB l ⟨q, a, n⟩ = false) := by
        rw [Hid, Bool.eq_false_iff]
        intro hb
        simp only [jobOfB, Bool.and_eq_true, decide_eq_true_eq] at hb
        exact hd ⟨hb.1.1.1.2, hb.1.1.2, hb.1.2⟩
      have HP := Lib.hid hp
      clear hp
      by_cases h0 : 0 ≤ a
      · by_cases h1 : a ≤ 200
        · have h2 : ¬ 1 ≤ n := fun h2 => hd ⟨h0, h1, h2⟩
          clear hd
          go_enter Tryz.func54, Tryz.ntmps54
          go_upto_region 1 with fail
          have hT := heap_alloc_new w (.cells #[.int .i64 q, .int .i64 a, .int .i64 n] 60 (0, 0))
          have hba := bal (Below.refl w.heap.size w) (.cells #[.int .i64 q, .int .i64 a, .int .i64 n] 60 (0, 0))
          generalize World.alloc w _ = wa at hT hba ⊢
          obtain ⟨nb, hnb⟩ : ∃ nb, w.heap.size = nb := ⟨_, rfl⟩
          have hbaw := hba
          rw [hnb] at hT ⊢
          have hlT := (Array.getElem?_eq_some_iff.1 hT).1
          have hSof : ∀ {w' : World}, Below wa.heap.size wa w' → w'.cell? ⟨nb, 0, none⟩ = some (.int .i64 q) ∧ w'.cell? ⟨nb, 1, none⟩ = some (.int .i64 a) ∧ w'.cell? ⟨nb, 2, none⟩ = some (.int .i64 n) := by
            intro w' hw
            obtain ⟨h0, h1, h2⟩ := blk3 ((hw.block nb hlT).trans hT)
            exact ⟨h0, h1, h2⟩
          refine wp_region_held (S := fun w' => w'.cell? ⟨nb, 0, none⟩ = some (.int .i64 q) ∧ w'.cell? ⟨nb, 1, none⟩ = some (.int .i64 a) ∧ w'.cell? ⟨nb, 2, none⟩ = some (.int .i64 n)) (by kernel_rfl) ?_
          change wpAnyH _ _ _ _ _ _ _ _ (World.drew _)
          have Kz : Below wa.heap.size wa (World.drew wa) := Below.drew (Below.refl _ _)
          have hS0 := hSof Kz
          refine takeHL (i := 0) 5 (.slice A l.length c) rfl rfl (by kernel_rfl) (by kernel_rfl) (by kernel_rfl) (fun _ _ _ h => h) (.inl ⟨by rfl, fun _ _ => rfl⟩) hS0 ?_
          simp only [List.set_cons_succ, List.set_cons_zero]
          refine takeHL (i := 1) 6 (.pointer (some ⟨nb, 0, none⟩)) rfl rfl (by kernel_rfl) (by kernel_rfl) (by kernel_rfl) (fun _ _ _ h => h) (.inl ⟨by rfl, fun w _ => by go_simp⟩) hS0 ?_
          simp only [List.set_cons_succ, List.set_cons_zero]
          refine takeHL (i := 2) 7 (.int .i64 (q)) rfl rfl (by kernel_rfl) (by kernel_rfl) (by kernel_rfl) (fun _ _ _ h => h) (.inl ⟨by rfl, fun w hS => by obtain ⟨h0, h1, h2⟩ := hS; go_simp⟩) hS0 ?_
          simp only [List.set_cons_succ, List.set_cons_zero]
          refine callHL 3 8 rfl rfl (by kernel_rfl) (by rfl) 100 Tryz.func100 (by kernel_rfl) rfl _ _ rfl #[.slice A l.length c, .int .i64 q] ?hv (impl_placed _ l c q _ (h.keep (bthru hba Kz))) ?_
          case hv => simp [Act.eval]
          rw [HP.out]
          rintro e v1 ⟨rfl, k1⟩
          have K1 : Below wa.heap.size wa v1 := bthru Kz k1
          have S1 := hSof K1
          refine ⟨_, rfl, S1, ?_⟩
          simp only [List.set_cons_succ, List.set_cons_zero]
          refine takeHL (i := 4) 9 (.bool true) rfl rfl (by kernel_rfl) (by kernel_rfl) (by kernel_rfl) (fun _ _ _ h => h) (.inl ⟨by rfl, fun _ _ => rfl⟩) S1 ?_
          simp only [List.set_cons_succ, List.set_cons_zero]
          refine takeHL (i := 5) 10 (.pointer (some ⟨nb, 1, none⟩)) rfl rfl (by kernel_rfl) (by kernel_rfl) (by kernel_rfl) (fun _ _ _ h => h) (.inl ⟨by rfl, fun w _ => by go_simp⟩) S1 ?_
          simp only [List.set_cons_succ, List.set_cons_zero]
          refine takeHL (i := 6) 11 (.int .i64 (a)) rfl rfl (by kernel_rfl) (by kernel_rfl) (by kernel_rfl) (fun _ _ _ h => h) (.inl ⟨by rfl, fun w hS => by obtain ⟨h0, h1, h2⟩ := hS; go_simp⟩) S1 ?_
          simp only [List.set_cons_succ, List.set_cons_zero]
          refine takeHL (i := 7) 12 (.bool true) rfl rfl (by kernel_rfl) (by kernel_rfl) (by kernel_rfl) (fun _ _ _ h => h) (.inl ⟨by rfl, fun w _ => by go_simp <;> (first | omega)⟩) S1 ?_
          simp only [List.set_cons_succ, List.set_cons_zero]
          refine takeHL (i := 8) 13 (.bool true) rfl rfl (by kernel_rfl) (by kernel_rfl) (by kernel_rfl) (fun _ _ _ h => h) (.inl ⟨by rfl, fun w _ => by go_simp⟩) S1 ?_
          simp only [List.set_cons_succ, List.set_cons_zero]
          refine takeHL (i := 9) 14 (.bool true) rfl rfl (by kernel_rfl) (by kernel_rfl) (by kernel_rfl) (fun _ _ _ h => h) (.inl ⟨by rfl, fun _ _ => rfl⟩) S1 ?_
          simp only [List.set_cons_succ, List.set_cons_zero]
          refine takeHL (i := 10) 15 (.pointer (some ⟨nb, 1, none⟩)) rfl rfl (by kernel_rfl) (by kernel_rfl) (by kernel_rfl) (fun _ _ _ h => h) (.inl ⟨by rfl, fun w _ => by go_simp⟩) S1 ?_
          simp only [List.set_cons_succ, List.set_cons_zero]
          refine takeHL (i := 11) 16 (.int .i64 (a)) rfl rfl (by kernel_rfl) (by kernel_rfl) (by kernel_rfl) (fun _ _ _ h => h) (.inl ⟨by rfl, fun w hS => by obtain ⟨h0, h1, h2⟩ := hS; go_simp⟩) S1 ?_
          simp only [List.set_cons_succ, List.set_cons_zero]
          refine takeHL (i := 12) 17 (.bool true) rfl rfl (by kernel_rfl) (by kernel_rfl) (by kernel_rfl) (fun _ _ _ h => h) (.inl ⟨by rfl, fun w _ => by go_simp <;> (first | omega)⟩) S1 ?_
          simp only [List.set_cons_succ, List.set_cons_zero]
          refine takeHL (i := 13) 18 (.bool true) rfl rfl (by kernel_rfl) (by kernel_rfl) (by kernel_rfl) (fun _ _ _ h => h) (.inl ⟨by rfl, fun w _ => by go_simp⟩) S1 ?_
          simp only [List.set_cons_succ, List.set_cons_zero]
          refine takeHL (i := 14) 19 (.bool true) rfl rfl (by kernel_rfl) (by kernel_rfl) (by kernel_rfl) (fun _ _ _ h => h) (.inl ⟨by rfl, fun _ _ => rfl⟩) S1 ?_
          simp only [List.set_cons_succ, List.set_cons_zero]
          refine takeHL (i := 15) 20 (.pointer (some ⟨nb, 2, none⟩)) rfl rfl (by kernel_rfl) (by kernel_rfl) (by kernel_rfl) (fun _ _ _ h => h) (.inl ⟨by rfl, fun w _ => by go_simp⟩) S1 ?_
          simp only [List.set_cons_succ, List.set_cons_zero]
          refine takeHL (i := 16) 21 (.int .i64 (n)) rfl rfl (by kernel_rfl) (by kernel_rfl) (by kernel_rfl) (fun _ _ _ h => h) (.inl ⟨by rfl, fun w hS => by obtain ⟨h0, h1, h2⟩ := hS; go_simp⟩) S1 ?_
          simp only [List.set_cons_succ, List.set_cons_zero]
          refine takeHL (i := 17) 22 (.bool false) rfl rfl (by kernel_rfl) (by kernel_rfl) (by kernel_rfl) (fun _ _ _ h => h) (.inl ⟨by rfl, fun w _ => by go_simp <;> (first | omega)⟩) S1 ?_
          simp only [List.set_cons_succ, List.set_cons_zero]
          refine takeHL (i := 18) 23 (.bool false) rfl rfl (by kernel_rfl) (by kernel_rfl) (by kernel_rfl) (fun _ _ _ h => h) (.inl ⟨by rfl, fun w _ => by go_simp⟩) S1 ?_
          simp only [List.set_cons_succ, List.set_cons_zero]
          refine takeHL (i := 19) 24 (.bool false) rfl rfl (by kernel_rfl) (by kernel_rfl) (by kernel_rfl) (fun _ _ _ h => h) (.inl ⟨by rfl, fun _ _ => rfl⟩) S1 ?_
          simp only [List.set_cons_succ, List.set_cons_zero]
          refine takeHL (i := 20) 25 undef rfl rfl (by kernel_rfl) (by kernel_rfl) (by kernel_rfl) (fun _ _ _ h => h) (.inr ⟨by rfl, rfl⟩) S1 ?_
          simp only [List.set_cons_succ, List.set_cons_zero]
          refine takeHL (i := 21) 26 undef rfl rfl (by kernel_rfl) (by kernel_rfl) (by kernel_rfl) (fun _ _ _ h => h) (.inr ⟨by rfl, rfl⟩) S1 ?_
          simp only [List.set_cons_succ, List.set_cons_zero]
          refine takeHL (i := 22) 27 undef rfl rfl (by kernel_rfl) (by kernel_rfl) (by kernel_rfl) (fun _ _ _ h => h) (.inr ⟨by rfl, rfl⟩) S1 ?_
          simp only [List.set_cons_succ, List.set_cons_zero]
          refine takeHL (i := 23) 28 undef rfl rfl (by kernel_rfl) (by kernel_rfl) (by kernel_rfl) (fun _ _ _ h => h) (.inr ⟨by rfl, rfl⟩) S1 ?_
          simp only [List.set_cons_succ, List.set_cons_zero]
          refine takeHL (i := 24) 29 undef rfl rfl (by kernel_rfl) (by kernel_rfl) (by kernel_rfl) (fun _ _ _ h => h) (.inr ⟨by rfl, rfl⟩) S1 ?_
          simp only [List.set_cons_succ, List.set_cons_zero]
          refine takeHL (i := 25) 30 undef rfl rfl (by kernel_rfl) (by kernel_rfl) (by kernel_rfl) (fun _ _ _ h => h) (.inr ⟨by rfl, rfl⟩) S1 ?_
          simp only [List.set_cons_succ, List.set_cons_zero]
          refine takeHL (i := 26) 31 undef rfl rfl (by kernel_rfl) (by kernel_rfl) (by kernel_rfl) (fun _ _ _ h => h) (.inr ⟨by rfl, rfl⟩) S1 ?_
          simp only [List.set_cons_succ, List.set_cons_zero]
          refine takeHL (i := 27) 32 undef rfl rfl (by kernel_rfl) (by kernel_rfl) (by kernel_rfl) (fun _ _ _ h => h) (.inr ⟨by rfl, rfl⟩) S1 ?_
          simp only [List.set_cons_succ, List.set_cons_zero]
          refine takeHL (i := 28) 33 undef rfl rfl (by kernel_rfl) (by kernel_rfl) (by kernel_rfl) (fun _ _ _ h => h) (.inr ⟨by rfl, rfl⟩) S1 ?_
          simp only [List.set_cons_succ, List.set_cons_zero]
          refine takeHL (i := 29) 34 (.bool false) rfl rfl (by kernel_rfl) (by kernel_rfl) (by kernel_rfl) (fun _ _ _ h => h) (.inl ⟨by rfl, fun w _ => by go_simp⟩) S1 ?_
          simp only [List.set_cons_succ, List.set_cons_zero]
          refine takeHL (i := 30) 4 (.bool false) rfl rfl (by kernel_rfl) (by kernel_rfl) (by kernel_rfl) (fun _ _ _ h => h) (.inl ⟨by rfl, fun _ _ => rfl⟩) S1 ?_
          simp only [List.set_cons_succ, List.set_cons_zero]
          refine wpAnyH_done (by kernel_rfl) ?_ _
          go_wp2_with fail
          go_ret
          exact ⟨by rw [E.out]; rfl, by first | exact bthru hba K1 | (rw [← hnb]; exact bthru hba K1)⟩
        · clear hd
          go_enter Tryz.func54, Tryz.ntmps54
          go_upto_region 1 with fail
          have hT := heap_alloc_new w (.cells #[.int .i64 q, .int .i64 a, .int .i64 n] 60 (0, 0))
          have hba := bal (Below.refl w.heap.size w) (.cells #[.int .i64 q, .int .i64 a, .int .i64 n] 60 (0, 0))
          generalize World.alloc w _ = wa at hT hba ⊢
          obtain ⟨nb, hnb⟩ : ∃ nb, w.heap.size = nb := ⟨_, rfl⟩
          have hbaw := hba
          rw [hnb] at hT ⊢
          have hlT := (Array.getElem?_eq_some_iff.1 hT).1
          have hSof : ∀ {w' : World}, Below wa.heap.size wa w' → w'.cell? ⟨nb, 0, none⟩ = some (.int .i64 q) ∧ w'.cell? ⟨nb, 1, none⟩ = some (.int .i64 a) ∧ w'.cell? ⟨nb, 2, none⟩ = some (.int .i64 n) := by
            intro w' hw
            obtain ⟨h0, h1, h2⟩ := blk3 ((hw.block nb hlT).trans hT)
            exact ⟨h0, h1, h2⟩
          refine wp_region_held (S := fun w' => w'.cell? ⟨nb, 0, none⟩ = some (.int .i64 q) ∧ w'.cell? ⟨nb, 1, none⟩ = some (.int .i64 a) ∧ w'.cell? ⟨nb, 2, none⟩ = some (.int .i64 n)) (by kernel_rfl) ?_
          change wpAnyH _ _ _ _ _ _ _ _ (World.drew _)
          have Kz : Below wa.heap.size wa (World.drew wa) := Below.drew (Below.refl _ _)
          have hS0 := hSof Kz
          refine takeHL (i := 0) 5 (.slice A l.length c) rfl rfl (by kernel_rfl) (by kernel_rfl) (by kernel_rfl) (fun _ _ _ h => h) (.inl ⟨by rfl, fun _ _ => rfl⟩) hS0 ?_
          simp only [List.set_cons_succ, List.set_cons_zero]
          refine takeHL (i := 1) 6 (.pointer (some ⟨nb, 0, none⟩)) rfl rfl (by kernel_rfl) (by kernel_rfl) (by kernel_rfl) (fun _ _ _ h => h) (.inl ⟨by rfl, fun w _ => by go_simp⟩) hS0 ?_
          simp only [List.set_cons_succ, List.set_cons_zero]
          refine takeHL (i := 2) 7 (.int .i64 (q)) rfl rfl (by kernel_rfl) (by kernel_rfl) (by kernel_rfl) (fun _ _ _ h => h) (.inl ⟨by rfl, fun w hS => by obtain ⟨h0, h1, h2⟩ := hS; go_simp⟩) hS0 ?_
          simp only [List.set_cons_succ, List.set_cons_zero]
          refine callHL 3 8 rfl rfl (by kernel_rfl) (by rfl) 100 Tryz.func100 (by kernel_rfl) rfl _ _ rfl #[.slice A l.length c, .int .i64 q] ?hv (impl_placed _ l c q _ (h.keep (bthru hba Kz))) ?_
          case hv => simp [Act.eval]
          rw [HP.out]
          rintro e v1 ⟨rfl, k1⟩
          have K1 : Below wa.heap.size wa v1 := bthru Kz k1
          have S1 := hSof K1
          refine ⟨_, rfl, S1, ?_⟩
          simp only [List.set_cons_succ, List.set_cons_zero]
          refine takeHL (i := 4) 9 (.bool true) rfl rfl (by kernel_rfl) (by kernel_rfl) (by kernel_rfl) (fun _ _ _ h => h) (.inl ⟨by rfl, fun _ _ => rfl⟩) S1 ?_
          simp only [List.set_cons_succ, List.set_cons_zero]
          refine takeHL (i := 5) 10 (.pointer (some ⟨nb, 1, none⟩)) rfl rfl (by kernel_rfl) (by kernel_rfl) (by kernel_rfl) (fun _ _ _ h => h) (.inl ⟨by rfl, fun w _ => by go_simp⟩) S1 ?_
          simp only [List.set_cons_succ, List.set_cons_zero]
          refine takeHL (i := 6) 11 (.int .i64 (a)) rfl rfl (by kernel_rfl) (by kernel_rfl) (by kernel_rfl) (fun _ _ _ h => h) (.inl ⟨by rfl, fun w hS => by obtain ⟨h0, h1, h2⟩ := hS; go_simp⟩) S1 ?_
          simp only [List.set_cons_succ, List.set_cons_zero]
          refine takeHL (i := 7) 12 (.bool true) rfl rfl (by kernel_rfl) (by kernel_rfl) (by kernel_rfl) (fun _ _ _ h => h) (.inl ⟨by rfl, fun w _ => by go_simp <;> (first | omega)⟩) S1 ?_
          simp only [List.set_cons_succ, List.set_cons_zero]
          refine takeHL (i := 8) 13 (.bool true) rfl rfl (by kernel_rfl) (by kernel_rfl) (by kernel_rfl) (fun _ _ _ h => h) (.inl ⟨by rfl, fun w _ => by go_simp⟩) S1 ?_
          simp only [List.set_cons_succ, List.set_cons_zero]
          refine takeHL (i := 9) 14 (.bool true) rfl rfl (by kernel_rfl) (by kernel_rfl) (by kernel_rfl) (fun _ _ _ h => h) (.inl ⟨by rfl, fun _ _ => rfl⟩) S1 ?_
          simp only [List.set_cons_succ, List.set_cons_zero]
          refine takeHL (i := 10) 15 (.pointer (some ⟨nb, 1, none⟩)) rfl rfl (by kernel_rfl) (by kernel_rfl) (by kernel_rfl) (fun _ _ _ h => h) (.inl ⟨by rfl, fun w _ => by go_simp⟩) S1 ?_
          simp only [List.set_cons_succ, List.set_cons_zero]
          refine takeHL (i := 11) 16 (.int .i64 (a)) rfl rfl (by kernel_rfl) (by kernel_rfl) (by kernel_rfl) (fun _ _ _ h => h) (.inl ⟨by rfl, fun w hS => by obtain ⟨h0, h1, h2⟩ := hS; go_simp⟩) S1 ?_
          simp only [List.set_cons_succ, List.set_cons_zero]
          refine takeHL (i := 12) 17 (.bool false) rfl rfl (by kernel_rfl) (by kernel_rfl) (by kernel_rfl) (fun _ _ _ h => h) (.inl ⟨by rfl, fun w _ => by go_simp <;> (first | omega)⟩) S1 ?_
          simp only [List.set_cons_succ, List.set_cons_zero]
          refine takeHL (i := 13) 18 (.bool false) rfl rfl (by kernel_rfl) (by kernel_rfl) (by kernel_rfl) (fun _ _ _ h => h) (.inl ⟨by rfl, fun w _ => by go_simp⟩) S1 ?_
          simp only [List.set_cons_succ, List.set_cons_zero]
          refine takeHL (i := 14) 19 (.bool false) rfl rfl (by kernel_rfl) (by kernel_rfl) (by kernel_rfl) (fun _ _ _ h => h) (.inl ⟨by rfl, fun _ _ => rfl⟩) S1 ?_
          simp only [List.set_cons_succ, List.set_cons_zero]
          refine takeHL (i := 15) 20 undef rfl rfl (by kernel_rfl) (by kernel_rfl) (by kernel_rfl) (fun _ _ _ h => h) (.inr ⟨by rfl, rfl⟩) S1 ?_
          simp only [List.set_cons_succ, List.set_cons_zero]
          refine takeHL (i := 16) 21 undef rfl rfl (by kernel_rfl) (by kernel_rfl) (by kernel_rfl) (fun _ _ _ h => h) (.inr ⟨by rfl, rfl⟩) S1 ?_
          simp only [List.set_cons_succ, List.set_cons_zero]
          refine takeHL (i := 17) 22 undef rfl rfl (by kernel_rfl) (by kernel_rfl) (by kernel_rfl) (fun _ _ _ h => h) (.inr ⟨by rfl, rfl⟩) S1 ?_
          simp only [List.set_cons_succ, List.set_cons_zero]
          refine takeHL (i := 18) 23 (.bool false) rfl rfl (by kernel_rfl) (by kernel_rfl) (by kernel_rfl) (fun _ _ _ h => h) (.inl ⟨by rfl, fun w _ => by go_simp⟩) S1 ?_
          simp only [List.set_cons_succ, List.set_cons_zero]
          refine takeHL (i := 19) 24 (.bool false) rfl rfl (by kernel_rfl) (by kernel_rfl) (by kernel_rfl) (fun _ _ _ h => h) (.inl ⟨by rfl, fun _ _ => rfl⟩) S1 ?_
          simp only [List.set_cons_succ, List.set_cons_zero]
          refine takeHL (i := 20) 25 undef rfl rfl (by kernel_rfl) (by kernel_rfl) (by kernel_rfl) (fun _ _ _ h => h) (.inr ⟨by rfl, rfl⟩) S1 ?_
          simp only [List.set_cons_succ, List.set_cons_zero]
          refine takeHL (i := 21) 26 undef rfl rfl (by kernel_rfl) (by kernel_rfl) (by kernel_rfl) (fun _ _ _ h => h) (.inr ⟨by rfl, rfl⟩) S1 ?_
          simp only [List.set_cons_succ, List.set_cons_zero]
          refine takeHL (i := 22) 27 undef rfl rfl (by kernel_rfl) (by kernel_rfl) (by kernel_rfl) (fun _ _ _ h => h) (.inr ⟨by rfl, rfl⟩) S1 ?_
          simp only [List.set_cons_succ, List.set_cons_zero]
          refine takeHL (i := 23) 28 undef rfl rfl (by kernel_rfl) (by kernel_rfl) (by kernel_rfl) (fun _ _ _ h => h) (.inr ⟨by rfl, rfl⟩) S1 ?_
          simp only [List.set_cons_succ, List.set_cons_zero]
          refine takeHL (i := 24) 29 undef rfl rfl (by kernel_rfl) (by kernel_rfl) (by kernel_rfl) (fun _ _ _ h => h) (.inr ⟨by rfl, rfl⟩) S1 ?_
          simp only [List.set_cons_succ, List.set_cons_zero]
          refine takeHL (i := 25) 30 undef rfl rfl (by kernel_rfl) (by kernel_rfl) (by kernel_rfl) (fun _ _ _ h => h) (.inr ⟨by rfl, rfl⟩) S1 ?_
          simp only [List.set_cons_succ, List.set_cons_zero]
          refine takeHL (i := 26) 31 undef rfl rfl (by kernel_rfl) (by kernel_rfl) (by kernel_rfl) (fun _ _ _ h => h) (.inr ⟨by rfl, rfl⟩) S1 ?_
          simp only [List.set_cons_succ, List.set_cons_zero]
          refine takeHL (i := 27) 32 undef rfl rfl (by kernel_rfl) (by kernel_rfl) (by kernel_rfl) (fun _ _ _ h => h) (.inr ⟨by rfl, rfl⟩) S1 ?_
          simp only [List.set_cons_succ, List.set_cons_zero]
          refine takeHL (i := 28) 33 undef rfl rfl (by kernel_rfl) (by kernel_rfl) (by kernel_rfl) (fun _ _ _ h => h) (.inr ⟨by rfl, rfl⟩) S1 ?_
          simp only [List.set_cons_succ, List.set_cons_zero]
          refine takeHL (i := 29) 34 (.bool false) rfl rfl (by kernel_rfl) (by kernel_rfl) (by kernel_rfl) (fun _ _ _ h => h) (.inl ⟨by rfl, fun w _ => by go_simp⟩) S1 ?_
          simp only [List.set_cons_succ, List.set_cons_zero]
          refine takeHL (i := 30) 4 (.bool false) rfl rfl (by kernel_rfl) (by kernel_rfl) (by kernel_rfl) (fun _ _ _ h => h) (.inl ⟨by rfl, fun _ _ => rfl⟩) S1 ?_
          simp only [List.set_cons_succ, List.set_cons_zero]
          refine wpAnyH_done (by kernel_rfl) ?_ _
          go_wp2_with fail
          go_ret
          exact ⟨by rw [E.out]; rfl, by first | exact bthru hba K1 | (rw [← hnb]; exact bthru hba K1)⟩
      · clear hd
        go_enter Tryz.func54, Tryz.ntmps54
        go_upto_region 1 with fail
        have hT := heap_alloc_new w (.cells #[.int .i64 q, .int .i64 a, .int .i64 n] 60 (0, 0))
        have hba := bal (Below.refl w.heap.size w) (.cells #[.int .i64 q, .int .i64 a, .int .i64 n] 60 (0, 0))
        generalize World.alloc w _ = wa at hT hba ⊢
        obtain ⟨nb, hnb⟩ : ∃ nb, w.heap.size = nb := ⟨_, rfl⟩
        have hbaw := hba
        rw [hnb] at hT ⊢
        have hlT := (Array.getElem?_eq_some_iff.1 hT).1
        have hSof : ∀ {w' : World}, Below wa.heap.size wa w' → w'.cell? ⟨nb, 0, none⟩ = some (.int .i64 q) ∧ w'.cell? ⟨nb, 1, none⟩ = some (.int .i64 a) ∧ w'.cell? ⟨nb, 2, none⟩ = some (.int .i64 n) := by
          intro w' hw
          obtain ⟨h0, h1, h2⟩ := blk3 ((hw.block nb hlT).trans hT)
          exact ⟨h0, h1, h2⟩
        refine wp_region_held (S := fun w' => w'.cell? ⟨nb, 0, none⟩ = some (.int .i64 q) ∧ w'.cell? ⟨nb, 1, none⟩ = some (.int .i64 a) ∧ w'.cell? ⟨nb, 2, none⟩ = some (.int .i64 n)) (by kernel_rfl) ?_
        change wpAnyH _ _ _ _ _ _ _ _ (World.drew _)
        have Kz : Below wa.heap.size wa (World.drew wa) := Below.drew (Below.refl _ _)
        have hS0 := hSof Kz
        refine takeHL (i := 0) 5 (.slice A l.length c) rfl rfl (by kernel_rfl) (by kernel_rfl) (by kernel_rfl) (fun _ _ _ h => h) (.inl ⟨by rfl, fun _ _ => rfl⟩) hS0 ?_
        simp only [List.set_cons_succ, List.set_cons_zero]
        refine takeHL (i := 1) 6 (.pointer (some ⟨nb, 0, none⟩)) rfl rfl (by kernel_rfl) (by kernel_rfl) (by kernel_rfl) (fun _ _ _ h => h) (.inl ⟨by rfl, fun w _ => by go_simp⟩) hS0 ?_
        simp only [List.set_cons_succ, List.set_cons_zero]
        refine takeHL (i := 2) 7 (.int .i64 (q)) rfl rfl (by kernel_rfl) (by kernel_rfl) (by kernel_rfl) (fun _ _ _ h => h) (.inl ⟨by rfl, fun w hS => by obtain ⟨h0, h1, h2⟩ := hS; go_simp⟩) hS0 ?_
        simp only [List.set_cons_succ, List.set_cons_zero]
        refine callHL 3 8 rfl rfl (by kernel_rfl) (by rfl) 100 Tryz.func100 (by kernel_rfl) rfl _ _ rfl #[.slice A l.length c, .int .i64 q] ?hv (impl_placed _ l c q _ (h.keep (bthru hba Kz))) ?_
        case hv => simp [Act.eval]
        rw [HP.out]
        rintro e v1 ⟨rfl, k1⟩
        have K1 : Below wa.heap.size wa v1 := bthru Kz k1
        have S1 := hSof K1
        refine ⟨_, rfl, S1, ?_⟩
        simp only [List.set_cons_succ, List.set_cons_zero]
        refine takeHL (i := 4) 9 (.bool true) rfl rfl (by kernel_rfl) (by kernel_rfl) (by kernel_rfl) (fun _ _ _ h => h) (.inl ⟨by rfl, fun _ _ => rfl⟩) S1 ?_
        simp only [List.set_cons_succ, List.set_cons_zero]
        refine takeHL (i := 5) 10 (.pointer (some ⟨nb, 1, none⟩)) rfl rfl (by kernel_rfl) (by kernel_rfl) (by kernel_rfl) (fun _ _ _ h => h) (.inl ⟨by rfl, fun w _ => by go_simp⟩) S1 ?_
        simp only [List.set_cons_succ, List.set_cons_zero]
        refine takeHL (i := 6) 11 (.int .i64 (a)) rfl rfl (by kernel_rfl) (by kernel_rfl) (by kernel_rfl) (fun _ _ _ h => h) (.inl ⟨by rfl, fun w hS => by obtain ⟨h0, h1, h2⟩ := hS; go_simp⟩) S1 ?_
        simp only [List.set_cons_succ, List.set_cons_zero]
        refine takeHL (i := 7) 12 (.bool false) rfl rfl (by kernel_rfl) (by kernel_rfl) (by kernel_rfl) (fun _ _ _ h => h) (.inl ⟨by rfl, fun w _ => by go_simp <;> (first | omega)⟩) S1 ?_
        simp only [List.set_cons_succ, List.set_cons_zero]
        refine takeHL (i := 8) 13 (.bool false) rfl rfl (by kernel_rfl) (by kernel_rfl) (by kernel_rfl) (fun _ _ _ h => h) (.inl ⟨by rfl, fun w _ => by go_simp⟩) S1 ?_
        simp only [List.set_cons_succ, List.set_cons_zero]
        refine takeHL (i := 9) 14 (.bool false) rfl rfl (by kernel_rfl) (by kernel_rfl) (by kernel_rfl) (fun _ _ _ h => h) (.inl ⟨by rfl, fun _ _ => rfl⟩) S1 ?_
        simp only [List.set_cons_succ, List.set_cons_zero]
        refine takeHL (i := 10) 15 undef rfl rfl (by kernel_rfl) (by kernel_rfl) (by kernel_rfl) (fun _ _ _ h => h) (.inr ⟨by rfl, rfl⟩) S1 ?_
        simp only [List.set_cons_succ, List.set_cons_zero]
        refine takeHL (i := 11) 16 undef rfl rfl (by kernel_rfl) (by kernel_rfl) (by kernel_rfl) (fun _ _ _ h => h) (.inr ⟨by rfl, rfl⟩) S1 ?_
        simp only [List.set_cons_succ, List.set_cons_zero]
        refine takeHL (i := 12) 17 undef rfl rfl (by kernel_rfl) (by kernel_rfl) (by kernel_rfl) (fun _ _ _ h => h) (.inr ⟨by rfl, rfl⟩) S1 ?_
        simp only [List.set_cons_succ, List.set_cons_zero]
        refine takeHL (i := 13) 18 (.bool false) rfl rfl (by kernel_rfl) (by kernel_rfl) (by kernel_rfl) (fun _ _ _ h => h) (.inl ⟨by rfl, fun w _ => by go_simp⟩) S1 ?_
        simp only [List.set_cons_succ, List.set_cons_zero]
        refine takeHL (i := 14) 19 (.bool false) rfl rfl (by kernel_rfl) (by kernel_rfl) (by kernel_rfl) (fun _ _ _ h => h) (.inl ⟨by rfl, fun _ _ => rfl⟩) S1 ?_
        simp only [List.set_cons_succ, List.set_cons_zero]
        refine takeHL (i := 15) 20 undef rfl rfl (by kernel_rfl) (by kernel_rfl) (by kernel_rfl) (fun _ _ _ h => h) (.inr ⟨by rfl, rfl⟩) S1 ?_
        simp only [List.set_cons_succ, List.set_cons_zero]
        refine takeHL (i := 16) 21 undef rfl rfl (by kernel_rfl) (by kernel_rfl) (by kernel_rfl) (fun _ _ _ h => h) (.inr ⟨by rfl, rfl⟩) S1 ?_
        simp only [List.set_cons_succ, List.set_cons_zero]
        refine takeHL (i := 17) 22 undef rfl rfl (by kernel_rfl) (by kernel_rfl) (by kernel_rfl) (fun _ _ _ h => h) (.inr ⟨by rfl, rfl⟩) S1 ?_
        simp only [List.set_cons_succ, List.set_cons_zero]
        refine takeHL (i := 18) 23 (.bool false) rfl rfl (by kernel_rfl) (by kernel_rfl) (by kernel_rfl) (fun _ _ _ h => h) (.inl ⟨by rfl, fun w _ => by go_simp⟩) S1 ?_
        simp only [List.set_cons_succ, List.set_cons_zero]
        refine takeHL (i := 19) 24 (.bool false) rfl rfl (by kernel_rfl) (by kernel_rfl) (by kernel_rfl) (fun _ _ _ h => h) (.inl ⟨by rfl, fun _ _ => rfl⟩) S1 ?_
        simp only [List.set_cons_succ, List.set_cons_zero]
        refine takeHL (i := 20) 25 undef rfl rfl (by kernel_rfl) (by kernel_rfl) (by kernel_rfl) (fun _ _ _ h => h) (.inr ⟨by rfl, rfl⟩) S1 ?_
        simp only [List.set_cons_succ, List.set_cons_zero]
        refine takeHL (i := 21) 26 undef rfl rfl (by kernel_rfl) (by kernel_rfl) (by kernel_rfl) (fun _ _ _ h => h) (.inr ⟨by rfl, rfl⟩) S1 ?_
        simp only [List.set_cons_succ, List.set_cons_zero]
        refine takeHL (i := 22) 27 undef rfl rfl (by kernel_rfl) (by kernel_rfl) (by kernel_rfl) (fun _ _ _ h => h) (.inr ⟨by rfl, rfl⟩) S1 ?_
        simp only [List.set_cons_succ, List.set_cons_zero]
        refine takeHL (i := 23) 28 undef rfl rfl (by kernel_rfl) (by kernel_rfl) (by kernel_rfl) (fun _ _ _ h => h) (.inr ⟨by rfl, rfl⟩) S1 ?_
        simp only [List.set_cons_succ, List.set_cons_zero]
        refine takeHL (i := 24) 29 undef rfl rfl (by kernel_rfl) (by kernel_rfl) (by kernel_rfl) (fun _ _ _ h => h) (.inr ⟨by rfl, rfl⟩) S1 ?_
        simp only [List.set_cons_succ, List.set_cons_zero]
        refine takeHL (i := 25) 30 undef rfl rfl (by kernel_rfl) (by kernel_rfl) (by kernel_rfl) (fun _ _ _ h => h) (.inr ⟨by rfl, rfl⟩) S1 ?_
        simp only [List.set_cons_succ, List.set_cons_zero]
        refine takeHL (i := 26) 31 undef rfl rfl (by kernel_rfl) (by kernel_rfl) (by kernel_rfl) (fun _ _ _ h => h) (.inr ⟨by rfl, rfl⟩) S1 ?_
        simp only [List.set_cons_succ, List.set_cons_zero]
        refine takeHL (i := 27) 32 undef rfl rfl (by kernel_rfl) (by kernel_rfl) (by kernel_rfl) (fun _ _ _ h => h) (.inr ⟨by rfl, rfl⟩) S1 ?_
        simp only [List.set_cons_succ, List.set_cons_zero]
        refine takeHL (i := 28) 33 undef rfl rfl (by kernel_rfl) (by kernel_rfl) (by kernel_rfl) (fun _ _ _ h => h) (.inr ⟨by rfl, rfl⟩) S1 ?_
        simp only [List.set_cons_succ, List.set_cons_zero]
        refine takeHL (i := 29) 34 (.bool false) rfl rfl (by kernel_rfl) (by kernel_rfl) (by kernel_rfl) (fun _ _ _ h => h) (.inl ⟨by rfl, fun w _ => by go_simp⟩) S1 ?_
        simp only [List.set_cons_succ, List.set_cons_zero]
        refine takeHL (i := 30) 4 (.bool false) rfl rfl (by kernel_rfl) (by kernel_rfl) (by kernel_rfl) (fun _ _ _ h => h) (.inl ⟨by rfl, fun _ _ => rfl⟩) S1 ?_
        simp only [List.set_cons_succ, List.set_cons_zero]
        refine wpAnyH_done (by kernel_rfl) ?_ _
        go_wp2_with fail
        go_ret
        exact ⟨by rw [E.out]; rfl, by first | exact bthru hba K1 | (rw [← hnb]; exact bthru hba K1)⟩
end Go.Proofs.YtmkjmancmiphfaaGreatDoor
