/-
  FnExactAdmitTask returns true for all arguments, and leaves them as they were.
-/
import Derived.Test.YtnldiakjmhfodaaAdmI
import Derived.Test.YtnldiakjmhfodaaAdmS
import Derived.Test.YtnldiakjmhfodaaOpenT
import Derived.Test.YtnldiakjmhfodaaTake
import Derived.Test.YtnldiakjmhfodaaMarkI
import Derived.Test.YtnldiakjmhfodaaLawKit2
import Derived.Test.YtnldiakjmhfodaaOpen
import Derived.Test.YtnldiakjmhfodaaMark
namespace Go.Proofs.Ytnldiakjmhfodaa
open Go.RowKit

set_option maxHeartbeats 1000000 in
set_option maxRecDepth 100000 in
theorem law_FnExactAdmitTask (A0 : Option Addr) (l0 : List Tk) (c0 : Nat) (t1 : Tk) (x2 : Int) (w : World) (h0 : TS w A0 l0) (hl0 : l0.length ≤ maxLen) (hx2 : (Lit.int .i64 x2).wf = true) :
    Calls Try.prog 3 #[.slice A0 l0.length c0, t1.val, .int .i64 x2] w fun e w' => e = .returned (.bool true) ∧ Below w.heap.size w w' := by
  unfold maxLen at hl0
  have hw2 := int_wf hx2
  clear hx2
  by_cases hs0 : l0.length ≤ 1048576
  case neg =>
    go_enter Try.func3, Try.ntmps3
    go_wp2_with (go_at_call 29; refine (laws_szTaskS_no _ _ _ _ _ (by omega) (by omega) (by omega) (by omega)).mono ?_; rintro e w1 ⟨rfl, rfl⟩)
    go_ret
    exact ⟨rfl, bal (Below.refl _ _) _⟩
  go_enter Try.func3, Try.ntmps3
  go_wp2_with (go_at_call 29; refine (laws_szTaskS _ _ _ _ _ (by omega) (by omega)).mono ?_; rintro e w1 ⟨rfl, rfl⟩)
  have hN := heap_alloc_new w (.cells #[.int .i64 t1.low, .int .i64 t1.high, .int .i64 t1.due, .int .i64 t1.every, .bool t1.crit] 24)
  have Bw0 := bal (Below.refl w.heap.size w) (.cells #[.int .i64 t1.low, .int .i64 t1.high, .int .i64 t1.due, .int .i64 t1.every, .bool t1.crit] 24)
  have hz0 : w.heap.size < (w.alloc (.cells #[.int .i64 t1.low, .int .i64 t1.high, .int .i64 t1.due, .int .i64 t1.every, .bool t1.crit] 24)).heap.size := by simp
  have h0 := h0.keep Bw0
  generalize World.alloc w _ = w0 at hN Bw0 hz0 h0 ⊢
  generalize hnB : w.heap.size = nB at hN Bw0 hz0 ⊢
  have hTC : ∀ w', Below w0.heap.size w0 w' → w'.cell? ⟨nB, 0, none⟩ = some (.int .i64 t1.low) ∧ w'.cell? ⟨nB, 1, none⟩ = some (.int .i64 t1.high) ∧ w'.cell? ⟨nB, 2, none⟩ = some (.int .i64 t1.due) ∧ w'.cell? ⟨nB, 3, none⟩ = some (.int .i64 t1.every) ∧ w'.cell? ⟨nB, 4, none⟩ = some (.bool t1.crit) := fun w' hw => by
    obtain ⟨z0, z1, z2, z3, z4, _⟩ := blk_five ((hw.block nB hz0).trans hN)
    exact ⟨z0, z1, z2, z3, z4⟩
  clear hN
  go_cut [8, 9] from 23 to 31 (fun v u wc => ∃ A9 c9, v = .slice A9 (admL l0 t1 x2).length c9 ∧ u = .bool (admitT l0 t1 x2).isSome ∧ OT w0.heap.size wc A9 c9 (admL l0 t1 x2) ∧ Below w0.heap.size w0 wc)
  case first =>
    have C : Below w0.heap.size w0 w0.drew := Below.drew (Below.refl _ _)
    refine wp_region_any (by kernel_rfl) ?_
    change wpAny _ _ _ _ _ _ _ w0.drew
    refine takeL (i := 0) 24 (.slice A0 l0.length c0) rfl rfl (by kernel_rfl) (by kernel_rfl) (by kernel_rfl) (fun _ _ _ h => h) (.inl ⟨by rfl, fun _ => rfl⟩) ?_
    simp only [List.set_cons_succ, List.set_cons_zero]
    refine takeL (i := 4) 28 (.int .i64 x2) rfl rfl (by kernel_rfl) (by kernel_rfl) (by kernel_rfl) (fun _ _ _ h => h) (.inl ⟨by rfl, fun _ => rfl⟩) ?_
    simp only [List.set_cons_succ, List.set_cons_zero]
    refine wpAny_ready (rs := [1, 2]) (by kernel_rfl) (by simp) (wantL (i := 1) 25 rfl rfl (by rfl) (fun K hK => ?_) (wantL (i := 2) 26 rfl rfl (by rfl) (fun K hK => ?_) AllReady.nil))
    · refine wp_of_step (step_call rfl 31 Try.func31 (by kernel_rfl) rfl _ _ rfl #[.slice A0 l0.length c0] (by simp [Act.eval]) (laws_toTaskS A0 l0 c0 _ (h0.keep (bthru (Below.refl _ _) C)) hs0) ?_)
      rintro e v1 ⟨P1, p1, rfl, o1, b1⟩
      have C := bthru C b1
      refine ⟨_, rfl, hK _ _ ?_⟩
      simp only [List.set_cons_succ, List.set_cons_zero]
      refine wpAny_ready (rs := [2]) (by kernel_rfl) (by simp) (wantL (i := 2) 26 rfl rfl (by rfl) (fun K hK => ?_) AllReady.nil)
      obtain ⟨k0, k1, k2, k3, k4⟩ := hTC _ (bthru (Below.refl _ _) C)
      go_simp
      refine hK _ _ ?_
      simp only [List.set_cons_succ, List.set_cons_zero]
      clear k0 k1 k2 k3 k4
      refine wpAny_ready (rs := [3]) (by kernel_rfl) (by simp) (wantL (i := 3) 27 rfl rfl (by rfl) (fun K hK => ?_) AllReady.nil)
      refine wp_of_step (step_call rfl 32 Try.func32 (by kernel_rfl) rfl _ _ rfl #[t1.val] (by simp [Act.eval, Tk.val]) (laws_toTask t1 _) ?_)
      rintro e v3 ⟨rfl, b3⟩
      have C := bthru C b3
      have o1 := OT_keep o1 b3
      refine ⟨_, rfl, hK _ _ ?_⟩
      simp only [List.set_cons_succ, List.set_cons_zero]
      refine wpAny_ready (rs := [5]) (by kernel_rfl) (by simp) (wantL (i := 5) 29 rfl rfl (by rfl) (fun K hK => ?_) AllReady.nil)
      refine wp_of_step (step_call rfl 30 Try.func30 (by kernel_rfl) rfl _ _ rfl #[.slice P1 l0.length p1, t1.val, .int .i64 x2] (by simp [Act.eval]) (spec_AdmitTask P1 l0 t1 p1 x2 _ o1.ts (by omega) (OT_none o1)) ?_)
      rintro e v9 ⟨P9, p9, rfl, o9, b9⟩
      have o9 := own_base o9 C.size
      have C := bthru C b9
      refine ⟨_, rfl, hK _ _ ?_⟩
      simp only [List.set_cons_succ, List.set_cons_zero]
      refine takeL (i := 6) 23 (.tuple #[.slice P9 (admL l0 t1 x2).length p9, .bool (admitT l0 t1 x2).isSome]) rfl rfl (by kernel_rfl) (by kernel_rfl) (by kernel_rfl) (fun _ _ _ h => h) (.inl ⟨by rfl, fun _ => rfl⟩) ?_
      simp only [List.set_cons_succ, List.set_cons_zero]
      refine takeL (i := 7) 30 (.slice P9 (admL l0 t1 x2).length p9) rfl rfl (by kernel_rfl) (by kernel_rfl) (by kernel_rfl) (fun _ _ _ h => h) (.inl ⟨by rfl, fun _ => rfl⟩) ?_
      simp only [List.set_cons_succ, List.set_cons_zero]
      refine takeL (i := 8) 31 (.bool (admitT l0 t1 x2).isSome) rfl rfl (by kernel_rfl) (by kernel_rfl) (by kernel_rfl) (fun _ _ _ h => h) (.inl ⟨by rfl, fun _ => rfl⟩) ?_
      simp only [List.set_cons_succ, List.set_cons_zero]
      refine takeL (i := 9) 8 (.slice P9 (admL l0 t1 x2).length p9) rfl rfl (by kernel_rfl) (by kernel_rfl) (by kernel_rfl) (fun _ _ _ h => h) (.inl ⟨by rfl, fun _ => rfl⟩) ?_
      simp only [List.set_cons_succ, List.set_cons_zero]
      refine takeL (i := 10) 9 (.bool (admitT l0 t1 x2).isSome) rfl rfl (by kernel_rfl) (by kernel_rfl) (by kernel_rfl) (fun _ _ _ h => h) (.inl ⟨by rfl, fun _ => rfl⟩) ?_
      simp only [List.set_cons_succ, List.set_cons_zero]
      refine wpAny_done (by kernel_rfl) ?_ _
      go_wp2_with fail
      go_meet
      exact ⟨P9, p9, rfl, rfl, o9, C⟩
    · obtain ⟨k0, k1, k2, k3, k4⟩ := hTC _ (bthru (Below.refl _ _) C)
      go_simp
      refine hK _ _ ?_
      simp only [List.set_cons_succ, List.set_cons_zero]
      clear k0 k1 k2 k3 k4
      refine wpAny_ready (rs := [1]) (by kernel_rfl) (by simp) (wantL (i := 1) 25 rfl rfl (by rfl) (fun K hK => ?_) AllReady.nil)
      refine wp_of_step (step_call rfl 31 Try.func31 (by kernel_rfl) rfl _ _ rfl #[.slice A0 l0.length c0] (by simp [Act.eval]) (laws_toTaskS A0 l0 c0 _ (h0.keep (bthru (Below.refl _ _) C)) hs0) ?_)
      rintro e v1 ⟨P1, p1, rfl, o1, b1⟩
      have C := bthru C b1
      refine ⟨_, rfl, hK _ _ ?_⟩
      simp only [List.set_cons_succ, List.set_cons_zero]
      refine wpAny_ready (rs := [3]) (by kernel_rfl) (by simp) (wantL (i := 3) 27 rfl rfl (by rfl) (fun K hK => ?_) AllReady.nil)
      refine wp_of_step (step_call rfl 32 Try.func32 (by kernel_rfl) rfl _ _ rfl #[t1.val] (by simp [Act.eval, Tk.val]) (laws_toTask t1 _) ?_)
      rintro e v3 ⟨rfl, b3⟩
      have C := bthru C b3
      have o1 := OT_keep o1 b3
      refine ⟨_, rfl, hK _ _ ?_⟩
      simp only [List.set_cons_succ, List.set_cons_zero]
      refine wpAny_ready (rs := [5]) (by kernel_rfl) (by simp) (wantL (i := 5) 29 rfl rfl (by rfl) (fun K hK => ?_) AllReady.nil)
      refine wp_of_step (step_call rfl 30 Try.func30 (by kernel_rfl) rfl _ _ rfl #[.slice P1 l0.length p1, t1.val, .int .i64 x2] (by simp [Act.eval]) (spec_AdmitTask P1 l0 t1 p1 x2 _ o1.ts (by omega) (OT_none o1)) ?_)
      rintro e v9 ⟨P9, p9, rfl, o9, b9⟩
      have o9 := own_base o9 C.size
      have C := bthru C b9
      refine ⟨_, rfl, hK _ _ ?_⟩
      simp only [List.set_cons_succ, List.set_cons_zero]
      refine takeL (i := 6) 23 (.tuple #[.slice P9 (admL l0 t1 x2).length p9, .bool (admitT l0 t1 x2).isSome]) rfl rfl (by kernel_rfl) (by kernel_rfl) (by kernel_rfl) (fun _ _ _ h => h) (.inl ⟨by rfl, fun _ => rfl⟩) ?_
      simp only [List.set_cons_succ, List.set_cons_zero]
      refine takeL (i := 7) 30 (.slice P9 (admL l0 t1 x2).length p9) rfl rfl (by kernel_rfl) (by kernel_rfl) (by kernel_rfl) (fun _ _ _ h => h) (.inl ⟨by rfl, fun _ => rfl⟩) ?_
      simp only [List.set_cons_succ, List.set_cons_zero]
      refine takeL (i := 8) 31 (.bool (admitT l0 t1 x2).isSome) rfl rfl (by kernel_rfl) (by kernel_rfl) (by kernel_rfl) (fun _ _ _ h => h) (.inl ⟨by rfl, fun _ => rfl⟩) ?_
      simp only [List.set_cons_succ, List.set_cons_zero]
      refine takeL (i := 9) 8 (.slice P9 (admL l0 t1 x2).length p9) rfl rfl (by kernel_rfl) (by kernel_rfl) (by kernel_rfl) (fun _ _ _ h => h) (.inl ⟨by rfl, fun _ => rfl⟩) ?_
      simp only [List.set_cons_succ, List.set_cons_zero]
      refine takeL (i := 10) 9 (.bool (admitT l0 t1 x2).isSome) rfl rfl (by kernel_rfl) (by kernel_rfl) (by kernel_rfl) (fun _ _ _ h => h) (.inl ⟨by rfl, fun _ => rfl⟩) ?_
      simp only [List.set_cons_succ, List.set_cons_zero]
      refine wpAny_done (by kernel_rfl) ?_ _
      go_wp2_with fail
      go_meet
      exact ⟨P9, p9, rfl, rfl, o9, C⟩
  obtain ⟨Pw1_0, pw1_0, rfl, rfl, ow1_0, bw1⟩ := hcut
  obtain ⟨w1, rfl⟩ : ∃ x : World, x = wc := ⟨_, rfl⟩
  have rw1_0 : Rng Pw1_0 w0.heap.size w1.heap.size := OT_rng ow1_0
  have zw1 : w0.heap.size ≤ w1.heap.size := bw1.size
  have Bw1 : Below w0.heap.size w0 w1 := bthru (Below.refl _ _) bw1
  obtain ⟨k0, k1, k2, k3, k4⟩ := hTC _ Bw1
  go_wp2_with fail
  clear k0 k1 k2 k3 k4
  refine (laws_toTaskS A0 l0 c0 _ (h0.keep Bw1) hs0).mono ?_
  rintro e w2 ⟨Pw2, pw2, rfl, ow2, bw2⟩
  have ow0_w2 := OT_keep ow1_0 bw2
  clear ow1_0
  have rw2 : Rng Pw2 w1.heap.size w2.heap.size := OT_rng ow2
  have zw2 : w1.heap.size ≤ w2.heap.size := bw2.size
  have Bw2 : Below w0.heap.size w0 w2 := bthru Bw1 bw2
  obtain ⟨k0, k1, k2, k3, k4⟩ := hTC _ Bw2
  go_wp2_with fail
  clear k0 k1 k2 k3 k4
  refine (laws_toTask t1 _).mono ?_
  rintro e w3 ⟨rfl, bw3⟩
  have ow0_w3 := OT_keep ow0_w2 bw3
  clear ow0_w2
  have ox0_w3 := OT_keep ow2 bw3
  clear ow2
  have zw3 : w2.heap.size ≤ w3.heap.size := bw3.size
  have Bw3 : Below w0.heap.size w0 w3 := bthru Bw2 bw3
  obtain ⟨k0, k1, k2, k3, k4⟩ := hTC _ Bw3
  go_wp2_with fail
  clear k0 k1 k2 k3 k4
  refine (impl_AdmitTask Pw2 l0 t1 pw2 x2 _ ox0_w3.ts (by omega) (own_size ox0_w3).1).mono ?_
  rintro e w4 ⟨Pw4_0, pw4_0, rfl, ow4_0, bw4⟩
  have ow0_w4 := OT_keep ow0_w3 bw4
  clear ow0_w3
  have ox0_w4 := OT_keep ox0_w3 bw4
  clear ox0_w3
  have rw4_0 : Rng Pw4_0 w3.heap.size w4.heap.size := OT_rng ow4_0
  have zw4 : w3.heap.size ≤ w4.heap.size := bw4.size
  have Bw4 : Below w0.heap.size w0 w4 := bthru Bw3 bw4
  obtain ⟨k0, k1, k2, k3, k4⟩ := hTC _ Bw4
  go_wp2_with fail
  clear k0 k1 k2 k3 k4
  refine (laws_eqTaskS Pw4_0 Pw1_0 (admL l0 t1 x2) (admL l0 t1 x2) pw4_0 pw1_0 _ ow4_0.ts ow0_w4.ts (by have := admL_short l0 t1 x2; omega)).mono ?_
  rintro e w5 ⟨rfl, bw5⟩
  simp only [decide_true]
  have ow0_w5 := OT_keep ow0_w4 bw5
  clear ow0_w4
  have ox0_w5 := OT_keep ox0_w4 bw5
  clear ox0_w4
  have og0_w5 := OT_keep ow4_0 bw5
  clear ow4_0
  have Bw5 : Below w0.heap.size w0 w5 := bthru Bw4 bw5
  obtain ⟨k0, k1, k2, k3, k4⟩ := hTC _ Bw5
  go_wp2_with fail
  clear k0 k1 k2 k3 k4
  refine (laws_toTaskS A0 l0 c0 _ (h0.keep Bw5) hs0).mono ?_
  rintro e w6 ⟨Pw6, pw6, rfl, ow6, bw6⟩
  have ow0_w6 := OT_keep ow0_w5 bw6
  clear ow0_w5
  have ox0_w6 := OT_keep ox0_w5 bw6
  clear ox0_w5
  have og0_w6 := OT_keep og0_w5 bw6
  clear og0_w5
  have rw6 : Rng Pw6 w5.heap.size w6.heap.size := OT_rng ow6
  have zw6 : w5.heap.size ≤ w6.heap.size := bw6.size
  have Bw6 : Below w0.heap.size w0 w6 := bthru Bw5 bw6
  obtain ⟨k0, k1, k2, k3, k4⟩ := hTC _ Bw6
  go_wp2_with fail
  clear k0 k1 k2 k3 k4
  refine (laws_eqTaskS Pw2 Pw6 l0 l0 pw2 pw6 _ ox0_w6.ts ow6.ts (by omega)).mono ?_
  rintro e w7 ⟨rfl, bw7⟩
  simp only [decide_true]
  have ow0_w7 := OT_keep ow0_w6 bw7
  clear ow0_w6
  have ox0_w7 := OT_keep ox0_w6 bw7
  clear ox0_w6
  have og0_w7 := OT_keep og0_w6 bw7
  clear og0_w6
  have oT1_w7 := OT_keep ow6 bw7
  clear ow6
  have Bw7 : Below w0.heap.size w0 w7 := bthru Bw6 bw7
  obtain ⟨k0, k1, k2, k3, k4⟩ := hTC _ Bw7
  go_wp2_with fail
  clear k0 k1 k2 k3 k4
  refine (laws_markTaskS w1.heap.size Pw2 l0 pw2 1 _ ox0_w7 (by omega) (by omega) (by omega)).mono ?_
  rintro e w8 ⟨rfl, ow8, gw8⟩
  have ow0_w8 := OT_apart ow0_w7 gw8 (rng_ne rw1_0 rw2 (by omega))
  clear ow0_w7
  have og0_w8 := OT_apart og0_w7 gw8 (rng_ne rw4_0 rw2 (by omega))
  clear og0_w7
  have Bw8 : Below w0.heap.size w0 w8 := bmarkT Bw7 ox0_w7 gw8 (by omega)
  clear ox0_w7
  obtain ⟨k0, k1, k2, k3, k4⟩ := hTC _ Bw8
  go_wp2_with fail
  clear k0 k1 k2 k3 k4
  refine (laws_eqTaskS Pw4_0 Pw1_0 (admL l0 t1 x2) (admL l0 t1 x2) pw4_0 pw1_0 _ og0_w8.ts ow0_w8.ts (by have := admL_short l0 t1 x2; omega)).mono ?_
  rintro e w9 ⟨rfl, bw9⟩
  simp only [decide_true]
  have ow0_w9 := OT_keep ow0_w8 bw9
  clear ow0_w8
  have ox0_w9 := OT_keep ow8 bw9
  clear ow8
  have og0_w9 := OT_keep og0_w8 bw9
  clear og0_w8
  have Bw9 : Below w0.heap.size w0 w9 := bthru Bw8 bw9
  obtain ⟨k0, k1, k2, k3, k4⟩ := hTC _ Bw9
  go_wp2_with fail
  clear k0 k1 k2 k3 k4
  refine (laws_markTaskS w3.heap.size Pw4_0 (admL l0 t1 x2) pw4_0 1 _ og0_w9 (by have := admL_short l0 t1 x2; omega) (by have := admL_short l0 t1 x2; omega) (by have := admL_short l0 t1 x2; omega)).mono ?_
  rintro e w10 ⟨rfl, ow10, gw10⟩
  have ow0_w10 := OT_apart ow0_w9 gw10 (rng_ne rw1_0 rw4_0 (by omega))
  clear ow0_w9
  have ox0_w10 := OT_apart ox0_w9 gw10 (rng_ne rw2 rw4_0 (by omega))
  clear ox0_w9
  have Bw10 : Below w0.heap.size w0 w10 := bmarkT Bw9 og0_w9 gw10 (by omega)
  clear og0_w9
  obtain ⟨k0, k1, k2, k3, k4⟩ := hTC _ Bw10
  go_wp2_with fail
  clear k0 k1 k2 k3 k4
  refine (laws_heldTaskS Pw4_0 ((admL l0 t1 x2).length) pw4_0 1 _ ow10.ts (by have := admL_short l0 t1 x2; omega) (by have := admL_short l0 t1 x2; omega) (by have := admL_short l0 t1 x2; omega)).mono ?_
  rintro e w11 ⟨rfl, rfl⟩
  obtain ⟨k0, k1, k2, k3, k4⟩ := hTC _ Bw10
  go_wp2_with fail
  clear k0 k1 k2 k3 k4
  go_cut [16, 17] from 83 to 91 (fun v u wc => ∃ A9 c9, v = .slice A9 (admL l0 t1 x2).length c9 ∧ u = .bool (admitT l0 t1 x2).isSome ∧ OT w10.heap.size wc A9 c9 (admL l0 t1 x2) ∧ Below w10.heap.size w10 wc)
  case first =>
    have C : Below w10.heap.size w10 w10.drew := Below.drew (Below.refl _ _)
    refine wp_region_any (by kernel_rfl) ?_
    change wpAny _ _ _ _ _ _ _ w10.drew
    refine takeL (i := 0) 84 (.slice A0 l0.length c0) rfl rfl (by kernel_rfl) (by kernel_rfl) (by kernel_rfl) (fun _ _ _ h => h) (.inl ⟨by rfl, fun _ => rfl⟩) ?_
    simp only [List.set_cons_succ, List.set_cons_zero]
    refine takeL (i := 4) 88 (.int .i64 x2) rfl rfl (by kernel_rfl) (by kernel_rfl) (by kernel_rfl) (fun _ _ _ h => h) (.inl ⟨by rfl, fun _ => rfl⟩) ?_
    simp only [List.set_cons_succ, List.set_cons_zero]
    refine wpAny_ready (rs := [1, 2]) (by kernel_rfl) (by simp) (wantL (i := 1) 85 rfl rfl (by rfl) (fun K hK => ?_) (wantL (i := 2) 86 rfl rfl (by rfl) (fun K hK => ?_) AllReady.nil))
    · refine wp_of_step (step_call rfl 31 Try.func31 (by kernel_rfl) rfl _ _ rfl #[.slice A0 l0.length c0] (by simp [Act.eval]) (laws_toTaskS A0 l0 c0 _ (h0.keep (bthru Bw10 C)) hs0) ?_)
      rintro e v1 ⟨P1, p1, rfl, o1, b1⟩
      have C := bthru C b1
      refine ⟨_, rfl, hK _ _ ?_⟩
      simp only [List.set_cons_succ, List.set_cons_zero]
      refine wpAny_ready (rs := [2]) (by kernel_rfl) (by simp) (wantL (i := 2) 86 rfl rfl (by rfl) (fun K hK => ?_) AllReady.nil)
      obtain ⟨k0, k1, k2, k3, k4⟩ := hTC _ (bthru Bw10 C)
      go_simp
      refine hK _ _ ?_
      simp only [List.set_cons_succ, List.set_cons_zero]
      clear k0 k1 k2 k3 k4
      refine wpAny_ready (rs := [3]) (by kernel_rfl) (by simp) (wantL (i := 3) 87 rfl rfl (by rfl) (fun K hK => ?_) AllReady.nil)
      refine wp_of_step (step_call rfl 32 Try.func32 (by kernel_rfl) rfl _ _ rfl #[t1.val] (by simp [Act.eval, Tk.val]) (laws_toTask t1 _) ?_)
      rintro e v3 ⟨rfl, b3⟩
      have C := bthru C b3
      have o1 := OT_keep o1 b3
      refine ⟨_, rfl, hK _ _ ?_⟩
      simp only [List.set_cons_succ, List.set_cons_zero]
      refine wpAny_ready (rs := [5]) (by kernel_rfl) (by simp) (wantL (i := 5) 89 rfl rfl (by rfl) (fun K hK => ?_) AllReady.nil)
      refine wp_of_step (step_call rfl 33 Try.func33 (by kernel_rfl) rfl _ _ rfl #[.slice P1 l0.length p1, t1.val, .int .i64 x2] (by simp [Act.eval]) (impl_AdmitTask P1 l0 t1 p1 x2 _ o1.ts (by omega) (own_size o1).1) ?_)
      rintro e v9 ⟨P9, p9, rfl, o9, b9⟩
      have o9 := own_base o9 C.size
      have C := bthru C b9
      refine ⟨_, rfl, hK _ _ ?_⟩
      simp only [List.set_cons_succ, List.set_cons_zero]
      refine takeL (i := 6) 83 (.tuple #[.slice P9 (admL l0 t1 x2).length p9, .bool (admitT l0 t1 x2).isSome]) rfl rfl (by kernel_rfl) (by kernel_rfl) (by kernel_rfl) (fun _ _ _ h => h) (.inl ⟨by rfl, fun _ => rfl⟩) ?_
      simp only [List.set_cons_succ, List.set_cons_zero]
      refine takeL (i := 7) 90 (.slice P9 (admL l0 t1 x2).length p9) rfl rfl (by kernel_rfl) (by kernel_rfl) (by kernel_rfl) (fun _ _ _ h => h) (.inl ⟨by rfl, fun _ => rfl⟩) ?_
      simp only [List.set_cons_succ, List.set_cons_zero]
      refine takeL (i := 8) 91 (.bool (admitT l0 t1 x2).isSome) rfl rfl (by kernel_rfl) (by kernel_rfl) (by kernel_rfl) (fun _ _ _ h => h) (.inl ⟨by rfl, fun _ => rfl⟩) ?_
      simp only [List.set_cons_succ, List.set_cons_zero]
      refine takeL (i := 9) 16 (.slice P9 (admL l0 t1 x2).length p9) rfl rfl (by kernel_rfl) (by kernel_rfl) (by kernel_rfl) (fun _ _ _ h => h) (.inl ⟨by rfl, fun _ => rfl⟩) ?_
      simp only [List.set_cons_succ, List.set_cons_zero]
      refine takeL (i := 10) 17 (.bool (admitT l0 t1 x2).isSome) rfl rfl (by kernel_rfl) (by kernel_rfl) (by kernel_rfl) (fun _ _ _ h => h) (.inl ⟨by rfl, fun _ => rfl⟩) ?_
      simp only [List.set_cons_succ, List.set_cons_zero]
      refine wpAny_done (by kernel_rfl) ?_ _
      go_wp2_with fail
      go_meet
      exact ⟨P9, p9, rfl, rfl, o9, C⟩
    · obtain ⟨k0, k1, k2, k3, k4⟩ := hTC _ (bthru Bw10 C)
      go_simp
      refine hK _ _ ?_
      simp only [List.set_cons_succ, List.set_cons_zero]
      clear k0 k1 k2 k3 k4
      refine wpAny_ready (rs := [1]) (by kernel_rfl) (by simp) (wantL (i := 1) 85 rfl rfl (by rfl) (fun K hK => ?_) AllReady.nil)
      refine wp_of_step (step_call rfl 31 Try.func31 (by kernel_rfl) rfl _ _ rfl #[.slice A0 l0.length c0] (by simp [Act.eval]) (laws_toTaskS A0 l0 c0 _ (h0.keep (bthru Bw10 C)) hs0) ?_)
      rintro e v1 ⟨P1, p1, rfl, o1, b1⟩
      have C := bthru C b1
      refine ⟨_, rfl, hK _ _ ?_⟩
      simp only [List.set_cons_succ, List.set_cons_zero]
      refine wpAny_ready (rs := [3]) (by kernel_rfl) (by simp) (wantL (i := 3) 87 rfl rfl (by rfl) (fun K hK => ?_) AllReady.nil)
      refine wp_of_step (step_call rfl 32 Try.func32 (by kernel_rfl) rfl _ _ rfl #[t1.val] (by simp [Act.eval, Tk.val]) (laws_toTask t1 _) ?_)
      rintro e v3 ⟨rfl, b3⟩
      have C := bthru C b3
      have o1 := OT_keep o1 b3
      refine ⟨_, rfl, hK _ _ ?_⟩
      simp only [List.set_cons_succ, List.set_cons_zero]
      refine wpAny_ready (rs := [5]) (by kernel_rfl) (by simp) (wantL (i := 5) 89 rfl rfl (by rfl) (fun K hK => ?_) AllReady.nil)
      refine wp_of_step (step_call rfl 33 Try.func33 (by kernel_rfl) rfl _ _ rfl #[.slice P1 l0.length p1, t1.val, .int .i64 x2] (by simp [Act.eval]) (impl_AdmitTask P1 l0 t1 p1 x2 _ o1.ts (by omega) (own_size o1).1) ?_)
      rintro e v9 ⟨P9, p9, rfl, o9, b9⟩
      have o9 := own_base o9 C.size
      have C := bthru C b9
      refine ⟨_, rfl, hK _ _ ?_⟩
      simp only [List.set_cons_succ, List.set_cons_zero]
      refine takeL (i := 6) 83 (.tuple #[.slice P9 (admL l0 t1 x2).length p9, .bool (admitT l0 t1 x2).isSome]) rfl rfl (by kernel_rfl) (by kernel_rfl) (by kernel_rfl) (fun _ _ _ h => h) (.inl ⟨by rfl, fun _ => rfl⟩) ?_
      simp only [List.set_cons_succ, List.set_cons_zero]
      refine takeL (i := 7) 90 (.slice P9 (admL l0 t1 x2).length p9) rfl rfl (by kernel_rfl) (by kernel_rfl) (by kernel_rfl) (fun _ _ _ h => h) (.inl ⟨by rfl, fun _ => rfl⟩) ?_
      simp only [List.set_cons_succ, List.set_cons_zero]
      refine takeL (i := 8) 91 (.bool (admitT l0 t1 x2).isSome) rfl rfl (by kernel_rfl) (by kernel_rfl) (by kernel_rfl) (fun _ _ _ h => h) (.inl ⟨by rfl, fun _ => rfl⟩) ?_
      simp only [List.set_cons_succ, List.set_cons_zero]
      refine takeL (i := 9) 16 (.slice P9 (admL l0 t1 x2).length p9) rfl rfl (by kernel_rfl) (by kernel_rfl) (by kernel_rfl) (fun _ _ _ h => h) (.inl ⟨by rfl, fun _ => rfl⟩) ?_
      simp only [List.set_cons_succ, List.set_cons_zero]
      refine takeL (i := 10) 17 (.bool (admitT l0 t1 x2).isSome) rfl rfl (by kernel_rfl) (by kernel_rfl) (by kernel_rfl) (fun _ _ _ h => h) (.inl ⟨by rfl, fun _ => rfl⟩) ?_
      simp only [List.set_cons_succ, List.set_cons_zero]
      refine wpAny_done (by kernel_rfl) ?_ _
      go_wp2_with fail
      go_meet
      exact ⟨P9, p9, rfl, rfl, o9, C⟩
  obtain ⟨Pw12_0, pw12_0, rfl, rfl, ow12_0, bw12⟩ := hcut
  obtain ⟨w12, rfl⟩ : ∃ x : World, x = wc := ⟨_, rfl⟩
  have ow0_w12 := OT_keep ow0_w10 bw12
  clear ow0_w10
  have ox0_w12 := OT_keep ox0_w10 bw12
  clear ox0_w10
  have og0_w12 := OT_keep ow10 bw12
  clear ow10
  have rw12_0 : Rng Pw12_0 w10.heap.size w12.heap.size := OT_rng ow12_0
  have zw12 : w10.heap.size ≤ w12.heap.size := bw12.size
  have Bw12 : Below w0.heap.size w0 w12 := bthru Bw10 bw12
  obtain ⟨k0, k1, k2, k3, k4⟩ := hTC _ Bw12
  go_wp2_with fail
  clear k0 k1 k2 k3 k4
  refine (laws_eqTaskS Pw12_0 Pw1_0 (admL l0 t1 x2) (admL l0 t1 x2) pw12_0 pw1_0 _ ow12_0.ts ow0_w12.ts (by have := admL_short l0 t1 x2; omega)).mono ?_
  rintro e w13 ⟨rfl, bw13⟩
  simp only [decide_true]
  have ow0_w13 := OT_keep ow0_w12 bw13
  clear ow0_w12
  have ox0_w13 := OT_keep ox0_w12 bw13
  clear ox0_w12
  have og0_w13 := OT_keep og0_w12 bw13
  clear og0_w12
  have oh0_w13 := OT_keep ow12_0 bw13
  clear ow12_0
  have Bw13 : Below w0.heap.size w0 w13 := bthru Bw12 bw13
  obtain ⟨k0, k1, k2, k3, k4⟩ := hTC _ Bw13
  go_wp2_with fail
  clear k0 k1 k2 k3 k4
  refine (laws_heldTaskS Pw4_0 ((admL l0 t1 x2).length) pw4_0 1 _ og0_w13.ts (by have := admL_short l0 t1 x2; omega) (by have := admL_short l0 t1 x2; omega) (by have := admL_short l0 t1 x2; omega)).mono ?_
  rintro e w14 ⟨rfl, rfl⟩
  obtain ⟨k0, k1, k2, k3, k4⟩ := hTC _ Bw13
  go_wp2_with fail
  clear k0 k1 k2 k3 k4
  go_ret
  exact ⟨rfl, by rw [hnB]; exact Bw0.trans ((Bw13).mono (Nat.le_of_lt hz0))⟩

open Go.ChangeShapes Go.WideShapes Go.ChangeAt Go.WideElems Go.Deep

set_option maxRecDepth 100000 in
theorem FnExactAdmitTask_lifted (os : Os) (started : os.Started) (H : Type) (enc : TypeId × Value → H) :
    ReturnsInHanded {} Try.checked os 3 .any (Rows.fnExactAdmitTaskSpec.pre6 enc Try.prog Try.f3 Rows.fnExactAdmitTaskRow.domain false) (Rows.fnExactAdmitTaskSpec.post enc Try.prog Try.f3 false true false false) := by
  refine returnsInHanded_of_change (C := Try.checked) own started (by as_aux_lemma => kernel_rfl) Try.func3
    (ChangeSpec.witness6 (enc := enc) (C := Try.checked) false ⟨#[], #[.slice none 0 0, .agg #[.int .i64 0, .int .i64 0, .int .i64 0, .int .i64 0, .bool false], .int .i64 0], []⟩ 8 (by as_aux_lemma => kernel_rfl) (by as_aux_lemma => kernel_rfl) (by as_aux_lemma => kernel_rfl) (by as_aux_lemma => kernel_rfl)) ?_
  intro W base args ds gs before hval0 hW _ _
  have hval : ∀ (j : Nat) t v, Try.f3.params[j]? = some t → args[j]? = some v → Value.okWide Try.prog W .any base t v := hval0
  have hW' := hW
  obtain ⟨p, q, hA0, hV, rfl, _, _⟩ := hW
  have hA : DataW.TrodAll enc Try.prog W 0 (fun _ => true) true Try.f3.params.toList args.toList ds p := hA0
  rw [Try.params3] at hA hval
  obtain ⟨v0, v1, v2, d0, d1, d2, p0, p1, p2, rfl, rfl, rfl, h0, h1, h2⟩ := trodAll_three hA
  obtain ⟨rfl, rfl⟩ := trodVars_none hV
  clear hA0 hval0
  simp only [List.append_nil] at hW'
  have hlt : ∀ x ∈ p0 ++ (p1 ++ p2), x.block < W.heap.size := fun x hx => hW'.lt x (by simpa using hx)
  have hargs : ∀ W', Below W.heap.size W W' → DataW.TrodAll enc Try.prog W' 0 (fun b => decide (b < W.heap.size)) true [22, 24, 3] [v0, v1, v2] [d0, d1, d2] (p0 ++ (p1 ++ p2)) := fun W' hb =>
    trodAll_mk3 (Below.trod laidOut (by as_aux_lemma => kernel_rfl) (of_decide_eq_true (by as_aux_lemma => kernel_rfl)) h0 hb (fun x hx => hlt x (by simp [hx]))) (Below.trod laidOut (by as_aux_lemma => kernel_rfl) (of_decide_eq_true (by as_aux_lemma => kernel_rfl)) h1 hb (fun x hx => hlt x (by simp [hx]))) (Below.trod laidOut (by as_aux_lemma => kernel_rfl) (of_decide_eq_true (by as_aux_lemma => kernel_rfl)) h2 hb (fun x hx => hlt x (by simp [hx])))
  obtain ⟨A0, l0, c0, rfl, hl0, hlm0⟩ := open_tasks Try.underlying22 Try.underlying24 (by as_aux_lemma => kernel_rfl) (by as_aux_lemma => kernel_rfl) Try.underlying3 Try.underlying4 rfl rfl rfl rfl rfl (okWide_slice Try.underlying22 (hval 0 _ v0 rfl rfl)) h0
  obtain ⟨t1, rfl⟩ := open_task Try.underlying24 (by as_aux_lemma => kernel_rfl) (by as_aux_lemma => kernel_rfl) Try.underlying3 Try.underlying4 rfl rfl rfl rfl rfl (okWide_struct Try.underlying24 (hval 1 _ v1 rfl rfl)) h1
  obtain ⟨x2, rfl, _, _, wx2⟩ := open_int Try.underlying3 (hval 2 _ v2 rfl rfl) h2
  refine (law_FnExactAdmitTask A0 l0 c0 t1 x2 W hl0 hlm0 wx2).mono fun e W' ⟨he, hb⟩ => ?_
  subst he
  exact ⟨_, rfl, ⟨_, _, _, [], _, [], hW', trodAll_mk1 (shut_bool Try.underlying4 _), hargs W' hb, rfl, hb.frame _, fun h => by cases h⟩⟩

theorem FnExactAdmitTask_joined : joinedFacts Try.prog 3 Try.f3 Rows.fnExactAdmitTaskSpec Rows.fnExactAdmitTaskRow = true :=
  joined_mk (by as_aux_lemma => kernel_rfl) laidOut mapsRowed_ok (by as_aux_lemma => kernel_rfl) (by as_aux_lemma => kernel_rfl) (by as_aux_lemma => kernel_rfl) stops_ok (by as_aux_lemma => kernel_rfl) knobs_ok (by as_aux_lemma => kernel_rfl) (by as_aux_lemma => kernel_rfl) (by as_aux_lemma => kernel_rfl) (by as_aux_lemma => kernel_rfl) (by as_aux_lemma => kernel_rfl) (by as_aux_lemma => kernel_rfl) (by as_aux_lemma => kernel_rfl) (by as_aux_lemma => kernel_rfl) (by as_aux_lemma => kernel_rfl) (by as_aux_lemma => kernel_rfl) (by as_aux_lemma => kernel_rfl) (by as_aux_lemma => kernel_rfl) (by as_aux_lemma => kernel_rfl) (by rw [keys_ok]; rfl) (by as_aux_lemma => kernel_rfl) heard_ok enter_ok (by rw [lifts_ok]; rfl) (by rw [make_ok]; rfl) (by as_aux_lemma => kernel_rfl) (by as_aux_lemma => kernel_rfl) (by as_aux_lemma => kernel_rfl) (by as_aux_lemma => kernel_rfl)

theorem FnExactAdmitTask_holds : Rows.FnExactAdmitTaskSaid :=
  OpenClaim.holds_of_wide 3 Try.f3 rfl rfl rfl rfl rfl rfl rfl ⟨rfl, rfl, rfl, rfl, rfl⟩ rfl rfl rfl rfl rfl (by as_aux_lemma => kernel_rfl) Try.func3 FnExactAdmitTask_joined
    (of_decide_eq_true (by as_aux_lemma => kernel_rfl)) (by unfold Func.isWrapper; rw [if_neg (by decide +kernel)]; exact ⟨rfl, rfl⟩)
    (fun os started H enc _ => FnExactAdmitTask_lifted os started H enc)
#print axioms FnExactAdmitTask_holds
end Go.Proofs.Ytnldiakjmhfodaa
