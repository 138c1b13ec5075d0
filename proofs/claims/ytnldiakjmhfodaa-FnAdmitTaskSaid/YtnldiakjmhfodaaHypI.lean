/-
  The hyperperiod: the program's. (Printed by gen_hyp.py.)
-/
import Derived.Test.YtnldiakjmhfodaaAdmT
import Derived.Test.YtnldiakjmhfodaaSumOf
import Derived.Test.YtnldiakjmhfodaaStep
import Derived.Test.YtnldiakjmhfodaaTake
import Derived.Deep.Cut
namespace Go.Proofs.Ytnldiakjmhfodaa
open Go.RowKit

theorem hyp_snoc (l : List Tk) (t : Tk) : hyp (l ++ [t]) = Nat.lcm (hyp l) t.every.toNat := by simp [hyp, List.foldl_append]
theorem hyp_bd {l : List Tk} (h : ∀ t ∈ l, vld t = true) : ∀ k, k ≤ l.length → 1 ≤ hyp (l.take k) ∧ hyp (l.take k) ≤ 20 ^ k := by
  intro k
  induction k with
  | zero => intro _; simp [hyp]
  | succ k ih =>
    intro hk
    obtain ⟨i1, i2⟩ := ih (by omega)
    have hv := vld_bd (h _ (List.getElem_mem (show k < l.length by omega)))
    rw [List.take_succ_eq_append_getElem (by omega), hyp_snoc]
    have e20 : l[k].every.toNat ≤ 20 := by omega
    have e1 : 0 < l[k].every.toNat := by omega
    refine ⟨Nat.lcm_pos i1 e1, ?_⟩
    have h1 : Nat.lcm (hyp (l.take k)) l[k].every.toNat ≤ hyp (l.take k) * l[k].every.toNat := Nat.le_of_dvd (Nat.mul_pos i1 e1) (Nat.lcm_dvd (Nat.dvd_mul_right _ _) (Nat.dvd_mul_left _ _))
    have h2 : hyp (l.take k) * l[k].every.toNat ≤ 20 ^ k * 20 := Nat.mul_le_mul i2 e20
    rw [Nat.pow_succ]
    omega
theorem lcm_div (a e : Nat) : a / Nat.gcd a e * e = Nat.lcm a e := by
  rw [Nat.lcm, Nat.mul_comm a e, Nat.mul_div_assoc _ (Nat.gcd_dvd_left a e), Nat.mul_comm]

set_option maxHeartbeats 2000000 in
set_option maxRecDepth 100000 in
theorem impl_HyperOf (A : Option Addr) (l : List Tk) (c : Nat) (w : World) (h : TS w A l) (hs : setVld l = true) :
    Calls Try.prog 59 #[.slice A l.length c] w fun e w' => e = .returned (.int .i64 (hyp l : Int)) ∧ Below w.heap.size w w' := by
  obtain ⟨hl5, hall⟩ := setVld_all hs
  have Hbd := Lib.hid (hyp_bd hall)
  have Hall := Lib.hid hall
  have HS := Lib.hid hs
  clear hs hall
  go_enter Try.func59, Try.ntmps59
  go_wp2_with fail
  refine (impl_SetValid A l c _ h).mono ?_
  rw [HS.out]
  rintro e w1 ⟨rfl, b1⟩
  go_wp2_with fail
  go_loopw [3, 11] (fun v i wr => ∃ (k a : Nat), v = .int .i64 (a : Int) ∧ i = .int .i64 (k : Int) ∧ k ≤ l.length ∧ Hid (hyp (l.take k) = a) ∧ Below w.heap.size w wr) (fun _ i _ => l.length - (intOf i).toNat)
  case atStart => exact ⟨0, 1, rfl, rfl, by omega, rfl, b1⟩
  case round =>
    obtain ⟨k, a, rfl, rfl, hk, ha, hb⟩ := hrel
    by_cases hlt : k < l.length
    · obtain ⟨b, off, rfl, hbl, hc⟩ := h.keep hb (by omega)
      obtain ⟨c0, c1, c2, c3, c4⟩ := task_cells hc k hlt
      clear hc
      have hvk := vld_bd (Hall.out _ (List.getElem_mem hlt))
      have hbk := Hbd.out k hk
      rw [ha.out] at hbk
      have hp5 : 20 ^ k ≤ 160000 := Nat.le_trans (Nat.pow_le_pow_right (by omega) (show k ≤ 4 by omega)) (by decide)
      have hn : hyp (l.take (k + 1)) = a / Nat.gcd a l[k].every.toNat * l[k].every.toNat := by
        rw [List.take_succ_eq_append_getElem hlt, hyp_snoc, ha.out, lcm_div]
      generalize l[k] = t at c0 c1 c2 c3 c4 hvk hn
      obtain ⟨v0, v1, v2, v3, v4⟩ := hvk
      obtain ⟨ev, hev⟩ : ∃ ev : Nat, t.every = (ev : Int) := ⟨t.every.toNat, by omega⟩
      have hen : t.every.toNat = ev := by omega
      rw [hen] at hn
      rw [hev] at c3 v3 v4
      obtain ⟨gd, hgd⟩ : ∃ gd, Nat.gcd a ev = gd := ⟨_, rfl⟩
      rw [hgd] at hn
      have hg1 : 0 < gd := by rw [← hgd]; exact Nat.gcd_pos_of_pos_left _ (by omega)
      have hqa : a / gd ≤ a := Nat.div_le_self _ _
      obtain ⟨q, hq⟩ : ∃ q, a / gd = q := ⟨_, rfl⟩
      obtain ⟨n, hnn⟩ : ∃ n, q * ev = n := ⟨_, rfl⟩
      rw [hq, hnn] at hn
      rw [hq] at hqa
      have hqn : q * ev ≤ 160000 * 20 := Nat.mul_le_mul (by omega) (by omega)
      rw [hnn] at hqn
      have HGd := Lib.hid hgd
      have Hn := Lib.hid hn
      have zg : (((gd : Nat) : Int) == 0) = false := beq_eq_false_iff_ne.2 (by omega)
      have eq1 : (a : Int).tdiv (gd : Int) = (q : Int) := by rw [← hq]; rfl
      have eq2 : (q : Int) * (ev : Int) = (n : Int) := by rw [← hnn]; rfl
      have eq3 : IntKind.i64.wrap (q : Int) = (q : Int) := IntWalk.i64_in _ (by omega)
      have eq4 : IntKind.i64.wrap (n : Int) = (n : Int) := IntWalk.i64_in _ (by omega)
      clear hgd hn hq hnn ha hen
      obtain ⟨wy, rfl⟩ : ∃ wy : World, wy = wr := ⟨_, rfl⟩
      go_upto_region 7 with fail
      have hz1 : wy.heap.size < (wy.alloc (.cells #[.int .i64 t.low, .int .i64 t.high, .int .i64 t.due, .int .i64 (ev : Int), .bool t.crit] 30)).heap.size := by simp
      have hN := heap_alloc_new wy (.cells #[.int .i64 t.low, .int .i64 t.high, .int .i64 t.due, .int .i64 (ev : Int), .bool t.crit] 30)
      have hb := bal hb (.cells #[.int .i64 t.low, .int .i64 t.high, .int .i64 t.due, .int .i64 (ev : Int), .bool t.crit] 30)
      generalize World.alloc wy _ = wb at hz1 hN hb ⊢
      generalize wy.heap.size = nb at hz1 hN ⊢
      clear c0 c1 c2 c3 c4
      have hcell : ∀ w', Below wb.heap.size wb w' → w'.cell? ⟨nb, 3, none⟩ = some (.int .i64 (ev : Int)) := fun w' hw => by
        rw [hw.cell (p := ⟨nb, 3, none⟩) hz1, cell_of_row wb nb 3 _ _ _ hN]
        rfl
      refine wp_region_any (by kernel_rfl) ?_
      refine takeL (i := 0) 15 (.int .i64 (a : Int)) rfl rfl (by kernel_rfl) (by kernel_rfl) (by kernel_rfl) (fun _ _ _ h => h) (.inl ⟨by rfl, fun _ => rfl⟩) ?_
      simp only [List.set_cons_succ, List.set_cons_zero]
      refine takeL (i := 1) 16 (.int .i64 (a : Int)) rfl rfl (by kernel_rfl) (by kernel_rfl) (by kernel_rfl) (fun _ _ _ h => h) (.inl ⟨by rfl, fun _ => rfl⟩) ?_
      simp only [List.set_cons_succ, List.set_cons_zero]
      refine takeL (i := 2) 17 (.pointer (some ⟨nb, 3, none⟩)) rfl rfl (by kernel_rfl) (by kernel_rfl) (by kernel_rfl) (fun _ _ _ h => h) (.inl ⟨by rfl, fun w => by go_simp⟩) ?_
      simp only [List.set_cons_succ, List.set_cons_zero]
      refine takeL (i := 6) 21 (.pointer (some ⟨nb, 3, none⟩)) rfl rfl (by kernel_rfl) (by kernel_rfl) (by kernel_rfl) (fun _ _ _ h => h) (.inl ⟨by rfl, fun w => by go_simp⟩) ?_
      simp only [List.set_cons_succ, List.set_cons_zero]
      refine wpAny_ready (rs := [3, 7]) (by kernel_rfl) (by simp) (wantL (i := 3) 18 rfl rfl (by rfl) (fun K hK => ?_) (wantL (i := 7) 22 rfl rfl (by rfl) (fun K hK => ?_) AllReady.nil))
      · have c := hcell _ (Below.drew (Below.refl _ _))
        go_simp
        refine hK _ _ ?_
        simp only [List.set_cons_succ, List.set_cons_zero]
        clear c
        refine wpAny_ready (rs := [4, 7]) (by kernel_rfl) (by simp) (wantL (i := 4) 19 rfl rfl (by rfl) (fun K hK => ?_) (wantL (i := 7) 22 rfl rfl (by rfl) (fun K hK => ?_) AllReady.nil))
        · refine wp_of_step (step_call rfl 102 Try.func102 (by kernel_rfl) rfl _ _ rfl #[.int .i64 ((a : Nat) : Int), .int .i64 ((ev : Nat) : Int)] (by simp [Act.eval]) (impl_common a ev _ (by omega) (by omega)) ?_)
          rintro e w7 ⟨rfl, b7⟩
          rw [HGd.out]
          have B7 : Below wb.heap.size wb w7 := bthru (Below.drew (Below.refl _ _)) b7
          refine ⟨_, rfl, hK _ _ ?_⟩
          simp only [List.set_cons_succ, List.set_cons_zero]
          refine takeL (i := 5) 20 (.int .i64 (q : Int)) rfl rfl (by kernel_rfl) (by kernel_rfl) (by kernel_rfl) (fun _ _ _ h => h) (.inl ⟨by rfl, fun w => by go_simp; omega⟩) ?_
          simp only [List.set_cons_succ, List.set_cons_zero]
          refine wpAny_ready (rs := [7]) (by kernel_rfl) (by simp) (wantL (i := 7) 22 rfl rfl (by rfl) (fun K hK => ?_) AllReady.nil)
          have c := hcell _ B7
          go_simp
          refine hK _ _ ?_
          simp only [List.set_cons_succ, List.set_cons_zero]
          clear c
          refine takeL (i := 8) 23 (.int .i64 (n : Int)) rfl rfl (by kernel_rfl) (by kernel_rfl) (by kernel_rfl) (fun _ _ _ h => h) (.inl ⟨by rfl, fun w => by go_simp⟩) ?_
          simp only [List.set_cons_succ, List.set_cons_zero]
          refine takeL (i := 9) 3 (.int .i64 (n : Int)) rfl rfl (by kernel_rfl) (by kernel_rfl) (by kernel_rfl) (fun _ _ _ h => h) (.inl ⟨by rfl, fun _ => rfl⟩) ?_
          simp only [List.set_cons_succ, List.set_cons_zero]
          refine wpAny_done (by kernel_rfl) ?_ _
          go_wp2_with fail
          go_roundw
          case rel => exact ⟨k + 1, n, rfl, by go_num, by omega, Hn.out, bthru hb B7⟩
          case measure => simp [intOf]; omega
        · have c := hcell _ (Below.drew (Below.refl _ _))
          go_simp
          refine hK _ _ ?_
          simp only [List.set_cons_succ, List.set_cons_zero]
          clear c
          refine wpAny_ready (rs := [4]) (by kernel_rfl) (by simp) (wantL (i := 4) 19 rfl rfl (by rfl) (fun K hK => ?_) AllReady.nil)
          refine wp_of_step (step_call rfl 102 Try.func102 (by kernel_rfl) rfl _ _ rfl #[.int .i64 ((a : Nat) : Int), .int .i64 ((ev : Nat) : Int)] (by simp [Act.eval]) (impl_common a ev _ (by omega) (by omega)) ?_)
          rintro e w7 ⟨rfl, b7⟩
          rw [HGd.out]
          have B7 : Below wb.heap.size wb w7 := bthru (Below.drew (Below.refl _ _)) b7
          refine ⟨_, rfl, hK _ _ ?_⟩
          simp only [List.set_cons_succ, List.set_cons_zero]
          refine takeL (i := 5) 20 (.int .i64 (q : Int)) rfl rfl (by kernel_rfl) (by kernel_rfl) (by kernel_rfl) (fun _ _ _ h => h) (.inl ⟨by rfl, fun w => by go_simp; omega⟩) ?_
          simp only [List.set_cons_succ, List.set_cons_zero]
          refine takeL (i := 8) 23 (.int .i64 (n : Int)) rfl rfl (by kernel_rfl) (by kernel_rfl) (by kernel_rfl) (fun _ _ _ h => h) (.inl ⟨by rfl, fun w => by go_simp⟩) ?_
          simp only [List.set_cons_succ, List.set_cons_zero]
          refine takeL (i := 9) 3 (.int .i64 (n : Int)) rfl rfl (by kernel_rfl) (by kernel_rfl) (by kernel_rfl) (fun _ _ _ h => h) (.inl ⟨by rfl, fun _ => rfl⟩) ?_
          simp only [List.set_cons_succ, List.set_cons_zero]
          refine wpAny_done (by kernel_rfl) ?_ _
          go_wp2_with fail
          go_roundw
          case rel => exact ⟨k + 1, n, rfl, by go_num, by omega, Hn.out, bthru hb B7⟩
          case measure => simp [intOf]; omega
      · have c := hcell _ (Below.drew (Below.refl _ _))
        go_simp
        refine hK _ _ ?_
        simp only [List.set_cons_succ, List.set_cons_zero]
        clear c
        refine wpAny_ready (rs := [3]) (by kernel_rfl) (by simp) (wantL (i := 3) 18 rfl rfl (by rfl) (fun K hK => ?_) AllReady.nil)
        have c := hcell _ (Below.drew (Below.refl _ _))
        go_simp
        refine hK _ _ ?_
        simp only [List.set_cons_succ, List.set_cons_zero]
        clear c
        refine wpAny_ready (rs := [4]) (by kernel_rfl) (by simp) (wantL (i := 4) 19 rfl rfl (by rfl) (fun K hK => ?_) AllReady.nil)
        refine wp_of_step (step_call rfl 102 Try.func102 (by kernel_rfl) rfl _ _ rfl #[.int .i64 ((a : Nat) : Int), .int .i64 ((ev : Nat) : Int)] (by simp [Act.eval]) (impl_common a ev _ (by omega) (by omega)) ?_)
        rintro e w7 ⟨rfl, b7⟩
        rw [HGd.out]
        have B7 : Below wb.heap.size wb w7 := bthru (Below.drew (Below.refl _ _)) b7
        refine ⟨_, rfl, hK _ _ ?_⟩
        simp only [List.set_cons_succ, List.set_cons_zero]
        refine takeL (i := 5) 20 (.int .i64 (q : Int)) rfl rfl (by kernel_rfl) (by kernel_rfl) (by kernel_rfl) (fun _ _ _ h => h) (.inl ⟨by rfl, fun w => by go_simp; omega⟩) ?_
        simp only [List.set_cons_succ, List.set_cons_zero]
        refine takeL (i := 8) 23 (.int .i64 (n : Int)) rfl rfl (by kernel_rfl) (by kernel_rfl) (by kernel_rfl) (fun _ _ _ h => h) (.inl ⟨by rfl, fun w => by go_simp⟩) ?_
        simp only [List.set_cons_succ, List.set_cons_zero]
        refine takeL (i := 9) 3 (.int .i64 (n : Int)) rfl rfl (by kernel_rfl) (by kernel_rfl) (by kernel_rfl) (fun _ _ _ h => h) (.inl ⟨by rfl, fun _ => rfl⟩) ?_
        simp only [List.set_cons_succ, List.set_cons_zero]
        refine wpAny_done (by kernel_rfl) ?_ _
        go_wp2_with fail
        go_roundw
        case rel => exact ⟨k + 1, n, rfl, by go_num, by omega, Hn.out, bthru hb B7⟩
        case measure => simp [intOf]; omega
    · obtain rfl : k = l.length := by omega
      have hh : Hid (hyp l = a) := by rw [Hid, ← ha.out, List.take_length]
      go_wp2_with fail
      go_ret
      exact ⟨by rw [hh.out]; rfl, hb⟩
end Go.Proofs.Ytnldiakjmhfodaa
