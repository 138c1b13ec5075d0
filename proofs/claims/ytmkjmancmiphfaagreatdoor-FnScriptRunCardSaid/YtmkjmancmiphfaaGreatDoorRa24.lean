/-
  SortDue: the program's (the library's sort by its kit contract, at tasks).
  Texts of jobs: the program's.
  l9Case: drawn tasks, ways, processors and policies; DrawPackValid, DrawGroupOf.
  l1Some: drawn tasks, sometimes ones that are not valid; l3Case, DrawLeaveTask.
  The helpers of the exact laws: copies, comparisons, sizes.
  Jobs compared, drawn, and at the desk: the words rule, worst, show.
-/
import Derived.Test.YtmkjmancmiphfaaGreatDoorRa23
import Derived.Test.YtmkjmancmiphfaaGreatDoorRa04
import Derived.Test.YtmkjmancmiphfaaGreatDoorRa03
import Derived.Test.YtmkjmancmiphfaaGreatDoorRa01
import Derived.Test.YtmkjmancmiphfaaGreatDoorRa05
import Derived.Lib.QuietBelow
import Derived.Lib.AppendIntMem
import Derived.Lib.OwnBridge
import Derived.Test.YtmkjmancmiphfaaGreatDoorRa08
import Derived.Test.YtmkjmancmiphfaaGreatDoorRa22
import Derived.Deep.RegionWith
namespace Go.Proofs.YtmkjmancmiphfaaGreatDoor
section
open Go.RowKit

theorem oneHL {P : Program} {md : Region.Mode} {ops : Array Oper} {Q : Exit → Act → World → Prop} {S : World → Prop} (i : Nat) (d : Tmp) {L : List Value} {df : List Deferred} {o : Oper} {fuel : Nat} {listed : Array Bool} {w : World}
    (hi : ops[i]? = some o) (_hd : o.dst = some d) (hr : Region.ready md ops listed = [i]) (hw : Region.wanted o (yielded ops L.toArray) = true)
    (h : ∀ K' : Act → World → Prop, (∀ v w', S w' → wpAnyH P md ops Q S fuel (listed.setIfInBounds i true) ⟨(L.set d v).toArray, df⟩ w' → K' ((⟨L.toArray, df⟩ : Act).put (some d) v) w') → Oper.wp P o ⟨L.toArray, df⟩ w K' Q) : wpAnyH P md ops Q S (fuel + 1) listed ⟨L.toArray, df⟩ w := by
  refine wpAnyH_all hr (by simp) ?_
  intro j hj
  rw [List.mem_singleton] at hj
  subst hj
  unfold wpOp
  simp only [hi]
  rw [if_pos hw]
  exact .inl (h _ (fun v w' s k => ⟨s, by simpa [Act.put] using k⟩))
end

section
open Go.RowKit

theorem blk_three {w : World} {b : Nat} {v0 v1 v2 : Value} {t : TypeId} (h : w.heap[b]? = some (.cells #[v0, v1, v2] t (0, 0))) :
    w.cell? ⟨b, 0, none⟩ = some v0 ∧ w.cell? ⟨b, 1, none⟩ = some v1 ∧ w.cell? ⟨b, 2, none⟩ = some v2 := by
  refine ⟨?_, ?_, ?_⟩ <;> (rw [Lib.cell_of_heap h]; rfl)
theorem told_all {js : List Jb} (h : toldB js = true) : js.length ≤ 60 ∧ ∀ t ∈ js, toldJ t = true := by
  simp only [toldB, Bool.and_eq_true, decide_eq_true_eq, List.all_eq_true] at h
  exact ⟨h.2, h.1⟩
set_option maxHeartbeats 2000000 in
theorem impl_told (A : Option Addr) (js : List Jb) (c : Nat) (w : World) (h : JS w A js) (ht : toldB js = true) :
    Calls Tryz.prog 37 #[.slice A js.length c] w fun e w' => e = .returned (.bool true) ∧ Below w.heap.size w w' := by
  obtain ⟨hl, hall⟩ := told_all ht
  have Hall := Lib.hid hall
  clear hall ht
  go_enter Tryz.func37, Tryz.ntmps37
  go_wp2_with fail
  go_loopw [7] (fun i wr => ∃ k : Nat, i = .int .i64 (k : Int) ∧ k ≤ js.length ∧ Below w.heap.size w wr) (fun i _ => js.length - (intOf i).toNat)
  case atStart => exact ⟨0, rfl, by omega, Below.refl _ _⟩
  case round =>
    obtain ⟨k, rfl, hk, hb⟩ := hrel
    by_cases hlt : k < js.length
    · obtain ⟨b, off, rfl, hbl, hc⟩ := h.keep hb (by omega)
      obtain ⟨k0, k1, k2⟩ := job_cells hc k hlt
      clear hc
      have hv := (toldJ_iff _).1 (Hall.out _ (List.getElem_mem hlt))
      generalize js[k] = t at k0 k1 k2 hv
      obtain ⟨v1, v2, v3, v4, v5, v6⟩ := hv
      go_wp2_with fail
      go_roundw
      case rel => exact ⟨k + 1, by go_num, by omega, bal hb _⟩
      case measure => simp [intOf]; omega
    · obtain rfl : k = js.length := by omega
      go_wp2_with fail
      go_ret
      exact ⟨by simp; omega, hb⟩
theorem step_app_str {w : World} {o : Oper} {a : Act} {K : Act → World → Prop} {Q : Exit → Act → World → Prop} (s x : Operand)
    (ho : o.op = .call { callee := .builtin .append, args := #[s, x], argTypes := #[69, 69] })
    (base : Nat) (A : Option Addr) (l : List (List UInt8)) (n c : Nat) (hn : l.length = n) (hs : a.eval s = .slice A n c) (hown : OS base w A c l)
    (b c1 : Nat) (y : List UInt8) (ty : TypeId) (hx : a.eval x = .slice (some ⟨b, 0, none⟩) 1 c1) (hb : w.heap[b]? = some (.cells #[.string ⟨y.toArray⟩] ty (0, 0)))
    (hl : l.length ≤ 2000000) (hbase : base ≤ w.heap.size)
    (h : ∀ A' c' w', OS base w' A' c' (l ++ [y]) → w.grownBy w' (Value.slice A n c).ownBlock → Below base w w' → K (a.put o.dst (.slice A' (n + 1) c')) w') : Oper.wp Tryz.prog o a w K Q := by
  subst hn
  obtain ⟨i0, hi, hz0, hz1, hz2⟩ := info_parts infoStr
  refine wp_append_own w s x 69 ho base 9 i0 _ 1 16 Tryz.underlying69 hi hz0 hz1 hz2 rfl (by decide) (.slice A l.length c) l.length (strs l) hs hown
    ⟨b, 0, none⟩ 1 c1 [.string ⟨y.toArray⟩] hx rfl ?_ ?_ (by unfold maxLen; omega) (by omega) hbase ?_
  · intro j u hj
    rw [addr_add0, cell_of_row w b j _ ty (0, 0) hb, ← Array.getElem?_toList]
    exact hj
  · intro u hu
    simp at hu
    subst hu
    rfl
  · intro v' w' hown' hg _
    obtain ⟨A', c', rfl⟩ := own_form hown'
    refine h A' c' w' ?_ hg (own_below hown hg hbase)
    unfold OS
    rw [List.length_append, List.length_singleton]
    have e : strs (l ++ [y]) = strs l ++ [.string ⟨y.toArray⟩] := by simp [strs]
    rw [e]
    exact hown'
set_option maxHeartbeats 4000000 in
set_option maxRecDepth 100000 in
theorem impl_FormatJobs {B : Nat} (A : Option Addr) (js : List Jb) (c : Nat) (w : World) (h : JS w A js) (ht : toldB js = true) (hM : Mx B w) (hB : B ≤ w.heap.size) :
    Calls Tryz.prog 12 #[.slice A js.length c] w fun e w' => e = .returned (.string ⟨(fmtJobs js).toArray⟩) ∧ Below w.heap.size w w' := by
  obtain ⟨hl, hall⟩ := told_all ht
  have HF : Hid (fmtJobs js = jobsT js) := by simp [Hid, fmtJobs, ht]
  have hfl := fmtJobs_le js
  have Hall := Lib.hid hall
  have HT := Lib.hid ht
  clear hall ht
  go_enter Tryz.func12, Tryz.ntmps12
  go_wp2_with fail
  refine (impl_told A js c _ h HT.out).mono ?_
  rintro e w1 ⟨rfl, b1⟩
  go_wp2_with fail
  go_loopw [3, 12] (fun v i wr => ∃ (k bo c' : Nat), i = .int .i64 (k : Int) ∧ v = .slice (some ⟨bo, 0, none⟩) k c' ∧ k ≤ js.length ∧ OS w.heap.size wr (some ⟨bo, 0, none⟩) c' ((js.take k).map jobT) ∧ Below w.heap.size w wr) (fun _ i _ => js.length - (intOf i).toNat)
  case atStart => exact ⟨0, _, 0, rfl, rfl, by omega, OS_blank w1 _ b1.size, bal b1 _⟩
  case round =>
    obtain ⟨k, bo, c', rfl, rfl, hk, hO, hb⟩ := hrel
    by_cases hlt : k < js.length
    · obtain ⟨b, off, rfl, hbl, hc⟩ := h.keep hb (by omega)
      obtain ⟨k0, k1, k2⟩ := job_cells hc k hlt
      clear hc
      have hv := (toldJ_iff _).1 (Hall.out _ (List.getElem_mem hlt))
      have hnx0 : (js.take k).map jobT ++ [jobT js[k]] = (js.take (k + 1)).map jobT := by rw [List.take_succ_eq_append_getElem hlt, List.map_append]; rfl
      generalize js[k] = t at k0 k1 k2 hnx0 hv
      obtain ⟨v1, v2, v3, v4, v5, v6⟩ := hv
      have l1 := num_len t.task (by omega)
      have l2 := num_len t.at_ (by omega)
      have l3 := num_len t.need (by omega)
      have hnx := Lib.hid hnx0
      clear hnx0
      have hkl : Hid (((js.take k).map jobT).length = k) := by rw [Hid, List.length_map, List.length_take]; omega
      have hT := heap_alloc_new wr (.cells #[.int .i64 t.task, .int .i64 t.at_, .int .i64 t.need] 60 (0, 0))
      have hba := bal (Below.refl wr.heap.size wr) (.cells #[.int .i64 t.task, .int .i64 t.at_, .int .i64 t.need] 60 (0, 0))
      have hOa := OS_alloc hO (.cells #[.int .i64 t.task, .int .i64 t.at_, .int .i64 t.need] 60 (0, 0))
      clear hO
      go_upto_region 7 with fail
      generalize World.alloc wr _ = wa at hT hba hOa ⊢
      generalize wr.heap.size = nT at hT ⊢
      have hlT := (Array.getElem?_eq_some_iff.1 hT).1
      clear k0 k1 k2
      refine wp_region_held (S := fun w' => w'.heap[nT]? = some (.cells #[.int .i64 t.task, .int .i64 t.at_, .int .i64 t.need] 60 (0, 0))) (by kernel_rfl) ?_
      change wpAnyH _ _ _ _ _ _ _ _ (World.drew _)
      have Kz : Below wa.heap.size wa (World.drew wa) := Below.drew (Below.refl _ _)
      have hS0 := (Kz.block nT hlT).trans hT
      refine takeHL (i := 0) 16 (.slice (some ⟨bo, 0, none⟩) k c') rfl rfl (by kernel_rfl) (by kernel_rfl) (by kernel_rfl) (fun _ _ _ h => h) (.inl ⟨by rfl, fun _ _ => rfl⟩) hS0 ?_
      simp only [List.set_cons_succ, List.set_cons_zero]
      refine takeHL (i := 1) 17 (.pointer (some ⟨nT, 0, none⟩)) rfl rfl (by kernel_rfl) (by kernel_rfl) (by kernel_rfl) (fun _ _ _ h => h) (.inl ⟨by rfl, fun w _ => by go_simp⟩) hS0 ?_
      simp only [List.set_cons_succ, List.set_cons_zero]
      refine takeHL (i := 2) 18 (.int .i64 t.task) rfl rfl (by kernel_rfl) (by kernel_rfl) (by kernel_rfl) (fun _ _ _ h => h) (.inl ⟨by rfl, fun w hS => by obtain ⟨h0, h1, h2⟩ := blk_three hS; go_simp⟩) hS0 ?_
      simp only [List.set_cons_succ, List.set_cons_zero]
      refine takeHL (i := 5) 21 (.pointer (some ⟨nT, 1, none⟩)) rfl rfl (by kernel_rfl) (by kernel_rfl) (by kernel_rfl) (fun _ _ _ h => h) (.inl ⟨by rfl, fun w _ => by go_simp⟩) hS0 ?_
      simp only [List.set_cons_succ, List.set_cons_zero]
      refine takeHL (i := 6) 22 (.int .i64 t.at_) rfl rfl (by kernel_rfl) (by kernel_rfl) (by kernel_rfl) (fun _ _ _ h => h) (.inl ⟨by rfl, fun w hS => by obtain ⟨h0, h1, h2⟩ := blk_three hS; go_simp⟩) hS0 ?_
      simp only [List.set_cons_succ, List.set_cons_zero]
      refine takeHL (i := 10) 26 (.pointer (some ⟨nT, 2, none⟩)) rfl rfl (by kernel_rfl) (by kernel_rfl) (by kernel_rfl) (fun _ _ _ h => h) (.inl ⟨by rfl, fun w _ => by go_simp⟩) hS0 ?_
      simp only [List.set_cons_succ, List.set_cons_zero]
      refine takeHL (i := 11) 27 (.int .i64 t.need) rfl rfl (by kernel_rfl) (by kernel_rfl) (by kernel_rfl) (fun _ _ _ h => h) (.inl ⟨by rfl, fun w hS => by obtain ⟨h0, h1, h2⟩ := blk_three hS; go_simp⟩) hS0 ?_
      simp only [List.set_cons_succ, List.set_cons_zero]
      refine callHL 3 19 rfl rfl (by kernel_rfl) (by rfl) 38 Tryz.func38 (by kernel_rfl) rfl _ _ rfl _ ?hv (itoa_any (hM.keep (Below.mono (bthru hb (bthru hba Kz)) hB)) t.task (by omega) (by omega)) ?_
      case hv => simp [Act.eval]
      rintro e v1 ⟨rfl, k1⟩
      have K1 : Below wa.heap.size wa v1 := bthru Kz k1
      have S1 := (K1.block nT hlT).trans hT
      refine ⟨_, rfl, S1, ?_⟩
      simp only [List.set_cons_succ, List.set_cons_zero]
      refine takeHL (i := 4) 20 (.string ⟨(num t.task ++ [64]).toArray⟩) rfl rfl (by kernel_rfl) (by kernel_rfl) (by kernel_rfl) (fun _ _ _ h => h) (.inl ⟨by rfl, fun w _ => by go_simp; rw [if_neg (by omega)]; simp [mk_app]⟩) S1 ?_
      simp only [List.set_cons_succ, List.set_cons_zero]
      refine callHL 7 23 rfl rfl (by kernel_rfl) (by rfl) 38 Tryz.func38 (by kernel_rfl) rfl _ _ rfl _ ?hv (itoa_any (hM.keep (Below.mono (bthru hb (bthru hba K1)) hB)) t.at_ (by omega) (by omega)) ?_
      case hv => simp [Act.eval]
      rintro e v2 ⟨rfl, k2⟩
      have K2 : Below wa.heap.size wa v2 := bthru K1 k2
      have S2 := (K2.block nT hlT).trans hT
      refine ⟨_, rfl, S2, ?_⟩
      simp only [List.set_cons_succ, List.set_cons_zero]
      refine takeHL (i := 8) 24 (.string ⟨(num t.task ++ 64 :: num t.at_).toArray⟩) rfl rfl (by kernel_rfl) (by kernel_rfl) (by kernel_rfl) (fun _ _ _ h => h) (.inl ⟨by rfl, fun w _ => by go_simp; rw [if_neg (by omega)]; simp [mk_app]⟩) S2 ?_
      simp only [List.set_cons_succ, List.set_cons_zero]
      refine takeHL (i := 9) 25 (.string ⟨(num t.task ++ 64 :: (num t.at_ ++ [58])).toArray⟩) rfl rfl (by kernel_rfl) (by kernel_rfl) (by kernel_rfl) (fun _ _ _ h => h) (.inl ⟨by rfl, fun w _ => by go_simp; rw [if_neg (by omega)]; simp [mk_app]⟩) S2 ?_
      simp only [List.set_cons_succ, List.set_cons_zero]
      refine callHL 12 28 rfl rfl (by kernel_rfl) (by rfl) 38 Tryz.func38 (by kernel_rfl) rfl _ _ rfl _ ?hv (itoa_any (hM.keep (Below.mono (bthru hb (bthru hba K2)) hB)) t.need (by omega) (by omega)) ?_
      case hv => simp [Act.eval]
      rintro e v3 ⟨rfl, k3⟩
      have K3 : Below wa.heap.size wa v3 := bthru K2 k3
      have S3 := (K3.block nT hlT).trans hT
      refine ⟨_, rfl, S3, ?_⟩
      simp only [List.set_cons_succ, List.set_cons_zero]
      refine takeHL (i := 13) 29 (.string ⟨(num t.task ++ 64 :: (num t.at_ ++ 58 :: num t.need)).toArray⟩) rfl rfl (by kernel_rfl) (by kernel_rfl) (by kernel_rfl) (fun _ _ _ h => h) (.inl ⟨by rfl, fun w _ => by go_simp; rw [if_neg (by omega)]; simp [mk_app]⟩) S3 ?_
      simp only [List.set_cons_succ, List.set_cons_zero]
      refine oneHL 14 30 rfl rfl (by kernel_rfl) (by rfl) ?_
      intro K hK
      go_simp
      have hX : Hid (num t.task ++ 64 :: (num t.at_ ++ 58 :: num t.need) = jobT t) := by simp [Hid, jobT]
      have hN3 := heap_alloc_new v3 (.cells #[.string ⟨(num t.task ++ 64 :: (num t.at_ ++ 58 :: num t.need)).toArray⟩] 9 (0, 0))
      have hS4 := (Below.heap_alloc v3 (.cells #[.string ⟨(num t.task ++ 64 :: (num t.at_ ++ 58 :: num t.need)).toArray⟩] 9 (0, 0)) nT (Array.getElem?_eq_some_iff.1 S3).1).trans S3
      have K4 := bal K3 (.cells #[.string ⟨(num t.task ++ 64 :: (num t.at_ ++ 58 :: num t.need)).toArray⟩] 9 (0, 0))
      have hO4 := OS_keep hOa K4
      have B4 : Below w.heap.size w _ := bthru (bthru hb hba) K4
      refine hK (.slice (some ⟨v3.heap.size, 0, none⟩) 1 1) _ hS4 ?_
      simp only [List.set_cons_succ, List.set_cons_zero]
      generalize World.alloc v3 _ = v4 at hN3 hS4 K4 hO4 B4 ⊢
      rw [hX.out] at hN3
      clear hK
      refine oneHL 15 31 rfl rfl (by kernel_rfl) (by rfl) ?_
      intro K' hK'
      refine step_app_str _ _ rfl w.heap.size (some ⟨bo, 0, none⟩) ((js.take k).map jobT) k c' hkl.out rfl hO4 v3.heap.size 1 (jobT t) 9 rfl hN3 (by rw [hkl.out]; omega) B4.size ?_
      intro A5 c5 w5 o5 g5 b5
      rw [hnx.out] at o5
      have hS5 := row_kept hS4 g5 (own_ne hO4 hS4 (by decide))
      obtain ⟨b4, rfl, _, _⟩ := OS_addr o5 (by simp; omega)
      refine hK' (.slice (some ⟨b4, 0, none⟩) (k + 1) c5) _ hS5 ?_
      simp only [List.set_cons_succ, List.set_cons_zero]
      refine takeHL (i := 16) 3 (.slice (some ⟨b4, 0, none⟩) (k + 1) c5) rfl rfl (by kernel_rfl) (by kernel_rfl) (by kernel_rfl) (fun _ _ _ h => h) (.inl ⟨by rfl, fun _ _ => rfl⟩) hS5 ?_
      simp only [List.set_cons_succ, List.set_cons_zero]
      refine wpAnyH_done (by kernel_rfl) ?_ _
      go_wp2_with fail
      go_roundw
      case rel => exact ⟨k + 1, b4, c5, by go_num, rfl, by omega, o5, B4.trans b5⟩
      case measure => simp [intOf]; omega
    · obtain rfl : k = js.length := by omega
      rw [List.take_length] at hO
      have hsz := own_size hO
      obtain ⟨hs1, hs2⟩ := hsz
      have hcell : ∀ (j : Nat) x, (js.map (fun t => (⟨(jobT t).toArray⟩ : ByteArray)))[j]? = some x → wr.cell? ⟨bo, 0 + j, none⟩ = some (.string x) := by
        intro j x hj
        have := World.ownsRow.cells hO (g := bo) rfl j (.string x) (by
          simp only [strs, List.getElem?_map] at hj ⊢
          cases e : js[j]? with
          | none => rw [e] at hj; cases hj
          | some t => rw [e] at hj; simp at hj ⊢; exact hj)
        rw [Nat.zero_add]
        rwa [addr_add0] at this
      have hbw : bo < wr.heap.size := by
        rcases hO.2 with ⟨hv, _⟩ | ⟨g, cap, cur, hv, hg, hh, _⟩
        · cases hv
        · cases hv
          exact (Array.getElem?_eq_some_iff.1 hh).1
      have K := Tryz.strings_Join bo 0 c' (js.map (fun t => (⟨(jobT t).toArray⟩ : ByteArray))) ⟨#[32]⟩ wr hcell hbw (by simp; omega) (by rw [List.length_map] at hs1; simp; omega)
      have e1 : (js.map (fun t => (⟨(jobT t).toArray⟩ : ByteArray))).map (·.data.toList) = js.map jobT := by simp
      rw [e1] at K
      have e2 : (js.map (fun t => (⟨(jobT t).toArray⟩ : ByteArray))).length = js.length := List.length_map ..
      have K2 := K (by show (jobsT js).length ≤ _; rw [HF.out] at hfl; omega)
      rw [e2] at K2
      clear K e1 e2 hcell hO hs1 hs2
      go_wp2_with fail
      refine K2.mono ?_
      rintro e w4 ⟨rfl, b4⟩
      go_wp2_with fail
      go_ret
      exact ⟨by rw [HF.out]; rfl, bthru hb b4⟩
end

section
open Go.RowKit
end

section
open Go.RowKit
end

section
open Go.RowKit
end

section
open Go.RowKit

set_option maxHeartbeats 2000000 in
set_option maxRecDepth 100000 in
/-- Jobs taken. -/
theorem desk_setJobs {B b : Nat} {w : World} {s : St} (h : Desk B b w s) (A : Option Addr) (js : List Jb) (c : Nat) (hJ : OJ B w A c js) (hlen : s.out.length ≤ 800000) (hBw : B ≤ w.heap.size) :
    Calls Tryz.prog 134 #[.pointer (some ⟨b, 0, none⟩), .slice A js.length c, .bool true] w fun e w' => e = .returned (.tuple #[]) ∧ Desk B b w' ⟨s.l, js.length, flatJ js, s.pol, s.out ++ ([111, 107] ++ [10])⟩ ∧ Frm B b w w' := by
  obtain ⟨hB, A0, c0, jv, p, v, hk, hp, hv, hO0, hJ0⟩ := h
  have f1 : w.frozen? ⟨b, 1, none⟩ = false := Lib.frozen_of_heap hk 1
  have c1' : w.cell? ⟨b, 1, none⟩ = some jv := by rw [Lib.cell_of_heap hk]; rfl
  have g0 := gb_setCell w b 1 (.slice A js.length c)
  have hk1 := desk_blk hk 1 (.slice A js.length c)
  have hvb : v.ownBlock ≠ some b := by
    intro e
    obtain ⟨cs, fz, hc⟩ := Lib.ownsRowF_kind hv b e
    rw [hk] at hc
    injection hc with hc
    injection hc with _ ht _
    exact tn3 ht
  have D1 : Desk B b (w.setCell ⟨b, 1, none⟩ (.slice A js.length c)) ⟨s.l, js.length, flatJ js, s.pol, s.out⟩ :=
    ⟨hB, A0, c0, .slice A js.length c, p, v, hk1, hp, hv.kept g0 (.inr hvb), own_keepX hO0 _ g0 (fun g hg => by cases hg; exact ⟨_, _, _, hk, tn1⟩), own_keepX hJ _ g0 (fun g hg => by cases hg; exact ⟨_, _, _, hk, tn4⟩)⟩
  have F1 : Frm B b w (w.setCell ⟨b, 1, none⟩ (.slice A js.length c)) := ⟨kept_grown g0, (Below.refl B w).setCell (p := ⟨b, 1, none⟩) hB _⟩
  clear hv hO0 hJ0 g0 hk1 hJ
  go_enter Tryz.func134, Tryz.ntmps134
  go_wp2_with fail
  refine (desk_tell D1 [111, 107] _ rfl (by simp <;> omega) (Nat.le_trans hBw F1.size)).mono ?_
  rintro e w3 ⟨rfl, D3, F3⟩
  go_wp2_with fail
  go_end0
  exact ⟨rfl, D3, F1.trans F3⟩
theorem Desk.jobs {B b : Nat} {w : World} {s : St} (h : Desk B b w s) {js : List Jb} (hn : s.jn = js.length) (hc : s.jc = flatJ js) : ∃ J d, w.cell? ⟨b, 1, none⟩ = some (.slice J js.length d) ∧ OJ B w J d js := by
  obtain ⟨hB, A, c, jv, p, v, hk, hp, hv, hO, hJ⟩ := h
  rw [hn, hc] at hJ
  obtain ⟨J, d, rfl⟩ := own_form hJ
  exact ⟨J, d, by rw [Lib.cell_of_heap hk]; rfl, hJ⟩
end
end Go.Proofs.YtmkjmancmiphfaaGreatDoor
