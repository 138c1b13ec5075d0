/-
  PutJob: the reference's: some jobs, whatever it is asked. (Printed by gen_puts.py.)
  l6Jobs, l6Case, DrawJobsValid: some tasks and jobs.
  l6Case, DrawJobsValid: some tasks and jobs.
-/
import Derived.Test.YtmkjmancmiphfaaGreatDoorRa17
import Derived.Test.YtmkjmancmiphfaaGreatDoorRa04
import Derived.Test.YtmkjmancmiphfaaGreatDoorRa22
import Derived.Test.YtmkjmancmiphfaaGreatDoorRa23
import Derived.Test.YtmkjmancmiphfaaGreatDoorRa07
namespace Go.Proofs.YtmkjmancmiphfaaGreatDoor
section
open Go.RowKit

theorem wpList_app_jobs (w : World) {ops : Array Oper} {rest : List Oper} {o : Oper} {a : Act} {Q : Exit → Act → World → Prop} (hgd : o.guard = none) (s x : Operand)
    (ho : o.op = .call { callee := .builtin .append, args := #[s, x], argTypes := #[24, 24] })
    (base : Nat) (A : Option Addr) (l : List Jb) (n c : Nat) (hn : l.length = n) (hs : a.eval s = .slice A n c) (hown : OJ base w A c l)
    (ad : Addr) (m c1 : Nat) (ms : List Jb) (hm : ms.length = m) (hx : a.eval x = .slice (some ad) m c1) (hj : JS w (some ad) ms)
    (hl : l.length ≤ 2000000) (hlm : ms.length ≤ 2000000) (hbase : base ≤ w.heap.size)
    (h : ∀ A' c' w', OJ base w' A' c' (l ++ ms) → w.grownBy w' (Value.slice A n c).ownBlock → Below base w w' → wpList Tryz.prog ops Q rest (a.put o.dst (.slice A' (n + m) c')) w') : wpList Tryz.prog ops Q (o :: rest) a w := by
  subst hn hm
  obtain ⟨i0, hi, hz0, hz1, hz2⟩ := info_parts infoJobB
  refine wpList_append_own w hgd s x 24 ho base 60 i0 _ 3 24 Tryz.underlying24 hi hz0 hz1 hz2 rfl (by decide) (.slice A l.length c) l.length (flatJ l) hs hown
    ad ms.length c1 (flatJ ms) hx (by rw [flatJ_length, Nat.mul_comm]) ?_ ?_ (by unfold maxLen; omega) (by omega) hbase ?_
  · intro j u hu
    have hpos : 0 < ms.length := by
      have := (List.getElem?_eq_some_iff.1 hu).1
      rw [flatJ_length] at this
      omega
    obtain ⟨b, off, hA, _, hc⟩ := hj hpos
    cases hA
    rw [Go.WideShapes.add_plain]
    exact hc j u hu
  · intro u hu
    simp only [flatJ, List.mem_flatMap, Jb.cells, List.mem_cons, List.not_mem_nil, or_false] at hu
    obtain ⟨t, _, rfl | rfl | rfl⟩ := hu <;> rfl
  · intro v' w' hown' hg _
    obtain ⟨A', c', rfl⟩ := own_form hown'
    refine h A' c' w' ?_ hg (own_below hown hg hbase)
    unfold OJ
    rw [List.length_append, flatJ_append]
    exact hown'
theorem JS.take {w : World} {A : Option Addr} {l : List Jb} (h : JS w A l) (k : Nat) : JS w A (l.take k) := by
  intro hl
  rw [List.length_take] at hl
  obtain ⟨b, off, hA, hb, hc⟩ := h (by omega)
  refine ⟨b, off, hA, hb, fun j u hu => hc j u ?_⟩
  rw [← flatJ_take] at hu
  rw [List.getElem?_take] at hu
  split at hu
  · exact hu
  · cases hu
theorem flatJ_drop (l : List Jb) (k : Nat) : flatJ (l.drop k) = (flatJ l).drop (k * 3) := by
  have h := flatJ_append (l.take k) (l.drop k)
  rw [List.take_append_drop, ← flatJ_take] at h
  have h2 : (flatJ l).drop (k * 3) = ((flatJ l).take (k * 3) ++ flatJ (l.drop k)).drop (k * 3) := by rw [← h]
  rw [h2, List.drop_append, List.length_take]
  have hle : ((flatJ l).take (k * 3)).drop (k * 3) = [] := by rw [List.drop_eq_nil_iff, List.length_take]; omega
  rw [hle, List.nil_append]
  by_cases hk : k * 3 ≤ (flatJ l).length
  · rw [Nat.min_eq_left hk, Nat.sub_self, List.drop_zero]
  · have : l.drop k = [] := by
      rw [List.drop_eq_nil_iff]
      rw [flatJ_length] at hk
      omega
    rw [this]
    simp [flatJ]
theorem JS.drop {w : World} {b off : Nat} {l : List Jb} (h : JS w (some ⟨b, off, none⟩) l) (k : Nat) : JS w (some ⟨b, off + k * 3, none⟩) (l.drop k) := by
  intro hl
  rw [List.length_drop] at hl
  obtain ⟨b', off', hA, hb, hc⟩ := h (by omega)
  cases hA
  refine ⟨b, off + k * 3, rfl, hb, fun j u hu => ?_⟩
  rw [flatJ_drop, List.getElem?_drop] at hu
  have := hc _ _ hu
  rw [Nat.add_assoc]
  exact this
theorem bal' {B : Nat} {W w1 : World} (h1 : Below B W w1) (hB : B ≤ w1.heap.size) (o : Obj) : Below B W (w1.alloc o) := h1.alloc hB o
set_option maxHeartbeats 4000000 in
set_option maxRecDepth 100000 in
theorem spec_PutJob (A : Option Addr) (l : List Tk) (c : Nat) (b off : Nat) (js : List Jb) (d : Nat) (j : Jb) (w : World) (h : TS w A l) (g : JS w (some ⟨b, off, none⟩) js) (hm : l.length ≤ maxLen) (hj : js.length ≤ maxLen) (hjd : js.length ≤ d) :
    Calls Tryz.prog 102 #[.slice A l.length c, .slice (some ⟨b, off, none⟩) js.length d, j.val] w fun e w' => ∃ js' ok b' c', js'.length ≤ js.length + 1 ∧ e = .returned (.tuple #[.slice (some ⟨b', 0, none⟩) js'.length c', .bool ok]) ∧ OJ w.heap.size w' (some ⟨b', 0, none⟩) c' js' ∧ Below w.heap.size w w' := by
  obtain ⟨q, a, n⟩ := j
  have hT := heap_alloc_new w (.cells #[.int .i64 q, .int .i64 a, .int .i64 n] 60 (0, 0))
  have hba := bal (Below.refl w.heap.size w) (.cells #[.int .i64 q, .int .i64 a, .int .i64 n] 60 (0, 0))
  cases hV : jobsV l js with
  | false =>
    go_enter Tryz.func102, Tryz.ntmps102
    go_wp2_with fail
    refine (spec_JobsValid A l c _ js d _ (h.keep hba) (g.keep hba) hm hj).mono ?_
    rw [hV]
    rintro e w1 ⟨rfl, b1⟩
    go_wp2_with fail
    go_ret2
    exact ⟨[], false, _, 0, by simp, rfl, own_base (OJ_blank w1 _ (Nat.le_refl _)) (bthru hba b1).size, bal (bthru hba b1) _⟩
  | true =>
    have h60 : js.length ≤ 60 := by
      simp only [jobsV, Bool.and_eq_true, decide_eq_true_eq] at hV
      exact hV.1.2
    have HV := Lib.hid hV
    clear hV
    go_enter Tryz.func102, Tryz.ntmps102
    go_wp2_with fail
    refine (spec_JobsValid A l c _ js d _ (h.keep hba) (g.keep hba) hm hj).mono ?_
    rw [HV.out]
    rintro e w1 ⟨rfl, b1⟩
    have hlT := (Array.getElem?_eq_some_iff.1 hT).1
    have hT1 := (b1.block _ hlT).trans hT
    have B1 := bthru hba b1
    have hn1 := Nat.lt_of_lt_of_le hlT b1.size
    clear hT hlT hba b1
    obtain ⟨nB, hnB⟩ : ∃ nB, w.heap.size = nB := ⟨_, rfl⟩
    rw [hnB] at hT1 hn1 ⊢
    go_wp2_with fail
    go_loopg [8] js.length (fun gg i wr => ∃ k : Nat, gg = k ∧ k ≤ js.length ∧ i = .int .i64 (k : Int) ∧ Below w1.heap.size w1 wr)
    case atStart => exact ⟨js.length, rfl, Nat.le_refl _, rfl, Below.refl _ _⟩
    case round =>
      obtain ⟨k, rfl, hk, rfl, hb⟩ := hrel
      have B2 := bthru B1 hb
      have hT2 := (hb.block nB hn1).trans hT1
      have hlT := Nat.lt_of_lt_of_le hn1 hb.size
      cases gk with
      | zero =>
        have e0 : decide ((0 : Int) < 0) = false := rfl
        have hcast : (((0 : Nat)) : Int) = 0 := rfl
        rw [hcast]
        go_wp2_with fail
        go_quiet (fail)
        generalize hwz : World.drewN wr _ = wz
        have Kz : Below wr.heap.size wr wz := by rw [← hwz]; exact bdr (Below.refl _ _) _
        clear hwz
        have hN1 : w1.heap.size ≤ (wz).heap.size := Nat.le_trans hb.size Kz.size
        have Bz : Below w1.heap.size w1 (wz) := hb.trans (Kz.mono hb.size)
        have gz := (g.keep B1).keep Bz
        have hgl : ((js.take (0)).length = 0) := by rw [List.length_take]; omega
        have Hgl := Lib.hid hgl
        clear hgl
        go_upto_region 7 with (at_builtin; refine wpList_app_jobs _ rfl _ _ rfl w1.heap.size (some ⟨(wz).heap.size, 0, none⟩) [] 0 0 rfl rfl (OJ_blank (wz) _ hN1) ⟨b, off, none⟩ (0) d (js.take (0)) Hgl.out rfl ((gz.keep (bal (Below.refl _ _) _)).take (0)) (by simp) (by rw [Hgl.out]; omega) (Nat.le_trans hN1 (by simp)) ?_; intro A2 c2 w2 o2 g2 b2)
        rw [List.nil_append] at o2
        have B3 : Below w1.heap.size w1 w2 := (bal' Bz hN1 _).trans b2
        clear g2 b2 gz hN1
        obtain ⟨t0, t1, t2⟩ := blk3 ((B3.block nB hn1).trans hT1)
        have hN2 : w1.heap.size ≤ w2.heap.size := B3.size
        go_upto_region 8 with (at_builtin; refine wpList_app_job _ rfl _ _ rfl w1.heap.size A2 (js.take (0)) (0) c2 Hgl.out rfl (OJ_alloc o2 _) w2.heap.size 1 ⟨q, a, n⟩ _ 60 rfl (heap_alloc_new w2 _) rfl (by rw [Hgl.out]; omega) (Nat.le_trans hN2 (by simp)) ?_; intro A3 c3 w3 o3 g3 b3)
        have B4 : Below w1.heap.size w1 w3 := (bal' B3 hN2 _).trans b3
        clear g3 b3 o2 B3 t0 t1 t2 hN2
        have gz := (g.keep B1).keep B4
        have hN3 : w1.heap.size ≤ w3.heap.size := B4.size
        have Hgl3 : Hid ((js.take (0) ++ [(⟨q, a, n⟩ : Jb)]).length = 0 + 1) := by rw [Hid, List.length_append, Hgl.out]; rfl
        have hgd : (js.drop (0)).length = js.length - (0) := List.length_drop
        by_cases hdk : d = 0
        · have hz : js.length - (0) = 0 := by omega
          have Hz := Lib.hid hz
          have Hgd := Lib.hid hgd
          clear hz hgd
          subst hdk
          go_upto_region 9 with (at_builtin; refine wpList_app_jobs _ rfl _ _ rfl w1.heap.size A3 (js.take (0) ++ [⟨q, a, n⟩]) (0 + 1) c3 Hgl3.out rfl o3 _ _ _ (js.drop (0)) (by rw [Hgd.out] <;> first | rfl | exact Hz.out) rfl (fun hh => by rw [Hgd.out, Hz.out] at hh; omega) (by rw [Hgl3.out]; omega) (by rw [Hgd.out]; omega) hN3 ?_; intro A4 c4 w4 o4 g4 b4)
          have Hlen : Hid ((js.take (0) ++ [(⟨q, a, n⟩ : Jb)] ++ js.drop (0)).length = 0 + 1 + 0) := by rw [Hid, List.length_append, Hgl3.out, Hgd.out, Hz.out]
          have hys : (js.take (0) ++ [(⟨q, a, n⟩ : Jb)] ++ js.drop (0)).length ≤ js.length + 1 := by rw [Hlen.out]; omega
          have B5 : Below w1.heap.size w1 w4 := B4.trans b4
          have hpos : 0 < (js.take (0) ++ [(⟨q, a, n⟩ : Jb)] ++ js.drop (0)).length := by rw [Hlen.out]; omega
          clear g4 b4 o3 B4 gz
          generalize js.take (0) ++ [(⟨q, a, n⟩ : Jb)] ++ js.drop (0) = ys at o4 Hlen hys hpos
          obtain ⟨b4, rfl, hb4, _⟩ := OJ_addr o4 hpos
          have Bw := bthru B1 (B5.mono (Nat.le_refl _))
          have K5 := spec_JobsValid A l c (some ⟨b4, 0, none⟩) ys c4 w4 (h.keep Bw) o4.js hm (by unfold maxLen; omega)
          rw [Hlen.out] at K5
          go_wp2_with fail
          refine K5.mono ?_
          rintro e w5 ⟨rfl, b5⟩
          clear K5
          cases hV : jobsV l ys with
          | false =>
            go_wp2_with fail
            go_ret2
            refine ⟨[], false, _, 0, by simp, rfl, own_base (OJ_blank w5 _ (Nat.le_refl _)) (bthru Bw b5).size, bal (bthru Bw b5) _⟩
          | true =>
            go_wp2_with fail
            go_ret2
            refine ⟨ys, true, b4, c4, hys, by rw [Hlen.out]; rfl, own_base (OJ_keep o4 b5) B1.size, bthru Bw b5⟩
        · have hdk2 : 0 < d := by omega
          have Hgd := Lib.hid hgd
          clear hgd
          go_upto_region 9 with (at_builtin; refine wpList_app_jobs _ rfl _ _ rfl w1.heap.size A3 (js.take (0) ++ [⟨q, a, n⟩]) (0 + 1) c3 Hgl3.out rfl o3 ⟨b, off + (0) * 3, none⟩ (js.length - (0)) (d - (0)) (js.drop (0)) Hgd.out rfl (gz.drop (0)) (by rw [Hgl3.out]; omega) (by rw [Hgd.out]; omega) hN3 ?_; intro A4 c4 w4 o4 g4 b4)
          have Hlen : Hid ((js.take (0) ++ [(⟨q, a, n⟩ : Jb)] ++ js.drop (0)).length = 0 + 1 + (js.length - (0))) := by rw [Hid, List.length_append, Hgl3.out, Hgd.out]
          have hys : (js.take (0) ++ [(⟨q, a, n⟩ : Jb)] ++ js.drop (0)).length ≤ js.length + 1 := by rw [Hlen.out]; omega
          have B5 : Below w1.heap.size w1 w4 := B4.trans b4
          have hpos : 0 < (js.take (0) ++ [(⟨q, a, n⟩ : Jb)] ++ js.drop (0)).length := by rw [Hlen.out]; omega
          clear g4 b4 o3 B4 gz
          generalize js.take (0) ++ [(⟨q, a, n⟩ : Jb)] ++ js.drop (0) = ys at o4 Hlen hys hpos
          obtain ⟨b4, rfl, hb4, _⟩ := OJ_addr o4 hpos
          have Bw := bthru B1 (B5.mono (Nat.le_refl _))
          have K5 := spec_JobsValid A l c (some ⟨b4, 0, none⟩) ys c4 w4 (h.keep Bw) o4.js hm (by unfold maxLen; omega)
          rw [Hlen.out] at K5
          go_wp2_with fail
          refine K5.mono ?_
          rintro e w5 ⟨rfl, b5⟩
          clear K5
          cases hV : jobsV l ys with
          | false =>
            go_wp2_with fail
            go_ret2
            refine ⟨[], false, _, 0, by simp, rfl, own_base (OJ_blank w5 _ (Nat.le_refl _)) (bthru Bw b5).size, bal (bthru Bw b5) _⟩
          | true =>
            go_wp2_with fail
            go_ret2
            refine ⟨ys, true, b4, c4, hys, by rw [Hlen.out]; rfl, own_base (OJ_keep o4 b5) B1.size, bthru Bw b5⟩
      | succ m =>
        obtain ⟨b', off', hA, hbl, hc⟩ := g.keep B2 (by omega)
        cases hA
        obtain ⟨k0, k1, k2⟩ := job_cells hc m (by omega)
        obtain ⟨h0, h1, h2⟩ := blk3 hT2
        generalize hY : js[m] = Y at k0 k1 k2
        obtain ⟨q0, a0, n0⟩ := Y
        clear hY hc
        have hmI : (m : Int) < (js.length : Int) := by omega
        have hcast : (((m + 1 : Nat)) : Int) = (m : Int) + 1 := rfl
        have qw : IntKind.i64.wrap ((m : Int) + 1 - 1) = (m : Int) := by rw [Int.add_sub_cancel]; exact IntWalk.i64_in _ (by omega)
        have hSof : ∀ {w' : World}, Below wr.heap.size wr w' → w'.cell? ⟨nB, 0, none⟩ = some (.int .i64 q) ∧ w'.cell? ⟨nB, 1, none⟩ = some (.int .i64 a) ∧ w'.cell? ⟨nB, 2, none⟩ = some (.int .i64 n) ∧ w'.cell? ⟨b, off + m * 3, none⟩ = some (.int .i64 q0) ∧ w'.cell? ⟨b, off + m * 3 + 1, none⟩ = some (.int .i64 a0) ∧ w'.cell? ⟨b, off + m * 3 + 2, none⟩ = some (.int .i64 n0) := fun hw => ⟨(hw.cell (p := ⟨nB, 0, none⟩) hlT).trans h0, (hw.cell (p := ⟨nB, 1, none⟩) hlT).trans h1, (hw.cell (p := ⟨nB, 2, none⟩) hlT).trans h2, (hw.cell (p := ⟨b, off + m * 3, none⟩) hbl).trans k0, (hw.cell (p := ⟨b, off + m * 3 + 1, none⟩) hbl).trans k1, (hw.cell (p := ⟨b, off + m * 3 + 2, none⟩) hbl).trans k2⟩
        rw [hcast]
        cases hB : befJ ⟨q, a, n⟩ ⟨q0, a0, n0⟩ with
        | true =>
          have HB := Lib.hid hB
          clear hB
          go_upto_region 4 with fail
          refine wp_region_held (S := fun w' => w'.cell? ⟨nB, 0, none⟩ = some (.int .i64 q) ∧ w'.cell? ⟨nB, 1, none⟩ = some (.int .i64 a) ∧ w'.cell? ⟨nB, 2, none⟩ = some (.int .i64 n) ∧ w'.cell? ⟨b, off + m * 3, none⟩ = some (.int .i64 q0) ∧ w'.cell? ⟨b, off + m * 3 + 1, none⟩ = some (.int .i64 a0) ∧ w'.cell? ⟨b, off + m * 3 + 2, none⟩ = some (.int .i64 n0)) (by kernel_rfl) ?_
          change wpAnyH _ _ _ _ _ _ _ _ (World.drew _)
          have Kz : Below wr.heap.size wr (World.drew wr) := Below.drew (Below.refl _ _)
          have hS0 := hSof Kz
          refine takeHL (i := 0) 17 (.int .i64 ((m : Int) + 1)) rfl rfl (by kernel_rfl) (by kernel_rfl) (by kernel_rfl) (fun _ _ _ h => h) (.inl ⟨by rfl, fun _ _ => rfl⟩) hS0 ?_
          simp only [List.set_cons_succ, List.set_cons_zero]
          refine takeHL (i := 1) 18 (.bool true) rfl rfl (by kernel_rfl) (by kernel_rfl) (by kernel_rfl) (fun _ _ _ h => h) (.inl ⟨by rfl, fun w _ => by go_simp <;> (first | omega | exact IntWalk.i64_in _ (by omega))⟩) hS0 ?_
          simp only [List.set_cons_succ, List.set_cons_zero]
          refine takeHL (i := 2) 19 (.bool true) rfl rfl (by kernel_rfl) (by kernel_rfl) (by kernel_rfl) (fun _ _ _ h => h) (.inl ⟨by rfl, fun _ _ => rfl⟩) hS0 ?_
          simp only [List.set_cons_succ, List.set_cons_zero]
          refine takeHL (i := 3) 20 (.agg #[.int .i64 q, .int .i64 a, .int .i64 n]) rfl rfl (by kernel_rfl) (by kernel_rfl) (by kernel_rfl) (fun _ _ _ h => h) (.inl ⟨by rfl, fun w hS => by obtain ⟨h0, h1, h2, p0, p1, p2⟩ := hS; go_simp⟩) hS0 ?_
          simp only [List.set_cons_succ, List.set_cons_zero]
          refine takeHL (i := 4) 21 (.slice (some ⟨b, off, none⟩) (js.length) d) rfl rfl (by kernel_rfl) (by kernel_rfl) (by kernel_rfl) (fun _ _ _ h => h) (.inl ⟨by rfl, fun _ _ => rfl⟩) hS0 ?_
          simp only [List.set_cons_succ, List.set_cons_zero]
          refine takeHL (i := 5) 22 (.int .i64 ((m : Int) + 1)) rfl rfl (by kernel_rfl) (by kernel_rfl) (by kernel_rfl) (fun _ _ _ h => h) (.inl ⟨by rfl, fun _ _ => rfl⟩) hS0 ?_
          simp only [List.set_cons_succ, List.set_cons_zero]
          refine takeHL (i := 6) 23 (.int .i64 ((m : Int))) rfl rfl (by kernel_rfl) (by kernel_rfl) (by kernel_rfl) (fun _ _ _ h => h) (.inl ⟨by rfl, fun w _ => by go_simp <;> (first | omega | exact IntWalk.i64_in _ (by omega))⟩) hS0 ?_
          simp only [List.set_cons_succ, List.set_cons_zero]
          refine takeHL (i := 7) 24 (.pointer (some ⟨b, off + m * 3, none⟩)) rfl rfl (by kernel_rfl) (by kernel_rfl) (by kernel_rfl) (fun _ _ _ h => h) (.inl ⟨by rfl, fun w _ => by go_simp <;> (first | omega | (simp; omega))⟩) hS0 ?_
          simp only [List.set_cons_succ, List.set_cons_zero]
          refine takeHL (i := 8) 25 (.agg #[.int .i64 q0, .int .i64 a0, .int .i64 n0]) rfl rfl (by kernel_rfl) (by kernel_rfl) (by kernel_rfl) (fun _ _ _ h => h) (.inl ⟨by rfl, fun w hS => by obtain ⟨h0, h1, h2, p0, p1, p2⟩ := hS; go_simp⟩) hS0 ?_
          simp only [List.set_cons_succ, List.set_cons_zero]
          refine callHL 9 26 rfl rfl (by kernel_rfl) (by rfl) 57 Tryz.func57 (by kernel_rfl) rfl _ _ rfl #[.agg #[.int .i64 q, .int .i64 a, .int .i64 n], .agg #[.int .i64 q0, .int .i64 a0, .int .i64 n0]] ?hv (spec_l6Before ⟨q, a, n⟩ ⟨q0, a0, n0⟩ _) ?_
          case hv => simp [Act.eval]
          rw [HB.out]
          rintro e v1 ⟨rfl, k1⟩
          have K1 : Below wr.heap.size wr v1 := bthru Kz k1
          have S1 := hSof K1
          refine ⟨_, rfl, S1, ?_⟩
          simp only [List.set_cons_succ, List.set_cons_zero]
          refine takeHL (i := 10) 27 (.bool true) rfl rfl (by kernel_rfl) (by kernel_rfl) (by kernel_rfl) (fun _ _ _ h => h) (.inl ⟨by rfl, fun w _ => by go_simp⟩) S1 ?_
          simp only [List.set_cons_succ, List.set_cons_zero]
          refine wpAnyH_done (by kernel_rfl) ?_ _
          go_wp2_with fail
          go_roundg m
          case measure => omega
          case rel => exact ⟨m, rfl, by omega, rfl, bthru hb K1⟩
        | false =>
          have HB := Lib.hid hB
          clear hB h0 h1 h2 k0 k1 k2
          go_upto_region 4 with fail
          refine wp_region_held (S := fun w' => w'.cell? ⟨nB, 0, none⟩ = some (.int .i64 q) ∧ w'.cell? ⟨nB, 1, none⟩ = some (.int .i64 a) ∧ w'.cell? ⟨nB, 2, none⟩ = some (.int .i64 n) ∧ w'.cell? ⟨b, off + m * 3, none⟩ = some (.int .i64 q0) ∧ w'.cell? ⟨b, off + m * 3 + 1, none⟩ = some (.int .i64 a0) ∧ w'.cell? ⟨b, off + m * 3 + 2, none⟩ = some (.int .i64 n0)) (by kernel_rfl) ?_
          change wpAnyH _ _ _ _ _ _ _ _ (World.drew _)
          have Kz : Below wr.heap.size wr (World.drew wr) := Below.drew (Below.refl _ _)
          have hS0 := hSof Kz
          refine takeHL (i := 0) 17 (.int .i64 ((m : Int) + 1)) rfl rfl (by kernel_rfl) (by kernel_rfl) (by kernel_rfl) (fun _ _ _ h => h) (.inl ⟨by rfl, fun _ _ => rfl⟩) hS0 ?_
          simp only [List.set_cons_succ, List.set_cons_zero]
          refine takeHL (i := 1) 18 (.bool true) rfl rfl (by kernel_rfl) (by kernel_rfl) (by kernel_rfl) (fun _ _ _ h => h) (.inl ⟨by rfl, fun w _ => by go_simp <;> (first | omega | exact IntWalk.i64_in _ (by omega))⟩) hS0 ?_
          simp only [List.set_cons_succ, List.set_cons_zero]
          refine takeHL (i := 2) 19 (.bool true) rfl rfl (by kernel_rfl) (by kernel_rfl) (by kernel_rfl) (fun _ _ _ h => h) (.inl ⟨by rfl, fun _ _ => rfl⟩) hS0 ?_
          simp only [List.set_cons_succ, List.set_cons_zero]
          refine takeHL (i := 3) 20 (.agg #[.int .i64 q, .int .i64 a, .int .i64 n]) rfl rfl (by kernel_rfl) (by kernel_rfl) (by kernel_rfl) (fun _ _ _ h => h) (.inl ⟨by rfl, fun w hS => by obtain ⟨h0, h1, h2, p0, p1, p2⟩ := hS; go_simp⟩) hS0 ?_
          simp only [List.set_cons_succ, List.set_cons_zero]
          refine takeHL (i := 4) 21 (.slice (some ⟨b, off, none⟩) (js.length) d) rfl rfl (by kernel_rfl) (by kernel_rfl) (by kernel_rfl) (fun _ _ _ h => h) (.inl ⟨by rfl, fun _ _ => rfl⟩) hS0 ?_
          simp only [List.set_cons_succ, List.set_cons_zero]
          refine takeHL (i := 5) 22 (.int .i64 ((m : Int) + 1)) rfl rfl (by kernel_rfl) (by kernel_rfl) (by kernel_rfl) (fun _ _ _ h => h) (.inl ⟨by rfl, fun _ _ => rfl⟩) hS0 ?_
          simp only [List.set_cons_succ, List.set_cons_zero]
          refine takeHL (i := 6) 23 (.int .i64 ((m : Int))) rfl rfl (by kernel_rfl) (by kernel_rfl) (by kernel_rfl) (fun _ _ _ h => h) (.inl ⟨by rfl, fun w _ => by go_simp <;> (first | omega | exact IntWalk.i64_in _ (by omega))⟩) hS0 ?_
          simp only [List.set_cons_succ, List.set_cons_zero]
          refine takeHL (i := 7) 24 (.pointer (some ⟨b, off + m * 3, none⟩)) rfl rfl (by kernel_rfl) (by kernel_rfl) (by kernel_rfl) (fun _ _ _ h => h) (.inl ⟨by rfl, fun w _ => by go_simp <;> (first | omega | (simp; omega))⟩) hS0 ?_
          simp only [List.set_cons_succ, List.set_cons_zero]
          refine takeHL (i := 8) 25 (.agg #[.int .i64 q0, .int .i64 a0, .int .i64 n0]) rfl rfl (by kernel_rfl) (by kernel_rfl) (by kernel_rfl) (fun _ _ _ h => h) (.inl ⟨by rfl, fun w hS => by obtain ⟨h0, h1, h2, p0, p1, p2⟩ := hS; go_simp⟩) hS0 ?_
          simp only [List.set_cons_succ, List.set_cons_zero]
          refine callHL 9 26 rfl rfl (by kernel_rfl) (by rfl) 57 Tryz.func57 (by kernel_rfl) rfl _ _ rfl #[.agg #[.int .i64 q, .int .i64 a, .int .i64 n], .agg #[.int .i64 q0, .int .i64 a0, .int .i64 n0]] ?hv (spec_l6Before ⟨q, a, n⟩ ⟨q0, a0, n0⟩ _) ?_
          case hv => simp [Act.eval]
          rw [HB.out]
          rintro e v1 ⟨rfl, k1⟩
          have K1 : Below wr.heap.size wr v1 := bthru Kz k1
          have S1 := hSof K1
          refine ⟨_, rfl, S1, ?_⟩
          simp only [List.set_cons_succ, List.set_cons_zero]
          refine takeHL (i := 10) 27 (.bool false) rfl rfl (by kernel_rfl) (by kernel_rfl) (by kernel_rfl) (fun _ _ _ h => h) (.inl ⟨by rfl, fun w _ => by go_simp⟩) S1 ?_
          simp only [List.set_cons_succ, List.set_cons_zero]
          refine wpAnyH_done (by kernel_rfl) ?_ _
          have hto : ((m : Int) + 1).toNat = m + 1 := by omega
          have hm0 : (0 : Int) ≤ (m : Int) + 1 := by omega
          have hm1 : (m : Int) + 1 ≤ (d : Int) := by omega
          have hm2 : (m : Int) + 1 ≤ (js.length : Int) := by omega
          have hN1 : w1.heap.size ≤ (v1).heap.size := Nat.le_trans hb.size K1.size
          have Bz : Below w1.heap.size w1 (v1) := hb.trans (K1.mono hb.size)
          have gz := (g.keep B1).keep Bz
          have hgl : ((js.take (m + 1)).length = m + 1) := by rw [List.length_take]; omega
          have Hgl := Lib.hid hgl
          clear hgl
          go_upto_region 7 with (at_builtin; refine wpList_app_jobs _ rfl _ _ rfl w1.heap.size (some ⟨(v1).heap.size, 0, none⟩) [] 0 0 rfl rfl (OJ_blank (v1) _ hN1) ⟨b, off, none⟩ (m + 1) d (js.take (m + 1)) Hgl.out rfl ((gz.keep (bal (Below.refl _ _) _)).take (m + 1)) (by simp) (by rw [Hgl.out]; omega) (Nat.le_trans hN1 (by simp)) ?_; intro A2 c2 w2 o2 g2 b2)
          rw [List.nil_append] at o2
          have B3 : Below w1.heap.size w1 w2 := (bal' Bz hN1 _).trans b2
          clear g2 b2 gz hN1
          obtain ⟨t0, t1, t2⟩ := blk3 ((B3.block nB hn1).trans hT1)
          have hN2 : w1.heap.size ≤ w2.heap.size := B3.size
          go_upto_region 8 with (at_builtin; refine wpList_app_job _ rfl _ _ rfl w1.heap.size A2 (js.take (m + 1)) (m + 1) c2 Hgl.out rfl (OJ_alloc o2 _) w2.heap.size 1 ⟨q, a, n⟩ _ 60 rfl (heap_alloc_new w2 _) rfl (by rw [Hgl.out]; omega) (Nat.le_trans hN2 (by simp)) ?_; intro A3 c3 w3 o3 g3 b3)
          have B4 : Below w1.heap.size w1 w3 := (bal' B3 hN2 _).trans b3
          clear g3 b3 o2 B3 t0 t1 t2 hN2
          have gz := (g.keep B1).keep B4
          have hN3 : w1.heap.size ≤ w3.heap.size := B4.size
          have Hgl3 : Hid ((js.take (m + 1) ++ [(⟨q, a, n⟩ : Jb)]).length = m + 1 + 1) := by rw [Hid, List.length_append, Hgl.out]; rfl
          have hgd : (js.drop (m + 1)).length = js.length - (m + 1) := List.length_drop
          by_cases hdk : d = m + 1
          · have hz : js.length - (m + 1) = 0 := by omega
            have Hz := Lib.hid hz
            have Hgd := Lib.hid hgd
            clear hz hgd
            subst hdk
            go_upto_region 9 with (at_builtin; refine wpList_app_jobs _ rfl _ _ rfl w1.heap.size A3 (js.take (m + 1) ++ [⟨q, a, n⟩]) (m + 1 + 1) c3 Hgl3.out rfl o3 _ _ _ (js.drop (m + 1)) (by rw [Hgd.out] <;> first | rfl | exact Hz.out) rfl (fun hh => by rw [Hgd.out, Hz.out] at hh; omega) (by rw [Hgl3.out]; omega) (by rw [Hgd.out]; omega) hN3 ?_; intro A4 c4 w4 o4 g4 b4)
            have Hlen : Hid ((js.take (m + 1) ++ [(⟨q, a, n⟩ : Jb)] ++ js.drop (m + 1)).length = m + 1 + 1 + 0) := by rw [Hid, List.length_append, Hgl3.out, Hgd.out, Hz.out]
            have hys : (js.take (m + 1) ++ [(⟨q, a, n⟩ : Jb)] ++ js.drop (m + 1)).length ≤ js.length + 1 := by rw [Hlen.out]; omega
            have B5 : Below w1.heap.size w1 w4 := B4.trans b4
            have hpos : 0 < (js.take (m + 1) ++ [(⟨q, a, n⟩ : Jb)] ++ js.drop (m + 1)).length := by rw [Hlen.out]; omega
            clear g4 b4 o3 B4 gz
            generalize js.take (m + 1) ++ [(⟨q, a, n⟩ : Jb)] ++ js.drop (m + 1) = ys at o4 Hlen hys hpos
            obtain ⟨b4, rfl, hb4, _⟩ := OJ_addr o4 hpos
            have Bw := bthru B1 (B5.mono (Nat.le_refl _))
            have K5 := spec_JobsValid A l c (some ⟨b4, 0, none⟩) ys c4 w4 (h.keep Bw) o4.js hm (by unfold maxLen; omega)
            rw [Hlen.out] at K5
            go_wp2_with fail
            refine K5.mono ?_
            rintro e w5 ⟨rfl, b5⟩
            clear K5
            cases hV : jobsV l ys with
            | false =>
              go_wp2_with fail
              go_ret2
              refine ⟨[], false, _, 0, by simp, rfl, own_base (OJ_blank w5 _ (Nat.le_refl _)) (bthru Bw b5).size, bal (bthru Bw b5) _⟩
            | true =>
              go_wp2_with fail
              go_ret2
              refine ⟨ys, true, b4, c4, hys, by rw [Hlen.out]; rfl, own_base (OJ_keep o4 b5) B1.size, bthru Bw b5⟩
          · have hdk2 : m + 1 < d := by omega
            have Hgd := Lib.hid hgd
            clear hgd
            go_upto_region 9 with (at_builtin; refine wpList_app_jobs _ rfl _ _ rfl w1.heap.size A3 (js.take (m + 1) ++ [⟨q, a, n⟩]) (m + 1 + 1) c3 Hgl3.out rfl o3 ⟨b, off + (m + 1) * 3, none⟩ (js.length - (m + 1)) (d - (m + 1)) (js.drop (m + 1)) Hgd.out rfl (gz.drop (m + 1)) (by rw [Hgl3.out]; omega) (by rw [Hgd.out]; omega) hN3 ?_; intro A4 c4 w4 o4 g4 b4)
            have Hlen : Hid ((js.take (m + 1) ++ [(⟨q, a, n⟩ : Jb)] ++ js.drop (m + 1)).length = m + 1 + 1 + (js.length - (m + 1))) := by rw [Hid, List.length_append, Hgl3.out, Hgd.out]
            have hys : (js.take (m + 1) ++ [(⟨q, a, n⟩ : Jb)] ++ js.drop (m + 1)).length ≤ js.length + 1 := by rw [Hlen.out]; omega
            have B5 : Below w1.heap.size w1 w4 := B4.trans b4
            have hpos : 0 < (js.take (m + 1) ++ [(⟨q, a, n⟩ : Jb)] ++ js.drop (m + 1)).length := by rw [Hlen.out]; omega
            clear g4 b4 o3 B4 gz
            generalize js.take (m + 1) ++ [(⟨q, a, n⟩ : Jb)] ++ js.drop (m + 1) = ys at o4 Hlen hys hpos
            obtain ⟨b4, rfl, hb4, _⟩ := OJ_addr o4 hpos
            have Bw := bthru B1 (B5.mono (Nat.le_refl _))
            have K5 := spec_JobsValid A l c (some ⟨b4, 0, none⟩) ys c4 w4 (h.keep Bw) o4.js hm (by unfold maxLen; omega)
            rw [Hlen.out] at K5
            go_wp2_with fail
            refine K5.mono ?_
            rintro e w5 ⟨rfl, b5⟩
            clear K5
            cases hV : jobsV l ys with
            | false =>
              go_wp2_with fail
              go_ret2
              refine ⟨[], false, _, 0, by simp, rfl, own_base (OJ_blank w5 _ (Nat.le_refl _)) (bthru Bw b5).size, bal (bthru Bw b5) _⟩
            | true =>
              go_wp2_with fail
              go_ret2
              refine ⟨ys, true, b4, c4, hys, by rw [Hlen.out]; rfl, own_base (OJ_keep o4 b5) B1.size, bthru Bw b5⟩
end

section
open Go.RowKit

theorem OJ_only {base : Nat} {w w' : World} {A : Option Addr} {c : Nat} {l : List Jb} (h : OJ base w A c l) {W : World} {g p : Nat} (hr : RD W w g p) (hg : w.grownBy w' (some g)) : OJ base w' A c l := by
  obtain ⟨A', l', c', hh, _⟩ := hr.src
  exact own_only h hg hh (by decide)
theorem gbb {a w w' : World} {g : Nat} (h : a.grownBy w (some g)) (hb : Below w.heap.size w w') : a.grownBy w' (some g) := gb_row h (hb.mono h.size)
theorem OT_high {base : Nat} {w : World} {tb c : Nat} {l : List Tk} (h : OT base w (some ⟨tb, 0, none⟩) c l) (k : Nat) (hk : k < l.length) : w.cell? ⟨tb, k * 5 + 1, none⟩ = some (.int .i64 (tkAt l k).high) := by
  obtain ⟨b', off', hA, _, hc⟩ := h.ts (by omega)
  cases hA
  have := (cells_tk hc k hk).2.1
  rwa [Nat.zero_add] at this
theorem OJ_lt {base : Nat} {w : World} {b c : Nat} {l : List Jb} (h : OJ base w (some ⟨b, 0, none⟩) c l) : base ≤ b ∧ b < w.heap.size := World.ownsRow.lt h b rfl
theorem OJ_far {base : Nat} {w w' : World} {b c : Nat} {l : List Jb} (h : OJ base w (some ⟨b, 0, none⟩) c l) {nb : Nat} (hg : w.grownBy w' (some nb)) (hne : b ≠ nb) : OJ base w' (some ⟨b, 0, none⟩) c l :=
  World.ownsRow.kept h hg (.inr (by simpa [Value.ownBlock] using hne))
theorem RD_far {W w w' : World} {g p nb : Nat} (h : RD W w g p) (hg : w.grownBy w' (some nb)) (hne : g ≠ nb) (hW : W.heap.size ≤ nb) : RD W w' g p := by
  obtain ⟨A, l, c, hh, hs, hl⟩ := h.src
  refine ⟨h.below.grown hg h.below.size (fun k hk => by cases hk; exact hW), h.new, ⟨A, l, c, ?_, hs, hl⟩, h.small⟩
  exact (hg.block g h.lt (by simpa using hne)).trans hh
theorem gb_far {a w w' : World} {g nb : Nat} (h : a.grownBy w (some g)) (hg : w.grownBy w' (some nb)) (hn : a.heap.size ≤ nb) : a.grownBy w' (some g) :=
  ⟨hg.os.trans h.os, hg.tape.trans h.tape, hg.output.trans h.output, Nat.le_trans h.size hg.size, fun i hi hne => (hg.block i (Nat.lt_of_lt_of_le hi h.size) (by
    intro e
    have : i = nb := by simpa using e
    omega)).trans (h.block i hi hne)⟩
theorem job_store (v : World) (nb : Nat) (t a n : Int) {x0 x1 x2 : Value} (h : v.heap[nb]? = some (.cells #[x0, x1, x2] 60 (0, 0))) :
    (((v.setCell ⟨nb, 0, none⟩ (.int .i64 t)).setCell ⟨nb, 1, none⟩ (.int .i64 a)).setCell ⟨nb, 2, none⟩ (.int .i64 n)).heap[nb]? = some (.cells #[.int .i64 t, .int .i64 a, .int .i64 n] 60 (0, 0)) ∧
      v.grownBy (((v.setCell ⟨nb, 0, none⟩ (.int .i64 t)).setCell ⟨nb, 1, none⟩ (.int .i64 a)).setCell ⟨nb, 2, none⟩ (.int .i64 n)) (some nb) := by
  have h1 := heap_setCell_same v nb 0 _ _ (.int .i64 t) h
  have h2 := heap_setCell_same _ nb 1 _ _ (.int .i64 a) h1
  have h3 := heap_setCell_same _ nb 2 _ _ (.int .i64 n) h2
  exact ⟨h3, gb_trans (gb_trans (oi_gb_cell v nb 0 _) (oi_gb_cell _ nb 1 _)) (oi_gb_cell _ nb 2 _)⟩
/-- Jobs drawn, in new memory. -/
def JobsPost (W w : World) (g p k m : Nat) (e : Ending) (w' : World) : Prop :=
  ∃ (B : Option Addr) (d : Nat) (js : List Jb) (q : Nat), e = .returned (.slice B js.length d) ∧ OJ w.heap.size w' B d js ∧ js.length ≤ m ∧ q ≤ p + k ∧ RD W w' g q ∧ w.grownBy w' (some g)
theorem worstL_len (l : List Tk) (n : Int) (high : Bool) : (worstL l n high).length ≤ 60 := by
  unfold worstL worst
  split
  · rename_i h
    simp only [Bool.and_eq_true, decide_eq_true_eq] at h
    exact h.2
  · simp
set_option maxHeartbeats 4000000 in
set_option maxRecDepth 100000 in
theorem spec_l6Jobs (W w : World) (g p : Nat) (A : Option Addr) (l : List Tk) (c : Nat) (h : RD W w g p) (hp : p + 70 ≤ 1099511627776) (hO : OT W.heap.size w A c l) (hl5 : l.length ≤ 6) (hsm : ∀ t ∈ l, Sm t) :
    Calls Tryz.prog 58 #[.pointer (some ⟨g, 0, none⟩), .slice A l.length c] w (JobsPost W w g p 70 60) := by
  have hWw := h.below.size
  have hgl := h.lt
  have hlm : l.length ≤ maxLen := by unfold maxLen; omega
  have hsz := own_size hO
  obtain ⟨hsz1, _⟩ := hsz
  go_enter Tryz.func58, Tryz.ntmps58
  go_wp2_with fail
  have hb0 := bal (Below.refl w.heap.size w) (.cells #[] 60)
  have hO0 := OT_alloc hO (.cells #[] 60)
  have hJ0 := OJ_blank w w.heap.size (Nat.le_refl _)
  have hr0 := h.grow hb0
  have hG0 : w.grownBy (w.alloc (.cells #[] 60)) (some g) := gb_row (World.grownBy.refl w (some g)) hb0
  refine (spec_pick W _ g p _ hr0 (by omega)).mono ?_
  rintro e w1 ⟨x, rfl, hx0, hx1, _, hr1, hg1⟩
  have hO1 := OT_only hO0 hr0 hg1
  have hJ1 := OJ_only hJ0 hr0 hg1
  have hG1 := gb_trans hG0 hg1
  clear hO0 hJ0 hr0 hG0 hg1 hb0
  by_cases hx : x = 0
  · subst hx
    go_wp2_with fail
    refine (spec_num W _ g (p + 1) _ [20, 10, 40, 5] _ (hr1.grow (bal (Below.refl _ _) _)) (by omega) (IS_lit _ _ _ _ _ rfl rfl) (by simp) (by simp) (by rintro a ⟨⟩; have := hr1.lt; simp; omega)).mono ?_
    rintro e w2 ⟨n, hn, rfl, hr2, hg2⟩
    have hO2 := OT_only (OT_alloc hO1 _) (hr1.grow (bal (Below.refl _ _) _)) hg2
    have hG2 := gb_trans (gbb hG1 (bal (Below.refl _ _) _)) hg2
    clear hg2
    go_wp2_with fail
    refine (spec_pick W _ g (p + 1 + 1) _ hr2 (by omega)).mono ?_
    rintro e w3 ⟨y, rfl, hy0, hy1, _, hr3, hg3⟩
    have hO3 := OT_only hO2 hr2 hg3
    have hG3 := gb_trans hG2 hg3
    go_wp2_with fail
    refine (spec_WorstJobs A l c n (y == 0) _ hO3.ts hlm).mono ?_
    rintro e w4 ⟨B, d, rfl, o4, b4⟩
    go_wp2_with fail
    go_ret
    exact ⟨B, d, worstL l n (y == 0), p + 1 + 1 + 1, rfl, own_base o4 (Nat.le_trans (by omega) hG3.size), worstL_len _ _ _, by omega, hr3.grow b4, gbb hG3 b4⟩
  · have hxe : (x == 0) = false := beq_eq_false_iff_ne.2 hx
    clear hx
    go_wp2_with fail
    refine (spec_num W _ g (p + 1) _ [8, 5, 12, 3, 20, 0] _ (hr1.grow (bal (Below.refl _ _) _)) (by omega) (IS_lit _ _ _ _ _ rfl rfl) (by simp) (by simp) (by rintro a ⟨⟩; have := hr1.lt; simp; omega)).mono ?_
    rintro e w2 ⟨n, hn, rfl, hr2, hg2⟩
    have hO2 := OT_only (OT_alloc hO1 _) (hr1.grow (bal (Below.refl _ _) _)) hg2
    have hJ2 := OJ_only (OJ_alloc hJ1 _) (hr1.grow (bal (Below.refl _ _) _)) hg2
    have hG2 := gb_trans (gbb hG1 (bal (Below.refl _ _) _)) hg2
    have hn2 : 0 ≤ n ∧ n ≤ 20 := by simp at hn; omega
    obtain ⟨i0, hi0⟩ : ∃ i0 : Nat, n = (i0 : Int) := ⟨n.toNat, by omega⟩
    subst hi0
    clear hg2 hn hJ1 hO1 hr1 hG1
    go_wp2_with fail
    go_loopg [5, 6] i0 (fun gg v iv wr => ∃ (m bo co q : Nat) (js : List Jb), gg = m ∧ iv = .int .i64 (m : Int) ∧ m ≤ 20 ∧ v = .slice (some ⟨bo, 0, none⟩) js.length co ∧ js.length + m ≤ 20 ∧ OJ w.heap.size wr (some ⟨bo, 0, none⟩) co js ∧ OT W.heap.size wr A c l ∧ q ≤ p + 2 + 3 * (20 - m) ∧ RD W wr g q ∧ w.grownBy wr (some g))
    case atStart => exact ⟨i0, _, 0, _, [], rfl, rfl, by omega, rfl, by simp; omega, hJ2, hO2, by omega, hr2, hG2⟩
    case round =>
      clear hJ2 hO2 hr2 hG2
      obtain ⟨m, bo, co, q, js, rfl, rfl, hm20, rfl, hjm, hJ, hOT, hq, hr, hG⟩ := hrel
      have hws : w.heap.size ≤ wr.heap.size := hG.size
      by_cases hgo : 0 < gk ∧ 0 < l.length
      · obtain ⟨hm0, hl0⟩ := hgo
        have e0 : decide ((0 : Int) < (gk : Int)) = true := decide_eq_true (by omega)
        have e1 : decide ((0 : Int) < (l.length : Int)) = true := decide_eq_true (by omega)
        go_wp2_with fail
        refine (spec_pick W _ g q _ hr (by omega)).mono ?_
        rintro e w3 ⟨y, rfl, hy0, hy1, _, hr3, hg3⟩
        have hy1 := hy1 (by omega)
        have hO3 := OT_only hOT hr hg3
        have hJ3 := OJ_only hJ hr hg3
        have hG3 := gb_trans hG hg3
        clear hOT hJ hr hG hg3
        obtain ⟨k, rfl⟩ : ∃ k : Nat, y = (k : Int) := ⟨y.toNat, by omega⟩
        have hkl : k < l.length := by omega
        obtain ⟨tb, rfl, htb, htl⟩ := OT_addr hO3 hl0
        obtain ⟨_, c1, _, _, _⟩ := cells_tk (off := 0) (b := tb) (l := l) (w := w3) (by
          obtain ⟨b', off', hA, _, hc⟩ := hO3.ts hl0
          cases hA
          exact hc) k hkl
        have hkI : (k : Int) < (l.length : Int) := by omega
        have hh2 := (hsm l[k] (List.getElem_mem hkl)).2.1
        rw [← tkAt_eq l k hkl] at hh2
        obtain ⟨hh20, hh21⟩ := hh2
        clear c1
        go_upto_region 9 with fail
        -- MARK9
        go_cut [8] from 43 to 54 (fun v wc => ∃ nb x1 x2, v = .pointer (some ⟨nb, 0, none⟩) ∧ wc.heap[nb]? = some (.cells #[.int .i64 (k : Int), .int .i64 x1, .int .i64 x2] 60 (0, 0)) ∧ OJ w.heap.size wc (some ⟨bo, 0, none⟩) co js ∧ OT W.heap.size wc (some ⟨tb, 0, none⟩) c l ∧ RD W wc g (q + 1 + 1 + 1) ∧ w.grownBy wc (some g))
        case first =>
          refine wp_region_held (S := fun w' => w'.cell? ⟨tb, k * 5 + 1, none⟩ = some (.int .i64 (tkAt l k).high)) (by kernel_rfl) ?_
          change wpAnyH _ _ _ _ _ _ _ _ (World.drew _)
          have Kz : Below w3.heap.size w3 (World.drew w3) := Below.drew (Below.refl _ _)
          have hr0 := hr3.grow Kz
          have hO0 := OT_keep hO3 Kz
          have hJ0 := OJ_keep hJ3 Kz
          have hG0 := gbb hG3 Kz
          have hS0 := OT_high hO0 k hkl
          generalize World.drew w3 = v0 at hr0 hO0 hJ0 hG0 hS0 ⊢
          refine takeHL (i := 0) 43 (.int .i64 (k : Int)) rfl rfl (by kernel_rfl) (by kernel_rfl) (by kernel_rfl) (fun _ _ _ h => h) (.inl ⟨by rfl, fun _ _ => rfl⟩) hS0 ?_
          simp only [List.set_cons_succ, List.set_cons_zero]
          refine takeHL (i := 1) 44 (.pointer (some ⟨g, 0, none⟩)) rfl rfl (by kernel_rfl) (by kernel_rfl) (by kernel_rfl) (fun _ _ _ h => h) (.inl ⟨by rfl, fun _ _ => rfl⟩) hS0 ?_
          simp only [List.set_cons_succ, List.set_cons_zero]
          refine takeHL (i := 3) 46 (.pointer (some ⟨g, 0, none⟩)) rfl rfl (by kernel_rfl) (by kernel_rfl) (by kernel_rfl) (fun _ _ _ h => h) (.inl ⟨by rfl, fun _ _ => rfl⟩) hS0 ?_
          simp only [List.set_cons_succ, List.set_cons_zero]
          refine takeHL (i := 4) 47 (.slice (some ⟨tb, 0, none⟩) l.length c) rfl rfl (by kernel_rfl) (by kernel_rfl) (by kernel_rfl) (fun _ _ _ h => h) (.inl ⟨by rfl, fun _ _ => rfl⟩) hS0 ?_
          simp only [List.set_cons_succ, List.set_cons_zero]
          refine takeHL (i := 5) 48 (.int .i64 (k : Int)) rfl rfl (by kernel_rfl) (by kernel_rfl) (by kernel_rfl) (fun _ _ _ h => h) (.inl ⟨by rfl, fun _ _ => rfl⟩) hS0 ?_
          simp only [List.set_cons_succ, List.set_cons_zero]
          refine takeHL (i := 6) 49 (.pointer (some ⟨tb, k * 5, none⟩)) rfl rfl (by kernel_rfl) (by kernel_rfl) (by kernel_rfl) (fun _ _ _ h => h) (.inl ⟨by rfl, fun w _ => by go_simp⟩) hS0 ?_
          simp only [List.set_cons_succ, List.set_cons_zero]
          refine takeHL (i := 7) 50 (.pointer (some ⟨tb, k * 5 + 1, none⟩)) rfl rfl (by kernel_rfl) (by kernel_rfl) (by kernel_rfl) (fun _ _ _ h => h) (.inl ⟨by rfl, fun w _ => by go_simp⟩) hS0 ?_
          simp only [List.set_cons_succ, List.set_cons_zero]
          refine takeHL (i := 8) 51 (.int .i64 (tkAt l k).high) rfl rfl (by kernel_rfl) (by kernel_rfl) (by kernel_rfl) (fun _ _ _ h => h) (.inl ⟨by rfl, fun w hS => by go_simp⟩) hS0 ?_
          simp only [List.set_cons_succ, List.set_cons_zero]
          refine wpAnyH_all (rs := [2, 12]) (by kernel_rfl) (by simp) ?_
          intro j hj
          simp only [List.mem_cons, List.not_mem_nil, or_false] at hj
          rcases hj with rfl | rfl
          · refine callOp 2 45 rfl rfl (by rfl) 25 Tryz.func25 (by kernel_rfl) rfl _ _ rfl #[.pointer (some ⟨g, 0, none⟩), .int .i64 30] (by simp [Act.eval]) (spec_pick W _ g (q + 1) _ hr0 (by omega)) ?_
            rintro e vA ⟨xA, rfl, xaA, xbA, xcA, hrA, hgA⟩
            have hOA := OT_only hO0 hr0 hgA
            have hJA := OJ_only hJ0 hr0 hgA
            have hGA := gb_trans hG0 hgA
            have hSA := OT_high hOA k hkl
            refine ⟨_, rfl, hSA, ?_⟩
            simp only [List.set_cons_succ, List.set_cons_zero]
            refine wpAnyH_all (rs := [9, 12]) (by kernel_rfl) (by simp) ?_
            intro j hj
            simp only [List.mem_cons, List.not_mem_nil, or_false] at hj
            rcases hj with rfl | rfl
            · refine callOp 9 52 rfl rfl (by rfl) 25 Tryz.func25 (by kernel_rfl) rfl _ _ rfl #[.pointer (some ⟨g, 0, none⟩), .int .i64 (tkAt l k).high] (by simp [Act.eval]) (spec_pick W _ g (q + 1 + 1) _ hrA (by omega)) ?_
              rintro e vB ⟨xB, rfl, xaB, xbB, xcB, hrB, hgB⟩
              have hOB := OT_only hOA hrA hgB
              have hJB := OJ_only hJA hrA hgB
              have hGB := gb_trans hGA hgB
              have hSB := OT_high hOB k hkl
              refine ⟨_, rfl, hSB, ?_⟩
              simp only [List.set_cons_succ, List.set_cons_zero]
              have xwB : xB ≤ 100 := by
                rcases Int.lt_or_le 0 (tkAt l k).high with e | e
                · have := xbB (by omega)
                  omega
                · have := xcB (by omega)
                  omega
              have qw : IntKind.i64.wrap (1 + xB) = 1 + xB := IntWalk.i64_in _ (by omega)
              refine takeHL (i := 10) 53 (.int .i64 (1 + xB)) rfl rfl (by kernel_rfl) (by kernel_rfl) (by kernel_rfl) (fun _ _ _ h => h) (.inl ⟨by rfl, fun w _ => by go_simp⟩) hSB ?_
              simp only [List.set_cons_succ, List.set_cons_zero]
              refine takeHL (i := 11) 54 (.agg #[.int .i64 (k : Int), .int .i64 xA, .int .i64 (1 + xB)]) rfl rfl (by kernel_rfl) (by kernel_rfl) (by kernel_rfl) (fun _ _ _ h => h) (.inl ⟨by rfl, fun w _ => by go_simp⟩) hSB ?_
              simp only [List.set_cons_succ, List.set_cons_zero]
              refine wpAnyH_all (rs := [12]) (by kernel_rfl) (by simp) ?_
              intro j hj
              rw [List.mem_singleton] at hj
              subst hj
              refine makeOp 12 8 rfl (by rfl) ?_
              intro K hK
              go_simp
              have bzC := bal (Below.refl vB.heap.size vB) (.cells #[.int .i64 0, .int .i64 0, .int .i64 0] 60 (0, 0))
              have hNC := heap_alloc_new vB (.cells #[.int .i64 0, .int .i64 0, .int .i64 0] 60 (0, 0))
              have hrC := hrB.grow bzC
              have hOC := OT_keep hOB bzC
              have hJC := OJ_keep hJB bzC
              have hGC := gbb hGB bzC
              have hSC := OT_high hOC k hkl
              have hbo := OJ_lt hJB
              have hnb0 := hrB.lt
              refine hK (.pointer (some ⟨vB.heap.size, 0, none⟩)) _ hSC ?_
              simp only [List.set_cons_succ, List.set_cons_zero]
              generalize World.alloc vB _ = vC at *
              obtain ⟨nb, hnbe⟩ : ∃ nb, vB.heap.size = nb := ⟨_, rfl⟩
              rw [hnbe] at hNC hbo hnb0 ⊢
              have hnb : nb ≠ g := by omega
              clear hK bzC hnbe
              refine wpAnyH_all (rs := [13]) (by kernel_rfl) (by simp) ?_
              intro j hj
              rw [List.mem_singleton] at hj
              subst hj
              refine storeOp 13 rfl (by rfl) ?_
              intro K hK
              obtain ⟨z0, z1, z2⟩ := blk3 hNC
              have zf := fun i => Lib.frozen_of_heap hNC i
              go_simp
              have hkk : ∀ i u, vC.grownBy (vC.setCell ⟨nb, i, none⟩ u) (some nb) := fun i u => oi_gb_cell vC nb i u
              have hF := job_store vC nb (k : Int) xA (1 + xB) hNC
              obtain ⟨hFb, hFg⟩ := hF
              have hOf : OT W.heap.size _ (some ⟨tb, 0, none⟩) c l := own_only hOC hFg hNC (by decide)
              have hJf := OJ_far hJC hFg (by omega)
              have hWn : W.heap.size ≤ nb := by have := hrC.below.size; omega
              have hrf := RD_far hrC hFg (fun e => hnb e.symm) (by have := h.below.size; have := hG3.size; omega)
              have hGf := gb_far hGC hFg (by have := hG3.size; omega)
              have hSf := OT_high hOf k hkl
              refine hK _ hSf ?_
              refine wpAnyH_done (by kernel_rfl) ?_ _
              go_wp2_with fail
              go_meet
              exact ⟨nb, xA, 1 + xB, rfl, hFb, hJf, hOf, hrf, hGf⟩
            · refine makeOp 12 8 rfl (by rfl) ?_
              intro K hK
              go_simp
              have bzC := bal (Below.refl vA.heap.size vA) (.cells #[.int .i64 0, .int .i64 0, .int .i64 0] 60 (0, 0))
              have hNC := heap_alloc_new vA (.cells #[.int .i64 0, .int .i64 0, .int .i64 0] 60 (0, 0))
              have hrC := hrA.grow bzC
              have hOC := OT_keep hOA bzC
              have hJC := OJ_keep hJA bzC
              have hGC := gbb hGA bzC
              have hSC := OT_high hOC k hkl
              have hbo := OJ_lt hJA
              have hnb0 := hrA.lt
              refine hK (.pointer (some ⟨vA.heap.size, 0, none⟩)) _ hSC ?_
              simp only [List.set_cons_succ, List.set_cons_zero]
              generalize World.alloc vA _ = vC at *
              obtain ⟨nb, hnbe⟩ : ∃ nb, vA.heap.size = nb := ⟨_, rfl⟩
              rw [hnbe] at hNC hbo hnb0 ⊢
              have hnb : nb ≠ g := by omega
              clear hK bzC hnbe
              refine wpAnyH_all (rs := [9]) (by kernel_rfl) (by simp) ?_
              intro j hj
              rw [List.mem_singleton] at hj
              subst hj
              refine callOp 9 52 rfl rfl (by rfl) 25 Tryz.func25 (by kernel_rfl) rfl _ _ rfl #[.pointer (some ⟨g, 0, none⟩), .int .i64 (tkAt l k).high] (by simp [Act.eval]) (spec_pick W _ g (q + 1 + 1) _ hrC (by omega)) ?_
              rintro e vB ⟨xB, rfl, xaB, xbB, xcB, hrB, hgB⟩
              have hOB := OT_only hOC hrC hgB
              have hJB := OJ_only hJC hrC hgB
              have hGB := gb_trans hGC hgB
              have hSB := OT_high hOB k hkl
              have hNB := (hgB.block nb (Array.getElem?_eq_some_iff.1 hNC).1 (by simpa using hnb)).trans hNC
              refine ⟨_, rfl, hSB, ?_⟩
              simp only [List.set_cons_succ, List.set_cons_zero]
              have xwB : xB ≤ 100 := by
                rcases Int.lt_or_le 0 (tkAt l k).high with e | e
                · have := xbB (by omega)
                  omega
                · have := xcB (by omega)
                  omega
              have qw : IntKind.i64.wrap (1 + xB) = 1 + xB := IntWalk.i64_in _ (by omega)
              refine takeHL (i := 10) 53 (.int .i64 (1 + xB)) rfl rfl (by kernel_rfl) (by kernel_rfl) (by kernel_rfl) (fun _ _ _ h => h) (.inl ⟨by rfl, fun w _ => by go_simp⟩) hSB ?_
              simp only [List.set_cons_succ, List.set_cons_zero]
              refine takeHL (i := 11) 54 (.agg #[.int .i64 (k : Int), .int .i64 xA, .int .i64 (1 + xB)]) rfl rfl (by kernel_rfl) (by kernel_rfl) (by kernel_rfl) (fun _ _ _ h => h) (.inl ⟨by rfl, fun w _ => by go_simp⟩) hSB ?_
              simp only [List.set_cons_succ, List.set_cons_zero]
              refine wpAnyH_all (rs := [13]) (by kernel_rfl) (by simp) ?_
              intro j hj
              rw [List.mem_singleton] at hj
              subst hj
              refine storeOp 13 rfl (by rfl) ?_
              intro K hK
              obtain ⟨z0, z1, z2⟩ := blk3 hNB
              have zf := fun i => Lib.frozen_of_heap hNB i
              go_simp
              have hkk : ∀ i u, vB.grownBy (vB.setCell ⟨nb, i, none⟩ u) (some nb) := fun i u => oi_gb_cell vB nb i u
              have hF := job_store vB nb (k : Int) xA (1 + xB) hNB
              obtain ⟨hFb, hFg⟩ := hF
              have hOf : OT W.heap.size _ (some ⟨tb, 0, none⟩) c l := own_only hOB hFg hNB (by decide)
              have hJf := OJ_far hJB hFg (by omega)
              have hWn : W.heap.size ≤ nb := by have := hrB.below.size; omega
              have hrf := RD_far hrB hFg (fun e => hnb e.symm) (by have := h.below.size; have := hG3.size; omega)
              have hGf := gb_far hGB hFg (by have := hG3.size; omega)
              have hSf := OT_high hOf k hkl
              refine hK _ hSf ?_
              refine wpAnyH_done (by kernel_rfl) ?_ _
              go_wp2_with fail
              go_meet
              exact ⟨nb, xA, 1 + xB, rfl, hFb, hJf, hOf, hrf, hGf⟩
          · refine makeOp 12 8 rfl (by rfl) ?_
            intro K hK
            go_simp
            have bzC := bal (Below.refl v0.heap.size v0) (.cells #[.int .i64 0, .int .i64 0, .int .i64 0] 60 (0, 0))
            have hNC := heap_alloc_new v0 (.cells #[.int .i64 0, .int .i64 0, .int .i64 0] 60 (0, 0))
            have hrC := hr0.grow bzC
            have hOC := OT_keep hO0 bzC
            have hJC := OJ_keep hJ0 bzC
            have hGC := gbb hG0 bzC
            have hSC := OT_high hOC k hkl
            have hbo := OJ_lt hJ0
            have hnb0 := hr0.lt
            refine hK (.pointer (some ⟨v0.heap.size, 0, none⟩)) _ hSC ?_
            simp only [List.set_cons_succ, List.set_cons_zero]
            generalize World.alloc v0 _ = vC at *
            obtain ⟨nb, hnbe⟩ : ∃ nb, v0.heap.size = nb := ⟨_, rfl⟩
            rw [hnbe] at hNC hbo hnb0 ⊢
            have hnb : nb ≠ g := by omega
            clear hK bzC hnbe
            refine wpAnyH_all (rs := [2]) (by kernel_rfl) (by simp) ?_
            intro j hj
            rw [List.mem_singleton] at hj
            subst hj
            refine callOp 2 45 rfl rfl (by rfl) 25 Tryz.func25 (by kernel_rfl) rfl _ _ rfl #[.pointer (some ⟨g, 0, none⟩), .int .i64 30] (by simp [Act.eval]) (spec_pick W _ g (q + 1) _ hrC (by omega)) ?_
            rintro e vA ⟨xA, rfl, xaA, xbA, xcA, hrA, hgA⟩
            have hOA := OT_only hOC hrC hgA
            have hJA := OJ_only hJC hrC hgA
            have hGA := gb_trans hGC hgA
            have hSA := OT_high hOA k hkl
            have hNA := (hgA.block nb (Array.getElem?_eq_some_iff.1 hNC).1 (by simpa using hnb)).trans hNC
            refine ⟨_, rfl, hSA, ?_⟩
            simp only [List.set_cons_succ, List.set_cons_zero]
            refine wpAnyH_all (rs := [9]) (by kernel_rfl) (by simp) ?_
            intro j hj
            rw [List.mem_singleton] at hj
            subst hj
            refine callOp 9 52 rfl rfl (by rfl) 25 Tryz.func25 (by kernel_rfl) rfl _ _ rfl #[.pointer (some ⟨g, 0, none⟩), .int .i64 (tkAt l k).high] (by simp [Act.eval]) (spec_pick W _ g (q + 1 + 1) _ hrA (by omega)) ?_
            rintro e vB ⟨xB, rfl, xaB, xbB, xcB, hrB, hgB⟩
            have hOB := OT_only hOA hrA hgB
            have hJB := OJ_only hJA hrA hgB
            have hGB := gb_trans hGA hgB
            have hSB := OT_high hOB k hkl
            have hNB := (hgB.block nb (Array.getElem?_eq_some_iff.1 hNA).1 (by simpa using hnb)).trans hNA
            refine ⟨_, rfl, hSB, ?_⟩
            simp only [List.set_cons_succ, List.set_cons_zero]
            have xwB : xB ≤ 100 := by
              rcases Int.lt_or_le 0 (tkAt l k).high with e | e
              · have := xbB (by omega)
                omega
              · have := xcB (by omega)
                omega
            have qw : IntKind.i64.wrap (1 + xB) = 1 + xB := IntWalk.i64_in _ (by omega)
            refine takeHL (i := 10) 53 (.int .i64 (1 + xB)) rfl rfl (by kernel_rfl) (by kernel_rfl) (by kernel_rfl) (fun _ _ _ h => h) (.inl ⟨by rfl, fun w _ => by go_simp⟩) hSB ?_
            simp only [List.set_cons_succ, List.set_cons_zero]
            refine takeHL (i := 11) 54 (.agg #[.int .i64 (k : Int), .int .i64 xA, .int .i64 (1 + xB)]) rfl rfl (by kernel_rfl) (by kernel_rfl) (by kernel_rfl) (fun _ _ _ h => h) (.inl ⟨by rfl, fun w _ => by go_simp⟩) hSB ?_
            simp only [List.set_cons_succ, List.set_cons_zero]
            refine wpAnyH_all (rs := [13]) (by kernel_rfl) (by simp) ?_
            intro j hj
            rw [List.mem_singleton] at hj
            subst hj
            refine storeOp 13 rfl (by rfl) ?_
            intro K hK
            obtain ⟨z0, z1, z2⟩ := blk3 hNB
            have zf := fun i => Lib.frozen_of_heap hNB i
            go_simp
            have hkk : ∀ i u, vB.grownBy (vB.setCell ⟨nb, i, none⟩ u) (some nb) := fun i u => oi_gb_cell vB nb i u
            have hF := job_store vB nb (k : Int) xA (1 + xB) hNB
            obtain ⟨hFb, hFg⟩ := hF
            have hOf : OT W.heap.size _ (some ⟨tb, 0, none⟩) c l := own_only hOB hFg hNB (by decide)
            have hJf := OJ_far hJB hFg (by omega)
            have hWn : W.heap.size ≤ nb := by have := hrB.below.size; omega
            have hrf := RD_far hrB hFg (fun e => hnb e.symm) (by have := h.below.size; have := hG3.size; omega)
            have hGf := gb_far hGB hFg (by have := hG3.size; omega)
            have hSf := OT_high hOf k hkl
            refine hK _ hSf ?_
            refine wpAnyH_done (by kernel_rfl) ?_ _
            go_wp2_with fail
            go_meet
            exact ⟨nb, xA, 1 + xB, rfl, hFb, hJf, hOf, hrf, hGf⟩
        case rest =>
          obtain ⟨nb, x1, x2, rfl, hN, hJ4, hO4, hr4, hG4⟩ := hcut
          clear hJ3 hO3 hr3
          obtain ⟨z0, z1, z2⟩ := blk3 hN
          clear hN
          go_wp2_with fail
          refine (spec_PutJob (some ⟨tb, 0, none⟩) l c bo 0 js co ⟨(k : Int), x1, x2⟩ wc hO4.ts hJ4.js hlm (by unfold maxLen; omega) (own_size hJ4).1).mono ?_
          rintro e w5 ⟨js', ok, b5', c5', hle, rfl, o5, b5⟩
          have hr5 := hr4.grow b5
          have hO5 := OT_keep hO4 b5
          have hJ5 := OJ_keep hJ4 b5
          have hG5 := gbb hG4 b5
          have hcs : w.heap.size ≤ wc.heap.size := hG4.size
          cases ok with
          | true =>
            go_wp2_with fail
            go_roundg (gk - 1)
            case measure => omega
            case rel => exact ⟨gk - 1, b5', c5', _, js', rfl, by go_num, by omega, rfl, by omega, own_base o5 hcs, hO5, by omega, hr5, hG5⟩
          | false =>
            go_wp2_with fail
            go_roundg (gk - 1)
            case measure => omega
            case rel => exact ⟨gk - 1, bo, co, _, js, rfl, by go_num, by omega, rfl, by omega, hJ5, hO5, by omega, hr5, hG5⟩
      · have hx : (decide ((0 : Int) < (gk : Int)) = false) ∨ (decide ((0 : Int) < (gk : Int)) = true ∧ decide ((0 : Int) < (l.length : Int)) = false) := by
          by_cases h0 : 0 < gk
          · refine .inr ⟨by go_num, by
              have : ¬ 0 < l.length := fun e => hgo ⟨h0, e⟩
              have : l.length = 0 := by omega
              rw [this]
              rfl⟩
          · exact .inl (by go_num)
        rcases hx with hx | ⟨hx, hx2⟩
        · go_wp2_with fail
          all_goals
            go_ret
            exact ⟨some ⟨bo, 0, none⟩, co, js, q, rfl, hJ, by omega, by omega, hr, hG⟩
        · go_wp2_with fail
          all_goals
            go_ret
            exact ⟨some ⟨bo, 0, none⟩, co, js, q, rfl, hJ, by omega, by omega, hr, hG⟩
-- MARKZ
end

section
open Go.RowKit

theorem OT_blkC {base : Nat} {w : World} {b c : Nat} {l : List Tk} (h : OT base w (some ⟨b, 0, none⟩) c l) : ∃ cs, w.heap[b]? = some (.cells cs 58 (0, 0)) := by
  rcases h.2 with ⟨hv, _⟩ | ⟨g, cap, cur, hv, hg, hh, _⟩
  · cases hv
  · injection hv with hA
    injection hA with hA
    injection hA with hb
    subst hb
    exact ⟨cur, hh⟩
theorem OJ_blkC {base : Nat} {w : World} {b c : Nat} {l : List Jb} (h : OJ base w (some ⟨b, 0, none⟩) c l) : ∃ cs, w.heap[b]? = some (.cells cs 60 (0, 0)) := by
  rcases h.2 with ⟨hv, _⟩ | ⟨g, cap, cur, hv, hg, hh, _⟩
  · cases hv
  · injection hv with hA
    injection hA with hA
    injection hA with hb
    subst hb
    exact ⟨cur, hh⟩
theorem OJ_fz {base : Nat} {w : World} {b c : Nat} {l : List Jb} (h : OJ base w (some ⟨b, 0, none⟩) c l) (k : Nat) (hk : k < l.length) : (∃ u, w.cell? ⟨b, k * 3 + 2, none⟩ = some u) ∧ ∀ i, w.frozen? ⟨b, i, none⟩ = false := by
  obtain ⟨cs, hb⟩ := OJ_blkC h
  refine ⟨?_, fun i => Lib.frozen_of_heap hb i⟩
  obtain ⟨b', off', hA, _, hc⟩ := h.js (by omega)
  cases hA
  have := (job_cells hc k hk).2.2
  rw [Nat.zero_add] at this
  exact ⟨_, this⟩
theorem OT_pastJ {base base2 : Nat} {w w' : World} {A : Option Addr} {c : Nat} {l : List Tk} (h : OT base w A c l) {B : Option Addr} {d n : Nat} {js : List Jb} (hJ : OJ base2 w B d js) (hg : w.grownBy w' (Value.slice B n d).ownBlock) : OT base w' A c l := by
  rcases hJ.2 with ⟨hv, _⟩ | ⟨g, cap, cur, hv, _, hh, _⟩
  · injection hv with hA
    subst hA
    refine World.ownsRow.kept h hg ?_
    rcases h.2 with ⟨hv, _⟩ | ⟨g, cap, cur, hv, _⟩
    · exact .inl (by rw [hv]; rfl)
    · exact .inr (by rw [hv]; simp [Value.ownBlock])
  · injection hv with hA
    subst hA
    exact own_only h hg hh (by decide)
/-- What l6Case hands over. -/
structure JCaseOk (w w' : World) (A : Option Addr) (c : Nat) (l : List Tk) (B : Option Addr) (d : Nat) (js : List Jb) : Prop where
  tasks : OT w.heap.size w' A c l
  jobs : OJ w.heap.size w' B d js
  len : l.length ≤ 5
  jlen : js.length ≤ 61
  below : Below w.heap.size w w'
def JCasePost (w : World) (e : Ending) (w' : World) : Prop := ∃ A c l B d js, e = .returned (.tuple #[.slice A (List.length l) c, .slice B (List.length js) d]) ∧ JCaseOk w w' A c l B d js

set_option maxHeartbeats 2000000 in
theorem spec_l6Case (A0 : Option Addr) (code : List Int) (c0 : Nat) (w : World) (h : BS w A0 code) (hl : code.length ≤ maxLen) (hlc : code.length ≤ c0) :
    Calls Tryz.prog 26 #[.slice A0 code.length c0] w (JCasePost w) := by
  go_enter Tryz.func26, Tryz.ntmps26
  go_wp2_with fail
  refine (spec_l11Open A0 code c0 w h hl hlc).mono ?_
  rintro e w1 ⟨rfl, hr1⟩
  go_wp2_with fail
  refine (spec_l1Set w _ _ 0 hr1 (by omega)).mono ?_
  rintro e w2 ⟨A, c, l, q2, rfl, hO2, hsm, hl5, hq2, hr2, hg2⟩
  have hO2 := own_base hO2 hr1.below.size
  clear hg2
  go_wp2_with fail
  refine (spec_l6Jobs w _ _ q2 A l c hr2 (by omega) hO2 (by omega) hsm).mono ?_
  rintro e w3 ⟨B, d, js, q3, rfl, hJ3, hj60, hq3, hr3, hg3⟩
  have hJ3 := own_base hJ3 hr2.below.size
  have hO3 := OT_only hO2 hr2 hg3
  clear hg3 hO2 hr2 hr1
  go_wp2_with fail
  refine (spec_pick w _ _ q3 _ hr3 (by omega)).mono ?_
  rintro e w4 ⟨x, rfl, hx0, hx1, _, hr4, hg4⟩
  have hO4 := OT_only hO3 hr3 hg4
  have hJ4 := OJ_only hJ3 hr3 hg4
  clear hg4 hO3 hJ3 hr3 hx1
  rcases Int.lt_or_le 2 x with hx3 | hx3
  · have e0 : (x == 0) = false := beq_eq_false_iff_ne.2 (by omega)
    have e1 : (x == 1) = false := beq_eq_false_iff_ne.2 (by omega)
    have e2 : (x == 2) = false := beq_eq_false_iff_ne.2 (by omega)
    go_wp2_with fail
    go_ret2
    exact ⟨A, c, l, B, d, js, rfl, ⟨hO4, hJ4, hl5, by omega, hr4.below⟩⟩
  · have hx : x = 0 ∨ x = 1 ∨ x = 2 := by omega
    clear hx0 hx3
    rcases hx with rfl | rfl | rfl
    · go_wp2_with fail
      refine (spec_num w _ _ _ _ [0, 5, -1] _ (hr4.grow (bal (Below.refl _ _) _)) (by omega) (IS_lit _ _ _ _ _ rfl rfl) (by simp) (by simp) (by rintro a ⟨⟩; have := hr4.lt; simp; omega)).mono ?_
      rintro e w5 ⟨n5, _, rfl, hr5, hg5⟩
      have hO5 := OT_only (OT_alloc hO4 _) (hr4.grow (bal (Below.refl _ _) _)) hg5
      have hJ5 := OJ_only (OJ_alloc hJ4 _) (hr4.grow (bal (Below.refl _ _) _)) hg5
      clear hg5 hO4 hJ4
      go_wp2_with fail
      refine (spec_num w _ _ _ _ [50, 0, 201] _ (hr5.grow (bal (Below.refl _ _) _)) (by omega) (IS_lit _ _ _ _ _ rfl rfl) (by simp) (by simp) (by rintro a ⟨⟩; have := hr5.lt; simp; omega)).mono ?_
      rintro e w6 ⟨n6, _, rfl, hr6, hg6⟩
      have hO6 := OT_only (OT_alloc hO5 _) (hr5.grow (bal (Below.refl _ _) _)) hg6
      have hJ6 := OJ_only (OJ_alloc hJ5 _) (hr5.grow (bal (Below.refl _ _) _)) hg6
      clear hg6 hO5 hJ5
      go_wp2_with fail
      refine (spec_num w _ _ _ _ [1, 0, 21] _ (hr6.grow (bal (Below.refl _ _) _)) (by omega) (IS_lit _ _ _ _ _ rfl rfl) (by simp) (by simp) (by rintro a ⟨⟩; have := hr6.lt; simp; omega)).mono ?_
      rintro e w7 ⟨n7, _, rfl, hr7, hg7⟩
      have hO7 := OT_only (OT_alloc hO6 _) (hr6.grow (bal (Below.refl _ _) _)) hg7
      have hJ7 := OJ_only (OJ_alloc hJ6 _) (hr6.grow (bal (Below.refl _ _) _)) hg7
      clear hg7 hO6 hJ6
      have hA := heap_alloc_new w7 (.cells #[.int .i64 n5, .int .i64 n6, .int .i64 n7] 60 (0, 0))
      have hW7 := hr7.below.size
      go_wp2_with (at_builtin; refine wpList_app_job _ rfl _ _ rfl w.heap.size B js js.length d rfl rfl (OJ_alloc hJ7 _) w7.heap.size 1 ⟨n5, n6, n7⟩ _ 60 rfl hA rfl (by omega) (by simp; omega) ?_; intro A3 c3 w8 o3 g3 b3)
      go_ret2
      exact ⟨A, c, l, A3, c3, js ++ [⟨n5, n6, n7⟩], by simp, ⟨OT_pastJ (OT_alloc hO7 _) (OJ_alloc hJ7 _) g3, o3, hl5, by simp; omega, (bal hr7.below _).trans b3⟩⟩
    · rcases Nat.eq_zero_or_pos js.length with h0 | h0
      · go_wp2_with fail
        go_ret2
        exact ⟨A, c, l, B, d, js, by rw [h0]; rfl, ⟨hO4, hJ4, hl5, by omega, hr4.below⟩⟩
      · have e0 : decide ((0 : Int) < (js.length : Int)) = true := decide_eq_true (by omega)
        go_wp2_with fail
        refine (spec_pick w _ _ _ _ hr4 (by omega)).mono ?_
        rintro e w5 ⟨y, rfl, hy0, hy1, _, hr5, hg5⟩
        have hy1 := hy1 (by omega)
        have hO5 := OT_only hO4 hr4 hg5
        have hJ5 := OJ_only hJ4 hr4 hg5
        clear hg5 hO4 hJ4 hr4
        obtain ⟨k, rfl⟩ : ∃ k : Nat, y = (k : Int) := ⟨y.toNat, by omega⟩
        have hkl : k < js.length := by omega
        go_wp2_with fail
        refine (spec_num w _ _ _ _ [0, 20, 1] _ (hr5.grow (bal (Below.refl _ _) _)) (by omega) (IS_lit _ _ _ _ _ rfl rfl) (by simp) (by simp) (by rintro a ⟨⟩; have := hr5.lt; simp; omega)).mono ?_
        rintro e w6 ⟨n6, _, rfl, hr6, hg6⟩
        have hO6 := OT_only (OT_alloc hO5 _) (hr5.grow (bal (Below.refl _ _) _)) hg6
        have hJ6 := OJ_only (OJ_alloc hJ5 _) (hr5.grow (bal (Below.refl _ _) _)) hg6
        clear hg6 hO5 hJ5
        obtain ⟨jb, rfl, hjb, hjl⟩ := OJ_addr hJ6 h0
        obtain ⟨⟨u0, k0⟩, kf⟩ := OJ_fz hJ6 k hkl
        go_wp2_with fail
        go_ret2
        obtain ⟨cs, hbk⟩ := OJ_blkC hJ6
        obtain ⟨hJ7, hg7⟩ := OJ_field hJ6 k 2 hkl (by omega) (.int .i64 n6) ⟨js[k].task, js[k].at_, n6⟩ rfl
        exact ⟨A, c, l, _, d, js.set k ⟨js[k].task, js[k].at_, n6⟩, by rw [List.length_set]; rfl, ⟨own_only hO6 hg7 hbk (by decide), hJ7, hl5, by rw [List.length_set]; omega, hr6.below.trans (own_below hJ6 hg7 hr6.below.size)⟩⟩
    · rcases Nat.eq_zero_or_pos l.length with h0 | h0
      · go_wp2_with fail
        go_ret2
        exact ⟨A, c, l, B, d, js, by rw [h0]; rfl, ⟨hO4, hJ4, hl5, by omega, hr4.below⟩⟩
      · have e0 : decide ((0 : Int) < (l.length : Int)) = true := decide_eq_true (by omega)
        go_wp2_with fail
        refine (spec_pick w _ _ _ _ hr4 (by omega)).mono ?_
        rintro e w5 ⟨y, rfl, hy0, hy1, _, hr5, hg5⟩
        have hy1 := hy1 (by omega)
        have hO5 := OT_only hO4 hr4 hg5
        have hJ5 := OJ_only hJ4 hr4 hg5
        clear hg5 hO4 hJ4 hr4
        obtain ⟨k, rfl⟩ : ∃ k : Nat, y = (k : Int) := ⟨y.toNat, by omega⟩
        have hkl : k < l.length := by omega
        obtain ⟨b, rfl, hbw, hbl⟩ := OT_addr hO5 h0
        obtain ⟨k0, k1, k2, k3, k4, kf⟩ := OT_cells hO5 k hkl
        go_wp2_with fail
        refine (spec_l1Wrong w _ _ _ l[k] (hsm _ (List.getElem_mem hkl)) hr5 (by omega)).mono ?_
        rintro e w9 ⟨t9, q9, rfl, hs9, hq9, hr9, hg9⟩
        have hO9 := OT_only hO5 hr5 hg9
        have hJ9 := OJ_only hJ5 hr5 hg9
        clear hg9 k0 k1 k2 k3 k4 kf
        go_wp2_with fail
        refine (spec_l1Wrong w _ _ _ t9 hs9 hr9 (by omega)).mono ?_
        rintro e w10 ⟨t10, q10, rfl, hs10, hq10, hr10, hg10⟩
        have hO10 := OT_only hO9 hr9 hg10
        have hJ10 := OJ_only hJ9 hr9 hg10
        clear hg10 hO9 hJ9 hr9
        obtain ⟨k0, k1, k2, k3, k4, kf⟩ := OT_cells hO10 k hkl
        go_wp2_with fail
        go_ret2
        obtain ⟨cs, hbk⟩ := OT_blkC hO10
        have hO11 := OT_whole hO10 k hkl t10
        have hg11 := gb_set5row (w := w10) (b := b) (i0 := k * 5) (i1 := k * 5 + 1) (i2 := k * 5 + 2) (i3 := k * 5 + 3) (i4 := k * 5 + 4) (.int .i64 t10.low) (.int .i64 t10.high) (.int .i64 t10.due) (.int .i64 t10.every) (.bool t10.crit)
        exact ⟨_, c, l.set k t10, B, d, js, by rw [List.length_set]; rfl, ⟨hO11, own_only hJ10 hg11 hbk (by decide), by rw [List.length_set]; exact hl5, by omega, hr10.below.trans (own_below hO10 hg11 hr10.below.size)⟩⟩
end
end Go.Proofs.YtmkjmancmiphfaaGreatDoor
