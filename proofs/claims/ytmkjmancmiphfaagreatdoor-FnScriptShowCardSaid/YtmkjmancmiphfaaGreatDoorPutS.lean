/-
  PutJob: the reference's: some jobs, whatever it is asked. (Printed by gen_puts.py.)
-/
import Derived.Test.YtmkjmancmiphfaaGreatDoorJobVS2
import Derived.Test.YtmkjmancmiphfaaGreatDoorClone
namespace Go.Proofs.YtmkjmancmiphfaaGreatDoor
open Go.RowKit

theorem wpList_app_jobs (w : World) {ops : Array Oper} {rest : List Oper} {o : Oper} {a : Act} {Q : Exit → Act → World → Prop} (hgd : o.guard = none) (s x : Operand)
    (ho : o.op = .call { callee := .builtin .append, args := #[s, x], argTypes := #[24, 24] })
    (base : Nat) (A : Option Addr) (l : List Jb) (n c : Nat) (hn : l.length = n) (hs : a.eval s = .slice A n c) (hown : OJ base w A c l)
    (ad : Addr) (m c1 : Nat) (ms : List Jb) (hm : ms.length = m) (hx : a.eval x = .slice (some ad) m c1) (hj : JS w (some ad) ms)
    (hl : l.length ≤ 2000000) (hlm : ms.length ≤ 2000000) (hbase : base ≤ w.heap.size)
    (h : ∀ A' c' w', OJ base w' A' c' (l ++ ms) → w.grownBy w' (Value.slice A n c).ownBlock → Below base w w' → wpList Tryz.prog ops Q rest (a.put o.dst (.slice A' (n + m) c')) w') : wpList Tryz.prog ops Q (o :: rest) a w := by
  subst hn hm
  obtain ⟨i0, hi, hz0, hz1, hz2⟩ := info_parts infoJobB
  refine wpList_append_own w hgd s x 24 ho base 60 i0 _ 3 24 Tryz.underlying24 hi hz0 hz1 hz2 rfl (by decide) (.slice A l.length c) l.length (flatJ l) hs hown
    ad ms.length c1 (flatJ ms) hx (by rw [flatJ_length, Nat.mul_comm]) ?_ ?_ (by unfold maxLen; omega) (by omega) hbase ?_
  · intro j u hu
    have hpos : 0 < ms.length := by
      have := (List.getElem?_eq_some_iff.1 hu).1
      rw [flatJ_length] at this
      omega
    obtain ⟨b, off, hA, _, hc⟩ := hj hpos
    cases hA
    rw [Go.WideShapes.add_plain]
    exact hc j u hu
  · intro u hu
    simp only [flatJ, List.mem_flatMap, Jb.cells, List.mem_cons, List.not_mem_nil, or_false] at hu
    obtain ⟨t, _, rfl | rfl | rfl⟩ := hu <;> rfl
  · intro v' w' hown' hg _
    obtain ⟨A', c', rfl⟩ := own_form hown'
    refine h A' c' w' ?_ hg (own_below hown hg hbase)
    unfold OJ
    rw [List.length_append, flatJ_append]
    exact hown'
theorem JS.take {w : World} {A : Option Addr} {l : List Jb} (h : JS w A l) (k : Nat) : JS w A (l.take k) := by
  intro hl
  rw [List.length_take] at hl
  obtain ⟨b, off, hA, hb, hc⟩ := h (by omega)
  refine ⟨b, off, hA, hb, fun j u hu => hc j u ?_⟩
  rw [← flatJ_take] at hu
  rw [List.getElem?_take] at hu
  split at hu
  · exact hu
  · cases hu
theorem flatJ_drop (l : List Jb) (k : Nat) : flatJ (l.drop k) = (flatJ l).drop (k * 3) := by
  have h := flatJ_append (l.take k) (l.drop k)
  rw [List.take_append_drop, ← flatJ_take] at h
  have h2 : (flatJ l).drop (k * 3) = ((flatJ l).take (k * 3) ++ flatJ (l.drop k)).drop (k * 3) := by rw [← h]
  rw [h2, List.drop_append, List.length_take]
  have hle : ((flatJ l).take (k * 3)).drop (k * 3) = [] := by rw [List.drop_eq_nil_iff, List.length_take]; omega
  rw [hle, List.nil_append]
  by_cases hk : k * 3 ≤ (flatJ l).length
  · rw [Nat.min_eq_left hk, Nat.sub_self, List.drop_zero]
  · have : l.drop k = [] := by
      rw [List.drop_eq_nil_iff]
      rw [flatJ_length] at hk
      omega
    rw [this]
    simp [flatJ]
theorem JS.drop {w : World} {b off : Nat} {l : List Jb} (h : JS w (some ⟨b, off, none⟩) l) (k : Nat) : JS w (some ⟨b, off + k * 3, none⟩) (l.drop k) := by
  intro hl
  rw [List.length_drop] at hl
  obtain ⟨b', off', hA, hb, hc⟩ := h (by omega)
  cases hA
  refine ⟨b, off + k * 3, rfl, hb, fun j u hu => ?_⟩
  rw [flatJ_drop, List.getElem?_drop] at hu
  have := hc _ _ hu
  rw [Nat.add_assoc]
  exact this
theorem bal' {B : Nat} {W w1 : World} (h1 : Below B W w1) (hB : B ≤ w1.heap.size) (o : Obj) : Below B W (w1.alloc o) := h1.alloc hB o
set_option maxHeartbeats 4000000 in
set_option maxRecDepth 100000 in
theorem spec_PutJob (A : Option Addr) (l : List Tk) (c : Nat) (b off : Nat) (js : List Jb) (d : Nat) (j : Jb) (w : World) (h : TS w A l) (g : JS w (some ⟨b, off, none⟩) js) (hm : l.length ≤ maxLen) (hj : js.length ≤ maxLen) (hjd : js.length ≤ d) :
    Calls Tryz.prog 102 #[.slice A l.length c, .slice (some ⟨b, off, none⟩) js.length d, j.val] w fun e w' => ∃ js' ok b' c', js'.length ≤ js.length + 1 ∧ e = .returned (.tuple #[.slice (some ⟨b', 0, none⟩) js'.length c', .bool ok]) ∧ OJ w.heap.size w' (some ⟨b', 0, none⟩) c' js' ∧ Below w.heap.size w w' := by
  obtain ⟨q, a, n⟩ := j
  have hT := heap_alloc_new w (.cells #[.int .i64 q, .int .i64 a, .int .i64 n] 60 (0, 0))
  have hba := bal (Below.refl w.heap.size w) (.cells #[.int .i64 q, .int .i64 a, .int .i64 n] 60 (0, 0))
  cases hV : jobsV l js with
  | false =>
    go_enter Tryz.func102, Tryz.ntmps102
    go_wp2_with fail
    refine (spec_JobsValid A l c _ js d _ (h.keep hba) (g.keep hba) hm hj).mono ?_
    rw [hV]
    rintro e w1 ⟨rfl, b1⟩
    go_wp2_with fail
    go_ret2
    exact ⟨[], false, _, 0, by simp, rfl, own_base (OJ_blank w1 _ (Nat.le_refl _)) (bthru hba b1).size, bal (bthru hba b1) _⟩
  | true =>
    have h60 : js.length ≤ 60 := by
      simp only [jobsV, Bool.and_eq_true, decide_eq_true_eq] at hV
      exact hV.1.2
    have HV := Lib.hid hV
    clear hV
    go_enter Tryz.func102, Tryz.ntmps102
    go_wp2_with fail
    refine (spec_JobsValid A l c _ js d _ (h.keep hba) (g.keep hba) hm hj).mono ?_
    rw [HV.out]
    rintro e w1 ⟨rfl, b1⟩
    have hlT := (Array.getElem?_eq_some_iff.1 hT).1
    have hT1 := (b1.block _ hlT).trans hT
    have B1 := bthru hba b1
    have hn1 := Nat.lt_of_lt_of_le hlT b1.size
    clear hT hlT hba b1
    obtain ⟨nB, hnB⟩ : ∃ nB, w.heap.size = nB := ⟨_, rfl⟩
    rw [hnB] at hT1 hn1 ⊢
    go_wp2_with fail
    go_loopg [8] js.length (fun gg i wr => ∃ k : Nat, gg = k ∧ k ≤ js.length ∧ i = .int .i64 (k : Int) ∧ Below w1.heap.size w1 wr)
    case atStart => exact ⟨js.length, rfl, Nat.le_refl _, rfl, Below.refl _ _⟩
    case round =>
      obtain ⟨k, rfl, hk, rfl, hb⟩ := hrel
      have B2 := bthru B1 hb
      have hT2 := (hb.block nB hn1).trans hT1
      have hlT := Nat.lt_of_lt_of_le hn1 hb.size
      cases gk with
      | zero =>
        have e0 : decide ((0 : Int) < 0) = false := rfl
        have hcast : (((0 : Nat)) : Int) = 0 := rfl
        rw [hcast]
        go_wp2_with fail
        go_quiet (fail)
        generalize hwz : World.drewN wr _ = wz
        have Kz : Below wr.heap.size wr wz := by rw [← hwz]; exact bdr (Below.refl _ _) _
        clear hwz
        have hN1 : w1.heap.size ≤ (wz).heap.size := Nat.le_trans hb.size Kz.size
        have Bz : Below w1.heap.size w1 (wz) := hb.trans (Kz.mono hb.size)
        have gz := (g.keep B1).keep Bz
        have hgl : ((js.take (0)).length = 0) := by rw [List.length_take]; omega
        have Hgl := Lib.hid hgl
        clear hgl
        go_upto_region 7 with (at_builtin; refine wpList_app_jobs _ rfl _ _ rfl w1.heap.size (some ⟨(wz).heap.size, 0, none⟩) [] 0 0 rfl rfl (OJ_blank (wz) _ hN1) ⟨b, off, none⟩ (0) d (js.take (0)) Hgl.out rfl ((gz.keep (bal (Below.refl _ _) _)).take (0)) (by simp) (by rw [Hgl.out]; omega) (Nat.le_trans hN1 (by simp)) ?_; intro A2 c2 w2 o2 g2 b2)
        rw [List.nil_append] at o2
        have B3 : Below w1.heap.size w1 w2 := (bal' Bz hN1 _).trans b2
        clear g2 b2 gz hN1
        obtain ⟨t0, t1, t2⟩ := blk3 ((B3.block nB hn1).trans hT1)
        have hN2 : w1.heap.size ≤ w2.heap.size := B3.size
        go_upto_region 8 with (at_builtin; refine wpList_app_job _ rfl _ _ rfl w1.heap.size A2 (js.take (0)) (0) c2 Hgl.out rfl (OJ_alloc o2 _) w2.heap.size 1 ⟨q, a, n⟩ _ 60 rfl (heap_alloc_new w2 _) rfl (by rw [Hgl.out]; omega) (Nat.le_trans hN2 (by simp)) ?_; intro A3 c3 w3 o3 g3 b3)
        have B4 : Below w1.heap.size w1 w3 := (bal' B3 hN2 _).trans b3
        clear g3 b3 o2 B3 t0 t1 t2 hN2
        have gz := (g.keep B1).keep B4
        have hN3 : w1.heap.size ≤ w3.heap.size := B4.size
        have Hgl3 : Hid ((js.take (0) ++ [(⟨q, a, n⟩ : Jb)]).length = 0 + 1) := by rw [Hid, List.length_append, Hgl.out]; rfl
        have hgd : (js.drop (0)).length = js.length - (0) := List.length_drop
        by_cases hdk : d = 0
        · have hz : js.length - (0) = 0 := by omega
          have Hz := Lib.hid hz
          have Hgd := Lib.hid hgd
          clear hz hgd
          subst hdk
          go_upto_region 9 with (at_builtin; refine wpList_app_jobs _ rfl _ _ rfl w1.heap.size A3 (js.take (0) ++ [⟨q, a, n⟩]) (0 + 1) c3 Hgl3.out rfl o3 _ _ _ (js.drop (0)) (by rw [Hgd.out] <;> first | rfl | exact Hz.out) rfl (fun hh => by rw [Hgd.out, Hz.out] at hh; omega) (by rw [Hgl3.out]; omega) (by rw [Hgd.out]; omega) hN3 ?_; intro A4 c4 w4 o4 g4 b4)
          have Hlen : Hid ((js.take (0) ++ [(⟨q, a, n⟩ : Jb)] ++ js.drop (0)).length = 0 + 1 + 0) := by rw [Hid, List.length_append, Hgl3.out, Hgd.out, Hz.out]
          have hys : (js.take (0) ++ [(⟨q, a, n⟩ : Jb)] ++ js.drop (0)).length ≤ js.length + 1 := by rw [Hlen.out]; omega
          have B5 : Below w1.heap.size w1 w4 := B4.trans b4
          have hpos : 0 < (js.take (0) ++ [(⟨q, a, n⟩ : Jb)] ++ js.drop (0)).length := by rw [Hlen.out]; omega
          clear g4 b4 o3 B4 gz
          generalize js.take (0) ++ [(⟨q, a, n⟩ : Jb)] ++ js.drop (0) = ys at o4 Hlen hys hpos
          obtain ⟨b4, rfl, hb4, _⟩ := OJ_addr o4 hpos
          have Bw := bthru B1 (B5.mono (Nat.le_refl _))
          have K5 := spec_JobsValid A l c (some ⟨b4, 0, none⟩) ys c4 w4 (h.keep Bw) o4.js hm (by unfold maxLen; omega)
          rw [Hlen.out] at K5
          go_wp2_with fail
          refine K5.mono ?_
          rintro e w5 ⟨rfl, b5⟩
          clear K5
          cases hV : jobsV l ys with
          | false =>
            go_wp2_with fail
            go_ret2
            refine ⟨[], false, _, 0, by simp, rfl, own_base (OJ_blank w5 _ (Nat.le_refl _)) (bthru Bw b5).size, bal (bthru Bw b5) _⟩
          | true =>
            go_wp2_with fail
            go_ret2
            refine ⟨ys, true, b4, c4, hys, by rw [Hlen.out]; rfl, own_base (OJ_keep o4 b5) B1.size, bthru Bw b5⟩
        · have hdk2 : 0 < d := by omega
          have Hgd := Lib.hid hgd
          clear hgd
          go_upto_region 9 with (at_builtin; refine wpList_app_jobs _ rfl _ _ rfl w1.heap.size A3 (js.take (0) ++ [⟨q, a, n⟩]) (0 + 1) c3 Hgl3.out rfl o3 ⟨b, off + (0) * 3, none⟩ (js.length - (0)) (d - (0)) (js.drop (0)) Hgd.out rfl (gz.drop (0)) (by rw [Hgl3.out]; omega) (by rw [Hgd.out]; omega) hN3 ?_; intro A4 c4 w4 o4 g4 b4)
          have Hlen : Hid ((js.take (0) ++ [(⟨q, a, n⟩ : Jb)] ++ js.drop (0)).length = 0 + 1 + (js.length - (0))) := by rw [Hid, List.length_append, Hgl3.out, Hgd.out]
          have hys : (js.take (0) ++ [(⟨q, a, n⟩ : Jb)] ++ js.drop (0)).length ≤ js.length + 1 := by rw [Hlen.out]; omega
          have B5 : Below w1.heap.size w1 w4 := B4.trans b4
          have hpos : 0 < (js.take (0) ++ [(⟨q, a, n⟩ : Jb)] ++ js.drop (0)).length := by rw [Hlen.out]; omega
          clear g4 b4 o3 B4 gz
          generalize js.take (0) ++ [(⟨q, a, n⟩ : Jb)] ++ js.drop (0) = ys at o4 Hlen hys hpos
          obtain ⟨b4, rfl, hb4, _⟩ := OJ_addr o4 hpos
          have Bw := bthru B1 (B5.mono (Nat.le_refl _))
          have K5 := spec_JobsValid A l c (some ⟨b4, 0, none⟩) ys c4 w4 (h.keep Bw) o4.js hm (by unfold maxLen; omega)
          rw [Hlen.out] at K5
          go_wp2_with fail
          refine K5.mono ?_
          rintro e w5 ⟨rfl, b5⟩
          clear K5
          cases hV : jobsV l ys with
          | false =>
            go_wp2_with fail
            go_ret2
            refine ⟨[], false, _, 0, by simp, rfl, own_base (OJ_blank w5 _ (Nat.le_refl _)) (bthru Bw b5).size, bal (bthru Bw b5) _⟩
          | true =>
            go_wp2_with fail
            go_ret2
            refine ⟨ys, true, b4, c4, hys, by rw [Hlen.out]; rfl, own_base (OJ_keep o4 b5) B1.size, bthru Bw b5⟩
      | succ m =>
        obtain ⟨b', off', hA, hbl, hc⟩ := g.keep B2 (by omega)
        cases hA
        obtain ⟨k0, k1, k2⟩ := job_cells hc m (by omega)
        obtain ⟨h0, h1, h2⟩ := blk3 hT2
        generalize hY : js[m] = Y at k0 k1 k2
        obtain ⟨q0, a0, n0⟩ := Y
        clear hY hc
        have hmI : (m : Int) < (js.length : Int) := by omega
        have hcast : (((m + 1 : Nat)) : Int) = (m : Int) + 1 := rfl
        have qw : IntKind.i64.wrap ((m : Int) + 1 - 1) = (m : Int) := by rw [Int.add_sub_cancel]; exact IntWalk.i64_in _ (by omega)
        have hSof : ∀ {w' : World}, Below wr.heap.size wr w' → w'.cell? ⟨nB, 0, none⟩ = some (.int .i64 q) ∧ w'.cell? ⟨nB, 1, none⟩ = some (.int .i64 a) ∧ w'.cell? ⟨nB, 2, none⟩ = some (.int .i64 n) ∧ w'.cell? ⟨b, off + m * 3, none⟩ = some (.int .i64 q0) ∧ w'.cell? ⟨b, off + m * 3 + 1, none⟩ = some (.int .i64 a0) ∧ w'.cell? ⟨b, off + m * 3 + 2, none⟩ = some (.int .i64 n0) := fun hw => ⟨(hw.cell (p := ⟨nB, 0, none⟩) hlT).trans h0, (hw.cell (p := ⟨nB, 1, none⟩) hlT).trans h1, (hw.cell (p := ⟨nB, 2, none⟩) hlT).trans h2, (hw.cell (p := ⟨b, off + m * 3, none⟩) hbl).trans k0, (hw.cell (p := ⟨b, off + m * 3 + 1, none⟩) hbl).trans k1, (hw.cell (p := ⟨b, off + m * 3 + 2, none⟩) hbl).trans k2⟩
        rw [hcast]
        cases hB : befJ ⟨q, a, n⟩ ⟨q0, a0, n0⟩ with
        | true =>
          have HB := Lib.hid hB
          clear hB
          go_upto_region 4 with fail
          refine wp_region_held (S := fun w' => w'.cell? ⟨nB, 0, none⟩ = some (.int .i64 q) ∧ w'.cell? ⟨nB, 1, none⟩ = some (.int .i64 a) ∧ w'.cell? ⟨nB, 2, none⟩ = some (.int .i64 n) ∧ w'.cell? ⟨b, off + m * 3, none⟩ = some (.int .i64 q0) ∧ w'.cell? ⟨b, off + m * 3 + 1, none⟩ = some (.int .i64 a0) ∧ w'.cell? ⟨b, off + m * 3 + 2, none⟩ = some (.int .i64 n0)) (by kernel_rfl) ?_
          change wpAnyH _ _ _ _ _ _ _ _ (World.drew _)
          have Kz : Below wr.heap.size wr (World.drew wr) := Below.drew (Below.refl _ _)
          have hS0 := hSof Kz
          refine takeHL (i := 0) 17 (.int .i64 ((m : Int) + 1)) rfl rfl (by kernel_rfl) (by kernel_rfl) (by kernel_rfl) (fun _ _ _ h => h) (.inl ⟨by rfl, fun _ _ => rfl⟩) hS0 ?_
          simp only [List.set_cons_succ, List.set_cons_zero]
          refine takeHL (i := 1) 18 (.bool true) rfl rfl (by kernel_rfl) (by kernel_rfl) (by kernel_rfl) (fun _ _ _ h => h) (.inl ⟨by rfl, fun w _ => by go_simp <;> (first | omega | exact IntWalk.i64_in _ (by omega))⟩) hS0 ?_
          simp only [List.set_cons_succ, List.set_cons_zero]
          refine takeHL (i := 2) 19 (.bool true) rfl rfl (by kernel_rfl) (by kernel_rfl) (by kernel_rfl) (fun _ _ _ h => h) (.inl ⟨by rfl, fun _ _ => rfl⟩) hS0 ?_
          simp only [List.set_cons_succ, List.set_cons_zero]
          refine takeHL (i := 3) 20 (.agg #[.int .i64 q, .int .i64 a, .int .i64 n]) rfl rfl (by kernel_rfl) (by kernel_rfl) (by kernel_rfl) (fun _ _ _ h => h) (.inl ⟨by rfl, fun w hS => by obtain ⟨h0, h1, h2, p0, p1, p2⟩ := hS; go_simp⟩) hS0 ?_
          simp only [List.set_cons_succ, List.set_cons_zero]
          refine takeHL (i := 4) 21 (.slice (some ⟨b, off, none⟩) (js.length) d) rfl rfl (by kernel_rfl) (by kernel_rfl) (by kernel_rfl) (fun _ _ _ h => h) (.inl ⟨by rfl, fun _ _ => rfl⟩) hS0 ?_
          simp only [List.set_cons_succ, List.set_cons_zero]
          refine takeHL (i := 5) 22 (.int .i64 ((m : Int) + 1)) rfl rfl (by kernel_rfl) (by kernel_rfl) (by kernel_rfl) (fun _ _ _ h => h) (.inl ⟨by rfl, fun _ _ => rfl⟩) hS0 ?_
          simp only [List.set_cons_succ, List.set_cons_zero]
          refine takeHL (i := 6) 23 (.int .i64 ((m : Int))) rfl rfl (by kernel_rfl) (by kernel_rfl) (by kernel_rfl) (fun _ _ _ h => h) (.inl ⟨by rfl, fun w _ => by go_simp <;> (first | omega | exact IntWalk.i64_in _ (by omega))⟩) hS0 ?_
          simp only [List.set_cons_succ, List.set_cons_zero]
          refine takeHL (i := 7) 24 (.pointer (some ⟨b, off + m * 3, none⟩)) rfl rfl (by kernel_rfl) (by kernel_rfl) (by kernel_rfl) (fun _ _ _ h => h) (.inl ⟨by rfl, fun w _ => by go_simp <;> (first | omega | (simp; omega))⟩) hS0 ?_
          simp only [List.set_cons_succ, List.set_cons_zero]
          refine takeHL (i := 8) 25 (.agg #[.int .i64 q0, .int .i64 a0, .int .i64 n0]) rfl rfl (by kernel_rfl) (by kernel_rfl) (by kernel_rfl) (fun _ _ _ h => h) (.inl ⟨by rfl, fun w hS => by obtain ⟨h0, h1, h2, p0, p1, p2⟩ := hS; go_simp⟩) hS0 ?_
          simp only [List.set_cons_succ, List.set_cons_zero]
          refine callHL 9 26 rfl rfl (by kernel_rfl) (by rfl) 57 Tryz.func57 (by kernel_rfl) rfl _ _ rfl #[.agg #[.int .i64 q, .int .i64 a, .int .i64 n], .agg #[.int .i64 q0, .int .i64 a0, .int .i64 n0]] ?hv (spec_l6Before ⟨q, a, n⟩ ⟨q0, a0, n0⟩ _) ?_
          case hv => simp [Act.eval]
          rw [HB.out]
          rintro e v1 ⟨rfl, k1⟩
          have K1 : Below wr.heap.size wr v1 := bthru Kz k1
          have S1 := hSof K1
          refine ⟨_, rfl, S1, ?_⟩
          simp only [List.set_cons_succ, List.set_cons_zero]
          refine takeHL (i := 10) 27 (.bool true) rfl rfl (by kernel_rfl) (by kernel_rfl) (by kernel_rfl) (fun _ _ _ h => h) (.inl ⟨by rfl, fun w _ => by go_simp⟩) S1 ?_
          simp only [List.set_cons_succ, List.set_cons_zero]
          refine wpAnyH_done (by kernel_rfl) ?_ _
          go_wp2_with fail
          go_roundg m
          case measure => omega
          case rel => exact ⟨m, rfl, by omega, rfl, bthru hb K1⟩
        | false =>
          have HB := Lib.hid hB
          clear hB h0 h1 h2 k0 k1 k2
          go_upto_region 4 with fail
          refine wp_region_held (S := fun w' => w'.cell? ⟨nB, 0, none⟩ = some (.int .i64 q) ∧ w'.cell? ⟨nB, 1, none⟩ = some (.int .i64 a) ∧ w'.cell? ⟨nB, 2, none⟩ = some (.int .i64 n) ∧ w'.cell? ⟨b, off + m * 3, none⟩ = some (.int .i64 q0) ∧ w'.cell? ⟨b, off + m * 3 + 1, none⟩ = some (.int .i64 a0) ∧ w'.cell? ⟨b, off + m * 3 + 2, none⟩ = some (.int .i64 n0)) (by kernel_rfl) ?_
          change wpAnyH _ _ _ _ _ _ _ _ (World.drew _)
          have Kz : Below wr.heap.size wr (World.drew wr) := Below.drew (Below.refl _ _)
          have hS0 := hSof Kz
          refine takeHL (i := 0) 17 (.int .i64 ((m : Int) + 1)) rfl rfl (by kernel_rfl) (by kernel_rfl) (by kernel_rfl) (fun _ _ _ h => h) (.inl ⟨by rfl, fun _ _ => rfl⟩) hS0 ?_
          simp only [List.set_cons_succ, List.set_cons_zero]
          refine takeHL (i := 1) 18 (.bool true) rfl rfl (by kernel_rfl) (by kernel_rfl) (by kernel_rfl) (fun _ _ _ h => h) (.inl ⟨by rfl, fun w _ => by go_simp <;> (first | omega | exact IntWalk.i64_in _ (by omega))⟩) hS0 ?_
          simp only [List.set_cons_succ, List.set_cons_zero]
          refine takeHL (i := 2) 19 (.bool true) rfl rfl (by kernel_rfl) (by kernel_rfl) (by kernel_rfl) (fun _ _ _ h => h) (.inl ⟨by rfl, fun _ _ => rfl⟩) hS0 ?_
          simp only [List.set_cons_succ, List.set_cons_zero]
          refine takeHL (i := 3) 20 (.agg #[.int .i64 q, .int .i64 a, .int .i64 n]) rfl rfl (by kernel_rfl) (by kernel_rfl) (by kernel_rfl) (fun _ _ _ h => h) (.inl ⟨by rfl, fun w hS => by obtain ⟨h0, h1, h2, p0, p1, p2⟩ := hS; go_simp⟩) hS0 ?_
          simp only [List.set_cons_succ, List.set_cons_zero]
          refine takeHL (i := 4) 21 (.slice (some ⟨b, off, none⟩) (js.length) d) rfl rfl (by kernel_rfl) (by kernel_rfl) (by kernel_rfl) (fun _ _ _ h => h) (.inl ⟨by rfl, fun _ _ => rfl⟩) hS0 ?_
          simp only [List.set_cons_succ, List.set_cons_zero]
          refine takeHL (i := 5) 22 (.int .i64 ((m : Int) + 1)) rfl rfl (by kernel_rfl) (by kernel_rfl) (by kernel_rfl) (fun _ _ _ h => h) (.inl ⟨by rfl, fun _ _ => rfl⟩) hS0 ?_
          simp only [List.set_cons_succ, List.set_cons_zero]
          refine takeHL (i := 6) 23 (.int .i64 ((m : Int))) rfl rfl (by kernel_rfl) (by kernel_rfl) (by kernel_rfl) (fun _ _ _ h => h) (.inl ⟨by rfl, fun w _ => by go_simp <;> (first | omega | exact IntWalk.i64_in _ (by omega))⟩) hS0 ?_
          simp only [List.set_cons_succ, List.set_cons_zero]
          refine takeHL (i := 7) 24 (.pointer (some ⟨b, off + m * 3, none⟩)) rfl rfl (by kernel_rfl) (by kernel_rfl) (by kernel_rfl) (fun _ _ _ h => h) (.inl ⟨by rfl, fun w _ => by go_simp <;> (first | omega | (simp; omega))⟩) hS0 ?_
          simp only [List.set_cons_succ, List.set_cons_zero]
          refine takeHL (i := 8) 25 (.agg #[.int .i64 q0, .int .i64 a0, .int .i64 n0]) rfl rfl (by kernel_rfl) (by kernel_rfl) (by kernel_rfl) (fun _ _ _ h => h) (.inl ⟨by rfl, fun w hS => by obtain ⟨h0, h1, h2, p0, p1, p2⟩ := hS; go_simp⟩) hS0 ?_
          simp only [List.set_cons_succ, List.set_cons_zero]
          refine callHL 9 26 rfl rfl (by kernel_rfl) (by rfl) 57 Tryz.func57 (by kernel_rfl) rfl _ _ rfl #[.agg #[.int .i64 q, .int .i64 a, .int .i64 n], .agg #[.int .i64 q0, .int .i64 a0, .int .i64 n0]] ?hv (spec_l6Before ⟨q, a, n⟩ ⟨q0, a0, n0⟩ _) ?_
          case hv => simp [Act.eval]
          rw [HB.out]
          rintro e v1 ⟨rfl, k1⟩
          have K1 : Below wr.heap.size wr v1 := bthru Kz k1
          have S1 := hSof K1
          refine ⟨_, rfl, S1, ?_⟩
          simp only [List.set_cons_succ, List.set_cons_zero]
          refine takeHL (i := 10) 27 (.bool false) rfl rfl (by kernel_rfl) (by kernel_rfl) (by kernel_rfl) (fun _ _ _ h => h) (.inl ⟨by rfl, fun w _ => by go_simp⟩) S1 ?_
          simp only [List.set_cons_succ, List.set_cons_zero]
          refine wpAnyH_done (by kernel_rfl) ?_ _
          have hto : ((m : Int) + 1).toNat = m + 1 := by omega
          have hm0 : (0 : Int) ≤ (m : Int) + 1 := by omega
          have hm1 : (m : Int) + 1 ≤ (d : Int) := by omega
          have hm2 : (m : Int) + 1 ≤ (js.length : Int) := by omega
          have hN1 : w1.heap.size ≤ (v1).heap.size := Nat.le_trans hb.size K1.size
          have Bz : Below w1.heap.size w1 (v1) := hb.trans (K1.mono hb.size)
          have gz := (g.keep B1).keep Bz
          have hgl : ((js.take (m + 1)).length = m + 1) := by rw [List.length_take]; omega
          have Hgl := Lib.hid hgl
          clear hgl
          go_upto_region 7 with (at_builtin; refine wpList_app_jobs _ rfl _ _ rfl w1.heap.size (some ⟨(v1).heap.size, 0, none⟩) [] 0 0 rfl rfl (OJ_blank (v1) _ hN1) ⟨b, off, none⟩ (m + 1) d (js.take (m + 1)) Hgl.out rfl ((gz.keep (bal (Below.refl _ _) _)).take (m + 1)) (by simp) (by rw [Hgl.out]; omega) (Nat.le_trans hN1 (by simp)) ?_; intro A2 c2 w2 o2 g2 b2)
          rw [List.nil_append] at o2
          have B3 : Below w1.heap.size w1 w2 := (bal' Bz hN1 _).trans b2
          clear g2 b2 gz hN1
          obtain ⟨t0, t1, t2⟩ := blk3 ((B3.block nB hn1).trans hT1)
          have hN2 : w1.heap.size ≤ w2.heap.size := B3.size
          go_upto_region 8 with (at_builtin; refine wpList_app_job _ rfl _ _ rfl w1.heap.size A2 (js.take (m + 1)) (m + 1) c2 Hgl.out rfl (OJ_alloc o2 _) w2.heap.size 1 ⟨q, a, n⟩ _ 60 rfl (heap_alloc_new w2 _) rfl (by rw [Hgl.out]; omega) (Nat.le_trans hN2 (by simp)) ?_; intro A3 c3 w3 o3 g3 b3)
          have B4 : Below w1.heap.size w1 w3 := (bal' B3 hN2 _).trans b3
          clear g3 b3 o2 B3 t0 t1 t2 hN2
          have gz := (g.keep B1).keep B4
          have hN3 : w1.heap.size ≤ w3.heap.size := B4.size
          have Hgl3 : Hid ((js.take (m + 1) ++ [(⟨q, a, n⟩ : Jb)]).length = m + 1 + 1) := by rw [Hid, List.length_append, Hgl.out]; rfl
          have hgd : (js.drop (m + 1)).length = js.length - (m + 1) := List.length_drop
          by_cases hdk : d = m + 1
          · have hz : js.length - (m + 1) = 0 := by omega
            have Hz := Lib.hid hz
            have Hgd := Lib.hid hgd
            clear hz hgd
            subst hdk
            go_upto_region 9 with (at_builtin; refine wpList_app_jobs _ rfl _ _ rfl w1.heap.size A3 (js.take (m + 1) ++ [⟨q, a, n⟩]) (m + 1 + 1) c3 Hgl3.out rfl o3 _ _ _ (js.drop (m + 1)) (by rw [Hgd.out] <;> first | rfl | exact Hz.out) rfl (fun hh => by rw [Hgd.out, Hz.out] at hh; omega) (by rw [Hgl3.out]; omega) (by rw [Hgd.out]; omega) hN3 ?_; intro A4 c4 w4 o4 g4 b4)
            have Hlen : Hid ((js.take (m + 1) ++ [(⟨q, a, n⟩ : Jb)] ++ js.drop (m + 1)).length = m + 1 + 1 + 0) := by rw [Hid, List.length_append, Hgl3.out, Hgd.out, Hz.out]
            have hys : (js.take (m + 1) ++ [(⟨q, a, n⟩ : Jb)] ++ js.drop (m + 1)).length ≤ js.length + 1 := by rw [Hlen.out]; omega
            have B5 : Below w1.heap.size w1 w4 := B4.trans b4
            have hpos : 0 < (js.take (m + 1) ++ [(⟨q, a, n⟩ : Jb)] ++ js.drop (m + 1)).length := by rw [Hlen.out]; omega
            clear g4 b4 o3 B4 gz
            generalize js.take (m + 1) ++ [(⟨q, a, n⟩ : Jb)] ++ js.drop (m + 1) = ys at o4 Hlen hys hpos
            obtain ⟨b4, rfl, hb4, _⟩ := OJ_addr o4 hpos
            have Bw := bthru B1 (B5.mono (Nat.le_refl _))
            have K5 := spec_JobsValid A l c (some ⟨b4, 0, none⟩) ys c4 w4 (h.keep Bw) o4.js hm (by unfold maxLen; omega)
            rw [Hlen.out] at K5
            go_wp2_with fail
            refine K5.mono ?_
            rintro e w5 ⟨rfl, b5⟩
            clear K5
            cases hV : jobsV l ys with
            | false =>
              go_wp2_with fail
              go_ret2
              refine ⟨[], false, _, 0, by simp, rfl, own_base (OJ_blank w5 _ (Nat.le_refl _)) (bthru Bw b5).size, bal (bthru Bw b5) _⟩
            | true =>
              go_wp2_with fail
              go_ret2
              refine ⟨ys, true, b4, c4, hys, by rw [Hlen.out]; rfl, own_base (OJ_keep o4 b5) B1.size, bthru Bw b5⟩
          · have hdk2 : m + 1 < d := by omega
            have Hgd := Lib.hid hgd
            clear hgd
            go_upto_region 9 with (at_builtin; refine wpList_app_jobs _ rfl _ _ rfl w1.heap.size A3 (js.take (m + 1) ++ [⟨q, a, n⟩]) (m + 1 + 1) c3 Hgl3.out rfl o3 ⟨b, off + (m + 1) * 3, none⟩ (js.length - (m + 1)) (d - (m + 1)) (js.drop (m + 1)) Hgd.out rfl (gz.drop (m + 1)) (by rw [Hgl3.out]; omega) (by rw [Hgd.out]; omega) hN3 ?_; intro A4 c4 w4 o4 g4 b4)
            have Hlen : Hid ((js.take (m + 1) ++ [(⟨q, a, n⟩ : Jb)] ++ js.drop (m + 1)).length = m + 1 + 1 + (js.length - (m + 1))) := by rw [Hid, List.length_append, Hgl3.out, Hgd.out]
            have hys : (js.take (m + 1) ++ [(⟨q, a, n⟩ : Jb)] ++ js.drop (m + 1)).length ≤ js.length + 1 := by rw [Hlen.out]; omega
            have B5 : Below w1.heap.size w1 w4 := B4.trans b4
            have hpos : 0 < (js.take (m + 1) ++ [(⟨q, a, n⟩ : Jb)] ++ js.drop (m + 1)).length := by rw [Hlen.out]; omega
            clear g4 b4 o3 B4 gz
            generalize js.take (m + 1) ++ [(⟨q, a, n⟩ : Jb)] ++ js.drop (m + 1) = ys at o4 Hlen hys hpos
            obtain ⟨b4, rfl, hb4, _⟩ := OJ_addr o4 hpos
            have Bw := bthru B1 (B5.mono (Nat.le_refl _))
            have K5 := spec_JobsValid A l c (some ⟨b4, 0, none⟩) ys c4 w4 (h.keep Bw) o4.js hm (by unfold maxLen; omega)
            rw [Hlen.out] at K5
            go_wp2_with fail
            refine K5.mono ?_
            rintro e w5 ⟨rfl, b5⟩
            clear K5
            cases hV : jobsV l ys with
            | false =>
              go_wp2_with fail
              go_ret2
              refine ⟨[], false, _, 0, by simp, rfl, own_base (OJ_blank w5 _ (Nat.le_refl _)) (bthru Bw b5).size, bal (bthru Bw b5) _⟩
            | true =>
              go_wp2_with fail
              go_ret2
              refine ⟨ys, true, b4, c4, hys, by rw [Hlen.out]; rfl, own_base (OJ_keep o4 b5) B1.size, bthru Bw b5⟩
end Go.Proofs.YtmkjmancmiphfaaGreatDoor
