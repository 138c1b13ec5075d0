/-
  The reference's machine: a tick (l7Tick). NOT DONE.
-/
import Derived.Test.YtmkjmancmiphfaaGreatDoorRa14
namespace Go.Proofs.YtmkjmancmiphfaaGreatDoor
open Go.RowKit

set_option maxHeartbeats 4000000 in
set_option maxRecDepth 100000 in
theorem spec_l7Tick {l : List Tk} {js : List Jb} (hV : jobsV l js = true) {num den pol : Int} (V : JobsIn l js num den) (hp : pol = 0 ∨ pol = 1) (A : Option Addr) (c : Nat) (B : Option Addr) (d : Nat) (W0 : World) (hTS : TS W0 A l) (hJS : JS W0 B js) (t : Nat) (ht : t ≤ 200) (s : Mc) (nx : Nat) (I : SInv l js t s nx)
    (htr : s.tr.length ≤ 1000) (hsw : s.sw.length ≤ 1000) (hlf : s.lf.length ≤ 12000) {Ae : Option Addr} {ce : Nat} {At : Option Addr} {ct : Nat} {As : Option Addr} {cs : Nat} {Aw : Option Addr} {cw : Nat}
    (w : World) (hB0 : Below W0.heap.size W0 w) (h : SRows W0.heap.size w Ae ce s.en At ct s.tr As cs s.sw Aw cw (wkOf s.dn s.lf)) :
    Calls Tryz.prog 32 #[.slice A l.length c, .slice B js.length d, stV (.slice Ae s.en.length ce) (.slice At s.tr.length ct) (.slice As s.sw.length cs) (.slice Aw s.lf.length cw) s.hi (nx : Int) num den, .int .i64 pol, .int .i64 (t : Int)] w fun e w' => ∃ (s' : Mc) (At' : Option Addr) (ct' : Nat) (As' : Option Addr) (cs' : Nat) (Aw' : Option Addr) (cw' nx' : Nat), s' = mstep l js num den pol t s ∧ e = .returned (stV (.slice Ae s'.en.length ce) (.slice At' s'.tr.length ct') (.slice As' s'.sw.length cs') (.slice Aw' s'.lf.length cw') s'.hi (nx' : Int) num den) ∧ SRows W0.heap.size w' Ae ce s'.en At' ct' s'.tr As' cs' s'.sw Aw' cw' (wkOf s'.dn s'.lf) ∧ NX js ((t : Int) + 1) nx' ∧ Kp w w' ∧ Below W0.heap.size w w' := by
  have hW0 := hB0.size
  have hdn : ∀ i, i < js.length → (t : Int) ≤ jA js i → s.dn.getD i 0 = 0 := fun i h1 h2 => (I.inv.fut i h1 h2).2
  have K := fun hi w hB0 h => spec_l7Come hV V A c B d W0 hTS hJS t nx (by omega) I.nx hi s.dn hdn s.en s.lf I.inv.enL (by omega) (Ae := Ae) (ce := ce) (At := At) (ct := ct) (tr := s.tr) (As := As) (cs := cs) (sw := s.sw) (Aw := Aw) (cw := cw) w hB0 h
  obtain ⟨ne, hne⟩ : ∃ x, s.en.length = x := ⟨_, rfl⟩
  obtain ⟨nt, hnt⟩ : ∃ x, s.tr.length = x := ⟨_, rfl⟩
  obtain ⟨ns, hns⟩ : ∃ x, s.sw.length = x := ⟨_, rfl⟩
  rw [hne, hnt, hns] at K ⊢
  have Hne := Lib.hid hne
  have Hnt := Lib.hid hnt
  have Hns := Lib.hid hns
  clear hne hnt hns
  have hg1 : ((w.alloc (stC (.slice Ae ne ce) (.slice At nt ct) (.slice As ns cs) (.slice Aw s.lf.length cw) s.hi nx num den)).alloc (.cells #[.slice none 0 0, .slice none 0 0, .slice none 0 0, .bool false, .slice none 0 0, .int .i64 0, .int .i64 0, .int .i64 0] ST (0, 0))).heap[w.heap.size]? = some (stC (.slice Ae ne ce) (.slice At nt ct) (.slice As ns cs) (.slice Aw s.lf.length cw) s.hi nx num den) :=
    (Below.heap_alloc _ _ _ (by simp)).trans (heap_alloc_new w _)
  have hg2 := heap_alloc_new (w.alloc (stC (.slice Ae ne ce) (.slice At nt ct) (.slice As ns cs) (.slice Aw s.lf.length cw) s.hi nx num den)) (.cells #[.slice none 0 0, .slice none 0 0, .slice none 0 0, .bool false, .slice none 0 0, .int .i64 0, .int .i64 0, .int .i64 0] ST (0, 0))
  have hsz : (w.alloc (stC (.slice Ae ne ce) (.slice At nt ct) (.slice As ns cs) (.slice Aw s.lf.length cw) s.hi nx num den)).heap.size = w.heap.size + 1 := by simp
  rw [hsz] at hg2
  have bx := bal (bal (Below.refl w.heap.size w) (stC (.slice Ae ne ce) (.slice At nt ct) (.slice As ns cs) (.slice Aw s.lf.length cw) s.hi nx num den)) (.cells #[.slice none 0 0, .slice none 0 0, .slice none 0 0, .bool false, .slice none 0 0, .int .i64 0, .int .i64 0, .int .i64 0] ST (0, 0))
  have h1 := h.keep bx
  have k1 := (Kp.refl w).keep bx
  have hb1 := bx.mono hW0
  clear bx hsz h
  go_enter Tryz.func32, Tryz.ntmps32
  go_upto_region 1 with fail
  generalize World.alloc (World.alloc w _) _ = w1 at hg1 hg2 h1 k1 hb1 ⊢
  obtain ⟨g, hg⟩ : ∃ g, w.heap.size = g := ⟨_, rfl⟩
  rw [hg] at hg1 hg2 ⊢
  obtain ⟨s0, s1, s2, s3, s4, s5, s6, s7⟩ := blk8 hg1
  have sf := fun i => Lib.frozen_of_heap hg1 i
  go_upto_if 19 with fail
  go_cut [] from 20 to 21 (fun wc => wc.heap[g]? = some (stC (.slice Ae ne ce) (.slice At nt ct) (.slice As ns cs) (.slice Aw s.lf.length cw) (mdOf s) nx num den) ∧ wc.heap[g + 1]? = some (.cells #[.slice none 0 0, .slice none 0 0, .slice none 0 0, .bool false, .slice none 0 0, .int .i64 0, .int .i64 0, .int .i64 0] ST (0, 0)) ∧ SRows W0.heap.size wc Ae ce s.en At ct s.tr As cs s.sw Aw cw (wkOf s.dn s.lf) ∧ Kp w wc ∧ Below W0.heap.size w wc)
  case first =>
    by_cases h0 : s.lf = []
    · have hmd : Hid (mdOf s = false) := by simp [Hid, mdOf, h0]
      have e0 : ((s.lf.length : Int) == 0) = true := by simp [h0]
      clear h0
      go_wp2_with fail
      go_meet
      rw [hmd.out]
      exact ⟨heap_setCell_same _ g 3 _ _ (.bool false) hg1, (Below.heap_setCell w1 ⟨g, 3, none⟩ (.bool false) (g + 1) (by simp)).trans hg2, h1.setX hg1 st1 st2 3 _, k1.setX (by omega) 3 _, hb1.setCell (p := ⟨g, 3, none⟩) (by show W0.heap.size ≤ g; omega) _⟩
    · have hmd : Hid (mdOf s = s.hi) := by simp [Hid, mdOf, h0]
      have hl0 : 0 < s.lf.length := by
        cases hh : s.lf with
        | nil => exact absurd hh h0
        | cons a r => simp
      have e0 : ((s.lf.length : Int) == 0) = false := beq_eq_false_iff_ne.2 (by omega)
      clear h0
      go_wp2_with fail
      go_meet
      rw [hmd.out]
      exact ⟨hg1, hg2, h1, k1, hb1⟩
  case rest =>
    clear hg1 hg2 h1 k1 hb1 s0 s1 s2 s3 s4 s5 s6 s7 sf
    obtain ⟨hg1, hg2, h1, k1, hb1⟩ := hcut
    have hB1 := hB0.trans hb1
    obtain ⟨s0, s1, s2, s3, s4, s5, s6, s7⟩ := blk8 hg1
    have sf := fun i => Lib.frozen_of_heap hg1 i
    go_wp2_with fail
    refine (K (mdOf s) wc hB1 h1).mono ?_
    rintro e w2 ⟨Aw', cw', mm, rfl, hN, h2, k2, b2⟩
    have hA : arrOf l js t s = arrTo l js t (mdOf s) (s.en, s.lf) js.length := rfl
    rw [← hA] at h2 ⊢
    have hcome := fun {i : Nat} => I.inv.come (apart_of hV) (fun k hk => tkAt_vld V.v hk) (i := i)
    have hnd : (arrOf l js t s).2.Nodup := arr_nodup I.nd (fun i hi => (I.inv.lfI i hi).2.1) _
    have hln : (arrOf l js t s).1.length = js.length := arrOf_len I.inv
    have hll : (arrOf l js t s).2.length ≤ 20000 := Nat.le_trans (arr_le l js t (mdOf s) (s.en, s.lf) js.length) (by
      have : js.length ≤ 60 := by
        simp only [jobsV, Bool.and_eq_true, decide_eq_true_eq] at hV
        exact hV.1.2
      dsimp only
      omega)
    have HS := Lib.hid (fun m hm => SInv.step (num := num) (den := den) (pol := pol) hV I (m := m) hm)
    obtain ⟨en2, lf2, hAr⟩ : ∃ a b, arrOf l js t s = (a, b) := ⟨_, _, rfl⟩
    rw [hAr] at h2 hcome hnd hln hll ⊢
    dsimp only at h2 hcome hnd hln hll ⊢
    have p1 := k2.2 g _ _ _ hg1 st1 st2
    have p2 := k2.2 (g + 1) _ _ _ hg2 st1 st2
    have K2 := k1.trans k2
    have B2 := hb1.trans b2
    have hle : W0.heap.size ≤ g := by omega
    clear s0 s1 s2 s3 s4 s5 s6 s7 sf hg1 hg2 h1 k1 hb1 k2 b2 hA hB1
    have HAr := Lib.hid hAr
    clear hAr K
    obtain ⟨s0, s1, s2, s3, s4, s5, s6, s7⟩ := blk8 p1
    have sf := fun i => Lib.frozen_of_heap p1 i
    have hz := state_store p1 (.slice Ae ne ce) (.slice At nt ct) (.slice As ns cs) (.slice Aw' lf2.length cw') (mdOf s) mm num den
    obtain ⟨hzB, hzG⟩ := hz
    have h3 := h2.gbX hzG p1 st1 st2
    have k3 := K2.gbX hzG (by omega)
    have b3 := B2.grown hzG (Nat.le_trans hW0 B2.size) (fun k hk => by cases hk; omega)
    have q2 := (hzG.block (g + 1) (Array.getElem?_eq_some_iff.1 p2).1 (by simp)).trans p2
    go_upto_region 4 with fail
    generalize World.setCell _ ⟨g, 7, none⟩ _ = w3 at hzB hzG h3 k3 b3 q2 ⊢
    clear s0 s1 s2 s3 s4 s5 s6 s7 sf p1 p2 h2 K2 B2 hzG
    obtain ⟨s0, s1, s2, s3, s4, s5, s6, s7⟩ := blk8 hzB
    have sf := fun i => Lib.frozen_of_heap hzB i
    by_cases hz2 : lf2 = []
    case pos =>
      have hm : Hid (mstep l js num den pol t s = ⟨en2, s.dn, [], s.tr ++ [-1], s.sw, mdOf s⟩) := mstep_idle (by rw [HAr.out, hz2])
      have hwl : wkOf s.dn lf2 = wkOf s.dn [] := by rw [hz2]
      have hl0 : lf2.length = 0 := by rw [hz2]; rfl
      have e0 : ((lf2.length : Int) == 0) = true := by simp [hl0]
      rw [hwl] at h3
      have Hl0 := Lib.hid hl0
      clear hwl hl0 hz2
      have hW2 := Nat.le_trans hW0 b3.size
      have hA := heap_alloc_new w3 (.cells #[.int .i64 (-1)] 3 (0, 0))
      have bA := bal (Below.refl w3.heap.size w3) (.cells #[.int .i64 (-1)] 3)
      have R4 := h3.keep bA
      have K4 := k3.keep bA
      have B4 := b3.trans (bA.mono hW2)
      have hp1 := (bA.block _ (Array.getElem?_eq_some_iff.1 hzB).1).trans hzB
      have hp2 := (bA.block _ (Array.getElem?_eq_some_iff.1 q2).1).trans q2
      have HP1 := Lib.hid hp1
      have HP2 := Lib.hid hp2
      clear bA hp1 hp2
      go_upto_region 6 with (at_builtin; refine wpList_app_intO _ rfl _ _ rfl W0.heap.size At s.tr nt ct Hnt.out ?a1 ?a2 w3.heap.size 1 (-1) 3 ?a3 ?a4 ?a5 ?a6 _ rfl ?_; (case a1 => exact rfl); (case a2 => exact R4.t); (case a3 => exact rfl); (case a4 => exact hA); (case a5 => omega); (case a6 => simp; omega); intro g4 cc4 w4 o4 gb4 hat4 b4; rw [bk_eq] at gb4 hat4; have qq := row_same R4.t gb4 HP1.out st1; obtain ⟨y0, y1, y2, y3, y4, y5, y6, y7⟩ := blk8 qq; have yf := fun i => Lib.frozen_of_heap qq i)
      have p5 : (w4.setCell ⟨g, 1, none⟩ (.slice (some ⟨g4, 0, none⟩) (nt + 1) cc4)).heap[g]? = some (stC (.slice Ae ne ce) (.slice (some ⟨g4, 0, none⟩) (nt + 1) cc4) (.slice As ns cs) (.slice Aw' lf2.length cw') (mdOf s) mm num den) := heap_setCell_same w4 g 1 _ _ _ qq
      have R5 := (R4.appT o4 gb4 hat4).setX qq st1 st2 1 (.slice (some ⟨g4, 0, none⟩) (nt + 1) cc4)
      have z5 := (Below.heap_setCell w4 ⟨g, 1, none⟩ (.slice (some ⟨g4, 0, none⟩) (nt + 1) cc4) (g + 1) (by simp)).trans (row_same R4.t gb4 HP2.out st1)
      have K5 := (K4.row R4.t (.inl rfl) gb4).setX (by omega) (b := g) 1 (.slice (some ⟨g4, 0, none⟩) (nt + 1) cc4)
      have B5 := (B4.trans b4).setCell (p := ⟨g, 1, none⟩) hle (.slice (some ⟨g4, 0, none⟩) (nt + 1) cc4)
      generalize World.setCell w4 _ _ = w5 at p5 R5 z5 K5 B5 ⊢
      clear s0 s1 s2 s3 s4 s5 s6 s7 sf y0 y1 y2 y3 y4 y5 y6 y7 yf qq o4 gb4 hat4 b4 R4 K4 B4 hA
      obtain ⟨s0, s1, s2, s3, s4, s5, s6, s7⟩ := blk8 p5
      obtain ⟨z0, z1, z2, z3', z4, z5', z6, z7⟩ := blk8 z5
      have zf := fun i => Lib.frozen_of_heap z5 i
      go_wp2_with fail
      have hz := state_store z5 (.slice Ae ne ce) (.slice (some ⟨g4, 0, none⟩) (nt + 1) cc4) (.slice As ns cs) (.slice Aw' lf2.length cw') (mdOf s) mm num den
      obtain ⟨hzB, hzG⟩ := hz
      obtain ⟨y0, y1, y2, y3, y4, y5, y6, y7⟩ := blk8 hzB
      refine bodyPost_ret (v := stV (.slice Ae ne ce) (.slice (some ⟨g4, 0, none⟩) (nt + 1) cc4) (.slice As ns cs) (.slice Aw' lf2.length cw') (mdOf s) mm num den) (by simp [results, Tryz.results32, go_sem, y0, y1, y2, y3, y4, y5, y6, y7]) rfl ?_
      refine ⟨_, some ⟨g4, 0, none⟩, cc4, As, cs, Aw', cw', mm, hm.out.symm, ?_, R5.gbX hzG z5 st1 st2, hN, K5.gbX hzG (by omega), B5.grown hzG (Nat.le_trans hW0 B5.size) (fun k hk => by cases hk; omega)⟩
      have l1 : (s.tr ++ [-1]).length = nt + 1 := by simp [Hnt.out]
      have l2 : en2.length = ne := by rw [hln, ← I.inv.enL]; exact Hne.out
      rw [l1, l2, Hns.out, Hl0.out]
      rfl
    have hl0 : 0 < lf2.length := by
      cases hh : lf2 with
      | nil => exact absurd hh hz2
      | cons a r => simp
    have e0 : ((lf2.length : Int) == 0) = false := beq_eq_false_iff_ne.2 (by omega)
    have hin : ∀ k, k < lf2.length → lf2.getD k 0 < js.length ∧ (wkOf s.dn lf2).length = lf2.length := fun k hk => ⟨(hcome (by
      have : lf2.getD k 0 = lf2[k] := by simp [hk]
      rw [this]
      exact List.getElem_mem hk)).1, wk_len _ _⟩
    obtain ⟨G, hG⟩ : ∃ G, goesB l js num den pol (mdOf s) = G := ⟨_, rfl⟩
    have HG := Lib.hid hG
    clear hG hz2
    have hWw := hB0.trans b3
    obtain ⟨wb, hAw, _, _, _, _, _⟩ := OW_cells h3.k 0 (by rw [wk_len]; omega)
    obtain ⟨jb, joff, hBj, _, _⟩ := hJS (by have := (hin 0 (by omega)).1; omega)
    obtain ⟨tb, toff, hAt, _, _⟩ := hTS (by have := (V.job _ (hin 0 (by omega)).1).2.2.2.1; omega)
    subst hAw hBj hAt
    go_wp2_with fail
    go_loopg [11, 12] (lf2.length - 1) (fun gg v iv wr => ∃ k, gg + k + 1 = lf2.length ∧ v = .int .i64 (bestIx G lf2 k : Nat) ∧ iv = .int .i64 ((k + 1 : Nat) : Int) ∧ Below w3.heap.size w3 wr)
    case atStart => exact ⟨0, by omega, rfl, rfl, Below.refl _ _⟩
    case round =>
      clear s0 s1 s2 s3 s4 s5 s6 s7 sf
      obtain ⟨k, hgk, rfl, rfl, hb⟩ := hrel
      have q1 := (hb.block _ (Array.getElem?_eq_some_iff.1 hzB).1).trans hzB
      obtain ⟨s0, s1, s2, s3, s4, s5, s6, s7⟩ := blk8 q1
      have sf := fun i => Lib.frozen_of_heap q1 i
      -- ROUND
      have hK := h3.keep hb
      have hKW := bthru hWw hb
      by_cases hkl : k + 1 < lf2.length
      case pos =>
        obtain ⟨m, hm⟩ : ∃ m, k + 1 = m := ⟨_, rfl⟩
        have hbl := bestIx_le G lf2 k
        have hstep : bestIx G lf2 (k + 1) = if G (lf2.getD (k + 1) 0) (lf2.getD (bestIx G lf2 k) 0) then k + 1 else bestIx G lf2 k := rfl
        obtain ⟨bb, hbb⟩ : ∃ bb, bestIx G lf2 k = bb := ⟨_, rfl⟩
        rw [hm] at hkl hstep ⊢
        rw [hbb] at hbl hstep ⊢
        obtain ⟨w1c, _, wf⟩ := wk_cells hK.k m hkl
        obtain ⟨w2c, _, _⟩ := wk_cells hK.k bb (by omega)
        have hi1 := (hin m hkl).1
        have hi2 := (hin bb (by omega)).1
        generalize lf2.getD m 0 = i1 at w1c hi1 hstep
        generalize lf2.getD bb 0 = i2 at w2c hi2 hstep
        obtain ⟨x0, x1, x2⟩ := jb_cells (hJS.keep hKW) i1 hi1
        obtain ⟨u0, u1, u2⟩ := jb_cells (hJS.keep hKW) i2 hi2
        have hTz := hTS.keep hKW
        have e0 : decide ((m : Int) < (lf2.length : Int)) = true := decide_eq_true (by omega)
        have hmI : (m : Int) < (lf2.length : Int) := by omega
        have hbI : (bb : Int) < (lf2.length : Int) := by omega
        have hi1I : (i1 : Int) < (js.length : Int) := by omega
        have hi2I : (i2 : Int) < (js.length : Int) := by omega
        have HGS := Lib.hid hstep
        obtain ⟨gv, hgv⟩ : ∃ gv, G i1 i2 = gv := ⟨_, rfl⟩
        have hgv2 : goesB l js num den pol (mdOf s) i1 i2 = gv := by rw [HG.out]; exact hgv
        have HGV := Lib.hid hgv
        have HM := Lib.hid hm
        clear hstep hgv hm hbb
        go_upto_region 11 with fail
        refine wp_region_held (S := fun v => v.heap[g]? = some (stC (.slice Ae ne ce) (.slice At nt ct) (.slice As ns cs) (.slice (some ⟨wb, 0, none⟩) lf2.length cw') (mdOf s) mm num den) ∧ v.cell? ⟨wb, m * 2, none⟩ = some (.int .i64 (i1 : Int)) ∧ v.cell? ⟨wb, bb * 2, none⟩ = some (.int .i64 (i2 : Int)) ∧ v.cell? ⟨jb, joff + i1 * 3, none⟩ = some (.int .i64 (jobAt js i1).task) ∧ v.cell? ⟨jb, joff + i1 * 3 + 1, none⟩ = some (.int .i64 (jobAt js i1).at_) ∧ v.cell? ⟨jb, joff + i1 * 3 + 2, none⟩ = some (.int .i64 (jobAt js i1).need) ∧ v.cell? ⟨jb, joff + i2 * 3, none⟩ = some (.int .i64 (jobAt js i2).task) ∧ v.cell? ⟨jb, joff + i2 * 3 + 1, none⟩ = some (.int .i64 (jobAt js i2).at_) ∧ v.cell? ⟨jb, joff + i2 * 3 + 2, none⟩ = some (.int .i64 (jobAt js i2).need)) (by kernel_rfl) ?_
        change wpAnyH _ _ _ _ _ _ _ _ (World.drew _)
        have bz0 : Below wr.heap.size wr (World.drew wr) := Below.drew (Below.refl _ _)
        have hSk : ∀ {v v1 : World}, (v.heap[g]? = some (stC (.slice Ae ne ce) (.slice At nt ct) (.slice As ns cs) (.slice (some ⟨wb, 0, none⟩) lf2.length cw') (mdOf s) mm num den) ∧ v.cell? ⟨wb, m * 2, none⟩ = some (.int .i64 (i1 : Int)) ∧ v.cell? ⟨wb, bb * 2, none⟩ = some (.int .i64 (i2 : Int)) ∧ v.cell? ⟨jb, joff + i1 * 3, none⟩ = some (.int .i64 (jobAt js i1).task) ∧ v.cell? ⟨jb, joff + i1 * 3 + 1, none⟩ = some (.int .i64 (jobAt js i1).at_) ∧ v.cell? ⟨jb, joff + i1 * 3 + 2, none⟩ = some (.int .i64 (jobAt js i1).need) ∧ v.cell? ⟨jb, joff + i2 * 3, none⟩ = some (.int .i64 (jobAt js i2).task) ∧ v.cell? ⟨jb, joff + i2 * 3 + 1, none⟩ = some (.int .i64 (jobAt js i2).at_) ∧ v.cell? ⟨jb, joff + i2 * 3 + 2, none⟩ = some (.int .i64 (jobAt js i2).need)) → Below v.heap.size v v1 → (v1.heap[g]? = some (stC (.slice Ae ne ce) (.slice At nt ct) (.slice As ns cs) (.slice (some ⟨wb, 0, none⟩) lf2.length cw') (mdOf s) mm num den) ∧ v1.cell? ⟨wb, m * 2, none⟩ = some (.int .i64 (i1 : Int)) ∧ v1.cell? ⟨wb, bb * 2, none⟩ = some (.int .i64 (i2 : Int)) ∧ v1.cell? ⟨jb, joff + i1 * 3, none⟩ = some (.int .i64 (jobAt js i1).task) ∧ v1.cell? ⟨jb, joff + i1 * 3 + 1, none⟩ = some (.int .i64 (jobAt js i1).at_) ∧ v1.cell? ⟨jb, joff + i1 * 3 + 2, none⟩ = some (.int .i64 (jobAt js i1).need) ∧ v1.cell? ⟨jb, joff + i2 * 3, none⟩ = some (.int .i64 (jobAt js i2).task) ∧ v1.cell? ⟨jb, joff + i2 * 3 + 1, none⟩ = some (.int .i64 (jobAt js i2).at_) ∧ v1.cell? ⟨jb, joff + i2 * 3 + 2, none⟩ = some (.int .i64 (jobAt js i2).need)) := by
          rintro v v1 ⟨z, y1, y2, x0, x1, x2, u0, u1, u2⟩ bz
          have kc : ∀ {p : Addr} {u : Value}, v.cell? p = some u → v1.cell? p = some u := fun h => (bz.cell (World.block_lt_of_cell? v _ h)).trans h
          exact ⟨(bz.block _ (Array.getElem?_eq_some_iff.1 z).1).trans z, kc y1, kc y2, kc x0, kc x1, kc x2, kc u0, kc u1, kc u2⟩
        have hS0 := hSk ⟨q1, w1c, w2c, x0, x1, x2, u0, u1, u2⟩ bz0
        have hTz := hTz.keep bz0
        generalize World.drew wr = v0 at hS0 hTz bz0 ⊢
        refine takeHL (i := 0) 46 (.slice (some ⟨tb, toff, none⟩) (l.length) c) rfl rfl (by kernel_rfl) (by kernel_rfl) (by kernel_rfl) (fun _ _ _ h => h) (.inl ⟨by rfl, fun _ _ => rfl⟩) hS0 ?_
        simp only [List.set_cons_succ, List.set_cons_zero]
        refine takeHL (i := 1) 47 (.slice (some ⟨jb, joff, none⟩) (js.length) d) rfl rfl (by kernel_rfl) (by kernel_rfl) (by kernel_rfl) (fun _ _ _ h => h) (.inl ⟨by rfl, fun _ _ => rfl⟩) hS0 ?_
        simp only [List.set_cons_succ, List.set_cons_zero]
        refine takeHL (i := 2) 48 (.pointer (some ⟨g, 4, none⟩)) rfl rfl (by kernel_rfl) (by kernel_rfl) (by kernel_rfl) (fun _ _ _ h => h) (.inl ⟨by rfl, fun w _ => by go_simp⟩) hS0 ?_
        simp only [List.set_cons_succ, List.set_cons_zero]
        refine takeHL (i := 3) 49 (.slice (some ⟨wb, 0, none⟩) (lf2.length) cw') rfl rfl (by kernel_rfl) (by kernel_rfl) (by kernel_rfl) (fun _ _ _ h => h) (.inl ⟨by rfl, fun w hS => by obtain ⟨z, y1, y2, x0, x1, x2, u0, u1, u2⟩ := hS; obtain ⟨z0, z1, z2, z3, z4, z5, z6, z7⟩ := blk8 z; go_simp⟩) hS0 ?_
        simp only [List.set_cons_succ, List.set_cons_zero]
        refine takeHL (i := 4) 50 (.int .i64 ((m : Int))) rfl rfl (by kernel_rfl) (by kernel_rfl) (by kernel_rfl) (fun _ _ _ h => h) (.inl ⟨by rfl, fun _ _ => rfl⟩) hS0 ?_
        simp only [List.set_cons_succ, List.set_cons_zero]
        refine takeHL (i := 5) 51 (.pointer (some ⟨wb, m * 2, none⟩)) rfl rfl (by kernel_rfl) (by kernel_rfl) (by kernel_rfl) (fun _ _ _ h => h) (.inl ⟨by rfl, fun w _ => by go_simp <;> (first | omega | (simp; omega))⟩) hS0 ?_
        simp only [List.set_cons_succ, List.set_cons_zero]
        refine takeHL (i := 6) 52 (.pointer (some ⟨wb, m * 2, none⟩)) rfl rfl (by kernel_rfl) (by kernel_rfl) (by kernel_rfl) (fun _ _ _ h => h) (.inl ⟨by rfl, fun w _ => by go_simp⟩) hS0 ?_
        simp only [List.set_cons_succ, List.set_cons_zero]
        refine takeHL (i := 7) 53 (.int .i64 ((i1 : Int))) rfl rfl (by kernel_rfl) (by kernel_rfl) (by kernel_rfl) (fun _ _ _ h => h) (.inl ⟨by rfl, fun w hS => by obtain ⟨z, y1, y2, x0, x1, x2, u0, u1, u2⟩ := hS; obtain ⟨z0, z1, z2, z3, z4, z5, z6, z7⟩ := blk8 z; go_simp⟩) hS0 ?_
        simp only [List.set_cons_succ, List.set_cons_zero]
        refine takeHL (i := 8) 54 (.pointer (some ⟨jb, joff + i1 * 3, none⟩)) rfl rfl (by kernel_rfl) (by kernel_rfl) (by kernel_rfl) (fun _ _ _ h => h) (.inl ⟨by rfl, fun w _ => by go_simp <;> (first | omega | (simp; omega))⟩) hS0 ?_
        simp only [List.set_cons_succ, List.set_cons_zero]
        refine takeHL (i := 9) 55 (.agg #[.int .i64 (jobAt js i1).task, .int .i64 (jobAt js i1).at_, .int .i64 (jobAt js i1).need]) rfl rfl (by kernel_rfl) (by kernel_rfl) (by kernel_rfl) (fun _ _ _ h => h) (.inl ⟨by rfl, fun w hS => by obtain ⟨z, y1, y2, x0, x1, x2, u0, u1, u2⟩ := hS; obtain ⟨z0, z1, z2, z3, z4, z5, z6, z7⟩ := blk8 z; go_simp⟩) hS0 ?_
        simp only [List.set_cons_succ, List.set_cons_zero]
        refine takeHL (i := 10) 56 (.slice (some ⟨jb, joff, none⟩) (js.length) d) rfl rfl (by kernel_rfl) (by kernel_rfl) (by kernel_rfl) (fun _ _ _ h => h) (.inl ⟨by rfl, fun _ _ => rfl⟩) hS0 ?_
        simp only [List.set_cons_succ, List.set_cons_zero]
        refine takeHL (i := 11) 57 (.pointer (some ⟨g, 4, none⟩)) rfl rfl (by kernel_rfl) (by kernel_rfl) (by kernel_rfl) (fun _ _ _ h => h) (.inl ⟨by rfl, fun w _ => by go_simp⟩) hS0 ?_
        simp only [List.set_cons_succ, List.set_cons_zero]
        refine takeHL (i := 12) 58 (.slice (some ⟨wb, 0, none⟩) (lf2.length) cw') rfl rfl (by kernel_rfl) (by kernel_rfl) (by kernel_rfl) (fun _ _ _ h => h) (.inl ⟨by rfl, fun w hS => by obtain ⟨z, y1, y2, x0, x1, x2, u0, u1, u2⟩ := hS; obtain ⟨z0, z1, z2, z3, z4, z5, z6, z7⟩ := blk8 z; go_simp⟩) hS0 ?_
        simp only [List.set_cons_succ, List.set_cons_zero]
        refine takeHL (i := 13) 59 (.int .i64 ((bb : Int))) rfl rfl (by kernel_rfl) (by kernel_rfl) (by kernel_rfl) (fun _ _ _ h => h) (.inl ⟨by rfl, fun _ _ => rfl⟩) hS0 ?_
        simp only [List.set_cons_succ, List.set_cons_zero]
        refine takeHL (i := 14) 60 (.pointer (some ⟨wb, bb * 2, none⟩)) rfl rfl (by kernel_rfl) (by kernel_rfl) (by kernel_rfl) (fun _ _ _ h => h) (.inl ⟨by rfl, fun w _ => by go_simp <;> (first | omega | (simp; omega))⟩) hS0 ?_
        simp only [List.set_cons_succ, List.set_cons_zero]
        refine takeHL (i := 15) 61 (.pointer (some ⟨wb, bb * 2, none⟩)) rfl rfl (by kernel_rfl) (by kernel_rfl) (by kernel_rfl) (fun _ _ _ h => h) (.inl ⟨by rfl, fun w _ => by go_simp⟩) hS0 ?_
        simp only [List.set_cons_succ, List.set_cons_zero]
        refine takeHL (i := 16) 62 (.int .i64 ((i2 : Int))) rfl rfl (by kernel_rfl) (by kernel_rfl) (by kernel_rfl) (fun _ _ _ h => h) (.inl ⟨by rfl, fun w hS => by obtain ⟨z, y1, y2, x0, x1, x2, u0, u1, u2⟩ := hS; obtain ⟨z0, z1, z2, z3, z4, z5, z6, z7⟩ := blk8 z; go_simp⟩) hS0 ?_
        simp only [List.set_cons_succ, List.set_cons_zero]
        refine takeHL (i := 17) 63 (.pointer (some ⟨jb, joff + i2 * 3, none⟩)) rfl rfl (by kernel_rfl) (by kernel_rfl) (by kernel_rfl) (fun _ _ _ h => h) (.inl ⟨by rfl, fun w _ => by go_simp <;> (first | omega | (simp; omega))⟩) hS0 ?_
        simp only [List.set_cons_succ, List.set_cons_zero]
        refine takeHL (i := 18) 64 (.agg #[.int .i64 (jobAt js i2).task, .int .i64 (jobAt js i2).at_, .int .i64 (jobAt js i2).need]) rfl rfl (by kernel_rfl) (by kernel_rfl) (by kernel_rfl) (fun _ _ _ h => h) (.inl ⟨by rfl, fun w hS => by obtain ⟨z, y1, y2, x0, x1, x2, u0, u1, u2⟩ := hS; obtain ⟨z0, z1, z2, z3, z4, z5, z6, z7⟩ := blk8 z; go_simp⟩) hS0 ?_
        simp only [List.set_cons_succ, List.set_cons_zero]
        refine takeHL (i := 19) 65 (.int .i64 (pol)) rfl rfl (by kernel_rfl) (by kernel_rfl) (by kernel_rfl) (fun _ _ _ h => h) (.inl ⟨by rfl, fun _ _ => rfl⟩) hS0 ?_
        simp only [List.set_cons_succ, List.set_cons_zero]
        refine takeHL (i := 20) 66 (.agg #[.slice Ae ne ce, .slice At nt ct, .slice As ns cs, .bool (mdOf s), .slice (some ⟨wb, 0, none⟩) lf2.length cw', .int .i64 mm, .int .i64 num, .int .i64 den]) rfl rfl (by kernel_rfl) (by kernel_rfl) (by kernel_rfl) (fun _ _ _ h => h) (.inl ⟨by rfl, fun w hS => by obtain ⟨z, y1, y2, x0, x1, x2, u0, u1, u2⟩ := hS; obtain ⟨z0, z1, z2, z3, z4, z5, z6, z7⟩ := blk8 z; go_simp⟩) hS0 ?_
        simp only [List.set_cons_succ, List.set_cons_zero]
        refine callHL 21 67 rfl rfl (by kernel_rfl) (by rfl) 69 Tryz.func69 (by kernel_rfl) rfl _ _ rfl #[.slice (some ⟨tb, toff, none⟩) l.length c, (jobAt js i1).val, (jobAt js i2).val, .int .i64 pol, stV (.slice Ae ne ce) (.slice At nt ct) (.slice As ns cs) (.slice (some ⟨wb, 0, none⟩) lf2.length cw') (mdOf s) mm num den] ?hv (spec_l7First V i1 i2 hi1 hi2 (mdOf s) _ _ _ _ mm hp _ hTz) ?_
        case hv => simp [Act.eval]
        rintro e v1 ⟨rfl, bz1⟩
        have hS1 := hSk hS0 bz1
        refine ⟨_, rfl, hS1, ?_⟩
        simp only [List.set_cons_succ, List.set_cons_zero]
        refine wpAnyH_done (by kernel_rfl) ?_ _
        have bW := bthru hb (bthru bz0 bz1)
        rw [hgv2]
        cases gv with
        | true =>
          have hbs : Hid (bestIx G lf2 m = m) := by rw [Hid, HGS.out, HGV.out]; rfl
          go_wp2_with fail
          go_roundg (gk - 1)
          case measure => have := HM.out; omega
          case rel => exact ⟨m, by have := HM.out; omega, by rw [hbs.out], by go_num, bW⟩
        | false =>
          have hbs : Hid (bestIx G lf2 m = bb) := by rw [Hid, HGS.out, HGV.out]; rfl
          go_wp2_with fail
          go_roundg (gk - 1)
          case measure => have := HM.out; omega
          case rel => exact ⟨m, by have := HM.out; omega, by rw [hbs.out], by go_num, bW⟩
      case neg =>
        have e0 : decide (((k + 1 : Nat) : Int) < (lf2.length : Int)) = false := decide_eq_false (by omega)
        have hbl := bestIx_le G lf2 k
        have hbo : bestOf l js num den pol (mdOf s) lf2 = lf2.getD (bestIx G lf2 k) 0 := by
          unfold bestOf
          rw [HG.out, bestIx_at, show lf2.length - 1 = k by omega]
        obtain ⟨bb, hbb⟩ : ∃ bb, bestIx G lf2 k = bb := ⟨_, rfl⟩
        rw [hbb] at hbl hbo ⊢
        have hbb2 : bb < lf2.length := by omega
        obtain ⟨w2c, w2d, wf⟩ := wk_cells hK.k bb hbb2
        have hi2 := (hin bb hbb2).1
        have hrm : lf2.getD bb 0 ∈ lf2 := by
          have : lf2.getD bb 0 = lf2[bb] := by simp [hbb2]
          rw [this]
          exact List.getElem_mem hbb2
        have HES := Lib.hid (fun (v : Int) (hv : v ≠ -1) => still_erase (en := en2) (fun i hi => ⟨(hcome hi).2.2.1, by rw [hln]; exact (hcome hi).1⟩) hnd hbb2 hv)
        have HEW := Lib.hid (fun (x : Int) => wk_erase (dn := s.dn) hnd hbb2 x)
        have HSW := Lib.hid (fun (x : Int) => wk_set (dn := s.dn) hnd (fun i hi => by rw [I.inv.dnL]; exact (hcome hi).1) hbb2 x)
        have HSA := Lib.hid (still_all (en := en2) (lf := lf2) (fun i hi => (hcome hi).2.2.1))
        have HSS := Lib.hid (still_switch (l := l) (js := js) (en := en2) (lf := lf2) (fun i hi => ⟨(hcome hi).2.2.1, by rw [hln]; exact (hcome hi).1⟩))
        have HMEM := Lib.hid (fun i (hi : i ∈ lf2) => (hcome hi).1)
        have hce := hcome hrm
        obtain ⟨r, hr⟩ : ∃ r, lf2.getD bb 0 = r := ⟨_, rfl⟩
        rw [hr] at w2c w2d hi2 hbo hrm hce HES HEW HSW
        obtain ⟨_, _, hce1, hce2, hce3, hce4⟩ := hce
        obtain ⟨u0, u1, u2⟩ := jb_cells (hJS.keep hKW) r hi2
        obtain ⟨v0, v1, v2, v3, v4, v5⟩ := V.job r hi2
        have hvd := tkAt_vld V.v v3
        have hdl := I.inv.dnLe r hi2
        obtain ⟨tb', toff', hA', _, htc⟩ := (hTS.keep hKW) (by omega)
        cases hA'
        obtain ⟨c0, c1, c2, c3, c4⟩ := cells_tk htc (jK js r) v3
        have hjn : jN js r = (jobAt js r).need := rfl
        obtain ⟨y, hy⟩ : ∃ y, s.dn.getD r 0 = y := ⟨_, rfl⟩
        rw [hy] at w2d hce2 hce3 hdl
        have hE0 := fun (e : List Int × Bool × List Int) (he : endOf l js t (mdOf s) en2 lf2 s.sw r (y + 1) = e) (st : List Nat) (hst : stillTo e.1 lf2 lf2.length = st) => mstep_end (num := num) (den := den) (pol := pol) HAr.out (by rintro rfl; cases hrm) hbo (by rw [hy]) (en' := e.1) (hi := e.2.1) (sw := e.2.2) he hst
        have HE0 := Lib.hid hE0
        have HY := Lib.hid hy
        have HR := Lib.hid hr
        have qw : IntKind.i64.wrap (y + 1) = y + 1 := IntWalk.i64_in _ (by omega)
        have qw2 : IntKind.i64.wrap ((t : Int) + 1) = (t : Int) + 1 := IntWalk.i64_in _ (by omega)
        have hbI : (bb : Int) < (lf2.length : Int) := by omega
        have hi2I : (r : Int) < (js.length : Int) := by omega
        have hkI : (jK js r : Int) < (l.length : Int) := by omega
        rw [v2] at u0
        have HJT := Lib.hid v2
        have hJN := Lib.hid hjn
        clear v0 v1 v2 v4 hE0 hy hr hbb hbl htc c1 c2 c3 hnd hcome hrm hdl hin hjn
        generalize (jobAt js r).at_ = ja at u1
        generalize (jobAt js r).need = jn at u2 hJN v5
        have K0 := k3.keep hb
        have B0 := b3.trans (hb.mono (Nat.le_trans hW0 b3.size))
        have q2r := (hb.block _ (Array.getElem?_eq_some_iff.1 q2).1).trans q2
        have hJ := heap_alloc_new wr (.cells #[.int .i64 (jK js r : Int), .int .i64 ja, .int .i64 jn] 60 (0, 0))
        have bJ := bal (Below.refl wr.heap.size wr) (.cells #[.int .i64 (jK js r : Int), .int .i64 ja, .int .i64 jn] 60 (0, 0))
        go_upto_region 15 with fail
        have hWr : W0.heap.size ≤ wr.heap.size := Nat.le_trans hW0 B0.size
        have R1 := hK.keep bJ
        have K1 := K0.keep bJ
        have B1 := B0.trans (bJ.mono hWr)
        have q1j := (bJ.block _ (Array.getElem?_eq_some_iff.1 q1).1).trans q1
        have q2j := (bJ.block _ (Array.getElem?_eq_some_iff.1 q2r).1).trans q2r
        have hTz := hTS.keep (bthru hKW bJ)
        clear s0 s1 s2 s3 s4 s5 s6 s7 sf q1 q2r bJ w2c w2d wf u0 u1 u2 c0 c4 hK K0 B0 hWr
        obtain ⟨jk, hjk⟩ : ∃ jk, wr.heap.size = jk := ⟨_, rfl⟩
        rw [hjk] at hJ ⊢
        generalize World.alloc wr _ = w4 at hJ R1 K1 B1 q1j q2j hTz ⊢
        clear hjk
        obtain ⟨s0, s1, s2, s3, s4, s5, s6, s7⟩ := blk8 q1j
        have sf := fun i => Lib.frozen_of_heap q1j i
        obtain ⟨u0, u1, u2⟩ := blk3 hJ
        have hA := heap_alloc_new w4 (.cells #[.int .i64 (jK js r : Int)] 3 (0, 0))
        have bA := bal (Below.refl w4.heap.size w4) (.cells #[.int .i64 (jK js r : Int)] 3)
        have hW4 := Nat.le_trans hW0 B1.size
        have R2 := R1.keep bA
        have K2 := K1.keep bA
        have B2 := B1.trans (bA.mono hW4)
        have HP1 := Lib.hid ((bA.block _ (Array.getElem?_eq_some_iff.1 q1j).1).trans q1j)
        have HP2 := Lib.hid ((bA.block _ (Array.getElem?_eq_some_iff.1 q2j).1).trans q2j)
        have HPJ := Lib.hid ((bA.block _ (Array.getElem?_eq_some_iff.1 hJ).1).trans hJ)
        have hTz2 := hTz.keep bA
        clear bA R1 K1 B1 hTz
        go_upto_region 16 with (at_builtin; refine wpList_app_intO _ rfl _ _ rfl W0.heap.size At s.tr nt ct Hnt.out ?a1 ?a2 w4.heap.size 1 (jK js r : Int) 3 ?a3 ?a4 ?a5 ?a6 _ rfl ?_; (case a1 => exact rfl); (case a2 => exact R2.t); (case a3 => exact rfl); (case a4 => exact hA); (case a5 => omega); (case a6 => simp; omega); intro g4 cc4 w5 o4 gb4 hat4 b4; rw [bk_eq] at gb4 hat4; have qq := row_same R2.t gb4 HP1.out st1; obtain ⟨y0, y1, y2, y3, y4, y5, y6, y7⟩ := blk8 qq; have yf := fun i => Lib.frozen_of_heap qq i)
        have p5 : (w5.setCell ⟨g, 1, none⟩ (.slice (some ⟨g4, 0, none⟩) (nt + 1) cc4)).heap[g]? = some (stC (.slice Ae ne ce) (.slice (some ⟨g4, 0, none⟩) (nt + 1) cc4) (.slice As ns cs) (.slice (some ⟨wb, 0, none⟩) lf2.length cw') (mdOf s) mm num den) := heap_setCell_same w5 g 1 _ _ _ qq
        have hgj : jk ≠ g := by
          intro e
          subst e
          have := HPJ.out.symm.trans HP1.out
          injection this with this
          injection this with _ this _
          revert this
          decide
        have R5 := (R2.appT o4 gb4 hat4).setX qq st1 st2 1 (.slice (some ⟨g4, 0, none⟩) (nt + 1) cc4)
        have z5 := (Below.heap_setCell w5 ⟨g, 1, none⟩ (.slice (some ⟨g4, 0, none⟩) (nt + 1) cc4) (g + 1) (by simp)).trans (row_same R2.t gb4 HP2.out st1)
        have j5 := (Below.heap_setCell w5 ⟨g, 1, none⟩ (.slice (some ⟨g4, 0, none⟩) (nt + 1) cc4) jk hgj).trans (row_same R2.t gb4 HPJ.out (by decide))
        have K5 := (K2.row R2.t (.inl rfl) gb4).setX (by omega) (b := g) 1 (.slice (some ⟨g4, 0, none⟩) (nt + 1) cc4)
        have B5 := (B2.trans b4).setCell (p := ⟨g, 1, none⟩) hle (.slice (some ⟨g4, 0, none⟩) (nt + 1) cc4)
        generalize World.setCell w5 _ _ = w6 at p5 R5 z5 j5 K5 B5 ⊢
        clear s0 s1 s2 s3 s4 s5 s6 s7 sf u0 u1 u2 y0 y1 y2 y3 y4 y5 y6 y7 yf qq o4 gb4 hat4 b4 R2 K2 B2 hA HP1 HP2 HPJ hTz2 hW4 q1j q2j hJ
        obtain ⟨s0, s1, s2, s3, s4, s5, s6, s7⟩ := blk8 p5
        have sf := fun i => Lib.frozen_of_heap p5 i
        obtain ⟨u0, u1, u2⟩ := blk3 j5
        obtain ⟨w2c, w2d, wf⟩ := wk_cells R5.k bb hbb2
        rw [HR.out] at w2c w2d
        rw [HY.out] at w2d
        have wrr := SRows.setW R5 bb (by rw [wk_len]; exact hbb2) (y + 1)
        have hwk1 : ((wkOf s.dn lf2)[bb]'(by rw [wk_len]; exact hbb2)).1 = r := by rw [← HR.out]; simp [wkOf, hbb2]
        rw [hwk1, ← HSW.out] at wrr
        obtain ⟨R6, gW⟩ := wrr
        have p6 := row_same R5.k gW p5 st2
        have z6 := row_same R5.k gW z5 st2
        have j6 := row_same R5.k gW j5 (by decide)
        have K6 := K5.row R5.k (.inr rfl) gW
        have hwbl := OW_cells R5.k 0 (by rw [wk_len]; omega)
        obtain ⟨wb', hwA, hwb0, _, _, _, _⟩ := hwbl
        injection hwA with hwA
        injection hwA with hwA _ _
        subst hwA
        have B6 := B5.grown gW (Nat.le_trans hW0 B5.size) (fun k hk => by
          have : wb = k := by simpa [bk, Value.ownBlock] using hk
          omega)
        go_upto_region 18 with fail
        clear s0 s1 s2 s3 s4 s5 s6 s7 sf u0 u1 u2 w2c w2d wf p5 z5 j5 K5 B5 R5 gW hwk1
        generalize World.setCell w6 _ _ = w7 at p6 R6 z6 j6 K6 B6 ⊢
        obtain ⟨s0, s1, s2, s3, s4, s5, s6, s7⟩ := blk8 p6
        have sf := fun i => Lib.frozen_of_heap p6 i
        obtain ⟨u0, u1, u2⟩ := blk3 j6
        have hWw7 := hB0.trans B6
        by_cases hyn : y + 1 = jn
        case pos =>
          have e1 : (y + 1 == jn) = true := by simpa using hyn
          have HYN := Lib.hid hyn
          clear hyn
          obtain ⟨be, hAe, hbe, hbel, ⟨u, hu⟩, hfz, R7, gE⟩ := R6.setE r (by rw [hln]; exact hi2) ((t : Int) + 1)
          subst hAe
          have p7 := row_same R6.e gE p6 st1
          have z7 := row_same R6.e gE z6 st1
          have K7 := K6.row R6.e (.inl rfl) gE
          have B7 := B6.grown gE (Nat.le_trans hW0 B6.size) (fun k hk => by
            have : be = k := by simpa [bk, Value.ownBlock] using hk
            omega)
          have hneI : (r : Int) < (ne : Int) := by
            have h1 := Hne.out
            have h2 := I.inv.enL
            omega
          go_upto_region 20 with fail
          clear s0 s1 s2 s3 s4 s5 s6 s7 sf u0 u1 u2 p6 z6 j6 K6 B6 R6 gE hu hfz e1
          generalize World.setCell w7 _ _ = w8 at p7 R7 z7 K7 B7 ⊢
          rw [HSW.out] at R7
          obtain ⟨WK, hWK⟩ : ∃ WK, (wkOf s.dn lf2).set bb (r, y + 1) = WK := ⟨_, rfl⟩
          have hWKl : WK.length = lf2.length := by rw [← hWK, List.length_set, wk_len]
          have HWE : Hid (wkOf (s.dn.set r (y + 1)) (lf2.take bb ++ lf2.drop (bb + 1)) = WK.take bb ++ WK.drop (bb + 1)) := by
            rw [Hid, HEW.out, ← hWK, List.take_set_of_le (Nat.le_refl _), List.drop_set_of_lt (by omega)]
          rw [hWK] at R7
          clear hWK
          have bz0 : Below w8.heap.size w8 (World.drew w8) := Below.drew (Below.refl _ _)
          have P0 := (bz0.block _ (Array.getElem?_eq_some_iff.1 p7).1).trans p7
          have Z0 := (bz0.block _ (Array.getElem?_eq_some_iff.1 z7).1).trans z7
          have R0 := R7.keep bz0
          have K0 := K7.keep bz0
          have B0 := B7.trans (bz0.mono (Nat.le_trans hW0 B7.size))
          clear p7 z7 R7 K7 B7 bz0
          go_cut [] from 112 to 125 (fun wc => ∃ A6 c6, wc.heap[g]? = some (stC (.slice (some ⟨be, 0, none⟩) ne ce) (.slice (some ⟨g4, 0, none⟩) (nt + 1) cc4) (.slice As ns cs) (.slice A6 (lf2.length - 1) c6) (mdOf s) mm num den) ∧ SRows W0.heap.size wc (some ⟨be, 0, none⟩) ce (en2.set r ((t : Int) + 1)) (some ⟨g4, 0, none⟩) cc4 (s.tr ++ [(jK js r : Int)]) As cs s.sw A6 c6 (WK.take bb ++ WK.drop (bb + 1)) ∧ wc.heap[g + 1]? = some (.cells #[.slice none 0 0, .slice none 0 0, .slice none 0 0, .bool false, .slice none 0 0, .int .i64 0, .int .i64 0, .int .i64 0] ST (0, 0)) ∧ Kp w wc ∧ Below W0.heap.size w wc)
          case first =>
            refine wp_region_held (S := fun _ => True) (by kernel_rfl) ?_
            change wpAnyH _ _ _ _ _ _ _ _ (World.drew _)
            generalize World.drew w8 = v0 at P0 Z0 R0 K0 B0 ⊢
            have bA := bal (Below.refl v0.heap.size v0) (.cells #[] WT)
            have RA := R0.keep bA
            have KA := K0.keep bA
            have hW8 := Nat.le_trans hW0 B0.size
            have BA := B0.trans (bA.mono hW8)
            have PA := (bA.block _ (Array.getElem?_eq_some_iff.1 P0).1).trans P0
            have ZA := (bA.block _ (Array.getElem?_eq_some_iff.1 Z0).1).trans Z0
            have OA : OW W0.heap.size _ (some ⟨v0.heap.size, 0, none⟩) 0 [] := own_blank v0 WT 2 W0.heap.size hW8
            have FA : far (some ⟨wb, 0, none⟩) (some ⟨v0.heap.size, 0, none⟩) := by
              obtain ⟨b', hA', _, hbl', _⟩ := OW_cells R0.k 0 (by omega)
              cases hA'
              exact .inr (by simp [bk, Value.ownBlock]; omega)
            have hwd := work_drop R0.k (bb + 1) (by omega)
            obtain ⟨A2, hA2, hA3⟩ := hwd
            have hbI2 : (bb : Int) + 1 ≤ (lf2.length : Int) := by omega
            have hcw := (own_size R0.k).1
            have hbc : bb ≤ cw' := by omega
            have hbcI : (bb : Int) ≤ (cw' : Int) := by omega
            have HT1 : Hid ((WK.take bb).length = bb) := by rw [Hid, List.length_take]; omega
            have HT2 : Hid ((WK.drop (bb + 1)).length = lf2.length - (bb + 1)) := by rw [Hid, List.length_drop, hWKl]
            have HT3 : Hid ((WK.take bb).length ≤ 2000000) := by rw [Hid, List.length_take]; omega
            have HT4 : Hid ((WK.take bb).length ≤ 2000000) := HT3
            have HT5 : Hid ((WK.drop (bb + 1)).length ≤ 2000000) := by rw [Hid, List.length_drop, hWKl]; omega
            have hb0 : (0 : Int) ≤ (bb : Int) + 1 := by omega
            have HT6 : Hid (bb + (lf2.length - (bb + 1)) = lf2.length - 1) := by rw [Hid]; omega
            have qw3 : IntKind.i64.wrap ((bb : Int) + 1) = (bb : Int) + 1 := IntWalk.i64_in _ (by omega)
            have HC1 := Lib.hid (work_take RA.k bb)
            have hA3 := Lib.hid hA3
            have HW1 : Hid (W0.heap.size ≤ (v0.alloc (.cells #[] WT)).heap.size) := by rw [Hid]; simp; omega
            clear bA
            refine takeHL (i := 1) 113 (.pointer (some ⟨g, 4, none⟩)) rfl rfl (by kernel_rfl) (by kernel_rfl) (by kernel_rfl) (fun _ _ _ h => h) (.inl ⟨by rfl, fun w _ => by go_simp⟩) trivial ?_
            simp only [List.set_cons_succ, List.set_cons_zero]
            refine takeHL (i := 3) 115 (.int .i64 (bb : Int)) rfl rfl (by kernel_rfl) (by kernel_rfl) (by kernel_rfl) (fun _ _ _ h => h) (.inl ⟨by rfl, fun _ _ => rfl⟩) trivial ?_
            simp only [List.set_cons_succ, List.set_cons_zero]
            refine takeHL (i := 6) 118 (.pointer (some ⟨g, 4, none⟩)) rfl rfl (by kernel_rfl) (by kernel_rfl) (by kernel_rfl) (fun _ _ _ h => h) (.inl ⟨by rfl, fun w _ => by go_simp⟩) trivial ?_
            simp only [List.set_cons_succ, List.set_cons_zero]
            refine takeHL (i := 8) 120 (.int .i64 (bb : Int)) rfl rfl (by kernel_rfl) (by kernel_rfl) (by kernel_rfl) (fun _ _ _ h => h) (.inl ⟨by rfl, fun _ _ => rfl⟩) trivial ?_
            simp only [List.set_cons_succ, List.set_cons_zero]
            refine takeHL (i := 9) 121 (.int .i64 ((bb : Int) + 1)) rfl rfl (by kernel_rfl) (by kernel_rfl) (by kernel_rfl) (fun _ _ _ h => h) (.inl ⟨by rfl, fun w _ => by go_simp⟩) trivial ?_
            simp only [List.set_cons_succ, List.set_cons_zero]
            refine wpAnyH_all (rs := [0, 2, 7]) (by kernel_rfl) (by simp) ?_
            intro j hj
            simp only [List.mem_cons, List.not_mem_nil, or_false] at hj
            rcases hj with rfl | rfl | rfl
            · refine makeOp 0 112 rfl (by rfl) ?_
              intro K hK
              go_simp
              refine hK (.slice (some ⟨v0.heap.size, 0, none⟩) 0 0) _ trivial ?_
              clear hK
              simp only [List.set_cons_succ, List.set_cons_zero]
              refine wpAnyH_all (rs := [2, 7]) (by kernel_rfl) (by simp) ?_
              intro j hj
              simp only [List.mem_cons, List.not_mem_nil, or_false] at hj
              rcases hj with rfl | rfl
              · refine makeOp 2 114 rfl (by rfl) ?_
                intro K hK
                obtain ⟨x0, x1, x2, x3, x4, x5, x6, x7⟩ := blk8 PA
                go_simp
                refine hK (.slice (some ⟨wb, 0, none⟩) lf2.length cw') _ trivial ?_
                clear x0 x1 x2 x3 x4 x5 x6 x7 hK
                simp only [List.set_cons_succ, List.set_cons_zero]
                refine takeHL (i := 4) 116 (.slice (some ⟨wb, 0, none⟩) bb cw') rfl rfl (by kernel_rfl) (by kernel_rfl) (by kernel_rfl) (fun _ _ _ h => h) (.inl ⟨by rfl, fun w _ => by go_simp⟩) trivial ?_
                simp only [List.set_cons_succ, List.set_cons_zero]
                refine wpAnyH_all (rs := [5, 7]) (by kernel_rfl) (by simp) ?_
                intro j hj
                simp only [List.mem_cons, List.not_mem_nil, or_false] at hj
                rcases hj with rfl | rfl
                · refine makeOp 5 117 rfl (by rfl) ?_
                  intro K hK
                  refine wp_app_works (.tmp 112) (.tmp 116) rfl W0.heap.size (some ⟨v0.heap.size, 0, none⟩) [] 0 0 rfl rfl OA ⟨wb, 0, none⟩ bb cw' (WK.take bb) HT1.out rfl HC1.out (by simp) HT3.out HW1.out ?_
                  intro A5 c5 vB OB gB bB
                  refine hK (.slice A5 (0 + bb) c5) _ trivial ?_
                  simp only [List.set_cons_succ, List.set_cons_zero]
                  rw [Nat.zero_add]
                  clear hK
                  have PB := row_same OA gB PA st2
                  have ZB := row_same OA gB ZA st2
                  have RB := SRows.side RA OA FA gB
                  have KB := KA.row OA (.inr rfl) gB
                  have BB := BA.trans bB
                  have HC2 := Lib.hid (hA3.out vB (fun j u hu => World.ownsRow.cells RB.k (g := wb) rfl j u hu))
                  clear gB bB
                  refine wpAnyH_all (rs := [7]) (by kernel_rfl) (by simp) ?_
                  intro j hj
                  rw [List.mem_singleton] at hj
                  subst hj
                  refine makeOp 7 119 rfl (by rfl) ?_
                  intro K hK
                  obtain ⟨x0, x1, x2, x3, x4, x5, x6, x7⟩ := blk8 PB
                  go_simp
                  refine hK (.slice (some ⟨wb, 0, none⟩) lf2.length cw') _ trivial ?_
                  clear x0 x1 x2 x3 x4 x5 x6 x7 hK
                  simp only [List.set_cons_succ, List.set_cons_zero]
                  refine takeHL (i := 10) 122 (.slice (some A2) (lf2.length - (bb + 1)) (cw' - (bb + 1))) rfl rfl (by kernel_rfl) (by kernel_rfl) (by kernel_rfl) (fun _ _ _ h => h) (.inl ⟨by rfl, fun w _ => by go_simp⟩) trivial ?_
                  simp only [List.set_cons_succ, List.set_cons_zero]
                  refine wpAnyH_all (rs := [11]) (by kernel_rfl) (by simp) ?_
                  intro j hj
                  rw [List.mem_singleton] at hj
                  subst hj
                  refine makeOp 11 123 rfl (by rfl) ?_
                  intro K hK
                  refine wp_app_works (.tmp 117) (.tmp 122) rfl W0.heap.size A5 (WK.take bb) bb c5 HT1.out rfl OB A2 (lf2.length - (bb + 1)) (cw' - (bb + 1)) (WK.drop (bb + 1)) HT2.out rfl HC2.out HT4.out HT5.out (Nat.le_trans hW0 BB.size) ?_
                  intro A6 c6 vC OC gC bC
                  refine hK (.slice A6 (bb + (lf2.length - (bb + 1))) c6) _ trivial ?_
                  simp only [List.set_cons_succ, List.set_cons_zero]
                  clear hK
                  have PC := row_same OB gC PB st2
                  have ZC := row_same OB gC ZB st2
                  have RC : SRows W0.heap.size vC (some ⟨be, 0, none⟩) ce (en2.set r ((t : Int) + 1)) (some ⟨g4, 0, none⟩) cc4 (s.tr ++ [(jK js r : Int)]) As cs s.sw A6 c6 (WK.take bb ++ WK.drop (bb + 1)) := ⟨own_pastT RB.e OB gC (fun e => wt1 e.symm), own_pastT RB.t OB gC (fun e => wt1 e.symm), own_pastT RB.s OB gC (fun e => wt1 e.symm), OC, RB.et, RB.es, RB.ts⟩
                  have KC := KB.row OB (.inr rfl) gC
                  have BC := BB.trans bC
                  clear gC bC
                  refine takeHL (i := 12) 124 (.pointer (some ⟨g, 4, none⟩)) rfl rfl (by kernel_rfl) (by kernel_rfl) (by kernel_rfl) (fun _ _ _ h => h) (.inl ⟨by rfl, fun w _ => by go_simp⟩) trivial ?_
                  simp only [List.set_cons_succ, List.set_cons_zero]
                  refine wpAnyH_all (rs := [13]) (by kernel_rfl) (by simp) ?_
                  intro j hj
                  rw [List.mem_singleton] at hj
                  subst hj
                  refine storeOp 13 rfl (by rfl) ?_
                  intro K hK
                  obtain ⟨x0, x1, x2, x3, x4, x5, x6, x7⟩ := blk8 PC
                  have xf := fun i => Lib.frozen_of_heap PC i
                  go_simp
                  refine hK _ trivial ?_
                  refine wpAnyH_done (by kernel_rfl) ?_ _
                  go_wp2_with fail
                  go_meet
                  exact ⟨A6, c6, by rw [← HT6.out]; exact heap_setCell_same vC g 4 _ _ _ PC, RC.setX PC st1 st2 4 _, (Below.heap_setCell vC ⟨g, 4, none⟩ _ (g + 1) (by simp)).trans ZC, KC.setX (by omega) (b := g) 4 _, BC.setCell (p := ⟨g, 4, none⟩) hle _⟩
                · refine makeOp 7 119 rfl (by rfl) ?_
                  intro K hK
                  obtain ⟨x0, x1, x2, x3, x4, x5, x6, x7⟩ := blk8 PA
                  go_simp
                  refine hK (.slice (some ⟨wb, 0, none⟩) lf2.length cw') _ trivial ?_
                  clear x0 x1 x2 x3 x4 x5 x6 x7 hK
                  simp only [List.set_cons_succ, List.set_cons_zero]
                  refine takeHL (i := 10) 122 (.slice (some A2) (lf2.length - (bb + 1)) (cw' - (bb + 1))) rfl rfl (by kernel_rfl) (by kernel_rfl) (by kernel_rfl) (fun _ _ _ h => h) (.inl ⟨by rfl, fun w _ => by go_simp⟩) trivial ?_
                  simp only [List.set_cons_succ, List.set_cons_zero]
                  refine wpAnyH_all (rs := [5]) (by kernel_rfl) (by simp) ?_
                  intro j hj
                  rw [List.mem_singleton] at hj
                  subst hj
                  refine makeOp 5 117 rfl (by rfl) ?_
                  intro K hK
                  refine wp_app_works (.tmp 112) (.tmp 116) rfl W0.heap.size (some ⟨v0.heap.size, 0, none⟩) [] 0 0 rfl rfl OA ⟨wb, 0, none⟩ bb cw' (WK.take bb) HT1.out rfl HC1.out (by simp) HT3.out HW1.out ?_
                  intro A5 c5 vB OB gB bB
                  refine hK (.slice A5 (0 + bb) c5) _ trivial ?_
                  simp only [List.set_cons_succ, List.set_cons_zero]
                  rw [Nat.zero_add]
                  clear hK
                  have PB := row_same OA gB PA st2
                  have ZB := row_same OA gB ZA st2
                  have RB := SRows.side RA OA FA gB
                  have KB := KA.row OA (.inr rfl) gB
                  have BB := BA.trans bB
                  have HC2 := Lib.hid (hA3.out vB (fun j u hu => World.ownsRow.cells RB.k (g := wb) rfl j u hu))
                  clear gB bB
                  refine wpAnyH_all (rs := [11]) (by kernel_rfl) (by simp) ?_
                  intro j hj
                  rw [List.mem_singleton] at hj
                  subst hj
                  refine makeOp 11 123 rfl (by rfl) ?_
                  intro K hK
                  refine wp_app_works (.tmp 117) (.tmp 122) rfl W0.heap.size A5 (WK.take bb) bb c5 HT1.out rfl OB A2 (lf2.length - (bb + 1)) (cw' - (bb + 1)) (WK.drop (bb + 1)) HT2.out rfl HC2.out HT4.out HT5.out (Nat.le_trans hW0 BB.size) ?_
                  intro A6 c6 vC OC gC bC
                  refine hK (.slice A6 (bb + (lf2.length - (bb + 1))) c6) _ trivial ?_
                  simp only [List.set_cons_succ, List.set_cons_zero]
                  clear hK
                  have PC := row_same OB gC PB st2
                  have ZC := row_same OB gC ZB st2
                  have RC : SRows W0.heap.size vC (some ⟨be, 0, none⟩) ce (en2.set r ((t : Int) + 1)) (some ⟨g4, 0, none⟩) cc4 (s.tr ++ [(jK js r : Int)]) As cs s.sw A6 c6 (WK.take bb ++ WK.drop (bb + 1)) := ⟨own_pastT RB.e OB gC (fun e => wt1 e.symm), own_pastT RB.t OB gC (fun e => wt1 e.symm), own_pastT RB.s OB gC (fun e => wt1 e.symm), OC, RB.et, RB.es, RB.ts⟩
                  have KC := KB.row OB (.inr rfl) gC
                  have BC := BB.trans bC
                  clear gC bC
                  refine takeHL (i := 12) 124 (.pointer (some ⟨g, 4, none⟩)) rfl rfl (by kernel_rfl) (by kernel_rfl) (by kernel_rfl) (fun _ _ _ h => h) (.inl ⟨by rfl, fun w _ => by go_simp⟩) trivial ?_
                  simp only [List.set_cons_succ, List.set_cons_zero]
                  refine wpAnyH_all (rs := [13]) (by kernel_rfl) (by simp) ?_
                  intro j hj
                  rw [List.mem_singleton] at hj
                  subst hj
                  refine storeOp 13 rfl (by rfl) ?_
                  intro K hK
                  obtain ⟨x0, x1, x2, x3, x4, x5, x6, x7⟩ := blk8 PC
                  have xf := fun i => Lib.frozen_of_heap PC i
                  go_simp
                  refine hK _ trivial ?_
                  refine wpAnyH_done (by kernel_rfl) ?_ _
                  go_wp2_with fail
                  go_meet
                  exact ⟨A6, c6, by rw [← HT6.out]; exact heap_setCell_same vC g 4 _ _ _ PC, RC.setX PC st1 st2 4 _, (Below.heap_setCell vC ⟨g, 4, none⟩ _ (g + 1) (by simp)).trans ZC, KC.setX (by omega) (b := g) 4 _, BC.setCell (p := ⟨g, 4, none⟩) hle _⟩
              · refine makeOp 7 119 rfl (by rfl) ?_
                intro K hK
                obtain ⟨x0, x1, x2, x3, x4, x5, x6, x7⟩ := blk8 PA
                go_simp
                refine hK (.slice (some ⟨wb, 0, none⟩) lf2.length cw') _ trivial ?_
                clear x0 x1 x2 x3 x4 x5 x6 x7 hK
                simp only [List.set_cons_succ, List.set_cons_zero]
                refine takeHL (i := 10) 122 (.slice (some A2) (lf2.length - (bb + 1)) (cw' - (bb + 1))) rfl rfl (by kernel_rfl) (by kernel_rfl) (by kernel_rfl) (fun _ _ _ h => h) (.inl ⟨by rfl, fun w _ => by go_simp⟩) trivial ?_
                simp only [List.set_cons_succ, List.set_cons_zero]
                refine wpAnyH_all (rs := [2]) (by kernel_rfl) (by simp) ?_
                intro j hj
                rw [List.mem_singleton] at hj
                subst hj
                refine makeOp 2 114 rfl (by rfl) ?_
                intro K hK
                obtain ⟨x0, x1, x2, x3, x4, x5, x6, x7⟩ := blk8 PA
                go_simp
                refine hK (.slice (some ⟨wb, 0, none⟩) lf2.length cw') _ trivial ?_
                clear x0 x1 x2 x3 x4 x5 x6 x7 hK
                simp only [List.set_cons_succ, List.set_cons_zero]
                refine takeHL (i := 4) 116 (.slice (some ⟨wb, 0, none⟩) bb cw') rfl rfl (by kernel_rfl) (by kernel_rfl) (by kernel_rfl) (fun _ _ _ h => h) (.inl ⟨by rfl, fun w _ => by go_simp⟩) trivial ?_
                simp only [List.set_cons_succ, List.set_cons_zero]
                refine wpAnyH_all (rs := [5]) (by kernel_rfl) (by simp) ?_
                intro j hj
                rw [List.mem_singleton] at hj
                subst hj
                refine makeOp 5 117 rfl (by rfl) ?_
                intro K hK
                refine wp_app_works (.tmp 112) (.tmp 116) rfl W0.heap.size (some ⟨v0.heap.size, 0, none⟩) [] 0 0 rfl rfl OA ⟨wb, 0, none⟩ bb cw' (WK.take bb) HT1.out rfl HC1.out (by simp) HT3.out HW1.out ?_
                intro A5 c5 vB OB gB bB
                refine hK (.slice A5 (0 + bb) c5) _ trivial ?_
                simp only [List.set_cons_succ, List.set_cons_zero]
                rw [Nat.zero_add]
                clear hK
                have PB := row_same OA gB PA st2
                have ZB := row_same OA gB ZA st2
                have RB := SRows.side RA OA FA gB
                have KB := KA.row OA (.inr rfl) gB
                have BB := BA.trans bB
                have HC2 := Lib.hid (hA3.out vB (fun j u hu => World.ownsRow.cells RB.k (g := wb) rfl j u hu))
                clear gB bB
                refine wpAnyH_all (rs := [11]) (by kernel_rfl) (by simp) ?_
                intro j hj
                rw [List.mem_singleton] at hj
                subst hj
                refine makeOp 11 123 rfl (by rfl) ?_
                intro K hK
                refine wp_app_works (.tmp 117) (.tmp 122) rfl W0.heap.size A5 (WK.take bb) bb c5 HT1.out rfl OB A2 (lf2.length - (bb + 1)) (cw' - (bb + 1)) (WK.drop (bb + 1)) HT2.out rfl HC2.out HT4.out HT5.out (Nat.le_trans hW0 BB.size) ?_
                intro A6 c6 vC OC gC bC
                refine hK (.slice A6 (bb + (lf2.length - (bb + 1))) c6) _ trivial ?_
                simp only [List.set_cons_succ, List.set_cons_zero]
                clear hK
                have PC := row_same OB gC PB st2
                have ZC := row_same OB gC ZB st2
                have RC : SRows W0.heap.size vC (some ⟨be, 0, none⟩) ce (en2.set r ((t : Int) + 1)) (some ⟨g4, 0, none⟩) cc4 (s.tr ++ [(jK js r : Int)]) As cs s.sw A6 c6 (WK.take bb ++ WK.drop (bb + 1)) := ⟨own_pastT RB.e OB gC (fun e => wt1 e.symm), own_pastT RB.t OB gC (fun e => wt1 e.symm), own_pastT RB.s OB gC (fun e => wt1 e.symm), OC, RB.et, RB.es, RB.ts⟩
                have KC := KB.row OB (.inr rfl) gC
                have BC := BB.trans bC
                clear gC bC
                refine takeHL (i := 12) 124 (.pointer (some ⟨g, 4, none⟩)) rfl rfl (by kernel_rfl) (by kernel_rfl) (by kernel_rfl) (fun _ _ _ h => h) (.inl ⟨by rfl, fun w _ => by go_simp⟩) trivial ?_
                simp only [List.set_cons_succ, List.set_cons_zero]
                refine wpAnyH_all (rs := [13]) (by kernel_rfl) (by simp) ?_
                intro j hj
                rw [List.mem_singleton] at hj
                subst hj
                refine storeOp 13 rfl (by rfl) ?_
                intro K hK
                obtain ⟨x0, x1, x2, x3, x4, x5, x6, x7⟩ := blk8 PC
                have xf := fun i => Lib.frozen_of_heap PC i
                go_simp
                refine hK _ trivial ?_
                refine wpAnyH_done (by kernel_rfl) ?_ _
                go_wp2_with fail
                go_meet
                exact ⟨A6, c6, by rw [← HT6.out]; exact heap_setCell_same vC g 4 _ _ _ PC, RC.setX PC st1 st2 4 _, (Below.heap_setCell vC ⟨g, 4, none⟩ _ (g + 1) (by simp)).trans ZC, KC.setX (by omega) (b := g) 4 _, BC.setCell (p := ⟨g, 4, none⟩) hle _⟩
            · refine makeOp 2 114 rfl (by rfl) ?_
              intro K hK
              obtain ⟨x0, x1, x2, x3, x4, x5, x6, x7⟩ := blk8 P0
              go_simp
              refine hK (.slice (some ⟨wb, 0, none⟩) lf2.length cw') _ trivial ?_
              clear x0 x1 x2 x3 x4 x5 x6 x7 hK
              simp only [List.set_cons_succ, List.set_cons_zero]
              refine takeHL (i := 4) 116 (.slice (some ⟨wb, 0, none⟩) bb cw') rfl rfl (by kernel_rfl) (by kernel_rfl) (by kernel_rfl) (fun _ _ _ h => h) (.inl ⟨by rfl, fun w _ => by go_simp⟩) trivial ?_
              simp only [List.set_cons_succ, List.set_cons_zero]
              refine wpAnyH_all (rs := [0, 7]) (by kernel_rfl) (by simp) ?_
              intro j hj
              simp only [List.mem_cons, List.not_mem_nil, or_false] at hj
              rcases hj with rfl | rfl
              · refine makeOp 0 112 rfl (by rfl) ?_
                intro K hK
                go_simp
                refine hK (.slice (some ⟨v0.heap.size, 0, none⟩) 0 0) _ trivial ?_
                clear hK
                simp only [List.set_cons_succ, List.set_cons_zero]
                refine wpAnyH_all (rs := [5, 7]) (by kernel_rfl) (by simp) ?_
                intro j hj
                simp only [List.mem_cons, List.not_mem_nil, or_false] at hj
                rcases hj with rfl | rfl
                · refine makeOp 5 117 rfl (by rfl) ?_
                  intro K hK
                  refine wp_app_works (.tmp 112) (.tmp 116) rfl W0.heap.size (some ⟨v0.heap.size, 0, none⟩) [] 0 0 rfl rfl OA ⟨wb, 0, none⟩ bb cw' (WK.take bb) HT1.out rfl HC1.out (by simp) HT3.out HW1.out ?_
                  intro A5 c5 vB OB gB bB
                  refine hK (.slice A5 (0 + bb) c5) _ trivial ?_
                  simp only [List.set_cons_succ, List.set_cons_zero]
                  rw [Nat.zero_add]
                  clear hK
                  have PB := row_same OA gB PA st2
                  have ZB := row_same OA gB ZA st2
                  have RB := SRows.side RA OA FA gB
                  have KB := KA.row OA (.inr rfl) gB
                  have BB := BA.trans bB
                  have HC2 := Lib.hid (hA3.out vB (fun j u hu => World.ownsRow.cells RB.k (g := wb) rfl j u hu))
                  clear gB bB
                  refine wpAnyH_all (rs := [7]) (by kernel_rfl) (by simp) ?_
                  intro j hj
                  rw [List.mem_singleton] at hj
                  subst hj
                  refine makeOp 7 119 rfl (by rfl) ?_
                  intro K hK
                  obtain ⟨x0, x1, x2, x3, x4, x5, x6, x7⟩ := blk8 PB
                  go_simp
                  refine hK (.slice (some ⟨wb, 0, none⟩) lf2.length cw') _ trivial ?_
                  clear x0 x1 x2 x3 x4 x5 x6 x7 hK
                  simp only [List.set_cons_succ, List.set_cons_zero]
                  refine takeHL (i := 10) 122 (.slice (some A2) (lf2.length - (bb + 1)) (cw' - (bb + 1))) rfl rfl (by kernel_rfl) (by kernel_rfl) (by kernel_rfl) (fun _ _ _ h => h) (.inl ⟨by rfl, fun w _ => by go_simp⟩) trivial ?_
                  simp only [List.set_cons_succ, List.set_cons_zero]
                  refine wpAnyH_all (rs := [11]) (by kernel_rfl) (by simp) ?_
                  intro j hj
                  rw [List.mem_singleton] at hj
                  subst hj
                  refine makeOp 11 123 rfl (by rfl) ?_
                  intro K hK
                  refine wp_app_works (.tmp 117) (.tmp 122) rfl W0.heap.size A5 (WK.take bb) bb c5 HT1.out rfl OB A2 (lf2.length - (bb + 1)) (cw' - (bb + 1)) (WK.drop (bb + 1)) HT2.out rfl HC2.out HT4.out HT5.out (Nat.le_trans hW0 BB.size) ?_
                  intro A6 c6 vC OC gC bC
                  refine hK (.slice A6 (bb + (lf2.length - (bb + 1))) c6) _ trivial ?_
                  simp only [List.set_cons_succ, List.set_cons_zero]
                  clear hK
                  have PC := row_same OB gC PB st2
                  have ZC := row_same OB gC ZB st2
                  have RC : SRows W0.heap.size vC (some ⟨be, 0, none⟩) ce (en2.set r ((t : Int) + 1)) (some ⟨g4, 0, none⟩) cc4 (s.tr ++ [(jK js r : Int)]) As cs s.sw A6 c6 (WK.take bb ++ WK.drop (bb + 1)) := ⟨own_pastT RB.e OB gC (fun e => wt1 e.symm), own_pastT RB.t OB gC (fun e => wt1 e.symm), own_pastT RB.s OB gC (fun e => wt1 e.symm), OC, RB.et, RB.es, RB.ts⟩
                  have KC := KB.row OB (.inr rfl) gC
                  have BC := BB.trans bC
                  clear gC bC
                  refine takeHL (i := 12) 124 (.pointer (some ⟨g, 4, none⟩)) rfl rfl (by kernel_rfl) (by kernel_rfl) (by kernel_rfl) (fun _ _ _ h => h) (.inl ⟨by rfl, fun w _ => by go_simp⟩) trivial ?_
                  simp only [List.set_cons_succ, List.set_cons_zero]
                  refine wpAnyH_all (rs := [13]) (by kernel_rfl) (by simp) ?_
                  intro j hj
                  rw [List.mem_singleton] at hj
                  subst hj
                  refine storeOp 13 rfl (by rfl) ?_
                  intro K hK
                  obtain ⟨x0, x1, x2, x3, x4, x5, x6, x7⟩ := blk8 PC
                  have xf := fun i => Lib.frozen_of_heap PC i
                  go_simp
                  refine hK _ trivial ?_
                  refine wpAnyH_done (by kernel_rfl) ?_ _
                  go_wp2_with fail
                  go_meet
                  exact ⟨A6, c6, by rw [← HT6.out]; exact heap_setCell_same vC g 4 _ _ _ PC, RC.setX PC st1 st2 4 _, (Below.heap_setCell vC ⟨g, 4, none⟩ _ (g + 1) (by simp)).trans ZC, KC.setX (by omega) (b := g) 4 _, BC.setCell (p := ⟨g, 4, none⟩) hle _⟩
                · refine makeOp 7 119 rfl (by rfl) ?_
                  intro K hK
                  obtain ⟨x0, x1, x2, x3, x4, x5, x6, x7⟩ := blk8 PA
                  go_simp
                  refine hK (.slice (some ⟨wb, 0, none⟩) lf2.length cw') _ trivial ?_
                  clear x0 x1 x2 x3 x4 x5 x6 x7 hK
                  simp only [List.set_cons_succ, List.set_cons_zero]
                  refine takeHL (i := 10) 122 (.slice (some A2) (lf2.length - (bb + 1)) (cw' - (bb + 1))) rfl rfl (by kernel_rfl) (by kernel_rfl) (by kernel_rfl) (fun _ _ _ h => h) (.inl ⟨by rfl, fun w _ => by go_simp⟩) trivial ?_
                  simp only [List.set_cons_succ, List.set_cons_zero]
                  refine wpAnyH_all (rs := [5]) (by kernel_rfl) (by simp) ?_
                  intro j hj
                  rw [List.mem_singleton] at hj
                  subst hj
                  refine makeOp 5 117 rfl (by rfl) ?_
                  intro K hK
                  refine wp_app_works (.tmp 112) (.tmp 116) rfl W0.heap.size (some ⟨v0.heap.size, 0, none⟩) [] 0 0 rfl rfl OA ⟨wb, 0, none⟩ bb cw' (WK.take bb) HT1.out rfl HC1.out (by simp) HT3.out HW1.out ?_
                  intro A5 c5 vB OB gB bB
                  refine hK (.slice A5 (0 + bb) c5) _ trivial ?_
                  simp only [List.set_cons_succ, List.set_cons_zero]
                  rw [Nat.zero_add]
                  clear hK
                  have PB := row_same OA gB PA st2
                  have ZB := row_same OA gB ZA st2
                  have RB := SRows.side RA OA FA gB
                  have KB := KA.row OA (.inr rfl) gB
                  have BB := BA.trans bB
                  have HC2 := Lib.hid (hA3.out vB (fun j u hu => World.ownsRow.cells RB.k (g := wb) rfl j u hu))
                  clear gB bB
                  refine wpAnyH_all (rs := [11]) (by kernel_rfl) (by simp) ?_
                  intro j hj
                  rw [List.mem_singleton] at hj
                  subst hj
                  refine makeOp 11 123 rfl (by rfl) ?_
                  intro K hK
                  refine wp_app_works (.tmp 117) (.tmp 122) rfl W0.heap.size A5 (WK.take bb) bb c5 HT1.out rfl OB A2 (lf2.length - (bb + 1)) (cw' - (bb + 1)) (WK.drop (bb + 1)) HT2.out rfl HC2.out HT4.out HT5.out (Nat.le_trans hW0 BB.size) ?_
                  intro A6 c6 vC OC gC bC
                  refine hK (.slice A6 (bb + (lf2.length - (bb + 1))) c6) _ trivial ?_
                  simp only [List.set_cons_succ, List.set_cons_zero]
                  clear hK
                  have PC := row_same OB gC PB st2
                  have ZC := row_same OB gC ZB st2
                  have RC : SRows W0.heap.size vC (some ⟨be, 0, none⟩) ce (en2.set r ((t : Int) + 1)) (some ⟨g4, 0, none⟩) cc4 (s.tr ++ [(jK js r : Int)]) As cs s.sw A6 c6 (WK.take bb ++ WK.drop (bb + 1)) := ⟨own_pastT RB.e OB gC (fun e => wt1 e.symm), own_pastT RB.t OB gC (fun e => wt1 e.symm), own_pastT RB.s OB gC (fun e => wt1 e.symm), OC, RB.et, RB.es, RB.ts⟩
                  have KC := KB.row OB (.inr rfl) gC
                  have BC := BB.trans bC
                  clear gC bC
                  refine takeHL (i := 12) 124 (.pointer (some ⟨g, 4, none⟩)) rfl rfl (by kernel_rfl) (by kernel_rfl) (by kernel_rfl) (fun _ _ _ h => h) (.inl ⟨by rfl, fun w _ => by go_simp⟩) trivial ?_
                  simp only [List.set_cons_succ, List.set_cons_zero]
                  refine wpAnyH_all (rs := [13]) (by kernel_rfl) (by simp) ?_
                  intro j hj
                  rw [List.mem_singleton] at hj
                  subst hj
                  refine storeOp 13 rfl (by rfl) ?_
                  intro K hK
                  obtain ⟨x0, x1, x2, x3, x4, x5, x6, x7⟩ := blk8 PC
                  have xf := fun i => Lib.frozen_of_heap PC i
                  go_simp
                  refine hK _ trivial ?_
                  refine wpAnyH_done (by kernel_rfl) ?_ _
                  go_wp2_with fail
                  go_meet
                  exact ⟨A6, c6, by rw [← HT6.out]; exact heap_setCell_same vC g 4 _ _ _ PC, RC.setX PC st1 st2 4 _, (Below.heap_setCell vC ⟨g, 4, none⟩ _ (g + 1) (by simp)).trans ZC, KC.setX (by omega) (b := g) 4 _, BC.setCell (p := ⟨g, 4, none⟩) hle _⟩
              · refine makeOp 7 119 rfl (by rfl) ?_
                intro K hK
                obtain ⟨x0, x1, x2, x3, x4, x5, x6, x7⟩ := blk8 P0
                go_simp
                refine hK (.slice (some ⟨wb, 0, none⟩) lf2.length cw') _ trivial ?_
                clear x0 x1 x2 x3 x4 x5 x6 x7 hK
                simp only [List.set_cons_succ, List.set_cons_zero]
                refine takeHL (i := 10) 122 (.slice (some A2) (lf2.length - (bb + 1)) (cw' - (bb + 1))) rfl rfl (by kernel_rfl) (by kernel_rfl) (by kernel_rfl) (fun _ _ _ h => h) (.inl ⟨by rfl, fun w _ => by go_simp⟩) trivial ?_
                simp only [List.set_cons_succ, List.set_cons_zero]
                refine wpAnyH_all (rs := [0]) (by kernel_rfl) (by simp) ?_
                intro j hj
                rw [List.mem_singleton] at hj
                subst hj
                refine makeOp 0 112 rfl (by rfl) ?_
                intro K hK
                go_simp
                refine hK (.slice (some ⟨v0.heap.size, 0, none⟩) 0 0) _ trivial ?_
                clear hK
                simp only [List.set_cons_succ, List.set_cons_zero]
                refine wpAnyH_all (rs := [5]) (by kernel_rfl) (by simp) ?_
                intro j hj
                rw [List.mem_singleton] at hj
                subst hj
                refine makeOp 5 117 rfl (by rfl) ?_
                intro K hK
                refine wp_app_works (.tmp 112) (.tmp 116) rfl W0.heap.size (some ⟨v0.heap.size, 0, none⟩) [] 0 0 rfl rfl OA ⟨wb, 0, none⟩ bb cw' (WK.take bb) HT1.out rfl HC1.out (by simp) HT3.out HW1.out ?_
                intro A5 c5 vB OB gB bB
                refine hK (.slice A5 (0 + bb) c5) _ trivial ?_
                simp only [List.set_cons_succ, List.set_cons_zero]
                rw [Nat.zero_add]
                clear hK
                have PB := row_same OA gB PA st2
                have ZB := row_same OA gB ZA st2
                have RB := SRows.side RA OA FA gB
                have KB := KA.row OA (.inr rfl) gB
                have BB := BA.trans bB
                have HC2 := Lib.hid (hA3.out vB (fun j u hu => World.ownsRow.cells RB.k (g := wb) rfl j u hu))
                clear gB bB
                refine wpAnyH_all (rs := [11]) (by kernel_rfl) (by simp) ?_
                intro j hj
                rw [List.mem_singleton] at hj
                subst hj
                refine makeOp 11 123 rfl (by rfl) ?_
                intro K hK
                refine wp_app_works (.tmp 117) (.tmp 122) rfl W0.heap.size A5 (WK.take bb) bb c5 HT1.out rfl OB A2 (lf2.length - (bb + 1)) (cw' - (bb + 1)) (WK.drop (bb + 1)) HT2.out rfl HC2.out HT4.out HT5.out (Nat.le_trans hW0 BB.size) ?_
                intro A6 c6 vC OC gC bC
                refine hK (.slice A6 (bb + (lf2.length - (bb + 1))) c6) _ trivial ?_
                simp only [List.set_cons_succ, List.set_cons_zero]
                clear hK
                have PC := row_same OB gC PB st2
                have ZC := row_same OB gC ZB st2
                have RC : SRows W0.heap.size vC (some ⟨be, 0, none⟩) ce (en2.set r ((t : Int) + 1)) (some ⟨g4, 0, none⟩) cc4 (s.tr ++ [(jK js r : Int)]) As cs s.sw A6 c6 (WK.take bb ++ WK.drop (bb + 1)) := ⟨own_pastT RB.e OB gC (fun e => wt1 e.symm), own_pastT RB.t OB gC (fun e => wt1 e.symm), own_pastT RB.s OB gC (fun e => wt1 e.symm), OC, RB.et, RB.es, RB.ts⟩
                have KC := KB.row OB (.inr rfl) gC
                have BC := BB.trans bC
                clear gC bC
                refine takeHL (i := 12) 124 (.pointer (some ⟨g, 4, none⟩)) rfl rfl (by kernel_rfl) (by kernel_rfl) (by kernel_rfl) (fun _ _ _ h => h) (.inl ⟨by rfl, fun w _ => by go_simp⟩) trivial ?_
                simp only [List.set_cons_succ, List.set_cons_zero]
                refine wpAnyH_all (rs := [13]) (by kernel_rfl) (by simp) ?_
                intro j hj
                rw [List.mem_singleton] at hj
                subst hj
                refine storeOp 13 rfl (by rfl) ?_
                intro K hK
                obtain ⟨x0, x1, x2, x3, x4, x5, x6, x7⟩ := blk8 PC
                have xf := fun i => Lib.frozen_of_heap PC i
                go_simp
                refine hK _ trivial ?_
                refine wpAnyH_done (by kernel_rfl) ?_ _
                go_wp2_with fail
                go_meet
                exact ⟨A6, c6, by rw [← HT6.out]; exact heap_setCell_same vC g 4 _ _ _ PC, RC.setX PC st1 st2 4 _, (Below.heap_setCell vC ⟨g, 4, none⟩ _ (g + 1) (by simp)).trans ZC, KC.setX (by omega) (b := g) 4 _, BC.setCell (p := ⟨g, 4, none⟩) hle _⟩
            · refine makeOp 7 119 rfl (by rfl) ?_
              intro K hK
              obtain ⟨x0, x1, x2, x3, x4, x5, x6, x7⟩ := blk8 P0
              go_simp
              refine hK (.slice (some ⟨wb, 0, none⟩) lf2.length cw') _ trivial ?_
              clear x0 x1 x2 x3 x4 x5 x6 x7 hK
              simp only [List.set_cons_succ, List.set_cons_zero]
              refine takeHL (i := 10) 122 (.slice (some A2) (lf2.length - (bb + 1)) (cw' - (bb + 1))) rfl rfl (by kernel_rfl) (by kernel_rfl) (by kernel_rfl) (fun _ _ _ h => h) (.inl ⟨by rfl, fun w _ => by go_simp⟩) trivial ?_
              simp only [List.set_cons_succ, List.set_cons_zero]
              refine wpAnyH_all (rs := [0, 2]) (by kernel_rfl) (by simp) ?_
              intro j hj
              simp only [List.mem_cons, List.not_mem_nil, or_false] at hj
              rcases hj with rfl | rfl
              · refine makeOp 0 112 rfl (by rfl) ?_
                intro K hK
                go_simp
                refine hK (.slice (some ⟨v0.heap.size, 0, none⟩) 0 0) _ trivial ?_
                clear hK
                simp only [List.set_cons_succ, List.set_cons_zero]
                refine wpAnyH_all (rs := [2]) (by kernel_rfl) (by simp) ?_
                intro j hj
                rw [List.mem_singleton] at hj
                subst hj
                refine makeOp 2 114 rfl (by rfl) ?_
                intro K hK
                obtain ⟨x0, x1, x2, x3, x4, x5, x6, x7⟩ := blk8 PA
                go_simp
                refine hK (.slice (some ⟨wb, 0, none⟩) lf2.length cw') _ trivial ?_
                clear x0 x1 x2 x3 x4 x5 x6 x7 hK
                simp only [List.set_cons_succ, List.set_cons_zero]
                refine takeHL (i := 4) 116 (.slice (some ⟨wb, 0, none⟩) bb cw') rfl rfl (by kernel_rfl) (by kernel_rfl) (by kernel_rfl) (fun _ _ _ h => h) (.inl ⟨by rfl, fun w _ => by go_simp⟩) trivial ?_
                simp only [List.set_cons_succ, List.set_cons_zero]
                refine wpAnyH_all (rs := [5]) (by kernel_rfl) (by simp) ?_
                intro j hj
                rw [List.mem_singleton] at hj
                subst hj
                refine makeOp 5 117 rfl (by rfl) ?_
                intro K hK
                refine wp_app_works (.tmp 112) (.tmp 116) rfl W0.heap.size (some ⟨v0.heap.size, 0, none⟩) [] 0 0 rfl rfl OA ⟨wb, 0, none⟩ bb cw' (WK.take bb) HT1.out rfl HC1.out (by simp) HT3.out HW1.out ?_
                intro A5 c5 vB OB gB bB
                refine hK (.slice A5 (0 + bb) c5) _ trivial ?_
                simp only [List.set_cons_succ, List.set_cons_zero]
                rw [Nat.zero_add]
                clear hK
                have PB := row_same OA gB PA st2
                have ZB := row_same OA gB ZA st2
                have RB := SRows.side RA OA FA gB
                have KB := KA.row OA (.inr rfl) gB
                have BB := BA.trans bB
                have HC2 := Lib.hid (hA3.out vB (fun j u hu => World.ownsRow.cells RB.k (g := wb) rfl j u hu))
                clear gB bB
                refine wpAnyH_all (rs := [11]) (by kernel_rfl) (by simp) ?_
                intro j hj
                rw [List.mem_singleton] at hj
                subst hj
                refine makeOp 11 123 rfl (by rfl) ?_
                intro K hK
                refine wp_app_works (.tmp 117) (.tmp 122) rfl W0.heap.size A5 (WK.take bb) bb c5 HT1.out rfl OB A2 (lf2.length - (bb + 1)) (cw' - (bb + 1)) (WK.drop (bb + 1)) HT2.out rfl HC2.out HT4.out HT5.out (Nat.le_trans hW0 BB.size) ?_
                intro A6 c6 vC OC gC bC
                refine hK (.slice A6 (bb + (lf2.length - (bb + 1))) c6) _ trivial ?_
                simp only [List.set_cons_succ, List.set_cons_zero]
                clear hK
                have PC := row_same OB gC PB st2
                have ZC := row_same OB gC ZB st2
                have RC : SRows W0.heap.size vC (some ⟨be, 0, none⟩) ce (en2.set r ((t : Int) + 1)) (some ⟨g4, 0, none⟩) cc4 (s.tr ++ [(jK js r : Int)]) As cs s.sw A6 c6 (WK.take bb ++ WK.drop (bb + 1)) := ⟨own_pastT RB.e OB gC (fun e => wt1 e.symm), own_pastT RB.t OB gC (fun e => wt1 e.symm), own_pastT RB.s OB gC (fun e => wt1 e.symm), OC, RB.et, RB.es, RB.ts⟩
                have KC := KB.row OB (.inr rfl) gC
                have BC := BB.trans bC
                clear gC bC
                refine takeHL (i := 12) 124 (.pointer (some ⟨g, 4, none⟩)) rfl rfl (by kernel_rfl) (by kernel_rfl) (by kernel_rfl) (fun _ _ _ h => h) (.inl ⟨by rfl, fun w _ => by go_simp⟩) trivial ?_
                simp only [List.set_cons_succ, List.set_cons_zero]
                refine wpAnyH_all (rs := [13]) (by kernel_rfl) (by simp) ?_
                intro j hj
                rw [List.mem_singleton] at hj
                subst hj
                refine storeOp 13 rfl (by rfl) ?_
                intro K hK
                obtain ⟨x0, x1, x2, x3, x4, x5, x6, x7⟩ := blk8 PC
                have xf := fun i => Lib.frozen_of_heap PC i
                go_simp
                refine hK _ trivial ?_
                refine wpAnyH_done (by kernel_rfl) ?_ _
                go_wp2_with fail
                go_meet
                exact ⟨A6, c6, by rw [← HT6.out]; exact heap_setCell_same vC g 4 _ _ _ PC, RC.setX PC st1 st2 4 _, (Below.heap_setCell vC ⟨g, 4, none⟩ _ (g + 1) (by simp)).trans ZC, KC.setX (by omega) (b := g) 4 _, BC.setCell (p := ⟨g, 4, none⟩) hle _⟩
              · refine makeOp 2 114 rfl (by rfl) ?_
                intro K hK
                obtain ⟨x0, x1, x2, x3, x4, x5, x6, x7⟩ := blk8 P0
                go_simp
                refine hK (.slice (some ⟨wb, 0, none⟩) lf2.length cw') _ trivial ?_
                clear x0 x1 x2 x3 x4 x5 x6 x7 hK
                simp only [List.set_cons_succ, List.set_cons_zero]
                refine takeHL (i := 4) 116 (.slice (some ⟨wb, 0, none⟩) bb cw') rfl rfl (by kernel_rfl) (by kernel_rfl) (by kernel_rfl) (fun _ _ _ h => h) (.inl ⟨by rfl, fun w _ => by go_simp⟩) trivial ?_
                simp only [List.set_cons_succ, List.set_cons_zero]
                refine wpAnyH_all (rs := [0]) (by kernel_rfl) (by simp) ?_
                intro j hj
                rw [List.mem_singleton] at hj
                subst hj
                refine makeOp 0 112 rfl (by rfl) ?_
                intro K hK
                go_simp
                refine hK (.slice (some ⟨v0.heap.size, 0, none⟩) 0 0) _ trivial ?_
                clear hK
                simp only [List.set_cons_succ, List.set_cons_zero]
                refine wpAnyH_all (rs := [5]) (by kernel_rfl) (by simp) ?_
                intro j hj
                rw [List.mem_singleton] at hj
                subst hj
                refine makeOp 5 117 rfl (by rfl) ?_
                intro K hK
                refine wp_app_works (.tmp 112) (.tmp 116) rfl W0.heap.size (some ⟨v0.heap.size, 0, none⟩) [] 0 0 rfl rfl OA ⟨wb, 0, none⟩ bb cw' (WK.take bb) HT1.out rfl HC1.out (by simp) HT3.out HW1.out ?_
                intro A5 c5 vB OB gB bB
                refine hK (.slice A5 (0 + bb) c5) _ trivial ?_
                simp only [List.set_cons_succ, List.set_cons_zero]
                rw [Nat.zero_add]
                clear hK
                have PB := row_same OA gB PA st2
                have ZB := row_same OA gB ZA st2
                have RB := SRows.side RA OA FA gB
                have KB := KA.row OA (.inr rfl) gB
                have BB := BA.trans bB
                have HC2 := Lib.hid (hA3.out vB (fun j u hu => World.ownsRow.cells RB.k (g := wb) rfl j u hu))
                clear gB bB
                refine wpAnyH_all (rs := [11]) (by kernel_rfl) (by simp) ?_
                intro j hj
                rw [List.mem_singleton] at hj
                subst hj
                refine makeOp 11 123 rfl (by rfl) ?_
                intro K hK
                refine wp_app_works (.tmp 117) (.tmp 122) rfl W0.heap.size A5 (WK.take bb) bb c5 HT1.out rfl OB A2 (lf2.length - (bb + 1)) (cw' - (bb + 1)) (WK.drop (bb + 1)) HT2.out rfl HC2.out HT4.out HT5.out (Nat.le_trans hW0 BB.size) ?_
                intro A6 c6 vC OC gC bC
                refine hK (.slice A6 (bb + (lf2.length - (bb + 1))) c6) _ trivial ?_
                simp only [List.set_cons_succ, List.set_cons_zero]
                clear hK
                have PC := row_same OB gC PB st2
                have ZC := row_same OB gC ZB st2
                have RC : SRows W0.heap.size vC (some ⟨be, 0, none⟩) ce (en2.set r ((t : Int) + 1)) (some ⟨g4, 0, none⟩) cc4 (s.tr ++ [(jK js r : Int)]) As cs s.sw A6 c6 (WK.take bb ++ WK.drop (bb + 1)) := ⟨own_pastT RB.e OB gC (fun e => wt1 e.symm), own_pastT RB.t OB gC (fun e => wt1 e.symm), own_pastT RB.s OB gC (fun e => wt1 e.symm), OC, RB.et, RB.es, RB.ts⟩
                have KC := KB.row OB (.inr rfl) gC
                have BC := BB.trans bC
                clear gC bC
                refine takeHL (i := 12) 124 (.pointer (some ⟨g, 4, none⟩)) rfl rfl (by kernel_rfl) (by kernel_rfl) (by kernel_rfl) (fun _ _ _ h => h) (.inl ⟨by rfl, fun w _ => by go_simp⟩) trivial ?_
                simp only [List.set_cons_succ, List.set_cons_zero]
                refine wpAnyH_all (rs := [13]) (by kernel_rfl) (by simp) ?_
                intro j hj
                rw [List.mem_singleton] at hj
                subst hj
                refine storeOp 13 rfl (by rfl) ?_
                intro K hK
                obtain ⟨x0, x1, x2, x3, x4, x5, x6, x7⟩ := blk8 PC
                have xf := fun i => Lib.frozen_of_heap PC i
                go_simp
                refine hK _ trivial ?_
                refine wpAnyH_done (by kernel_rfl) ?_ _
                go_wp2_with fail
                go_meet
                exact ⟨A6, c6, by rw [← HT6.out]; exact heap_setCell_same vC g 4 _ _ _ PC, RC.setX PC st1 st2 4 _, (Below.heap_setCell vC ⟨g, 4, none⟩ _ (g + 1) (by simp)).trans ZC, KC.setX (by omega) (b := g) 4 _, BC.setCell (p := ⟨g, 4, none⟩) hle _⟩
          case rest =>
            obtain ⟨A6, c6, p8, R8, z8, K8, B8⟩ := hcut
            clear P0 Z0 R0 K0 B0
            obtain ⟨s0, s1, s2, s3, s4, s5, s6, s7⟩ := blk8 p8
            have sf := fun i => Lib.frozen_of_heap p8 i
            have he : endOf l js t (mdOf s) en2 lf2 s.sw r (y + 1) = (en2.set r ((t : Int) + 1), mdOf s, s.sw) := by
              unfold endOf
              rw [if_pos (by rw [hJN.out]; exact HYN.out)]
            have hm := HE0.out _ he _ (HES.out _ (by omega))
            rw [HJT.out] at hm
            dsimp only at hm
            rw [← HWE.out] at R8
            clear he
            obtain ⟨zc0, zc1, zc2, zc3, zc4, zc5, zc6, zc7⟩ := blk8 z8
            have zf := fun i => Lib.frozen_of_heap z8 i
            have HM2 := Lib.hid hm
            clear hm
            go_wp2_with fail
            have hz := state_store z8 (.slice (some ⟨be, 0, none⟩) ne ce) (.slice (some ⟨g4, 0, none⟩) (nt + 1) cc4) (.slice As ns cs) (.slice A6 (lf2.length - 1) c6) (mdOf s) mm num den
            obtain ⟨hzB, hzG⟩ := hz
            obtain ⟨y0, y1, y2, y3, y4, y5, y6, y7⟩ := blk8 hzB
            refine bodyPost_ret (v := stV (.slice (some ⟨be, 0, none⟩) ne ce) (.slice (some ⟨g4, 0, none⟩) (nt + 1) cc4) (.slice As ns cs) (.slice A6 (lf2.length - 1) c6) (mdOf s) mm num den) (by simp [results, Tryz.results32, go_sem, y0, y1, y2, y3, y4, y5, y6, y7]) rfl ?_
            -- TRACE
            rw [HM2.out]
            refine ⟨some ⟨g4, 0, none⟩, cc4, As, cs, A6, c6, mm, ?_, R8.gbX hzG z8 st1 st2, hN, K8.gbX hzG (by omega), B8.grown hzG (Nat.le_trans hW0 B8.size) (fun k hk => by cases hk; omega)⟩
            have l1 : (s.tr ++ [(jK js r : Int)]).length = nt + 1 := by simp [Hnt.out]
            (try dsimp only)
            have l2 : (en2.set r ((t : Int) + 1)).length = ne := by
              rw [List.length_set]
              have h1 := Hne.out
              have h2 := I.inv.enL
              omega
            have l3 : (lf2.take bb ++ lf2.drop (bb + 1)).length = lf2.length - 1 := by
              rw [List.length_append, List.length_take, List.length_drop]
              omega
            rw [l1, l2, l3, Hns.out]
            (try rfl)
        case neg =>
          have e1 : (y + 1 == jn) = false := by simpa using hyn
          have HYN := Lib.hid hyn
          clear hyn
          obtain ⟨tb', toff', hA', _, htc⟩ := (hTS.keep hWw7) (by omega)
          cases hA'
          obtain ⟨c0, c1, c2, c3, c4⟩ := cells_tk htc (jK js r) v3
          have heo : endOf l js t (mdOf s) en2 lf2 s.sw r (y + 1) = if !(mdOf s) && (tkAt l (jK js r)).crit && decide (y + 1 = (tkAt l (jK js r)).low) then (dropTo l js lf2 en2 lf2.length, true, s.sw ++ [(t : Int) + 1]) else (en2, mdOf s, s.sw) := by
            unfold endOf
            rw [if_neg (by rw [hJN.out]; exact HYN.out)]
          have HEO := Lib.hid heo
          clear heo htc c1 c2 c3
          have HSM : Hid (endOf l js t (mdOf s) en2 lf2 s.sw r (y + 1) = (en2, mdOf s, s.sw) → mstep l js num den pol t s = ⟨en2, s.dn.set r (y + 1), lf2, s.tr ++ [(jK js r : Int)], s.sw, mdOf s⟩) := by
            intro he
            have hm := HE0.out _ he _ HSA.out
            rw [HJT.out] at hm
            exact hm
          generalize hlo : (tkAt l (jK js r)).low = lo at c0 HEO
          generalize hcr : (tkAt l (jK js r)).crit = cr at c4 HEO
          have hle2 : en2.length = ne := by
            have h1 := Hne.out
            have h2 := I.inv.enL
            omega
          have HLE2 := Lib.hid hle2
          clear hle2 hlo hcr
          cases hmd : mdOf s with
          | true =>
            have hm := HSM.out (by rw [HEO.out, hmd]; rfl)
            rw [hmd] at s3 hm
            obtain ⟨zc0, zc1, zc2, zc3, zc4, zc5, zc6, zc7⟩ := blk8 z6
            have zf := fun i => Lib.frozen_of_heap z6 i
            have HM2 := Lib.hid hm
            clear hm
            go_wp2_with fail
            have hz := state_store z6 (.slice Ae ne ce) (.slice (some ⟨g4, 0, none⟩) (nt + 1) cc4) (.slice As ns cs) (.slice (some ⟨wb, 0, none⟩) lf2.length cw') (true) mm num den
            obtain ⟨hzB, hzG⟩ := hz
            obtain ⟨y0, y1, y2, y3, y4, y5, y6, y7⟩ := blk8 hzB
            refine bodyPost_ret (v := stV (.slice Ae ne ce) (.slice (some ⟨g4, 0, none⟩) (nt + 1) cc4) (.slice As ns cs) (.slice (some ⟨wb, 0, none⟩) lf2.length cw') (true) mm num den) (by simp [results, Tryz.results32, go_sem, y0, y1, y2, y3, y4, y5, y6, y7]) rfl ?_
            -- TRACE
            rw [HM2.out]
            refine ⟨some ⟨g4, 0, none⟩, cc4, As, cs, some ⟨wb, 0, none⟩, cw', mm, ?_, R6.gbX hzG z6 st1 st2, hN, K6.gbX hzG (by omega), B6.grown hzG (Nat.le_trans hW0 B6.size) (fun k hk => by cases hk; omega)⟩
            have l1 : (s.tr ++ [(jK js r : Int)]).length = nt + 1 := by simp [Hnt.out]
            (try dsimp only)
            rw [l1, HLE2.out, Hns.out]
            (try rfl)
          | false =>
            cases cr with
            | false =>
              have hm := HSM.out (by rw [HEO.out, hmd]; rfl)
              rw [hmd] at s3 hm
              obtain ⟨zc0, zc1, zc2, zc3, zc4, zc5, zc6, zc7⟩ := blk8 z6
              have zf := fun i => Lib.frozen_of_heap z6 i
              have HM2 := Lib.hid hm
              clear hm
              go_wp2_with fail
              have hz := state_store z6 (.slice Ae ne ce) (.slice (some ⟨g4, 0, none⟩) (nt + 1) cc4) (.slice As ns cs) (.slice (some ⟨wb, 0, none⟩) lf2.length cw') (false) mm num den
              obtain ⟨hzB, hzG⟩ := hz
              obtain ⟨y0, y1, y2, y3, y4, y5, y6, y7⟩ := blk8 hzB
              refine bodyPost_ret (v := stV (.slice Ae ne ce) (.slice (some ⟨g4, 0, none⟩) (nt + 1) cc4) (.slice As ns cs) (.slice (some ⟨wb, 0, none⟩) lf2.length cw') (false) mm num den) (by simp [results, Tryz.results32, go_sem, y0, y1, y2, y3, y4, y5, y6, y7]) rfl ?_
              -- TRACE
              rw [HM2.out]
              refine ⟨some ⟨g4, 0, none⟩, cc4, As, cs, some ⟨wb, 0, none⟩, cw', mm, ?_, R6.gbX hzG z6 st1 st2, hN, K6.gbX hzG (by omega), B6.grown hzG (Nat.le_trans hW0 B6.size) (fun k hk => by cases hk; omega)⟩
              have l1 : (s.tr ++ [(jK js r : Int)]).length = nt + 1 := by simp [Hnt.out]
              (try dsimp only)
              rw [l1, HLE2.out, Hns.out]
              (try rfl)
            | true =>
              by_cases hlo : y + 1 = lo
              case neg =>
                have e2 : (y + 1 == lo) = false := by simpa using hlo
                have hm := HSM.out (by rw [HEO.out, hmd, decide_eq_false hlo]; rfl)
                rw [hmd] at s3 hm
                clear hlo
                obtain ⟨zc0, zc1, zc2, zc3, zc4, zc5, zc6, zc7⟩ := blk8 z6
                have zf := fun i => Lib.frozen_of_heap z6 i
                have HM2 := Lib.hid hm
                clear hm
                go_wp2_with fail
                have hz := state_store z6 (.slice Ae ne ce) (.slice (some ⟨g4, 0, none⟩) (nt + 1) cc4) (.slice As ns cs) (.slice (some ⟨wb, 0, none⟩) lf2.length cw') (false) mm num den
                obtain ⟨hzB, hzG⟩ := hz
                obtain ⟨y0, y1, y2, y3, y4, y5, y6, y7⟩ := blk8 hzB
                refine bodyPost_ret (v := stV (.slice Ae ne ce) (.slice (some ⟨g4, 0, none⟩) (nt + 1) cc4) (.slice As ns cs) (.slice (some ⟨wb, 0, none⟩) lf2.length cw') (false) mm num den) (by simp [results, Tryz.results32, go_sem, y0, y1, y2, y3, y4, y5, y6, y7]) rfl ?_
                -- TRACE
                rw [HM2.out]
                refine ⟨some ⟨g4, 0, none⟩, cc4, As, cs, some ⟨wb, 0, none⟩, cw', mm, ?_, R6.gbX hzG z6 st1 st2, hN, K6.gbX hzG (by omega), B6.grown hzG (Nat.le_trans hW0 B6.size) (fun k hk => by cases hk; omega)⟩
                have l1 : (s.tr ++ [(jK js r : Int)]).length = nt + 1 := by simp [Hnt.out]
                (try dsimp only)
                rw [l1, HLE2.out, Hns.out]
                (try rfl)
              case pos =>
                have e2 : (y + 1 == lo) = true := by simpa using hlo
                have he : endOf l js t (mdOf s) en2 lf2 s.sw r (y + 1) = (dropTo l js lf2 en2 lf2.length, true, s.sw ++ [(t : Int) + 1]) := by
                  rw [HEO.out, hmd, decide_eq_true hlo]
                  rfl
                have hm := HE0.out _ he _ HSS.out
                rw [HJT.out] at hm
                dsimp only at hm
                rw [hmd] at s3
                clear he hlo
                have KS := spec_l7Switch hV V (some ⟨tb, toff, none⟩) c (some ⟨jb, joff, none⟩) d W0 hTS hJS ((t : Int) + 1) false mm (s.dn.set r (y + 1)) en2 lf2 hln hll HMEM.out hsw w7 hWw7 R6
                have l1 : (s.tr ++ [(jK js r : Int)]).length = nt + 1 := by simp [Hnt.out]
                rw [HLE2.out, l1, Hns.out] at KS
                clear l1
                go_wp2_with fail
                refine KS.mono ?_
                rintro e w9 ⟨Ax, cx, Ay, cy, rfl, R9, K9, B9⟩
                have z9 := K9.2 (g + 1) _ _ _ z6 st1 st2
                have K9 := K6.trans K9
                have B9 := B6.trans B9
                clear s0 s1 s2 s3 s4 s5 s6 s7 sf u0 u1 u2 c0 c4
                obtain ⟨zc0, zc1, zc2, zc3, zc4, zc5, zc6, zc7⟩ := blk8 z9
                have zf := fun i => Lib.frozen_of_heap z9 i
                have HM2 := Lib.hid hm
                clear hm
                go_wp2_with fail
                have hz := state_store z9 (.slice Ae ne ce) (.slice (some ⟨g4, 0, none⟩) (nt + 1) cc4) (.slice Ax (ns + 1) cx) (.slice Ay (lf2.filter (fun i => (tkAt l (jK js i)).crit)).length cy) (true) mm num den
                obtain ⟨hzB, hzG⟩ := hz
                obtain ⟨y0, y1, y2, y3, y4, y5, y6, y7⟩ := blk8 hzB
                refine bodyPost_ret (v := stV (.slice Ae ne ce) (.slice (some ⟨g4, 0, none⟩) (nt + 1) cc4) (.slice Ax (ns + 1) cx) (.slice Ay (lf2.filter (fun i => (tkAt l (jK js i)).crit)).length cy) (true) mm num den) (by simp [results, Tryz.results32, go_sem, y0, y1, y2, y3, y4, y5, y6, y7]) rfl ?_
                -- TRACE
                refine ⟨_, some ⟨g4, 0, none⟩, cc4, Ax, cx, Ay, cy, mm, HM2.out.symm, ?_, R9.gbX hzG z9 st1 st2, hN, K9.gbX hzG (by omega), B9.grown hzG (Nat.le_trans hW0 B9.size) (fun k hk => by cases hk; omega)⟩
                have l1 : (s.tr ++ [(jK js r : Int)]).length = nt + 1 := by simp [Hnt.out]
                (try dsimp only)
                have l4 : (s.sw ++ [(t : Int) + 1]).length = ns + 1 := by simp [Hns.out]
                rw [l1, drop_len, HLE2.out, l4]
                (try rfl)
      -- ROUNDZ
end Go.Proofs.YtmkjmancmiphfaaGreatDoor
