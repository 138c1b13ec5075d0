/-
  The reference's RunJobs is the machine; where it does not run.
  Numbers in decimal: the reference's.
-/
import Derived.Test.YtmkjmancmiphfaaGreatDoorRa15
import Derived.Test.YtmkjmancmiphfaaGreatDoorRa17
import Derived.Test.YtmkjmancmiphfaaGreatDoorRa01
import Derived.Lib.ItoaLen
namespace Go.Proofs.YtmkjmancmiphfaaGreatDoor
section
open Go.RowKit

theorem polIn {l : List Tk} {js : List Jb} (h : jobsV l js = true) (pol : Int) : JobsIn l js (polN l pol) (polD l pol) := by
  have V := jobsIn_of h
  unfold polN polD
  split
  · exact ⟨V.v, V.job, by decide, by decide, by decide, by decide⟩
  · exact V
theorem mrun_pol (l : List Tk) (js : List Jb) (pol : Int) (hp : pol = 0 ∨ pol = 1) (t : Nat) : mrun l js (polN l pol) (polD l pol) pol t = mrun l js (facN l) (facD l) pol t := by
  rcases hp with rfl | rfl
  · exact mrun0 ..
  · rfl
/-- Whether jobs are run. -/
def runB (l : List Tk) (js : List Jb) (pol tk : Int) : Bool := jobsV l js && polB l pol && decide (0 ≤ tk) && decide (tk ≤ 200)
abbrev runZ : Value := .agg #[.slice none 0 0, .slice none 0 0, .slice none 0 0, .bool false]
abbrev runC (e t s : Value) (hi : Bool) : Obj := .cells #[e, t, s, .bool hi] RT (0, 0)
theorem blk4r {w : World} {b : Nat} {v0 v1 v2 v3 : Value} {t : TypeId} (h : w.heap[b]? = some (.cells #[v0, v1, v2, v3] t (0, 0))) :
    w.cell? ⟨b, 0, none⟩ = some v0 ∧ w.cell? ⟨b, 1, none⟩ = some v1 ∧ w.cell? ⟨b, 2, none⟩ = some v2 ∧ w.cell? ⟨b, 3, none⟩ = some v3 := by
  refine ⟨?_, ?_, ?_, ?_⟩ <;> (rw [Lib.cell_of_heap h]; rfl)
theorem run_store {v : World} {r : Nat} {x0 x1 x2 x3 : Value} (h : v.heap[r]? = some (.cells #[x0, x1, x2, x3] RT (0, 0))) (e t s : Value) (hi : Bool) :
    ((((v.setCell ⟨r, 0, none⟩ e).setCell ⟨r, 1, none⟩ t).setCell ⟨r, 2, none⟩ s).setCell ⟨r, 3, none⟩ (.bool hi)).heap[r]? = some (runC e t s hi) ∧
      v.grownBy ((((v.setCell ⟨r, 0, none⟩ e).setCell ⟨r, 1, none⟩ t).setCell ⟨r, 2, none⟩ s).setCell ⟨r, 3, none⟩ (.bool hi)) (some r) := by
  have h1 : (v.setCell ⟨r, 0, none⟩ e).heap[r]? = some (.cells #[e, x1, x2, x3] RT (0, 0)) := heap_setCell_same v r 0 _ _ e h
  have g1 := oi_gb_cell v r 0 e
  generalize v.setCell ⟨r, 0, none⟩ e = v1 at h1 g1 ⊢
  have h2 : (v1.setCell ⟨r, 1, none⟩ t).heap[r]? = some (.cells #[e, t, x2, x3] RT (0, 0)) := heap_setCell_same v1 r 1 _ _ t h1
  have g2 := oi_gb_cell v1 r 1 t
  generalize v1.setCell ⟨r, 1, none⟩ t = v2 at h2 g2 ⊢
  have h3 : (v2.setCell ⟨r, 2, none⟩ s).heap[r]? = some (.cells #[e, t, s, x3] RT (0, 0)) := heap_setCell_same v2 r 2 _ _ s h2
  have g3 := oi_gb_cell v2 r 2 s
  generalize v2.setCell ⟨r, 2, none⟩ s = v3 at h3 g3 ⊢
  have h4 : (v3.setCell ⟨r, 3, none⟩ (.bool hi)).heap[r]? = some (.cells #[e, t, s, .bool hi] RT (0, 0)) := heap_setCell_same v3 r 3 _ _ (.bool hi) h3
  exact ⟨h4, gb_trans (gb_trans (gb_trans g1 g2) g3) (oi_gb_cell v3 r 3 (.bool hi))⟩
set_option maxHeartbeats 4000000 in
set_option maxRecDepth 100000 in
theorem spec_RunJobs_no {l : List Tk} {js : List Jb} (pol tk : Int) (hno : runB l js pol tk = false) (A : Option Addr) (c : Nat) (B : Option Addr) (d : Nat) (w : World) (h : TS w A l) (g : JS w B js) (hlm : l.length ≤ maxLen) (hjm : js.length ≤ maxLen) :
    Calls Tryz.prog 9 #[.slice A l.length c, .slice B js.length d, .int .i64 pol, .int .i64 tk] w fun e w' => e = .returned (.tuple #[runZ, .bool false]) ∧ Below w.heap.size w w' := by
  have hno : jobsV l js = false ∨ (jobsV l js = true ∧ polB l pol = false) ∨ (jobsV l js = true ∧ polB l pol = true ∧ tk < 0) ∨ (jobsV l js = true ∧ polB l pol = true ∧ 0 ≤ tk ∧ 200 < tk) := by
    by_cases a1 : jobsV l js = true
    · by_cases a2 : polB l pol = true
      · by_cases a3 : 0 ≤ tk
        · by_cases a4 : tk ≤ 200
          · simp [runB, a1, a2, a3, a4] at hno
          · exact .inr (.inr (.inr ⟨a1, a2, a3, by omega⟩))
        · exact .inr (.inr (.inl ⟨a1, a2, by omega⟩))
      · exact .inr (.inl ⟨a1, by simpa using a2⟩)
    · exact .inl (by simpa using a1)
  go_enter Tryz.func9, Tryz.ntmps9
  go_wp2_with fail
  refine (spec_l7Policy A l c pol _ (h.keep (bal (Below.refl _ _) _)) hlm).mono ?_
  rintro e w1 ⟨rfl, b1⟩
  have r1 := (b1.block _ (by simp)).trans (heap_alloc_new w (runC (.slice none 0 0) (.slice none 0 0) (.slice none 0 0) false))
  have B1 := bthru (bal (Below.refl w.heap.size w) _) b1
  generalize polN l pol = num
  generalize polD l pol = den
  have r2 := (Below.heap_alloc w1 (.cells #[.int .i64 num, .int .i64 den] 54) _ (Array.getElem?_eq_some_iff.1 r1).1).trans r1
  have B2 := bal B1 (.cells #[.int .i64 num, .int .i64 den] 54)
  clear r1 B1 b1
  go_upto_region 2 with fail
  generalize World.alloc w1 _ = w2 at r2 B2 ⊢
  go_wp2_with fail
  refine (spec_JobsValid A l c B js d _ (h.keep B2) (g.keep B2) hlm hjm).mono ?_
  rintro e w3 ⟨rfl, b3⟩
  have r3 := (b3.block _ (Array.getElem?_eq_some_iff.1 r2).1).trans r2
  have B3 := bthru B2 b3
  clear r2 B2 b3
  obtain ⟨s0, s1, s2, s3⟩ := blk4r r3
  have sf := fun i => Lib.frozen_of_heap r3 i
  have hz := run_store r3 (.slice none 0 0) (.slice none 0 0) (.slice none 0 0) false
  obtain ⟨hzB, hzG⟩ := hz
  obtain ⟨y0, y1, y2, y3⟩ := blk4r hzB
  have HB : Below w.heap.size w _ := B3.grown hzG B3.size (fun k hk => by cases hk; exact Nat.le_refl _)
  clear hzB hzG r3
  rcases hno with e0 | ⟨e0, e1⟩ | ⟨e0, e1, e2⟩ | ⟨e0, e1, e2, e3⟩
  · rw [e0]
    go_wp2_with fail
    exact bodyPost_ret (v := .tuple #[runZ, .bool false]) (by simp [results, Tryz.results9, go_sem, y0, y1, y2, y3]) rfl ⟨rfl, HB⟩
  · rw [e0, e1]
    go_wp2_with fail
    exact bodyPost_ret (v := .tuple #[runZ, .bool false]) (by simp [results, Tryz.results9, go_sem, y0, y1, y2, y3]) rfl ⟨rfl, HB⟩
  · rw [e0, e1]
    have e4 : decide (tk < 0) = true := decide_eq_true e2
    go_wp2_with fail
    exact bodyPost_ret (v := .tuple #[runZ, .bool false]) (by simp [results, Tryz.results9, go_sem, y0, y1, y2, y3]) rfl ⟨rfl, HB⟩
  · rw [e0, e1]
    have e4 : decide (tk < 0) = false := decide_eq_false (by omega)
    have e5 : decide (200 < tk) = true := decide_eq_true e3
    go_wp2_with fail
    exact bodyPost_ret (v := .tuple #[runZ, .bool false]) (by simp [results, Tryz.results9, go_sem, y0, y1, y2, y3]) rfl ⟨rfl, HB⟩
theorem rt6 : RT ≠ WT := by decide
set_option maxHeartbeats 4000000 in
set_option maxRecDepth 100000 in
theorem spec_RunJobs_yes {l : List Tk} {js : List Jb} (hV : jobsV l js = true) (pol : Int) (hp : pol = 0 ∨ pol = 1) (hf : pol = 1 → facB l = true) (tk : Nat) (htk : tk ≤ 200) (A : Option Addr) (c : Nat) (B : Option Addr) (d : Nat) (w : World) (h : TS w A l) (g : JS w B js) (hlm : l.length ≤ maxLen) (hjm : js.length ≤ maxLen) :
    Calls Tryz.prog 9 #[.slice A l.length c, .slice B js.length d, .int .i64 pol, .int .i64 (tk : Int)] w fun e w' => ∃ Ae ce At ct As cs, e = .returned (.tuple #[.agg #[.slice Ae (mrun l js (facN l) (facD l) pol tk).en.length ce, .slice At (mrun l js (facN l) (facD l) pol tk).tr.length ct, .slice As (mrun l js (facN l) (facD l) pol tk).sw.length cs, .bool (mrun l js (facN l) (facD l) pol tk).hi], .bool true]) ∧
      OI w.heap.size w' Ae ce (mrun l js (facN l) (facD l) pol tk).en ∧ OI w.heap.size w' At ct (mrun l js (facN l) (facD l) pol tk).tr ∧ OI w.heap.size w' As cs (mrun l js (facN l) (facD l) pol tk).sw ∧ Below w.heap.size w w' := by
  have hPB : polB l pol = true := by
    unfold polB
    rcases hp with rfl | rfl
    · rfl
    · simp [hf rfl]
  have V := polIn hV pol
  have HM := fun t => mrun_pol l js pol hp t
  have h60 : js.length ≤ 60 := by
    simp only [jobsV, Bool.and_eq_true, decide_eq_true_eq] at hV
    exact hV.1.2
  have q0 : decide ((tk : Int) < 0) = false := decide_eq_false (by omega)
  have q1 : decide (200 < (tk : Int)) = false := decide_eq_false (by omega)
  go_enter Tryz.func9, Tryz.ntmps9
  go_wp2_with fail
  refine (spec_l7Policy A l c pol _ (h.keep (bal (Below.refl _ _) _)) hlm).mono ?_
  rw [hPB]
  rintro e w1 ⟨rfl, b1⟩
  have r1 := (b1.block _ (by simp)).trans (heap_alloc_new w (runC (.slice none 0 0) (.slice none 0 0) (.slice none 0 0) false))
  have B1 := bthru (bal (Below.refl w.heap.size w) _) b1
  generalize polN l pol = num at V HM ⊢
  generalize polD l pol = den at V HM ⊢
  have HM := Lib.hid HM
  have r2 := (Below.heap_alloc w1 (.cells #[.int .i64 num, .int .i64 den] 54) _ (Array.getElem?_eq_some_iff.1 r1).1).trans r1
  have x2 := heap_alloc_new w1 (.cells #[.int .i64 num, .int .i64 den] 54 (0, 0))
  have B2 := bal B1 (.cells #[.int .i64 num, .int .i64 den] 54)
  clear r1 B1 b1
  go_upto_region 2 with fail
  obtain ⟨gx, hgx⟩ : ∃ gx, w1.heap.size = gx := ⟨_, rfl⟩
  rw [hgx] at x2 ⊢
  generalize World.alloc w1 _ = w2 at r2 x2 B2 ⊢
  clear hgx
  go_wp2_with fail
  refine (spec_JobsValid A l c B js d _ (h.keep B2) (g.keep B2) hlm hjm).mono ?_
  rw [hV]
  rintro e w3 ⟨rfl, b3⟩
  have r3 := (b3.block _ (Array.getElem?_eq_some_iff.1 r2).1).trans r2
  have x3 := (b3.block _ (Array.getElem?_eq_some_iff.1 x2).1).trans x2
  have B3 := bthru B2 b3
  clear r2 x2 B2 b3
  obtain ⟨s0, s1, xf⟩ := blk_two x3
  have r4 := (Below.heap_alloc w3 (stC (.slice none 0 0) (.slice none 0 0) (.slice none 0 0) (.slice none 0 0) false 0 num den) _ (Array.getElem?_eq_some_iff.1 r3).1).trans r3
  have p4 := heap_alloc_new w3 (stC (.slice none 0 0) (.slice none 0 0) (.slice none 0 0) (.slice none 0 0) false 0 num den)
  have B4 := bal B3 (stC (.slice none 0 0) (.slice none 0 0) (.slice none 0 0) (.slice none 0 0) false 0 num den)
  have hgs : w.heap.size < w3.heap.size := (Array.getElem?_eq_some_iff.1 r3).1
  go_upto_region 5 with fail
  obtain ⟨gs, hgsE⟩ : ∃ gs, w3.heap.size = gs := ⟨_, rfl⟩
  rw [hgsE] at p4 hgs ⊢
  generalize World.alloc w3 _ = w4 at r4 p4 B4 ⊢
  clear s0 s1 xf r3 x3 B3 hgsE
  go_wp2_with fail
  go_loopg [13] js.length (fun gg iv wr => ∃ (k : Nat) (Ae : Option Addr) (ce : Nat), gg + k = js.length ∧ iv = .int .i64 (k : Int) ∧ wr.heap[gs]? = some (stC (.slice Ae k ce) (.slice none 0 0) (.slice none 0 0) (.slice none 0 0) false 0 num den) ∧ wr.heap[w.heap.size]? = some (runC (.slice none 0 0) (.slice none 0 0) (.slice none 0 0) false) ∧ OI w.heap.size wr Ae ce (List.replicate k (-1)) ∧ Below w.heap.size w wr)
  case atStart => exact ⟨0, none, 0, by omega, rfl, p4, r4, OI_nil _ _, B4⟩
  case round =>
    clear p4 r4 B4
    obtain ⟨k, Ae, ce, hgk, rfl, p4, r4, hE, B4⟩ := hrel
    obtain ⟨s0, s1, s2, s3, s4, s5, s6, s7⟩ := blk8 p4
    have sf := fun i => Lib.frozen_of_heap p4 i
    by_cases hkl : k < js.length
    case pos =>
      have e0 : decide ((k : Int) < (js.length : Int)) = true := decide_eq_true (by omega)
      have hA := heap_alloc_new wr (.cells #[.int .i64 (-1)] 3 (0, 0))
      have bA := bal (Below.refl wr.heap.size wr) (.cells #[.int .i64 (-1)] 3)
      have hE2 := OI_keep hE bA
      have B5 := B4.trans (bA.mono B4.size)
      have HP1 := Lib.hid ((bA.block _ (Array.getElem?_eq_some_iff.1 p4).1).trans p4)
      have HP2 := Lib.hid ((bA.block _ (Array.getElem?_eq_some_iff.1 r4).1).trans r4)
      have HK : Hid ((List.replicate k (-1 : Int)).length = k) := by simp [Hid]
      have HK2 : Hid (List.replicate k (-1 : Int) ++ [-1] = List.replicate (k + 1) (-1)) := by rw [Hid, List.replicate_succ']
      clear bA
      go_wp2_with (at_builtin; refine wpList_app_intO _ rfl _ _ rfl w.heap.size Ae (List.replicate k (-1)) k ce HK.out ?a1 ?a2 wr.heap.size 1 (-1) 3 ?a3 ?a4 ?a5 ?a6 _ rfl ?_; (case a1 => exact rfl); (case a2 => exact hE2); (case a3 => exact rfl); (case a4 => exact hA); (case a5 => rw [HK.out]; omega); (case a6 => have := B4.size; simp; omega); intro g4 cc4 w5 o4 gb4 hat4 b4; rw [bk_eq] at gb4 hat4; have qq := row_same hE2 gb4 HP1.out st1; obtain ⟨y0, y1, y2, y3, y4, y5, y6, y7⟩ := blk8 qq; have yf := fun i => Lib.frozen_of_heap qq i)
      have r5 := row_same hE2 gb4 HP2.out (show RT ≠ 3 by decide)
      rw [HK2.out] at o4
      go_roundg (gk - 1)
      case measure => omega
      case rel => exact ⟨k + 1, some ⟨g4, 0, none⟩, cc4, by omega, by go_num, heap_setCell_same w5 gs 0 _ _ _ qq, (Below.heap_setCell w5 ⟨gs, 0, none⟩ _ w.heap.size (by simp; omega)).trans r5, own_only o4 (oi_gb_cell w5 gs 0 _) qq (fun e => st1 e.symm), (B5.trans b4).setCell (p := ⟨gs, 0, none⟩) (Nat.le_of_lt hgs) _⟩
    case neg =>
      obtain rfl : k = js.length := by omega
      have e0 : decide ((js.length : Int) < (js.length : Int)) = false := decide_eq_false (by omega)
      have SR : SRows w.heap.size wr Ae ce (mrun l js num den pol 0).en none 0 (mrun l js num den pol 0).tr none 0 (mrun l js num den pol 0).sw none 0 (wkOf (mrun l js num den pol 0).dn (mrun l js num den pol 0).lf) :=
        ⟨hE, OI_nil _ _, OI_nil _ _, OW_nil _ _, (far_none _).symm, (far_none _).symm, far_none _⟩
      have I0 := sinv0 (num := num) (den := den) (pol := pol) hV
      have p5 : wr.heap[gs]? = some (stC (.slice Ae (mrun l js num den pol 0).en.length ce) (.slice none (mrun l js num den pol 0).tr.length 0) (.slice none (mrun l js num den pol 0).sw.length 0) (.slice none (mrun l js num den pol 0).lf.length 0) (mrun l js num den pol 0).hi (0 : Nat) num den) := by
        rw [p4]
        simp [mrun, stC]
      clear s0 s1 s2 s3 s4 s5 s6 s7 sf p4 hE
      go_wp2_with fail
      go_loopg [14] tk (fun gg iv wr => ∃ (t nx : Nat) (s : Mc) (Ae : Option Addr) (ce : Nat) (At : Option Addr) (ct : Nat) (As : Option Addr) (cs : Nat) (Aw : Option Addr) (cw : Nat), gg + t = tk ∧ iv = .int .i64 (t : Int) ∧ Hid (mrun l js num den pol t = s) ∧ SInv l js t s nx ∧ wr.heap[gs]? = some (stC (.slice Ae s.en.length ce) (.slice At s.tr.length ct) (.slice As s.sw.length cs) (.slice Aw s.lf.length cw) s.hi nx num den) ∧ wr.heap[w.heap.size]? = some (runC (.slice none 0 0) (.slice none 0 0) (.slice none 0 0) false) ∧ SRows w.heap.size wr Ae ce s.en At ct s.tr As cs s.sw Aw cw (wkOf s.dn s.lf) ∧ Below w.heap.size w wr)
      case atStart => exact ⟨0, 0, _, Ae, ce, none, 0, none, 0, none, 0, by omega, rfl, rfl, I0, p5, r4, SR, B4⟩
      case round =>
        clear p5 r4 SR B4 I0
        obtain ⟨t, nx, s, Ae, ce, At, ct, As, cs, Aw, cw, hgk, rfl, hs, I, p4, r4, SR, B4⟩ := hrel
        obtain ⟨s0, s1, s2, s3, s4, s5, s6, s7⟩ := blk8 p4
        have sf := fun i => Lib.frozen_of_heap p4 i
        by_cases htl : t < tk
        case pos =>
          have e0 : decide ((t : Int) < (tk : Int)) = true := decide_eq_true (by omega)
          have hlen := mrun_len (l := l) (num := num) (den := den) (pol := pol) h60 t
          rw [hs.out] at hlen
          obtain ⟨n1, n2, n3⟩ := hlen
          have KT := spec_l7Tick hV V hp A c B d w h g t (by omega) s nx I (by omega) (by omega) (by omega) wr B4 SR
          clear n1 n2 n3
          go_wp2_with fail
          refine KT.mono ?_
          rintro e w5 ⟨s', At', ct', As', cs', Aw', cw', nx', hs', rfl, R5, N5, K5, B5⟩
          have p5 := K5.2 gs _ _ _ p4 st1 st2
          have r5 := K5.2 w.heap.size _ _ _ r4 (by decide) rt6
          have I5 := SInv.step (num := num) (den := den) (pol := pol) hV I N5
          rw [← hs'] at I5
          have HS5 : Hid (mrun l js num den pol (t + 1) = s') := by
            rw [Hid, hs', ← hs.out]
            rfl
          have BB := B4.trans B5
          clear hs' s0 s1 s2 s3 s4 s5 s6 s7 sf
          obtain ⟨z0, z1, z2, z3, z4, z5, z6, z7⟩ := blk8 p5
          have zf := fun i => Lib.frozen_of_heap p5 i
          go_wp2_with fail
          have hz := state_store p5 (.slice Ae s'.en.length ce) (.slice At' s'.tr.length ct') (.slice As' s'.sw.length cs') (.slice Aw' s'.lf.length cw') s'.hi nx' num den
          obtain ⟨hzB, hzG⟩ := hz
          go_roundg (gk - 1)
          case measure => omega
          case rel => exact ⟨t + 1, nx', s', Ae, ce, At', ct', As', cs', Aw', cw', by omega, by go_num, HS5, I5, hzB, (hzG.block w.heap.size (Array.getElem?_eq_some_iff.1 r5).1 (by simp; omega)).trans r5, R5.gbX hzG p5 st1 st2, BB.grown hzG BB.size (fun k hk => by cases hk; omega)⟩
        case neg =>
          obtain rfl : t = tk := by omega
          have e0 : decide ((t : Int) < (t : Int)) = false := decide_eq_false (by omega)
          obtain ⟨u0, u1, u2, u3⟩ := blk4r r4
          have uf := fun i => Lib.frozen_of_heap r4 i
          go_wp2_with fail
          have hz := run_store r4 (.slice Ae s.en.length ce) (.slice At s.tr.length ct) (.slice As s.sw.length cs) s.hi
          obtain ⟨hzB, hzG⟩ := hz
          obtain ⟨y0, y1, y2, y3⟩ := blk4r hzB
          refine bodyPost_ret (v := .tuple #[.agg #[.slice Ae s.en.length ce, .slice At s.tr.length ct, .slice As s.sw.length cs, .bool s.hi], .bool true]) (by simp [results, Tryz.results9, go_sem, y0, y1, y2, y3]) rfl ?_
          rw [← HM.out, hs.out]
          exact ⟨Ae, ce, At, ct, As, cs, rfl, own_only SR.e hzG r4 (by decide), own_only SR.t hzG r4 (by decide), own_only SR.s hzG r4 (by decide), B4.grown hzG B4.size (fun k hk => by cases hk; exact Nat.le_refl _)⟩
end

section
open Go.RowKit

def num (n : Int) : List UInt8 := Lib.decDigits n.toNat
theorem dec_small (n : Nat) (h : n < 10) : Lib.decDigits n = [UInt8.ofNat (48 + n)] := by
  unfold Lib.decDigits
  rw [dif_pos h]
theorem dec_big (n : Nat) (h : ¬ n < 10) : Lib.decDigits n = Lib.decDigits (n / 10) ++ [UInt8.ofNat (48 + n % 10)] := by
  conv => lhs; unfold Lib.decDigits
  rw [dif_neg h]

/-- A string of one byte, laid by the call. -/
theorem conv_one (w : World) (v : Int) (n : Nat) (hv : v = (n : Int)) (hn : n < 256) :
    (convert 22 9 (.slice (some ⟨w.heap.size, 0, none⟩) 1 1)).run Tryz.prog (w.alloc (.cells #[.int .u8 v] 5)) = .ok (.string ⟨[UInt8.ofNat n].toArray⟩) (w.alloc (.cells #[.int .u8 v] 5)) := by
  subst hv
  refine run_convert_bytes_back _ 22 9 5 _ 1 [UInt8.ofNat n] Tryz.underlying22 Tryz.underlying5 Tryz.underlying9 ?_
  intro j hj
  obtain rfl : j = 0 := by simpa using hj
  have e : ((⟨w.heap.size, 0, none⟩ : Addr).add 0) = ⟨w.heap.size, 0, none⟩ := by unfold Addr.add; split <;> simp_all
  rw [e, World.cell?_alloc_mark]
  have : (UInt8.ofNat n).toNat = n := by rw [UInt8.toNat_ofNat']; omega
  simp [this]
theorem mk_app (x y : List UInt8) : (ByteArray.mk x.toArray ++ ByteArray.mk y.toArray) = ByteArray.mk (x ++ y).toArray := ByteArray.mk_append_mk x y
end
end Go.Proofs.YtmkjmancmiphfaaGreatDoor
