/-
  The program's RunJobs where nothing is run; RunSame of equal runs; FormatTrace, numbers, DroppedOf.
  The worst jobs: the program's.
-/
import Derived.Test.YtmkjmancmiphfaaGreatDoorRa10
import Derived.Test.YtmkjmancmiphfaaGreatDoorRa18
import Derived.Test.YtmkjmancmiphfaaGreatDoorRa20
import Derived.Test.YtmkjmancmiphfaaGreatDoorRa02
import Derived.Test.YtmkjmancmiphfaaGreatDoorRa03
import Derived.Deep.CutBlock
import Derived.Deep.LoopGhost
namespace Go.Proofs.YtmkjmancmiphfaaGreatDoor
section
open Go.RowKit

set_option maxHeartbeats 4000000 in
set_option maxRecDepth 100000 in
theorem impl_RunJobs_no {l : List Tk} {js : List Jb} (pol tk : Int) (hno : runB l js pol tk = false) (A : Option Addr) (c : Nat) (B : Option Addr) (d : Nat) (w : World) (h : TS w A l) (g : JS w B js) (hlm : l.length ≤ maxLen) (hjd : js.length ≤ d) (hjm : js.length ≤ maxLen) :
    Calls Tryz.prog 8 #[.slice A l.length c, .slice B js.length d, .int .i64 pol, .int .i64 tk] w fun e w' => e = .returned (.tuple #[runZ, .bool false]) ∧ Below w.heap.size w w' := by
  have hno : jobsV l js = false ∨ (jobsV l js = true ∧ pol ≠ 0 ∧ pol ≠ 1) ∨ (jobsV l js = true ∧ (pol = 0 ∨ pol = 1) ∧ tk < 0) ∨ (jobsV l js = true ∧ (pol = 0 ∨ pol = 1) ∧ 0 ≤ tk ∧ 200 < tk) ∨ (jobsV l js = true ∧ pol = 1 ∧ facB l = false ∧ 0 ≤ tk ∧ tk ≤ 200) := by
    by_cases a1 : jobsV l js = true
    · by_cases a2 : pol = 0 ∨ pol = 1
      · by_cases a3 : 0 ≤ tk
        · by_cases a4 : tk ≤ 200
          · rcases a2 with rfl | rfl
            · simp [runB, polB, a1, a3, a4] at hno
            · refine .inr (.inr (.inr (.inr ⟨a1, rfl, ?_, a3, a4⟩)))
              cases hb : facB l with
              | false => rfl
              | true => simp [runB, polB, a1, a3, a4, hb] at hno
          · exact .inr (.inr (.inr (.inl ⟨a1, a2, a3, by omega⟩)))
        · exact .inr (.inr (.inl ⟨a1, a2, by omega⟩))
      · exact .inr (.inl ⟨a1, by omega, by omega⟩)
    · exact .inl (by simpa using a1)
  go_enter Tryz.func8, Tryz.ntmps8
  go_wp2_with fail
  have H4 := heap4 w (.cells #[.slice A l.length c] 23 (0, 0)) (.cells #[.slice B js.length d] 24 (0, 0)) (.cells #[.int .i64 pol] 3 (0, 0)) (.cells #[.slice none 0 0, .slice none 0 0, .slice none 0 0, .bool false] RT (0, 0))
  have Bz := bal (bal (bal (bal (Below.refl w.heap.size w) (.cells #[.slice A l.length c] 23 (0, 0))) (.cells #[.slice B js.length d] 24 (0, 0))) (.cells #[.int .i64 pol] 3 (0, 0))) (.cells #[.slice none 0 0, .slice none 0 0, .slice none 0 0, .bool false] RT (0, 0))
  generalize World.alloc (World.alloc (World.alloc (World.alloc w _) _) _) _ = wz at H4 Bz ⊢
  obtain ⟨n, hn⟩ : ∃ n, w.heap.size = n := ⟨_, rfl⟩
  have hnn := Lib.hid hn
  rw [hn] at H4 ⊢
  obtain ⟨zL, zJ, zP, zQ⟩ := H4
  refine (impl_FactorOf A l c wz (h.keep Bz) hlm).mono ?_
  rw [facV_eq]
  rintro e w1 ⟨rfl, b1⟩
  have b1a := bal b1 (.cells #[.int .i64 (facN l), .int .i64 (facD l)] 54 (0, 0))
  have zL1 := (b1a.block _ (Array.getElem?_eq_some_iff.1 zL).1).trans zL
  have zJ1 := (b1a.block _ (Array.getElem?_eq_some_iff.1 zJ).1).trans zJ
  have zP1 := (b1a.block _ (Array.getElem?_eq_some_iff.1 zP).1).trans zP
  have zQ1 := (b1a.block _ (Array.getElem?_eq_some_iff.1 zQ).1).trans zQ
  have B1 := bthru Bz b1a
  clear zL zJ zP zQ Bz b1 b1a
  generalize facN l = num at *
  generalize facD l = den at *
  go_upto_region 2 with fail
  generalize World.alloc w1 _ = w2 at zL1 zJ1 zP1 zQ1 B1 ⊢
  have cL := box_cell zL1
  have cJ := box_cell zJ1
  have cP := box_cell zP1
  go_wp2_with fail
  refine (impl_JobsValid A l c B js d _ (h.keep B1) (g.keep B1) hjd hjm).mono ?_
  rintro e w3 ⟨rfl, b3⟩
  have zP3 := (b3.block _ (Array.getElem?_eq_some_iff.1 zP1).1).trans zP1
  have zQ3 := (b3.block _ (Array.getElem?_eq_some_iff.1 zQ1).1).trans zQ1
  have B3 := bthru B1 b3
  clear zL1 zJ1 zP1 zQ1 B1 b3 cL cJ cP
  have cP := box_cell zP3
  have sf := fun i => Lib.frozen_of_heap zQ3 i
  obtain ⟨u0, u1, u2, u3⟩ := blk4r zQ3
  have hz := run_store zQ3 (.slice none 0 0) (.slice none 0 0) (.slice none 0 0) false
  obtain ⟨hzB, hzG⟩ := hz
  obtain ⟨y0, y1, y2, y3⟩ := blk4r hzB
  have HB : Below w.heap.size w _ := B3.grown hzG B3.size (fun k hk => by have := hnn.out; cases hk; omega)
  clear hzB hzG zQ3 zP3
  rcases hno with e0 | ⟨e0, e1, e2⟩ | ⟨e0, e1, e2⟩ | ⟨e0, e1, e2, e3⟩ | ⟨e0, e1, e2, e3, e4⟩
  · rw [e0]
    go_wp2_with fail
    exact bodyPost_ret (v := .tuple #[runZ, .bool false]) (by simp [results, Tryz.results8, go_sem, y0, y1, y2, y3]) rfl ⟨rfl, HB⟩
  · rw [e0]
    have d1 : (pol != 0) = true := by simpa using e1
    have d2 : (pol != 1) = true := by simpa using e2
    go_wp2_with fail
    exact bodyPost_ret (v := .tuple #[runZ, .bool false]) (by simp [results, Tryz.results8, go_sem, y0, y1, y2, y3]) rfl ⟨rfl, HB⟩
  · rw [e0]
    have d3 : decide (tk < 0) = true := decide_eq_true e2
    rcases e1 with rfl | rfl
    · go_wp2_with fail
      exact bodyPost_ret (v := .tuple #[runZ, .bool false]) (by simp [results, Tryz.results8, go_sem, y0, y1, y2, y3]) rfl ⟨rfl, HB⟩
    · go_wp2_with fail
      exact bodyPost_ret (v := .tuple #[runZ, .bool false]) (by simp [results, Tryz.results8, go_sem, y0, y1, y2, y3]) rfl ⟨rfl, HB⟩
  · rw [e0]
    have d3 : decide (tk < 0) = false := decide_eq_false (by omega)
    have d4 : decide (200 < tk) = true := decide_eq_true e3
    rcases e1 with rfl | rfl
    · go_wp2_with fail
      exact bodyPost_ret (v := .tuple #[runZ, .bool false]) (by simp [results, Tryz.results8, go_sem, y0, y1, y2, y3]) rfl ⟨rfl, HB⟩
    · go_wp2_with fail
      exact bodyPost_ret (v := .tuple #[runZ, .bool false]) (by simp [results, Tryz.results8, go_sem, y0, y1, y2, y3]) rfl ⟨rfl, HB⟩
  · subst e1
    rw [e0, e2]
    have d3 : decide (tk < 0) = false := decide_eq_false (by omega)
    have d4 : decide (200 < tk) = false := decide_eq_false (by omega)
    go_wp2_with fail
    exact bodyPost_ret (v := .tuple #[runZ, .bool false]) (by simp [results, Tryz.results8, go_sem, y0, y1, y2, y3]) rfl ⟨rfl, HB⟩
theorem slices_same (E1 E2 : Option Addr) (xs : List Int) (c d : Nat) (w : World) (h1 : IS w E1 xs) (h2 : IS w E2 xs) (hm : xs.length ≤ maxLen) :
    Calls Tryz.prog 33 #[.slice E1 xs.length c, .slice E2 xs.length d] w fun e w' => e = .returned (.bool true) ∧ Below w.heap.size w w' := by
  unfold maxLen at hm
  rcases Nat.eq_zero_or_pos xs.length with h0 | h0
  · rw [h0]
    refine (Tryz.slices_Equal_int_empty E1 E2 c 0 d w (by omega)).mono ?_
    rintro e w' ⟨rfl, rfl⟩
    exact ⟨rfl, Below.refl _ _⟩
  · obtain ⟨b1, o1, rfl, _, q1⟩ := h1 h0
    obtain ⟨b2, o2, rfl, _, q2⟩ := h2 h0
    refine (Tryz.slices_Equal_int b1 o1 xs.length c b2 o2 xs.length d xs xs w (Nat.le_refl _) (Nat.le_refl _) (by omega) (by omega) (fun j hj => q1 j _ (by simp [hj])) (fun j hj => q2 j _ (by simp [hj]))).mono ?_
    rintro e w' ⟨rfl, q, rfl⟩
    exact ⟨by simp, below_drewN (Below.refl _ _) q⟩
set_option maxHeartbeats 4000000 in
set_option maxRecDepth 100000 in
theorem impl_RunSame (E1 E2 T1 T2 S1 S2 : Option Addr) (c1 c2 d1 d2 f1 f2 : Nat) (en tr sw : List Int) (hi : Bool) (w : World) (e1 : IS w E1 en) (e2 : IS w E2 en) (t1 : IS w T1 tr) (t2 : IS w T2 tr) (s1 : IS w S1 sw) (s2 : IS w S2 sw) (he : en.length ≤ 100000) (ht : tr.length ≤ 100000) (hs : sw.length ≤ 100000) :
    Calls Tryz.prog 10 #[.agg #[.slice E1 en.length c1, .slice T1 tr.length d1, .slice S1 sw.length f1, .bool hi], .agg #[.slice E2 en.length c2, .slice T2 tr.length d2, .slice S2 sw.length f2, .bool hi]] w fun e w' => e = .returned (.bool true) ∧ Below w.heap.size w w' := by
  have hA := (Below.heap_alloc (w.alloc (runC (.slice E1 en.length c1) (.slice T1 tr.length d1) (.slice S1 sw.length f1) hi)) (runC (.slice E2 en.length c2) (.slice T2 tr.length d2) (.slice S2 sw.length f2) hi) w.heap.size (by simp)).trans (heap_alloc_new w (runC (.slice E1 en.length c1) (.slice T1 tr.length d1) (.slice S1 sw.length f1) hi))
  have hB := heap_alloc_new (w.alloc (runC (.slice E1 en.length c1) (.slice T1 tr.length d1) (.slice S1 sw.length f1) hi)) (runC (.slice E2 en.length c2) (.slice T2 tr.length d2) (.slice S2 sw.length f2) hi)
  have hsz : (w.alloc (runC (.slice E1 en.length c1) (.slice T1 tr.length d1) (.slice S1 sw.length f1) hi)).heap.size = w.heap.size + 1 := by simp
  rw [hsz] at hB
  have hb := bal (bal (Below.refl w.heap.size w) (runC (.slice E1 en.length c1) (.slice T1 tr.length d1) (.slice S1 sw.length f1) hi)) (runC (.slice E2 en.length c2) (.slice T2 tr.length d2) (.slice S2 sw.length f2) hi)
  clear hsz
  go_enter Tryz.func10, Tryz.ntmps10
  go_upto_region 1 with fail
  generalize World.alloc (World.alloc w _) _ = w1 at hA hB hb ⊢
  obtain ⟨a0, a1, a2, a3⟩ := blk4r hA
  obtain ⟨b0, b1, b2, b3⟩ := blk4r hB
  go_wp2_with fail
  refine (slices_same E1 E2 en c1 c2 _ (e1.keep hb) (e2.keep hb) (by unfold maxLen; omega)).mono ?_
  rintro e w2 ⟨rfl, bb⟩
  have hA2 := (bb.block _ (Array.getElem?_eq_some_iff.1 hA).1).trans hA
  have hB2 := (bb.block _ (Array.getElem?_eq_some_iff.1 hB).1).trans hB
  have hb2 := bthru hb bb
  clear a0 a1 a2 a3 b0 b1 b2 b3 hA hB hb bb
  obtain ⟨a0, a1, a2, a3⟩ := blk4r hA2
  obtain ⟨b0, b1, b2, b3⟩ := blk4r hB2
  go_wp2_with fail
  refine (slices_same T1 T2 tr d1 d2 _ (t1.keep hb2) (t2.keep hb2) (by unfold maxLen; omega)).mono ?_
  rintro e w3 ⟨rfl, bb⟩
  have hA3 := (bb.block _ (Array.getElem?_eq_some_iff.1 hA2).1).trans hA2
  have hB3 := (bb.block _ (Array.getElem?_eq_some_iff.1 hB2).1).trans hB2
  have hb3 := bthru hb2 bb
  clear a0 a1 a2 a3 b0 b1 b2 b3 hA2 hB2 hb2 bb
  obtain ⟨a0, a1, a2, a3⟩ := blk4r hA3
  obtain ⟨b0, b1, b2, b3⟩ := blk4r hB3
  go_wp2_with fail
  refine (slices_same S1 S2 sw f1 f2 _ (s1.keep hb3) (s2.keep hb3) (by unfold maxLen; omega)).mono ?_
  rintro e w4 ⟨rfl, bb⟩
  have hA4 := (bb.block _ (Array.getElem?_eq_some_iff.1 hA3).1).trans hA3
  have hB4 := (bb.block _ (Array.getElem?_eq_some_iff.1 hB3).1).trans hB3
  have hb4 := bthru hb3 bb
  clear a0 a1 a2 a3 b0 b1 b2 b3 hA3 hB3 hb3 bb
  obtain ⟨a0, a1, a2, a3⟩ := blk4r hA4
  obtain ⟨b0, b1, b2, b3⟩ := blk4r hB4
  have ehi : (hi == hi) = true := by simp
  go_wp2_with fail
  go_ret
  exact ⟨by simp, hb4⟩
/-- The text of a trace. -/
def trT (tr : List Int) : List UInt8 := tr.map (fun t => if t = -1 then 46 else UInt8.ofNat (48 + t.toNat))
theorem trT_snoc (tr : List Int) (t : Int) : trT (tr ++ [t]) = trT tr ++ [if t = -1 then 46 else UInt8.ofNat (48 + t.toNat)] := by simp [trT]
theorem trT_len (tr : List Int) : (trT tr).length = tr.length := by simp [trT]
set_option maxHeartbeats 4000000 in
set_option maxRecDepth 100000 in
theorem impl_FormatTrace {B : Nat} (E T S : Option Addr) (ne c nt d ns f : Nat) (tr : List Int) (hi : Bool) (w : World) (hnt : tr.length = nt) (ht : IS w T tr) (hl : nt ≤ 200) (hok : ∀ t ∈ tr, t = -1 ∨ (0 ≤ t ∧ t ≤ 4)) (hM : Mx B w) (hBw : B ≤ w.heap.size) :
    Calls Tryz.prog 15 #[.agg #[.slice E ne c, .slice T nt d, .slice S ns f, .bool hi]] w fun e w' => e = .returned (.string ⟨(trT tr).toArray⟩) ∧ Below w.heap.size w w' := by
  have hA := heap_alloc_new w (runC (.slice E ne c) (.slice T nt d) (.slice S ns f) hi)
  have hb := bal (Below.refl w.heap.size w) (runC (.slice E ne c) (.slice T nt d) (.slice S ns f) hi)
  have q0 : decide (200 < (nt : Int)) = false := decide_eq_false (by omega)
  go_enter Tryz.func15, Tryz.ntmps15
  go_upto_region 1 with fail
  generalize World.alloc w _ = w1 at hA hb ⊢
  obtain ⟨a0, a1, a2, a3⟩ := blk4r hA
  go_wp2_with fail
  clear a0 a1 a2 a3 hA
  go_loopg [3, 13] nt (fun gg v i wr => ∃ k : Nat, gg + k = nt ∧ i = .int .i64 (k : Int) ∧ v = .string ⟨(trT (tr.take k)).toArray⟩ ∧ Below w1.heap.size w1 wr)
  case atStart => exact ⟨0, by omega, rfl, rfl, Below.refl _ _⟩
  case round =>
    obtain ⟨k, hgk, rfl, rfl, hbr⟩ := hrel
    have hB2 := bthru hb hbr
    by_cases hkl : k < nt
    · have e0 : decide ((k : Int) < (nt : Int)) = true := decide_eq_true (by omega)
      have hkI : (k : Int) < (nt : Int) := by omega
      have hkl2 : k < tr.length := by omega
      obtain ⟨b, off, rfl, hbl, hc⟩ := (ht.keep hB2) (by omega)
      have hc0 := hc k tr[k] (by simp [hkl2])
      have ho := hok tr[k] (List.getElem_mem hkl2)
      have hst : tr.take (k + 1) = tr.take k ++ [tr[k]] := by rw [List.take_succ_eq_append_getElem hkl2]
      have htl : (trT (tr.take k)).length ≤ 200 := by rw [trT_len, List.length_take]; omega
      have hTS := trT_snoc (tr.take k) tr[k]
      rw [← hst] at hTS
      clear hst hc
      generalize tr[k] = t at hc0 ho hTS
      generalize trT (tr.take k) = P at htl hTS ⊢
      by_cases h1 : t = -1
      · subst h1
        have HT : Hid (trT (tr.take (k + 1)) = P ++ [46]) := by rw [Hid, hTS]; rfl
        clear hTS ho
        go_wp2_with fail
        go_roundg (gk - 1)
        case measure => omega
        case rel => exact ⟨k + 1, by omega, by go_num, by rw [HT.out, ← mk_app], hbr⟩
      · have d1 : (t == -1) = false := by simpa using h1
        have d2 : decide (0 ≤ t) = true := decide_eq_true (by omega)
        have d3 : decide (t ≤ 4) = true := decide_eq_true (by omega)
        have hnum : num t = [UInt8.ofNat (48 + t.toNat)] := dec_small t.toNat (by omega)
        have HT : Hid (trT (tr.take (k + 1)) = P ++ num t) := by rw [Hid, hTS, if_neg h1, hnum]
        have hnl := num_len t (by omega)
        have hIt := itoa_any (hM.keep (hB2.mono hBw)) t (by omega) (by omega)
        clear hTS h1 hnum
        go_wp2_with fail
        refine hIt.mono ?_
        rintro e w4 ⟨rfl, b4⟩
        go_wp2_with fail
        go_roundg (gk - 1)
        case measure => omega
        case rel => exact ⟨k + 1, by omega, by go_num, by rw [HT.out, ← mk_app], bthru hbr b4⟩
    · obtain rfl : k = nt := by omega
      have e0 : decide ((k : Int) < (k : Int)) = false := decide_eq_false (by omega)
      have htk : tr.take k = tr := List.take_of_length_le (by omega)
      rw [htk]
      go_wp2_with fail
      go_ret
      exact ⟨rfl, hB2⟩
/-- Numbers, a space ahead of each. -/
def numsT (xs : List Int) : List UInt8 := xs.flatMap (fun n => 32 :: num n)
theorem numsT_snoc (xs : List Int) (n : Int) : numsT (xs ++ [n]) = numsT xs ++ (32 :: num n) := by simp [numsT]
theorem numsT_len (xs : List Int) (h : ∀ n ∈ xs, n ≤ 1000000000) : (numsT xs).length ≤ 22 * xs.length := by
  induction xs with
  | nil => simp [numsT]
  | cons a r ih =>
    have h1 := num_len a (by have := h a (by simp); omega)
    have h2 := ih (fun n hn => h n (List.mem_cons_of_mem _ hn))
    have e : numsT (a :: r) = (32 :: num a) ++ numsT r := by simp [numsT]
    rw [e, List.length_append, List.length_cons, List.length_cons]
    omega
set_option maxHeartbeats 4000000 in
set_option maxRecDepth 100000 in
theorem impl_numbers {B : Nat} (T : Option Addr) (n d : Nat) (xs : List Int) (w : World) (hn : xs.length = n) (ht : IS w T xs) (hl : n ≤ 300) (hok : ∀ t ∈ xs, 0 ≤ t ∧ t ≤ 1000000000) (hM : Mx B w) (hBw : B ≤ w.heap.size) :
    Calls Tryz.prog 140 #[.slice T n d] w fun e w' => e = .returned (.string ⟨(numsT xs).toArray⟩) ∧ Below w.heap.size w w' := by
  go_enter Tryz.func140, Tryz.ntmps140
  go_wp2_with fail
  go_loopg [3, 8] n (fun gg v i wr => ∃ k : Nat, gg + k = n ∧ i = .int .i64 (k : Int) ∧ v = .string ⟨(numsT (xs.take k)).toArray⟩ ∧ Below w.heap.size w wr)
  case atStart => exact ⟨0, by omega, rfl, rfl, Below.refl _ _⟩
  case round =>
    obtain ⟨k, hgk, rfl, rfl, hbr⟩ := hrel
    by_cases hkl : k < n
    · have e0 : decide ((k : Int) < (n : Int)) = true := decide_eq_true (by omega)
      have hkI : (k : Int) < (n : Int) := by omega
      have hkl2 : k < xs.length := by omega
      obtain ⟨b, off, rfl, hbl, hc⟩ := (ht.keep hbr) (by omega)
      have hc0 := hc k xs[k] (by simp [hkl2])
      have ho := hok xs[k] (List.getElem_mem hkl2)
      have hst : xs.take (k + 1) = xs.take k ++ [xs[k]] := by rw [List.take_succ_eq_append_getElem hkl2]
      have htl : (numsT (xs.take k)).length ≤ 22 * 300 := by
        have := numsT_len (xs.take k) (fun n hn => (hok n (List.mem_of_mem_take hn)).2)
        rw [List.length_take] at this
        omega
      have hTS := numsT_snoc (xs.take k) xs[k]
      rw [← hst] at hTS
      clear hst hc
      generalize xs[k] = t at hc0 ho hTS
      generalize numsT (xs.take k) = P at htl hTS ⊢
      have HT := Lib.hid hTS
      have hnl := num_len t (by omega)
      have hIt := itoa_any (hM.keep (hbr.mono hBw)) t (by omega) (by omega)
      clear hTS
      go_wp2_with fail
      refine hIt.mono ?_
      rintro e w4 ⟨rfl, b4⟩
      go_wp2_with fail
      go_roundg (gk - 1)
      case measure => omega
      case rel => exact ⟨k + 1, by omega, by go_num, by rw [HT.out, ← mk_app]; rfl, bthru hbr b4⟩
    · obtain rfl : k = n := by omega
      have e0 : decide ((k : Int) < (k : Int)) = false := decide_eq_false (by omega)
      have htk : xs.take k = xs := List.take_of_length_le (by omega)
      rw [htk]
      go_wp2_with fail
      go_ret
      exact ⟨rfl, hbr⟩
/-- Who was dropped. -/
def dropL (en : List Int) : Nat → List Nat
  | 0 => []
  | k + 1 => dropL en k ++ (if en.getD k 0 = -2 then [k] else [])
theorem dropL_le (en : List Int) (k : Nat) : (dropL en k).length ≤ k := by
  induction k with
  | zero => simp [dropL]
  | succ k ih =>
    simp only [dropL]
    split <;> simp <;> omega
theorem dropL_lt (en : List Int) (k : Nat) : ∀ i ∈ dropL en k, i < k := by
  induction k with
  | zero => intro i hi; cases hi
  | succ k ih =>
    intro i hi
    simp only [dropL, List.mem_append] at hi
    rcases hi with hi | hi
    · have := ih i hi
      omega
    · split at hi
      · rw [List.mem_singleton] at hi
        omega
      · cases hi
set_option maxHeartbeats 4000000 in
set_option maxRecDepth 100000 in
theorem impl_DroppedOf (E T S : Option Addr) (ne c nt d ns f : Nat) (en : List Int) (hi : Bool) (w : World) (hne : en.length = ne) (he : IS w E en) (hl : ne ≤ 100000) :
    Calls Tryz.prog 141 #[.agg #[.slice E ne c, .slice T nt d, .slice S ns f, .bool hi]] w (RetI w (ints (dropL en ne))) := by
  have hA := heap_alloc_new w (runC (.slice E ne c) (.slice T nt d) (.slice S ns f) hi)
  have hb := bal (Below.refl w.heap.size w) (runC (.slice E ne c) (.slice T nt d) (.slice S ns f) hi)
  go_enter Tryz.func141, Tryz.ntmps141
  go_upto_region 1 with fail
  generalize World.alloc w _ = w1 at hA hb ⊢
  obtain ⟨a0, a1, a2, a3⟩ := blk4r hA
  have hA1 := (Below.heap_alloc w1 (.cells #[] 3) _ (Array.getElem?_eq_some_iff.1 hA).1).trans hA
  go_upto_region 2 with fail
  have O0 := OI_blank w1 w1.heap.size (Nat.le_refl _)
  have b0 := bal (Below.refl w1.heap.size w1) (.cells #[] 3)
  clear a0 a1 a2 a3 hA
  obtain ⟨a0, a1, a2, a3⟩ := blk4r hA1
  go_wp2_with fail
  go_loopg [3, 10] ne (fun gg v i wr => ∃ (k bo c' : Nat) (xs : List Nat), gg + k = ne ∧ i = .int .i64 (k : Int) ∧ v = .slice (some ⟨bo, 0, none⟩) xs.length c' ∧ Hid (dropL en k = xs) ∧ xs.length ≤ k ∧ OI w1.heap.size wr (some ⟨bo, 0, none⟩) c' (ints xs) ∧ Below w1.heap.size w1 wr)
  case atStart => exact ⟨0, _, 0, [], by omega, rfl, rfl, rfl, by simp, O0, b0⟩
  case round =>
    clear a0 a1 a2 a3 hA1 O0 b0
    obtain ⟨k, bo, c', xs, hgk, rfl, rfl, hxs, hxl, hO, hbr⟩ := hrel
    have hB2 := bthru hb hbr
    by_cases hkl : k < ne
    · have e0 : decide ((k : Int) < (ne : Int)) = true := decide_eq_true (by omega)
      have hkI : (k : Int) < (ne : Int) := by omega
      have hkl2 : k < en.length := by omega
      obtain ⟨b, off, rfl, hbl, hc⟩ := (he.keep hB2) (by omega)
      have hc0 := hc k (en.getD k 0) (by simp [hkl2])
      have hst : dropL en (k + 1) = xs ++ (if en.getD k 0 = -2 then [k] else []) := by rw [← hxs.out]; rfl
      clear hc
      generalize en.getD k 0 = t at hc0 hst
      by_cases h1 : t = -2
      · subst h1
        have HT : Hid (dropL en (k + 1) = xs ++ [k]) := hst
        clear hst
        go_wp2_with (at_builtin; refine wpList_app_intL _ rfl _ _ rfl w1.heap.size bo (ints xs) xs.length c' (ints_length xs) rfl (OI_alloc hO _) wr.heap.size 1 (k : Int) 3 rfl (heap_alloc_new wr _) (by rw [ints_length]; omega) (by have := hbr.size; simp; omega) _ rfl ?_; intro g3 c3 w3 o3 gb3 hat3 b3)
        rw [← ints_snoc] at o3
        go_roundg (gk - 1)
        case measure => omega
        case rel => exact ⟨k + 1, g3, c3, xs ++ [k], by omega, by go_num, by rw [List.length_append]; rfl, HT, by simp; omega, o3, (bal hbr _).trans b3⟩
      · have d1 : (t == -2) = false := by simpa using h1
        have HT : Hid (dropL en (k + 1) = xs) := by rw [Hid, hst, if_neg h1, List.append_nil]
        clear hst h1
        go_wp2_with fail
        go_roundg (gk - 1)
        case measure => omega
        case rel => exact ⟨k + 1, bo, c', xs, by omega, by go_num, rfl, HT, by omega, hO, hbr⟩
    · obtain rfl : k = ne := by omega
      have e0 : decide ((k : Int) < (k : Int)) = false := decide_eq_false (by omega)
      go_wp2_with fail
      go_ret
      unfold RetI
      rw [hxs.out]
      exact ⟨_, c', by rw [ints_length]; rfl, own_base hO hb.size, hB2⟩
end

section
open Go.RowKit

theorem worst_big {l : List Tk} {n : Int} {high : Bool} {k : Nat} (hk : (k : Int) < n) {j : Nat} (hj : j ≤ l.length) (h : 60 < (wjAll l high k ++ wjTo l (k : Int) high j).length) : worst l n high = none := by
  have h1 := wjTo_le l (k : Int) high hj
  have h2 := wjAll_le l high (show k + 1 ≤ n.toNat by omega)
  have h3 : (wjAll l high (k + 1)).length = (wjAll l high k).length + (wjTo l (k : Int) high l.length).length := by simp [wjAll]
  rw [List.length_append] at h
  have h4 : ¬ (wjAll l high n.toNat).length ≤ 60 := by omega
  simp [worst, h4]
end
end Go.Proofs.YtmkjmancmiphfaaGreatDoor
