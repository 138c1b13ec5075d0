/-
  The worst jobs: the program's.
-/
import Derived.Test.YtmkjmancmiphfaaGreatDoorJobT
import Derived.Test.YtmkjmancmiphfaaGreatDoorDrawTask
import Derived.Deep.CutBlock
import Derived.Deep.LoopGhost
namespace Go.Proofs.YtmkjmancmiphfaaGreatDoor
open Go.RowKit

theorem worst_big {l : List Tk} {n : Int} {high : Bool} {k : Nat} (hk : (k : Int) < n) {j : Nat} (hj : j ≤ l.length) (h : 60 < (wjAll l high k ++ wjTo l (k : Int) high j).length) : worst l n high = none := by
  have h1 := wjTo_le l (k : Int) high hj
  have h2 := wjAll_le l high (show k + 1 ≤ n.toNat by omega)
  have h3 : (wjAll l high (k + 1)).length = (wjAll l high k).length + (wjTo l (k : Int) high l.length).length := by simp [wjAll]
  rw [List.length_append] at h
  have h4 : ¬ (wjAll l high n.toNat).length ≤ 60 := by omega
  simp [worst, h4]
set_option maxHeartbeats 4000000 in
set_option maxRecDepth 100000 in
theorem impl_WorstJobs (A : Option Addr) (l : List Tk) (c : Nat) (n : Int) (high : Bool) (w : World) (h : TS w A l) :
    Calls Tryz.prog 139 #[.slice A l.length c, .int .i64 n, .bool high] w (RetJB w (worstL l n high) (worst l n high).isSome) := by
  by_cases hok : setVld l = true ∧ 0 ≤ n ∧ n ≤ 200
  case neg =>
    have hw : worst l n high = none := by
      unfold worst
      rw [if_neg]
      simp only [Bool.and_eq_true, decide_eq_true_eq]
      intro e
      exact hok ⟨e.1.1.1, e.1.1.2, e.1.2⟩
    have HW : Hid (worstL l n high = [] ∧ (worst l n high).isSome = false) := by simp [Hid, worstL, hw]
    clear hw
    cases hS : setVld l with
    | false =>
      go_enter Tryz.func139, Tryz.ntmps139
      go_wp2_with fail
      refine (impl_SetValid A l c _ h).mono ?_
      rw [hS]
      rintro e w1 ⟨rfl, b1⟩
      go_wp2_with fail
      go_ret2
      rw [HW.out.1, HW.out.2]
      exact ⟨none, 0, rfl, OJ_nil _ _, b1⟩
    | true =>
      by_cases h0 : n < 0
      · clear hok
        go_enter Tryz.func139, Tryz.ntmps139
        go_wp2_with fail
        refine (impl_SetValid A l c _ h).mono ?_
        rw [hS]
        rintro e w1 ⟨rfl, b1⟩
        go_wp2_with fail
        go_ret2
        rw [HW.out.1, HW.out.2]
        exact ⟨none, 0, rfl, OJ_nil _ _, b1⟩
      · have h2 : 200 < n := by
          rcases Int.lt_or_le 200 n with h2 | h2
          · exact h2
          · exact absurd ⟨hS, by omega, h2⟩ hok
        clear hok
        go_enter Tryz.func139, Tryz.ntmps139
        go_wp2_with fail
        refine (impl_SetValid A l c _ h).mono ?_
        rw [hS]
        rintro e w1 ⟨rfl, b1⟩
        go_wp2_with fail
        go_ret2
        rw [HW.out.1, HW.out.2]
        exact ⟨none, 0, rfl, OJ_nil _ _, b1⟩
  obtain ⟨hS, h0, h2⟩ := hok
  obtain ⟨m, rfl⟩ : ∃ m : Nat, n = (m : Int) := ⟨n.toNat, (Int.toNat_of_nonneg h0).symm⟩
  obtain ⟨hl5, hall⟩ := setVld_all hS
  have Hall := Lib.hid hall
  have HS := Lib.hid hS
  clear hall hS
  go_enter Tryz.func139, Tryz.ntmps139
  go_wp2_with fail
  refine (impl_SetValid A l c _ h).mono ?_
  rw [HS.out]
  rintro e w1 ⟨rfl, b1⟩
  go_wp2_with fail
  go_loopg [8, 26] m (fun g v i wr => ∃ (k bo c' : Nat) (xs : List Jb), g + k = m ∧ i = .int .i64 (k : Int) ∧ v = .slice (some ⟨bo, 0, none⟩) xs.length c' ∧ Hid (wjAll l high k = xs) ∧ xs.length ≤ 60 ∧ OJ w.heap.size wr (some ⟨bo, 0, none⟩) c' xs ∧ Below w.heap.size w wr)
  case atStart => exact ⟨0, _, 0, [], by omega, rfl, rfl, rfl, by simp, OJ_blank w1 _ b1.size, bal b1 _⟩
  case round =>
    obtain ⟨k, bo, c', xs, hg, rfl, rfl, hxs, hx60, hO, hb⟩ := hrel
    by_cases hlt : k < m
    · go_wp2_with fail
      go_loopg [8, 31] l.length (fun g v i wy => ∃ (j bo2 c2 : Nat) (ys : List Jb), g + j = l.length ∧ i = .int .i64 (j : Int) ∧ v = .slice (some ⟨bo2, 0, none⟩) ys.length c2 ∧ Hid (wjAll l high k ++ wjTo l (k : Int) high j = ys) ∧ ys.length ≤ 60 ∧ OJ w.heap.size wy (some ⟨bo2, 0, none⟩) c2 ys ∧ Below w.heap.size w wy)
      case atStart => exact ⟨0, bo, c', xs, by omega, rfl, rfl, by rw [Hid, hxs.out]; simp [wjTo], hx60, hO, hb⟩
      case round =>
        clear hO hb hx60
        obtain ⟨j, bo2, c2, ys, hg2, rfl, rfl, hys, hy60, hO2, hb2⟩ := hrel
        by_cases hj : j < l.length
        · obtain ⟨b, off, rfl, hbl, hc⟩ := h.keep hb2 (by omega)
          obtain ⟨k0, k1, k2, k3, k4⟩ := task_cells hc j hj
          clear hc
          have hv := vld_bd (Hall.out _ (List.getElem_mem hj))
          have htk := tkAt_eq l j hj
          have hstep : wjAll l high k ++ wjTo l (k : Int) high (j + 1) = ys ++ (if (k : Int) % l[j].every = 0 then [⟨(j : Int), (k : Int), if high then l[j].high else l[j].low⟩] else []) := by
            rw [← hys.out, List.append_assoc]
            simp only [wjTo, htk]
          generalize l[j] = t at k0 k1 k2 k3 k4 hv hstep
          obtain ⟨v1, v2, v3, v4, v5⟩ := hv
          by_cases hm : (k : Int) % t.every = 0
          · rw [if_pos hm] at hstep
            by_cases h60 : ys.length = 60
            · have hn := worst_big (n := (m : Int)) (k := k) (by omega) (show j + 1 ≤ l.length by omega) (by rw [hstep]; simp [h60])
              have HW : Hid (worstL l (m : Int) high = [] ∧ (worst l (m : Int) high).isSome = false) := by simp [Hid, worstL, hn]
              have e60 : ((ys.length : Int) == 60) = true := by rw [beq_iff_eq]; omega
              have em : ((k : Int) % t.every != 0) = false := by simp [hm]
              clear hn hstep h60
              go_wp2_with fail
              go_ret2
              rw [HW.out.1, HW.out.2]
              exact ⟨none, 0, rfl, OJ_nil _ _, by first | exact bal hb2 _ | exact hb2⟩
            · have e60 : ((ys.length : Int) == 60) = false := beq_eq_false_iff_ne.2 (by omega)
              have em : ((k : Int) % t.every != 0) = false := by simp [hm]
              have HN := Lib.hid hstep
              clear hstep hm
              cases high with
              | true =>
                have HN' : Hid (wjAll l true k ++ wjTo l (k : Int) true (j + 1) = ys ++ [⟨(j : Int), (k : Int), t.high⟩]) := HN.out
                have hA := heap_alloc_new (wr.alloc (.cells #[.int .i64 t.low, .int .i64 t.high, .int .i64 t.due, .int .i64 t.every, .bool t.crit] 58 (0, 0))) (.cells #[.int .i64 (j : Int), .int .i64 (k : Int), .int .i64 t.high] 60 (0, 0))
                rw [show (wr.alloc (.cells #[.int .i64 t.low, .int .i64 t.high, .int .i64 t.due, .int .i64 t.every, .bool t.crit] 58 (0, 0))).heap.size = wr.heap.size + 1 by simp] at hA
                go_wp2_with (at_builtin; refine wpList_app_job _ rfl _ _ rfl w.heap.size (some ⟨bo2, 0, none⟩) ys ys.length c2 rfl rfl (OJ_alloc (OJ_alloc hO2 _) _) (wr.heap.size + 1) 1 ⟨(j : Int), (k : Int), t.high⟩ _ 60 rfl hA rfl (by omega) (by have := hb2.size; simp; omega) ?_; intro A3 c3 w3 o3 g3 b3)
                obtain ⟨b4, rfl, _, _⟩ := OJ_addr o3 (by simp)
                go_roundg (l.length - (j + 1))
                case measure => omega
                case rel => exact ⟨j + 1, b4, c3, _, by omega, by go_num, by rw [List.length_append]; rfl, HN'.out, by simp; omega, o3, (bal (bal hb2 _) _).trans b3⟩
              | false =>
                have HN' : Hid (wjAll l false k ++ wjTo l (k : Int) false (j + 1) = ys ++ [⟨(j : Int), (k : Int), t.low⟩]) := HN.out
                have hA := heap_alloc_new (wr.alloc (.cells #[.int .i64 t.low, .int .i64 t.high, .int .i64 t.due, .int .i64 t.every, .bool t.crit] 58 (0, 0))) (.cells #[.int .i64 (j : Int), .int .i64 (k : Int), .int .i64 t.low] 60 (0, 0))
                rw [show (wr.alloc (.cells #[.int .i64 t.low, .int .i64 t.high, .int .i64 t.due, .int .i64 t.every, .bool t.crit] 58 (0, 0))).heap.size = wr.heap.size + 1 by simp] at hA
                go_wp2_with (at_builtin; refine wpList_app_job _ rfl _ _ rfl w.heap.size (some ⟨bo2, 0, none⟩) ys ys.length c2 rfl rfl (OJ_alloc (OJ_alloc hO2 _) _) (wr.heap.size + 1) 1 ⟨(j : Int), (k : Int), t.low⟩ _ 60 rfl hA rfl (by omega) (by have := hb2.size; simp; omega) ?_; intro A3 c3 w3 o3 g3 b3)
                obtain ⟨b4, rfl, _, _⟩ := OJ_addr o3 (by simp)
                go_roundg (l.length - (j + 1))
                case measure => omega
                case rel => exact ⟨j + 1, b4, c3, _, by omega, by go_num, by rw [List.length_append]; rfl, HN'.out, by simp; omega, o3, (bal (bal hb2 _) _).trans b3⟩
          · rw [if_neg hm, List.append_nil] at hstep
            have em : ((k : Int) % t.every != 0) = true := by simpa using hm
            have HN := Lib.hid hstep
            clear hstep hm
            go_wp2_with fail
            go_roundg (l.length - (j + 1))
            case measure => omega
            case rel => exact ⟨j + 1, bo2, c2, ys, by omega, by go_num, rfl, HN.out, hy60, by first | exact OJ_alloc hO2 _ | exact hO2, by first | exact bal hb2 _ | exact hb2⟩
        · obtain rfl : j = l.length := by omega
          have hnx : Hid (wjAll l high (k + 1) = ys) := hys
          go_wp2_with fail
          go_roundg (m - (k + 1))
          case measure => omega
          case rel => exact ⟨k + 1, bo2, c2, ys, by omega, by go_num, rfl, hnx, hy60, hO2, hb2⟩
    · obtain rfl : k = m := by omega
      have hwk : worst l (k : Int) high = some xs := by
        unfold worst
        rw [if_pos]
        · rw [Int.toNat_natCast, hxs.out]
        · rw [Int.toNat_natCast, hxs.out, HS.out]
          simp [hx60, h2]
      have HW : Hid (worstL l (k : Int) high = xs ∧ (worst l (k : Int) high).isSome = true) := by simp [Hid, worstL, hwk]
      clear hwk
      go_wp2_with fail
      go_ret2
      rw [HW.out.1, HW.out.2]
      exact ⟨_, c', rfl, hO, hb⟩
end Go.Proofs.YtmkjmancmiphfaaGreatDoor
