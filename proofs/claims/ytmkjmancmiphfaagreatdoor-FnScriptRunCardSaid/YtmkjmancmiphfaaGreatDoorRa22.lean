/-
  The worst jobs: the reference's.
  Texts of jobs, cut into their parts: in plain Lean.
  Texts read: ParseTask and ParseSet of texts that FormatTask and FormatSet have made: the program's. (Printed by gen_parse.py.)
  ParseSet of texts that FormatSet has made: the program's. (Printed by gen_parse.py.)
  What words do at the desk: tasks, show, places, deadlines, leave.
-/
import Derived.Test.YtmkjmancmiphfaaGreatDoorRa21
import Derived.Test.YtmkjmancmiphfaaGreatDoorRa04
import Derived.Test.YtmkjmancmiphfaaGreatDoorRa02
import Derived.Test.YtmkjmancmiphfaaGreatDoorRa20
import Derived.Test.YtmkjmancmiphfaaGreatDoorRa03
namespace Go.Proofs.YtmkjmancmiphfaaGreatDoor
section
open Go.RowKit

set_option maxHeartbeats 4000000 in
set_option maxRecDepth 100000 in
theorem spec_WorstJobs (A : Option Addr) (l : List Tk) (c : Nat) (n : Int) (high : Bool) (w : World) (h : TS w A l) (hm : l.length ≤ maxLen) :
    Calls Tryz.prog 101 #[.slice A l.length c, .int .i64 n, .bool high] w (RetJB w (worstL l n high) (worst l n high).isSome) := by
  by_cases hok : setVld l = true ∧ 0 ≤ n ∧ n ≤ 200
  case neg =>
    have hw : worst l n high = none := by
      unfold worst
      rw [if_neg]
      simp only [Bool.and_eq_true, decide_eq_true_eq]
      intro e
      exact hok ⟨e.1.1.1, e.1.1.2, e.1.2⟩
    have HW : Hid (worstL l n high = [] ∧ (worst l n high).isSome = false) := by simp [Hid, worstL, hw]
    clear hw
    cases hS : setVld l with
    | false =>
      go_enter Tryz.func101, Tryz.ntmps101
      go_wp2_with fail
      refine (spec_SetValid A l c _ (h.keep (bal (Below.refl _ _) _)) hm).mono ?_
      rw [hS]
      rintro e w1 ⟨rfl, b1⟩
      go_wp2_with fail
      go_ret2
      rw [HW.out.1, HW.out.2]
      exact ⟨_, 0, rfl, OJ_keep (OJ_blank w _ (Nat.le_refl _)) b1, bthru (bal (Below.refl _ _) _) b1⟩
    | true =>
      by_cases h0 : n < 0
      · clear hok
        go_enter Tryz.func101, Tryz.ntmps101
        go_wp2_with fail
        refine (spec_SetValid A l c _ (h.keep (bal (Below.refl _ _) _)) hm).mono ?_
        rw [hS]
        rintro e w1 ⟨rfl, b1⟩
        go_wp2_with fail
        go_ret2
        rw [HW.out.1, HW.out.2]
        exact ⟨_, 0, rfl, OJ_keep (OJ_blank w _ (Nat.le_refl _)) b1, bthru (bal (Below.refl _ _) _) b1⟩
      · have h2 : 200 < n := by
          rcases Int.lt_or_le 200 n with h2 | h2
          · exact h2
          · exact absurd ⟨hS, by omega, h2⟩ hok
        clear hok
        go_enter Tryz.func101, Tryz.ntmps101
        go_wp2_with fail
        refine (spec_SetValid A l c _ (h.keep (bal (Below.refl _ _) _)) hm).mono ?_
        rw [hS]
        rintro e w1 ⟨rfl, b1⟩
        go_wp2_with fail
        go_ret2
        rw [HW.out.1, HW.out.2]
        exact ⟨_, 0, rfl, OJ_keep (OJ_blank w _ (Nat.le_refl _)) b1, bthru (bal (Below.refl _ _) _) b1⟩
  obtain ⟨hS, h0, h2⟩ := hok
  obtain ⟨m, rfl⟩ : ∃ m : Nat, n = (m : Int) := ⟨n.toNat, (Int.toNat_of_nonneg h0).symm⟩
  obtain ⟨hl5, hall⟩ := setVld_all hS
  have Hall := Lib.hid hall
  have HS := Lib.hid hS
  clear hall hS
  go_enter Tryz.func101, Tryz.ntmps101
  go_wp2_with fail
  refine (spec_SetValid A l c _ (h.keep (bal (Below.refl _ _) _)) hm).mono ?_
  rw [HS.out]
  rintro e w1 ⟨rfl, b1⟩
  go_wp2_with fail
  go_loopg [8, 9] m (fun g v i wr => ∃ (k bo c' : Nat) (xs : List Jb), g + k = m ∧ i = .int .i64 (k : Int) ∧ v = .slice (some ⟨bo, 0, none⟩) xs.length c' ∧ Hid (wjAll l high k = xs) ∧ xs.length ≤ 60 ∧ OJ w.heap.size wr (some ⟨bo, 0, none⟩) c' xs ∧ Below w.heap.size w wr)
  case atStart => exact ⟨0, _, 0, [], by omega, rfl, rfl, rfl, by simp, OJ_keep (OJ_blank w _ (Nat.le_refl _)) b1, bthru (bal (Below.refl _ _) _) b1⟩
  case round =>
    obtain ⟨k, bo, c', xs, hg, rfl, rfl, hxs, hx60, hO, hb⟩ := hrel
    by_cases hlt : k < m
    · go_wp2_with fail
      go_loopg [8, 10] l.length (fun g v i wy => ∃ (j bo2 c2 : Nat) (ys : List Jb), g + j = l.length ∧ i = .int .i64 (j : Int) ∧ v = .slice (some ⟨bo2, 0, none⟩) ys.length c2 ∧ Hid (wjAll l high k ++ wjTo l (k : Int) high j = ys) ∧ ys.length ≤ 60 ∧ OJ w.heap.size wy (some ⟨bo2, 0, none⟩) c2 ys ∧ Below w.heap.size w wy)
      case atStart => exact ⟨0, bo, c', xs, by omega, rfl, rfl, by rw [Hid, hxs.out]; simp [wjTo], hx60, hO, hb⟩
      case round =>
        clear hO hb hx60
        obtain ⟨j, bo2, c2, ys, hg2, rfl, rfl, hys, hy60, hO2, hb2⟩ := hrel
        by_cases hj : j < l.length
        · obtain ⟨b, off, rfl, hbl, hc⟩ := h.keep hb2 (by omega)
          obtain ⟨k0, k1, k2, k3, k4⟩ := task_cells hc j hj
          clear hc
          have hv := vld_bd (Hall.out _ (List.getElem_mem hj))
          have htk := tkAt_eq l j hj
          have hstep : wjAll l high k ++ wjTo l (k : Int) high (j + 1) = ys ++ (if (k : Int) % l[j].every = 0 then [⟨(j : Int), (k : Int), if high then l[j].high else l[j].low⟩] else []) := by
            rw [← hys.out, List.append_assoc]
            simp only [wjTo, htk]
          generalize l[j] = t at k0 k1 k2 k3 k4 hv hstep
          obtain ⟨v1, v2, v3, v4, v5⟩ := hv
          by_cases hm : (k : Int) % t.every = 0
          · rw [if_pos hm] at hstep
            by_cases h60 : ys.length = 60
            · have hn := worst_big (n := (m : Int)) (k := k) (by omega) (show j + 1 ≤ l.length by omega) (by rw [hstep]; simp [h60])
              have HW : Hid (worstL l (m : Int) high = [] ∧ (worst l (m : Int) high).isSome = false) := by simp [Hid, worstL, hn]
              have e60 : ((ys.length : Int) == 60) = true := by rw [beq_iff_eq]; omega
              have em : ((k : Int) % t.every != 0) = false := by simp [hm]
              clear hn hstep h60
              go_wp2_with fail
              go_ret2
              rw [HW.out.1, HW.out.2]
              exact ⟨_, 0, rfl, OJ_blank wr _ hb2.size, bal hb2 _⟩
            · have e60 : ((ys.length : Int) == 60) = false := beq_eq_false_iff_ne.2 (by omega)
              have em : ((k : Int) % t.every != 0) = false := by simp [hm]
              have HN := Lib.hid hstep
              clear hstep hm
              cases high with
              | true =>
                have HN' : Hid (wjAll l true k ++ wjTo l (k : Int) true (j + 1) = ys ++ [⟨(j : Int), (k : Int), t.high⟩]) := HN.out
                have hA := heap_alloc_new (wr.alloc (.cells #[.int .i64 (j : Int), .int .i64 (k : Int), .int .i64 t.high] 60 (0, 0))) (.cells #[.int .i64 (j : Int), .int .i64 (k : Int), .int .i64 t.high] 60 (0, 0))
                rw [show (wr.alloc (.cells #[.int .i64 (j : Int), .int .i64 (k : Int), .int .i64 t.high] 60 (0, 0))).heap.size = wr.heap.size + 1 by simp] at hA
                go_wp2_with (at_builtin; refine wpList_app_job _ rfl _ _ rfl w.heap.size (some ⟨bo2, 0, none⟩) ys ys.length c2 rfl rfl (OJ_alloc (OJ_alloc hO2 _) _) (wr.heap.size + 1) 1 ⟨(j : Int), (k : Int), t.high⟩ _ 60 rfl hA rfl (by omega) (by have := hb2.size; simp; omega) ?_; intro A3 c3 w3 o3 g3 b3)
                obtain ⟨b4, rfl, _, _⟩ := OJ_addr o3 (by simp)
                go_roundg (l.length - (j + 1))
                case measure => omega
                case rel => exact ⟨j + 1, b4, c3, _, by omega, by go_num, by rw [List.length_append]; rfl, HN'.out, by simp; omega, o3, (bal (bal hb2 _) _).trans b3⟩
              | false =>
                have HN' : Hid (wjAll l false k ++ wjTo l (k : Int) false (j + 1) = ys ++ [⟨(j : Int), (k : Int), t.low⟩]) := HN.out
                have hA := heap_alloc_new (wr.alloc (.cells #[.int .i64 (j : Int), .int .i64 (k : Int), .int .i64 t.low] 60 (0, 0))) (.cells #[.int .i64 (j : Int), .int .i64 (k : Int), .int .i64 t.low] 60 (0, 0))
                rw [show (wr.alloc (.cells #[.int .i64 (j : Int), .int .i64 (k : Int), .int .i64 t.low] 60 (0, 0))).heap.size = wr.heap.size + 1 by simp] at hA
                go_wp2_with (at_builtin; refine wpList_app_job _ rfl _ _ rfl w.heap.size (some ⟨bo2, 0, none⟩) ys ys.length c2 rfl rfl (OJ_alloc (OJ_alloc hO2 _) _) (wr.heap.size + 1) 1 ⟨(j : Int), (k : Int), t.low⟩ _ 60 rfl hA rfl (by omega) (by have := hb2.size; simp; omega) ?_; intro A3 c3 w3 o3 g3 b3)
                obtain ⟨b4, rfl, _, _⟩ := OJ_addr o3 (by simp)
                go_roundg (l.length - (j + 1))
                case measure => omega
                case rel => exact ⟨j + 1, b4, c3, _, by omega, by go_num, by rw [List.length_append]; rfl, HN'.out, by simp; omega, o3, (bal (bal hb2 _) _).trans b3⟩
          · rw [if_neg hm, List.append_nil] at hstep
            have em : ((k : Int) % t.every != 0) = true := by simpa using hm
            have HN := Lib.hid hstep
            clear hstep hm
            go_wp2_with fail
            go_roundg (l.length - (j + 1))
            case measure => omega
            case rel => exact ⟨j + 1, bo2, c2, ys, by omega, by go_num, rfl, HN.out, hy60, by first | exact OJ_alloc hO2 _ | exact hO2, by first | exact bal hb2 _ | exact hb2⟩
        · obtain rfl : j = l.length := by omega
          have hnx : Hid (wjAll l high (k + 1) = ys) := hys
          go_wp2_with fail
          go_roundg (m - (k + 1))
          case measure => omega
          case rel => exact ⟨k + 1, bo2, c2, ys, by omega, by go_num, rfl, hnx, hy60, hO2, hb2⟩
    · obtain rfl : k = m := by omega
      have hwk : worst l (k : Int) high = some xs := by
        unfold worst
        rw [if_pos]
        · rw [Int.toNat_natCast, hxs.out]
        · rw [Int.toNat_natCast, hxs.out, HS.out]
          simp [hx60, h2]
      have HW : Hid (worstL l (k : Int) high = xs ∧ (worst l (k : Int) high).isSome = true) := by simp [Hid, worstL, hwk]
      clear hwk
      go_wp2_with fail
      go_ret2
      rw [HW.out.1, HW.out.2]
      exact ⟨_, c', rfl, hO, hb⟩
end

section
open Go.RowKit

def jobT (j : Jb) : List UInt8 := num j.task ++ (64 :: []) ++ (num j.at_ ++ (58 :: []) ++ num j.need)
def toldJ (j : Jb) : Bool := decide (0 ≤ j.task) && decide (j.task ≤ 4) && decide (0 ≤ j.at_) && decide (j.at_ ≤ 200) && decide (1 ≤ j.need) && decide (j.need ≤ 20)
def toldB (js : List Jb) : Bool := js.all toldJ && decide (js.length ≤ 60)
def jobsT (js : List Jb) : List UInt8 := Lib.join (js.map jobT) [32]
def fmtJobs (js : List Jb) : List UInt8 := if toldB js then jobsT js else []
theorem toldJ_iff (j : Jb) : toldJ j = true ↔ 0 ≤ j.task ∧ j.task ≤ 4 ∧ 0 ≤ j.at_ ∧ j.at_ ≤ 200 ∧ 1 ≤ j.need ∧ j.need ≤ 20 := by
  simp only [toldJ, Bool.and_eq_true, decide_eq_true_eq, and_assoc]
theorem jobT_cut (j : Jb) : Lib.cut (jobT j) [64] = (num j.task, num j.at_ ++ (58 :: []) ++ num j.need, true) := cut_app 64 [] _ _ (num_no 64 _ (by decide))
theorem jobT_cut2 (j : Jb) : Lib.cut (num j.at_ ++ (58 :: []) ++ num j.need) [58] = (num j.at_, num j.need, true) := cut_app 58 [] _ _ (num_no 58 _ (by decide))
theorem jobT_no (c : UInt8) (j : Jb) (h : c = 32 ∨ c = 10) : c ∉ jobT j := by
  have hc : c.toNat < 48 ∨ 57 < c.toNat := by rcases h with rfl | rfl <;> decide
  have hn : ∀ n, c ∉ num n := fun n => num_no c n hc
  rcases h with rfl | rfl <;> simp [jobT, hn]
theorem jobT_len {j : Jb} (h : toldJ j = true) : (jobT j).length ≤ 65 := by
  rw [toldJ_iff] at h
  have h1 := num_len j.task (by omega)
  have h2 := num_len j.at_ (by omega)
  have h3 := num_len j.need (by omega)
  simp [jobT]
  omega
theorem jobsT_pieces {js : List Jb} (h : js ≠ []) : pieces [32] (jobsT js) = js.map jobT := by
  refine pieces_join 32 [] _ ?_ (by simpa using h)
  intro x hx
  obtain ⟨t, _, rfl⟩ := List.mem_map.1 hx
  exact jobT_no 32 t (.inl rfl)
theorem fmtJobs_no (js : List Jb) : (10 : UInt8) ∉ fmtJobs js := by
  unfold fmtJobs
  split
  · refine join_no 10 _ _ ?_ (by decide)
    intro x hx
    obtain ⟨t, _, rfl⟩ := List.mem_map.1 hx
    exact jobT_no 10 t (.inr rfl)
  · simp
theorem fmtJobs_le (js : List Jb) : (fmtJobs js).length ≤ 3960 := by
  unfold fmtJobs
  split
  · rename_i h
    simp only [toldB, Bool.and_eq_true, decide_eq_true_eq, List.all_eq_true] at h
    have := join_le [32] 65 (js.map jobT) (by
      intro x hx
      obtain ⟨t, ht, rfl⟩ := List.mem_map.1 hx
      exact jobT_len (h.1 t ht))
    rw [List.length_map] at this
    simp only [List.length_singleton] at this
    unfold jobsT
    omega
  · simp
theorem jobsT_ne {js : List Jb} (h : js ≠ []) : jobsT js ≠ [] := by
  cases js with
  | nil => exact absurd rfl h
  | cons a r =>
    have hn := dec_ne a.task.toNat
    simp [jobsT, Lib.join_cons, jobT, num, hn]
theorem jobsV_told {l : List Tk} {js : List Jb} (h : jobsV l js = true) : toldB js = true := by
  simp only [jobsV, Bool.and_eq_true, decide_eq_true_eq, List.all_eq_true, List.mem_range] at h
  obtain ⟨⟨hs, hl⟩, ha⟩ := h
  simp only [toldB, Bool.and_eq_true, decide_eq_true_eq, List.all_eq_true]
  refine ⟨?_, hl⟩
  intro j hj
  obtain ⟨i, hi, rfl⟩ := List.getElem_of_mem hj
  have := ha i hi
  simp only [jobOk, Bool.and_eq_true] at this
  have := this.1.1
  rw [jobAt_eq js i hi] at this
  simp only [jobOfB, Bool.and_eq_true, decide_eq_true_eq] at this
  obtain ⟨⟨⟨⟨hp, h0⟩, h1⟩, h2⟩, h3⟩ := this
  have hp' := hp
  simp only [plc, Bool.and_eq_true, decide_eq_true_eq] at hp'
  have hl5 := setVld_len hs
  have hv := tkAt_vld hs (k := js[i].task.toNat) (by omega)
  have := vld_bd hv
  rw [toldJ_iff]
  omega
end

section
open Go.RowKit

/-- A task in the making, in block g; the result's cells, still zero, in the block behind w. -/
structure Bx (w : World) (g : Nat) (wx : World) (t : Tk) : Prop where
  t : wx.heap[g]? = some (.cells #[.int .i64 t.low, .int .i64 t.high, .int .i64 t.due, .int .i64 t.every, .bool t.crit] 58 (0, 0))
  r : wx.heap[w.heap.size]? = some (.cells #[.int .i64 0, .int .i64 0, .int .i64 0, .int .i64 0, .bool false] 58 (0, 0))
  b : Below w.heap.size w wx
  lt : w.heap.size < g
theorem Bx.keep {w wx wy : World} {g : Nat} {t : Tk} (h : Bx w g wx t) (hb : Below wx.heap.size wx wy) : Bx w g wy t :=
  ⟨(hb.block g (Array.getElem?_eq_some_iff.1 h.t).1).trans h.t, (hb.block _ (Array.getElem?_eq_some_iff.1 h.r).1).trans h.r, bthru h.b hb, h.lt⟩
theorem Bx.st {w wx : World} {g : Nat} {t t' : Tk} (h : Bx w g wx t) (i : Nat) (v : Value) (e : (#[.int .i64 t.low, .int .i64 t.high, .int .i64 t.due, .int .i64 t.every, .bool t.crit] : Array Value).setIfInBounds i v = #[.int .i64 t'.low, .int .i64 t'.high, .int .i64 t'.due, .int .i64 t'.every, .bool t'.crit]) : Bx w g (wx.setCell ⟨g, i, none⟩ v) t' :=
  ⟨by rw [blk_set h.t v, e], (Below.heap_setCell wx ⟨g, i, none⟩ v w.heap.size (by have := h.lt; simp; omega)).trans h.r, h.b.setCell (p := ⟨g, i, none⟩) (Nat.le_of_lt h.lt) v, h.lt⟩

set_option maxHeartbeats 4000000 in
set_option maxRecDepth 100000 in
theorem impl_ParseTask (t : Tk) (hv : vld t = true) (w : World) (hM : Mx w.heap.size w) :
    Calls Tryz.prog 131 #[.string ⟨(taskT t).toArray⟩] w fun e w' => e = .returned (.tuple #[t.val, .bool true]) ∧ Below w.heap.size w w' := by
  obtain ⟨h1, h2, h3, h4, h5⟩ := vld_bd hv
  have hfl := fmtTask_len t
  have C1 := taskT_cut t
  have hF : fmtTask t = taskT t := by simp [fmtTask, hv]
  have hff := hF
  rw [hF] at hfl
  have l1 := num_len t.low (by omega)
  have l2 := num_len t.high (by omega)
  have l3 := num_len t.due (by omega)
  have l4 := num_len t.every (by omega)
  have ln : (needT t).length ≤ 50 := by unfold needT highT; split <;> simp <;> omega
  have lr : (restT t).length ≤ 50 := by unfold restT dueT; split <;> simp <;> omega
  have hvv := hv
  simp only [vld, Bool.and_eq_true] at hvv
  obtain ⟨_, hcl⟩ := hvv
  cases hc : t.crit with
  | true =>
    have hN := needT_crit hc
    by_cases hd : t.due < t.every
    · have hR := restT_due hd
      obtain ⟨low, high, due, every, crit⟩ := t
      simp only at *
      subst hc
      obtain ⟨F, hFF⟩ : ∃ F, taskT ⟨low, high, due, every, true⟩ = F := ⟨_, rfl⟩
      obtain ⟨N, hNN⟩ : ∃ N, needT ⟨low, high, due, every, true⟩ = N := ⟨_, rfl⟩
      obtain ⟨R, hRR⟩ : ∃ R, restT ⟨low, high, due, every, true⟩ = R := ⟨_, rfl⟩
      rw [hFF, hNN, hRR] at C1
      rw [hNN] at hN ln
      rw [hRR] at hR lr
      rw [hFF] at hff hfl ⊢
      have HC1 := Lib.hid C1
      have HN := Lib.hid hN
      have HR := Lib.hid hR
      have HV := Lib.hid hv
      have HF := Lib.hid hff
      clear C1 hN hR hv hff hF hFF hNN hRR hcl
      go_enter Tryz.func131, Tryz.ntmps131
      go_wp2_with fail
      refine (cut_is HC1.out (hM.keep (bal (Below.refl _ _) _)) (by omega)).mono ?_
      rintro e w1 ⟨rfl, b1⟩
      have X : Bx w w1.heap.size (w1.alloc (.cells #[.int .i64 0, .int .i64 0, .int .i64 0, .int .i64 0, .bool false] 58 (0, 0))) ⟨0, 0, 0, 0, false⟩ := ⟨heap_alloc_new _ _, (Below.heap_alloc w1 _ w.heap.size (Nat.lt_of_lt_of_le (by simp) b1.size)).trans ((b1.block w.heap.size (by simp)).trans (heap_alloc_new w _)), bal (bthru (bal (Below.refl w.heap.size w) _) b1) _, Nat.lt_of_lt_of_le (by simp) b1.size⟩
      clear b1
      go_wp2_with fail
      refine (cut_is HN.out (hM.keep X.b) (by omega)).mono ?_
      rintro e w2 ⟨rfl, b2⟩
      replace X := X.keep b2
      clear b2
      go_wp2_with fail
      refine (cut_is HR.out (hM.keep X.b) (by omega)).mono ?_
      rintro e w3 ⟨rfl, b3⟩
      replace X := X.keep b3
      clear b3
      generalize w1.heap.size = g at X ⊢
      go_wp2_with fail
      refine (atoi_is low (by omega) (by omega) _).mono ?_
      rintro e w4 ⟨rfl, b4⟩
      replace X := X.keep b4
      clear b4
      obtain ⟨t0, t1, t2, t3, t4, tf⟩ := blk_five X.t
      go_wp2_with fail
      clear t0 t1 t2 t3 t4 tf
      replace X := X.st (t' := ⟨low, 0, 0, 0, false⟩) 0 (.int .i64 low) rfl
      replace X := X.st (t' := ⟨low, low, 0, 0, false⟩) 1 (.int .i64 low) rfl
      refine (atoi_is high (by omega) (by omega) _).mono ?_
      rintro e w5 ⟨rfl, b5⟩
      replace X := X.keep b5
      clear b5
      obtain ⟨t0, t1, t2, t3, t4, tf⟩ := blk_five X.t
      go_wp2_with fail
      clear t0 t1 t2 t3 t4 tf
      replace X := X.st (t' := ⟨low, high, 0, 0, false⟩) 1 (.int .i64 high) rfl
      replace X := X.st (t' := ⟨low, high, 0, 0, true⟩) 4 (.bool true) rfl
      refine (atoi_is every (by omega) (by omega) _).mono ?_
      rintro e w6 ⟨rfl, b6⟩
      replace X := X.keep b6
      clear b6
      obtain ⟨t0, t1, t2, t3, t4, tf⟩ := blk_five X.t
      go_wp2_with fail
      clear t0 t1 t2 t3 t4 tf
      replace X := X.st (t' := ⟨low, high, 0, every, true⟩) 3 (.int .i64 every) rfl
      replace X := X.st (t' := ⟨low, high, every, every, true⟩) 2 (.int .i64 every) rfl
      refine (atoi_is due (by omega) (by omega) _).mono ?_
      rintro e w7 ⟨rfl, b7⟩
      replace X := X.keep b7
      clear b7
      obtain ⟨t0, t1, t2, t3, t4, tf⟩ := blk_five X.t
      go_wp2_with fail
      clear t0 t1 t2 t3 t4 tf
      replace X := X.st (t' := ⟨low, high, due, every, true⟩) 2 (.int .i64 due) rfl
      refine (impl_TaskValid ⟨low, high, due, every, true⟩ _).mono ?_
      rw [HV.out]
      rintro e w8 ⟨rfl, b8⟩
      replace X := X.keep b8
      clear b8
      obtain ⟨t0, t1, t2, t3, t4, tf⟩ := blk_five X.t
      go_wp2_with fail
      clear t0 t1 t2 t3 t4 tf
      refine (impl_FormatTask ⟨low, high, due, every, true⟩ _).mono ?_
      rw [HF.out]
      rintro e w9 ⟨rfl, b9⟩
      replace X := X.keep b9
      clear b9
      obtain ⟨t0, t1, t2, t3, t4, tf⟩ := blk_five X.t
      obtain ⟨r0, r1, r2, r3, r4, rf⟩ := blk_five X.r
      have hlt := X.lt
      go_wp2_with fail
      refine bodyPost_ret (v := .tuple #[Tk.val ⟨low, high, due, every, true⟩, .bool true]) (by simp [results, Tryz.results131, go_sem, r0, r1, r2, r3, r4]) rfl ⟨rfl, ?_⟩
      exact bst (bst (bst (bst (bst X.b (p := ⟨w.heap.size, 0, none⟩) (Nat.le_refl _) _) (p := ⟨w.heap.size, 1, none⟩) (Nat.le_refl _) _) (p := ⟨w.heap.size, 2, none⟩) (Nat.le_refl _) _) (p := ⟨w.heap.size, 3, none⟩) (Nat.le_refl _) _) (p := ⟨w.heap.size, 4, none⟩) (Nat.le_refl _) _
    · have hR := restT_not hd
      obtain ⟨low, high, due, every, crit⟩ := t
      simp only at *
      subst hc
      obtain rfl : due = every := by omega
      obtain ⟨F, hFF⟩ : ∃ F, taskT ⟨low, high, due, due, true⟩ = F := ⟨_, rfl⟩
      obtain ⟨N, hNN⟩ : ∃ N, needT ⟨low, high, due, due, true⟩ = N := ⟨_, rfl⟩
      obtain ⟨R, hRR⟩ : ∃ R, restT ⟨low, high, due, due, true⟩ = R := ⟨_, rfl⟩
      rw [hFF, hNN, hRR] at C1
      rw [hNN] at hN ln
      rw [hRR] at hR lr
      rw [hFF] at hff hfl ⊢
      have HC1 := Lib.hid C1
      have HN := Lib.hid hN
      have HR := Lib.hid hR
      have HV := Lib.hid hv
      have HF := Lib.hid hff
      clear C1 hN hR hv hff hF hFF hNN hRR hcl
      go_enter Tryz.func131, Tryz.ntmps131
      go_wp2_with fail
      refine (cut_is HC1.out (hM.keep (bal (Below.refl _ _) _)) (by omega)).mono ?_
      rintro e w1 ⟨rfl, b1⟩
      have X : Bx w w1.heap.size (w1.alloc (.cells #[.int .i64 0, .int .i64 0, .int .i64 0, .int .i64 0, .bool false] 58 (0, 0))) ⟨0, 0, 0, 0, false⟩ := ⟨heap_alloc_new _ _, (Below.heap_alloc w1 _ w.heap.size (Nat.lt_of_lt_of_le (by simp) b1.size)).trans ((b1.block w.heap.size (by simp)).trans (heap_alloc_new w _)), bal (bthru (bal (Below.refl w.heap.size w) _) b1) _, Nat.lt_of_lt_of_le (by simp) b1.size⟩
      clear b1
      go_wp2_with fail
      refine (cut_is HN.out (hM.keep X.b) (by omega)).mono ?_
      rintro e w2 ⟨rfl, b2⟩
      replace X := X.keep b2
      clear b2
      go_wp2_with fail
      refine (cut_is HR.out (hM.keep X.b) (by omega)).mono ?_
      rintro e w3 ⟨rfl, b3⟩
      replace X := X.keep b3
      clear b3
      generalize w1.heap.size = g at X ⊢
      go_wp2_with fail
      refine (atoi_is low (by omega) (by omega) _).mono ?_
      rintro e w4 ⟨rfl, b4⟩
      replace X := X.keep b4
      clear b4
      obtain ⟨t0, t1, t2, t3, t4, tf⟩ := blk_five X.t
      go_wp2_with fail
      clear t0 t1 t2 t3 t4 tf
      replace X := X.st (t' := ⟨low, 0, 0, 0, false⟩) 0 (.int .i64 low) rfl
      replace X := X.st (t' := ⟨low, low, 0, 0, false⟩) 1 (.int .i64 low) rfl
      refine (atoi_is high (by omega) (by omega) _).mono ?_
      rintro e w5 ⟨rfl, b5⟩
      replace X := X.keep b5
      clear b5
      obtain ⟨t0, t1, t2, t3, t4, tf⟩ := blk_five X.t
      go_wp2_with fail
      clear t0 t1 t2 t3 t4 tf
      replace X := X.st (t' := ⟨low, high, 0, 0, false⟩) 1 (.int .i64 high) rfl
      replace X := X.st (t' := ⟨low, high, 0, 0, true⟩) 4 (.bool true) rfl
      refine (atoi_is due (by omega) (by omega) _).mono ?_
      rintro e w6 ⟨rfl, b6⟩
      replace X := X.keep b6
      clear b6
      obtain ⟨t0, t1, t2, t3, t4, tf⟩ := blk_five X.t
      go_wp2_with fail
      clear t0 t1 t2 t3 t4 tf
      replace X := X.st (t' := ⟨low, high, 0, due, true⟩) 3 (.int .i64 due) rfl
      replace X := X.st (t' := ⟨low, high, due, due, true⟩) 2 (.int .i64 due) rfl
      refine (impl_TaskValid ⟨low, high, due, due, true⟩ _).mono ?_
      rw [HV.out]
      rintro e w7 ⟨rfl, b7⟩
      replace X := X.keep b7
      clear b7
      obtain ⟨t0, t1, t2, t3, t4, tf⟩ := blk_five X.t
      go_wp2_with fail
      clear t0 t1 t2 t3 t4 tf
      refine (impl_FormatTask ⟨low, high, due, due, true⟩ _).mono ?_
      rw [HF.out]
      rintro e w8 ⟨rfl, b8⟩
      replace X := X.keep b8
      clear b8
      obtain ⟨t0, t1, t2, t3, t4, tf⟩ := blk_five X.t
      obtain ⟨r0, r1, r2, r3, r4, rf⟩ := blk_five X.r
      have hlt := X.lt
      go_wp2_with fail
      refine bodyPost_ret (v := .tuple #[Tk.val ⟨low, high, due, due, true⟩, .bool true]) (by simp [results, Tryz.results131, go_sem, r0, r1, r2, r3, r4]) rfl ⟨rfl, ?_⟩
      exact bst (bst (bst (bst (bst X.b (p := ⟨w.heap.size, 0, none⟩) (Nat.le_refl _) _) (p := ⟨w.heap.size, 1, none⟩) (Nat.le_refl _) _) (p := ⟨w.heap.size, 2, none⟩) (Nat.le_refl _) _) (p := ⟨w.heap.size, 3, none⟩) (Nat.le_refl _) _) (p := ⟨w.heap.size, 4, none⟩) (Nat.le_refl _) _
  | false =>
    have hN := needT_not hc
    by_cases hd : t.due < t.every
    · have hR := restT_due hd
      obtain ⟨low, high, due, every, crit⟩ := t
      simp only at *
      subst hc
      obtain rfl : low = high := by simpa using hcl
      obtain ⟨F, hFF⟩ : ∃ F, taskT ⟨low, low, due, every, false⟩ = F := ⟨_, rfl⟩
      obtain ⟨N, hNN⟩ : ∃ N, needT ⟨low, low, due, every, false⟩ = N := ⟨_, rfl⟩
      obtain ⟨R, hRR⟩ : ∃ R, restT ⟨low, low, due, every, false⟩ = R := ⟨_, rfl⟩
      rw [hFF, hNN, hRR] at C1
      rw [hNN] at hN ln
      rw [hRR] at hR lr
      rw [hFF] at hff hfl ⊢
      have HC1 := Lib.hid C1
      have HN := Lib.hid hN
      have HR := Lib.hid hR
      have HV := Lib.hid hv
      have HF := Lib.hid hff
      clear C1 hN hR hv hff hF hFF hNN hRR hcl
      go_enter Tryz.func131, Tryz.ntmps131
      go_wp2_with fail
      refine (cut_is HC1.out (hM.keep (bal (Below.refl _ _) _)) (by omega)).mono ?_
      rintro e w1 ⟨rfl, b1⟩
      have X : Bx w w1.heap.size (w1.alloc (.cells #[.int .i64 0, .int .i64 0, .int .i64 0, .int .i64 0, .bool false] 58 (0, 0))) ⟨0, 0, 0, 0, false⟩ := ⟨heap_alloc_new _ _, (Below.heap_alloc w1 _ w.heap.size (Nat.lt_of_lt_of_le (by simp) b1.size)).trans ((b1.block w.heap.size (by simp)).trans (heap_alloc_new w _)), bal (bthru (bal (Below.refl w.heap.size w) _) b1) _, Nat.lt_of_lt_of_le (by simp) b1.size⟩
      clear b1
      go_wp2_with fail
      refine (cut_is HN.out (hM.keep X.b) (by omega)).mono ?_
      rintro e w2 ⟨rfl, b2⟩
      replace X := X.keep b2
      clear b2
      go_wp2_with fail
      refine (cut_is HR.out (hM.keep X.b) (by omega)).mono ?_
      rintro e w3 ⟨rfl, b3⟩
      replace X := X.keep b3
      clear b3
      generalize w1.heap.size = g at X ⊢
      go_wp2_with fail
      refine (atoi_is low (by omega) (by omega) _).mono ?_
      rintro e w4 ⟨rfl, b4⟩
      replace X := X.keep b4
      clear b4
      obtain ⟨t0, t1, t2, t3, t4, tf⟩ := blk_five X.t
      go_wp2_with fail
      clear t0 t1 t2 t3 t4 tf
      replace X := X.st (t' := ⟨low, 0, 0, 0, false⟩) 0 (.int .i64 low) rfl
      replace X := X.st (t' := ⟨low, low, 0, 0, false⟩) 1 (.int .i64 low) rfl
      replace X := X.st (t' := ⟨low, low, 0, 0, false⟩) 4 (.bool false) rfl
      refine (atoi_is every (by omega) (by omega) _).mono ?_
      rintro e w5 ⟨rfl, b5⟩
      replace X := X.keep b5
      clear b5
      obtain ⟨t0, t1, t2, t3, t4, tf⟩ := blk_five X.t
      go_wp2_with fail
      clear t0 t1 t2 t3 t4 tf
      replace X := X.st (t' := ⟨low, low, 0, every, false⟩) 3 (.int .i64 every) rfl
      replace X := X.st (t' := ⟨low, low, every, every, false⟩) 2 (.int .i64 every) rfl
      refine (atoi_is due (by omega) (by omega) _).mono ?_
      rintro e w6 ⟨rfl, b6⟩
      replace X := X.keep b6
      clear b6
      obtain ⟨t0, t1, t2, t3, t4, tf⟩ := blk_five X.t
      go_wp2_with fail
      clear t0 t1 t2 t3 t4 tf
      replace X := X.st (t' := ⟨low, low, due, every, false⟩) 2 (.int .i64 due) rfl
      refine (impl_TaskValid ⟨low, low, due, every, false⟩ _).mono ?_
      rw [HV.out]
      rintro e w7 ⟨rfl, b7⟩
      replace X := X.keep b7
      clear b7
      obtain ⟨t0, t1, t2, t3, t4, tf⟩ := blk_five X.t
      go_wp2_with fail
      clear t0 t1 t2 t3 t4 tf
      refine (impl_FormatTask ⟨low, low, due, every, false⟩ _).mono ?_
      rw [HF.out]
      rintro e w8 ⟨rfl, b8⟩
      replace X := X.keep b8
      clear b8
      obtain ⟨t0, t1, t2, t3, t4, tf⟩ := blk_five X.t
      obtain ⟨r0, r1, r2, r3, r4, rf⟩ := blk_five X.r
      have hlt := X.lt
      go_wp2_with fail
      refine bodyPost_ret (v := .tuple #[Tk.val ⟨low, low, due, every, false⟩, .bool true]) (by simp [results, Tryz.results131, go_sem, r0, r1, r2, r3, r4]) rfl ⟨rfl, ?_⟩
      exact bst (bst (bst (bst (bst X.b (p := ⟨w.heap.size, 0, none⟩) (Nat.le_refl _) _) (p := ⟨w.heap.size, 1, none⟩) (Nat.le_refl _) _) (p := ⟨w.heap.size, 2, none⟩) (Nat.le_refl _) _) (p := ⟨w.heap.size, 3, none⟩) (Nat.le_refl _) _) (p := ⟨w.heap.size, 4, none⟩) (Nat.le_refl _) _
    · have hR := restT_not hd
      obtain ⟨low, high, due, every, crit⟩ := t
      simp only at *
      subst hc
      obtain rfl : low = high := by simpa using hcl
      obtain rfl : due = every := by omega
      obtain ⟨F, hFF⟩ : ∃ F, taskT ⟨low, low, due, due, false⟩ = F := ⟨_, rfl⟩
      obtain ⟨N, hNN⟩ : ∃ N, needT ⟨low, low, due, due, false⟩ = N := ⟨_, rfl⟩
      obtain ⟨R, hRR⟩ : ∃ R, restT ⟨low, low, due, due, false⟩ = R := ⟨_, rfl⟩
      rw [hFF, hNN, hRR] at C1
      rw [hNN] at hN ln
      rw [hRR] at hR lr
      rw [hFF] at hff hfl ⊢
      have HC1 := Lib.hid C1
      have HN := Lib.hid hN
      have HR := Lib.hid hR
      have HV := Lib.hid hv
      have HF := Lib.hid hff
      clear C1 hN hR hv hff hF hFF hNN hRR hcl
      go_enter Tryz.func131, Tryz.ntmps131
      go_wp2_with fail
      refine (cut_is HC1.out (hM.keep (bal (Below.refl _ _) _)) (by omega)).mono ?_
      rintro e w1 ⟨rfl, b1⟩
      have X : Bx w w1.heap.size (w1.alloc (.cells #[.int .i64 0, .int .i64 0, .int .i64 0, .int .i64 0, .bool false] 58 (0, 0))) ⟨0, 0, 0, 0, false⟩ := ⟨heap_alloc_new _ _, (Below.heap_alloc w1 _ w.heap.size (Nat.lt_of_lt_of_le (by simp) b1.size)).trans ((b1.block w.heap.size (by simp)).trans (heap_alloc_new w _)), bal (bthru (bal (Below.refl w.heap.size w) _) b1) _, Nat.lt_of_lt_of_le (by simp) b1.size⟩
      clear b1
      go_wp2_with fail
      refine (cut_is HN.out (hM.keep X.b) (by omega)).mono ?_
      rintro e w2 ⟨rfl, b2⟩
      replace X := X.keep b2
      clear b2
      go_wp2_with fail
      refine (cut_is HR.out (hM.keep X.b) (by omega)).mono ?_
      rintro e w3 ⟨rfl, b3⟩
      replace X := X.keep b3
      clear b3
      generalize w1.heap.size = g at X ⊢
      go_wp2_with fail
      refine (atoi_is low (by omega) (by omega) _).mono ?_
      rintro e w4 ⟨rfl, b4⟩
      replace X := X.keep b4
      clear b4
      obtain ⟨t0, t1, t2, t3, t4, tf⟩ := blk_five X.t
      go_wp2_with fail
      clear t0 t1 t2 t3 t4 tf
      replace X := X.st (t' := ⟨low, 0, 0, 0, false⟩) 0 (.int .i64 low) rfl
      replace X := X.st (t' := ⟨low, low, 0, 0, false⟩) 1 (.int .i64 low) rfl
      replace X := X.st (t' := ⟨low, low, 0, 0, false⟩) 4 (.bool false) rfl
      refine (atoi_is due (by omega) (by omega) _).mono ?_
      rintro e w5 ⟨rfl, b5⟩
      replace X := X.keep b5
      clear b5
      obtain ⟨t0, t1, t2, t3, t4, tf⟩ := blk_five X.t
      go_wp2_with fail
      clear t0 t1 t2 t3 t4 tf
      replace X := X.st (t' := ⟨low, low, 0, due, false⟩) 3 (.int .i64 due) rfl
      replace X := X.st (t' := ⟨low, low, due, due, false⟩) 2 (.int .i64 due) rfl
      refine (impl_TaskValid ⟨low, low, due, due, false⟩ _).mono ?_
      rw [HV.out]
      rintro e w6 ⟨rfl, b6⟩
      replace X := X.keep b6
      clear b6
      obtain ⟨t0, t1, t2, t3, t4, tf⟩ := blk_five X.t
      go_wp2_with fail
      clear t0 t1 t2 t3 t4 tf
      refine (impl_FormatTask ⟨low, low, due, due, false⟩ _).mono ?_
      rw [HF.out]
      rintro e w7 ⟨rfl, b7⟩
      replace X := X.keep b7
      clear b7
      obtain ⟨t0, t1, t2, t3, t4, tf⟩ := blk_five X.t
      obtain ⟨r0, r1, r2, r3, r4, rf⟩ := blk_five X.r
      have hlt := X.lt
      go_wp2_with fail
      refine bodyPost_ret (v := .tuple #[Tk.val ⟨low, low, due, due, false⟩, .bool true]) (by simp [results, Tryz.results131, go_sem, r0, r1, r2, r3, r4]) rfl ⟨rfl, ?_⟩
      exact bst (bst (bst (bst (bst X.b (p := ⟨w.heap.size, 0, none⟩) (Nat.le_refl _) _) (p := ⟨w.heap.size, 1, none⟩) (Nat.le_refl _) _) (p := ⟨w.heap.size, 2, none⟩) (Nat.le_refl _) _) (p := ⟨w.heap.size, 3, none⟩) (Nat.le_refl _) _) (p := ⟨w.heap.size, 4, none⟩) (Nat.le_refl _) _

theorem row_kept {w w' : World} {b : Nat} {x : Obj} {row : Option Nat} (h : w.heap[b]? = some x) (hg : w.grownBy w' row) (hne : row ≠ some b) : w'.heap[b]? = some x :=
  (hg.block b (Array.getElem?_eq_some_iff.1 h).1 (fun e => hne e.symm)).trans h
theorem own_ne {w : World} {base : Nat} {t t' : TypeId} {size : Nat} {v : Value} {n : Nat} {xs : List Value} (h : w.ownsRow base t size v n xs) {b : Nat} {cs : Array Value} {fz : Nat × Nat} (hb : w.heap[b]? = some (.cells cs t' fz)) (hne : t' ≠ t) : v.ownBlock ≠ some b := by
  rcases h.2 with ⟨rfl, _⟩ | ⟨g, cap, cur, rfl, _, hh, _⟩
  · simp [Value.ownBlock]
  · intro e
    have : g = b := by simpa [Value.ownBlock] using e
    subst this
    rw [hb] at hh
    injection hh with hh
    injection hh with _ ht _
    exact hne ht
theorem wpList_app_taskN (w : World) {ops : Array Oper} {rest : List Oper} {o : Oper} {a : Act} {Q : Exit → Act → World → Prop} (hgd : o.guard = none) (s x : Operand)
    (ho : o.op = .call { callee := .builtin .append, args := #[s, x], argTypes := #[23, 23] })
    (base : Nat) (A : Option Addr) (l : List Tk) (n c : Nat) (hn : l.length = n) (hs : a.eval s = .slice A n c) (hown : OT base w A c l)
    (b c1 : Nat) (t : Tk) (cs : Array Value) (ty : TypeId) (hx : a.eval x = .slice (some ⟨b, 0, none⟩) 1 c1) (hb : w.heap[b]? = some (.cells cs ty (0, 0))) (hcs : cs.toList = t.cells)
    (hl : l.length ≤ 2000000) (hbase : base ≤ w.heap.size)
    (h : ∀ A' c' w', OT base w' A' c' (l ++ [t]) → w.grownBy w' (Value.slice A n c).ownBlock → Below base w w' → wpList Tryz.prog ops Q rest (a.put o.dst (.slice A' (n + 1) c')) w') : wpList Tryz.prog ops Q (o :: rest) a w := by
  subst hn
  exact wpList_app_task w hgd s x ho base A l c hs hown b c1 t cs ty hx hb hcs hl hbase h
set_option maxHeartbeats 4000000 in
set_option maxRecDepth 100000 in
theorem impl_ParseSet (l : List Tk) (hS : setVld l = true) (w : World) (hM : Mx w.heap.size w) :
    Calls Tryz.prog 130 #[.string ⟨(fmtSet l).toArray⟩] w (RetTB w l true) := by
  have hl5 := setVld_len hS
  have hall : ∀ (k : Nat) (hk : k < l.length), vld l[k] = true := by
    intro k hk
    simp only [setVld, Bool.and_eq_true, List.all_eq_true] at hS
    exact hS.2 _ (List.getElem_mem hk)
  have hf : fmtSet l = setT l := by simp [fmtSet, hS]
  have hsl := setT_le l
  rw [hf]
  by_cases h0 : l = []
  · subst h0
    go_enter Tryz.func130, Tryz.ntmps130
    go_wp2_with fail
    go_ret2
    exact ⟨_, 0, rfl, OT_blank w _ (Nat.le_refl _), bal (Below.refl _ _) _⟩
  · have hp := setT_pieces h0
    have hne : setT l ≠ [] := by
      intro e
      rw [e] at hp
      have h1 := pieces_no 59 [32] [] (by simp)
      rw [h1] at hp
      cases l with
      | nil => exact h0 rfl
      | cons a r =>
        have hv := hall 0 (by simp)
        simp only [List.map_cons] at hp
        injection hp with hp _
        have : fmtTask a = taskT a := by
          simp only [List.getElem_cons_zero] at hv
          simp [fmtTask, hv]
        rw [this] at hp
        have hn := dec_ne a.low.toNat
        unfold taskT num at hp
        simp at hp
    obtain ⟨F, hF⟩ : ∃ F, setT l = F := ⟨_, rfl⟩
    rw [hF] at hp hne hsl ⊢
    have hFn : F.isEmpty = false := by simpa using hne
    have HA := Lib.hid hall
    clear hall hF hf hne
    go_enter Tryz.func130, Tryz.ntmps130
    go_wp2_with fail
    refine (split_is F 59 [32] _ hp (hM.keep (bal (Below.refl _ _) _)) (by omega)).mono ?_
    rintro e w1 ⟨rfl, rfl⟩
    rw [List.length_map]
    have hP0 := heap_alloc_new (w.alloc (.cells #[] 58)) (.cells ((l.map fmtTask).map (fun x => Value.string ⟨x.toArray⟩)).toArray 9 (0, 0))
    have hsz0 : (w.alloc (.cells #[] 58)).heap.size = w.heap.size + 1 := by simp
    go_wp2_with fail
    go_loopw [4, 16] (fun v i wr => ∃ (k bo c' : Nat), i = .int .i64 (k : Int) ∧ v = .slice (some ⟨bo, 0, none⟩) k c' ∧ k ≤ l.length ∧ OT w.heap.size wr (some ⟨bo, 0, none⟩) c' (l.take k) ∧ Hid (wr.heap[w.heap.size + 1]? = some (.cells ((l.map fmtTask).map (fun x => Value.string ⟨x.toArray⟩)).toArray 9 (0, 0))) ∧ Below w.heap.size w wr) (fun _ i _ => l.length - (intOf i).toNat)
    case atStart => exact ⟨0, _, 0, rfl, rfl, by omega, OT_alloc (OT_blank w _ (Nat.le_refl _)) _, by rw [hsz0] at hP0; simpa [Hid] using hP0, bal (bal (Below.refl _ _) _) _⟩
    case round =>
      obtain ⟨k, bo, c', rfl, rfl, hk, hO, hP, hb⟩ := hrel
      clear hP0
      by_cases hlt : k < l.length
      · have hx := flat_row hP.out k (by simpa using hlt)
        have hvt := HA.out k hlt
        simp only [List.getElem_map] at hx
        have hnx0 : l.take k ++ [l[k]] = l.take (k + 1) := by rw [List.take_succ_eq_append_getElem hlt]
        generalize l[k] = t at hx hvt hnx0
        have hnx := Lib.hid hnx0
        have hkl : Hid ((l.take k).length = k) := by rw [Hid, List.length_take]; omega
        have hft : fmtTask t = taskT t := by simp [fmtTask, hvt]
        rw [hft] at hx
        have hk5 : ((k : Int) == 5) = false := beq_eq_false_iff_ne.2 (by omega)
        have hPT := impl_ParseTask t hvt wr ((hM.keep hb).up hb.size)
        generalize taskT t = X at hx hPT
        clear hnx0 hft hvt
        go_wp2_with fail
        refine hPT.mono ?_
        rintro e w2 ⟨rfl, b2⟩
        have hO2 := OT_keep hO b2
        have B2 := bthru hb b2
        have hP2 := Lib.hid ((b2.block _ (Array.getElem?_eq_some_iff.1 hP.out).1).trans hP.out)
        clear hO hP hx hPT
        have hT0 := heap_alloc_new w2 (.cells #[.int .i64 t.low, .int .i64 t.high, .int .i64 t.due, .int .i64 t.every, .bool t.crit] 58 (0, 0))
        have hB0 := bal (Below.refl w2.heap.size w2) (.cells #[.int .i64 t.low, .int .i64 t.high, .int .i64 t.due, .int .i64 t.every, .bool t.crit] 58 (0, 0))
        go_upto_region 10 with fail
        generalize World.alloc w2 _ = w2b at hT0 hB0 ⊢
        have HT0 : w2b.heap[w2.heap.size]? = some (.cells #[.int .i64 t.low, .int .i64 t.high, .int .i64 t.due, .int .i64 t.every, .bool t.crit] 58 (0, 0)) := hT0
        obtain ⟨t0, t1, t2, t3, t4, tf⟩ := blk_five HT0
        have hO2b := OT_keep hO2 hB0
        have B2b := bthru B2 hB0
        have hP2b := Lib.hid ((hB0.block _ (Array.getElem?_eq_some_iff.1 hP2.out).1).trans hP2.out)
        clear hT0 HT0 hB0 hO2 hP2
        go_wp2_with (at_builtin; go_loud (refine wpList_app_taskN _ rfl _ _ rfl w.heap.size (some ⟨bo, 0, none⟩) (l.take k) k c' hkl.out rfl (OT_alloc hO2b _) w2b.heap.size 1 t _ 58 rfl (heap_alloc_new w2b _) rfl (by rw [hkl.out]; omega) (by have := B2b.size; simp; omega) ?_); intro A3 c3 w3 o3 g3 b3)
        have hP3 := Lib.hid (row_kept ((Below.heap_alloc w2b (.cells #[.int .i64 t.low, .int .i64 t.high, .int .i64 t.due, .int .i64 t.every, .bool t.crit] 58 (0, 0)) _ (Array.getElem?_eq_some_iff.1 hP2b.out).1).trans hP2b.out) g3 (own_ne (OT_alloc hO2b _) ((Below.heap_alloc w2b (.cells #[.int .i64 t.low, .int .i64 t.high, .int .i64 t.due, .int .i64 t.every, .bool t.crit] 58 (0, 0)) _ (Array.getElem?_eq_some_iff.1 hP2b.out).1).trans hP2b.out) (by decide)))
        obtain ⟨b4, rfl, _, _⟩ := OT_addr o3 (by simp)
        rw [hnx.out] at o3
        go_roundw
        case rel => exact ⟨k + 1, b4, c3, by go_num, rfl, by omega, o3, hP3, (bal B2b _).trans b3⟩
        case measure => simp [intOf]; omega
      · obtain rfl : k = l.length := by omega
        rw [List.take_length] at hO
        go_wp2_with fail
        go_ret2
        exact ⟨_, c', rfl, hO, hb⟩

theorem Desk.cells {B b : Nat} {w : World} {s : St} (h : Desk B b w s) : ∃ A c jv, w.cell? ⟨b, 0, none⟩ = some (.slice A s.l.length c) ∧ w.cell? ⟨b, 1, none⟩ = some jv ∧ w.cell? ⟨b, 2, none⟩ = some (.int .i64 s.pol) ∧
    w.frozen? ⟨b, 0, none⟩ = false ∧ w.frozen? ⟨b, 1, none⟩ = false ∧ w.frozen? ⟨b, 2, none⟩ = false ∧ OT B w A c s.l ∧ s.l.length ≤ c := by
  obtain ⟨hB, A, c, jv, p, v, hk, hp, hv, hO, hJ⟩ := h
  exact ⟨A, c, jv, by rw [Lib.cell_of_heap hk]; rfl, by rw [Lib.cell_of_heap hk]; rfl, by rw [Lib.cell_of_heap hk]; rfl, Lib.frozen_of_heap hk 0, Lib.frozen_of_heap hk 1, Lib.frozen_of_heap hk 2, hO, (own_size hO).1⟩
/-- The policy set. -/
theorem Desk.setPol {B b : Nat} {w : World} {s : St} (h : Desk B b w s) (p' : Int) : Desk B b (w.setCell ⟨b, 2, none⟩ (.int .i64 p')) { s with pol := p' } ∧ Frm B b w (w.setCell ⟨b, 2, none⟩ (.int .i64 p')) := by
  obtain ⟨hB, A, c, jv, p, v, hk, hp, hv, hO, hJ⟩ := h
  have g0 := gb_setCell w b 2 (.int .i64 p')
  have hvb : v.ownBlock ≠ some b := by
    intro e
    obtain ⟨cs, fz, hc⟩ := Lib.ownsRowF_kind hv b e
    rw [hk] at hc
    injection hc with hc
    injection hc with _ ht _
    exact tn3 ht
  exact ⟨⟨hB, A, c, jv, p, v, desk_blk hk 2 _, hp, hv.kept g0 (.inr hvb), own_keepX hO _ g0 (fun g hg => by cases hg; exact ⟨_, _, _, hk, tn1⟩), own_keepX hJ _ g0 (fun g hg => by cases hg; exact ⟨_, _, _, hk, tn4⟩)⟩, ⟨kept_grown g0, (Below.refl B w).setCell (p := ⟨b, 2, none⟩) hB _⟩⟩

set_option maxHeartbeats 4000000 in
set_option maxRecDepth 100000 in
theorem text_tasks (l : List Tk) (hS : setVld l = true) (s : St) (ho : s.out.length ≤ 700000) : TextIs [116, 97, 115, 107, 115] (fmtSet l) s ⟨l, 0, [], s.pol, s.out ++ (fmtSet l ++ [10])⟩ := by
  intro B b w hM D hBw
  have D0 := D
  obtain ⟨A, c, jv, c0, c1, c2, f0, f1, f2, hO, hlc⟩ := D0.cells
  go_enter Tryz.func78, Tryz.ntmps78
  go_wp2_with fail
  refine (impl_ParseSet l hS _ (hM.up hBw)).mono ?_
  rintro e w1 ⟨A1, c1', rfl, o1, b1⟩
  have D1 := D.keep b1
  have F1 := (Frm.refl B b w).thru hBw b1
  go_wp2_with fail
  refine (desk_setYes D1 A1 l c1' (own_base o1 hBw) (by omega) (Nat.le_trans hBw b1.size)).mono ?_
  rintro e w2 ⟨rfl, D2, F2⟩
  go_wp2_with fail
  go_ret
  exact ⟨rfl, D2, F1.trans F2⟩

set_option maxHeartbeats 4000000 in
set_option maxRecDepth 100000 in
theorem plain_places (s : St) (ho : s.out.length ≤ 700000) : PlainIs [112, 108, 97, 99, 101, 115] s { s with pol := 0, out := s.out ++ [111, 107, 10] } := by
  intro B b w hM D hBw
  have D0 := D
  obtain ⟨A, c, jv, c0, c1, c2, f0, f1, f2, hO, hlc⟩ := D0.cells
  go_enter Tryz.func77, Tryz.ntmps77
  have DP := D.setPol 0
  obtain ⟨D1, F1⟩ := DP
  go_wp2_with fail
  refine (desk_tell D1 [111, 107] _ rfl (by simp; omega) (Nat.le_trans hBw F1.size)).mono ?_
  rintro e w2 ⟨rfl, D2, F2⟩
  go_wp2_with fail
  go_ret
  exact ⟨rfl, D2, F1.trans F2⟩

set_option maxHeartbeats 4000000 in
set_option maxRecDepth 100000 in
theorem plain_deadlines (s : St) (ho : s.out.length ≤ 700000) : PlainIs [100, 101, 97, 100, 108, 105, 110, 101, 115] s { s with pol := 1, out := s.out ++ [111, 107, 10] } := by
  intro B b w hM D hBw
  have D0 := D
  obtain ⟨A, c, jv, c0, c1, c2, f0, f1, f2, hO, hlc⟩ := D0.cells
  go_enter Tryz.func77, Tryz.ntmps77
  have DP := D.setPol 0
  obtain ⟨D1, F1⟩ := DP
  have DQ := D1.setPol 1
  obtain ⟨D2, F2⟩ := DQ
  go_wp2_with fail
  refine (desk_tell D2 [111, 107] _ rfl (by simp; omega) (Nat.le_trans hBw (F1.trans F2).size)).mono ?_
  rintro e w3 ⟨rfl, D3, F3⟩
  go_wp2_with fail
  go_ret
  exact ⟨rfl, D3, (F1.trans F2).trans F3⟩
end
end Go.Proofs.YtmkjmancmiphfaaGreatDoor
