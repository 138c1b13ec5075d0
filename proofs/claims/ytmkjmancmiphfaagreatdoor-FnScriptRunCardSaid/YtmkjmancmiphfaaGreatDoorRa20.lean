/-
  Texts of tasks: the program's and the reference's.
  Texts of lists of tasks: the program's and the reference's.
  Texts cut at what does not occur ahead of the cut: index, cut, split: in plain Lean.
  Numbers in decimal read back, and texts of tasks cut into their parts: in plain Lean.
  What the library's walks ask of the world (Mx), and the library's contracts that texts are read with.
  The interpreter's desk: its five cells, and the builder that lies in the last two of them.
  The interpreter's desk tells a line, and takes tasks: (*desk).tell, (*desk).set.
  A line done at the desk: (*desk).do, decimal.
  RunScript: line by line, by what each line does at the desk.
-/
import Derived.Test.YtmkjmancmiphfaaGreatDoorRa18
import Derived.Test.YtmkjmancmiphfaaGreatDoorRa04
import Derived.Test.YtmkjmancmiphfaaGreatDoorRa03
import Derived.Test.YtmkjmancmiphfaaGreatDoorShelf
import Derived.Lib.Join
import Derived.Test.YtmkjmancmiphfaaGreatDoorRa01
import Derived.Lib.SplitLaws
import Derived.Lib.CutLaws
import Derived.Lib.Atoi
import Derived.Test.YtmkjmancmiphfaaGreatDoorRa05
import Derived.Lib.AtoiErrMem
import Derived.Lib.LaidTab
import Derived.Lib.AppendIntMem
import Derived.Lib.FrozenHead2
import Derived.Lib.OthersKept
namespace Go.Proofs.YtmkjmancmiphfaaGreatDoor
section
open Go.RowKit

def highT (t : Tk) : List UInt8 := if t.crit then 47 :: num t.high else []
def dueT (t : Tk) : List UInt8 := if t.due < t.every then [32, 98, 121, 32] ++ num t.due else []
def taskT (t : Tk) : List UInt8 := num t.low ++ highT t ++ ([32, 101, 118, 101, 114, 121, 32] ++ num t.every) ++ dueT t
def fmtTask (t : Tk) : List UInt8 := if vld t then taskT t else []
theorem dec_len (n : Nat) (h : n ≤ 9223372036854775807) : (Lib.decDigits n).length ≤ 21 := by
  have := Lib.itoa_length_le (n : Int) (by omega) (by omega)
  rwa [Lib.itoa, if_neg (by omega), Int.toNat_natCast] at this
theorem num_len (n : Int) (h : n ≤ 9223372036854775807) : (num n).length ≤ 21 := dec_len _ (by omega)
theorem taskT_len {t : Tk} (h : vld t = true) : (taskT t).length ≤ 100 := by
  obtain ⟨a, b, c, d, e⟩ := vld_bd h
  have h1 := num_len t.low (by omega)
  have h2 := num_len t.high (by omega)
  have h3 := num_len t.due (by omega)
  have h4 := num_len t.every (by omega)
  have hh : (highT t).length ≤ 22 := by
    unfold highT
    split <;> simp <;> omega
  have hd : (dueT t).length ≤ 25 := by
    unfold dueT
    split <;> simp <;> omega
  simp only [taskT, List.length_append, List.length_cons, List.length_nil]
  omega
theorem fmtTask_len (t : Tk) : (fmtTask t).length ≤ 100 := by
  unfold fmtTask
  split
  · exact taskT_len (by assumption)
  · simp
theorem itoa_num (n : Int) (h0 : 0 ≤ n) (h1 : n < 100) (w : World) :
    Calls Tryz.prog 38 #[.int .i64 n] w fun e w' => e = .returned (.string ⟨(num n).toArray⟩) ∧ w' = w := by
  have K := Tryz.strconv_Itoa_small n.toNat (by omega) w
  rw [Int.toNat_of_nonneg h0] at K
  exact K
set_option maxHeartbeats 2000000 in
theorem impl_FormatTask (t : Tk) (w : World) :
    Calls Tryz.prog 35 #[t.val] w fun e w' => e = .returned (.string ⟨(fmtTask t).toArray⟩) ∧ Below w.heap.size w w' := by
  cases hv : vld t with
  | false =>
    have HF : Hid (fmtTask t = []) := by simp [Hid, fmtTask, hv]
    go_enter Tryz.func35, Tryz.ntmps35
    go_wp2_with fail
    refine (impl_TaskValid t _).mono ?_
    rw [hv]
    rintro e w1 ⟨rfl, b1⟩
    go_wp2_with fail
    go_ret
    exact ⟨by rw [HF.out]; rfl, bthru (bal (Below.refl _ _) _) b1⟩
  | true =>
    obtain ⟨h1, h2, h3, h4, h5⟩ := vld_bd hv
    have HF : Hid (fmtTask t = taskT t) := by simp [Hid, fmtTask, hv]
    have HV := Lib.hid hv
    clear hv
    have l1 := num_len t.low (by omega)
    have l2 := num_len t.high (by omega)
    have l3 := num_len t.due (by omega)
    have l4 := num_len t.every (by omega)
    cases hc : t.crit with
    | true =>
      have HC := Lib.hid hc
      clear hc
      by_cases hd : t.due < t.every
      · have HR : Hid (taskT t = num t.low ++ ([47] ++ num t.high) ++ ([32, 101, 118, 101, 114, 121, 32] ++ num t.every) ++ ([32, 98, 121, 32] ++ num t.due)) := by
          rw [Hid, taskT, highT, dueT, HC.out]
          simp [hd]
        go_enter Tryz.func35, Tryz.ntmps35
        go_wp2_with fail
        refine (impl_TaskValid t _).mono ?_
        rw [HV.out]
        rintro e w1 ⟨rfl, b1⟩
        have hN := (b1.block w.heap.size (by simp)).trans (heap_alloc_new w _)
        obtain ⟨k0, k1, k2, k3, k4, _⟩ := blk_five hN
        rw [HC.out] at k4
        have B := bthru (bal (Below.refl w.heap.size w) _) b1
        have hlt : w.heap.size < w1.heap.size := Nat.lt_of_lt_of_le (by simp) b1.size
        clear hN b1
        go_wp2_with fail
        refine (itoa_num t.low (by omega) (by omega) _).mono ?_
        rintro e w2 ⟨rfl, rfl⟩
        go_wp2_with fail
        refine (itoa_num t.high (by omega) (by omega) _).mono ?_
        rintro e w3 ⟨rfl, rfl⟩
        go_wp2_with fail
        refine (itoa_num t.every (by omega) (by omega) _).mono ?_
        rintro e w4 ⟨rfl, rfl⟩
        go_wp2_with fail
        refine (itoa_num t.due (by omega) (by omega) _).mono ?_
        rintro e w5 ⟨rfl, rfl⟩
        go_wp2_with fail
        go_ret
        refine ⟨?_, B⟩
        rw [HF.out, HR.out]
        have e : num t.low ++ ([47] ++ num t.high) ++ ([32, 101, 118, 101, 114, 121, 32] ++ num t.every) ++ ([32, 98, 121, 32] ++ num t.due) = (((num t.low ++ ([47] ++ num t.high)) ++ ([32, 101, 118, 101, 114, 121, 32] ++ num t.every)) ++ ([32, 98, 121, 32] ++ num t.due)) := by simp [List.append_assoc]
        rw [e]
        simp only [← mk_app]
        rfl
      · have HR : Hid (taskT t = num t.low ++ ([47] ++ num t.high) ++ ([32, 101, 118, 101, 114, 121, 32] ++ num t.every) ++ ([])) := by
          rw [Hid, taskT, highT, dueT, HC.out]
          simp [hd]
        go_enter Tryz.func35, Tryz.ntmps35
        go_wp2_with fail
        refine (impl_TaskValid t _).mono ?_
        rw [HV.out]
        rintro e w1 ⟨rfl, b1⟩
        have hN := (b1.block w.heap.size (by simp)).trans (heap_alloc_new w _)
        obtain ⟨k0, k1, k2, k3, k4, _⟩ := blk_five hN
        rw [HC.out] at k4
        have B := bthru (bal (Below.refl w.heap.size w) _) b1
        have hlt : w.heap.size < w1.heap.size := Nat.lt_of_lt_of_le (by simp) b1.size
        clear hN b1
        go_wp2_with fail
        refine (itoa_num t.low (by omega) (by omega) _).mono ?_
        rintro e w2 ⟨rfl, rfl⟩
        go_wp2_with fail
        refine (itoa_num t.high (by omega) (by omega) _).mono ?_
        rintro e w3 ⟨rfl, rfl⟩
        go_wp2_with fail
        refine (itoa_num t.every (by omega) (by omega) _).mono ?_
        rintro e w4 ⟨rfl, rfl⟩
        go_wp2_with fail
        go_ret
        refine ⟨?_, B⟩
        rw [HF.out, HR.out]
        have e : num t.low ++ ([47] ++ num t.high) ++ ([32, 101, 118, 101, 114, 121, 32] ++ num t.every) ++ ([]) = ((num t.low ++ ([47] ++ num t.high)) ++ ([32, 101, 118, 101, 114, 121, 32] ++ num t.every)) := by simp [List.append_assoc]
        rw [e]
        simp only [← mk_app]
        rfl
    | false =>
      have HC := Lib.hid hc
      clear hc
      by_cases hd : t.due < t.every
      · have HR : Hid (taskT t = num t.low ++ ([]) ++ ([32, 101, 118, 101, 114, 121, 32] ++ num t.every) ++ ([32, 98, 121, 32] ++ num t.due)) := by
          rw [Hid, taskT, highT, dueT, HC.out]
          simp [hd]
        go_enter Tryz.func35, Tryz.ntmps35
        go_wp2_with fail
        refine (impl_TaskValid t _).mono ?_
        rw [HV.out]
        rintro e w1 ⟨rfl, b1⟩
        have hN := (b1.block w.heap.size (by simp)).trans (heap_alloc_new w _)
        obtain ⟨k0, k1, k2, k3, k4, _⟩ := blk_five hN
        rw [HC.out] at k4
        have B := bthru (bal (Below.refl w.heap.size w) _) b1
        have hlt : w.heap.size < w1.heap.size := Nat.lt_of_lt_of_le (by simp) b1.size
        clear hN b1
        go_wp2_with fail
        refine (itoa_num t.low (by omega) (by omega) _).mono ?_
        rintro e w2 ⟨rfl, rfl⟩
        go_wp2_with fail
        refine (itoa_num t.every (by omega) (by omega) _).mono ?_
        rintro e w3 ⟨rfl, rfl⟩
        go_wp2_with fail
        refine (itoa_num t.due (by omega) (by omega) _).mono ?_
        rintro e w4 ⟨rfl, rfl⟩
        go_wp2_with fail
        go_ret
        refine ⟨?_, B⟩
        rw [HF.out, HR.out]
        have e : num t.low ++ ([]) ++ ([32, 101, 118, 101, 114, 121, 32] ++ num t.every) ++ ([32, 98, 121, 32] ++ num t.due) = ((num t.low ++ ([32, 101, 118, 101, 114, 121, 32] ++ num t.every)) ++ ([32, 98, 121, 32] ++ num t.due)) := by simp [List.append_assoc]
        rw [e]
        simp only [← mk_app]
        rfl
      · have HR : Hid (taskT t = num t.low ++ ([]) ++ ([32, 101, 118, 101, 114, 121, 32] ++ num t.every) ++ ([])) := by
          rw [Hid, taskT, highT, dueT, HC.out]
          simp [hd]
        go_enter Tryz.func35, Tryz.ntmps35
        go_wp2_with fail
        refine (impl_TaskValid t _).mono ?_
        rw [HV.out]
        rintro e w1 ⟨rfl, b1⟩
        have hN := (b1.block w.heap.size (by simp)).trans (heap_alloc_new w _)
        obtain ⟨k0, k1, k2, k3, k4, _⟩ := blk_five hN
        rw [HC.out] at k4
        have B := bthru (bal (Below.refl w.heap.size w) _) b1
        have hlt : w.heap.size < w1.heap.size := Nat.lt_of_lt_of_le (by simp) b1.size
        clear hN b1
        go_wp2_with fail
        refine (itoa_num t.low (by omega) (by omega) _).mono ?_
        rintro e w2 ⟨rfl, rfl⟩
        go_wp2_with fail
        refine (itoa_num t.every (by omega) (by omega) _).mono ?_
        rintro e w3 ⟨rfl, rfl⟩
        go_wp2_with fail
        go_ret
        refine ⟨?_, B⟩
        rw [HF.out, HR.out]
        have e : num t.low ++ ([]) ++ ([32, 101, 118, 101, 114, 121, 32] ++ num t.every) ++ ([]) = (num t.low ++ ([32, 101, 118, 101, 114, 121, 32] ++ num t.every)) := by simp
        rw [e]
        simp only [← mk_app]
        rfl
end

section
open Go.RowKit

/-! ### Lists of texts -/
theorem infoStr : (Tryz.prog.info? 9).map (fun i => (i.zero, i.size, i.bytes)) = some (some (.string ⟨#[]⟩), 1, 16) := by kernel_rfl
def strs (xs : List (List UInt8)) : List Value := xs.map (fun x => Value.string ⟨x.toArray⟩)
def OS (base : Nat) (w : World) (A : Option Addr) (c : Nat) (xs : List (List UInt8)) : Prop := w.ownsRow base 9 1 (.slice A xs.length c) xs.length (strs xs)
theorem OS_blank (w : World) (base : Nat) (hb : base ≤ w.heap.size) : OS base (w.alloc (.cells #[] 9)) (some ⟨w.heap.size, 0, none⟩) 0 [] := own_blank w _ 1 base hb
theorem OS_alloc {base : Nat} {w : World} {A : Option Addr} {c : Nat} {xs : List (List UInt8)} (h : OS base w A c xs) (o : Obj) : OS base (w.alloc o) A c xs := World.ownsRow.alloc h o
theorem OS_keep {base : Nat} {w w' : World} {A : Option Addr} {c : Nat} {xs : List (List UInt8)} (h : OS base w A c xs) (hb : Below w.heap.size w w') : OS base w' A c xs := own_keep h hb
theorem OS_addr {base : Nat} {w : World} {A : Option Addr} {c : Nat} {xs : List (List UInt8)} (h : OS base w A c xs) (hl : 0 < xs.length) : ∃ b, A = some ⟨b, 0, none⟩ ∧ base ≤ b ∧ b < w.heap.size := by
  rcases h.2 with ⟨_, h0⟩ | ⟨g, cap, cur, hv, hg, hh, _⟩
  · omega
  · injection hv with hA
    exact ⟨g, hA, hg, (Array.getElem?_eq_some_iff.1 hh).1⟩
theorem wpList_app_str (w : World) {ops : Array Oper} {rest : List Oper} {o : Oper} {a : Act} {Q : Exit → Act → World → Prop} (hgd : o.guard = none) (s x : Operand)
    (ho : o.op = .call { callee := .builtin .append, args := #[s, x], argTypes := #[69, 69] })
    (base : Nat) (A : Option Addr) (l : List (List UInt8)) (n c : Nat) (hn : l.length = n) (hs : a.eval s = .slice A n c) (hown : OS base w A c l)
    (b c1 : Nat) (y : List UInt8) (ty : TypeId) (hx : a.eval x = .slice (some ⟨b, 0, none⟩) 1 c1) (hb : w.heap[b]? = some (.cells #[.string ⟨y.toArray⟩] ty (0, 0)))
    (hl : l.length ≤ 2000000) (hbase : base ≤ w.heap.size)
    (h : ∀ A' c' w', OS base w' A' c' (l ++ [y]) → w.grownBy w' (Value.slice A n c).ownBlock → Below base w w' → wpList Tryz.prog ops Q rest (a.put o.dst (.slice A' (n + 1) c')) w') : wpList Tryz.prog ops Q (o :: rest) a w := by
  subst hn
  obtain ⟨i0, hi, hz0, hz1, hz2⟩ := info_parts infoStr
  refine wpList_append_own w hgd s x 69 ho base 9 i0 _ 1 16 Tryz.underlying69 hi hz0 hz1 hz2 rfl (by decide) (.slice A l.length c) l.length (strs l) hs hown
    ⟨b, 0, none⟩ 1 c1 [.string ⟨y.toArray⟩] hx rfl ?_ ?_ (by unfold maxLen; omega) (by omega) hbase ?_
  · intro j u hj
    rw [addr_add0, cell_of_row w b j _ ty (0, 0) hb, ← Array.getElem?_toList]
    exact hj
  · intro u hu
    simp at hu
    subst hu
    rfl
  · intro v' w' hown' hg _
    obtain ⟨A', c', rfl⟩ := own_form hown'
    refine h A' c' w' ?_ hg (own_below hown hg hbase)
    unfold OS
    rw [List.length_append, List.length_singleton]
    have e : strs (l ++ [y]) = strs l ++ [.string ⟨y.toArray⟩] := by simp [strs]
    rw [e]
    exact hown'

/-! ### Joined texts -/
theorem joinTail_le (sep : List UInt8) (m : Nat) (r : List (List UInt8)) (h : ∀ x ∈ r, x.length ≤ m) : (Lib.joinTail sep r).length ≤ r.length * (m + sep.length) := by
  induction r with
  | nil => simp [Lib.joinTail]
  | cons x r ih =>
    have h1 := ih (fun y hy => h y (List.mem_cons_of_mem _ hy))
    have h2 := h x (by simp)
    have e : Lib.joinTail sep (x :: r) = (sep ++ x) ++ Lib.joinTail sep r := by simp [Lib.joinTail]
    rw [e, List.length_append, List.length_append, List.length_cons, Nat.succ_mul]
    omega
theorem join_le (sep : List UInt8) (m : Nat) (r : List (List UInt8)) (h : ∀ x ∈ r, x.length ≤ m) : (Lib.join r sep).length ≤ r.length * (m + sep.length) := by
  cases r with
  | nil => simp [Lib.join_nil]
  | cons x r =>
    rw [Lib.join_cons, List.length_append, List.length_cons, Nat.succ_mul]
    have h1 := joinTail_le sep m r (fun y hy => h y (List.mem_cons_of_mem _ hy))
    have h2 := h x (by simp)
    omega
def setT (l : List Tk) : List UInt8 := Lib.join (l.map fmtTask) [59, 32]
def fmtSet (l : List Tk) : List UInt8 := if setVld l then setT l else []
theorem setT_le (l : List Tk) : (setT l).length ≤ l.length * 102 := by
  have := join_le [59, 32] 100 (l.map fmtTask) (by
    intro x hx
    obtain ⟨t, _, rfl⟩ := List.mem_map.1 hx
    exact fmtTask_len t)
  rw [List.length_map] at this
  exact this
theorem setVld_len {l : List Tk} (h : setVld l = true) : l.length ≤ 5 := by
  simp only [setVld, Bool.and_eq_true, decide_eq_true_eq] at h
  exact h.1
theorem fmtSet_le (l : List Tk) : (fmtSet l).length ≤ 510 := by
  unfold fmtSet
  split
  · rename_i h
    have h1 := setT_le l
    have h2 := setVld_len h
    omega
  · simp

set_option maxHeartbeats 2000000 in
theorem impl_FormatSet (A : Option Addr) (l : List Tk) (c : Nat) (w : World) (h : TS w A l) :
    Calls Tryz.prog 11 #[.slice A l.length c] w fun e w' => e = .returned (.string ⟨(fmtSet l).toArray⟩) ∧ Below w.heap.size w w' := by
  cases hS : setVld l with
  | false =>
    have HF : Hid (fmtSet l = []) := by simp [Hid, fmtSet, hS]
    go_enter Tryz.func11, Tryz.ntmps11
    go_wp2_with fail
    refine (impl_SetValid A l c _ h).mono ?_
    rw [hS]
    rintro e w1 ⟨rfl, b1⟩
    go_wp2_with fail
    go_ret
    exact ⟨by rw [HF.out]; rfl, b1⟩
  | true =>
    have hl5 := setVld_len hS
    have HF : Hid (fmtSet l = setT l) := by simp [Hid, fmtSet, hS]
    have hsl := setT_le l
    have HS := Lib.hid hS
    clear hS
    go_enter Tryz.func11, Tryz.ntmps11
    go_wp2_with fail
    refine (impl_SetValid A l c _ h).mono ?_
    rw [HS.out]
    rintro e w1 ⟨rfl, b1⟩
    go_wp2_with fail
    go_loopw [3, 12] (fun v i wr => ∃ (k bo c' : Nat), i = .int .i64 (k : Int) ∧ v = .slice (some ⟨bo, 0, none⟩) k c' ∧ k ≤ l.length ∧ OS w.heap.size wr (some ⟨bo, 0, none⟩) c' ((l.take k).map fmtTask) ∧ Below w.heap.size w wr) (fun _ i _ => l.length - (intOf i).toNat)
    case atStart => exact ⟨0, _, 0, rfl, rfl, by omega, OS_blank w1 _ b1.size, bal b1 _⟩
    case round =>
      obtain ⟨k, bo, c', rfl, rfl, hk, hO, hb⟩ := hrel
      by_cases hlt : k < l.length
      · obtain ⟨b, off, rfl, hbl, hc⟩ := h.keep hb (by omega)
        obtain ⟨k0, k1, k2, k3, k4⟩ := task_cells hc k hlt
        clear hc
        have hnx0 : (l.take k).map fmtTask ++ [fmtTask l[k]] = (l.take (k + 1)).map fmtTask := by rw [List.take_succ_eq_append_getElem hlt, List.map_append]; rfl
        generalize l[k] = t at k0 k1 k2 k3 k4 hnx0
        have hnx := Lib.hid hnx0
        clear hnx0
        have hkl : Hid (((l.take k).map fmtTask).length = k) := by rw [Hid, List.length_map, List.length_take]; omega
        have B1 := bal (Below.refl wr.heap.size wr) (.cells #[.int .i64 t.low, .int .i64 t.high, .int .i64 t.due, .int .i64 t.every, .bool t.crit] 58)
        go_wp2_with fail
        refine (impl_FormatTask t _).mono ?_
        rintro e w2 ⟨rfl, b2⟩
        have hO2 := OS_keep (OS_alloc hO _) b2
        have B2 : Below w.heap.size w w2 := bthru (bal hb _) b2
        clear k0 k1 k2 k3 k4 hO
        generalize (l.take k).map fmtTask = xs at *
        go_wp2_with (at_builtin; refine wpList_app_str _ rfl _ _ rfl w.heap.size (some ⟨bo, 0, none⟩) xs k c' hkl.out rfl (OS_alloc hO2 _) w2.heap.size 1 (fmtTask t) 9 rfl (heap_alloc_new w2 _) (by rw [hkl.out]; omega) (by have := B2.size; simp; omega) ?_; intro A3 c3 w3 o3 g3 b3)
        obtain ⟨b4, rfl, _, _⟩ := OS_addr o3 (by simp)
        rw [hnx.out] at o3
        go_roundw
        case rel => exact ⟨k + 1, b4, c3, by go_num, rfl, by omega, o3, (bal B2 _).trans b3⟩
        case measure => simp [intOf]; omega
      · obtain rfl : k = l.length := by omega
        rw [List.take_length] at hO
        have hlen : (l.map fmtTask).length = l.length := List.length_map ..
        have hsz := own_size hO
        obtain ⟨hs1, hs2⟩ := hsz
        have hcell : ∀ (j : Nat) x, (l.map (fun t => (⟨(fmtTask t).toArray⟩ : ByteArray)))[j]? = some x → wr.cell? ⟨bo, 0 + j, none⟩ = some (.string x) := by
          intro j x hj
          have := World.ownsRow.cells hO (g := bo) rfl j (.string x) (by
            simp only [strs, List.getElem?_map] at hj ⊢
            cases e : l[j]? with
            | none => rw [e] at hj; cases hj
            | some t => rw [e] at hj; simp at hj ⊢; exact hj)
          rw [Nat.zero_add]
          rwa [addr_add0] at this
        have hbw : bo < wr.heap.size := by
          rcases hO.2 with ⟨hv, _⟩ | ⟨g, cap, cur, hv, hg, hh, _⟩
          · cases hv
          · cases hv
            exact (Array.getElem?_eq_some_iff.1 hh).1
        have K := Tryz.strings_Join bo 0 c' (l.map (fun t => (⟨(fmtTask t).toArray⟩ : ByteArray))) ⟨#[59, 32]⟩ wr hcell hbw (by simp; omega) (by simp; omega)
        have e1 : (l.map (fun t => (⟨(fmtTask t).toArray⟩ : ByteArray))).map (·.data.toList) = l.map fmtTask := by simp
        rw [e1] at K
        have e2 : (l.map (fun t => (⟨(fmtTask t).toArray⟩ : ByteArray))).length = l.length := List.length_map ..
        have K2 := K (by show (setT l).length ≤ _; omega)
        rw [e2] at K2
        clear K e1 e2 hcell hO hs1 hs2
        go_wp2_with fail
        refine K2.mono ?_
        rintro e w4 ⟨rfl, b4⟩
        go_wp2_with fail
        go_ret
        exact ⟨by rw [HF.out]; rfl, bthru hb b4⟩
end

section
open Go.RowKit

theorem index_app (c : UInt8) (sep x r : List UInt8) (h : c ∉ x) : Go.Lib.index (x ++ (c :: sep) ++ r) (c :: sep) = (x.length : Int) := by
  induction x with
  | nil =>
    rw [List.nil_append, List.cons_append, Go.Lib.index, if_pos (by simp [List.isPrefixOf])]
    rfl
  | cons b x ih =>
    have hb : c ≠ b := fun e => h (by simp [e])
    have hx : c ∉ x := fun e => h (by simp [e])
    rw [List.cons_append, List.cons_append, Go.Lib.index, if_neg (by simp [List.isPrefixOf, hb]), ih hx, if_neg (by simp)]
    simp
theorem index_no (c : UInt8) (sep x : List UInt8) (h : c ∉ x) : Go.Lib.index x (c :: sep) = -1 := by
  induction x with
  | nil => rw [Go.Lib.index, if_neg (by simp)]
  | cons b x ih =>
    have hb : c ≠ b := fun e => h (by simp [e])
    have hx : c ∉ x := fun e => h (by simp [e])
    rw [Go.Lib.index, if_neg (by simp [List.isPrefixOf, hb]), ih hx]
    rfl
theorem cut_app (c : UInt8) (sep x r : List UInt8) (h : c ∉ x) : Go.Lib.cut (x ++ (c :: sep) ++ r) (c :: sep) = (x, r, true) := by
  unfold Go.Lib.cut
  rw [index_app c sep x r h, if_pos (by omega), Int.toNat_natCast, List.append_assoc, List.take_left', ← List.append_assoc]
  · rw [← List.length_append, List.drop_left']
    rfl
  · rfl
theorem cut_no (c : UInt8) (sep x : List UInt8) (h : c ∉ x) : Go.Lib.cut x (c :: sep) = (x, [], false) := by
  unfold Go.Lib.cut
  rw [index_no c sep x h, if_neg (by omega)]

/-- The pieces of a text, as bytes. -/
def pieces (sep s : List UInt8) : List (List UInt8) := (Go.Lib.splitB ⟨sep.toArray⟩ 0 (Go.Lib.countB ⟨s.toArray⟩ ⟨sep.toArray⟩) ⟨s.toArray⟩).map (fun x => x.data.toList)
theorem pieces_val (sep s : List UInt8) : (Go.Lib.splitB ⟨sep.toArray⟩ 0 (Go.Lib.countB ⟨s.toArray⟩ ⟨sep.toArray⟩) ⟨s.toArray⟩).map Value.string = (pieces sep s).map (fun x => Value.string ⟨x.toArray⟩) := by
  unfold pieces
  rw [List.map_map]
  apply List.map_congr_left
  intro x _
  simp [Function.comp]
theorem pieces_no (c : UInt8) (sep x : List UInt8) (h : c ∉ x) : pieces (c :: sep) x = [x] := by
  have hi : Go.Lib.indexB ⟨x.toArray⟩ ⟨(c :: sep).toArray⟩ = -1 := index_no c sep x h
  unfold pieces
  rw [Go.Lib.countB_miss _ _ hi, Go.Lib.splitB_zero]
  rfl
theorem pieces_app (c : UInt8) (sep x r : List UInt8) (h : c ∉ x) : pieces (c :: sep) (x ++ (c :: sep) ++ r) = x :: pieces (c :: sep) r := by
  have hi : Go.Lib.indexB ⟨(x ++ (c :: sep) ++ r).toArray⟩ ⟨(c :: sep).toArray⟩ = (x.length : Int) := index_app c sep x r h
  have e1 : (⟨(x ++ (c :: sep) ++ r).toArray⟩ : ByteArray).extract (x.length + (⟨(c :: sep).toArray⟩ : ByteArray).size) (⟨(x ++ (c :: sep) ++ r).toArray⟩ : ByteArray).size = ⟨r.toArray⟩ := by
    rw [Go.Lib.extract_eq, Go.Lib.size_eq, Go.Lib.size_eq]
    show (⟨((List.drop (x.length + (c :: sep).length) (x ++ (c :: sep) ++ r)).take ((x ++ (c :: sep) ++ r).length - (x.length + (c :: sep).length))).toArray⟩ : ByteArray) = _
    rw [← List.length_append, List.drop_left', List.take_of_length_le]
    · simp
      omega
    · rfl
  have e0 : (⟨(x ++ (c :: sep) ++ r).toArray⟩ : ByteArray).extract 0 (x.length + 0) = ⟨x.toArray⟩ := by
    rw [Go.Lib.extract_eq]
    show (⟨((List.drop 0 (x ++ (c :: sep) ++ r)).take (x.length + 0 - 0)).toArray⟩ : ByteArray) = _
    rw [List.drop_zero, List.append_assoc, Nat.sub_zero, Nat.add_zero, List.take_left']
    rfl
  have h1 : 1 ≤ (⟨(c :: sep).toArray⟩ : ByteArray).size := by rw [Go.Lib.size_eq]; show 1 ≤ (c :: sep).length; simp
  unfold pieces
  rw [Go.Lib.countB_hit _ _ _ h1 hi, e1, Nat.add_comm 1, Go.Lib.splitB_hit _ _ _ _ _ hi, e0, e1]
  rfl
theorem pieces_len (sep s : List UInt8) (h : sep ≠ []) : (pieces sep s).length = Go.Lib.countB ⟨s.toArray⟩ ⟨sep.toArray⟩ + 1 := by
  unfold pieces
  rw [List.length_map]
  refine Go.Lib.splitB_all _ ?_ 0 _ _ rfl
  rw [Go.Lib.size_eq]
  show 1 ≤ sep.length
  cases sep with
  | nil => exact absurd rfl h
  | cons => simp
theorem pieces_join (c : UInt8) (sep : List UInt8) (xs : List (List UInt8)) (hx : ∀ x ∈ xs, c ∉ x) (h0 : xs ≠ []) : pieces (c :: sep) (Go.Lib.join xs (c :: sep)) = xs := by
  induction xs with
  | nil => exact absurd rfl h0
  | cons x r ih =>
    cases r with
    | nil =>
      have : Go.Lib.join [x] (c :: sep) = x := by simp [Go.Lib.join_cons, Go.Lib.joinTail]
      rw [this]
      exact pieces_no c sep x (hx x (by simp))
    | cons y r =>
      have e : Go.Lib.join (x :: y :: r) (c :: sep) = x ++ (c :: sep) ++ Go.Lib.join (y :: r) (c :: sep) := by simp [Go.Lib.join_cons, Go.Lib.joinTail]
      rw [e, pieces_app c sep x _ (hx x (by simp)), ih (fun z hz => hx z (List.mem_cons_of_mem _ hz)) (by simp)]

theorem dec_mem (n : Nat) : ∀ b ∈ Lib.decDigits n, 48 ≤ b.toNat ∧ b.toNat ≤ 57 := by
  induction n using Nat.strongRecOn with
  | _ n ih =>
    intro b hb
    have dig : ∀ d, d < 10 → 48 ≤ (UInt8.ofNat (48 + d)).toNat ∧ (UInt8.ofNat (48 + d)).toNat ≤ 57 := by
      intro d hd
      rw [UInt8.toNat_ofNat', Nat.mod_eq_of_lt (by omega)]
      omega
    by_cases h : n < 10
    · rw [dec_small n h, List.mem_singleton] at hb
      subst hb
      exact dig n h
    · rw [dec_big n h, List.mem_append, List.mem_singleton] at hb
      rcases hb with hb | rfl
      · exact ih (n / 10) (by omega) b hb
      · exact dig _ (by omega)
theorem decFrom_snoc (l : List UInt8) (b : UInt8) (acc m d : Nat) (h : Lib.decFrom acc l = some m) (hb : Lib.digitVal b = some d) : Lib.decFrom acc (l ++ [b]) = some (m * 10 + d) := by
  induction l generalizing acc with
  | nil =>
    simp only [Lib.decFrom, Option.some.injEq] at h
    subst h
    simp [Lib.decFrom, hb]
  | cons a t ih =>
    rw [List.cons_append]
    simp only [Lib.decFrom] at h ⊢
    cases ha : Lib.digitVal a with
    | none => simp [ha] at h
    | some e =>
      simp only [ha] at h ⊢
      exact ih _ h
theorem digitVal_of (d : Nat) (h : d < 10) : Lib.digitVal (UInt8.ofNat (48 + d)) = some d := by
  have e : (UInt8.ofNat (48 + d)).toNat = 48 + d := by rw [UInt8.toNat_ofNat', Nat.mod_eq_of_lt (by omega)]
  unfold Lib.digitVal
  rw [e, if_pos (by omega)]
  congr 1
  omega
theorem decFrom_dec (n : Nat) : Lib.decFrom 0 (Lib.decDigits n) = some n := by
  induction n using Nat.strongRecOn with
  | _ n ih =>
    by_cases h : n < 10
    · rw [dec_small n h]
      have := decFrom_snoc [] (UInt8.ofNat (48 + n)) 0 0 n rfl (digitVal_of n h)
      simpa using this
    · rw [dec_big n h, decFrom_snoc _ _ 0 (n / 10) (n % 10) (ih (n / 10) (by omega)) (digitVal_of _ (by omega))]
      congr 1
      omega
theorem dec_ne (n : Nat) : Lib.decDigits n ≠ [] := by
  by_cases h : n < 10
  · rw [dec_small n h]
    simp
  · rw [dec_big n h]
    simp
theorem atoi_num (n : Int) (h : 0 ≤ n) : Lib.atoi (num n) = some n := by
  have h1 := dec_mem n.toNat
  have h2 := decFrom_dec n.toNat
  have h3 := dec_ne n.toNat
  unfold num
  cases hl : Lib.decDigits n.toNat with
  | nil => exact absurd hl h3
  | cons b r =>
    rw [hl] at h1 h2
    have hb := h1 b (by simp)
    have n45 : (b == 45) = false := by
      apply beq_eq_false_iff_ne.2
      rintro rfl
      revert hb
      decide
    have n43 : (b == 43) = false := by
      apply beq_eq_false_iff_ne.2
      rintro rfl
      revert hb
      decide
    simp only [Lib.atoi, n45, n43, Bool.false_eq_true, if_false, Lib.decNat, List.isEmpty_cons, h2, Option.map_some, Option.some.injEq]
    omega
theorem num_no (c : UInt8) (n : Int) (h : c.toNat < 48 ∨ 57 < c.toNat) : c ∉ num n := by
  intro e
  have := dec_mem n.toNat c e
  omega

/-- What stands ahead of " every ", and behind. -/
def needT (t : Tk) : List UInt8 := num t.low ++ highT t
def restT (t : Tk) : List UInt8 := num t.every ++ dueT t
theorem taskT_cut (t : Tk) : Lib.cut (taskT t) [32, 101, 118, 101, 114, 121, 32] = (needT t, restT t, true) := by
  have e : taskT t = needT t ++ (32 :: [101, 118, 101, 114, 121, 32]) ++ restT t := by simp [taskT, needT, restT]
  rw [e]
  refine cut_app _ _ _ _ ?_
  unfold needT highT
  intro h
  rw [List.mem_append] at h
  rcases h with h | h
  · exact num_no 32 _ (by decide) h
  · split at h
    · simp only [List.mem_cons] at h
      rcases h with h | h
      · revert h; decide
      · exact num_no 32 _ (by decide) h
    · simp at h
theorem needT_crit {t : Tk} (h : t.crit = true) : Lib.cut (needT t) [47] = (num t.low, num t.high, true) := by
  have e : needT t = num t.low ++ (47 :: []) ++ num t.high := by simp [needT, highT, h]
  rw [e]
  exact cut_app _ _ _ _ (num_no 47 _ (by decide))
theorem needT_not {t : Tk} (h : t.crit = false) : Lib.cut (needT t) [47] = (num t.low, [], false) := by
  have e : needT t = num t.low := by simp [needT, highT, h]
  rw [e]
  exact cut_no _ _ _ (num_no 47 _ (by decide))
theorem restT_due {t : Tk} (h : t.due < t.every) : Lib.cut (restT t) [32, 98, 121, 32] = (num t.every, num t.due, true) := by
  have e : restT t = num t.every ++ (32 :: [98, 121, 32]) ++ num t.due := by simp [restT, dueT, h]
  rw [e]
  exact cut_app _ _ _ _ (num_no 32 _ (by decide))
theorem restT_not {t : Tk} (h : ¬ t.due < t.every) : Lib.cut (restT t) [32, 98, 121, 32] = (num t.every, [], false) := by
  have e : restT t = num t.every := by simp [restT, dueT, h]
  rw [e]
  exact cut_no _ _ _ (num_no 32 _ (by decide))
theorem taskT_no (c : UInt8) (t : Tk) (h : c = 59 ∨ c = 10) : c ∉ taskT t := by
  have hc : c.toNat < 48 ∨ 57 < c.toNat := by rcases h with rfl | rfl <;> decide
  have hn : ∀ n, c ∉ num n := fun n => num_no c n hc
  intro hm
  unfold taskT highT dueT at hm
  simp only [List.mem_append, List.mem_cons] at hm
  rcases h with rfl | rfl <;> (revert hm; split <;> split <;> simp [hn])
theorem fmtTask_no (c : UInt8) (t : Tk) (h : c = 59 ∨ c = 10) : c ∉ fmtTask t := by
  unfold fmtTask
  split
  · exact taskT_no c t h
  · simp
theorem setT_pieces {l : List Tk} (h : l ≠ []) : pieces [59, 32] (setT l) = l.map fmtTask := by
  refine pieces_join 59 [32] _ ?_ (by simpa using h)
  intro x hx
  obtain ⟨t, _, rfl⟩ := List.mem_map.1 hx
  exact fmtTask_no 59 t (.inl rfl)
theorem join_no (c : UInt8) (xs : List (List UInt8)) (sep : List UInt8) (hx : ∀ x ∈ xs, c ∉ x) (hs : c ∉ sep) : c ∉ Lib.join xs sep := by
  cases xs with
  | nil => simp [Lib.join_nil]
  | cons x r =>
    rw [Lib.join_cons, List.mem_append]
    rintro (h | h)
    · exact hx x (by simp) h
    · simp only [Lib.joinTail, List.mem_flatten, List.mem_map] at h
      obtain ⟨y, ⟨z, hz, rfl⟩, hy⟩ := h
      rw [List.mem_append] at hy
      rcases hy with hy | hy
      · exact hs hy
      · exact hx z (List.mem_cons_of_mem _ hz) hy
theorem fmtSet_no (l : List Tk) : (10 : UInt8) ∉ fmtSet l := by
  unfold fmtSet
  split
  · refine join_no 10 _ _ ?_ (by decide)
    intro x hx
    obtain ⟨t, _, rfl⟩ := List.mem_map.1 hx
    exact fmtTask_no 10 t (.inr rfl)
  · simp
end

section
open Go.RowKit

/-- The variable that the search reads holds some number; the table of powers of ten lies as it was made; both lie below B. -/
structure Mx (B : Nat) (w : World) : Prop where
  max : ∃ m : Int, w.cell? ⟨0, 0, none⟩ = some (.int .i64 m)
  maxLt : 0 < B
  tab : Lib.TabIs Tryz.prog w "internal/strconv.uint64pow10" .u64 Lib.pow10Tab
  tabLt : 1 < B
theorem Mx.keep {B : Nat} {w w' : World} (h : Mx B w) (hb : Below B w w') : Mx B w' := by
  obtain ⟨⟨m, h1⟩, h2, h3, h4⟩ := h
  refine ⟨⟨m, (hb.cell (p := ⟨0, 0, none⟩) h2).trans h1⟩, h2, ?_, h4⟩
  have hn : Tryz.prog.globalNamed "internal/strconv.uint64pow10" = some 1 := by kernel_rfl
  unfold Lib.TabIs World.var? at h3 ⊢
  rw [hn] at h3 ⊢
  simp only [Option.bind_some] at h3 ⊢
  rw [hb.block _ h4]
  exact h3
theorem Mx.up {B B' : Nat} {w : World} (h : Mx B w) (hB : B ≤ B') : Mx B' w := ⟨h.max, Nat.lt_of_lt_of_le h.maxLt hB, h.tab, Nat.lt_of_lt_of_le h.tabLt hB⟩
theorem below_drewN {B : Nat} {w w1 : World} (h : Below B w w1) (n : Nat) : Below B w (w1.drewN n) := ⟨h.os, h.tape, h.output, h.size, h.block⟩
theorem cut_is {s sep a r : List UInt8} {f : Bool} (h : Lib.cut s sep = (a, r, f)) {B : Nat} {w : World} (hM : Mx B w) (hl : s.length ≤ 2000000) :
    Calls Tryz.prog 76 #[.string ⟨s.toArray⟩, .string ⟨sep.toArray⟩] w fun e w' => e = .returned (.tuple #[.string ⟨a.toArray⟩, .string ⟨r.toArray⟩, .bool f]) ∧ Below w.heap.size w w' := by
  obtain ⟨⟨m, h1⟩, _, _, _⟩ := hM
  refine (Tryz.strings_Cut ⟨s.toArray⟩ ⟨sep.toArray⟩ m w (by rw [Lib.size_eq]; show s.length < _; omega) h1).mono ?_
  rintro e w' ⟨rfl, n, rfl⟩
  refine ⟨?_, below_drewN (Below.refl _ _) n⟩
  show Ending.returned (.tuple #[.string ⟨(Lib.cut s sep).1.toArray⟩, .string ⟨(Lib.cut s sep).2.1.toArray⟩, .bool (Lib.cut s sep).2.2]) = _
  rw [h]
theorem dec_lenN (k n : Nat) (h : n < 10 ^ (k + 1)) : (Lib.decDigits n).length ≤ k + 1 := by
  induction k generalizing n with
  | zero => rw [dec_small n (by simpa using h)]; simp
  | succ k ih =>
    by_cases h10 : n < 10
    · rw [dec_small n h10]; simp
    · rw [dec_big n h10, List.length_append, List.length_singleton]
      have := ih (n / 10) (by rw [Nat.pow_succ] at h; omega)
      omega
theorem num_short (n : Int) (_h0 : 0 ≤ n) (h1 : n ≤ 100000) : (num n).length ≤ 18 := by
  have := dec_lenN 5 n.toNat (by have : (10 : Nat) ^ (5 + 1) = 1000000 := by decide
                                 omega)
  unfold num
  omega
theorem atoi_is (n : Int) (h0 : 0 ≤ n) (h1 : n ≤ 100000) (w : World) :
    Calls Tryz.prog 136 #[.string ⟨(num n).toArray⟩] w fun e w' => e = .returned (.tuple #[.int .i64 n, .nilIface]) ∧ Below w.heap.size w w' := by
  refine (Tryz.strconv_Atoi ⟨(num n).toArray⟩ n ?_ (atoi_num n h0) w).mono ?_
  · rw [Lib.size_eq]
    exact num_short n h0 h1
  · rintro e w' ⟨rfl, t, rfl⟩
    exact ⟨rfl, Lib.bytesWorld_below w _ _⟩
theorem itoa_any {B : Nat} {w : World} (hM : Mx B w) (n : Int) (h0 : 0 ≤ n) (h1 : n ≤ 1000000000) :
    Calls Tryz.prog 38 #[.int .i64 n] w fun e w' => e = .returned (.string ⟨(num n).toArray⟩) ∧ Below w.heap.size w w' := by
  refine (Tryz.strconv_Itoa n (by omega) (by omega) w hM.tab).mono ?_
  rintro e w' ⟨rfl, k, os, rfl⟩
  refine ⟨?_, Lib.below_grow _ w (Nat.le_refl _) k os⟩
  rw [Lib.itoa, if_neg (by omega)]
  rfl
theorem flat_row {L : List (List UInt8)} {wr : World} {b : Nat} (h : wr.heap[b]? = some (.cells (L.map (fun x => Value.string ⟨x.toArray⟩)).toArray 9 (0, 0))) (k : Nat) (hk : k < L.length) : wr.cell? ⟨b, k, none⟩ = some (.string ⟨L[k].toArray⟩) := by
  rw [cell_of_row wr b k _ _ _ h]
  simp [hk]
theorem split_is (text : List UInt8) (c : UInt8) (sep : List UInt8) (L : List (List UInt8)) (hL : pieces (c :: sep) text = L) {B : Nat} {w : World} (hM : Mx B w) (hl : text.length ≤ 2000000) :
    Calls Tryz.prog 39 #[.string ⟨text.toArray⟩, .string ⟨(c :: sep).toArray⟩] w fun e w' => e = .returned (.slice (some ⟨w.heap.size, 0, none⟩) L.length L.length) ∧ w' = w.alloc (.cells (L.map (fun x => Value.string ⟨x.toArray⟩)).toArray 9 (0, 0)) := by
  obtain ⟨m, hm⟩ := hM.max
  have hcnt : Lib.countB ⟨text.toArray⟩ ⟨(c :: sep).toArray⟩ + 1 = L.length := by rw [← hL, pieces_len (c :: sep) text (by simp)]
  have hval : (Lib.splitB ⟨(c :: sep).toArray⟩ 0 (Lib.countB ⟨text.toArray⟩ ⟨(c :: sep).toArray⟩) ⟨text.toArray⟩).map Value.string = L.map (fun x => Value.string ⟨x.toArray⟩) := by rw [← hL]; exact pieces_val (c :: sep) text
  refine (Tryz.strings_Split ⟨text.toArray⟩ ⟨(c :: sep).toArray⟩ m w (by rw [Lib.size_eq]; show text.length < _; omega) hm (by rw [Lib.size_eq]; show 1 ≤ (c :: sep).length; simp)).mono ?_
  rintro e w' ⟨rfl, rfl⟩
  rw [hcnt, hval]
  exact ⟨rfl, rfl⟩

abbrev DT : TypeId := 78
abbrev selfP (b : Nat) : Value := .pointer (some ⟨b, 3, none⟩)
theorem sizeBuilder : (Tryz.prog.info? 76).map (·.size) = some 2 := by kernel_rfl
theorem liesDesk : liesAt Tryz.prog Tryz.prog.depth DT (5 / Tryz.prog.cellsOf DT) 3 76 1 = true := by kernel_rfl
theorem infoByte : (Tryz.prog.info? 5).map (fun i => (i.zero, i.size, i.bytes)) = some (some (.int .u8 0), 1, 1) := by kernel_rfl
theorem cellsByte : Tryz.prog.cellsOf 5 = 1 := by kernel_rfl

theorem gb_setCell (w : World) (b i : Nat) (v : Value) : w.grownBy (w.setCell ⟨b, i, none⟩ v) (some b) :=
  ⟨rfl, rfl, rfl, by simp [World.setCell], fun k _ hk => Below.heap_setCell _ _ _ _ (fun e => hk (by simp [e]))⟩
theorem own_keepX {base : Nat} {w w' : World} {e : TypeId} {size : Nat} {v : Value} {n : Nat} {xs : List Value} (h : w.ownsRow base e size v n xs) (row : Option Nat) (hg : w.grownBy w' row)
    (hk : ∀ g, row = some g → ∃ cs t fz, w.heap[g]? = some (.cells cs t fz) ∧ t ≠ e) : w'.ownsRow base e size v n xs := by
  refine World.ownsRow.kept h hg ?_
  rcases h.2 with ⟨hv, _⟩ | ⟨g, cap, cur, hv, _, hh, _⟩
  · exact .inl (by rw [hv]; rfl)
  · refine .inr ?_
    rw [hv]
    cases row with
    | none => simp [Value.ownBlock]
    | some g2 =>
      obtain ⟨cs, t, fz, k1, k2⟩ := hk g2 rfl
      intro e
      have : g = g2 := by simpa [Value.ownBlock] using e
      subst this
      rw [hh] at k1
      injection k1 with k1
      injection k1 with _ kt _
      exact k2 kt.symm

/-- What the interpreter keeps: tasks, jobs (their cells), a policy, and what it told. -/
structure St where
  l : List Tk
  jn : Nat
  jc : List Value
  pol : Int
  out : List UInt8
/-- The desk in block b. -/
def Desk (B b : Nat) (w : World) (s : St) : Prop :=
  B ≤ b ∧ ∃ A c jv p v, w.heap[b]? = some (.cells #[.slice A s.l.length c, jv, .int .i64 s.pol, p, v] DT (0, 0)) ∧ (p = .pointer none ∨ p = selfP b) ∧ w.ownsRowF B 5 1 v s.out.length (Lib.byteCells s.out) ∧
    OT B w A c s.l ∧ w.ownsRow B 60 3 jv s.jn s.jc
/-- What a call that has the desk leaves as it was. -/
def Frm (B b : Nat) (w w' : World) : Prop := Lib.OthersKept 5 (some b) w w' ∧ Below B w w'
theorem Frm.refl (B b : Nat) (w : World) : Frm B b w w := ⟨Lib.OthersKept.refl _ _ _, Below.refl _ _⟩
theorem Frm.trans {B b : Nat} {w w1 w2 : World} (h : Frm B b w w1) (k : Frm B b w1 w2) : Frm B b w w2 := ⟨h.1.trans k.1, h.2.trans k.2⟩
theorem kept_below {b : Nat} {w w' : World} (hb : Below w.heap.size w w') : Lib.OthersKept 5 (some b) w w' := fun k _ hk _ _ => (hb.block k (Array.getElem?_eq_some_iff.1 hk).1).trans hk
theorem Frm.size {B b : Nat} {w w1 : World} (h : Frm B b w w1) : w.heap.size ≤ w1.heap.size := h.2.size
theorem Frm.thru {B b : Nat} {w w1 w2 : World} (h : Frm B b w w1) (hB : B ≤ w.heap.size) (k : Below w1.heap.size w1 w2) : Frm B b w w2 := ⟨h.1.trans (kept_below k), h.2.trans (k.mono (Nat.le_trans hB h.2.size))⟩
theorem kept_grown {b : Nat} {w w' : World} (h : w.grownBy w' (some b)) : Lib.OthersKept 5 (some b) w w' := fun k _ hk hne _ => (h.block k (Array.getElem?_eq_some_iff.1 hk).1 hne).trans hk
theorem Desk.keep {B b : Nat} {w w' : World} {s : St} (h : Desk B b w s) (hb : Below w.heap.size w w') : Desk B b w' s := by
  obtain ⟨hB, A, c, jv, p, v, hk, hp, hv, hO, hJ⟩ := h
  have hlt : b < w.heap.size := (Array.getElem?_eq_some_iff.1 hk).1
  refine ⟨hB, A, c, jv, p, v, (hb.block b hlt).trans hk, hp, ?_, OT_keep hO hb, own_keep hJ hb⟩
  refine ⟨hv.1, ?_⟩
  rcases hv.2 with hn | ⟨g, cap, cur, fz, e, hg, hh, r⟩
  · exact .inl hn
  · exact .inr ⟨g, cap, cur, fz, e, hg, (hb.block g (Array.getElem?_eq_some_iff.1 hh).1).trans hh, r⟩
theorem desk_blk {w : World} {b : Nat} {x0 x1 x2 x3 x4 : Value} {t : TypeId} (h : w.heap[b]? = some (.cells #[x0, x1, x2, x3, x4] t (0, 0))) (i : Nat) (v : Value) :
    (w.setCell ⟨b, i, none⟩ v).heap[b]? = some (.cells ((#[x0, x1, x2, x3, x4] : Array Value).setIfInBounds i v) t (0, 0)) := heap_setCell_same w b i _ t v h

set_option maxHeartbeats 2000000 in
set_option maxRecDepth 100000 in
theorem copyCheck_at (b : Nat) (x0 x1 x2 p v : Value) (w : World) (hk : w.heap[b]? = some (.cells #[x0, x1, x2, p, v] DT (0, 0))) (hp : p = .pointer none ∨ p = selfP b) :
    Calls Tryz.prog 114 #[selfP b] w fun e w' => e = .returned (.tuple #[]) ∧ w'.heap[b]? = some (.cells #[x0, x1, x2, selfP b, v] DT (0, 0)) ∧ w.grownBy w' (some b) := by
  obtain ⟨j, hj, hjs⟩ := Option.map_eq_some_iff.1 sizeBuilder
  have c3 : w.cell? ⟨b, 3, none⟩ = some p := by rw [Lib.cell_of_heap hk]; rfl
  have f3 : w.frozen? ⟨b, 3, none⟩ = false := Lib.frozen_of_heap hk 3
  have hsh : w.shape? b = some (DT, 5) := by simp [World.shape?, hk]
  rcases hp with rfl | rfl
  · go_enter Tryz.func114, Tryz.ntmps114
    go_wp2
    rw [Lib.run_to_unsafe w ⟨b, 3, none⟩ Tryz.underlying74 Tryz.underlying165 hj (by rw [hjs]; decide) hsh (by show 3 < 5; decide)]
    simp only [Result.andThen]
    rw [Oper.upon_value]
    go_wp2
    rw [run_callFunc_extern Tryz.func162 (by kernel_rfl) (by kernel_rfl) (by kernel_rfl) (e := Extern.AbiNoEscape.same) (by kernel_rfl)]
    rw [Lib.run_noEscape]
    simp only [Result.andThen]
    rw [Oper.upon_value]
    go_wp2
    rw [Lib.run_from_unsafe w ⟨b, 3, none⟩ Tryz.underlying165 Tryz.underlying74 hj hsh liesDesk]
    simp only [Result.andThen]
    rw [Oper.upon_value]
    go_wp2
    go_end0
    exact ⟨rfl, desk_blk hk 3 _, gb_setCell w b 3 _⟩
  · go_enter Tryz.func114, Tryz.ntmps114
    go_wp2
    rw [Lib.run_neq_ptr_same w _ Tryz.underlying74 hj]
    go_wp2
    go_end0
    exact ⟨rfl, hk, World.grownBy.refl _ _⟩
theorem tn1 : DT ≠ 58 := by decide
theorem tn2 : (5 : TypeId) ≠ 58 := by decide
theorem tn3 : (DT : TypeId) ≠ 5 := by decide

theorem tn4 : DT ≠ 60 := by decide
theorem tn5 : (5 : TypeId) ≠ 60 := by decide

set_option maxHeartbeats 2000000 in
set_option maxRecDepth 100000 in
/-- WriteString, of the builder in the desk. -/
theorem desk_Write {B b : Nat} {w : World} {s : St} (h : Desk B b w s) (x : List UInt8) (hlen : s.out.length + x.length ≤ 140737488355328) (hBw : B ≤ w.heap.size) :
    Calls Tryz.prog 73 #[selfP b, .string ⟨x.toArray⟩] w fun e w' => e = .returned (.tuple #[.int .i64 (x.length : Int), .nilIface]) ∧ Desk B b w' { s with out := s.out ++ x } ∧ Frm B b w w' := by
  obtain ⟨i0, hi, hz0, hz1, hz2⟩ := info_parts infoByte
  obtain ⟨hB, A, c, jv, p, v, hk, hp, hv, hO, hJ⟩ := h
  have hss : (⟨x.toArray⟩ : ByteArray).size = x.length := by rw [Lib.size_eq]
  have e166 : (Lib.strCells ⟨x.toArray⟩) = Lib.byteCells x := by rw [Lib.strCells_eq]
  go_enter Tryz.func73, Tryz.ntmps73
  go_wp2_with fail
  refine (copyCheck_at b _ _ _ p v _ hk hp).mono ?_
  rintro e w1 ⟨rfl, hk1, g1⟩
  have c0 : w1.cell? ⟨b, 3, none⟩ = some (selfP b) := by rw [Lib.cell_of_heap hk1]; rfl
  have c1 : w1.cell? ⟨b, 4, none⟩ = some v := by rw [Lib.cell_of_heap hk1]; rfl
  have hb1 : Below B w w1 := (Below.refl B w).grown g1 hBw (fun k hk => by cases hk; exact hB)
  have hf1 : Frm B b w w1 := ⟨kept_grown g1, hb1⟩
  have hvb : v.ownBlock ≠ some b := by
    intro e
    obtain ⟨cs, fz, hc⟩ := Lib.ownsRowF_kind hv b e
    rw [hk] at hc
    injection hc with hc
    injection hc with _ ht _
    exact tn3 ht
  have hv1 : w1.ownsRowF B 5 1 v s.out.length (Lib.byteCells s.out) := hv.kept g1 (.inr hvb)
  have hO1 : OT B w1 A c s.l := own_keepX hO _ g1 (fun g hg => by cases hg; exact ⟨_, _, _, hk, tn1⟩)
  have hJ1 := own_keepX hJ _ g1 (fun g hg => by cases hg; exact ⟨_, _, _, hk, tn4⟩)
  clear hk hv hO hJ
  go_wp2_with (at_builtin; refine Lib.wpList_append_own_stringF _ rfl _ _ 22 9 rfl B 5 i0 Tryz.underlying22 Tryz.underlying9 hi hz0 hz1 hz2 _ _ _ rfl hv1 ⟨x.toArray⟩ rfl ?c3 ?c4 ?c5 ?_)
  case c3 => rw [hss]; unfold maxLen; omega
  case c4 => rw [hss]; omega
  case c5 => have := hb1.size; omega
  intro v' w2 hown' hgrow _
  have hlt : b < w1.heap.size := (Array.getElem?_eq_some_iff.1 hk1).1
  have hk2 : w2.heap[b]? = some (.cells #[.slice A s.l.length c, jv, .int .i64 s.pol, selfP b, v] DT (0, 0)) := by
    rw [hgrow.block b hlt (fun e => hvb e.symm)]
    exact hk1
  have d0 : w2.cell? ⟨b, 3, none⟩ = some (selfP b) := by rw [Lib.cell_of_heap hk2]; rfl
  have d1 : w2.cell? ⟨b, 4, none⟩ = some v := by rw [Lib.cell_of_heap hk2]; rfl
  have f1 : w2.frozen? ⟨b, 4, none⟩ = false := Lib.frozen_of_heap hk2 4
  have hO2 : OT B w2 A c s.l := own_keepX hO1 _ hgrow (fun g hg => by
    obtain ⟨cs, fz, hc⟩ := Lib.ownsRowF_kind hv1 g hg
    exact ⟨_, _, _, hc, tn2⟩)
  have hJ2 := own_keepX hJ1 _ hgrow (fun g hg => by
    obtain ⟨cs, fz, hc⟩ := Lib.ownsRowF_kind hv1 g hg
    exact ⟨_, _, _, hc, tn5⟩)
  have hb2 : Below B w w2 := hb1.grown hgrow (by have := hb1.size; omega) (fun k hk => (hv1.lt k hk).1)
  have hf2 : Frm B b w w2 := ⟨hf1.1.grown hgrow (Lib.ownsRowF_kind hv1), hb2⟩
  have hown' : w2.ownsRowF B 5 1 v' (s.out.length + x.length) (Lib.byteCells s.out ++ Lib.byteCells x) := by
    first
      | exact hown'
      | (rw [e166, hss] at hown'; exact hown')
      | (rw [hss] at hown'; exact hown')
      | (rw [e166] at hown'; exact hown')
  obtain ⟨ao, n', cap, rfl⟩ : ∃ ao n' cap, v' = .slice ao n' cap := by
    rcases hown'.2 with ⟨hv, _⟩ | ⟨g, cap, cur, fz, hv, _⟩
    · exact ⟨_, _, _, hv⟩
    · exact ⟨_, _, _, hv⟩
  go_wp2
  go_ret2
  have hne : (Value.slice ao n' cap).ownBlock ≠ some b := by
    intro e
    obtain ⟨cs, fz, hc⟩ := Lib.ownsRowF_kind hown' b e
    rw [hk2] at hc
    injection hc with hc
    injection hc with _ ht _
    exact tn3 ht
  have g3 := gb_setCell w2 b 4 (.slice ao n' cap)
  refine ⟨rfl, ⟨hB, A, c, jv, selfP b, _, desk_blk hk2 4 _, .inr rfl, ?_, own_keepX hO2 _ g3 (fun g hg => by cases hg; exact ⟨_, _, _, hk2, tn1⟩), own_keepX hJ2 _ g3 (fun g hg => by cases hg; exact ⟨_, _, _, hk2, tn4⟩)⟩, ⟨hf2.1.trans (kept_grown g3), hb2.setCell (p := ⟨b, 4, none⟩) hB _⟩⟩
  show (w2.setCell ⟨b, 4, none⟩ (.slice ao n' cap)).ownsRowF B 5 1 (.slice ao n' cap) (s.out ++ x).length (Lib.byteCells (s.out ++ x))
  rw [List.length_append, Lib.byteCells_append]
  exact hown'.kept g3 (.inr hne)
theorem desk_Len {B b : Nat} {w : World} {s : St} (h : Desk B b w s) :
    Calls Tryz.prog 40 #[selfP b] w fun e w' => e = .returned (.int .i64 (s.out.length : Int)) ∧ w' = w := by
  obtain ⟨hB, A, c, jv, p, v, hk, hp, hv, hO, _⟩ := h
  obtain ⟨ao, cap, rfl⟩ : ∃ ao cap, v = .slice ao s.out.length cap := by
    rcases hv.2 with ⟨hv, h0⟩ | ⟨g, cap, cur, fz, hv, _⟩
    · exact ⟨none, 0, by rw [hv, h0]⟩
    · exact ⟨_, _, hv⟩
  have c1 : w.cell? ⟨b, 4, none⟩ = some (.slice ao s.out.length cap) := by rw [Lib.cell_of_heap hk]; rfl
  go_enter Tryz.func40, Tryz.ntmps40
  go_wp2
  go_ret
  exact ⟨rfl, rfl⟩
set_option maxHeartbeats 2000000 in
set_option maxRecDepth 100000 in
theorem desk_String {B b : Nat} {w : World} {s : St} (h : Desk B b w s) (h0 : s.out ≠ []) :
    Calls Tryz.prog 43 #[selfP b] w fun e w' => e = .returned (.string ⟨s.out.toArray⟩) ∧ Below B w w' := by
  obtain ⟨hB, A, c, jv, p, v, hk, hp, hv, hO, _⟩ := h
  have hl0 : s.out.length ≠ 0 := by simpa using h0
  obtain ⟨g, cap, cur, fz, rfl, hbg, hg, hfz, hnc, hcm, hcs, htake⟩ : ∃ g cap cur fz, v = .slice (some ⟨g, 0, none⟩) s.out.length cap ∧ B ≤ g ∧ w.heap[g]? = some (.cells cur 5 fz) ∧ fz.2 ≤ s.out.length * 1 ∧ s.out.length ≤ cap ∧ cap ≤ maxLen ∧ cur.size = cap * 1 ∧ cur.toList.take (s.out.length * 1) = Lib.byteCells s.out := by
    rcases hv.2 with ⟨_, hz⟩ | ⟨g, cap, cur, fz, hv, r⟩
    · exact absurd hz hl0
    · exact ⟨g, cap, cur, fz, hv, r⟩
  have c1 : w.drew.cell? ⟨b, 4, none⟩ = some (.slice (some ⟨g, 0, none⟩) s.out.length cap) := by
    have : w.drew.heap[b]? = some (.cells #[.slice A s.l.length c, jv, .int .i64 s.pol, p, .slice (some ⟨g, 0, none⟩) s.out.length cap] DT (0, 0)) := hk
    rw [Lib.cell_of_heap this]; rfl
  have hSD : (Builtin.unsafeSliceData_ #[22] 121 #[.slice (some ⟨g, 0, none⟩) s.out.length cap]).run Tryz.prog w.drew = .ok (.pointer (some ⟨g, 0, none⟩)) w.drew :=
    Lib.run_unsafeSliceData_row _ _ _ _ _ _ (by omega)
  have hUS : (Builtin.unsafeString_ #[121, 3] 9 #[.pointer (some ⟨g, 0, none⟩), .int .i64 s.out.length]).run Tryz.prog w.drew = .ok (.string ⟨s.out.toArray⟩) (w.drew.freeze ⟨g, 0, none⟩ s.out.length) := by
    refine Lib.run_unsafeString_row w.drew 121 3 9 5 Tryz.underlying121 cellsByte g cur.size (by have hg' : w.drew.heap[g]? = some (.cells cur 5 fz) := hg; simp [World.shape?, hg']) s.out h0 (by omega) (by unfold maxLen at hcm; omega) ?_
    intro j x hx
    have := hv.cells (g := g) rfl j (.int .u8 x.toNat) (by simp [Lib.byteCells, hx])
    exact this
  have mixed : Tryz.prog.follows Departure.mixedOrders = true := by kernel_rfl
  go_enter Tryz.func43, Tryz.ntmps43
  go_wp2
  go_region_o
  all_goals (go_wp2; go_ret; exact ⟨rfl, Lib.below_freeze (Below.drew (Below.refl B w)) (p := ⟨g, 0, none⟩) hbg _⟩)

set_option maxHeartbeats 2000000 in
set_option maxRecDepth 100000 in
theorem desk_WriteS {B b : Nat} {w : World} {s : St} (h : Desk B b w s) (x : List UInt8) (S : ByteArray) (hS : S = ⟨x.toArray⟩) (hlen : s.out.length + x.length ≤ 1000000) (hBw : B ≤ w.heap.size) :
    Calls Tryz.prog 73 #[selfP b, .string S] w fun e w' => e = .returned (.tuple #[.int .i64 (x.length : Int), .nilIface]) ∧ Desk B b w' { s with out := s.out ++ x } ∧ Frm B b w w' := by
  subst hS
  exact desk_Write h x (by omega) hBw
set_option maxHeartbeats 2000000 in
set_option maxRecDepth 100000 in
theorem desk_tell {B b : Nat} {w : World} {s : St} (h : Desk B b w s) (x : List UInt8) (S : ByteArray) (hS : S = ⟨x.toArray⟩) (hlen : s.out.length + x.length ≤ 900000) (hBw : B ≤ w.heap.size) :
    Calls Tryz.prog 41 #[.pointer (some ⟨b, 0, none⟩), .string S] w fun e w' => e = .returned (.tuple #[]) ∧ Desk B b w' { s with out := s.out ++ (x ++ [10]) } ∧ Frm B b w w' := by
  subst hS
  have hx : x.length ≤ 900000 := by omega
  go_enter Tryz.func41, Tryz.ntmps41
  go_wp2_with fail
  refine (desk_WriteS h (x ++ [10]) _ (mk_app x [10]) (by simp; omega) hBw).mono ?_
  rintro e w1 ⟨rfl, D, F⟩
  go_wp2_with fail
  go_end0
  exact ⟨rfl, D, F⟩

set_option maxHeartbeats 2000000 in
set_option maxRecDepth 100000 in
/-- Tasks taken. -/
theorem desk_setYes {B b : Nat} {w : World} {s : St} (h : Desk B b w s) (A : Option Addr) (l : List Tk) (c : Nat) (hO : OT B w A c l) (hlen : s.out.length ≤ 800000) (hBw : B ≤ w.heap.size) :
    Calls Tryz.prog 121 #[.pointer (some ⟨b, 0, none⟩), .slice A l.length c, .bool true] w fun e w' => e = .returned (.tuple #[]) ∧ Desk B b w' ⟨l, 0, [], s.pol, s.out ++ (fmtSet l ++ [10])⟩ ∧ Frm B b w w' := by
  obtain ⟨hB, A0, c0, jv, p, v, hk, hp, hv, hO0, hJ⟩ := h
  have f0 : w.frozen? ⟨b, 0, none⟩ = false := Lib.frozen_of_heap hk 0
  have f1 : w.frozen? ⟨b, 1, none⟩ = false := Lib.frozen_of_heap hk 1
  have c0' : w.cell? ⟨b, 0, none⟩ = some (.slice A0 s.l.length c0) := by rw [Lib.cell_of_heap hk]; rfl
  have c1' : w.cell? ⟨b, 1, none⟩ = some jv := by rw [Lib.cell_of_heap hk]; rfl
  have g0 := gb_setCell w b 0 (.slice A l.length c)
  have hk1 := desk_blk hk 0 (.slice A l.length c)
  have g1 := gb_setCell (w.setCell ⟨b, 0, none⟩ (.slice A l.length c)) b 1 (.slice none 0 0)
  have hk2 := desk_blk hk1 1 (.slice none 0 0)
  have hvb : v.ownBlock ≠ some b := by
    intro e
    obtain ⟨cs, fz, hc⟩ := Lib.ownsRowF_kind hv b e
    rw [hk] at hc
    injection hc with hc
    injection hc with _ ht _
    exact tn3 ht
  have hO1 : OT B _ A c l := own_keepX (own_keepX hO _ g0 (fun g hg => by cases hg; exact ⟨_, _, _, hk, tn1⟩)) _ g1 (fun g hg => by cases hg; exact ⟨_, _, _, hk1, tn1⟩)
  have hv1 := (hv.kept g0 (.inr hvb)).kept g1 (.inr hvb)
  have D1 : Desk B b ((w.setCell ⟨b, 0, none⟩ (.slice A l.length c)).setCell ⟨b, 1, none⟩ (.slice none 0 0)) ⟨l, 0, [], s.pol, s.out⟩ :=
    ⟨hB, A, c, .slice none 0 0, p, v, hk2, hp, hv1, hO1, World.ownsRow_nil _ _ _ _⟩
  have F1 : Frm B b w ((w.setCell ⟨b, 0, none⟩ (.slice A l.length c)).setCell ⟨b, 1, none⟩ (.slice none 0 0)) :=
    ⟨(kept_grown g0).trans (kept_grown g1), ((Below.refl B w).setCell (p := ⟨b, 0, none⟩) hB _).setCell (p := ⟨b, 1, none⟩) hB _⟩
  have hfl := fmtSet_le l
  clear hv hO0 hJ g0 g1 hv1 hk1 hk2 hO
  go_enter Tryz.func121, Tryz.ntmps121
  go_wp2_with fail
  refine (impl_FormatSet A l c _ hO1.ts).mono ?_
  rintro e w2 ⟨rfl, b2⟩
  have D2 := D1.keep b2
  have F2 := F1.thru hBw b2
  go_wp2_with fail
  refine (desk_tell D2 (fmtSet l) _ rfl (by simp; omega) (Nat.le_trans hBw F2.size)).mono ?_
  rintro e w3 ⟨rfl, D3, F3⟩
  go_wp2_with fail
  go_end0
  exact ⟨rfl, D3, F2.trans F3⟩

/-- What a word does: from one state to another. -/
def PlainIs (x : List UInt8) (s s' : St) : Prop :=
  ∀ (B b : Nat) (w : World), Mx B w → Desk B b w s → B ≤ w.heap.size → Calls Tryz.prog 77 #[.pointer (some ⟨b, 0, none⟩), .string ⟨x.toArray⟩] w fun e w' => e = .returned (.bool true) ∧ Desk B b w' s' ∧ Frm B b w w'
def TextIs (x r : List UInt8) (s s' : St) : Prop :=
  ∀ (B b : Nat) (w : World), Mx B w → Desk B b w s → B ≤ w.heap.size → Calls Tryz.prog 78 #[.pointer (some ⟨b, 0, none⟩), .string ⟨x.toArray⟩, .string ⟨r.toArray⟩] w fun e w' => e = .returned (.bool true) ∧ Desk B b w' s' ∧ Frm B b w w'
def TextNo (x r : List UInt8) (s : St) : Prop :=
  ∀ (B b : Nat) (w : World), Mx B w → Desk B b w s → B ≤ w.heap.size → Calls Tryz.prog 78 #[.pointer (some ⟨b, 0, none⟩), .string ⟨x.toArray⟩, .string ⟨r.toArray⟩] w fun e w' => e = .returned (.bool false) ∧ Desk B b w' s ∧ Frm B b w w'
def CountIs (x : List UInt8) (n : Int) (s s' : St) : Prop :=
  ∀ (B b : Nat) (w : World), Mx B w → Desk B b w s → B ≤ w.heap.size → Calls Tryz.prog 80 #[.pointer (some ⟨b, 0, none⟩), .string ⟨x.toArray⟩, .int .i64 n] w fun e w' => e = .returned (.bool true) ∧ Desk B b w' s' ∧ Frm B b w w'
/-- What a line does: from one state to another. -/
def DoIs (x : List UInt8) (s s' : St) : Prop :=
  ∀ (B b : Nat) (w : World), Mx B w → Desk B b w s → B ≤ w.heap.size → Calls Tryz.prog 42 #[.pointer (some ⟨b, 0, none⟩), .string ⟨x.toArray⟩] w fun e w' => e = .returned (.tuple #[]) ∧ Desk B b w' s' ∧ Frm B b w w'

theorem trim_num (n : Int) : Lib.trimPrefix (num n) [45] = num n := by
  have h := num_no 45 n (by decide)
  unfold Lib.trimPrefix
  cases hl : num n with
  | nil => rfl
  | cons b r =>
    rw [hl] at h
    have hb : b ≠ 45 := fun e => h (by simp [e])
    simp [Lib.hasPrefix, List.isPrefixOf, Ne.symm hb]
set_option maxHeartbeats 2000000 in
set_option maxRecDepth 100000 in
theorem impl_decimal {B : Nat} {w : World} (hM : Mx B w) (hB : B ≤ w.heap.size) (n : Int) (h0 : 0 ≤ n) (h1 : n ≤ 100000) :
    Calls Tryz.prog 79 #[.string ⟨(num n).toArray⟩] w fun e w' => e = .returned (.tuple #[.int .i64 n, .bool true]) ∧ Below w.heap.size w w' := by
  have hs := num_short n h0 h1
  have hs17 : (num n).length ≤ 17 := by
    have := dec_lenN 5 n.toNat (by have : (10 : Nat) ^ (5 + 1) = 1000000 := by decide
                                   omega)
    unfold num
    omega
  have eqF : ((ByteArray.mk (num n).toArray).toList == (ByteArray.mk (num n).toArray).toList) = true := beq_self_eq_true _
  go_enter Tryz.func79, Tryz.ntmps79
  go_wp2_with fail
  refine (Tryz.strings_TrimPrefix ⟨(num n).toArray⟩ ⟨#[45]⟩ _).mono ?_
  rintro e w1 ⟨rfl, rfl⟩
  have e45 : Lib.trimPrefix (ByteArray.mk (num n).toArray).data.toList (ByteArray.mk #[45]).data.toList = num n := trim_num n
  rw [e45]
  go_wp2_with fail
  refine (atoi_is n h0 h1 _).mono ?_
  rintro e w2 ⟨rfl, b2⟩
  go_wp2_with fail
  refine (itoa_any (hM.keep (b2.mono hB)) n h0 (by omega)).mono ?_
  rintro e w3 ⟨rfl, b3⟩
  go_wp2_with fail
  go_ret2
  exact ⟨rfl, bthru b2 b3⟩

set_option maxHeartbeats 2000000 in
set_option maxRecDepth 100000 in
theorem do_plain {x : List UInt8} {s s' : St} (hx : (32 : UInt8) ∉ x) (hl : x.length ≤ 2000000) (hp : PlainIs x s s') : DoIs x s s' := by
  intro B b w hM D hBw
  have hC := cut_no 32 [] x hx
  go_enter Tryz.func42, Tryz.ntmps42
  go_wp2_with fail
  refine (cut_is hC hM hl).mono ?_
  rintro e w1 ⟨rfl, b1⟩
  have D1 := D.keep b1
  have hM1 := hM.keep (b1.mono hBw)
  have F1 := (Frm.refl B b w).thru hBw b1
  have hB1 := Nat.le_trans hBw b1.size
  go_wp2_with fail
  refine (hp B b _ hM1 D1 hB1).mono ?_
  rintro e w2 ⟨rfl, D2, F2⟩
  go_wp2_with fail
  go_end0
  exact ⟨rfl, D2, F1.trans F2⟩
set_option maxHeartbeats 2000000 in
set_option maxRecDepth 100000 in
theorem do_text {x r : List UInt8} {s s' : St} (hx : (32 : UInt8) ∉ x) (hl : x.length + r.length ≤ 1000000) (hp : TextIs x r s s') : DoIs (x ++ [32] ++ r) s s' := by
  intro B b w hM D hBw
  have hC := cut_app 32 [] x r hx
  have hLl : (x ++ [32] ++ r).length ≤ 2000000 := by simp; omega
  generalize x ++ [32] ++ r = L at hC hLl ⊢
  go_enter Tryz.func42, Tryz.ntmps42
  go_wp2_with fail
  refine (cut_is hC hM hLl).mono ?_
  rintro e w1 ⟨rfl, b1⟩
  have D1 := D.keep b1
  have hM1 := hM.keep (b1.mono hBw)
  have F1 := (Frm.refl B b w).thru hBw b1
  have hB1 := Nat.le_trans hBw b1.size
  go_wp2_with fail
  refine (hp B b _ hM1 D1 hB1).mono ?_
  rintro e w2 ⟨rfl, D2, F2⟩
  go_wp2_with fail
  go_end0
  exact ⟨rfl, D2, F1.trans F2⟩
set_option maxHeartbeats 2000000 in
set_option maxRecDepth 100000 in
theorem do_count {x : List UInt8} {n : Int} {s s' : St} (hx : (32 : UInt8) ∉ x) (hl : x.length ≤ 1000000) (h0 : 0 ≤ n) (h1 : n ≤ 100000) (ht : TextNo x (num n) s) (hp : CountIs x n s s') : DoIs (x ++ [32] ++ num n) s s' := by
  intro B b w hM D hBw
  have hnl := num_len n (by omega)
  have hC := cut_app 32 [] x (num n) hx
  have hLl : (x ++ [32] ++ num n).length ≤ 2000000 := by simp; omega
  generalize x ++ [32] ++ num n = L at hC hLl ⊢
  go_enter Tryz.func42, Tryz.ntmps42
  go_wp2_with fail
  refine (cut_is hC hM hLl).mono ?_
  rintro e w1 ⟨rfl, b1⟩
  have D1 := D.keep b1
  have hM1 := hM.keep (b1.mono hBw)
  have F1 := (Frm.refl B b w).thru hBw b1
  have hB1 := Nat.le_trans hBw b1.size
  go_wp2_with fail
  refine (ht B b _ hM1 D1 hB1).mono ?_
  rintro e w2 ⟨rfl, D2, F2⟩
  have hM2 := hM1.keep F2.2
  have F2 := F1.trans F2
  have hB2 := Nat.le_trans hBw F2.size
  go_wp2_with fail
  refine (impl_decimal hM2 hB2 n h0 h1).mono ?_
  rintro e w3 ⟨rfl, b3⟩
  have D3 := D2.keep b3
  have hM3 := hM2.keep (b3.mono hB2)
  have F3 := F2.thru hBw b3
  have hB3 := Nat.le_trans hBw F3.size
  go_wp2_with fail
  refine (hp B b _ hM3 D3 hB3).mono ?_
  rintro e w4 ⟨rfl, D4, F4⟩
  go_wp2_with fail
  go_end0
  exact ⟨rfl, D4, F3.trans F4⟩

/-- Lines, one after the other. -/
inductive Chain : List (List UInt8) → St → St → Prop
  | nil (s : St) : Chain [] s s
  | skip {r : List (List UInt8)} {s s' : St} (h : Chain r s s') : Chain ([] :: r) s s'
  | step {x : List UInt8} {r : List (List UInt8)} {s s1 s2 : St} (hx : x ≠ []) (ho : s.out.length ≤ 40000) (hd : DoIs x s s1) (h : Chain r s1 s2) : Chain (x :: r) s s2
theorem chain_nil {s s' : St} (h : Chain [] s s') : s' = s := by
  cases h
  rfl
theorem chain_cons {x : List UInt8} {r : List (List UInt8)} {s s' : St} (h : Chain (x :: r) s s') : (x = [] ∧ Chain r s s') ∨ (x ≠ [] ∧ s.out.length ≤ 40000 ∧ ∃ s1, DoIs x s s1 ∧ Chain r s1 s') := by
  cases h with
  | skip h => exact .inl ⟨rfl, h⟩
  | step hx ho hd h => exact .inr ⟨hx, ho, _, hd, h⟩
def St0 : St := ⟨[], 0, [], 0, []⟩
theorem tn6 : (9 : TypeId) ≠ 5 := by decide

set_option maxHeartbeats 4000000 in
set_option maxRecDepth 100000 in
theorem impl_RunScript (text : List UInt8) (T R : ByteArray) (hT : T = ⟨text.toArray⟩) (L : List (List UInt8)) (hL : pieces [10] text = L) (S : St) (hR : R = ⟨S.out.toArray⟩) (w : World) (hlen : text.length ≤ 20000) (hn : L.length ≤ 200) (hC : Chain L St0 S) (h0 : S.out ≠ []) (hM : Mx w.heap.size w) :
    Calls Tryz.prog 14 #[.string T] w fun e w' => e = .returned (.string R) ∧ Below w.heap.size w w' := by
  subst hT hR
  have HC := Lib.hid hC
  have hM0 := hM
  clear hC
  go_enter Tryz.func14, Tryz.ntmps14
  go_wp2_with fail
  have hD0 : (w.alloc (.cells #[.slice none 0 0, .slice none 0 0, .int .i64 0, .pointer none, .slice none 0 0] DT (0, 0))).heap[w.heap.size]? = some (.cells #[.slice none 0 0, .slice none 0 0, .int .i64 0, .pointer none, .slice none 0 0] DT (0, 0)) := heap_alloc_new w _
  have D0 : Desk w.heap.size w.heap.size (w.alloc (.cells #[.slice none 0 0, .slice none 0 0, .int .i64 0, .pointer none, .slice none 0 0] DT (0, 0))) St0 :=
    ⟨Nat.le_refl _, none, 0, .slice none 0 0, .pointer none, .slice none 0 0, hD0, .inl rfl, ⟨rfl, .inl ⟨rfl, rfl⟩⟩, OT_nil _ _, World.ownsRow_nil _ _ _ _⟩
  have F0 : Below w.heap.size w (w.alloc (.cells #[.slice none 0 0, .slice none 0 0, .int .i64 0, .pointer none, .slice none 0 0] DT (0, 0))) := bal (Below.refl _ _) _
  refine (split_is text 10 [] L hL (hM.keep F0) (by omega)).mono ?_
  rintro e w1 ⟨rfl, rfl⟩
  have D1 := D0.keep (bal (Below.refl _ _) (.cells (L.map (fun x => Value.string ⟨x.toArray⟩)).toArray 9 (0, 0)))
  have F1 := bthru F0 (bal (Below.refl _ _) (.cells (L.map (fun x => Value.string ⟨x.toArray⟩)).toArray 9 (0, 0)))
  have hP := heap_alloc_new (w.alloc (.cells #[.slice none 0 0, .slice none 0 0, .int .i64 0, .pointer none, .slice none 0 0] DT (0, 0))) (.cells (L.map (fun x => Value.string ⟨x.toArray⟩)).toArray 9 (0, 0))
  have hsz : (w.alloc (.cells #[.slice none 0 0, .slice none 0 0, .int .i64 0, .pointer none, .slice none 0 0] DT (0, 0))).heap.size = w.heap.size + 1 := by simp
  rw [hsz] at hP
  clear D0 F0 hD0
  go_wp2_with fail
  go_loopw [14] (fun i wr => ∃ (k : Nat) (s : St), i = .int .i64 (k : Int) ∧ k ≤ L.length ∧ Hid (Chain (L.drop k) s S) ∧ Desk w.heap.size w.heap.size wr s ∧ Hid (wr.heap[w.heap.size + 1]? = some (.cells (L.map (fun x => Value.string ⟨x.toArray⟩)).toArray 9 (0, 0))) ∧ Below w.heap.size w wr) (fun i _ => L.length - (intOf i).toNat)
  case atStart => exact ⟨0, St0, rfl, by omega, by rw [List.drop_zero]; exact HC, D1, hP, F1⟩
  case round =>
    clear hP D1 F1 HC
    obtain ⟨k, s, rfl, hk, hC, D, hP, hb⟩ := hrel
    by_cases hlt : k < L.length
    · have hx := flat_row hP.out k hlt
      have hd0 : L.drop k = L[k] :: L.drop (k + 1) := List.drop_eq_getElem_cons hlt
      have hC1 := hC.out
      rw [hd0] at hC1
      generalize L[k] = x at hx hC1
      have hpl := (Array.getElem?_eq_some_iff.1 hP.out).1
      clear hd0 hC
      rcases chain_cons hC1 with ⟨rfl, hC2⟩ | ⟨hne, ho, s1, hd, hC2⟩
      · have HC2 := Lib.hid hC2
        clear hC1 hC2
        go_wp2_with fail
        go_roundw
        case rel => exact ⟨k + 1, s, by go_num, by omega, HC2, D, hP, hb⟩
        case measure => simp [intOf]; omega
      · have HC2 := Lib.hid hC2
        have hxe : x.isEmpty = false := by simpa using hne
        clear hC1 hC2
        have hk200 : ¬ (200 : Int) ≤ (k : Int) := by omega
        have hgo : ¬ (40000 : Int) < (s.out.length : Int) := by omega
        go_wp2_with fail
        refine (desk_Len D).mono ?_
        rintro e w2 ⟨rfl, rfl⟩
        go_wp2_with fail
        refine (hd w.heap.size w.heap.size _ (hM0.keep hb) D hb.size).mono ?_
        rintro e w3 ⟨rfl, D3, F3⟩
        have hP3 := F3.1 _ _ hP.out (by simp) (by rintro c fz e; injection e with _ e _; exact tn6 e)
        go_wp2_with fail
        go_roundw
        case rel => exact ⟨k + 1, s1, by go_num, by omega, HC2, D3, hP3, hb.trans F3.2⟩
        case measure => simp [intOf]; omega
    · obtain rfl : k = L.length := by omega
      have hC1 := hC.out
      rw [List.drop_length] at hC1
      obtain rfl := chain_nil hC1
      clear hC1 hC hP
      go_wp2_with fail
      refine (desk_String D h0).mono ?_
      rintro e w3 ⟨rfl, b3⟩
      go_wp2_with fail
      go_ret
      exact ⟨rfl, hb.trans b3⟩
end
end Go.Proofs.YtmkjmancmiphfaaGreatDoor
