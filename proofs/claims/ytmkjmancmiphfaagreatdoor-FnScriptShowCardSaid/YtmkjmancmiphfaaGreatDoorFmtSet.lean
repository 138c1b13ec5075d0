/-
  Texts of lists of tasks: the program's and the reference's.
-/
import Derived.Test.YtmkjmancmiphfaaGreatDoorFmt
import Derived.Test.YtmkjmancmiphfaaGreatDoorAppend
namespace Go.Proofs.YtmkjmancmiphfaaGreatDoor
open Go.RowKit

/-! ### Lists of texts -/
theorem infoStr : (Tryz.prog.info? 9).map (fun i => (i.zero, i.size, i.bytes)) = some (some (.string ⟨#[]⟩), 1, 16) := by kernel_rfl
def strs (xs : List (List UInt8)) : List Value := xs.map (fun x => Value.string ⟨x.toArray⟩)
def OS (base : Nat) (w : World) (A : Option Addr) (c : Nat) (xs : List (List UInt8)) : Prop := w.ownsRow base 9 1 (.slice A xs.length c) xs.length (strs xs)
theorem OS_blank (w : World) (base : Nat) (hb : base ≤ w.heap.size) : OS base (w.alloc (.cells #[] 9)) (some ⟨w.heap.size, 0, none⟩) 0 [] := own_blank w _ 1 base hb
theorem OS_alloc {base : Nat} {w : World} {A : Option Addr} {c : Nat} {xs : List (List UInt8)} (h : OS base w A c xs) (o : Obj) : OS base (w.alloc o) A c xs := World.ownsRow.alloc h o
theorem OS_keep {base : Nat} {w w' : World} {A : Option Addr} {c : Nat} {xs : List (List UInt8)} (h : OS base w A c xs) (hb : Below w.heap.size w w') : OS base w' A c xs := own_keep h hb
theorem OS_addr {base : Nat} {w : World} {A : Option Addr} {c : Nat} {xs : List (List UInt8)} (h : OS base w A c xs) (hl : 0 < xs.length) : ∃ b, A = some ⟨b, 0, none⟩ ∧ base ≤ b ∧ b < w.heap.size := by
  rcases h.2 with ⟨_, h0⟩ | ⟨g, cap, cur, hv, hg, hh, _⟩
  · omega
  · injection hv with hA
    exact ⟨g, hA, hg, (Array.getElem?_eq_some_iff.1 hh).1⟩
theorem wpList_app_str (w : World) {ops : Array Oper} {rest : List Oper} {o : Oper} {a : Act} {Q : Exit → Act → World → Prop} (hgd : o.guard = none) (s x : Operand)
    (ho : o.op = .call { callee := .builtin .append, args := #[s, x], argTypes := #[69, 69] })
    (base : Nat) (A : Option Addr) (l : List (List UInt8)) (n c : Nat) (hn : l.length = n) (hs : a.eval s = .slice A n c) (hown : OS base w A c l)
    (b c1 : Nat) (y : List UInt8) (ty : TypeId) (hx : a.eval x = .slice (some ⟨b, 0, none⟩) 1 c1) (hb : w.heap[b]? = some (.cells #[.string ⟨y.toArray⟩] ty (0, 0)))
    (hl : l.length ≤ 2000000) (hbase : base ≤ w.heap.size)
    (h : ∀ A' c' w', OS base w' A' c' (l ++ [y]) → w.grownBy w' (Value.slice A n c).ownBlock → Below base w w' → wpList Tryz.prog ops Q rest (a.put o.dst (.slice A' (n + 1) c')) w') : wpList Tryz.prog ops Q (o :: rest) a w := by
  subst hn
  obtain ⟨i0, hi, hz0, hz1, hz2⟩ := info_parts infoStr
  refine wpList_append_own w hgd s x 69 ho base 9 i0 _ 1 16 Tryz.underlying69 hi hz0 hz1 hz2 rfl (by decide) (.slice A l.length c) l.length (strs l) hs hown
    ⟨b, 0, none⟩ 1 c1 [.string ⟨y.toArray⟩] hx rfl ?_ ?_ (by unfold maxLen; omega) (by omega) hbase ?_
  · intro j u hj
    rw [addr_add0, cell_of_row w b j _ ty (0, 0) hb, ← Array.getElem?_toList]
    exact hj
  · intro u hu
    simp at hu
    subst hu
    rfl
  · intro v' w' hown' hg _
    obtain ⟨A', c', rfl⟩ := own_form hown'
    refine h A' c' w' ?_ hg (own_below hown hg hbase)
    unfold OS
    rw [List.length_append, List.length_singleton]
    have e : strs (l ++ [y]) = strs l ++ [.string ⟨y.toArray⟩] := by simp [strs]
    rw [e]
    exact hown'

/-! ### Joined texts -/
theorem joinTail_snoc (sep : List UInt8) (r : List (List UInt8)) (y : List UInt8) : Lib.joinTail sep (r ++ [y]) = Lib.joinTail sep r ++ (sep ++ y) := by simp [Lib.joinTail]
theorem join_snoc (xs : List (List UInt8)) (y sep : List UInt8) (h : 0 < xs.length) : Lib.join (xs ++ [y]) sep = (Lib.join xs sep ++ sep) ++ y := by
  cases xs with
  | nil => simp at h
  | cons x r => rw [List.cons_append, Lib.join_cons, Lib.join_cons, joinTail_snoc]; simp [List.append_assoc]
theorem joinTail_le (sep : List UInt8) (m : Nat) (r : List (List UInt8)) (h : ∀ x ∈ r, x.length ≤ m) : (Lib.joinTail sep r).length ≤ r.length * (m + sep.length) := by
  induction r with
  | nil => simp [Lib.joinTail]
  | cons x r ih =>
    have h1 := ih (fun y hy => h y (List.mem_cons_of_mem _ hy))
    have h2 := h x (by simp)
    have e : Lib.joinTail sep (x :: r) = (sep ++ x) ++ Lib.joinTail sep r := by simp [Lib.joinTail]
    rw [e, List.length_append, List.length_append, List.length_cons, Nat.succ_mul]
    omega
theorem join_le (sep : List UInt8) (m : Nat) (r : List (List UInt8)) (h : ∀ x ∈ r, x.length ≤ m) : (Lib.join r sep).length ≤ r.length * (m + sep.length) := by
  cases r with
  | nil => simp [Lib.join_nil]
  | cons x r =>
    rw [Lib.join_cons, List.length_append, List.length_cons, Nat.succ_mul]
    have h1 := joinTail_le sep m r (fun y hy => h y (List.mem_cons_of_mem _ hy))
    have h2 := h x (by simp)
    omega
def setT (l : List Tk) : List UInt8 := Lib.join (l.map fmtTask) [59, 32]
def fmtSet (l : List Tk) : List UInt8 := if setVld l then setT l else []
theorem setT_le (l : List Tk) : (setT l).length ≤ l.length * 102 := by
  have := join_le [59, 32] 100 (l.map fmtTask) (by
    intro x hx
    obtain ⟨t, _, rfl⟩ := List.mem_map.1 hx
    exact fmtTask_len t)
  rw [List.length_map] at this
  exact this
theorem setVld_len {l : List Tk} (h : setVld l = true) : l.length ≤ 5 := by
  simp only [setVld, Bool.and_eq_true, decide_eq_true_eq] at h
  exact h.1
theorem fmtSet_le (l : List Tk) : (fmtSet l).length ≤ 510 := by
  unfold fmtSet
  split
  · rename_i h
    have h1 := setT_le l
    have h2 := setVld_len h
    omega
  · simp

set_option maxHeartbeats 2000000 in
theorem impl_FormatSet (A : Option Addr) (l : List Tk) (c : Nat) (w : World) (h : TS w A l) :
    Calls Tryz.prog 11 #[.slice A l.length c] w fun e w' => e = .returned (.string ⟨(fmtSet l).toArray⟩) ∧ Below w.heap.size w w' := by
  cases hS : setVld l with
  | false =>
    have HF : Hid (fmtSet l = []) := by simp [Hid, fmtSet, hS]
    go_enter Tryz.func11, Tryz.ntmps11
    go_wp2_with fail
    refine (impl_SetValid A l c _ h).mono ?_
    rw [hS]
    rintro e w1 ⟨rfl, b1⟩
    go_wp2_with fail
    go_ret
    exact ⟨by rw [HF.out]; rfl, b1⟩
  | true =>
    have hl5 := setVld_len hS
    have HF : Hid (fmtSet l = setT l) := by simp [Hid, fmtSet, hS]
    have hsl := setT_le l
    have HS := Lib.hid hS
    clear hS
    go_enter Tryz.func11, Tryz.ntmps11
    go_wp2_with fail
    refine (impl_SetValid A l c _ h).mono ?_
    rw [HS.out]
    rintro e w1 ⟨rfl, b1⟩
    go_wp2_with fail
    go_loopw [3, 12] (fun v i wr => ∃ (k bo c' : Nat), i = .int .i64 (k : Int) ∧ v = .slice (some ⟨bo, 0, none⟩) k c' ∧ k ≤ l.length ∧ OS w.heap.size wr (some ⟨bo, 0, none⟩) c' ((l.take k).map fmtTask) ∧ Below w.heap.size w wr) (fun _ i _ => l.length - (intOf i).toNat)
    case atStart => exact ⟨0, _, 0, rfl, rfl, by omega, OS_blank w1 _ b1.size, bal b1 _⟩
    case round =>
      obtain ⟨k, bo, c', rfl, rfl, hk, hO, hb⟩ := hrel
      by_cases hlt : k < l.length
      · obtain ⟨b, off, rfl, hbl, hc⟩ := h.keep hb (by omega)
        obtain ⟨k0, k1, k2, k3, k4⟩ := task_cells hc k hlt
        clear hc
        have hnx0 : (l.take k).map fmtTask ++ [fmtTask l[k]] = (l.take (k + 1)).map fmtTask := by rw [List.take_succ_eq_append_getElem hlt, List.map_append]; rfl
        generalize l[k] = t at k0 k1 k2 k3 k4 hnx0
        have hnx := Lib.hid hnx0
        clear hnx0
        have hkl : Hid (((l.take k).map fmtTask).length = k) := by rw [Hid, List.length_map, List.length_take]; omega
        have B1 := bal (Below.refl wr.heap.size wr) (.cells #[.int .i64 t.low, .int .i64 t.high, .int .i64 t.due, .int .i64 t.every, .bool t.crit] 58)
        go_wp2_with fail
        refine (impl_FormatTask t _).mono ?_
        rintro e w2 ⟨rfl, b2⟩
        have hO2 := OS_keep (OS_alloc hO _) b2
        have B2 : Below w.heap.size w w2 := bthru (bal hb _) b2
        clear k0 k1 k2 k3 k4 hO
        generalize (l.take k).map fmtTask = xs at *
        go_wp2_with (at_builtin; refine wpList_app_str _ rfl _ _ rfl w.heap.size (some ⟨bo, 0, none⟩) xs k c' hkl.out rfl (OS_alloc hO2 _) w2.heap.size 1 (fmtTask t) 9 rfl (heap_alloc_new w2 _) (by rw [hkl.out]; omega) (by have := B2.size; simp; omega) ?_; intro A3 c3 w3 o3 g3 b3)
        obtain ⟨b4, rfl, _, _⟩ := OS_addr o3 (by simp)
        rw [hnx.out] at o3
        go_roundw
        case rel => exact ⟨k + 1, b4, c3, by go_num, rfl, by omega, o3, (bal B2 _).trans b3⟩
        case measure => simp [intOf]; omega
      · obtain rfl : k = l.length := by omega
        rw [List.take_length] at hO
        have hlen : (l.map fmtTask).length = l.length := List.length_map ..
        have hsz := own_size hO
        obtain ⟨hs1, hs2⟩ := hsz
        have hcell : ∀ (j : Nat) x, (l.map (fun t => (⟨(fmtTask t).toArray⟩ : ByteArray)))[j]? = some x → wr.cell? ⟨bo, 0 + j, none⟩ = some (.string x) := by
          intro j x hj
          have := World.ownsRow.cells hO (g := bo) rfl j (.string x) (by
            simp only [strs, List.getElem?_map] at hj ⊢
            cases e : l[j]? with
            | none => rw [e] at hj; cases hj
            | some t => rw [e] at hj; simp at hj ⊢; exact hj)
          rw [Nat.zero_add]
          rwa [addr_add0] at this
        have hbw : bo < wr.heap.size := by
          rcases hO.2 with ⟨hv, _⟩ | ⟨g, cap, cur, hv, hg, hh, _⟩
          · cases hv
          · cases hv
            exact (Array.getElem?_eq_some_iff.1 hh).1
        have K := Tryz.strings_Join bo 0 c' (l.map (fun t => (⟨(fmtTask t).toArray⟩ : ByteArray))) ⟨#[59, 32]⟩ wr hcell hbw (by simp; omega) (by simp; omega)
        have e1 : (l.map (fun t => (⟨(fmtTask t).toArray⟩ : ByteArray))).map (·.data.toList) = l.map fmtTask := by simp
        rw [e1] at K
        have e2 : (l.map (fun t => (⟨(fmtTask t).toArray⟩ : ByteArray))).length = l.length := List.length_map ..
        have K2 := K (by show (setT l).length ≤ _; omega)
        rw [e2] at K2
        clear K e1 e2 hcell hO hs1 hs2
        go_wp2_with fail
        refine K2.mono ?_
        rintro e w4 ⟨rfl, b4⟩
        go_wp2_with fail
        go_ret
        exact ⟨by rw [HF.out]; rfl, bthru hb b4⟩

set_option maxHeartbeats 2000000 in
theorem spec_FormatSet (A : Option Addr) (l : List Tk) (c : Nat) (w : World) (h : TS w A l) (hm : l.length ≤ 9223372036854775807) :
    Calls Tryz.prog 48 #[.slice A l.length c] w fun e w' => e = .returned (.string ⟨(fmtSet l).toArray⟩) ∧ Below w.heap.size w w' := by
  cases hS : setVld l with
  | false =>
    have HF : Hid (fmtSet l = []) := by simp [Hid, fmtSet, hS]
    go_enter Tryz.func48, Tryz.ntmps48
    go_wp2_with fail
    refine (spec_SetValid A l c _ h hm).mono ?_
    rw [hS]
    rintro e w1 ⟨rfl, b1⟩
    go_wp2_with fail
    go_ret
    exact ⟨by rw [HF.out]; rfl, b1⟩
  | true =>
    have hl5 := setVld_len hS
    have HF : Hid (fmtSet l = setT l) := by simp [Hid, fmtSet, hS]
    have HS := Lib.hid hS
    clear hS
    go_enter Tryz.func48, Tryz.ntmps48
    go_wp2_with fail
    refine (spec_SetValid A l c _ h hm).mono ?_
    rw [HS.out]
    rintro e w1 ⟨rfl, b1⟩
    go_wp2_with fail
    go_loopw [3, 4] (fun v i wr => ∃ (k : Nat) (T : List UInt8), i = .int .i64 (k : Int) ∧ v = .string ⟨T.toArray⟩ ∧ k ≤ l.length ∧ Hid (T = setT (l.take k)) ∧ Below w.heap.size w wr) (fun _ i _ => l.length - (intOf i).toNat)
    case atStart => exact ⟨0, [], rfl, rfl, by omega, rfl, b1⟩
    case round =>
      obtain ⟨k, T, rfl, rfl, hk, hT, hb⟩ := hrel
      have hTl : T.length ≤ 600 := by
        rw [hT.out]
        have := setT_le (l.take k)
        rw [List.length_take] at this
        omega
      by_cases hlt : k < l.length
      · obtain ⟨b, off, rfl, hbl, hc⟩ := h.keep hb (by omega)
        obtain ⟨k0, k1, k2, k3, k4⟩ := task_cells hc k hlt
        clear hc
        have hnx0 : (l.take k).map fmtTask ++ [fmtTask l[k]] = (l.take (k + 1)).map fmtTask := by rw [List.take_succ_eq_append_getElem hlt, List.map_append]; rfl
        generalize l[k] = t at k0 k1 k2 k3 k4 hnx0
        have htl := fmtTask_len t
        by_cases h0 : k = 0
        · subst h0
          have hnx : Hid (T ++ fmtTask t = setT (l.take (0 + 1))) := by
            rw [Hid, hT.out, setT, setT, ← hnx0]
            simp [Lib.join_nil, Lib.join_one]
          clear hnx0
          simp only [Nat.zero_mul, Nat.add_zero] at k0 k1 k2 k3 k4
          go_wp2_with fail
          refine (spec_FormatTask t _).mono ?_
          rintro e w2 ⟨rfl, b2⟩
          clear k0 k1 k2 k3 k4
          go_wp2_with fail
          go_roundw
          case rel => exact ⟨0 + 1, _, by go_num, by rw [mk_app], by omega, hnx, bthru hb b2⟩
          case measure => simp [intOf]; omega
        · have hnx : Hid ((T ++ [59, 32]) ++ fmtTask t = setT (l.take (k + 1))) := by
            rw [Hid, hT.out, setT, setT, ← hnx0]
            exact (join_snoc _ _ _ (by simp; omega)).symm
          clear hnx0
          have hk0 : (0 : Int) < (k : Int) := by omega
          go_wp2_with fail
          refine (spec_FormatTask t _).mono ?_
          rintro e w2 ⟨rfl, b2⟩
          clear k0 k1 k2 k3 k4
          go_wp2_with fail
          go_roundw
          case rel => exact ⟨k + 1, _, by go_num, by rw [← mk_app, ← mk_app], by omega, hnx, bthru hb b2⟩
          case measure => simp [intOf]; omega
      · obtain rfl : k = l.length := by omega
        rw [List.take_length] at hT
        have HR := hT
        go_wp2_with fail
        go_ret
        exact ⟨by rw [HF.out, ← HR.out]; rfl, hb⟩
end Go.Proofs.YtmkjmancmiphfaaGreatDoor
