/-
  l4Without, LeaveTask: the tasks without one.
-/
import Derived.Test.YtmkjmancmiphfaaGreatDoorClone
import Derived.Test.YtmkjmancmiphfaaGreatDoorRespSwI
import Derived.Deep.RegionLaw
import Derived.Deep.RegionHeld3
namespace Go.Proofs.YtmkjmancmiphfaaGreatDoor
open Go.RowKit

theorem gb_low {w w' : World} {b base : Nat} (h : w.grownBy w' (some b)) (hb : base ≤ b) (hs : base ≤ w.heap.size) : Below base w w' := (Below.refl _ _).grown h hs (fun k e => by cases e; exact hb)
theorem TS_take {w : World} {A : Option Addr} {l : List Tk} (h : TS w A l) (k : Nat) : TS w A (l.take k) := by
  intro hl
  rw [List.length_take] at hl
  obtain ⟨b, off, hA, hb, hc⟩ := h (by omega)
  refine ⟨b, off, hA, hb, fun j u hu => hc j u ?_⟩
  rw [← flat_take, List.getElem?_take] at hu
  split at hu
  · exact hu
  · cases hu
theorem IS_take {w : World} {A : Option Addr} {l : List Int} (h : IS w A l) (k : Nat) : IS w A (l.take k) := by
  intro hl
  rw [List.length_take] at hl
  obtain ⟨b, off, hA, hb, hc⟩ := h (by omega)
  refine ⟨b, off, hA, hb, fun j u hu => hc j u ?_⟩
  rw [List.getElem?_take] at hu
  split at hu
  · exact hu
  · cases hu
/-- The address of s[k:]. -/
theorem TS_drop {w : World} {b off c : Nat} {l : List Tk} (h : TS w (some ⟨b, off, none⟩) l) (k : Nat) (hlc : l.length ≤ c) : ∃ A : Addr, (if c = k then (some (⟨b, off, none⟩ : Addr)) else some ⟨b, off + k * 5, none⟩) = some A ∧ TS w (some A) (l.drop k) := by
  by_cases hc : c = k
  · refine ⟨⟨b, off, none⟩, by simp [hc], fun hl => ?_⟩
    rw [List.length_drop] at hl
    omega
  · refine ⟨⟨b, off + k * 5, none⟩, by simp [hc], fun hl => ?_⟩
    rw [List.length_drop] at hl
    obtain ⟨b', off', hA, hb, hcell⟩ := h (by omega)
    cases hA
    refine ⟨b, off + k * 5, rfl, hb, fun j u hu => ?_⟩
    rw [← flat_drop l k (by omega), List.getElem?_drop] at hu
    rw [Nat.add_assoc]
    exact hcell _ u hu
theorem IS_drop {w : World} {b off c : Nat} {l : List Int} (h : IS w (some ⟨b, off, none⟩) l) (k : Nat) (hlc : l.length ≤ c) : ∃ A : Addr, (if c = k then (some (⟨b, off, none⟩ : Addr)) else some ⟨b, off + k, none⟩) = some A ∧ IS w (some A) (l.drop k) := by
  by_cases hc : c = k
  · refine ⟨⟨b, off, none⟩, by simp [hc], fun hl => ?_⟩
    rw [List.length_drop] at hl
    omega
  · refine ⟨⟨b, off + k, none⟩, by simp [hc], fun hl => ?_⟩
    rw [List.length_drop] at hl
    obtain ⟨b', off', hA, hb, hcell⟩ := h (by omega)
    cases hA
    refine ⟨b, off + k, rfl, hb, fun j u hu => ?_⟩
    rw [List.getElem?_drop] at hu
    rw [Nat.add_assoc]
    exact hcell _ u hu

/-- append of tasks, at a step of a region that draws. -/
theorem step_app_tasks {w : World} {ops : Array Oper} {o : Oper} {a : Act} {K : Act → World → Prop} {Q : Exit → Act → World → Prop} {E : Prop} (hgd : o.guard = none) (s x : Operand)
    (ho : o.op = .call { callee := .builtin .append, args := #[s, x], argTypes := #[23, 23] })
    (base : Nat) (A : Option Addr) (l : List Tk) (n c : Nat) (hn : l.length = n) (hs : a.eval s = .slice A n c) (hown : OT base w A c l)
    (ad : Addr) (j c1 : Nat) (m : List Tk) (hj : m.length = j) (hx : a.eval x = .slice (some ad) j c1) (hm : TS w (some ad) m)
    (hl : l.length ≤ 2000000) (hlm : m.length ≤ 2000000) (hbase : base ≤ w.heap.size)
    (h : ∀ A' c' w', OT base w' A' c' (l ++ m) → w.grownBy w' (Value.slice A n c).ownBlock → Below base w w' → K (a.put o.dst (.slice A' (n + j) c')) w') :
    if Region.wanted o (yielded ops a.tmps) = true then Oper.wp Tryz.prog o a w K Q else E := by
  subst hn hj
  have hw : Region.wanted o (yielded ops a.tmps) = true := by simp [Region.wanted, hgd]
  rw [if_pos hw]
  obtain ⟨i0, hi, hz0, hz1, hz2⟩ := info_parts infoTaskB
  refine wp_append_own w s x 23 ho base 58 i0 _ 5 40 Tryz.underlying23 hi hz0 hz1 hz2 rfl (by decide) (.slice A l.length c) l.length (flat l) hs hown
    ad m.length c1 (flat m) hx (by rw [flat_length, Nat.mul_comm]) ?_ (flat_cells m) (by unfold maxLen; omega) (by omega) hbase ?_
  · intro j u hj
    have hpos : 0 < m.length := by
      have := (List.getElem?_eq_some_iff.1 hj).1
      rw [flat_length] at this
      omega
    obtain ⟨b, off, hA, _, hc⟩ := hm hpos
    cases hA
    rw [Go.WideShapes.add_plain]
    exact hc j u hj
  · intro v' w' hown' hg _
    obtain ⟨A', c', rfl⟩ := own_form hown'
    refine h A' c' w' ?_ hg (own_below hown hg hbase)
    unfold OT
    rw [List.length_append, flat_append]
    exact hown'
theorem step_app_ints {w : World} {ops : Array Oper} {o : Oper} {a : Act} {K : Act → World → Prop} {Q : Exit → Act → World → Prop} {E : Prop} (hgd : o.guard = none) (s x : Operand)
    (ho : o.op = .call { callee := .builtin .append, args := #[s, x], argTypes := #[27, 27] })
    (base : Nat) (A : Option Addr) (l : List Int) (n c : Nat) (hn : l.length = n) (hs : a.eval s = .slice A n c) (hown : OI base w A c l)
    (ad : Addr) (j c1 : Nat) (m : List Int) (hj : m.length = j) (hx : a.eval x = .slice (some ad) j c1) (hm : IS w (some ad) m)
    (hl : l.length ≤ 2000000) (hlm : m.length ≤ 2000000) (hbase : base ≤ w.heap.size)
    (h : ∀ A' c' w', OI base w' A' c' (l ++ m) → w.grownBy w' (Value.slice A n c).ownBlock → Below base w w' → K (a.put o.dst (.slice A' (n + j) c')) w') :
    if Region.wanted o (yielded ops a.tmps) = true then Oper.wp Tryz.prog o a w K Q else E := by
  subst hn hj
  have hw : Region.wanted o (yielded ops a.tmps) = true := by simp [Region.wanted, hgd]
  rw [if_pos hw]
  obtain ⟨i0, hi, hz0, hz1, hz2⟩ := info_parts infoIntB
  refine wp_append_own w s x 27 ho base 3 i0 _ 1 8 Tryz.underlying27 hi hz0 hz1 hz2 rfl (by decide) (.slice A l.length c) l.length (l.map (.int .i64)) hs hown
    ad m.length c1 (m.map (.int .i64)) hx (by simp) ?_ ?_ (by unfold maxLen; omega) (by omega) hbase ?_
  · intro j u hj
    rw [List.getElem?_map] at hj
    obtain ⟨y, hy, rfl⟩ := Option.map_eq_some_iff.1 hj
    have hpos : 0 < m.length := by
      have := (List.getElem?_eq_some_iff.1 hy).1
      omega
    obtain ⟨b, off, hA, _, hc⟩ := hm hpos
    cases hA
    rw [Go.WideShapes.add_plain]
    exact hc j y hy
  · intro u hu
    obtain ⟨y, _, rfl⟩ := List.mem_map.1 hu
    rfl
  · intro v' w' hown' hg _
    obtain ⟨A', c', rfl⟩ := own_form hown'
    refine h A' c' w' ?_ hg (own_below hown hg hbase)
    unfold OI
    rw [List.length_append, List.map_append]
    exact hown'

set_option maxRecDepth 100000 in
theorem spec_l4Without (A : Option Addr) (l : List Tk) (c k : Nat) (w : World) (h : TS w A l) (hk : k < l.length) (hlc : l.length ≤ c) (hl : l.length ≤ 2000000) :
    Calls Tryz.prog 199 #[.slice A l.length c, .int .i64 (k : Int)] w (RetT w (l.eraseIdx k)) := by
  obtain ⟨b, off, rfl, hbl, hc⟩ := h (by omega)
  have hD := TS_drop h (k + 1) hlc
  obtain ⟨A2, hA2, hS2⟩ := hD
  have hS1 := Lib.hid (TS_take h k)
  have HS2 := Lib.hid hS2
  have hl1 : Hid ((l.take k).length = k) := by simp [Hid]; omega
  have hl2 : Hid ((l.drop (k + 1)).length = l.length - (k + 1)) := by simp [Hid]
  have hlen : Hid (l.eraseIdx k = l.take k ++ l.drop (k + 1)) := eraseIdx_split l k
  clear hS2 hc
  have q1 : (0 : Int) ≤ (k : Int) + 1 := by omega
  have q2 : (k : Int) + 1 ≤ (l.length : Int) := by omega
  have q3 : (k : Int) ≤ (c : Int) := by omega
  have q0 : (0 : Int) ≤ (k : Int) := by omega
  have qw : IntKind.i64.wrap ((k : Int) + 1) = (k : Int) + 1 := IntWalk.i64_in _ (by omega)
  have hkc : k ≤ c := by omega
  go_enter Tryz.func199, Tryz.ntmps199
  go_wp2_with fail
  go_region_law (first
    | (refine step_app_tasks rfl (.tmp 5) (.tmp 8) rfl w.heap.size (some ⟨w.heap.size, 0, none⟩) [] 0 0 rfl (by simp [Act.eval]) (OT_blank _ _ (Nat.le_refl _)) ⟨b, off, none⟩ k c (l.take k) hl1.out (by simp [Act.eval]) (hS1.out.keep (bal (Below.drew (Below.refl _ _)) _)) (by simp) (by rw [hl1.out]; omega) (by simp) ?_; intro A' c' w1 o1 g1 b1)
    | (refine step_app_tasks rfl (.tmp 9) (.tmp 13) rfl w.heap.size _ (l.take k) k _ hl1.out (by simp [Act.eval]) o1 A2 (l.length - (k + 1)) (c - (k + 1)) (l.drop (k + 1)) hl2.out (by simp [Act.eval]) (HS2.out.keep ((bal (Below.drew (Below.refl _ _)) _).trans b1)) (by rw [hl1.out]; omega) (by rw [hl2.out]; omega) (by have := b1.size; simp at this; omega) ?_; intro A'' c'' w2 o2 g2 b2))
  go_wp2_with fail
  go_ret
  refine ⟨A'', c'', ?_, ?_, ((bal (Below.drew (Below.refl _ _)) _).trans b1).trans b2⟩
  · rw [hlen.out, List.length_append, hl1.out, hl2.out]
    rfl
  · rw [hlen.out]
    exact o2

def lvT (l : List Tk) (x : Int) : List Tk := if plc l x then l.eraseIdx x.toNat else []
theorem spec_LeaveTask (A : Option Addr) (l : List Tk) (c : Nat) (x : Int) (w : World) (h : TS w A l) (hm : l.length ≤ maxLen) (hlc : l.length ≤ c) :
    Calls Tryz.prog 156 #[.slice A l.length c, .int .i64 x] w (RetTB w (lvT l x) (plc l x)) := by
  cases hP : plc l x with
  | false =>
    have hv : lvT l x = [] := by simp [lvT, hP]
    rw [hv]
    clear hv
    go_enter Tryz.func156, Tryz.ntmps156
    go_wp2_with fail
    refine (spec_l3At A l c x _ h hm).mono ?_
    rw [hP]
    rintro e w1 ⟨rfl, b1⟩
    go_wp2_with fail
    go_ret2
    exact ⟨_, 0, rfl, OT_blank w1 _ b1.size, bal b1 _⟩
  | true =>
    obtain ⟨hs, hl5, hlt, hx⟩ := plc_yes hP
    have hv : lvT l x = l.eraseIdx x.toNat := by simp [lvT, hP]
    rw [hv]
    obtain ⟨n, rfl⟩ : ∃ n : Nat, x = (n : Int) := ⟨_, hx⟩
    rw [Int.toNat_natCast] at *
    clear hx hs hv
    go_enter Tryz.func156, Tryz.ntmps156
    go_wp2_with fail
    refine (spec_l3At A l c n _ h hm).mono ?_
    rw [hP]
    rintro e w1 ⟨rfl, b1⟩
    go_wp2_with fail
    refine (spec_l4Without A l c n _ (h.keep b1) hlt hlc (by omega)).mono ?_
    rintro e w2 ⟨A2, c2, rfl, o2, b2⟩
    go_wp2_with fail
    go_ret2
    exact ⟨A2, c2, rfl, own_base o2 b1.size, bthru b1 b2⟩
theorem impl_LeaveTask (A : Option Addr) (l : List Tk) (c : Nat) (x : Int) (w : World) (h : TS w A l) :
    Calls Tryz.prog 137 #[.slice A l.length c, .int .i64 x] w (RetTB w (lvT l x) (plc l x)) := by
  cases hP : plc l x with
  | false =>
    have hv : lvT l x = [] := by simp [lvT, hP]
    rw [hv]
    clear hv
    go_enter Tryz.func137, Tryz.ntmps137
    go_wp2_with fail
    refine (impl_placed A l c x _ h).mono ?_
    rw [hP]
    rintro e w1 ⟨rfl, b1⟩
    go_wp2_with fail
    go_ret2
    exact ⟨none, 0, rfl, OT_nil _ _, b1⟩
  | true =>
    obtain ⟨hs, hl5, hlt, hx⟩ := plc_yes hP
    have hv : lvT l x = l.eraseIdx x.toNat := by simp [lvT, hP]
    rw [hv]
    obtain ⟨n, rfl⟩ : ∃ n : Nat, x = (n : Int) := ⟨_, hx⟩
    rw [Int.toNat_natCast] at *
    clear hx hs hv
    go_enter Tryz.func137, Tryz.ntmps137
    go_wp2_with fail
    refine (impl_placed A l c n _ h).mono ?_
    rw [hP]
    rintro e w1 ⟨rfl, b1⟩
    go_wp2_with fail
    refine (slices_CloneT A l c _ (h.keep b1) (by omega)).mono ?_
    rintro e w2 ⟨A2, c2, rfl, o2, b2⟩
    obtain ⟨b, rfl, hb1, hb2⟩ := OT_addr o2 (by omega)
    go_wp2_with fail
    refine (slices_DeleteT _ b c2 n l _ o2 hlt (by omega)).mono ?_
    rintro e w3 ⟨rfl, o3, g3⟩
    go_wp2_with fail
    go_ret2
    have B3 : Below w1.heap.size w1 w3 := b2.trans (gb_low g3 hb1 b2.size)
    exact ⟨_, c2, rfl, own_base o3 b1.size, bthru b1 B3⟩
end Go.Proofs.YtmkjmancmiphfaaGreatDoor
