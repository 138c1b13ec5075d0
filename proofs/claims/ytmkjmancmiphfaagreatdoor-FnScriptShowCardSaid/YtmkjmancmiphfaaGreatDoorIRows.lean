/-
  Several rows of integers of the call's own, each in a block of its own; append to one of them.
-/
import Derived.Test.YtmkjmancmiphfaaGreatDoorJob
import Derived.Test.YtmkjmancmiphfaaGreatDoorOrd
import Derived.Deep.AppendLies
import Derived.Lib.OthersKept
namespace Go.Proofs.YtmkjmancmiphfaaGreatDoor
open Go.RowKit

/-- An integer appended: the row stays in its block, or lies in the block that is made now. -/
theorem wpList_app_intL (w : World) {ops : Array Oper} {rest : List Oper} {o : Oper} {a : Act} {Q : Exit → Act → World → Prop} (hgd : o.guard = none) (s x : Operand)
    (ho : o.op = .call { callee := .builtin .append, args := #[s, x], argTypes := #[27, 27] })
    (base b0 : Nat) (l : List Int) (n c : Nat) (hn : l.length = n) (hs : a.eval s = .slice (some ⟨b0, 0, none⟩) n c) (hown : OI base w (some ⟨b0, 0, none⟩) c l)
    (b c1 : Nat) (y : Int) (ty : TypeId) (hx : a.eval x = .slice (some ⟨b, 0, none⟩) 1 c1) (hb : w.heap[b]? = some (.cells #[.int .i64 y] ty (0, 0)))
    (hl : l.length ≤ 2000000) (hbase : base ≤ w.heap.size) (H : Nat) (hH : w.heap.size = H)
    (h : ∀ g c' w', OI base w' (some ⟨g, 0, none⟩) c' (l ++ [y]) → w.grownBy w' (some b0) → (b0 = g ∨ g = H) → Below base w w' → wpList Tryz.prog ops Q rest (a.put o.dst (.slice (some ⟨g, 0, none⟩) (n + 1) c')) w') : wpList Tryz.prog ops Q (o :: rest) a w := by
  subst hn
  obtain ⟨i0, hi, hz0, hz1, hz2⟩ := info_parts infoIntB
  refine wpList_append_lies w hgd s x 27 ho base 3 i0 _ 1 8 Tryz.underlying27 hi hz0 hz1 hz2 rfl (by decide) (.slice (some ⟨b0, 0, none⟩) l.length c) l.length (l.map (.int .i64)) hs hown
    ⟨b, 0, none⟩ 1 c1 [.int .i64 y] hx rfl ?_ ?_ (by omega) (by unfold maxLen; omega) (by omega) hbase H hH ?_
  · intro j u hj
    rw [addr_add0, cell_of_row w b j _ ty (0, 0) hb, ← Array.getElem?_toList]
    exact hj
  · intro u hu
    simp at hu
    subst hu
    rfl
  · intro g c' w' hown' hg hat _
    refine h g c' w' ?_ hg (by simpa [Value.ownBlock] using hat) (own_below hown hg hbase)
    unfold OI
    rw [List.length_append, List.length_singleton, List.map_append]
    exact hown'

theorem oi_gb_cell (w : World) (b i : Nat) (v : Value) : w.grownBy (w.setCell ⟨b, i, none⟩ v) (some b) :=
  ⟨rfl, rfl, rfl, by simp [World.setCell], fun k _ hk => Below.heap_setCell _ _ _ _ (fun e => hk (by simp [e]))⟩
theorem OI_st {base : Nat} {w : World} {b c : Nat} {l : List Int} (h : OI base w (some ⟨b, 0, none⟩) c l) (i : Nat) (x : Int) :
    OI base (w.setCell ⟨b, i, none⟩ (.int .i64 x)) (some ⟨b, 0, none⟩) c (l.set i x) := by
  have h1 := World.ownsRow.stored h i (.int .i64 x)
  unfold OI
  rw [List.length_set, List.map_set]
  exact h1.1
theorem OI_get {base : Nat} {w : World} {b c : Nat} {l : List Int} (h : OI base w (some ⟨b, 0, none⟩) c l) (i : Nat) (hi : i < l.length) : w.cell? ⟨b, i, none⟩ = some (.int .i64 (l.getD i 0)) ∧ w.frozen? ⟨b, i, none⟩ = false := by
  obtain ⟨b', off, hA, _, hc⟩ := h.is (by omega)
  cases hA
  have := hc i (l.getD i 0) (by simp [hi])
  rw [Nat.zero_add] at this
  exact ⟨this, World.ownsRow.frozenAt h i⟩
theorem made0 (n : Nat) : (madeCells (Value.int .i64 0).cells (n * 1)).toList = (List.replicate n (0 : Int)).map (.int .i64) := by
  apply List.ext_getElem?
  intro j
  have e : (Value.int .i64 0).cells = #[.int .i64 0] := rfl
  rw [e, Nat.mul_one]
  by_cases h : j < n
  · simp [madeCells, h, Nat.mod_one]
  · simp [madeCells, h]
/-- make([]int, n): zeros. -/
theorem make_zero (n : Nat) (hn : n ≤ 1000000) : ∃ row : Array Value, (∀ w : World, (Instr.makeSlice 27 (.int .i64 (n : Int)) (.int .i64 (n : Int))).run Tryz.prog w = .ok (.slice (some ⟨w.heap.size, 0, none⟩) n n) (w.alloc (.cells row 3))) ∧
    ∀ w : World, OI w.heap.size (w.alloc (.cells row 3)) (some ⟨w.heap.size, 0, none⟩) n (List.replicate n 0) := by
  obtain ⟨i0, hi, hz0, hz1, hz2⟩ := info_parts infoIntB
  refine ⟨madeCells (Value.int .i64 0).cells (n * 1), fun w => ?_, fun w => ?_⟩
  · have hb : (i0.bytes : Int) * (n : Int) ≤ 281474976710656 := by
      have h : i0.bytes * n ≤ 256 * 16777216 := Nat.mul_le_mul (by omega) (by omega)
      have h2 : ((i0.bytes * n : Nat) : Int) ≤ 281474976710656 := by omega
      rwa [Int.natCast_mul] at h2
    have hr := run_make (P := Tryz.prog) w 27 3 i0 _ Tryz.underlying27 hi hz0 .i64 .i64 n n (by omega) (by omega) hb (by omega)
    simp only [Int.toNat_natCast] at hr
    rw [← hz1]
    exact hr
  · have := own_new (w := w) (t := 3) (size := 1) (n := n) (row := madeCells (Value.int .i64 0).cells (n * 1)) (by rw [size_madeCells]) (by omega)
    unfold OI
    rw [made0] at this
    rw [List.length_replicate]
    exact this
abbrev Rw := Nat × Nat × List Int
/-- The rows R, each in a block of its own. -/
structure IRows (base : Nat) (w : World) (R : List Rw) : Prop where
  own : ∀ r, r ∈ R → OI base w (some ⟨r.1, 0, none⟩) r.2.1 r.2.2
  nd : R.Pairwise (fun a b => a.1 ≠ b.1)
section
variable {base : Nat} {w w' : World} {R : List Rw}
theorem IRows.keep (h : IRows base w R) (hb : Below w.heap.size w w') : IRows base w' R := ⟨fun r hr => OI_keep (h.own r hr) hb, h.nd⟩
theorem IRows.lt (h : IRows base w R) {r : Rw} (hr : r ∈ R) : base ≤ r.1 ∧ r.1 < w.heap.size := World.ownsRow.lt (h.own r hr) r.1 rfl
theorem IRows.other (h : IRows base w R) {row : Option Nat} (hg : w.grownBy w' row) (hr : ∀ b, row = some b → ∃ cs t fz, w.heap[b]? = some (.cells cs t fz) ∧ t ≠ 3) : IRows base w' R := by
  refine ⟨fun r hr' => ?_, h.nd⟩
  refine World.ownsRow.kept (h.own r hr') hg ?_
  right
  intro e
  obtain ⟨cs, t, fz, k1, k2⟩ := hr r.1 e.symm
  rcases (h.own r hr').2 with ⟨hv, _⟩ | ⟨g, cap, cur, hv, _, hh, _⟩
  · cases hv
  · cases hv
    rw [hh] at k1
    injection k1 with k1
    injection k1 with _ kt _
    exact k2 kt.symm
theorem IRows.setX (h : IRows base w R) {b : Nat} {cs : Array Value} {t : TypeId} (hk : w.heap[b]? = some (.cells cs t (0, 0))) (ht : t ≠ 3) (i : Nat) (v : Value) : IRows base (w.setCell ⟨b, i, none⟩ v) R ∧ (w.setCell ⟨b, i, none⟩ v).heap[b]? = some (.cells (cs.setIfInBounds i v) t (0, 0)) :=
  ⟨h.other (oi_gb_cell w b i v) (fun b' hb => by cases hb; exact ⟨_, _, _, hk, ht⟩), heap_setCell_same w b i cs t v hk⟩
theorem IRows.one (h : IRows base w R) (k : Nat) {g c : Nat} {l : List Int} (hk : R[k]? = some (g, c, l)) {g' c' : Nat} {l' : List Int} (hO : OI base w' (some ⟨g', 0, none⟩) c' l') (hg : w.grownBy w' (some g)) (hgg : g = g' ∨ g' = w.heap.size) :
    IRows base w' (R.set k (g', c', l')) := by
  have hkl := (List.getElem?_eq_some_iff.1 hk).1
  have hnd := List.pairwise_iff_getElem.1 h.nd
  have hkk : R[k] = (g, c, l) := (List.getElem?_eq_some_iff.1 hk).2
  have hother : ∀ i (hi : i < R.length), i ≠ k → R[i].1 ≠ g := by
    intro i hi hne
    rcases Nat.lt_or_gt_of_ne hne with h1 | h1
    · have := hnd i k hi hkl h1
      rw [hkk] at this
      exact this
    · have := hnd k i hkl hi h1
      rw [hkk] at this
      exact fun e => this e.symm
  constructor
  · intro r hr
    rcases List.mem_iff_getElem.1 hr with ⟨i, hi, rfl⟩
    rw [List.length_set] at hi
    rw [List.getElem_set]
    split
    · exact hO
    · rename_i hne
      have hm := h.own R[i] (List.getElem_mem hi)
      refine World.ownsRow.kept hm hg (.inr ?_)
      intro e
      have : R[i].1 = g := by simpa [Value.ownBlock] using e
      exact hother i hi (fun e => hne e.symm) this
  · rw [List.pairwise_iff_getElem]
    intro i j hi0 hj0 hij
    have hi : i < R.length := by rwa [List.length_set] at hi0
    have hj : j < R.length := by rwa [List.length_set] at hj0
    rw [List.getElem_set, List.getElem_set]
    have hlt : ∀ i (hi : i < R.length), R[i].1 < w.heap.size := fun i hi => (h.lt (List.getElem_mem hi)).2
    split
    · rename_i e1
      rw [if_neg (by omega)]
      intro e
      have e : g' = R[j].1 := e
      rcases hgg with rfl | rfl
      · exact hother j hj (by omega) e.symm
      · have := hlt j hj
        omega
    · split
      · intro e
        have e : R[i].1 = g' := e
        rcases hgg with rfl | rfl
        · exact hother i hi (by omega) e
        · have := hlt i hi
          omega
      · exact hnd i j hi hj hij
theorem IRows.new (h : IRows base w R) {c : Nat} {l : List Int} (hO : OI base w' (some ⟨w.heap.size, 0, none⟩) c l) (hb : Below w.heap.size w w') : IRows base w' (R ++ [(w.heap.size, c, l)]) := by
  constructor
  · intro r hr
    rw [List.mem_append, List.mem_singleton] at hr
    rcases hr with hr | rfl
    · exact OI_keep (h.own r hr) hb
    · exact hO
  · rw [List.pairwise_append]
    refine ⟨h.nd, by simp, ?_⟩
    intro a ha b hb'
    rw [List.mem_singleton] at hb'
    subst hb'
    have := (h.lt ha).2
    show a.1 ≠ w.heap.size
    omega
theorem IRows.sub (h : IRows base w R) {R' : List Rw} (hs : R'.Sublist R) : IRows base w R' := ⟨fun r hr => h.own r (hs.mem hr), h.nd.sublist hs⟩
theorem IRows.nil (base : Nat) (w : World) : IRows base w [] := ⟨fun r hr => (by cases hr), List.Pairwise.nil⟩
theorem IRows.store (h : IRows base w R) (k : Nat) {g c : Nat} {l : List Int} (hk : R[k]? = some (g, c, l)) (i : Nat) (x : Int) : IRows base (w.setCell ⟨g, i, none⟩ (.int .i64 x)) (R.set k (g, c, l.set i x)) :=
  h.one k hk (OI_st (h.own _ (List.mem_of_getElem? hk)) i x) (oi_gb_cell w g i _) (.inl rfl)
theorem IRows.at (h : IRows base w R) (k : Nat) {g c : Nat} {l : List Int} (hk : R[k]? = some (g, c, l)) : OI base w (some ⟨g, 0, none⟩) c l := h.own _ (List.mem_of_getElem? hk)
end
end Go.Proofs.YtmkjmancmiphfaaGreatDoor
