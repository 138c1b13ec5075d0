/-
  The arguments of a law, opened: a slice of tasks, a slice of integers, a slice of bytes; and the row's end.
-/
import Derived.Test.YtmkjmancmiphfaaGreatDoorBase
import Derived.Test.YtmkjmancmiphfaaGreatDoorFacts
import Derived.ProofKit
import Derived.Deep.Slices
import Derived.Deep.Fields
import Derived.ChangeSame
import Derived.OpenShut
import Derived.Lib.SmallJoins
namespace Go.Proofs.YtmkjmancmiphfaaGreatDoor
open Go.ChangeShapes Go.WideShapes Go.ChangeAt Go.RowKit Go.WideElems Go.Deep


section
variable {H : Type} {enc : TypeId × Value → H} {P : Program} {w : World} {base : Nat} {spare : Nat → Bool} {held : Bool}
theorem open_slice_fields {t e : TypeId} {fs : Array Field} {fuel : Nat} {cs : List Value} {x : DataW H × List MemPlace} (ht : P.underlying t = some (.slice e)) (he : P.underlying e = some (.struct fs))
    (hone : oneCellFields P fs = true) (hC : P.cellsOf e = fs.size) (h : DataW.trod enc P w base spare held fuel t cs = some x) :
    (cs = [.slice none 0 0] ∧ x = (.nil, [])) ∨
    ∃ (a : Addr) (len cap m : Nat), cs = [.slice (some a) len cap] ∧ len ≤ cap ∧ cap ≤ maxLen ∧ len ≤ m ∧
      ∀ i, i < m → ∃ (ys : List (DataW H × List MemPlace)) (n : Nat), ys.length = fs.size ∧
        ∀ (j : Nat) (f : Field), fs[j]? = some f → ∃ (v : Value) (y : DataW H × List MemPlace), w.cell? (a.add (i * fs.size + j)) = some v ∧ ys[j]? = some y ∧ DataW.trod enc P w base spare held n f.type [v] = some y := by
  rcases open_slice ht h with h0 | ⟨a, len, cap, m, n, D, Pl, hcs, hb, hl, hm, hmm, hx, hi⟩
  · exact .inl h0
  · refine .inr ⟨a, len, cap, m, hcs, hl, hm, by rw [hmm]; split <;> omega, fun i him => ?_⟩
    obtain ⟨cs', hc, ht'⟩ := hi i him
    rw [hC] at hc
    obtain ⟨ys, n', hn', hy, hlen, hyl, hf⟩ := DataW.trod_struct he ht'
    obtain ⟨_, hcl, hat⟩ := World.cells?_some hc
    refine ⟨ys, n', hyl, fun j f hj => ?_⟩
    obtain ⟨ho, hk⟩ := hone_of hone j f hj
    have hjl : j < fs.size := (Array.getElem?_eq_some_iff.1 hj).1
    have hcell := hat j hjl
    have hv : cs'[j]? = some (cs'[j]'(by omega)) := List.getElem?_eq_getElem (by omega)
    have h1 := hf j f hj
    rw [ho, hk] at h1
    have hone' : (cs'.drop j).take 1 = [cs'[j]'(by omega)] := by
      rw [List.drop_eq_getElem_cons (by omega)]
      rfl
    rw [hone'] at h1
    have hys : ys[j]? = some (ys[j]'(by omega)) := List.getElem?_eq_getElem (by omega)
    refine ⟨_, _, ?_, hys, h1.trans hys⟩
    rw [← Go.Deep.add_add, hcell, hv]

/-- A slice of structs of four integers and a bool reads as tasks. -/
theorem open_tasks {t e ti tb : TypeId} {n0 n1 n2 n3 n4 : Field} {v : Value} {d : DataW H} {ps : List MemPlace} (ht : P.underlying t = some (.slice e)) (he : P.underlying e = some (.struct #[n0, n1, n2, n3, n4]))
    (hone : oneCellFields P #[n0, n1, n2, n3, n4] = true) (hC : P.cellsOf e = 5) (hi : P.underlying ti = some (.int .i64)) (hbo : P.underlying tb = some .bool)
    (e0 : n0.type = ti) (e1 : n1.type = ti) (e2 : n2.type = ti) (e3 : n3.type = ti) (e4 : n4.type = tb) (hw : ∃ a len cap, v = .slice a len cap) (h : DataW.Trod enc P w base spare held t v d ps) :
    ∃ (A : Option Addr) (l : List Tk) (c : Nat), v = .slice A l.length c ∧ TS w A l ∧ l.length ≤ maxLen := by
  obtain ⟨a0, len0, cap0, rfl⟩ := hw
  obtain ⟨fuel, hf⟩ := h
  rcases open_slice_fields ht he hone (by rw [hC]; rfl) hf with ⟨hcs, _⟩ | ⟨a, len, cap, m, hcs, hl, hm, hlm, hcell⟩
  · simp [Value.cells] at hcs
    obtain ⟨rfl, rfl, rfl⟩ := hcs
    exact ⟨none, [], 0, rfl, fun h => by simp at h, by simp⟩
  · simp [Value.cells] at hcs
    obtain ⟨rfl, rfl, rfl⟩ := hcs
    have key : ∀ i : Nat, ∃ t : Tk, i < len0 → ∀ j u, j < 5 → t.cells[j]? = some u → w.cell? (a.add (i * 5 + j)) = some u := by
      intro i
      by_cases hil : i < len0
      · obtain ⟨ys, n, hyl, hf⟩ := hcell i (by omega)
        obtain ⟨v0, y0, c0, _, t0⟩ := hf 0 n0 rfl
        obtain ⟨v1, y1, c1, _, t1⟩ := hf 1 n1 rfl
        obtain ⟨v2, y2, c2, _, t2⟩ := hf 2 n2 rfl
        obtain ⟨v3, y3, c3, _, t3⟩ := hf 3 n3 rfl
        obtain ⟨v4, y4, c4, _, t4⟩ := hf 4 n4 rfl
        obtain ⟨x0, g0, _, _⟩ := DataW.trod_int hi (e0 ▸ t0)
        obtain ⟨x1, g1, _, _⟩ := DataW.trod_int hi (e1 ▸ t1)
        obtain ⟨x2, g2, _, _⟩ := DataW.trod_int hi (e2 ▸ t2)
        obtain ⟨x3, g3, _, _⟩ := DataW.trod_int hi (e3 ▸ t3)
        obtain ⟨x4, g4, _⟩ := DataW.trod_bool hbo (e4 ▸ t4)
        injection g0 with g0; injection g1 with g1; injection g2 with g2; injection g3 with g3; injection g4 with g4
        subst g0 g1 g2 g3 g4
        refine ⟨⟨x0, x1, x2, x3, x4⟩, fun _ j u hj hu => ?_⟩
        match j, hj with
        | 0, _ => simp [Tk.cells] at hu; subst hu; exact c0
        | 1, _ => simp [Tk.cells] at hu; subst hu; exact c1
        | 2, _ => simp [Tk.cells] at hu; subst hu; exact c2
        | 3, _ => simp [Tk.cells] at hu; subst hu; exact c3
        | 4, _ => simp [Tk.cells] at hu; subst hu; exact c4
      · exact ⟨⟨0, 0, 0, 0, false⟩, fun h => absurd h hil⟩
    obtain ⟨F, hF⟩ := Classical.axiomOfChoice key
    refine ⟨some a, (List.range len0).map F, cap0, by simp, ?_, by simp; omega⟩
    intro hpos
    have hlen : 0 < len0 := by simpa using hpos
    have h0 := hF 0 hlen 0 _ (by omega) rfl
    obtain ⟨b, off, spot⟩ := a
    have hspot : spot = none := by simpa [Addr.add] using World.cell?_spot h0
    subst hspot
    have hblt : b < w.heap.size := by
      have := World.block_lt_of_cell? w _ h0
      simpa [Go.WideShapes.add_plain] using this
    refine ⟨b, off, rfl, hblt, fun j u hu => ?_⟩
    have hj : j < 5 * len0 := by
      have := (List.getElem?_eq_some_iff.1 hu).1
      rw [flat_length] at this
      simpa using this
    have hk : j / 5 < ((List.range len0).map F).length := by simp; omega
    have h1 := flat_at ((List.range len0).map F) (j / 5) (j % 5) hk (Nat.mod_lt _ (by omega))
    have hjj : j / 5 * 5 + j % 5 = j := by omega
    rw [hjj, hu] at h1
    simp only [List.getElem_map, List.getElem_range] at h1
    have h2 := hF (j / 5) (by omega) (j % 5) u (Nat.mod_lt _ (by omega)) h1.symm
    rw [hjj, Go.WideShapes.add_plain] at h2
    exact h2
  
/-- A slice of integers of one kind. -/
theorem open_kind {k : IntKind} {t e : TypeId} {v : Value} {d : DataW H} {ps : List MemPlace} (ht : P.underlying t = some (.slice e)) (he : P.underlying e = some (.int k)) (hC : P.cellsOf e = 1)
    (hw : ∃ a len cap, v = .slice a len cap) (h : DataW.Trod enc P w base spare held t v d ps) :
    ∃ (A : Option Addr) (l : List Int) (c : Nat), v = .slice A l.length c ∧ l.length ≤ c ∧ l.length ≤ maxLen ∧ (∀ x ∈ l, (Lit.int k x).wf = true) ∧
      (0 < l.length → ∃ b off, A = some ⟨b, off, none⟩ ∧ b < w.heap.size ∧ ∀ j u, l[j]? = some u → w.cell? ⟨b, off + j, none⟩ = some (.int k u)) := by
  obtain ⟨a0, len0, cap0, rfl⟩ := hw
  obtain ⟨fuel, hf⟩ := h
  rcases open_ints ht he hC hf with ⟨hcs, hx⟩ | ⟨a, len', cap', zs, hcs, _, hl, hm, hz, hx, hcell, hwz⟩
  · simp [Value.cells] at hcs
    obtain ⟨rfl, rfl, rfl⟩ := hcs
    exact ⟨none, [], 0, rfl, by simp, by simp, by simp, fun h => by simp at h⟩
  · simp [Value.cells] at hcs
    obtain ⟨rfl, rfl, rfl⟩ := hcs
    have hlz : len0 ≤ zs.length := by rw [hz]; split <;> omega
    have htl : (zs.take len0).length = len0 := by simp; omega
    refine ⟨some a, zs.take len0, cap0, by rw [htl], by rw [htl]; exact hl, by rw [htl]; omega, fun x hx => hwz x (List.mem_of_mem_take hx), ?_⟩
    rw [htl]
    intro hpos
    obtain ⟨b, off, rfl, hc⟩ := ints_at hcell (by omega)
    have h0 := hc 0 (by omega)
    refine ⟨b, off, rfl, World.block_lt_of_cell? w _ h0, fun j u hu => ?_⟩
    have hj : j < len0 := by
      have := (List.getElem?_eq_some_iff.1 hu).1
      rwa [htl] at this
    have h1 := hc j (by omega)
    rw [List.getElem?_take_of_lt hj] at hu
    rw [h1, List.getD, hu]
    rfl
theorem byte_wf {x : Int} (h : (Lit.int .u8 x).wf = true) : 0 ≤ x ∧ x ≤ 255 := by
  simpa [Lit.wf, IntKind.min, IntKind.max, IntKind.signed, IntKind.bits] using h
theorem int_wf {x : Int} (h : (Lit.int .i64 x).wf = true) : -9223372036854775808 ≤ x ∧ x ≤ 9223372036854775807 := by
  simpa [Lit.wf, IntKind.min, IntKind.max, IntKind.signed, IntKind.bits] using h
end
end Go.Proofs.YtmkjmancmiphfaaGreatDoor
