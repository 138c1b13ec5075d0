/-
  An argument that is a task, opened; and the laws' copy of it.
-/
import Derived.Test.YtnldiakjmhfodaaOpen
import Derived.Test.YtnldiakjmhfodaaLeave
import Derived.Test.YtnldiakjmhfodaaAdmS
namespace Go.Proofs.Ytnldiakjmhfodaa
open Go.ChangeShapes Go.WideShapes Go.ChangeAt Go.RowKit Go.WideElems Go.Deep

section
variable {H : Type} {enc : TypeId × Value → H} {P : Program} {w : World} {base : Nat} {spare : Nat → Bool} {held : Bool}
theorem open_task {t ti tb : TypeId} {n0 n1 n2 n3 n4 : Field} {v : Value} {d : DataW H} {ps : List MemPlace} (he : P.underlying t = some (.struct #[n0, n1, n2, n3, n4]))
    (hone : oneCellFields P #[n0, n1, n2, n3, n4] = true) (hC : P.cellsOf t = 5) (hi : P.underlying ti = some (.int .i64)) (hbo : P.underlying tb = some .bool)
    (e0 : n0.type = ti) (e1 : n1.type = ti) (e2 : n2.type = ti) (e3 : n3.type = ti) (e4 : n4.type = tb) (hw : ∃ cs, v = .agg cs ∧ cs.size = P.cellsOf t) (h : DataW.Trod enc P w base spare held t v d ps) :
    ∃ k : Tk, v = k.val := by
  obtain ⟨cs, rfl, hsz⟩ := hw
  rw [hC] at hsz
  obtain ⟨fuel, hf⟩ := h
  obtain ⟨ys, n', hn', hy, hlen, hyl, hF⟩ := DataW.trod_struct he hf
  have fld : ∀ (j : Nat) (f : Field), (#[n0, n1, n2, n3, n4] : Array Field)[j]? = some f → ∃ (v : Value) (y : DataW H × List MemPlace), cs[j]? = some v ∧ DataW.trod enc P w base spare held n' f.type [v] = some y := by
    intro j f hj
    obtain ⟨ho, hk⟩ := hone_of hone j f hj
    have hjl : j < 5 := by
      have := (Array.getElem?_eq_some_iff.1 hj).1
      simpa using this
    have h1 := hF j f hj
    rw [ho, hk] at h1
    have hcl : j < (Value.agg cs).cells.toList.length := by
      show j < cs.toList.length
      simp [hsz, hjl]
    have hone' : ((Value.agg cs).cells.toList.drop j).take 1 = [(Value.agg cs).cells.toList[j]] := by
      rw [List.drop_eq_getElem_cons hcl]
      rfl
    rw [hone'] at h1
    have hys : ys[j]? = some (ys[j]'(by rw [hyl]; exact hjl)) := List.getElem?_eq_getElem _
    refine ⟨(Value.agg cs).cells.toList[j], _, ?_, h1.trans hys⟩
    show cs[j]? = some cs.toList[j]
    rw [Array.getElem?_eq_getElem (by omega)]
    congr 1
  obtain ⟨v0, y0, c0, t0⟩ := fld 0 n0 rfl
  obtain ⟨v1, y1, c1, t1⟩ := fld 1 n1 rfl
  obtain ⟨v2, y2, c2, t2⟩ := fld 2 n2 rfl
  obtain ⟨v3, y3, c3, t3⟩ := fld 3 n3 rfl
  obtain ⟨v4, y4, c4, t4⟩ := fld 4 n4 rfl
  obtain ⟨x0, g0, _, _⟩ := DataW.trod_int hi (e0 ▸ t0)
  obtain ⟨x1, g1, _, _⟩ := DataW.trod_int hi (e1 ▸ t1)
  obtain ⟨x2, g2, _, _⟩ := DataW.trod_int hi (e2 ▸ t2)
  obtain ⟨x3, g3, _, _⟩ := DataW.trod_int hi (e3 ▸ t3)
  obtain ⟨x4, g4, _⟩ := DataW.trod_bool hbo (e4 ▸ t4)
  injection g0 with g0; injection g1 with g1; injection g2 with g2; injection g3 with g3; injection g4 with g4
  subst g0 g1 g2 g3 g4
  refine ⟨⟨x0, x1, x2, x3, x4⟩, ?_⟩
  obtain ⟨l⟩ := cs
  match l, hsz with
  | [a, b, c, d, e], _ =>
    simp at c0 c1 c2 c3 c4
    subst c0 c1 c2 c3 c4
    rfl
end
theorem admL_short (l : List Tk) (t : Tk) (p : Int) : (admL l t p).length ≤ 5 := by
  cases e : admitT l t p with
  | none => rw [(admL_none e).1]; simp
  | some x =>
    rw [(admL_some e).1]
    obtain ⟨_, h2, h3, _⟩ := admitT_some e
    have h4 := h3.length_eq
    have h5 := (setVld_all h2).1
    omega
theorem laws_toTask (t : Tk) (w : World) :
    Calls Try.prog 32 #[t.val] w fun e w' => e = .returned t.val ∧ Below w.heap.size w w' := by
  obtain ⟨low, high, due, every, crit⟩ := t
  go_enter Try.func32, Try.ntmps32
  go_wp2_with fail
  refine bodyPost_ret (v := .agg #[.int .i64 low, .int .i64 high, .int .i64 due, .int .i64 every, .bool crit]) (by simp [results, Try.results32, go_sem]) rfl ⟨rfl, bal (bal (bal (Below.refl _ _) _) _) _⟩
end Go.Proofs.Ytnldiakjmhfodaa
