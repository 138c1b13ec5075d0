/-
  A call of a Go function as one step of a region that draws its order: by its contract.
-/
import Derived.Test.YtmkjmancmiphfaaGreatDoorBase
import Derived.Test.YtmkjmancmiphfaaGreatDoorLeave
import Derived.Deep.RegionLaw
namespace Go.Proofs.YtmkjmancmiphfaaGreatDoor
open Go.RowKit

theorem step_call {P : Program} {ops : Array Oper} {o : Oper} {a : Act} {w : World} {K : Act → World → Prop} {Q : Exit → Act → World → Prop} {E : Prop}
    (hg : o.guard = none) (n : Nat) {fn : Func} {c : Code} (hf : P.funcs[n]? = some fn) (hname : (fn.name == "runtime.NumGoroutine") = false) (hb : fn.body = some c) (xs : Array Operand) (ts : Array TypeId) (hop : o.op = Op.call { callee := Callee.value (Operand.func n), args := xs, argTypes := ts })
    (vals : Array Value) (hv : xs.map a.eval = vals) {R : Ending → World → Prop} (h : Calls P n vals w R)
    (hK : ∀ e w', R e w' → ∃ v, e = .returned v ∧ K (a.put o.dst v) w') :
    if Region.wanted o (yielded ops a.tmps) = true then Oper.wp P o a w K Q else E := by
  have hw : Region.wanted o (yielded ops a.tmps) = true := by simp [Region.wanted, hg]
  rw [if_pos hw]
  have hcall : ∀ args, (callFunc n args).run P w = .ok (.enter n args) w := by
    intro args
    have h1 : ¬ (fn.name = "runtime.NumGoroutine") := by simpa using hname
    simp [callFunc, hf, h1, hb]
  have hrun : (execOp a.eval o).run P w = .ok (.enter n vals) w := by
    unfold execOp
    rw [hop]
    simp [resolve, invoke, Deferred.ofValue, Act.eval, ← hv, hcall]
  unfold Oper.wp
  rw [hrun, Oper.upon_enter]
  refine h.mono ?_
  intro e w' r
  obtain ⟨v, rfl, k⟩ := hK e w' r
  exact k

/-- append of a nil slice of tasks leaves what it is appended to. -/
theorem wp_app0 {w : World} {o : Oper} {a : Act} {K : Act → World → Prop} {Q : Exit → Act → World → Prop} (s x : Operand)
    (ho : o.op = .call { callee := .builtin .append, args := #[s, x], argTypes := #[23, 23] })
    (A : Option Addr) (n c : Nat) (hs : a.eval s = .slice A n c) (hx : a.eval x = .slice none 0 0) (hnc : n ≤ c) (hK : K (a.put o.dst (.slice A n c)) w) : Oper.wp Tryz.prog o a w K Q := by
  obtain ⟨i0, hi, hz0, hz1, hz2⟩ := info_parts infoTaskB
  have hu := Tryz.underlying23
  have hst : ∀ ad : Addr, (storeCells ad []).run Tryz.prog w = .ok () w := by
    intro ad
    simp [storeCells]
  have hrun : (Builtin.append_ #[23, 23] o.type #[.slice A n c, .slice none 0 0]).run Tryz.prog w = .ok (.slice A n c) w := by
    simp [Builtin.append_, run_underlying hu, Builtin.lenOf, Builtin.firstCells, run_sizeOf _ hi, hnc]
    cases A with
    | none => simp
    | some ad => simp [hst]
  unfold Oper.wp
  simp [execOp, ho, resolve, invoke, builtin, hs, hx, hrun, Result.andThen]
  exact hK
theorem step_app0 {w : World} {ops : Array Oper} {o : Oper} {a : Act} {K : Act → World → Prop} {Q : Exit → Act → World → Prop} {E : Prop} (hgd : o.guard = none) (s x : Operand)
    (ho : o.op = .call { callee := .builtin .append, args := #[s, x], argTypes := #[23, 23] })
    (A : Option Addr) (n c : Nat) (hs : a.eval s = .slice A n c) (hx : a.eval x = .slice none 0 0) (hnc : n ≤ c) (hK : K (a.put o.dst (.slice A n c)) w) :
    if Region.wanted o (yielded ops a.tmps) = true then Oper.wp Tryz.prog o a w K Q else E := by
  have hw : Region.wanted o (yielded ops a.tmps) = true := by simp [Region.wanted, hgd]
  rw [if_pos hw]
  exact wp_app0 s x ho A n c hs hx hnc hK
theorem wpList_app0 (w : World) {ops : Array Oper} {rest : List Oper} {o : Oper} {a : Act} {Q : Exit → Act → World → Prop} (hgd : o.guard = none) (s x : Operand)
    (ho : o.op = .call { callee := .builtin .append, args := #[s, x], argTypes := #[23, 23] })
    (A : Option Addr) (n c : Nat) (hs : a.eval s = .slice A n c) (hx : a.eval x = .slice none 0 0) (hnc : n ≤ c) (h : wpList Tryz.prog ops Q rest (a.put o.dst (.slice A n c)) w) : wpList Tryz.prog ops Q (o :: rest) a w :=
  wpList_plain hgd fun _ hK => wp_app0 s x ho A n c hs hx hnc (hK _ _ h)
theorem OT_none {base : Nat} {w : World} {A : Option Addr} {c : Nat} {l : List Tk} (h : OT base w A c l) : A = none → c = 0 := by
  rintro rfl
  rcases h.2 with ⟨hv, _⟩ | ⟨g, cap, cur, hv, _⟩
  · injection hv
  · injection hv with hA
    cases hA
/-- append of tasks, of a slice that may be nil, at a step of a region that draws. -/
theorem step_app_any {w : World} {ops : Array Oper} {o : Oper} {a : Act} {K : Act → World → Prop} {Q : Exit → Act → World → Prop} {E : Prop} (hgd : o.guard = none) (s x : Operand)
    (ho : o.op = .call { callee := .builtin .append, args := #[s, x], argTypes := #[23, 23] })
    (base : Nat) (A : Option Addr) (l : List Tk) (n c : Nat) (hn : l.length = n) (hs : a.eval s = .slice A n c) (hown : OT base w A c l)
    (X : Option Addr) (j c1 : Nat) (m : List Tk) (hj : m.length = j) (hx : a.eval x = .slice X j c1) (hm : TS w X m) (hX : X = none → c1 = 0)
    (hl : l.length ≤ 2000000) (hlm : m.length ≤ 2000000) (hbase : base ≤ w.heap.size)
    (h : ∀ A' c' w', OT base w' A' c' (l ++ m) → w.grownBy w' (Value.slice A n c).ownBlock → Below base w w' → K (a.put o.dst (.slice A' (n + j) c')) w') :
    if Region.wanted o (yielded ops a.tmps) = true then Oper.wp Tryz.prog o a w K Q else E := by
  cases X with
  | some ad => exact step_app_tasks hgd s x ho base A l n c hn hs hown ad j c1 m hj hx hm hl hlm hbase h
  | none =>
    have hc1 := hX rfl
    have hm0 : m.length = 0 := by
      rcases Nat.eq_zero_or_pos m.length with e | e
      · exact e
      · obtain ⟨b, off, hA, _⟩ := hm e
        cases hA
    have hme : m = [] := List.length_eq_zero_iff.1 hm0
    subst hme hc1 hj
    have ho' := own_size hown
    refine step_app0 hgd s x ho A n c hs hx (by omega) ?_
    refine h A c w (by rw [List.append_nil]; exact hown) (World.grownBy.refl _ _) (Below.refl _ _)
theorem wpList_app_any (w : World) {ops : Array Oper} {rest : List Oper} {o : Oper} {a : Act} {Q : Exit → Act → World → Prop} (hgd : o.guard = none) (s x : Operand)
    (ho : o.op = .call { callee := .builtin .append, args := #[s, x], argTypes := #[23, 23] })
    (base : Nat) (A : Option Addr) (l : List Tk) (c : Nat) (hs : a.eval s = .slice A l.length c) (hown : OT base w A c l)
    (X : Option Addr) (c1 : Nat) (m : List Tk) (hx : a.eval x = .slice X m.length c1) (hm : TS w X m) (hX : X = none → c1 = 0)
    (hl : l.length ≤ 2000000) (hlm : m.length ≤ 2000000) (hbase : base ≤ w.heap.size)
    (h : ∀ A' c' w', OT base w' A' c' (l ++ m) → w.grownBy w' (Value.slice A l.length c).ownBlock → Below base w w' → wpList Tryz.prog ops Q rest (a.put o.dst (.slice A' (l.length + m.length) c')) w') : wpList Tryz.prog ops Q (o :: rest) a w := by
  cases X with
  | some ad => exact wpList_app_tasks w hgd s x ho base A l c hs hown ad c1 m hx hm hl hlm hbase h
  | none =>
    have hc1 := hX rfl
    have hm0 : m.length = 0 := by
      rcases Nat.eq_zero_or_pos m.length with e | e
      · exact e
      · obtain ⟨b, off, hA, _⟩ := hm e
        cases hA
    have hme : m = [] := List.length_eq_zero_iff.1 hm0
    subst hme hc1
    have ho' := own_size hown
    refine wpList_app0 w hgd s x ho A l.length c hs hx (by omega) ?_
    refine h A c w (by rw [List.append_nil]; exact hown) (World.grownBy.refl _ _) (Below.refl _ _)
end Go.Proofs.YtmkjmancmiphfaaGreatDoor
