/-
  A region that draws its order, walked by hand under a condition on the world that every operation keeps: operations that yield a known value are taken first; a call that alone is ready is made by its contract.
-/
import Derived.Test.YtmkjmancmiphfaaGreatDoorStep
import Derived.OrdersHeld
import Derived.Lib.Join
import Derived.Laws.Concat
namespace Go.Proofs.YtmkjmancmiphfaaGreatDoor
open Go.RowKit

theorem takeHL {P : Program} {md : Region.Mode} {ops : Array Oper} {Q : Exit → Act → World → Prop} {S : World → Prop} {i : Nat} (d : Tmp) (v : Value) {L : List Value} {df : List Deferred} {oi : Oper} {fuel : Nat} {listed : Array Bool} {w : World}
    (hi : ops[i]? = some oi) (hd : oi.dst = some d) (hs : Region.noSelect ops = true) (hf : Region.free md ops listed i = true) (hr : (Region.ready md ops listed).contains i = true)
    (hQ : ∀ c (a : Act) w, Q (.panic c) (a.put (some d) v) w → Q (.panic c) a w) (hy : YieldsIf P ops S oi v ⟨L.toArray, df⟩) (hS : S w)
    (h : wpAnyH P md ops Q S fuel (listed.setIfInBounds i true) ⟨(L.set d v).toArray, df⟩ w) : wpAnyH P md ops Q S (fuel + 1) listed ⟨L.toArray, df⟩ w := by
  refine wpAnyH_take hi hs hf hr (by rw [hd]; exact hQ) hy hS ?_
  rw [hd]
  simpa [Act.put] using h
theorem callHL {P : Program} {md : Region.Mode} {ops : Array Oper} {Q : Exit → Act → World → Prop} {S : World → Prop} (i : Nat) (d : Tmp) {L : List Value} {df : List Deferred} {o : Oper} {fuel : Nat} {listed : Array Bool} {w : World}
    (hi : ops[i]? = some o) (hd : o.dst = some d) (hr : Region.ready md ops listed = [i]) (hw : Region.wanted o (yielded ops L.toArray) = true) (n : Nat) {fn : Func} {c : Code} (hf : P.funcs[n]? = some fn) (hname : (fn.name == "runtime.NumGoroutine") = false) (hb : fn.body = some c)
    (xs : Array Operand) (ts : Array TypeId) (hop : o.op = Op.call { callee := Callee.value (Operand.func n), args := xs, argTypes := ts })
    (vals : Array Value) (hv : xs.map (Act.eval ⟨L.toArray, df⟩) = vals) {R : Ending → World → Prop} (h : Calls P n vals w R)
    (hK : ∀ e w', R e w' → ∃ v, e = .returned v ∧ S w' ∧ wpAnyH P md ops Q S fuel (listed.setIfInBounds i true) ⟨(L.set d v).toArray, df⟩ w') : wpAnyH P md ops Q S (fuel + 1) listed ⟨L.toArray, df⟩ w := by
  refine wpAnyH_all hr (by simp) ?_
  intro j hj
  rw [List.mem_singleton] at hj
  subst hj
  unfold wpOp
  simp only [hi]
  rw [if_pos hw]
  refine .inl ?_
  have hcall : ∀ args, (callFunc n args).run P w = .ok (.enter n args) w := by
    intro args
    have h1 : ¬ (fn.name = "runtime.NumGoroutine") := by simpa using hname
    simp [callFunc, hf, h1, hb]
  have hrun : (execOp (Act.eval ⟨L.toArray, df⟩) o).run P w = .ok (.enter n vals) w := by
    unfold execOp
    rw [hop]
    simp [resolve, invoke, Deferred.ofValue, Act.eval, ← hv, hcall]
  unfold Oper.wp
  rw [hrun, Oper.upon_enter]
  refine h.mono ?_
  intro e w' r
  obtain ⟨v, rfl, s, k⟩ := hK e w' r
  refine ⟨s, ?_⟩
  rw [hd]
  simpa [Act.put] using k
theorem run_add_l {P : Program} {w : World} (t : TypeId) (x y : List UInt8) (h : x.length + y.length ≤ 1000000) : (binOp .add t (.string ⟨x.toArray⟩) (.string ⟨y.toArray⟩)).run P w = .ok (.string ⟨(x ++ y).toArray⟩) w := by
  rw [binOp_string_add]
  have e : (ByteArray.mk x.toArray) ++ (ByteArray.mk y.toArray) = ByteArray.mk (x ++ y).toArray := ByteArray.mk_append_mk x y
  rw [← e]
  refine run_string_add_sum _ _ _ ?_
  rw [Lib.size_eq, Lib.size_eq]
  show x.length + y.length ≤ _
  omega
end Go.Proofs.YtmkjmancmiphfaaGreatDoor
