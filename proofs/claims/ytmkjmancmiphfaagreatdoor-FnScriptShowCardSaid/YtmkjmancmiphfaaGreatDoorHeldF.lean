/-
  A region that draws, walked by hand: a call of a function value.
-/
import Derived.Test.YtmkjmancmiphfaaGreatDoorHeld
namespace Go.Proofs.YtmkjmancmiphfaaGreatDoor
open Go.RowKit

theorem callHF {P : Program} {md : Region.Mode} {ops : Array Oper} {Q : Exit → Act → World → Prop} {S : World → Prop} (i : Nat) (d : Tmp) {L : List Value} {df : List Deferred} {o : Oper} {fuel : Nat} {listed : Array Bool} {w : World}
    (hi : ops[i]? = some o) (hd : o.dst = some d) (hr : Region.ready md ops listed = [i]) (hw : Region.wanted o (yielded ops L.toArray) = true) (n : Nat) {fn : Func} {c : Code} (hf : P.funcs[n]? = some fn) (hname : (fn.name == "runtime.NumGoroutine") = false) (hb : fn.body = some c)
    (cal : Operand) (xs : Array Operand) (ts : Array TypeId) (hop : o.op = Op.call { callee := Callee.value cal, args := xs, argTypes := ts })
    (caps : Array Value) (hcal : Act.eval ⟨L.toArray, df⟩ cal = .func (.func n) #[] caps) (all : Array Value) (hv : xs.map (Act.eval ⟨L.toArray, df⟩) ++ caps = all) {R : Ending → World → Prop} (h : Calls P n all w R)
    (hK : ∀ e w', R e w' → ∃ v, e = .returned v ∧ S w' ∧ wpAnyH P md ops Q S fuel (listed.setIfInBounds i true) ⟨(L.set d v).toArray, df⟩ w') : wpAnyH P md ops Q S (fuel + 1) listed ⟨L.toArray, df⟩ w := by
  refine wpAnyH_all hr (by simp) ?_
  intro j hj
  rw [List.mem_singleton] at hj
  subst hj
  unfold wpOp
  simp only [hi]
  rw [if_pos hw]
  refine .inl ?_
  have hcall : ∀ args, (callFunc n args).run P w = .ok (.enter n args) w := by
    intro args
    have h1 : ¬ (fn.name = "runtime.NumGoroutine") := by simpa using hname
    simp [callFunc, hf, h1, hb]
  have hrun : (execOp (Act.eval ⟨L.toArray, df⟩) o).run P w = .ok (.enter n all) w := by
    unfold execOp
    rw [hop]
    simp [resolve, invoke, Deferred.ofValue, hcal, ← hv, hcall]
  unfold Oper.wp
  rw [hrun, Oper.upon_enter]
  refine h.mono ?_
  intro e w' r
  obtain ⟨v, rfl, s, k⟩ := hK e w' r
  refine ⟨s, ?_⟩
  rw [hd]
  simpa [Act.put] using k
/-- A call, where several operations are ready. -/
theorem callOp {P : Program} {md : Region.Mode} {ops : Array Oper} {Q : Exit → Act → World → Prop} {S : World → Prop} (i : Nat) (d : Tmp) {L : List Value} {df : List Deferred} {o : Oper} {fuel : Nat} {listed : Array Bool} {w : World}
    (hi : ops[i]? = some o) (hd : o.dst = some d) (hw : Region.wanted o (yielded ops L.toArray) = true) (n : Nat) {fn : Func} {c : Code} (hf : P.funcs[n]? = some fn) (hname : (fn.name == "runtime.NumGoroutine") = false) (hb : fn.body = some c)
    (xs : Array Operand) (ts : Array TypeId) (hop : o.op = Op.call { callee := Callee.value (Operand.func n), args := xs, argTypes := ts })
    (vals : Array Value) (hv : xs.map (Act.eval ⟨L.toArray, df⟩) = vals) {R : Ending → World → Prop} (h : Calls P n vals w R)
    (hK : ∀ e w', R e w' → ∃ v, e = .returned v ∧ S w' ∧ wpAnyH P md ops Q S fuel (listed.setIfInBounds i true) ⟨(L.set d v).toArray, df⟩ w') : wpOp P ops Q i (fun a' w' => S w' ∧ wpAnyH P md ops Q S fuel (listed.setIfInBounds i true) a' w') ⟨L.toArray, df⟩ w := by
  unfold wpOp
  simp only [hi]
  rw [if_pos hw]
  refine .inl ?_
  have hcall : ∀ args, (callFunc n args).run P w = .ok (.enter n args) w := by
    intro args
    have h1 : ¬ (fn.name = "runtime.NumGoroutine") := by simpa using hname
    simp [callFunc, hf, h1, hb]
  have hrun : (execOp (Act.eval ⟨L.toArray, df⟩) o).run P w = .ok (.enter n vals) w := by
    unfold execOp
    rw [hop]
    simp [resolve, invoke, Deferred.ofValue, Act.eval, ← hv, hcall]
  unfold Oper.wp
  rw [hrun, Oper.upon_enter]
  refine h.mono ?_
  intro e w' r
  obtain ⟨v, rfl, s, k⟩ := hK e w' r
  refine ⟨s, ?_⟩
  rw [hd]
  simpa [Act.put] using k
/-- An operation that makes memory. -/
theorem makeOp {P : Program} {md : Region.Mode} {ops : Array Oper} {Q : Exit → Act → World → Prop} {S : World → Prop} (i : Nat) (d : Tmp) {L : List Value} {df : List Deferred} {o : Oper} {fuel : Nat} {listed : Array Bool} {w : World}
    (hi : ops[i]? = some o) (hw : Region.wanted o (yielded ops L.toArray) = true)
    (h : ∀ K' : Act → World → Prop, (∀ v w', S w' → wpAnyH P md ops Q S fuel (listed.setIfInBounds i true) ⟨(L.set d v).toArray, df⟩ w' → K' ((⟨L.toArray, df⟩ : Act).put (some d) v) w') → Oper.wp P o ⟨L.toArray, df⟩ w K' Q) :
    wpOp P ops Q i (fun a' w' => S w' ∧ wpAnyH P md ops Q S fuel (listed.setIfInBounds i true) a' w') ⟨L.toArray, df⟩ w := by
  unfold wpOp
  simp only [hi]
  rw [if_pos hw]
  exact .inl (h _ (fun v w' s k => ⟨s, by simpa [Act.put] using k⟩))
/-- A store. -/
theorem storeOp {P : Program} {md : Region.Mode} {ops : Array Oper} {Q : Exit → Act → World → Prop} {S : World → Prop} (i : Nat) {L : List Value} {df : List Deferred} {o : Oper} {fuel : Nat} {listed : Array Bool} {w : World}
    (hi : ops[i]? = some o) (hw : Region.wanted o (yielded ops L.toArray) = true)
    (h : ∀ K' : Act → World → Prop, (∀ w', S w' → wpAnyH P md ops Q S fuel (listed.setIfInBounds i true) ⟨L.toArray, df⟩ w' → K' ⟨L.toArray, df⟩ w') → Oper.wp P o ⟨L.toArray, df⟩ w K' Q) :
    wpOp P ops Q i (fun a' w' => S w' ∧ wpAnyH P md ops Q S fuel (listed.setIfInBounds i true) a' w') ⟨L.toArray, df⟩ w := by
  unfold wpOp
  simp only [hi]
  rw [if_pos hw]
  exact .inl (h _ (fun w' s k => ⟨s, k⟩))
end Go.Proofs.YtmkjmancmiphfaaGreatDoor
