/-
  l4Without, LeaveTask: the tasks without one.
  A call of a Go function as one step of a region that draws its order: by its contract.
  A region that draws its order, walked by hand under a condition on the world that every operation keeps: operations that yield a known value are taken first; a call that alone is ready is made by its contract.
  Which jobs are valid: the program's. (Printed by gen_jobv.py.)
  Which jobs are valid: the program's, whole.
  Response times by what comes before a task, in plain Lean: fewer tasks before it, or easier ones, do no harm.
  Audsley's way to assign priorities, in plain Lean: what it finds holds, and it finds an order if there is one.
  OrderValid, PutOrder (of an order that is one), l4Put: tasks in an order.
  Several rows of integers of the call's own, each in a block of its own; append to one of them.
  The machine's run in plain Lean, seen from afar: what is left, what runs, the mode; with fixed priorities, what holds is in time.
  The walks of holds, FirstBad, HoldsBoth: the program's and the reference's.
  The walks of FirstBad and HoldsBoth.
-/
import Derived.Test.YtmkjmancmiphfaaGreatDoorRa04
import Derived.Deep.RegionLaw
import Derived.Deep.RegionHeld3
import Derived.Test.YtmkjmancmiphfaaGreatDoorRa01
import Derived.OrdersHeld
import Derived.Lib.Join
import Derived.Laws.Concat
import Derived.Test.YtmkjmancmiphfaaGreatDoorRa02
import Derived.Test.YtmkjmancmiphfaaGreatDoorRa03
import Derived.Deep.CutBlock
import Derived.Deep.LoopGhost
import Derived.Deep.QuietTactic
import Derived.BigQuiet
import Derived.Laws.BitsAllLaws
import Derived.Laws.BitsLemmas
import Derived.Deep.AppendLies
import Derived.Lib.OthersKept
namespace Go.Proofs.YtmkjmancmiphfaaGreatDoor
section
open Go.RowKit

theorem TS_take {w : World} {A : Option Addr} {l : List Tk} (h : TS w A l) (k : Nat) : TS w A (l.take k) := by
  intro hl
  rw [List.length_take] at hl
  obtain ⟨b, off, hA, hb, hc⟩ := h (by omega)
  refine ⟨b, off, hA, hb, fun j u hu => hc j u ?_⟩
  rw [← flat_take, List.getElem?_take] at hu
  split at hu
  · exact hu
  · cases hu
/-- The address of s[k:]. -/
theorem TS_drop {w : World} {b off c : Nat} {l : List Tk} (h : TS w (some ⟨b, off, none⟩) l) (k : Nat) (hlc : l.length ≤ c) : ∃ A : Addr, (if c = k then (some (⟨b, off, none⟩ : Addr)) else some ⟨b, off + k * 5, none⟩) = some A ∧ TS w (some A) (l.drop k) := by
  by_cases hc : c = k
  · refine ⟨⟨b, off, none⟩, by simp [hc], fun hl => ?_⟩
    rw [List.length_drop] at hl
    omega
  · refine ⟨⟨b, off + k * 5, none⟩, by simp [hc], fun hl => ?_⟩
    rw [List.length_drop] at hl
    obtain ⟨b', off', hA, hb, hcell⟩ := h (by omega)
    cases hA
    refine ⟨b, off + k * 5, rfl, hb, fun j u hu => ?_⟩
    rw [← flat_drop l k (by omega), List.getElem?_drop] at hu
    rw [Nat.add_assoc]
    exact hcell _ u hu
end

section
open Go.RowKit
end

section
open Go.RowKit

theorem takeHL {P : Program} {md : Region.Mode} {ops : Array Oper} {Q : Exit → Act → World → Prop} {S : World → Prop} {i : Nat} (d : Tmp) (v : Value) {L : List Value} {df : List Deferred} {oi : Oper} {fuel : Nat} {listed : Array Bool} {w : World}
    (hi : ops[i]? = some oi) (hd : oi.dst = some d) (hs : Region.noSelect ops = true) (hf : Region.free md ops listed i = true) (hr : (Region.ready md ops listed).contains i = true)
    (hQ : ∀ c (a : Act) w, Q (.panic c) (a.put (some d) v) w → Q (.panic c) a w) (hy : YieldsIf P ops S oi v ⟨L.toArray, df⟩) (hS : S w)
    (h : wpAnyH P md ops Q S fuel (listed.setIfInBounds i true) ⟨(L.set d v).toArray, df⟩ w) : wpAnyH P md ops Q S (fuel + 1) listed ⟨L.toArray, df⟩ w := by
  refine wpAnyH_take hi hs hf hr (by rw [hd]; exact hQ) hy hS ?_
  rw [hd]
  simpa [Act.put] using h
theorem callHL {P : Program} {md : Region.Mode} {ops : Array Oper} {Q : Exit → Act → World → Prop} {S : World → Prop} (i : Nat) (d : Tmp) {L : List Value} {df : List Deferred} {o : Oper} {fuel : Nat} {listed : Array Bool} {w : World}
    (hi : ops[i]? = some o) (hd : o.dst = some d) (hr : Region.ready md ops listed = [i]) (hw : Region.wanted o (yielded ops L.toArray) = true) (n : Nat) {fn : Func} {c : Code} (hf : P.funcs[n]? = some fn) (hname : (fn.name == "runtime.NumGoroutine") = false) (hb : fn.body = some c)
    (xs : Array Operand) (ts : Array TypeId) (hop : o.op = Op.call { callee := Callee.value (Operand.func n), args := xs, argTypes := ts })
    (vals : Array Value) (hv : xs.map (Act.eval ⟨L.toArray, df⟩) = vals) {R : Ending → World → Prop} (h : Calls P n vals w R)
    (hK : ∀ e w', R e w' → ∃ v, e = .returned v ∧ S w' ∧ wpAnyH P md ops Q S fuel (listed.setIfInBounds i true) ⟨(L.set d v).toArray, df⟩ w') : wpAnyH P md ops Q S (fuel + 1) listed ⟨L.toArray, df⟩ w := by
  refine wpAnyH_all hr (by simp) ?_
  intro j hj
  rw [List.mem_singleton] at hj
  subst hj
  unfold wpOp
  simp only [hi]
  rw [if_pos hw]
  refine .inl ?_
  have hcall : ∀ args, (callFunc n args).run P w = .ok (.enter n args) w := by
    intro args
    have h1 : ¬ (fn.name = "runtime.NumGoroutine") := by simpa using hname
    simp [callFunc, hf, h1, hb]
  have hrun : (execOp (Act.eval ⟨L.toArray, df⟩) o).run P w = .ok (.enter n vals) w := by
    unfold execOp
    rw [hop]
    simp [resolve, invoke, Deferred.ofValue, Act.eval, ← hv, hcall]
  unfold Oper.wp
  rw [hrun, Oper.upon_enter]
  refine h.mono ?_
  intro e w' r
  obtain ⟨v, rfl, s, k⟩ := hK e w' r
  refine ⟨s, ?_⟩
  rw [hd]
  simpa [Act.put] using k
end

section
open Go.RowKit

theorem blk3 {w : World} {b : Nat} {v0 v1 v2 : Value} {t : TypeId} (h : w.heap[b]? = some (.cells #[v0, v1, v2] t (0, 0))) :
    w.cell? ⟨b, 0, none⟩ = some v0 ∧ w.cell? ⟨b, 1, none⟩ = some v1 ∧ w.cell? ⟨b, 2, none⟩ = some v2 := by
  refine ⟨?_, ?_, ?_⟩ <;> (rw [Lib.cell_of_heap h]; rfl)
set_option maxHeartbeats 2000000 in
theorem impl_jobOf (A : Option Addr) (l : List Tk) (c : Nat) (j : Jb) (w : World) (h : TS w A l) :
    Calls Tryz.prog 54 #[.slice A l.length c, j.val] w fun e w' => e = .returned (.bool (jobOfB l j)) ∧ Below w.heap.size w w' := by
  obtain ⟨q, a, n⟩ := j
  cases hp : plc l q with
  | false =>
    have E : Hid (jobOfB l ⟨q, a, n⟩ = false) := by simp [Hid, jobOfB, hp]
    have HP := Lib.hid hp
    clear hp
    go_enter Tryz.func54, Tryz.ntmps54
    go_upto_region 1 with fail
    have hT := heap_alloc_new w (.cells #[.int .i64 q, .int .i64 a, .int .i64 n] 60 (0, 0))
    have hba := bal (Below.refl w.heap.size w) (.cells #[.int .i64 q, .int .i64 a, .int .i64 n] 60 (0, 0))
    generalize World.alloc w _ = wa at hT hba ⊢
    obtain ⟨nb, hnb⟩ : ∃ nb, w.heap.size = nb := ⟨_, rfl⟩
    have hbaw := hba
    rw [hnb] at hT ⊢
    have hlT := (Array.getElem?_eq_some_iff.1 hT).1
    have hSof : ∀ {w' : World}, Below wa.heap.size wa w' → w'.cell? ⟨nb, 0, none⟩ = some (.int .i64 q) ∧ w'.cell? ⟨nb, 1, none⟩ = some (.int .i64 a) ∧ w'.cell? ⟨nb, 2, none⟩ = some (.int .i64 n) := by
      intro w' hw
      obtain ⟨h0, h1, h2⟩ := blk3 ((hw.block nb hlT).trans hT)
      exact ⟨h0, h1, h2⟩
    refine wp_region_held (S := fun w' => w'.cell? ⟨nb, 0, none⟩ = some (.int .i64 q) ∧ w'.cell? ⟨nb, 1, none⟩ = some (.int .i64 a) ∧ w'.cell? ⟨nb, 2, none⟩ = some (.int .i64 n)) (by kernel_rfl) ?_
    change wpAnyH _ _ _ _ _ _ _ _ (World.drew _)
    have Kz : Below wa.heap.size wa (World.drew wa) := Below.drew (Below.refl _ _)
    have hS0 := hSof Kz
    refine takeHL (i := 0) 5 (.slice A l.length c) rfl rfl (by kernel_rfl) (by kernel_rfl) (by kernel_rfl) (fun _ _ _ h => h) (.inl ⟨by rfl, fun _ _ => rfl⟩) hS0 ?_
    simp only [List.set_cons_succ, List.set_cons_zero]
    refine takeHL (i := 1) 6 (.pointer (some ⟨nb, 0, none⟩)) rfl rfl (by kernel_rfl) (by kernel_rfl) (by kernel_rfl) (fun _ _ _ h => h) (.inl ⟨by rfl, fun w _ => by go_simp⟩) hS0 ?_
    simp only [List.set_cons_succ, List.set_cons_zero]
    refine takeHL (i := 2) 7 (.int .i64 (q)) rfl rfl (by kernel_rfl) (by kernel_rfl) (by kernel_rfl) (fun _ _ _ h => h) (.inl ⟨by rfl, fun w hS => by obtain ⟨h0, h1, h2⟩ := hS; go_simp⟩) hS0 ?_
    simp only [List.set_cons_succ, List.set_cons_zero]
    refine callHL 3 8 rfl rfl (by kernel_rfl) (by rfl) 100 Tryz.func100 (by kernel_rfl) rfl _ _ rfl #[.slice A l.length c, .int .i64 q] ?hv (impl_placed _ l c q _ (h.keep (bthru hba Kz))) ?_
    case hv => simp [Act.eval]
    rw [HP.out]
    rintro e v1 ⟨rfl, k1⟩
    have K1 : Below wa.heap.size wa v1 := bthru Kz k1
    have S1 := hSof K1
    refine ⟨_, rfl, S1, ?_⟩
    simp only [List.set_cons_succ, List.set_cons_zero]
    refine takeHL (i := 4) 9 (.bool false) rfl rfl (by kernel_rfl) (by kernel_rfl) (by kernel_rfl) (fun _ _ _ h => h) (.inl ⟨by rfl, fun _ _ => rfl⟩) S1 ?_
    simp only [List.set_cons_succ, List.set_cons_zero]
    refine takeHL (i := 5) 10 undef rfl rfl (by kernel_rfl) (by kernel_rfl) (by kernel_rfl) (fun _ _ _ h => h) (.inr ⟨by rfl, rfl⟩) S1 ?_
    simp only [List.set_cons_succ, List.set_cons_zero]
    refine takeHL (i := 6) 11 undef rfl rfl (by kernel_rfl) (by kernel_rfl) (by kernel_rfl) (fun _ _ _ h => h) (.inr ⟨by rfl, rfl⟩) S1 ?_
    simp only [List.set_cons_succ, List.set_cons_zero]
    refine takeHL (i := 7) 12 undef rfl rfl (by kernel_rfl) (by kernel_rfl) (by kernel_rfl) (fun _ _ _ h => h) (.inr ⟨by rfl, rfl⟩) S1 ?_
    simp only [List.set_cons_succ, List.set_cons_zero]
    refine takeHL (i := 8) 13 (.bool false) rfl rfl (by kernel_rfl) (by kernel_rfl) (by kernel_rfl) (fun _ _ _ h => h) (.inl ⟨by rfl, fun w _ => by go_simp⟩) S1 ?_
    simp only [List.set_cons_succ, List.set_cons_zero]
    refine takeHL (i := 9) 14 (.bool false) rfl rfl (by kernel_rfl) (by kernel_rfl) (by kernel_rfl) (fun _ _ _ h => h) (.inl ⟨by rfl, fun _ _ => rfl⟩) S1 ?_
    simp only [List.set_cons_succ, List.set_cons_zero]
    refine takeHL (i := 10) 15 undef rfl rfl (by kernel_rfl) (by kernel_rfl) (by kernel_rfl) (fun _ _ _ h => h) (.inr ⟨by rfl, rfl⟩) S1 ?_
    simp only [List.set_cons_succ, List.set_cons_zero]
    refine takeHL (i := 11) 16 undef rfl rfl (by kernel_rfl) (by kernel_rfl) (by kernel_rfl) (fun _ _ _ h => h) (.inr ⟨by rfl, rfl⟩) S1 ?_
    simp only [List.set_cons_succ, List.set_cons_zero]
    refine takeHL (i := 12) 17 undef rfl rfl (by kernel_rfl) (by kernel_rfl) (by kernel_rfl) (fun _ _ _ h => h) (.inr ⟨by rfl, rfl⟩) S1 ?_
    simp only [List.set_cons_succ, List.set_cons_zero]
    refine takeHL (i := 13) 18 (.bool false) rfl rfl (by kernel_rfl) (by kernel_rfl) (by kernel_rfl) (fun _ _ _ h => h) (.inl ⟨by rfl, fun w _ => by go_simp⟩) S1 ?_
    simp only [List.set_cons_succ, List.set_cons_zero]
    refine takeHL (i := 14) 19 (.bool false) rfl rfl (by kernel_rfl) (by kernel_rfl) (by kernel_rfl) (fun _ _ _ h => h) (.inl ⟨by rfl, fun _ _ => rfl⟩) S1 ?_
    simp only [List.set_cons_succ, List.set_cons_zero]
    refine takeHL (i := 15) 20 undef rfl rfl (by kernel_rfl) (by kernel_rfl) (by kernel_rfl) (fun _ _ _ h => h) (.inr ⟨by rfl, rfl⟩) S1 ?_
    simp only [List.set_cons_succ, List.set_cons_zero]
    refine takeHL (i := 16) 21 undef rfl rfl (by kernel_rfl) (by kernel_rfl) (by kernel_rfl) (fun _ _ _ h => h) (.inr ⟨by rfl, rfl⟩) S1 ?_
    simp only [List.set_cons_succ, List.set_cons_zero]
    refine takeHL (i := 17) 22 undef rfl rfl (by kernel_rfl) (by kernel_rfl) (by kernel_rfl) (fun _ _ _ h => h) (.inr ⟨by rfl, rfl⟩) S1 ?_
    simp only [List.set_cons_succ, List.set_cons_zero]
    refine takeHL (i := 18) 23 (.bool false) rfl rfl (by kernel_rfl) (by kernel_rfl) (by kernel_rfl) (fun _ _ _ h => h) (.inl ⟨by rfl, fun w _ => by go_simp⟩) S1 ?_
    simp only [List.set_cons_succ, List.set_cons_zero]
    refine takeHL (i := 19) 24 (.bool false) rfl rfl (by kernel_rfl) (by kernel_rfl) (by kernel_rfl) (fun _ _ _ h => h) (.inl ⟨by rfl, fun _ _ => rfl⟩) S1 ?_
    simp only [List.set_cons_succ, List.set_cons_zero]
    refine takeHL (i := 20) 25 undef rfl rfl (by kernel_rfl) (by kernel_rfl) (by kernel_rfl) (fun _ _ _ h => h) (.inr ⟨by rfl, rfl⟩) S1 ?_
    simp only [List.set_cons_succ, List.set_cons_zero]
    refine takeHL (i := 21) 26 undef rfl rfl (by kernel_rfl) (by kernel_rfl) (by kernel_rfl) (fun _ _ _ h => h) (.inr ⟨by rfl, rfl⟩) S1 ?_
    simp only [List.set_cons_succ, List.set_cons_zero]
    refine takeHL (i := 22) 27 undef rfl rfl (by kernel_rfl) (by kernel_rfl) (by kernel_rfl) (fun _ _ _ h => h) (.inr ⟨by rfl, rfl⟩) S1 ?_
    simp only [List.set_cons_succ, List.set_cons_zero]
    refine takeHL (i := 23) 28 undef rfl rfl (by kernel_rfl) (by kernel_rfl) (by kernel_rfl) (fun _ _ _ h => h) (.inr ⟨by rfl, rfl⟩) S1 ?_
    simp only [List.set_cons_succ, List.set_cons_zero]
    refine takeHL (i := 24) 29 undef rfl rfl (by kernel_rfl) (by kernel_rfl) (by kernel_rfl) (fun _ _ _ h => h) (.inr ⟨by rfl, rfl⟩) S1 ?_
    simp only [List.set_cons_succ, List.set_cons_zero]
    refine takeHL (i := 25) 30 undef rfl rfl (by kernel_rfl) (by kernel_rfl) (by kernel_rfl) (fun _ _ _ h => h) (.inr ⟨by rfl, rfl⟩) S1 ?_
    simp only [List.set_cons_succ, List.set_cons_zero]
    refine takeHL (i := 26) 31 undef rfl rfl (by kernel_rfl) (by kernel_rfl) (by kernel_rfl) (fun _ _ _ h => h) (.inr ⟨by rfl, rfl⟩) S1 ?_
    simp only [List.set_cons_succ, List.set_cons_zero]
    refine takeHL (i := 27) 32 undef rfl rfl (by kernel_rfl) (by kernel_rfl) (by kernel_rfl) (fun _ _ _ h => h) (.inr ⟨by rfl, rfl⟩) S1 ?_
    simp only [List.set_cons_succ, List.set_cons_zero]
    refine takeHL (i := 28) 33 undef rfl rfl (by kernel_rfl) (by kernel_rfl) (by kernel_rfl) (fun _ _ _ h => h) (.inr ⟨by rfl, rfl⟩) S1 ?_
    simp only [List.set_cons_succ, List.set_cons_zero]
    refine takeHL (i := 29) 34 (.bool false) rfl rfl (by kernel_rfl) (by kernel_rfl) (by kernel_rfl) (fun _ _ _ h => h) (.inl ⟨by rfl, fun w _ => by go_simp⟩) S1 ?_
    simp only [List.set_cons_succ, List.set_cons_zero]
    refine takeHL (i := 30) 4 (.bool false) rfl rfl (by kernel_rfl) (by kernel_rfl) (by kernel_rfl) (fun _ _ _ h => h) (.inl ⟨by rfl, fun _ _ => rfl⟩) S1 ?_
    simp only [List.set_cons_succ, List.set_cons_zero]
    refine wpAnyH_done (by kernel_rfl) ?_ _
    go_wp2_with fail
    go_ret
    exact ⟨by rw [E.out]; rfl, by first | exact bthru hba K1 | (rw [← hnb]; exact bthru hba K1)⟩
  | true =>
    by_cases hd : 0 ≤ a ∧ a ≤ 200 ∧ 1 ≤ n
    case pos =>
      obtain ⟨h0, h1, h2⟩ := hd
      have E : Hid (jobOfB l ⟨q, a, n⟩ = decide (n ≤ (tkAt l q.toNat).high)) := by simp [Hid, jobOfB, hp, h0, h1, h2]
      obtain ⟨_, hl5, hk, hq⟩ := plc_yes hp
      have HP := Lib.hid hp
      clear hp
      generalize q.toNat = k at hk hq E
      subst hq
      obtain ⟨b, off, rfl, hbl, hc⟩ := h (by omega)
      obtain ⟨_, k1, _⟩ := cells_tk hc k hk
      clear hc
      go_enter Tryz.func54, Tryz.ntmps54
      go_upto_region 1 with fail
      have hT := heap_alloc_new w (.cells #[.int .i64 (k : Int), .int .i64 a, .int .i64 n] 60 (0, 0))
      have hba := bal (Below.refl w.heap.size w) (.cells #[.int .i64 (k : Int), .int .i64 a, .int .i64 n] 60 (0, 0))
      generalize World.alloc w _ = wa at hT hba ⊢
      obtain ⟨nb, hnb⟩ : ∃ nb, w.heap.size = nb := ⟨_, rfl⟩
      have hbaw := hba
      rw [hnb] at hT ⊢
      have hlT := (Array.getElem?_eq_some_iff.1 hT).1
      have hSof : ∀ {w' : World}, Below wa.heap.size wa w' → w'.cell? ⟨nb, 0, none⟩ = some (.int .i64 (k : Int)) ∧ w'.cell? ⟨nb, 1, none⟩ = some (.int .i64 a) ∧ w'.cell? ⟨nb, 2, none⟩ = some (.int .i64 n) ∧ w'.cell? ⟨b, off + k * 5 + 1, none⟩ = some (.int .i64 (tkAt l k).high) := by
        intro w' hw
        obtain ⟨h0, h1, h2⟩ := blk3 ((hw.block nb hlT).trans hT)
        exact ⟨h0, h1, h2, (hw.cell (p := ⟨b, off + k * 5 + 1, none⟩) (Nat.lt_of_lt_of_le hbl hba.size)).trans ((hba.cell (p := ⟨b, off + k * 5 + 1, none⟩) hbl).trans k1)⟩
      refine wp_region_held (S := fun w' => w'.cell? ⟨nb, 0, none⟩ = some (.int .i64 (k : Int)) ∧ w'.cell? ⟨nb, 1, none⟩ = some (.int .i64 a) ∧ w'.cell? ⟨nb, 2, none⟩ = some (.int .i64 n) ∧ w'.cell? ⟨b, off + k * 5 + 1, none⟩ = some (.int .i64 (tkAt l k).high)) (by kernel_rfl) ?_
      change wpAnyH _ _ _ _ _ _ _ _ (World.drew _)
      have Kz : Below wa.heap.size wa (World.drew wa) := Below.drew (Below.refl _ _)
      have hS0 := hSof Kz
      refine takeHL (i := 0) 5 (.slice (some ⟨b, off, none⟩) (l.length) c) rfl rfl (by kernel_rfl) (by kernel_rfl) (by kernel_rfl) (fun _ _ _ h => h) (.inl ⟨by rfl, fun _ _ => rfl⟩) hS0 ?_
      simp only [List.set_cons_succ, List.set_cons_zero]
      refine takeHL (i := 1) 6 (.pointer (some ⟨nb, 0, none⟩)) rfl rfl (by kernel_rfl) (by kernel_rfl) (by kernel_rfl) (fun _ _ _ h => h) (.inl ⟨by rfl, fun w _ => by go_simp⟩) hS0 ?_
      simp only [List.set_cons_succ, List.set_cons_zero]
      refine takeHL (i := 2) 7 (.int .i64 ((k : Int))) rfl rfl (by kernel_rfl) (by kernel_rfl) (by kernel_rfl) (fun _ _ _ h => h) (.inl ⟨by rfl, fun w hS => by obtain ⟨h0, h1, h2, h3⟩ := hS; go_simp⟩) hS0 ?_
      simp only [List.set_cons_succ, List.set_cons_zero]
      refine callHL 3 8 rfl rfl (by kernel_rfl) (by rfl) 100 Tryz.func100 (by kernel_rfl) rfl _ _ rfl #[.slice (some ⟨b, off, none⟩) (l.length) c, .int .i64 (k : Int)] ?hv (impl_placed _ l c (k : Int) _ (h.keep (bthru hba Kz))) ?_
      case hv => simp [Act.eval]
      rw [HP.out]
      rintro e v1 ⟨rfl, k1⟩
      have K1 : Below wa.heap.size wa v1 := bthru Kz k1
      have S1 := hSof K1
      refine ⟨_, rfl, S1, ?_⟩
      simp only [List.set_cons_succ, List.set_cons_zero]
      refine takeHL (i := 4) 9 (.bool true) rfl rfl (by kernel_rfl) (by kernel_rfl) (by kernel_rfl) (fun _ _ _ h => h) (.inl ⟨by rfl, fun _ _ => rfl⟩) S1 ?_
      simp only [List.set_cons_succ, List.set_cons_zero]
      refine takeHL (i := 5) 10 (.pointer (some ⟨nb, 1, none⟩)) rfl rfl (by kernel_rfl) (by kernel_rfl) (by kernel_rfl) (fun _ _ _ h => h) (.inl ⟨by rfl, fun w _ => by go_simp⟩) S1 ?_
      simp only [List.set_cons_succ, List.set_cons_zero]
      refine takeHL (i := 6) 11 (.int .i64 (a)) rfl rfl (by kernel_rfl) (by kernel_rfl) (by kernel_rfl) (fun _ _ _ h => h) (.inl ⟨by rfl, fun w hS => by obtain ⟨h0, h1, h2, h3⟩ := hS; go_simp⟩) S1 ?_
      simp only [List.set_cons_succ, List.set_cons_zero]
      refine takeHL (i := 7) 12 (.bool true) rfl rfl (by kernel_rfl) (by kernel_rfl) (by kernel_rfl) (fun _ _ _ h => h) (.inl ⟨by rfl, fun w _ => by go_simp <;> (first | omega)⟩) S1 ?_
      simp only [List.set_cons_succ, List.set_cons_zero]
      refine takeHL (i := 8) 13 (.bool true) rfl rfl (by kernel_rfl) (by kernel_rfl) (by kernel_rfl) (fun _ _ _ h => h) (.inl ⟨by rfl, fun w _ => by go_simp⟩) S1 ?_
      simp only [List.set_cons_succ, List.set_cons_zero]
      refine takeHL (i := 9) 14 (.bool true) rfl rfl (by kernel_rfl) (by kernel_rfl) (by kernel_rfl) (fun _ _ _ h => h) (.inl ⟨by rfl, fun _ _ => rfl⟩) S1 ?_
      simp only [List.set_cons_succ, List.set_cons_zero]
      refine takeHL (i := 10) 15 (.pointer (some ⟨nb, 1, none⟩)) rfl rfl (by kernel_rfl) (by kernel_rfl) (by kernel_rfl) (fun _ _ _ h => h) (.inl ⟨by rfl, fun w _ => by go_simp⟩) S1 ?_
      simp only [List.set_cons_succ, List.set_cons_zero]
      refine takeHL (i := 11) 16 (.int .i64 (a)) rfl rfl (by kernel_rfl) (by kernel_rfl) (by kernel_rfl) (fun _ _ _ h => h) (.inl ⟨by rfl, fun w hS => by obtain ⟨h0, h1, h2, h3⟩ := hS; go_simp⟩) S1 ?_
      simp only [List.set_cons_succ, List.set_cons_zero]
      refine takeHL (i := 12) 17 (.bool true) rfl rfl (by kernel_rfl) (by kernel_rfl) (by kernel_rfl) (fun _ _ _ h => h) (.inl ⟨by rfl, fun w _ => by go_simp <;> (first | omega)⟩) S1 ?_
      simp only [List.set_cons_succ, List.set_cons_zero]
      refine takeHL (i := 13) 18 (.bool true) rfl rfl (by kernel_rfl) (by kernel_rfl) (by kernel_rfl) (fun _ _ _ h => h) (.inl ⟨by rfl, fun w _ => by go_simp⟩) S1 ?_
      simp only [List.set_cons_succ, List.set_cons_zero]
      refine takeHL (i := 14) 19 (.bool true) rfl rfl (by kernel_rfl) (by kernel_rfl) (by kernel_rfl) (fun _ _ _ h => h) (.inl ⟨by rfl, fun _ _ => rfl⟩) S1 ?_
      simp only [List.set_cons_succ, List.set_cons_zero]
      refine takeHL (i := 15) 20 (.pointer (some ⟨nb, 2, none⟩)) rfl rfl (by kernel_rfl) (by kernel_rfl) (by kernel_rfl) (fun _ _ _ h => h) (.inl ⟨by rfl, fun w _ => by go_simp⟩) S1 ?_
      simp only [List.set_cons_succ, List.set_cons_zero]
      refine takeHL (i := 16) 21 (.int .i64 (n)) rfl rfl (by kernel_rfl) (by kernel_rfl) (by kernel_rfl) (fun _ _ _ h => h) (.inl ⟨by rfl, fun w hS => by obtain ⟨h0, h1, h2, h3⟩ := hS; go_simp⟩) S1 ?_
      simp only [List.set_cons_succ, List.set_cons_zero]
      refine takeHL (i := 17) 22 (.bool true) rfl rfl (by kernel_rfl) (by kernel_rfl) (by kernel_rfl) (fun _ _ _ h => h) (.inl ⟨by rfl, fun w _ => by go_simp <;> (first | omega)⟩) S1 ?_
      simp only [List.set_cons_succ, List.set_cons_zero]
      refine takeHL (i := 18) 23 (.bool true) rfl rfl (by kernel_rfl) (by kernel_rfl) (by kernel_rfl) (fun _ _ _ h => h) (.inl ⟨by rfl, fun w _ => by go_simp⟩) S1 ?_
      simp only [List.set_cons_succ, List.set_cons_zero]
      refine takeHL (i := 19) 24 (.bool true) rfl rfl (by kernel_rfl) (by kernel_rfl) (by kernel_rfl) (fun _ _ _ h => h) (.inl ⟨by rfl, fun _ _ => rfl⟩) S1 ?_
      simp only [List.set_cons_succ, List.set_cons_zero]
      refine takeHL (i := 20) 25 (.pointer (some ⟨nb, 2, none⟩)) rfl rfl (by kernel_rfl) (by kernel_rfl) (by kernel_rfl) (fun _ _ _ h => h) (.inl ⟨by rfl, fun w _ => by go_simp⟩) S1 ?_
      simp only [List.set_cons_succ, List.set_cons_zero]
      refine takeHL (i := 21) 26 (.int .i64 (n)) rfl rfl (by kernel_rfl) (by kernel_rfl) (by kernel_rfl) (fun _ _ _ h => h) (.inl ⟨by rfl, fun w hS => by obtain ⟨h0, h1, h2, h3⟩ := hS; go_simp⟩) S1 ?_
      simp only [List.set_cons_succ, List.set_cons_zero]
      refine takeHL (i := 22) 27 (.slice (some ⟨b, off, none⟩) (l.length) c) rfl rfl (by kernel_rfl) (by kernel_rfl) (by kernel_rfl) (fun _ _ _ h => h) (.inl ⟨by rfl, fun _ _ => rfl⟩) S1 ?_
      simp only [List.set_cons_succ, List.set_cons_zero]
      refine takeHL (i := 23) 28 (.pointer (some ⟨nb, 0, none⟩)) rfl rfl (by kernel_rfl) (by kernel_rfl) (by kernel_rfl) (fun _ _ _ h => h) (.inl ⟨by rfl, fun w _ => by go_simp⟩) S1 ?_
      simp only [List.set_cons_succ, List.set_cons_zero]
      refine takeHL (i := 24) 29 (.int .i64 ((k : Int))) rfl rfl (by kernel_rfl) (by kernel_rfl) (by kernel_rfl) (fun _ _ _ h => h) (.inl ⟨by rfl, fun w hS => by obtain ⟨h0, h1, h2, h3⟩ := hS; go_simp⟩) S1 ?_
      simp only [List.set_cons_succ, List.set_cons_zero]
      refine takeHL (i := 25) 30 (.pointer (some ⟨b, off + k * 5, none⟩)) rfl rfl (by kernel_rfl) (by kernel_rfl) (by kernel_rfl) (fun _ _ _ h => h) (.inl ⟨by rfl, fun w _ => by go_simp <;> (first | omega | (simp; omega))⟩) S1 ?_
      simp only [List.set_cons_succ, List.set_cons_zero]
      refine takeHL (i := 26) 31 (.pointer (some ⟨b, off + k * 5 + 1, none⟩)) rfl rfl (by kernel_rfl) (by kernel_rfl) (by kernel_rfl) (fun _ _ _ h => h) (.inl ⟨by rfl, fun w _ => by go_simp⟩) S1 ?_
      simp only [List.set_cons_succ, List.set_cons_zero]
      refine takeHL (i := 27) 32 (.int .i64 ((tkAt l k).high)) rfl rfl (by kernel_rfl) (by kernel_rfl) (by kernel_rfl) (fun _ _ _ h => h) (.inl ⟨by rfl, fun w hS => by obtain ⟨h0, h1, h2, h3⟩ := hS; go_simp⟩) S1 ?_
      simp only [List.set_cons_succ, List.set_cons_zero]
      refine takeHL (i := 28) 33 (.bool (decide (n ≤ (tkAt l k).high))) rfl rfl (by kernel_rfl) (by kernel_rfl) (by kernel_rfl) (fun _ _ _ h => h) (.inl ⟨by rfl, fun w _ => by go_simp⟩) S1 ?_
      simp only [List.set_cons_succ, List.set_cons_zero]
      refine takeHL (i := 29) 34 (.bool (decide (n ≤ (tkAt l k).high))) rfl rfl (by kernel_rfl) (by kernel_rfl) (by kernel_rfl) (fun _ _ _ h => h) (.inl ⟨by rfl, fun w _ => by go_simp⟩) S1 ?_
      simp only [List.set_cons_succ, List.set_cons_zero]
      refine takeHL (i := 30) 4 (.bool (decide (n ≤ (tkAt l k).high))) rfl rfl (by kernel_rfl) (by kernel_rfl) (by kernel_rfl) (fun _ _ _ h => h) (.inl ⟨by rfl, fun _ _ => rfl⟩) S1 ?_
      simp only [List.set_cons_succ, List.set_cons_zero]
      refine wpAnyH_done (by kernel_rfl) ?_ _
      go_wp2_with fail
      go_ret
      exact ⟨by rw [E.out]; rfl, by first | exact bthru hba K1 | (rw [← hnb]; exact bthru hba K1)⟩
    case neg =>
      have E : Hid (jobOfB l ⟨q, a, n⟩ = false) := by
        rw [Hid, Bool.eq_false_iff]
        intro hb
        simp only [jobOfB, Bool.and_eq_true, decide_eq_true_eq] at hb
        exact hd ⟨hb.1.1.1.2, hb.1.1.2, hb.1.2⟩
      have HP := Lib.hid hp
      clear hp
      by_cases h0 : 0 ≤ a
      · by_cases h1 : a ≤ 200
        · have h2 : ¬ 1 ≤ n := fun h2 => hd ⟨h0, h1, h2⟩
          clear hd
          go_enter Tryz.func54, Tryz.ntmps54
          go_upto_region 1 with fail
          have hT := heap_alloc_new w (.cells #[.int .i64 q, .int .i64 a, .int .i64 n] 60 (0, 0))
          have hba := bal (Below.refl w.heap.size w) (.cells #[.int .i64 q, .int .i64 a, .int .i64 n] 60 (0, 0))
          generalize World.alloc w _ = wa at hT hba ⊢
          obtain ⟨nb, hnb⟩ : ∃ nb, w.heap.size = nb := ⟨_, rfl⟩
          have hbaw := hba
          rw [hnb] at hT ⊢
          have hlT := (Array.getElem?_eq_some_iff.1 hT).1
          have hSof : ∀ {w' : World}, Below wa.heap.size wa w' → w'.cell? ⟨nb, 0, none⟩ = some (.int .i64 q) ∧ w'.cell? ⟨nb, 1, none⟩ = some (.int .i64 a) ∧ w'.cell? ⟨nb, 2, none⟩ = some (.int .i64 n) := by
            intro w' hw
            obtain ⟨h0, h1, h2⟩ := blk3 ((hw.block nb hlT).trans hT)
            exact ⟨h0, h1, h2⟩
          refine wp_region_held (S := fun w' => w'.cell? ⟨nb, 0, none⟩ = some (.int .i64 q) ∧ w'.cell? ⟨nb, 1, none⟩ = some (.int .i64 a) ∧ w'.cell? ⟨nb, 2, none⟩ = some (.int .i64 n)) (by kernel_rfl) ?_
          change wpAnyH _ _ _ _ _ _ _ _ (World.drew _)
          have Kz : Below wa.heap.size wa (World.drew wa) := Below.drew (Below.refl _ _)
          have hS0 := hSof Kz
          refine takeHL (i := 0) 5 (.slice A l.length c) rfl rfl (by kernel_rfl) (by kernel_rfl) (by kernel_rfl) (fun _ _ _ h => h) (.inl ⟨by rfl, fun _ _ => rfl⟩) hS0 ?_
          simp only [List.set_cons_succ, List.set_cons_zero]
          refine takeHL (i := 1) 6 (.pointer (some ⟨nb, 0, none⟩)) rfl rfl (by kernel_rfl) (by kernel_rfl) (by kernel_rfl) (fun _ _ _ h => h) (.inl ⟨by rfl, fun w _ => by go_simp⟩) hS0 ?_
          simp only [List.set_cons_succ, List.set_cons_zero]
          refine takeHL (i := 2) 7 (.int .i64 (q)) rfl rfl (by kernel_rfl) (by kernel_rfl) (by kernel_rfl) (fun _ _ _ h => h) (.inl ⟨by rfl, fun w hS => by obtain ⟨h0, h1, h2⟩ := hS; go_simp⟩) hS0 ?_
          simp only [List.set_cons_succ, List.set_cons_zero]
          refine callHL 3 8 rfl rfl (by kernel_rfl) (by rfl) 100 Tryz.func100 (by kernel_rfl) rfl _ _ rfl #[.slice A l.length c, .int .i64 q] ?hv (impl_placed _ l c q _ (h.keep (bthru hba Kz))) ?_
          case hv => simp [Act.eval]
          rw [HP.out]
          rintro e v1 ⟨rfl, k1⟩
          have K1 : Below wa.heap.size wa v1 := bthru Kz k1
          have S1 := hSof K1
          refine ⟨_, rfl, S1, ?_⟩
          simp only [List.set_cons_succ, List.set_cons_zero]
          refine takeHL (i := 4) 9 (.bool true) rfl rfl (by kernel_rfl) (by kernel_rfl) (by kernel_rfl) (fun _ _ _ h => h) (.inl ⟨by rfl, fun _ _ => rfl⟩) S1 ?_
          simp only [List.set_cons_succ, List.set_cons_zero]
          refine takeHL (i := 5) 10 (.pointer (some ⟨nb, 1, none⟩)) rfl rfl (by kernel_rfl) (by kernel_rfl) (by kernel_rfl) (fun _ _ _ h => h) (.inl ⟨by rfl, fun w _ => by go_simp⟩) S1 ?_
          simp only [List.set_cons_succ, List.set_cons_zero]
          refine takeHL (i := 6) 11 (.int .i64 (a)) rfl rfl (by kernel_rfl) (by kernel_rfl) (by kernel_rfl) (fun _ _ _ h => h) (.inl ⟨by rfl, fun w hS => by obtain ⟨h0, h1, h2⟩ := hS; go_simp⟩) S1 ?_
          simp only [List.set_cons_succ, List.set_cons_zero]
          refine takeHL (i := 7) 12 (.bool true) rfl rfl (by kernel_rfl) (by kernel_rfl) (by kernel_rfl) (fun _ _ _ h => h) (.inl ⟨by rfl, fun w _ => by go_simp <;> (first | omega)⟩) S1 ?_
          simp only [List.set_cons_succ, List.set_cons_zero]
          refine takeHL (i := 8) 13 (.bool true) rfl rfl (by kernel_rfl) (by kernel_rfl) (by kernel_rfl) (fun _ _ _ h => h) (.inl ⟨by rfl, fun w _ => by go_simp⟩) S1 ?_
          simp only [List.set_cons_succ, List.set_cons_zero]
          refine takeHL (i := 9) 14 (.bool true) rfl rfl (by kernel_rfl) (by kernel_rfl) (by kernel_rfl) (fun _ _ _ h => h) (.inl ⟨by rfl, fun _ _ => rfl⟩) S1 ?_
          simp only [List.set_cons_succ, List.set_cons_zero]
          refine takeHL (i := 10) 15 (.pointer (some ⟨nb, 1, none⟩)) rfl rfl (by kernel_rfl) (by kernel_rfl) (by kernel_rfl) (fun _ _ _ h => h) (.inl ⟨by rfl, fun w _ => by go_simp⟩) S1 ?_
          simp only [List.set_cons_succ, List.set_cons_zero]
          refine takeHL (i := 11) 16 (.int .i64 (a)) rfl rfl (by kernel_rfl) (by kernel_rfl) (by kernel_rfl) (fun _ _ _ h => h) (.inl ⟨by rfl, fun w hS => by obtain ⟨h0, h1, h2⟩ := hS; go_simp⟩) S1 ?_
          simp only [List.set_cons_succ, List.set_cons_zero]
          refine takeHL (i := 12) 17 (.bool true) rfl rfl (by kernel_rfl) (by kernel_rfl) (by kernel_rfl) (fun _ _ _ h => h) (.inl ⟨by rfl, fun w _ => by go_simp <;> (first | omega)⟩) S1 ?_
          simp only [List.set_cons_succ, List.set_cons_zero]
          refine takeHL (i := 13) 18 (.bool true) rfl rfl (by kernel_rfl) (by kernel_rfl) (by kernel_rfl) (fun _ _ _ h => h) (.inl ⟨by rfl, fun w _ => by go_simp⟩) S1 ?_
          simp only [List.set_cons_succ, List.set_cons_zero]
          refine takeHL (i := 14) 19 (.bool true) rfl rfl (by kernel_rfl) (by kernel_rfl) (by kernel_rfl) (fun _ _ _ h => h) (.inl ⟨by rfl, fun _ _ => rfl⟩) S1 ?_
          simp only [List.set_cons_succ, List.set_cons_zero]
          refine takeHL (i := 15) 20 (.pointer (some ⟨nb, 2, none⟩)) rfl rfl (by kernel_rfl) (by kernel_rfl) (by kernel_rfl) (fun _ _ _ h => h) (.inl ⟨by rfl, fun w _ => by go_simp⟩) S1 ?_
          simp only [List.set_cons_succ, List.set_cons_zero]
          refine takeHL (i := 16) 21 (.int .i64 (n)) rfl rfl (by kernel_rfl) (by kernel_rfl) (by kernel_rfl) (fun _ _ _ h => h) (.inl ⟨by rfl, fun w hS => by obtain ⟨h0, h1, h2⟩ := hS; go_simp⟩) S1 ?_
          simp only [List.set_cons_succ, List.set_cons_zero]
          refine takeHL (i := 17) 22 (.bool false) rfl rfl (by kernel_rfl) (by kernel_rfl) (by kernel_rfl) (fun _ _ _ h => h) (.inl ⟨by rfl, fun w _ => by go_simp <;> (first | omega)⟩) S1 ?_
          simp only [List.set_cons_succ, List.set_cons_zero]
          refine takeHL (i := 18) 23 (.bool false) rfl rfl (by kernel_rfl) (by kernel_rfl) (by kernel_rfl) (fun _ _ _ h => h) (.inl ⟨by rfl, fun w _ => by go_simp⟩) S1 ?_
          simp only [List.set_cons_succ, List.set_cons_zero]
          refine takeHL (i := 19) 24 (.bool false) rfl rfl (by kernel_rfl) (by kernel_rfl) (by kernel_rfl) (fun _ _ _ h => h) (.inl ⟨by rfl, fun _ _ => rfl⟩) S1 ?_
          simp only [List.set_cons_succ, List.set_cons_zero]
          refine takeHL (i := 20) 25 undef rfl rfl (by kernel_rfl) (by kernel_rfl) (by kernel_rfl) (fun _ _ _ h => h) (.inr ⟨by rfl, rfl⟩) S1 ?_
          simp only [List.set_cons_succ, List.set_cons_zero]
          refine takeHL (i := 21) 26 undef rfl rfl (by kernel_rfl) (by kernel_rfl) (by kernel_rfl) (fun _ _ _ h => h) (.inr ⟨by rfl, rfl⟩) S1 ?_
          simp only [List.set_cons_succ, List.set_cons_zero]
          refine takeHL (i := 22) 27 undef rfl rfl (by kernel_rfl) (by kernel_rfl) (by kernel_rfl) (fun _ _ _ h => h) (.inr ⟨by rfl, rfl⟩) S1 ?_
          simp only [List.set_cons_succ, List.set_cons_zero]
          refine takeHL (i := 23) 28 undef rfl rfl (by kernel_rfl) (by kernel_rfl) (by kernel_rfl) (fun _ _ _ h => h) (.inr ⟨by rfl, rfl⟩) S1 ?_
          simp only [List.set_cons_succ, List.set_cons_zero]
          refine takeHL (i := 24) 29 undef rfl rfl (by kernel_rfl) (by kernel_rfl) (by kernel_rfl) (fun _ _ _ h => h) (.inr ⟨by rfl, rfl⟩) S1 ?_
          simp only [List.set_cons_succ, List.set_cons_zero]
          refine takeHL (i := 25) 30 undef rfl rfl (by kernel_rfl) (by kernel_rfl) (by kernel_rfl) (fun _ _ _ h => h) (.inr ⟨by rfl, rfl⟩) S1 ?_
          simp only [List.set_cons_succ, List.set_cons_zero]
          refine takeHL (i := 26) 31 undef rfl rfl (by kernel_rfl) (by kernel_rfl) (by kernel_rfl) (fun _ _ _ h => h) (.inr ⟨by rfl, rfl⟩) S1 ?_
          simp only [List.set_cons_succ, List.set_cons_zero]
          refine takeHL (i := 27) 32 undef rfl rfl (by kernel_rfl) (by kernel_rfl) (by kernel_rfl) (fun _ _ _ h => h) (.inr ⟨by rfl, rfl⟩) S1 ?_
          simp only [List.set_cons_succ, List.set_cons_zero]
          refine takeHL (i := 28) 33 undef rfl rfl (by kernel_rfl) (by kernel_rfl) (by kernel_rfl) (fun _ _ _ h => h) (.inr ⟨by rfl, rfl⟩) S1 ?_
          simp only [List.set_cons_succ, List.set_cons_zero]
          refine takeHL (i := 29) 34 (.bool false) rfl rfl (by kernel_rfl) (by kernel_rfl) (by kernel_rfl) (fun _ _ _ h => h) (.inl ⟨by rfl, fun w _ => by go_simp⟩) S1 ?_
          simp only [List.set_cons_succ, List.set_cons_zero]
          refine takeHL (i := 30) 4 (.bool false) rfl rfl (by kernel_rfl) (by kernel_rfl) (by kernel_rfl) (fun _ _ _ h => h) (.inl ⟨by rfl, fun _ _ => rfl⟩) S1 ?_
          simp only [List.set_cons_succ, List.set_cons_zero]
          refine wpAnyH_done (by kernel_rfl) ?_ _
          go_wp2_with fail
          go_ret
          exact ⟨by rw [E.out]; rfl, by first | exact bthru hba K1 | (rw [← hnb]; exact bthru hba K1)⟩
        · clear hd
          go_enter Tryz.func54, Tryz.ntmps54
          go_upto_region 1 with fail
          have hT := heap_alloc_new w (.cells #[.int .i64 q, .int .i64 a, .int .i64 n] 60 (0, 0))
          have hba := bal (Below.refl w.heap.size w) (.cells #[.int .i64 q, .int .i64 a, .int .i64 n] 60 (0, 0))
          generalize World.alloc w _ = wa at hT hba ⊢
          obtain ⟨nb, hnb⟩ : ∃ nb, w.heap.size = nb := ⟨_, rfl⟩
          have hbaw := hba
          rw [hnb] at hT ⊢
          have hlT := (Array.getElem?_eq_some_iff.1 hT).1
          have hSof : ∀ {w' : World}, Below wa.heap.size wa w' → w'.cell? ⟨nb, 0, none⟩ = some (.int .i64 q) ∧ w'.cell? ⟨nb, 1, none⟩ = some (.int .i64 a) ∧ w'.cell? ⟨nb, 2, none⟩ = some (.int .i64 n) := by
            intro w' hw
            obtain ⟨h0, h1, h2⟩ := blk3 ((hw.block nb hlT).trans hT)
            exact ⟨h0, h1, h2⟩
          refine wp_region_held (S := fun w' => w'.cell? ⟨nb, 0, none⟩ = some (.int .i64 q) ∧ w'.cell? ⟨nb, 1, none⟩ = some (.int .i64 a) ∧ w'.cell? ⟨nb, 2, none⟩ = some (.int .i64 n)) (by kernel_rfl) ?_
          change wpAnyH _ _ _ _ _ _ _ _ (World.drew _)
          have Kz : Below wa.heap.size wa (World.drew wa) := Below.drew (Below.refl _ _)
          have hS0 := hSof Kz
          refine takeHL (i := 0) 5 (.slice A l.length c) rfl rfl (by kernel_rfl) (by kernel_rfl) (by kernel_rfl) (fun _ _ _ h => h) (.inl ⟨by rfl, fun _ _ => rfl⟩) hS0 ?_
          simp only [List.set_cons_succ, List.set_cons_zero]
          refine takeHL (i := 1) 6 (.pointer (some ⟨nb, 0, none⟩)) rfl rfl (by kernel_rfl) (by kernel_rfl) (by kernel_rfl) (fun _ _ _ h => h) (.inl ⟨by rfl, fun w _ => by go_simp⟩) hS0 ?_
          simp only [List.set_cons_succ, List.set_cons_zero]
          refine takeHL (i := 2) 7 (.int .i64 (q)) rfl rfl (by kernel_rfl) (by kernel_rfl) (by kernel_rfl) (fun _ _ _ h => h) (.inl ⟨by rfl, fun w hS => by obtain ⟨h0, h1, h2⟩ := hS; go_simp⟩) hS0 ?_
          simp only [List.set_cons_succ, List.set_cons_zero]
          refine callHL 3 8 rfl rfl (by kernel_rfl) (by rfl) 100 Tryz.func100 (by kernel_rfl) rfl _ _ rfl #[.slice A l.length c, .int .i64 q] ?hv (impl_placed _ l c q _ (h.keep (bthru hba Kz))) ?_
          case hv => simp [Act.eval]
          rw [HP.out]
          rintro e v1 ⟨rfl, k1⟩
          have K1 : Below wa.heap.size wa v1 := bthru Kz k1
          have S1 := hSof K1
          refine ⟨_, rfl, S1, ?_⟩
          simp only [List.set_cons_succ, List.set_cons_zero]
          refine takeHL (i := 4) 9 (.bool true) rfl rfl (by kernel_rfl) (by kernel_rfl) (by kernel_rfl) (fun _ _ _ h => h) (.inl ⟨by rfl, fun _ _ => rfl⟩) S1 ?_
          simp only [List.set_cons_succ, List.set_cons_zero]
          refine takeHL (i := 5) 10 (.pointer (some ⟨nb, 1, none⟩)) rfl rfl (by kernel_rfl) (by kernel_rfl) (by kernel_rfl) (fun _ _ _ h => h) (.inl ⟨by rfl, fun w _ => by go_simp⟩) S1 ?_
          simp only [List.set_cons_succ, List.set_cons_zero]
          refine takeHL (i := 6) 11 (.int .i64 (a)) rfl rfl (by kernel_rfl) (by kernel_rfl) (by kernel_rfl) (fun _ _ _ h => h) (.inl ⟨by rfl, fun w hS => by obtain ⟨h0, h1, h2⟩ := hS; go_simp⟩) S1 ?_
          simp only [List.set_cons_succ, List.set_cons_zero]
          refine takeHL (i := 7) 12 (.bool true) rfl rfl (by kernel_rfl) (by kernel_rfl) (by kernel_rfl) (fun _ _ _ h => h) (.inl ⟨by rfl, fun w _ => by go_simp <;> (first | omega)⟩) S1 ?_
          simp only [List.set_cons_succ, List.set_cons_zero]
          refine takeHL (i := 8) 13 (.bool true) rfl rfl (by kernel_rfl) (by kernel_rfl) (by kernel_rfl) (fun _ _ _ h => h) (.inl ⟨by rfl, fun w _ => by go_simp⟩) S1 ?_
          simp only [List.set_cons_succ, List.set_cons_zero]
          refine takeHL (i := 9) 14 (.bool true) rfl rfl (by kernel_rfl) (by kernel_rfl) (by kernel_rfl) (fun _ _ _ h => h) (.inl ⟨by rfl, fun _ _ => rfl⟩) S1 ?_
          simp only [List.set_cons_succ, List.set_cons_zero]
          refine takeHL (i := 10) 15 (.pointer (some ⟨nb, 1, none⟩)) rfl rfl (by kernel_rfl) (by kernel_rfl) (by kernel_rfl) (fun _ _ _ h => h) (.inl ⟨by rfl, fun w _ => by go_simp⟩) S1 ?_
          simp only [List.set_cons_succ, List.set_cons_zero]
          refine takeHL (i := 11) 16 (.int .i64 (a)) rfl rfl (by kernel_rfl) (by kernel_rfl) (by kernel_rfl) (fun _ _ _ h => h) (.inl ⟨by rfl, fun w hS => by obtain ⟨h0, h1, h2⟩ := hS; go_simp⟩) S1 ?_
          simp only [List.set_cons_succ, List.set_cons_zero]
          refine takeHL (i := 12) 17 (.bool false) rfl rfl (by kernel_rfl) (by kernel_rfl) (by kernel_rfl) (fun _ _ _ h => h) (.inl ⟨by rfl, fun w _ => by go_simp <;> (first | omega)⟩) S1 ?_
          simp only [List.set_cons_succ, List.set_cons_zero]
          refine takeHL (i := 13) 18 (.bool false) rfl rfl (by kernel_rfl) (by kernel_rfl) (by kernel_rfl) (fun _ _ _ h => h) (.inl ⟨by rfl, fun w _ => by go_simp⟩) S1 ?_
          simp only [List.set_cons_succ, List.set_cons_zero]
          refine takeHL (i := 14) 19 (.bool false) rfl rfl (by kernel_rfl) (by kernel_rfl) (by kernel_rfl) (fun _ _ _ h => h) (.inl ⟨by rfl, fun _ _ => rfl⟩) S1 ?_
          simp only [List.set_cons_succ, List.set_cons_zero]
          refine takeHL (i := 15) 20 undef rfl rfl (by kernel_rfl) (by kernel_rfl) (by kernel_rfl) (fun _ _ _ h => h) (.inr ⟨by rfl, rfl⟩) S1 ?_
          simp only [List.set_cons_succ, List.set_cons_zero]
          refine takeHL (i := 16) 21 undef rfl rfl (by kernel_rfl) (by kernel_rfl) (by kernel_rfl) (fun _ _ _ h => h) (.inr ⟨by rfl, rfl⟩) S1 ?_
          simp only [List.set_cons_succ, List.set_cons_zero]
          refine takeHL (i := 17) 22 undef rfl rfl (by kernel_rfl) (by kernel_rfl) (by kernel_rfl) (fun _ _ _ h => h) (.inr ⟨by rfl, rfl⟩) S1 ?_
          simp only [List.set_cons_succ, List.set_cons_zero]
          refine takeHL (i := 18) 23 (.bool false) rfl rfl (by kernel_rfl) (by kernel_rfl) (by kernel_rfl) (fun _ _ _ h => h) (.inl ⟨by rfl, fun w _ => by go_simp⟩) S1 ?_
          simp only [List.set_cons_succ, List.set_cons_zero]
          refine takeHL (i := 19) 24 (.bool false) rfl rfl (by kernel_rfl) (by kernel_rfl) (by kernel_rfl) (fun _ _ _ h => h) (.inl ⟨by rfl, fun _ _ => rfl⟩) S1 ?_
          simp only [List.set_cons_succ, List.set_cons_zero]
          refine takeHL (i := 20) 25 undef rfl rfl (by kernel_rfl) (by kernel_rfl) (by kernel_rfl) (fun _ _ _ h => h) (.inr ⟨by rfl, rfl⟩) S1 ?_
          simp only [List.set_cons_succ, List.set_cons_zero]
          refine takeHL (i := 21) 26 undef rfl rfl (by kernel_rfl) (by kernel_rfl) (by kernel_rfl) (fun _ _ _ h => h) (.inr ⟨by rfl, rfl⟩) S1 ?_
          simp only [List.set_cons_succ, List.set_cons_zero]
          refine takeHL (i := 22) 27 undef rfl rfl (by kernel_rfl) (by kernel_rfl) (by kernel_rfl) (fun _ _ _ h => h) (.inr ⟨by rfl, rfl⟩) S1 ?_
          simp only [List.set_cons_succ, List.set_cons_zero]
          refine takeHL (i := 23) 28 undef rfl rfl (by kernel_rfl) (by kernel_rfl) (by kernel_rfl) (fun _ _ _ h => h) (.inr ⟨by rfl, rfl⟩) S1 ?_
          simp only [List.set_cons_succ, List.set_cons_zero]
          refine takeHL (i := 24) 29 undef rfl rfl (by kernel_rfl) (by kernel_rfl) (by kernel_rfl) (fun _ _ _ h => h) (.inr ⟨by rfl, rfl⟩) S1 ?_
          simp only [List.set_cons_succ, List.set_cons_zero]
          refine takeHL (i := 25) 30 undef rfl rfl (by kernel_rfl) (by kernel_rfl) (by kernel_rfl) (fun _ _ _ h => h) (.inr ⟨by rfl, rfl⟩) S1 ?_
          simp only [List.set_cons_succ, List.set_cons_zero]
          refine takeHL (i := 26) 31 undef rfl rfl (by kernel_rfl) (by kernel_rfl) (by kernel_rfl) (fun _ _ _ h => h) (.inr ⟨by rfl, rfl⟩) S1 ?_
          simp only [List.set_cons_succ, List.set_cons_zero]
          refine takeHL (i := 27) 32 undef rfl rfl (by kernel_rfl) (by kernel_rfl) (by kernel_rfl) (fun _ _ _ h => h) (.inr ⟨by rfl, rfl⟩) S1 ?_
          simp only [List.set_cons_succ, List.set_cons_zero]
          refine takeHL (i := 28) 33 undef rfl rfl (by kernel_rfl) (by kernel_rfl) (by kernel_rfl) (fun _ _ _ h => h) (.inr ⟨by rfl, rfl⟩) S1 ?_
          simp only [List.set_cons_succ, List.set_cons_zero]
          refine takeHL (i := 29) 34 (.bool false) rfl rfl (by kernel_rfl) (by kernel_rfl) (by kernel_rfl) (fun _ _ _ h => h) (.inl ⟨by rfl, fun w _ => by go_simp⟩) S1 ?_
          simp only [List.set_cons_succ, List.set_cons_zero]
          refine takeHL (i := 30) 4 (.bool false) rfl rfl (by kernel_rfl) (by kernel_rfl) (by kernel_rfl) (fun _ _ _ h => h) (.inl ⟨by rfl, fun _ _ => rfl⟩) S1 ?_
          simp only [List.set_cons_succ, List.set_cons_zero]
          refine wpAnyH_done (by kernel_rfl) ?_ _
          go_wp2_with fail
          go_ret
          exact ⟨by rw [E.out]; rfl, by first | exact bthru hba K1 | (rw [← hnb]; exact bthru hba K1)⟩
      · clear hd
        go_enter Tryz.func54, Tryz.ntmps54
        go_upto_region 1 with fail
        have hT := heap_alloc_new w (.cells #[.int .i64 q, .int .i64 a, .int .i64 n] 60 (0, 0))
        have hba := bal (Below.refl w.heap.size w) (.cells #[.int .i64 q, .int .i64 a, .int .i64 n] 60 (0, 0))
        generalize World.alloc w _ = wa at hT hba ⊢
        obtain ⟨nb, hnb⟩ : ∃ nb, w.heap.size = nb := ⟨_, rfl⟩
        have hbaw := hba
        rw [hnb] at hT ⊢
        have hlT := (Array.getElem?_eq_some_iff.1 hT).1
        have hSof : ∀ {w' : World}, Below wa.heap.size wa w' → w'.cell? ⟨nb, 0, none⟩ = some (.int .i64 q) ∧ w'.cell? ⟨nb, 1, none⟩ = some (.int .i64 a) ∧ w'.cell? ⟨nb, 2, none⟩ = some (.int .i64 n) := by
          intro w' hw
          obtain ⟨h0, h1, h2⟩ := blk3 ((hw.block nb hlT).trans hT)
          exact ⟨h0, h1, h2⟩
        refine wp_region_held (S := fun w' => w'.cell? ⟨nb, 0, none⟩ = some (.int .i64 q) ∧ w'.cell? ⟨nb, 1, none⟩ = some (.int .i64 a) ∧ w'.cell? ⟨nb, 2, none⟩ = some (.int .i64 n)) (by kernel_rfl) ?_
        change wpAnyH _ _ _ _ _ _ _ _ (World.drew _)
        have Kz : Below wa.heap.size wa (World.drew wa) := Below.drew (Below.refl _ _)
        have hS0 := hSof Kz
        refine takeHL (i := 0) 5 (.slice A l.length c) rfl rfl (by kernel_rfl) (by kernel_rfl) (by kernel_rfl) (fun _ _ _ h => h) (.inl ⟨by rfl, fun _ _ => rfl⟩) hS0 ?_
        simp only [List.set_cons_succ, List.set_cons_zero]
        refine takeHL (i := 1) 6 (.pointer (some ⟨nb, 0, none⟩)) rfl rfl (by kernel_rfl) (by kernel_rfl) (by kernel_rfl) (fun _ _ _ h => h) (.inl ⟨by rfl, fun w _ => by go_simp⟩) hS0 ?_
        simp only [List.set_cons_succ, List.set_cons_zero]
        refine takeHL (i := 2) 7 (.int .i64 (q)) rfl rfl (by kernel_rfl) (by kernel_rfl) (by kernel_rfl) (fun _ _ _ h => h) (.inl ⟨by rfl, fun w hS => by obtain ⟨h0, h1, h2⟩ := hS; go_simp⟩) hS0 ?_
        simp only [List.set_cons_succ, List.set_cons_zero]
        refine callHL 3 8 rfl rfl (by kernel_rfl) (by rfl) 100 Tryz.func100 (by kernel_rfl) rfl _ _ rfl #[.slice A l.length c, .int .i64 q] ?hv (impl_placed _ l c q _ (h.keep (bthru hba Kz))) ?_
        case hv => simp [Act.eval]
        rw [HP.out]
        rintro e v1 ⟨rfl, k1⟩
        have K1 : Below wa.heap.size wa v1 := bthru Kz k1
        have S1 := hSof K1
        refine ⟨_, rfl, S1, ?_⟩
        simp only [List.set_cons_succ, List.set_cons_zero]
        refine takeHL (i := 4) 9 (.bool true) rfl rfl (by kernel_rfl) (by kernel_rfl) (by kernel_rfl) (fun _ _ _ h => h) (.inl ⟨by rfl, fun _ _ => rfl⟩) S1 ?_
        simp only [List.set_cons_succ, List.set_cons_zero]
        refine takeHL (i := 5) 10 (.pointer (some ⟨nb, 1, none⟩)) rfl rfl (by kernel_rfl) (by kernel_rfl) (by kernel_rfl) (fun _ _ _ h => h) (.inl ⟨by rfl, fun w _ => by go_simp⟩) S1 ?_
        simp only [List.set_cons_succ, List.set_cons_zero]
        refine takeHL (i := 6) 11 (.int .i64 (a)) rfl rfl (by kernel_rfl) (by kernel_rfl) (by kernel_rfl) (fun _ _ _ h => h) (.inl ⟨by rfl, fun w hS => by obtain ⟨h0, h1, h2⟩ := hS; go_simp⟩) S1 ?_
        simp only [List.set_cons_succ, List.set_cons_zero]
        refine takeHL (i := 7) 12 (.bool false) rfl rfl (by kernel_rfl) (by kernel_rfl) (by kernel_rfl) (fun _ _ _ h => h) (.inl ⟨by rfl, fun w _ => by go_simp <;> (first | omega)⟩) S1 ?_
        simp only [List.set_cons_succ, List.set_cons_zero]
        refine takeHL (i := 8) 13 (.bool false) rfl rfl (by kernel_rfl) (by kernel_rfl) (by kernel_rfl) (fun _ _ _ h => h) (.inl ⟨by rfl, fun w _ => by go_simp⟩) S1 ?_
        simp only [List.set_cons_succ, List.set_cons_zero]
        refine takeHL (i := 9) 14 (.bool false) rfl rfl (by kernel_rfl) (by kernel_rfl) (by kernel_rfl) (fun _ _ _ h => h) (.inl ⟨by rfl, fun _ _ => rfl⟩) S1 ?_
        simp only [List.set_cons_succ, List.set_cons_zero]
        refine takeHL (i := 10) 15 undef rfl rfl (by kernel_rfl) (by kernel_rfl) (by kernel_rfl) (fun _ _ _ h => h) (.inr ⟨by rfl, rfl⟩) S1 ?_
        simp only [List.set_cons_succ, List.set_cons_zero]
        refine takeHL (i := 11) 16 undef rfl rfl (by kernel_rfl) (by kernel_rfl) (by kernel_rfl) (fun _ _ _ h => h) (.inr ⟨by rfl, rfl⟩) S1 ?_
        simp only [List.set_cons_succ, List.set_cons_zero]
        refine takeHL (i := 12) 17 undef rfl rfl (by kernel_rfl) (by kernel_rfl) (by kernel_rfl) (fun _ _ _ h => h) (.inr ⟨by rfl, rfl⟩) S1 ?_
        simp only [List.set_cons_succ, List.set_cons_zero]
        refine takeHL (i := 13) 18 (.bool false) rfl rfl (by kernel_rfl) (by kernel_rfl) (by kernel_rfl) (fun _ _ _ h => h) (.inl ⟨by rfl, fun w _ => by go_simp⟩) S1 ?_
        simp only [List.set_cons_succ, List.set_cons_zero]
        refine takeHL (i := 14) 19 (.bool false) rfl rfl (by kernel_rfl) (by kernel_rfl) (by kernel_rfl) (fun _ _ _ h => h) (.inl ⟨by rfl, fun _ _ => rfl⟩) S1 ?_
        simp only [List.set_cons_succ, List.set_cons_zero]
        refine takeHL (i := 15) 20 undef rfl rfl (by kernel_rfl) (by kernel_rfl) (by kernel_rfl) (fun _ _ _ h => h) (.inr ⟨by rfl, rfl⟩) S1 ?_
        simp only [List.set_cons_succ, List.set_cons_zero]
        refine takeHL (i := 16) 21 undef rfl rfl (by kernel_rfl) (by kernel_rfl) (by kernel_rfl) (fun _ _ _ h => h) (.inr ⟨by rfl, rfl⟩) S1 ?_
        simp only [List.set_cons_succ, List.set_cons_zero]
        refine takeHL (i := 17) 22 undef rfl rfl (by kernel_rfl) (by kernel_rfl) (by kernel_rfl) (fun _ _ _ h => h) (.inr ⟨by rfl, rfl⟩) S1 ?_
        simp only [List.set_cons_succ, List.set_cons_zero]
        refine takeHL (i := 18) 23 (.bool false) rfl rfl (by kernel_rfl) (by kernel_rfl) (by kernel_rfl) (fun _ _ _ h => h) (.inl ⟨by rfl, fun w _ => by go_simp⟩) S1 ?_
        simp only [List.set_cons_succ, List.set_cons_zero]
        refine takeHL (i := 19) 24 (.bool false) rfl rfl (by kernel_rfl) (by kernel_rfl) (by kernel_rfl) (fun _ _ _ h => h) (.inl ⟨by rfl, fun _ _ => rfl⟩) S1 ?_
        simp only [List.set_cons_succ, List.set_cons_zero]
        refine takeHL (i := 20) 25 undef rfl rfl (by kernel_rfl) (by kernel_rfl) (by kernel_rfl) (fun _ _ _ h => h) (.inr ⟨by rfl, rfl⟩) S1 ?_
        simp only [List.set_cons_succ, List.set_cons_zero]
        refine takeHL (i := 21) 26 undef rfl rfl (by kernel_rfl) (by kernel_rfl) (by kernel_rfl) (fun _ _ _ h => h) (.inr ⟨by rfl, rfl⟩) S1 ?_
        simp only [List.set_cons_succ, List.set_cons_zero]
        refine takeHL (i := 22) 27 undef rfl rfl (by kernel_rfl) (by kernel_rfl) (by kernel_rfl) (fun _ _ _ h => h) (.inr ⟨by rfl, rfl⟩) S1 ?_
        simp only [List.set_cons_succ, List.set_cons_zero]
        refine takeHL (i := 23) 28 undef rfl rfl (by kernel_rfl) (by kernel_rfl) (by kernel_rfl) (fun _ _ _ h => h) (.inr ⟨by rfl, rfl⟩) S1 ?_
        simp only [List.set_cons_succ, List.set_cons_zero]
        refine takeHL (i := 24) 29 undef rfl rfl (by kernel_rfl) (by kernel_rfl) (by kernel_rfl) (fun _ _ _ h => h) (.inr ⟨by rfl, rfl⟩) S1 ?_
        simp only [List.set_cons_succ, List.set_cons_zero]
        refine takeHL (i := 25) 30 undef rfl rfl (by kernel_rfl) (by kernel_rfl) (by kernel_rfl) (fun _ _ _ h => h) (.inr ⟨by rfl, rfl⟩) S1 ?_
        simp only [List.set_cons_succ, List.set_cons_zero]
        refine takeHL (i := 26) 31 undef rfl rfl (by kernel_rfl) (by kernel_rfl) (by kernel_rfl) (fun _ _ _ h => h) (.inr ⟨by rfl, rfl⟩) S1 ?_
        simp only [List.set_cons_succ, List.set_cons_zero]
        refine takeHL (i := 27) 32 undef rfl rfl (by kernel_rfl) (by kernel_rfl) (by kernel_rfl) (fun _ _ _ h => h) (.inr ⟨by rfl, rfl⟩) S1 ?_
        simp only [List.set_cons_succ, List.set_cons_zero]
        refine takeHL (i := 28) 33 undef rfl rfl (by kernel_rfl) (by kernel_rfl) (by kernel_rfl) (fun _ _ _ h => h) (.inr ⟨by rfl, rfl⟩) S1 ?_
        simp only [List.set_cons_succ, List.set_cons_zero]
        refine takeHL (i := 29) 34 (.bool false) rfl rfl (by kernel_rfl) (by kernel_rfl) (by kernel_rfl) (fun _ _ _ h => h) (.inl ⟨by rfl, fun w _ => by go_simp⟩) S1 ?_
        simp only [List.set_cons_succ, List.set_cons_zero]
        refine takeHL (i := 30) 4 (.bool false) rfl rfl (by kernel_rfl) (by kernel_rfl) (by kernel_rfl) (fun _ _ _ h => h) (.inl ⟨by rfl, fun _ _ => rfl⟩) S1 ?_
        simp only [List.set_cons_succ, List.set_cons_zero]
        refine wpAnyH_done (by kernel_rfl) ?_ _
        go_wp2_with fail
        go_ret
        exact ⟨by rw [E.out]; rfl, by first | exact bthru hba K1 | (rw [← hnb]; exact bthru hba K1)⟩
end

section
open Go.RowKit

theorem jobsV_no {l : List Tk} {js : List Jb} {k : Nat} (hk : k < js.length) (h : jobOk l js k = false) : jobsV l js = false := by
  have : (List.range js.length).all (jobOk l js) = false := by
    rw [List.all_eq_false]
    exact ⟨k, List.mem_range.2 hk, by simp [h]⟩
  simp [jobsV, this]
theorem jobsV_yes {l : List Tk} {js : List Jb} (hS : setVld l = true) (h60 : js.length ≤ 60) (hall : ∀ i, i < js.length → jobOk l js i = true) : jobsV l js = true := by
  simp only [jobsV, hS, Bool.true_and, Bool.and_eq_true, decide_eq_true_eq, List.all_eq_true, List.mem_range]
  exact ⟨h60, hall⟩
theorem allTake_succ {js : List Jb} {p : Jb → Bool} {m : Nat} (hm : m < js.length) (h : (js.take m).all p = true) (h1 : p js[m] = true) : (js.take (m + 1)).all p = true := by
  rw [List.take_succ_eq_append_getElem hm, List.all_append, h]
  simp [h1]
theorem allTake_no {js : List Jb} {p : Jb → Bool} {m k : Nat} (hm : m < js.length) (hmk : m < k) (h1 : p js[m] = false) : (js.take k).all p = false := by
  rw [List.all_eq_false]
  exact ⟨js[m], List.mem_take_iff_getElem.2 ⟨m, by omega, rfl⟩, by simp [h1]⟩
set_option maxHeartbeats 4000000 in
set_option maxRecDepth 100000 in
theorem impl_JobsValid (A : Option Addr) (l : List Tk) (c : Nat) (B : Option Addr) (js : List Jb) (d : Nat) (w : World) (h : TS w A l) (g : JS w B js) (hjd : js.length ≤ d) (hjm : js.length ≤ maxLen) :
    Calls Tryz.prog 21 #[.slice A l.length c, .slice B js.length d] w fun e w' => e = .returned (.bool (jobsV l js)) ∧ Below w.heap.size w w' := by
  unfold maxLen at hjm
  cases hS : setVld l with
  | false =>
    have E : Hid (jobsV l js = false) := by simp [Hid, jobsV, hS]
    go_enter Tryz.func21, Tryz.ntmps21
    go_wp2_with fail
    refine (impl_SetValid A l c _ h).mono ?_
    rw [hS]
    rintro e w1 ⟨rfl, b1⟩
    go_wp2_with fail
    go_ret
    exact ⟨by rw [E.out]; rfl, b1⟩
  | true =>
    by_cases h60 : js.length ≤ 60
    case neg =>
      have e60 : decide ((60 : Int) < (js.length : Int)) = true := decide_eq_true (by omega)
      have E : Hid (jobsV l js = false) := by simp [Hid, jobsV, h60]
      go_enter Tryz.func21, Tryz.ntmps21
      go_wp2_with fail
      refine (impl_SetValid A l c _ h).mono ?_
      rw [hS]
      rintro e w1 ⟨rfl, b1⟩
      go_wp2_with fail
      go_ret
      exact ⟨by rw [E.out]; rfl, b1⟩
    have e60 : decide ((60 : Int) < (js.length : Int)) = false := decide_eq_false (by omega)
    obtain ⟨hl5, hall⟩ := setVld_all hS
    have HV := Lib.hid hall
    have HS := Lib.hid hS
    clear hS hall
    go_enter Tryz.func21, Tryz.ntmps21
    go_wp2_with fail
    refine (impl_SetValid A l c _ h).mono ?_
    rw [HS.out]
    rintro e w1 ⟨rfl, b1⟩
    go_wp2_with fail
    go_loopg [19] js.length (fun g i wr => ∃ k : Nat, g + k = js.length ∧ i = .int .i64 (k : Int) ∧ Hid (∀ i, i < k → jobOk l js i = true) ∧ Below w.heap.size w wr)
    case atStart => exact ⟨0, by omega, rfl, fun i hi => absurd hi (Nat.not_lt_zero _), b1⟩
    case round =>
      clear e60 b1
      obtain ⟨k, hgk, rfl, hall, hb⟩ := hrel
      by_cases hlt : k < js.length
      · obtain ⟨b, off, rfl, hbl, hc⟩ := g.keep hb (by omega)
        obtain ⟨k0, k1, k2⟩ := job_cells hc k hlt
        have hjk := jobAt_eq js k hlt
        generalize js[k] = J at k0 k1 k2 hjk
        obtain ⟨q, a, n⟩ := J
        have hT := heap_alloc_new wr (.cells #[.int .i64 q, .int .i64 a, .int .i64 n] 60 (0, 0))
        have hlT := (Array.getElem?_eq_some_iff.1 hT).1
        cases hJ : jobOfB l ⟨q, a, n⟩ with
        | false =>
          have HE : Hid (jobsV l js = false) := jobsV_no hlt (by simp [jobOk, hjk, hJ])
          have HJ := Lib.hid hJ
          clear hJ hc hjk
          go_wp2_with fail
          refine (impl_jobOf A l c ⟨q, a, n⟩ _ (h.keep (bal hb _))).mono ?_
          rw [HJ.out]
          rintro e w2 ⟨rfl, b2⟩
          go_wp2_with fail
          go_ret
          exact ⟨by rw [HE.out]; rfl, bthru (bal hb _) b2⟩
        | true =>
          have hJ2 := hJ
          simp only [jobOfB, Bool.and_eq_true, decide_eq_true_eq] at hJ2
          obtain ⟨⟨⟨⟨hp, ha0⟩, ha1⟩, hn0⟩, _⟩ := hJ2
          obtain ⟨_, _, hx, hq⟩ := plc_yes hp
          generalize q.toNat = x at hx hq
          subst hq
          have hev := vld_bd (HV.out _ (List.getElem_mem hx))
          rw [← tkAt_eq l x hx] at hev
          obtain ⟨_, _, _, _, hev⟩ := hev
          have hok : jobOk l js k = ((js.take k).all (farJ l ⟨(x : Int), a, n⟩) && (decide (k = 0) || befJ (jobAt js (k - 1)) ⟨(x : Int), a, n⟩)) := by
            simp only [jobOk, hjk, hJ, Bool.true_and]
          have HJ := Lib.hid hJ
          have HK := Lib.hid hok
          clear hJ hc hjk hp hok
          go_wp2_with fail
          refine (impl_jobOf A l c ⟨(x : Int), a, n⟩ _ (h.keep (bal hb _))).mono ?_
          rw [HJ.out]
          rintro e w2 ⟨rfl, b2⟩
          have hT2 := (b2.block _ hlT).trans hT
          have B2 := bthru (bal hb _) b2
          generalize wr.heap.size = nT at hT2 ⊢
          clear hT hlT k0 k1 k2 b2
          go_wp2_with fail
          go_loopg [32] k (fun g i wy => ∃ m : Nat, g + m = k ∧ i = .int .i64 (m : Int) ∧ Hid ((js.take m).all (farJ l ⟨(x : Int), a, n⟩) = true) ∧ Below w2.heap.size w2 wy)
          case atStart => exact ⟨0, by omega, rfl, by simp [Hid], Below.refl _ _⟩
          case round =>
            obtain ⟨m, hgm, rfl, hfar, hb2⟩ := hrel
            have B3 := bthru B2 hb2
            obtain ⟨h0, h1, h2⟩ := blk3 ((hb2.block _ (Array.getElem?_eq_some_iff.1 hT2).1).trans hT2)
            have hnl : nT < wr.heap.size := Nat.lt_of_lt_of_le (Array.getElem?_eq_some_iff.1 hT2).1 hb2.size
            obtain ⟨b', off', hbe, hbl2, hc2⟩ := g.keep B3 (by omega)
            cases hbe
            by_cases hmk : m < k
            · obtain ⟨m0, m1, m2⟩ := job_cells hc2 m (by omega)
              have hml : m < js.length := by omega
              have hfm : farJ l ⟨(x : Int), a, n⟩ js[m] = true → (js.take (m + 1)).all (farJ l ⟨(x : Int), a, n⟩) = true := allTake_succ hml hfar.out
              have hfn : farJ l ⟨(x : Int), a, n⟩ js[m] = false → (js.take k).all (farJ l ⟨(x : Int), a, n⟩) = false := allTake_no hml hmk
              have hJm := hall.out m hmk
              simp only [jobOk, jobOfB, jobAt_eq js m (show m < js.length by omega), Bool.and_eq_true, decide_eq_true_eq] at hJm
              obtain ⟨⟨⟨⟨⟨⟨_, hm0⟩, hm1⟩, _⟩, _⟩, _⟩, _⟩ := hJm
              generalize js[m] = Y at m0 m1 m2 hfm hfn hm0 hm1
              obtain ⟨q0, a0, n0⟩ := Y
              have hm0 : 0 ≤ a0 := hm0
              have hm1 : a0 ≤ 200 := hm1
              by_cases hq : q0 = (x : Int)
              · subst hq
                have qw : IntKind.i64.wrap (a - a0) = a - a0 := IntWalk.i64_in _ (by omega)
                have hxI : (x : Int) < (l.length : Int) := by omega
                by_cases hd : a - a0 < (tkAt l x).every
                · have HE : Hid (jobsV l js = false) := jobsV_no hlt (by rw [HK.out, hfn (by simp [farJ, hd])]; rfl)
                  have ed : decide (a - a0 < (tkAt l x).every) = true := decide_eq_true hd
                  clear hfm hfn hc2
                  obtain ⟨tb, toff, hte, htr, htc⟩ := h.keep B3 (by omega)
                  cases hte
                  obtain ⟨_, _, _, cy1, _⟩ := cells_tk htc x hx
                  clear htc
                  have hN := blk3 (heap_alloc_new wr (.cells #[.int .i64 (x : Int), .int .i64 a0, .int .i64 n0] 60 (0, 0)))
                  have hba := bal (Below.refl wr.heap.size wr) (.cells #[.int .i64 (x : Int), .int .i64 a0, .int .i64 n0] 60 (0, 0))
                  replace cy1 := (hba.cell (p := ⟨tb, toff + x * 5 + 3, none⟩) htr).trans cy1
                  replace h0 := (hba.cell (p := ⟨nT, 0, none⟩) hnl).trans h0
                  replace h1 := (hba.cell (p := ⟨nT, 1, none⟩) hnl).trans h1
                  replace h2 := (hba.cell (p := ⟨nT, 2, none⟩) hnl).trans h2
                  go_upto_region 11 with fail
                  generalize World.alloc wr _ = wa at hN hba h0 h1 h2 cy1 ⊢
                  generalize wr.heap.size = nB at hN ⊢
                  obtain ⟨y0, y1, y2⟩ := hN
                  go_quiet (fail)
                  go_wp2_with fail
                  go_ret
                  exact ⟨by rw [HE.out]; rfl, bdr (bthru B3 hba) _⟩
                · have HN := Lib.hid (hfm (by simp [farJ, hd]))
                  have ed : decide (a - a0 < (tkAt l x).every) = false := decide_eq_false hd
                  clear hfm hfn hc2
                  obtain ⟨tb, toff, hte, htr, htc⟩ := h.keep B3 (by omega)
                  cases hte
                  obtain ⟨_, _, _, cy1, _⟩ := cells_tk htc x hx
                  clear htc
                  have hN := blk3 (heap_alloc_new wr (.cells #[.int .i64 (x : Int), .int .i64 a0, .int .i64 n0] 60 (0, 0)))
                  have hba := bal (Below.refl wr.heap.size wr) (.cells #[.int .i64 (x : Int), .int .i64 a0, .int .i64 n0] 60 (0, 0))
                  replace cy1 := (hba.cell (p := ⟨tb, toff + x * 5 + 3, none⟩) htr).trans cy1
                  replace h0 := (hba.cell (p := ⟨nT, 0, none⟩) hnl).trans h0
                  replace h1 := (hba.cell (p := ⟨nT, 1, none⟩) hnl).trans h1
                  replace h2 := (hba.cell (p := ⟨nT, 2, none⟩) hnl).trans h2
                  go_upto_region 11 with fail
                  generalize World.alloc wr _ = wa at hN hba h0 h1 h2 cy1 ⊢
                  generalize wr.heap.size = nB at hN ⊢
                  obtain ⟨y0, y1, y2⟩ := hN
                  go_quiet (fail)
                  go_wp2_with fail
                  go_roundg (k - (m + 1))
                  case measure => omega
                  case rel => exact ⟨m + 1, by omega, by go_num, HN.out, bdr (bthru hb2 hba) _⟩
              · have HN := Lib.hid (hfm (by simp [farJ, hq]))
                have eq0 : (q0 == (x : Int)) = false := beq_eq_false_iff_ne.2 hq
                clear hfm hfn hc2 hq
                have hN := blk3 (heap_alloc_new wr (.cells #[.int .i64 q0, .int .i64 a0, .int .i64 n0] 60 (0, 0)))
                have hba := bal (Below.refl wr.heap.size wr) (.cells #[.int .i64 q0, .int .i64 a0, .int .i64 n0] 60 (0, 0))
                replace h0 := (hba.cell (p := ⟨nT, 0, none⟩) hnl).trans h0
                replace h1 := (hba.cell (p := ⟨nT, 1, none⟩) hnl).trans h1
                replace h2 := (hba.cell (p := ⟨nT, 2, none⟩) hnl).trans h2
                go_upto_region 11 with fail
                generalize World.alloc wr _ = wa at hN hba h0 h1 h2 ⊢
                generalize wr.heap.size = nB at hN ⊢
                obtain ⟨y0, y1, y2⟩ := hN
                go_quiet (fail)
                go_wp2_with fail
                go_roundg (k - (m + 1))
                case measure => omega
                case rel => exact ⟨m + 1, by omega, by go_num, HN.out, bdr (bthru hb2 hba) _⟩
            · obtain rfl : m = k := by omega
              have hK := HK.out
              rw [hfar.out, Bool.true_and] at hK
              have hnext : jobOk l js m = true → ∀ i, i < m + 1 → jobOk l js i = true := by
                intro h1 i hi
                by_cases e : i = m
                · rw [e]
                  exact h1
                · exact hall.out i (by omega)
              cases m with
              | zero =>
                have HN := Lib.hid (hnext (by rw [hK]; rfl))
                clear hK hnext hc2
                have e0 : decide ((0 : Int) < 0) = false := rfl
                have hcast : (((0 : Nat)) : Int) = 0 := rfl
                rw [hcast]
                go_wp2_with fail
                go_quiet (fail)
                go_wp2_with fail
                go_roundg (js.length - 1)
                case measure => omega
                case rel => exact ⟨1, by omega, by go_num, HN.out, bdr B3 _⟩
              | succ m =>
                obtain ⟨p0, p1, p2⟩ := job_cells hc2 m (by omega)
                rw [Nat.add_sub_cancel, jobAt_eq js m (by omega), show decide (m + 1 = 0) = false from rfl, Bool.false_or] at hK
                generalize js[m] = Y at p0 p1 p2 hK
                obtain ⟨q0, a0, n0⟩ := Y
                have e0 : decide ((0 : Int) < (m : Int) + 1) = true := decide_eq_true (by omega)
                have hcast : (((m + 1 : Nat)) : Int) = (m : Int) + 1 := rfl
                have qw : IntKind.i64.wrap ((m : Int) + 1 - 1) = (m : Int) := by rw [Int.add_sub_cancel]; exact IntWalk.i64_in _ (by omega)
                clear hc2
                by_cases h3 : a < a0
                · have HE : Hid (jobsV l js = false) := jobsV_no hlt (by rw [hK]; simp [befJ]; omega)
                  have e1 : decide (a < a0) = true := decide_eq_true h3
                  clear hK hnext h3
                  rw [hcast]
                  go_wp2_with fail
                  go_quiet (fail)
                  go_wp2_with fail
                  go_ret
                  exact ⟨by rw [HE.out]; rfl, bdr B3 _⟩
                · have e1 : decide (a < a0) = false := decide_eq_false h3
                  by_cases h4 : a0 = a
                  · subst h4
                    have e2 : (a0 == a0) = true := beq_self_eq_true _
                    by_cases h5 : (x : Int) ≤ q0
                    · have HE : Hid (jobsV l js = false) := jobsV_no hlt (by rw [hK]; simp [befJ]; omega)
                      have e3 : decide ((x : Int) ≤ q0) = true := decide_eq_true h5
                      clear hK hnext h3
                      rw [hcast]
                      go_wp2_with fail
                      go_quiet (fail)
                      go_wp2_with fail
                      go_ret
                      exact ⟨by rw [HE.out]; rfl, bdr B3 _⟩
                    · have HN := Lib.hid (hnext (by rw [hK]; simp [befJ]; omega))
                      have e3 : decide ((x : Int) ≤ q0) = false := decide_eq_false h5
                      clear hK hnext h3
                      rw [hcast]
                      go_wp2_with fail
                      go_quiet (fail)
                      go_wp2_with fail
                      go_roundg (js.length - (m + 2))
                      case measure => omega
                      case rel => exact ⟨m + 2, by omega, by go_num, HN.out, bdr B3 _⟩
                  · have HN := Lib.hid (hnext (by rw [hK]; simp [befJ]; omega))
                    have e2 : (a0 == a) = false := beq_eq_false_iff_ne.2 h4
                    clear hK hnext h3 h4
                    rw [hcast]
                    go_wp2_with fail
                    go_quiet (fail)
                    go_wp2_with fail
                    go_roundg (js.length - (m + 2))
                    case measure => omega
                    case rel => exact ⟨m + 2, by omega, by go_num, HN.out, bdr B3 _⟩
      · obtain rfl : k = js.length := by omega
        have HE : Hid (jobsV l js = true) := jobsV_yes HS.out h60 hall.out
        go_wp2_with fail
        go_ret
        exact ⟨by rw [HE.out]; rfl, hb⟩
end

section
def sumL (f : Tk → Int) : List Tk → Int
  | [] => 0
  | t :: l => f t + sumL f l
/-- Each task of a is in b, as often. -/
def Sub (a b : List Tk) : Prop := ∀ t, a.count t ≤ b.count t
theorem Sub.refl (a : List Tk) : Sub a a := fun _ => Nat.le_refl _
theorem Sub.trans {a b c : List Tk} (h : Sub a b) (g : Sub b c) : Sub a c := fun t => Nat.le_trans (h t) (g t)
theorem Sub.sub {a b : List Tk} (h : a.Sublist b) : Sub a b := fun t => h.count_le t
theorem Sub.mem {a b : List Tk} (h : Sub a b) {t : Tk} (ht : t ∈ a) : t ∈ b := by
  have h1 := h t
  have h2 := List.count_pos_iff.2 ht
  exact List.count_pos_iff.1 (by omega)
theorem Sub.erase {a b : List Tk} {x : Tk} (h : Sub (x :: a) b) : Sub a (b.erase x) := fun t => by
  have h1 := h t
  rw [List.count_cons] at h1
  rw [List.count_erase]
  split <;> simp_all <;> omega
/-- A part of p in another order is an ordered part of it, up to the order. -/
theorem Sub.sublist {a p : List Tk} (h : Sub a p) : ∃ q : List Tk, q.Perm a ∧ q.Sublist p := by
  induction p generalizing a with
  | nil =>
    cases a with
    | nil => exact ⟨[], List.Perm.refl _, List.Sublist.refl _⟩
    | cons x a =>
      have := h.mem (t := x) (by simp)
      simp at this
  | cons x p ih =>
    by_cases hx : x ∈ a
    · have hp := List.perm_cons_erase hx
      obtain ⟨q, h1, h2⟩ := ih (a := a.erase x) (fun t => by
        have h1 := h t
        rw [hp.count_eq t, List.count_cons, List.count_cons] at h1
        omega)
      exact ⟨x :: q, (h1.cons x).trans hp.symm, h2.cons_cons x⟩
    · obtain ⟨q, h1, h2⟩ := ih (a := a) (fun t => by
        have h1 := h t
        by_cases e : t = x
        · subst e
          rw [List.count_eq_zero_of_not_mem hx]
          omega
        · rw [List.count_cons_of_ne (by simpa using fun h => e h.symm)] at h1
          exact h1)
      exact ⟨q, h1, h2.cons x⟩
theorem Sub.length {a b : List Tk} (h : Sub a b) : a.length ≤ b.length := by
  obtain ⟨q, h1, h2⟩ := h.sublist
  rw [← h1.length_eq]
  exact h2.length_le

/-! ### The least fixed point, once more -/
/-! ### A task behind others -/
def rl (hp : List Tk) (t : Tk) : Option Int := risen (fun w => t.low + sumL (fun s => demF s w false) hp) t.low t.due
def rs (hp : List Tk) (t : Tk) : Option Int :=
  match rl hp t with
  | none => none
  | some low => if t.crit then risen (fun w => t.high + sumL (fun s => swDem s low w) hp) t.high t.due else none
def hAt (hp : List Tk) (t : Tk) : Bool := if t.crit then (rs hp t).isSome else (rl hp t).isSome

/-! ### Tasks in their places -/
theorem setVld_sub {a b : List Tk} (h : Sub a b) (hb : setVld b = true) : setVld a = true := by
  obtain ⟨h1, h2⟩ := setVld_all hb
  have := h.length
  simp only [setVld, Bool.and_eq_true, decide_eq_true_eq, List.all_eq_true]
  exact ⟨by omega, fun t ht => h2 t (h.mem ht)⟩
end

section
open Go.RowKit

def ints (o : List Nat) : List Int := o.map (fun (x : Nat) => (x : Int))
theorem ints_length (o : List Nat) : (ints o).length = o.length := by simp [ints]
theorem ints_at (o : List Nat) (k : Nat) (hk : k < o.length) : (ints o)[k]? = some ((o[k] : Nat) : Int) := by simp [ints, hk]
end

section
open Go.RowKit

/-- An integer appended: the row stays in its block, or lies in the block that is made now. -/
theorem wpList_app_intL (w : World) {ops : Array Oper} {rest : List Oper} {o : Oper} {a : Act} {Q : Exit → Act → World → Prop} (hgd : o.guard = none) (s x : Operand)
    (ho : o.op = .call { callee := .builtin .append, args := #[s, x], argTypes := #[27, 27] })
    (base b0 : Nat) (l : List Int) (n c : Nat) (hn : l.length = n) (hs : a.eval s = .slice (some ⟨b0, 0, none⟩) n c) (hown : OI base w (some ⟨b0, 0, none⟩) c l)
    (b c1 : Nat) (y : Int) (ty : TypeId) (hx : a.eval x = .slice (some ⟨b, 0, none⟩) 1 c1) (hb : w.heap[b]? = some (.cells #[.int .i64 y] ty (0, 0)))
    (hl : l.length ≤ 2000000) (hbase : base ≤ w.heap.size) (H : Nat) (hH : w.heap.size = H)
    (h : ∀ g c' w', OI base w' (some ⟨g, 0, none⟩) c' (l ++ [y]) → w.grownBy w' (some b0) → (b0 = g ∨ g = H) → Below base w w' → wpList Tryz.prog ops Q rest (a.put o.dst (.slice (some ⟨g, 0, none⟩) (n + 1) c')) w') : wpList Tryz.prog ops Q (o :: rest) a w := by
  subst hn
  obtain ⟨i0, hi, hz0, hz1, hz2⟩ := info_parts infoIntB
  refine wpList_append_lies w hgd s x 27 ho base 3 i0 _ 1 8 Tryz.underlying27 hi hz0 hz1 hz2 rfl (by decide) (.slice (some ⟨b0, 0, none⟩) l.length c) l.length (l.map (.int .i64)) hs hown
    ⟨b, 0, none⟩ 1 c1 [.int .i64 y] hx rfl ?_ ?_ (by omega) (by unfold maxLen; omega) (by omega) hbase H hH ?_
  · intro j u hj
    rw [addr_add0, cell_of_row w b j _ ty (0, 0) hb, ← Array.getElem?_toList]
    exact hj
  · intro u hu
    simp at hu
    subst hu
    rfl
  · intro g c' w' hown' hg hat _
    refine h g c' w' ?_ hg (by simpa [Value.ownBlock] using hat) (own_below hown hg hbase)
    unfold OI
    rw [List.length_append, List.length_singleton, List.map_append]
    exact hown'

theorem oi_gb_cell (w : World) (b i : Nat) (v : Value) : w.grownBy (w.setCell ⟨b, i, none⟩ v) (some b) :=
  ⟨rfl, rfl, rfl, by simp [World.setCell], fun k _ hk => Below.heap_setCell _ _ _ _ (fun e => hk (by simp [e]))⟩
theorem OI_st {base : Nat} {w : World} {b c : Nat} {l : List Int} (h : OI base w (some ⟨b, 0, none⟩) c l) (i : Nat) (x : Int) :
    OI base (w.setCell ⟨b, i, none⟩ (.int .i64 x)) (some ⟨b, 0, none⟩) c (l.set i x) := by
  have h1 := World.ownsRow.stored h i (.int .i64 x)
  unfold OI
  rw [List.length_set, List.map_set]
  exact h1.1
theorem OI_get {base : Nat} {w : World} {b c : Nat} {l : List Int} (h : OI base w (some ⟨b, 0, none⟩) c l) (i : Nat) (hi : i < l.length) : w.cell? ⟨b, i, none⟩ = some (.int .i64 (l.getD i 0)) ∧ w.frozen? ⟨b, i, none⟩ = false := by
  obtain ⟨b', off, hA, _, hc⟩ := h.is (by omega)
  cases hA
  have := hc i (l.getD i 0) (by simp [hi])
  rw [Nat.zero_add] at this
  exact ⟨this, World.ownsRow.frozenAt h i⟩
theorem made0 (n : Nat) : (madeCells (Value.int .i64 0).cells (n * 1)).toList = (List.replicate n (0 : Int)).map (.int .i64) := by
  apply List.ext_getElem?
  intro j
  have e : (Value.int .i64 0).cells = #[.int .i64 0] := rfl
  rw [e, Nat.mul_one]
  by_cases h : j < n
  · simp [madeCells, h, Nat.mod_one]
  · simp [madeCells, h]
/-- make([]int, n): zeros. -/
theorem make_zero (n : Nat) (hn : n ≤ 1000000) : ∃ row : Array Value, (∀ w : World, (Instr.makeSlice 27 (.int .i64 (n : Int)) (.int .i64 (n : Int))).run Tryz.prog w = .ok (.slice (some ⟨w.heap.size, 0, none⟩) n n) (w.alloc (.cells row 3))) ∧
    ∀ w : World, OI w.heap.size (w.alloc (.cells row 3)) (some ⟨w.heap.size, 0, none⟩) n (List.replicate n 0) := by
  obtain ⟨i0, hi, hz0, hz1, hz2⟩ := info_parts infoIntB
  refine ⟨madeCells (Value.int .i64 0).cells (n * 1), fun w => ?_, fun w => ?_⟩
  · have hb : (i0.bytes : Int) * (n : Int) ≤ 281474976710656 := by
      have h : i0.bytes * n ≤ 256 * 16777216 := Nat.mul_le_mul (by omega) (by omega)
      have h2 : ((i0.bytes * n : Nat) : Int) ≤ 281474976710656 := by omega
      rwa [Int.natCast_mul] at h2
    have hr := run_make (P := Tryz.prog) w 27 3 i0 _ Tryz.underlying27 hi hz0 .i64 .i64 n n (by omega) (by omega) hb (by omega)
    simp only [Int.toNat_natCast] at hr
    rw [← hz1]
    exact hr
  · have := own_new (w := w) (t := 3) (size := 1) (n := n) (row := madeCells (Value.int .i64 0).cells (n * 1)) (by rw [size_madeCells]) (by omega)
    unfold OI
    rw [made0] at this
    rw [List.length_replicate]
    exact this
abbrev Rw := Nat × Nat × List Int
/-- The rows R, each in a block of its own. -/
structure IRows (base : Nat) (w : World) (R : List Rw) : Prop where
  own : ∀ r, r ∈ R → OI base w (some ⟨r.1, 0, none⟩) r.2.1 r.2.2
  nd : R.Pairwise (fun a b => a.1 ≠ b.1)
section
variable {base : Nat} {w w' : World} {R : List Rw}
theorem IRows.keep (h : IRows base w R) (hb : Below w.heap.size w w') : IRows base w' R := ⟨fun r hr => OI_keep (h.own r hr) hb, h.nd⟩
theorem IRows.lt (h : IRows base w R) {r : Rw} (hr : r ∈ R) : base ≤ r.1 ∧ r.1 < w.heap.size := World.ownsRow.lt (h.own r hr) r.1 rfl
theorem IRows.other (h : IRows base w R) {row : Option Nat} (hg : w.grownBy w' row) (hr : ∀ b, row = some b → ∃ cs t fz, w.heap[b]? = some (.cells cs t fz) ∧ t ≠ 3) : IRows base w' R := by
  refine ⟨fun r hr' => ?_, h.nd⟩
  refine World.ownsRow.kept (h.own r hr') hg ?_
  right
  intro e
  obtain ⟨cs, t, fz, k1, k2⟩ := hr r.1 e.symm
  rcases (h.own r hr').2 with ⟨hv, _⟩ | ⟨g, cap, cur, hv, _, hh, _⟩
  · cases hv
  · cases hv
    rw [hh] at k1
    injection k1 with k1
    injection k1 with _ kt _
    exact k2 kt.symm
theorem IRows.setX (h : IRows base w R) {b : Nat} {cs : Array Value} {t : TypeId} (hk : w.heap[b]? = some (.cells cs t (0, 0))) (ht : t ≠ 3) (i : Nat) (v : Value) : IRows base (w.setCell ⟨b, i, none⟩ v) R ∧ (w.setCell ⟨b, i, none⟩ v).heap[b]? = some (.cells (cs.setIfInBounds i v) t (0, 0)) :=
  ⟨h.other (oi_gb_cell w b i v) (fun b' hb => by cases hb; exact ⟨_, _, _, hk, ht⟩), heap_setCell_same w b i cs t v hk⟩
theorem IRows.one (h : IRows base w R) (k : Nat) {g c : Nat} {l : List Int} (hk : R[k]? = some (g, c, l)) {g' c' : Nat} {l' : List Int} (hO : OI base w' (some ⟨g', 0, none⟩) c' l') (hg : w.grownBy w' (some g)) (hgg : g = g' ∨ g' = w.heap.size) :
    IRows base w' (R.set k (g', c', l')) := by
  have hkl := (List.getElem?_eq_some_iff.1 hk).1
  have hnd := List.pairwise_iff_getElem.1 h.nd
  have hkk : R[k] = (g, c, l) := (List.getElem?_eq_some_iff.1 hk).2
  have hother : ∀ i (hi : i < R.length), i ≠ k → R[i].1 ≠ g := by
    intro i hi hne
    rcases Nat.lt_or_gt_of_ne hne with h1 | h1
    · have := hnd i k hi hkl h1
      rw [hkk] at this
      exact this
    · have := hnd k i hkl hi h1
      rw [hkk] at this
      exact fun e => this e.symm
  constructor
  · intro r hr
    rcases List.mem_iff_getElem.1 hr with ⟨i, hi, rfl⟩
    rw [List.length_set] at hi
    rw [List.getElem_set]
    split
    · exact hO
    · rename_i hne
      have hm := h.own R[i] (List.getElem_mem hi)
      refine World.ownsRow.kept hm hg (.inr ?_)
      intro e
      have : R[i].1 = g := by simpa [Value.ownBlock] using e
      exact hother i hi (fun e => hne e.symm) this
  · rw [List.pairwise_iff_getElem]
    intro i j hi0 hj0 hij
    have hi : i < R.length := by rwa [List.length_set] at hi0
    have hj : j < R.length := by rwa [List.length_set] at hj0
    rw [List.getElem_set, List.getElem_set]
    have hlt : ∀ i (hi : i < R.length), R[i].1 < w.heap.size := fun i hi => (h.lt (List.getElem_mem hi)).2
    split
    · rename_i e1
      rw [if_neg (by omega)]
      intro e
      have e : g' = R[j].1 := e
      rcases hgg with rfl | rfl
      · exact hother j hj (by omega) e.symm
      · have := hlt j hj
        omega
    · split
      · intro e
        have e : R[i].1 = g' := e
        rcases hgg with rfl | rfl
        · exact hother i hi (by omega) e
        · have := hlt i hi
          omega
      · exact hnd i j hi hj hij
theorem IRows.new (h : IRows base w R) {c : Nat} {l : List Int} (hO : OI base w' (some ⟨w.heap.size, 0, none⟩) c l) (hb : Below w.heap.size w w') : IRows base w' (R ++ [(w.heap.size, c, l)]) := by
  constructor
  · intro r hr
    rw [List.mem_append, List.mem_singleton] at hr
    rcases hr with hr | rfl
    · exact OI_keep (h.own r hr) hb
    · exact hO
  · rw [List.pairwise_append]
    refine ⟨h.nd, by simp, ?_⟩
    intro a ha b hb'
    rw [List.mem_singleton] at hb'
    subst hb'
    have := (h.lt ha).2
    show a.1 ≠ w.heap.size
    omega
theorem IRows.sub (h : IRows base w R) {R' : List Rw} (hs : R'.Sublist R) : IRows base w R' := ⟨fun r hr => h.own r (hs.mem hr), h.nd.sublist hs⟩
theorem IRows.nil (base : Nat) (w : World) : IRows base w [] := ⟨fun r hr => (by cases hr), List.Pairwise.nil⟩
theorem IRows.store (h : IRows base w R) (k : Nat) {g c : Nat} {l : List Int} (hk : R[k]? = some (g, c, l)) (i : Nat) (x : Int) : IRows base (w.setCell ⟨g, i, none⟩ (.int .i64 x)) (R.set k (g, c, l.set i x)) :=
  h.one k hk (OI_st (h.own _ (List.mem_of_getElem? hk)) i x) (oi_gb_cell w g i _) (.inl rfl)
theorem IRows.at (h : IRows base w R) (k : Nat) {g c : Nat} {l : List Int} (hk : R[k]? = some (g, c, l)) : OI base w (some ⟨g, 0, none⟩) c l := h.own _ (List.mem_of_getElem? hk)
end
end

section
open Go.RowKit

def jA (js : List Jb) (i : Nat) : Int := (jobAt js i).at_
def jK (js : List Jb) (i : Nat) : Nat := (jobAt js i).task.toNat
def jN (js : List Jb) (i : Nat) : Int := (jobAt js i).need
/-- Jobs of tasks, those of one task far enough apart. -/
structure Apart (l : List Tk) (js : List Jb) : Prop where
  at0 : ∀ i, i < js.length → 0 ≤ jA js i
  tk : ∀ i, i < js.length → jK js i < l.length
  need : ∀ i, i < js.length → 1 ≤ jN js i ∧ jN js i ≤ (tkAt l (jK js i)).high
  far : ∀ i j, i < j → j < js.length → jK js i = jK js j → jA js i + (tkAt l (jK js i)).every ≤ jA js j
/-- A run: what is left at a time (lv), what is there at a tick (cm), the mode that a tick left (hi) and that of a tick (md), what runs, how much is done of each job. -/
structure Sch (l : List Tk) (js : List Jb) (key : Bool → Nat → Int) (lv cm : Nat → Nat → Prop) (hi md : Nat → Bool) (run : Nat → Option Nat) (dn : Nat → Nat → Int) : Prop where
  lv0 : ∀ i, ¬ lv 0 i
  cmIff : ∀ t i, cm t i ↔ lv t i ∨ (i < js.length ∧ jA js i = (t : Int) ∧ (md t = true → (tkAt l (jK js i)).crit = true))
  mdE : ∀ t i, lv t i → md t = hi t
  md0 : ∀ t, (∀ i, ¬ lv t i) → md t = false
  lvCm : ∀ t i, lv (t + 1) i → cm t i
  lvLt : ∀ t i, lv t i → i < js.length ∧ jA js i < (t : Int)
  runs : ∀ t i, cm t i → ∃ r, run t = some r ∧ key (md t) r ≤ key (md t) i
  runCm : ∀ t r, run t = some r → cm t r
  dnS : ∀ t i, dn (t + 1) i = dn t i + (if run t = some i then 1 else 0)
  dn0 : ∀ (t i : Nat), i < js.length → (t : Int) ≤ jA js i → dn t i = 0
  dnLv : ∀ t i, lv t i → dn t i < jN js i
  dnLe : ∀ t i, i < js.length → dn t i ≤ jN js i
  loLv : ∀ t i, hi t = false → lv t i → (tkAt l (jK js i)).crit = true → dn t i < (tkAt l (jK js i)).low
  hiCr : ∀ t i, hi t = true → lv t i → (tkAt l (jK js i)).crit = true
  hiUp : ∀ t, md t = true → hi (t + 1) = true

section
variable {l : List Tk} {js : List Jb} {key : Bool → Nat → Int} {lv cm : Nat → Nat → Prop} {hi md : Nat → Bool} {run : Nat → Option Nat} {dn : Nat → Nat → Int}

theorem Sch.lvOf (S : Sch l js key lv cm hi md run dn) {t i : Nat} (h : cm t i) (ha : jA js i < (t : Int)) : lv t i := by
  rcases (S.cmIff t i).1 h with h | ⟨h1, h2, _⟩
  · exact h
  · omega
theorem Sch.back (S : Sch l js key lv cm hi md run dn) {s i : Nat} (ha : jA js i < (s : Int)) : ∀ k, cm (s + k) i → lv s i := by
  intro k
  induction k with
  | zero => exact fun h => S.lvOf h ha
  | succ k ih => exact fun h => ih (S.lvCm _ _ (S.lvOf h (by omega)))
end
section
variable {l : List Tk} {js : List Jb} {key : Bool → Nat → Int} {lv cm : Nat → Nat → Prop} {hi md : Nat → Bool} {run : Nat → Option Nat} {dn : Nat → Nat → Int}
end
section
variable {l : List Tk} {js : List Jb} {lv cm : Nat → Nat → Prop} {hi md : Nat → Bool} {run : Nat → Option Nat} {dn : Nat → Nat → Int}
end
end

section
open Go.RowKit
end
end Go.Proofs.YtmkjmancmiphfaaGreatDoor
