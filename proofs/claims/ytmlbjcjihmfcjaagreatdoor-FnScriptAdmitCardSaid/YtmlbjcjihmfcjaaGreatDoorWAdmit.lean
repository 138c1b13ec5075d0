/-
  What the word 'admit' does at the desk. (Printed by gen_s3.py.)
-/
import Derived.Test.YtmlbjcjihmfcjaaGreatDoorWords
import Derived.Test.YtmlbjcjihmfcjaaGreatDoorAdmS
import Derived.Test.YtmlbjcjihmfcjaaGreatDoorStep
import Derived.Test.YtmlbjcjihmfcjaaGreatDoorWayT
import Derived.OrdersHeld
import Derived.Lib.Join
import Derived.Laws.Concat
import Derived.Test.YtmlbjcjihmfcjaaGreatDoorLawKit
namespace Go.Proofs.YtmlbjcjihmfcjaaGreatDoor
open Go.RowKit

/-! AdmitTask: the program's. (Printed by gen_adm.py.) -/

set_option maxHeartbeats 4000000 in
set_option maxRecDepth 100000 in
theorem impl_AdmitTask (A : Option Addr) (l : List Tk) (t : Tk) (c : Nat) (p : Int) (w : World) (h : TS w A l) (hl : l.length ≤ 1100000) (hlc : l.length ≤ c) :
    Calls Tryz.prog 66 #[.slice A l.length c, t.val, .int .i64 p] w (RetTB w (admL l t p) (admitT l t p).isSome) := by
  have hlm : l.length ≤ maxLen := by unfold maxLen; omega
  have hallm : (l ++ [t]).length ≤ maxLen := by unfold maxLen; simp; omega
  have hall : Hid ((l ++ [t]).length = l.length + 1) := by simp [Hid]
  go_enter Tryz.func66, Tryz.ntmps66
  go_upto_region 1 with fail
  have B0 := bal (Below.refl w.heap.size w) (.cells #[.int .i64 t.low, .int .i64 t.high, .int .i64 t.due, .int .i64 t.every, .bool t.crit] 73 (0, 0))
  have hN0 := heap_alloc_new w (.cells #[.int .i64 t.low, .int .i64 t.high, .int .i64 t.due, .int .i64 t.every, .bool t.crit] 73 (0, 0))
  have hz0 : w.heap.size < (w.alloc (.cells #[.int .i64 t.low, .int .i64 t.high, .int .i64 t.due, .int .i64 t.every, .bool t.crit] 73 (0, 0))).heap.size := by simp
  generalize hw0 : World.alloc w _ = w0 at B0 hN0 hz0 ⊢
  generalize hn4 : w.heap.size = n4 at hN0 hz0 ⊢
  have hwn : w.heap.size ≤ n4 := by omega
  have hS := h.keep (B0.mono (by omega))
  have hbx : n4 < w0.heap.size := hz0
  obtain ⟨t0, t1, t2, t3, t4, _⟩ := blk_five hN0
  have hne : Hid (w.heap.size = n4) := hn4
  clear hw0 hn4
  have hz : w0.heap.size ≠ w0.heap.size + 1 := by omega
  go_cut [8] from 11 to 16 (fun v wc => ∃ A2 c2, v = .slice A2 (l.length + 1) c2 ∧ OT w0.heap.size wc A2 c2 (l ++ [t]) ∧ Below w0.heap.size w0 wc)
  case first =>
    go_region_law (first
      | (refine step_call rfl 107 Tryz.func107 (by kernel_rfl) rfl _ _ rfl #[.slice A l.length c] (by simp [Act.eval]) (slices_CloneT A l c ((World.drew w0).alloc _) (hS.keep (bal (Below.drew (Below.refl _ _)) _)) (by omega)) ?_; rintro e w1 ⟨A1, c1, rfl, o1', b1⟩; refine ⟨_, rfl, ?_⟩; have o1 : OT w0.heap.size w1 A1 c1 l := own_base o1' (by simp); clear o1'; have HN := Lib.hid ((b1.block w0.heap.size (by simp)).trans (heap_new_at (World.drew w0) _ w0.heap.size rfl)); have B1 : Below w0.heap.size w0 w1 := bthru (bal (Below.drew (Below.refl _ _)) _) b1)
      | (refine step_call rfl 107 Tryz.func107 (by kernel_rfl) rfl _ _ rfl #[.slice A l.length c] (by simp [Act.eval, Act.put]) (slices_CloneT A l c (World.drew w0) (hS.keep (Below.drew (Below.refl _ _))) (by omega)) ?_; rintro e w1 ⟨A1, c1, rfl, o1', b1⟩; refine ⟨_, rfl, ?_⟩; have o1 : OT w0.heap.size w1 A1 c1 l := own_base o1' (by simp); clear o1'; have B1 : Below w0.heap.size w0 w1 := bthru (Below.drew (Below.refl _ _)) b1; obtain ⟨k0, k1, k2, k3, k4, _⟩ := blk_five ((B1.block n4 hbx).trans hN0))
      | (have hsrc := HN.out; refine step_app_tasks rfl (.tmp 12) (.tmp 14) rfl w0.heap.size A1 l l.length c1 rfl (by simp [Act.eval]) o1 ⟨_, 0, none⟩ 1 1 [t] rfl (by simp [Act.eval]) (TS_blk hsrc rfl) (by omega) (by simp) B1.size ?_; intro A2 c2 w2 o2 g2 b2; clear hsrc; have B2 : Below w0.heap.size w0 w2 := B1.trans b2)
      | (refine step_app_tasks rfl (.tmp 12) (.tmp 14) rfl w0.heap.size A1 l l.length c1 rfl (by simp [Act.eval]) (OT_alloc o1 _) ⟨w1.heap.size, 0, none⟩ 1 1 [t] rfl (by simp [Act.eval]) (TS_blk (heap_alloc_new w1 _) rfl) (by omega) (by simp) (by have := B1.size; simp; omega) ?_; intro A2 c2 w2 o2 g2 b2; have B2 : Below w0.heap.size w0 w2 := (bal B1 _).trans b2))
    all_goals go_wp2_with fail
    all_goals go_meet
    all_goals exact ⟨A2, c2, rfl, o2, B2⟩
  case rest =>
    obtain ⟨A2, c2, rfl, o2, B2⟩ := hcut
    clear hN0 t0 t1 t2 t3 t4 hbx hz hz0
    have hwn0 : w.heap.size ≤ w0.heap.size := B0.size
    have o2' : OT w.heap.size wc A2 c2 (l ++ [t]) := own_base o2 hwn0
    have Bw : Below w.heap.size w wc := B0.trans (B2.mono hwn0)
    have hS2 := h.keep Bw
    clear o2 B2 B0 hS hwn hne
    have hadm := admitT_def l t p
    generalize l ++ [t] = all at hallm hall o2' hadm
    have Hadm := Lib.hid hadm
    clear hadm
    have s2 := own_size o2'
    obtain ⟨s21, _⟩ := s2
    rw [hall.out] at s21
    cases hB : hldBy l p with
    | false =>
      have hn : admitT l t p = none := by rw [Hadm.out]; simp [hB]
      have Hn := Lib.hid (admL_none hn)
      clear hn
      go_wp2_with fail
      refine (impl_HoldsBy A l c p _ hS2 hlm hlc).mono ?_
      rw [hB]
      rintro e w3 ⟨rfl, b3⟩
      go_wp2_with fail
      go_ret2
      rw [Hn.out.1, Hn.out.2]
      exact ⟨none, 0, rfl, OT_nil _ _, (bthru Bw b3)⟩
    | true =>
      have HB := Lib.hid hB
      clear hB
      cases hV : setVld all with
      | false =>
        have hn : admitT l t p = none := by rw [Hadm.out]; simp [hV]
        have Hn := Lib.hid (admL_none hn)
        clear hn
        go_wp2_with fail
        refine (impl_HoldsBy A l c p _ hS2 hlm hlc).mono ?_
        rw [HB.out]
        rintro e w3 ⟨rfl, b3⟩
        have B3 := bthru Bw b3
        have o3 := OT_keep o2' b3
        have K := impl_SetValid A2 all c2 w3 o3.ts
        rw [hall.out, hV] at K
        go_wp2_with fail
        refine K.mono ?_
        rintro e w4 ⟨rfl, b4⟩
        go_wp2_with fail
        go_ret2
        rw [Hn.out.1, Hn.out.2]
        exact ⟨none, 0, rfl, OT_nil _ _, (bthru B3 b4)⟩
      | true =>
        have HV := Lib.hid hV
        clear hV
        have hl5 : all.length ≤ 5 := (setVld_all HV.out).1
        by_cases hp : p = 1
        · subst hp
          cases hW : hldVirt all with
          | false =>
            have hn : admitT l t 1 = none := by rw [Hadm.out]; simp [hW]
            have Hn := Lib.hid (admL_none hn)
            clear hn
            go_wp2_with fail
            refine (impl_HoldsBy A l c 1 _ hS2 hlm hlc).mono ?_
            rw [HB.out]
            rintro e w3 ⟨rfl, b3⟩
            have B3 := bthru Bw b3
            have o3 := OT_keep o2' b3
            have K := impl_SetValid A2 all c2 w3 o3.ts
            rw [hall.out, HV.out] at K
            go_wp2_with fail
            refine K.mono ?_
            clear K
            rintro e w4 ⟨rfl, b4⟩
            have B4 := bthru B3 b4
            have o4 := OT_keep o3 b4
            have K := impl_HoldsVirtual A2 all c2 w4 o4.ts hallm
            rw [hall.out, hW] at K
            go_wp2_with fail
            refine K.mono ?_
            rintro e w5 ⟨rfl, b5⟩
            go_wp2_with fail
            go_ret2
            rw [Hn.out.1, Hn.out.2]
            exact ⟨none, 0, rfl, OT_nil _ _, (bthru B4 b5)⟩
          | true =>
            have hn : admitT l t 1 = some all := by rw [Hadm.out]; simp [hW, HB.out, HV.out]
            have Hn := Lib.hid (admL_some hn)
            clear hn
            go_wp2_with fail
            refine (impl_HoldsBy A l c 1 _ hS2 hlm hlc).mono ?_
            rw [HB.out]
            rintro e w3 ⟨rfl, b3⟩
            have B3 := bthru Bw b3
            have o3 := OT_keep o2' b3
            have K := impl_SetValid A2 all c2 w3 o3.ts
            rw [hall.out, HV.out] at K
            go_wp2_with fail
            refine K.mono ?_
            clear K
            rintro e w4 ⟨rfl, b4⟩
            have B4 := bthru B3 b4
            have o4 := OT_keep o3 b4
            have K := impl_HoldsVirtual A2 all c2 w4 o4.ts hallm
            rw [hall.out, hW] at K
            go_wp2_with fail
            refine K.mono ?_
            rintro e w5 ⟨rfl, b5⟩
            go_wp2_with fail
            go_ret2
            rw [Hn.out.1, Hn.out.2]
            exact ⟨A2, c2, by rw [hall.out]; rfl, OT_keep o4 b5, bthru B4 b5⟩
        · have hp1 : (p == 1) = false := beq_eq_false_iff_ne.2 hp
          obtain ⟨R, hR⟩ : ∃ R, assign all = R := ⟨_, rfl⟩
          cases R with
          | none =>
            have hn : admitT l t p = none := by rw [Hadm.out]; simp [hp, hR]
            have Hn := Lib.hid (admL_none hn)
            clear hn
            have hg : asgL all = [] ∧ (assign all).isSome = false := by simp [asgL, hR]
            have HG := Lib.hid hg
            clear hR hp hg
            go_wp2_with fail
            refine (impl_HoldsBy A l c p _ hS2 hlm hlc).mono ?_
            rw [HB.out]
            rintro e w3 ⟨rfl, b3⟩
            have B3 := bthru Bw b3
            have o3 := OT_keep o2' b3
            have K := impl_SetValid A2 all c2 w3 o3.ts
            rw [hall.out, HV.out] at K
            go_wp2_with fail
            refine K.mono ?_
            clear K
            rintro e w4 ⟨rfl, b4⟩
            have B4 := bthru B3 b4
            have o4 := OT_keep o3 b4
            have K := impl_AssignOrder A2 all c2 w4 o4.ts
            rw [hall.out, HG.out.1, HG.out.2] at K
            go_wp2_with fail
            refine K.mono ?_
            rintro e w5 ⟨A5, c5, rfl, o5, b5⟩
            go_wp2_with fail
            go_ret2
            rw [Hn.out.1, Hn.out.2]
            exact ⟨none, 0, rfl, OT_nil _ _, (bthru B4 b5)⟩
          | some o =>
            have hn : admitT l t p = some (pick all o) := by rw [Hadm.out]; simp [hp, hR, HB.out, HV.out]
            have Hn := Lib.hid (admL_some hn)
            clear hn
            have hg : asgL all = ints o ∧ (assign all).isSome = true := by simp [asgL, hR]
            obtain ⟨g1, g2, g3⟩ := assign_good hR
            have hol : Hid (o.length = l.length + 1) := by rw [Hid, g2.length_eq, List.length_range]; exact hall.out
            have hpl : Hid ((pick all o).length = l.length + 1) := by rw [Hid, pick_length]; exact hol.out
            have hx : ∀ x ∈ o, x < all.length := fun x hx => List.mem_range.1 (g2.mem_iff.1 hx)
            have HX := Lib.hid hx
            have HG := Lib.hid hg
            have HP := Lib.hid g2
            clear hR hp hg g1 g2 g3 hx
            go_wp2_with fail
            refine (impl_HoldsBy A l c p _ hS2 hlm hlc).mono ?_
            rw [HB.out]
            rintro e w3 ⟨rfl, b3⟩
            have B3 := bthru Bw b3
            have o3 := OT_keep o2' b3
            have K := impl_SetValid A2 all c2 w3 o3.ts
            rw [hall.out, HV.out] at K
            go_wp2_with fail
            refine K.mono ?_
            clear K
            rintro e w4 ⟨rfl, b4⟩
            have B4 := bthru B3 b4
            have o4 := OT_keep o3 b4
            have K := impl_AssignOrder A2 all c2 w4 o4.ts
            rw [hall.out, HG.out.1, HG.out.2] at K
            go_wp2_with fail
            refine K.mono ?_
            clear K
            rintro e w5 ⟨A5, c5, he, o5, b5⟩
            rw [ints_length, hol.out] at he
            subst he
            have B5 := bthru B4 b5
            have K := impl_PutOrder_yes A2 A5 all o c2 c5 w5 ((OT_keep o4 b5).ts) o5.is HX.out (by omega) (by rw [hol.out, ← hall.out]; omega) HV.out HP.out
            rw [hall.out, hol.out] at K
            go_wp2_with fail
            refine K.mono ?_
            rintro e w6 ⟨A6, c6, rfl, o6, b6⟩
            have o6' : OT w.heap.size w6 A6 c6 (pick all o) := own_base o6 B5.size
            go_wp2_with fail
            go_ret2
            rw [Hn.out.1, Hn.out.2]
            exact ⟨A6, c6, rfl, o6', bthru B5 b6⟩

/-! What the laws on admission and packing lean on, in plain Lean. -/

theorem admL_le {l : List Tk} {t : Tk} {p : Int} (h : l.length ≤ 5) : (admL l t p).length ≤ 6 := by
  cases e : admitT l t p with
  | none => rw [(admL_none e).1]; simp
  | some x =>
    rw [(admL_some e).1]
    have := (admitT_some e).2.2.1.length_eq
    simp at this
    omega
theorem admitT_two (l : List Tk) (t : Tk) : admitT l t 2 = none := by
  simp [admitT, hldBy]
theorem admAll_both (ts : List Tk) (p : Int) : (admAll ts p).1.length ≤ ts.length ∧ (admAll ts p).2.length ≤ ts.length := by
  unfold admAll
  split
  · rename_i hk
    have hp : p = 0 ∨ p = 1 := by
      simp only [admOk, Bool.and_eq_true, polB, Bool.or_eq_true, beq_iff_eq] at hk
      exact hk.2
    have := (admGo_good (p := p) (ts := ts) (i := 0) (out := []) (ref := []) (hldBy_nil hp) rfl rfl).2.2
    omega
  · simp
theorem canB_cons {m x : Int} {ws : List Int} (h : canB m (x :: ws) = true) : x ≤ m + 1 ∧ canB (if x > m then x else m) ws = true := by
  simpa only [canB, Bool.and_eq_true, decide_eq_true_eq] using h
theorem canB_drop {m : Int} {ws : List Int} {k : Nat} (hk : k < ws.length) (h : canB m (ws.drop k) = true) : ws[k] ≤ m + 1 ∧ canB (if ws[k] > m then ws[k] else m) (ws.drop (k + 1)) = true := by
  rw [List.drop_eq_getElem_cons hk] at h
  exact canB_cons h
/-- The first number is 0, and the others go on from it. -/
theorem canB_zero {ws : List Int} (h : canB (-1) ws = true) (h0 : ∀ x ∈ ws, 0 ≤ x) (hl : 0 < ws.length) : ws[0]? = some 0 ∧ canB 0 ws = true := by
  cases ws with
  | nil => simp at hl
  | cons x r =>
    obtain ⟨h1, h2⟩ := canB_cons h
    have h3 := h0 x (by simp)
    obtain rfl : x = 0 := by omega
    refine ⟨rfl, ?_⟩
    simp only [canB, Bool.and_eq_true, decide_eq_true_eq]
    exact ⟨by omega, h2⟩
theorem ordB_drop {b a : Int} {ws : List Int} {k : Nat} (hk : k < ws.length) (h : ordB b a (ws.drop k) = true) : a ≤ ws[k] ∧ ws[k] < b ∧ ordB b (ws[k] + 1) (ws.drop (k + 1)) = true := by
  rw [List.drop_eq_getElem_cons hk] at h
  simp only [ordB, Bool.and_eq_true, decide_eq_true_eq] at h
  exact ⟨h.1.1, h.1.2, h.2⟩
theorem pkH_ints {l : List Tk} {ws : List Int} {m p : Int} (h : pkH l ws m p = true) : ws.length = l.length ∧ ∀ x ∈ ws, 0 ≤ x ∧ x < m := by
  obtain ⟨_, _, _, a, b⟩ := (packVld_iff _ _ _).1 ((pkH_iff _ _ _ _).1 h).1
  exact ⟨a, b⟩

/-! A region that draws its order, walked by hand under a condition on the world that every operation keeps: operations that yield a known value are taken first; a call that alone is ready is made by its contract. -/

theorem takeHL {P : Program} {md : Region.Mode} {ops : Array Oper} {Q : Exit → Act → World → Prop} {S : World → Prop} {i : Nat} (d : Tmp) (v : Value) {L : List Value} {df : List Deferred} {oi : Oper} {fuel : Nat} {listed : Array Bool} {w : World}
    (hi : ops[i]? = some oi) (hd : oi.dst = some d) (hs : Region.noSelect ops = true) (hf : Region.free md ops listed i = true) (hr : (Region.ready md ops listed).contains i = true)
    (hQ : ∀ c (a : Act) w, Q (.panic c) (a.put (some d) v) w → Q (.panic c) a w) (hy : YieldsIf P ops S oi v ⟨L.toArray, df⟩) (hS : S w)
    (h : wpAnyH P md ops Q S fuel (listed.setIfInBounds i true) ⟨(L.set d v).toArray, df⟩ w) : wpAnyH P md ops Q S (fuel + 1) listed ⟨L.toArray, df⟩ w := by
  refine wpAnyH_take hi hs hf hr (by rw [hd]; exact hQ) hy hS ?_
  rw [hd]
  simpa [Act.put] using h
theorem callHL {P : Program} {md : Region.Mode} {ops : Array Oper} {Q : Exit → Act → World → Prop} {S : World → Prop} (i : Nat) (d : Tmp) {L : List Value} {df : List Deferred} {o : Oper} {fuel : Nat} {listed : Array Bool} {w : World}
    (hi : ops[i]? = some o) (hd : o.dst = some d) (hr : Region.ready md ops listed = [i]) (hw : Region.wanted o (yielded ops L.toArray) = true) (n : Nat) {fn : Func} {c : Code} (hf : P.funcs[n]? = some fn) (hname : (fn.name == "runtime.NumGoroutine") = false) (hb : fn.body = some c)
    (xs : Array Operand) (ts : Array TypeId) (hop : o.op = Op.call { callee := Callee.value (Operand.func n), args := xs, argTypes := ts })
    (vals : Array Value) (hv : xs.map (Act.eval ⟨L.toArray, df⟩) = vals) {R : Ending → World → Prop} (h : Calls P n vals w R)
    (hK : ∀ e w', R e w' → ∃ v, e = .returned v ∧ S w' ∧ wpAnyH P md ops Q S fuel (listed.setIfInBounds i true) ⟨(L.set d v).toArray, df⟩ w') : wpAnyH P md ops Q S (fuel + 1) listed ⟨L.toArray, df⟩ w := by
  refine wpAnyH_all hr (by simp) ?_
  intro j hj
  rw [List.mem_singleton] at hj
  subst hj
  unfold wpOp
  simp only [hi]
  rw [if_pos hw]
  refine .inl ?_
  have hcall : ∀ args, (callFunc n args).run P w = .ok (.enter n args) w := by
    intro args
    have h1 : ¬ (fn.name = "runtime.NumGoroutine") := by simpa using hname
    simp [callFunc, hf, h1, hb]
  have hrun : (execOp (Act.eval ⟨L.toArray, df⟩) o).run P w = .ok (.enter n vals) w := by
    unfold execOp
    rw [hop]
    simp [resolve, invoke, Deferred.ofValue, Act.eval, ← hv, hcall]
  unfold Oper.wp
  rw [hrun, Oper.upon_enter]
  refine h.mono ?_
  intro e w' r
  obtain ⟨v, rfl, s, k⟩ := hK e w' r
  refine ⟨s, ?_⟩
  rw [hd]
  simpa [Act.put] using k
theorem run_add_l {P : Program} {w : World} (t : TypeId) (x y : List UInt8) (h : x.length + y.length ≤ 1000000) : (binOp .add t (.string ⟨x.toArray⟩) (.string ⟨y.toArray⟩)).run P w = .ok (.string ⟨(x ++ y).toArray⟩) w := by
  rw [binOp_string_add]
  have e : (ByteArray.mk x.toArray) ++ (ByteArray.mk y.toArray) = ByteArray.mk (x ++ y).toArray := ByteArray.mk_append_mk x y
  rw [← e]
  refine run_string_add_sum _ _ _ ?_
  rw [Lib.size_eq, Lib.size_eq]
  show x.length + y.length ≤ _
  omega

/-! dmInts: two lists of numbers are equal.
  dmTasks, dmInts: two lists are equal. -/

theorem laws_dmInts (A B : Option Addr) (l m : List Int) (c d : Nat) (w : World) (h : IS w A l) (g : IS w B m) (hl : l.length ≤ 9223372036854775807) :
    Calls Tryz.prog 57 #[.slice A l.length c, .slice B m.length d] w fun e w' => e = .returned (.bool (decide (l = m))) ∧ Below w.heap.size w w' := by
  by_cases hlen : l.length = m.length
  · have hne : ((l.length : Int) != m.length) = false := by simp [hlen]
    go_enter Tryz.func57, Tryz.ntmps57
    have hlen' := Lib.hid hlen
    clear hlen
    go_wp2
    go_loopw [5] (fun i wr => ∃ k : Nat, k ≤ l.length ∧ i = .int .i64 k ∧ Hid (l.take k = m.take k) ∧ Below w.heap.size w wr) (fun i _ => l.length - (intOf i).toNat)
    case atStart => exact ⟨0, Nat.zero_le _, rfl, by simp [Hid], Below.refl _ _⟩
    case round =>
      obtain ⟨k, hk, rfl, hall, hb⟩ := hrel
      by_cases hlt : k < l.length
      · have hltm : k < m.length := by rw [← hlen'.out]; exact hlt
        obtain ⟨b, off, rfl, hbl, hc⟩ := h.keep hb (by omega)
        obtain ⟨b', off', rfl, hbl', hc'⟩ := g.keep hb (by omega)
        have c0 := hc k _ (List.getElem?_eq_getElem hlt)
        have d0 := hc' k _ (List.getElem?_eq_getElem hltm)
        clear hc hc'
        go_wp2
        go_quiet (fail)
        all_goals go_wp2
        all_goals first
          | (have hv : (l[k] != m[k]) = true := by assumption
             go_ret
             refine ⟨?_, bdr hb _⟩
             have : l ≠ m := fun e => by subst e; simp at hv
             simp [this])
          | (have hv : (l[k] != m[k]) = false := by assumption
             go_roundw
             case rel => exact ⟨k + 1, by omega, by go_num, take_eq_succ l m k hlt hltm hall.out (by simpa using hv), bdr hb _⟩
             case measure => simp [intOf]; omega)
      · go_wp2
        go_ret
        have : k = l.length := by omega
        subst this
        refine ⟨?_, hb⟩
        have e := hall.out
        rw [List.take_length, hlen'.out, List.take_length] at e
        simp [e]
  · have hne : ((l.length : Int) != m.length) = true := by simp; omega
    go_enter Tryz.func57, Tryz.ntmps57
    go_wp2
    go_ret
    refine ⟨?_, Below.refl _ _⟩
    have : l ≠ m := fun e => hlen (by rw [e])
    simp [this]

theorem run_neq_task (s t : Tk) (w : World) : (binOp .neq 73 s.val t.val).run Tryz.prog w = .ok (.bool (!decide (s = t))) w := by
  obtain ⟨a0, a1, a2, a3, a4⟩ := s
  obtain ⟨b0, b1, b2, b3, b4⟩ := t
  by_cases h0 : a0 = b0
  · by_cases h1 : a1 = b1
    · by_cases h2 : a2 = b2
      · by_cases h3 : a3 = b3
        · by_cases h4 : a4 = b4
          all_goals (simp [go_sem, h0, h1, h2, h3, h4])
        · simp [go_sem, h0, h1, h2, h3]
      · simp [go_sem, h0, h1, h2]
    · simp [go_sem, h0, h1]
  · simp [go_sem, h0]

theorem laws_dmTasks (A B : Option Addr) (l m : List Tk) (c d : Nat) (w : World) (h : TS w A l) (g : TS w B m) (hl : l.length ≤ 2000000) :
    Calls Tryz.prog 34 #[.slice A l.length c, .slice B m.length d] w fun e w' => e = .returned (.bool (decide (l = m))) ∧ Below w.heap.size w w' := by
  by_cases hlen : l.length = m.length
  · have hne : ((l.length : Int) != m.length) = false := by simp [hlen]
    go_enter Tryz.func34, Tryz.ntmps34
    have hlen' := Lib.hid hlen
    clear hlen
    go_wp2
    go_loopw [5] (fun i wr => ∃ k : Nat, k ≤ l.length ∧ i = .int .i64 k ∧ Hid (l.take k = m.take k) ∧ Below w.heap.size w wr) (fun i _ => l.length - (intOf i).toNat)
    case atStart => exact ⟨0, Nat.zero_le _, rfl, by simp [Hid], Below.refl _ _⟩
    case round =>
      obtain ⟨k, hk, rfl, hall, hb⟩ := hrel
      by_cases hlt : k < l.length
      · have hltm : k < m.length := by rw [← hlen'.out]; exact hlt
        obtain ⟨b, off, rfl, hbl, hc⟩ := h.keep hb (by omega)
        obtain ⟨b', off', rfl, hbl', hc'⟩ := g.keep hb (by omega)
        obtain ⟨c0, c1, c2, c3, c4⟩ := task_cells hc k hlt
        obtain ⟨d0, d1, d2, d3, d4⟩ := task_cells hc' k hltm
        clear hc hc'
        have hq := fun (w : World) => run_neq_task l[k] m[k] w
        go_wp2
        go_quiet (fail)
        go_wp2
        · have hv : (!decide (l[k] = m[k])) = true := by assumption
          go_ret
          refine ⟨?_, bdr hb _⟩
          have : l ≠ m := fun e => by subst e; simp at hv
          simp [this]
        · have hv : (!decide (l[k] = m[k])) = false := by assumption
          go_roundw
          case rel => exact ⟨k + 1, by omega, by go_num, take_eq_succ l m k hlt hltm hall.out (by simpa using hv), bdr hb _⟩
          case measure => simp [intOf]; omega
      · go_wp2
        go_ret
        have : k = l.length := by omega
        subst this
        refine ⟨?_, hb⟩
        have e := hall.out
        rw [List.take_length, hlen'.out, List.take_length] at e
        simp [e]
  · have hne : ((l.length : Int) != m.length) = true := by simp; omega
    go_enter Tryz.func34, Tryz.ntmps34
    go_wp2
    go_ret
    refine ⟨?_, Below.refl _ _⟩
    have : l ≠ m := fun e => hlen (by rw [e])
    simp [this]

set_option maxHeartbeats 4000000 in
set_option maxRecDepth 100000 in
theorem text_admit (t : Tk) (hv : vld t = true) (s : St) (x : List Tk) (hx : admitT s.l t s.pol = some x) (hl : s.l.length ≤ 1000000) (ho : s.out.length ≤ 700000) : TextIs [97, 100, 109, 105, 116] (taskT t) s ⟨x, 0, [], s.pol, s.out ++ (fmtSet x ++ [10])⟩ := by
  intro B b w hM D hBw
  have D0 := D
  obtain ⟨A, c, jv, c0, c1, c2, f0, f1, f2, hO, hlc⟩ := D0.cells
  go_enter Tryz.func173, Tryz.ntmps173
  have e1 := Lib.hid (admL_some hx)
  clear hx
  go_wp2_with fail
  refine (impl_ParseTask t hv _ (hM.up hBw)).mono ?_
  rintro e w1 ⟨rfl, b1⟩
  have hT0 := heap_alloc_new w1 (.cells #[.int .i64 t.low, .int .i64 t.high, .int .i64 t.due, .int .i64 t.every, .bool t.crit] 73 (0, 0))
  have b1' := bal b1 (.cells #[.int .i64 t.low, .int .i64 t.high, .int .i64 t.due, .int .i64 t.every, .bool t.crit] 73 (0, 0))
  go_upto_region 12 with fail
  generalize World.alloc w1 _ = wa at hT0 b1' ⊢
  generalize w1.heap.size = g at hT0
  obtain ⟨t0, t1, t2, t3, t4, tf⟩ := blk_five hT0
  have D1 := D.keep b1'
  have F1 := (Frm.refl B b w).thru hBw b1'
  have C1 := D1.cells
  clear c0 c1 c2 f0 f1 f2
  obtain ⟨A3, c3, jv3, c0, c1, c2, f0, f1, f2, hO3, hlc3⟩ := C1
  clear c1 f0 f1 f2 tf
  go_region_with (first
    | (go_at_call 66; refine (impl_AdmitTask A3 s.l t c3 s.pol _ (hO3.ts.keep (bdr (Below.refl _ _) _)) (by omega) hlc3).mono ?_; rw [e1.out.1, e1.out.2]; rintro e w2 ⟨A5, c5, rfl, o5, b5⟩; replace b5 := bthru (bdr (Below.refl wa.heap.size wa) _) b5; have o5 : OT wa.heap.size w2 A5 c5 x := o5)
    | (go_at_call 213; refine (desk_setYes (D1.keep b5) A5 _ c5 (own_base o5 (Nat.le_trans hBw b1'.size)) (by omega) (Nat.le_trans hBw (F1.thru hBw b5).size)).mono ?_; rintro e w3 ⟨rfl, D2, F2⟩; replace F2 := (F1.thru hBw b5).trans F2))
  all_goals
    go_wp2_with fail
    go_ret
    exact ⟨rfl, D2, F2⟩
set_option maxHeartbeats 4000000 in
set_option maxRecDepth 100000 in
theorem text_admit_no (t : Tk) (hv : vld t = true) (s : St) (hx : admitT s.l t s.pol = none) (hl : s.l.length ≤ 1000000) (ho : s.out.length ≤ 700000) : TextIs [97, 100, 109, 105, 116] (taskT t) s { s with out := s.out ++ [110, 111, 10] } := by
  intro B b w hM D hBw
  have D0 := D
  obtain ⟨A, c, jv, c0, c1, c2, f0, f1, f2, hO, hlc⟩ := D0.cells
  go_enter Tryz.func173, Tryz.ntmps173
  have e1 := Lib.hid (admL_none hx)
  clear hx
  go_wp2_with fail
  refine (impl_ParseTask t hv _ (hM.up hBw)).mono ?_
  rintro e w1 ⟨rfl, b1⟩
  have hT0 := heap_alloc_new w1 (.cells #[.int .i64 t.low, .int .i64 t.high, .int .i64 t.due, .int .i64 t.every, .bool t.crit] 73 (0, 0))
  have b1' := bal b1 (.cells #[.int .i64 t.low, .int .i64 t.high, .int .i64 t.due, .int .i64 t.every, .bool t.crit] 73 (0, 0))
  go_upto_region 12 with fail
  generalize World.alloc w1 _ = wa at hT0 b1' ⊢
  generalize w1.heap.size = g at hT0
  obtain ⟨t0, t1, t2, t3, t4, tf⟩ := blk_five hT0
  have D1 := D.keep b1'
  have F1 := (Frm.refl B b w).thru hBw b1'
  have C1 := D1.cells
  clear c0 c1 c2 f0 f1 f2
  obtain ⟨A3, c3, jv3, c0, c1, c2, f0, f1, f2, hO3, hlc3⟩ := C1
  clear c1 f0 f1 f2 tf
  go_region_with (first
    | (go_at_call 66; refine (impl_AdmitTask A3 s.l t c3 s.pol _ (hO3.ts.keep (bdr (Below.refl _ _) _)) (by omega) hlc3).mono ?_; rw [e1.out.1, e1.out.2]; rintro e w2 ⟨A5, c5, rfl, o5, b5⟩; replace b5 := bthru (bdr (Below.refl wa.heap.size wa) _) b5)
    | (go_at_call 213; refine (desk_setNo (D1.keep b5) _ (by omega) (Nat.le_trans hBw (F1.thru hBw b5).size)).mono ?_; rintro e w3 ⟨rfl, D2, F2⟩; replace F2 := (F1.thru hBw b5).trans F2))
  all_goals
    go_wp2_with fail
    go_ret
    exact ⟨rfl, D2, F2⟩
end Go.Proofs.YtmlbjcjihmfcjaaGreatDoor
