/-
  When a job is due, and who misses: the program's.
  A region that draws, walked by hand: a call of a function value.
  RunJobs' closures: the deadline of a job, and which of two jobs goes first: the program's.
-/
import Derived.Test.YtmkjmancmiphfaaGreatDoorRa05
import Derived.Test.YtmkjmancmiphfaaGreatDoorRa06
namespace Go.Proofs.YtmkjmancmiphfaaGreatDoor
section
open Go.RowKit

set_option maxHeartbeats 2000000 in
set_option maxRecDepth 100000 in
theorem impl_DueAt (A : Option Addr) (l : List Tk) (c : Nat) (x : Nat) (a n : Int) (w : World) (h : TS w A l) (hJ : jobOfB l ⟨(x : Int), a, n⟩ = true) :
    Calls Tryz.prog 44 #[.slice A l.length c, Jb.val ⟨(x : Int), a, n⟩] w fun e w' => e = .returned (.tuple #[.int .i64 (a + (tkAt l x).due), .bool true]) ∧ Below w.heap.size w w' := by
  have hJ2 := hJ
  simp only [jobOfB, Bool.and_eq_true, decide_eq_true_eq] at hJ2
  obtain ⟨⟨⟨⟨hp, ha0⟩, ha1⟩, hn0⟩, _⟩ := hJ2
  obtain ⟨hS, hl5, hx, hqq⟩ := plc_yes hp
  clear hqq
  rw [Int.toNat_natCast] at hx
  have hev := vld_bd (tkAt_vld hS hx)
  have HJ := Lib.hid hJ
  clear hJ hp hS hn0
  obtain ⟨e1, e2, e3, e4, e5⟩ := hev
  have hT := heap_alloc_new w (.cells #[.int .i64 (x : Int), .int .i64 a, .int .i64 n] 60 (0, 0))
  have hba := bal (Below.refl w.heap.size w) (.cells #[.int .i64 (x : Int), .int .i64 a, .int .i64 n] 60 (0, 0))
  have qw : IntKind.i64.wrap (a + (tkAt l x).due) = a + (tkAt l x).due := IntWalk.i64_in _ (by omega)
  go_enter Tryz.func44, Tryz.ntmps44
  go_wp2_with fail
  refine (impl_jobOf A l c ⟨(x : Int), a, n⟩ _ (h.keep hba)).mono ?_
  rw [HJ.out]
  rintro e w1 ⟨rfl, b1⟩
  have hT1 := (b1.block _ (Array.getElem?_eq_some_iff.1 hT).1).trans hT
  have B1 := bthru hba b1
  obtain ⟨tb, toff, rfl, htr, htc⟩ := h.keep B1 (by omega)
  obtain ⟨_, _, cy1, _, _⟩ := cells_tk htc x hx
  obtain ⟨h0, h1, h2⟩ := blk3 hT1
  have hxI : (x : Int) < (l.length : Int) := by omega
  clear hT hba htc hT1
  go_wp2_with fail
  go_quiet (fail)
  go_wp2_with fail
  go_ret2
  exact ⟨rfl, bdr B1 _⟩
set_option maxHeartbeats 4000000 in
set_option maxRecDepth 100000 in
theorem impl_MissesOf (A : Option Addr) (l : List Tk) (c : Nat) (B : Option Addr) (js : List Jb) (d : Nat) (E : Option Addr) (en : List Int) (ce : Nat) (Tr : Option Addr) (T ct : Nat) (Sw : Option Addr) (ns cs : Nat) (hi : Bool) (w : World)
    (h : TS w A l) (g : JS w B js) (hE : IS w E en) (hen : en.length = js.length) (hjd : js.length ≤ d) (hjm : js.length ≤ maxLen) (_hT : T ≤ 2000000) (hV : jobsV l js = true) :
    Calls Tryz.prog 16 #[.slice A l.length c, .slice B js.length d, .agg #[.slice E js.length ce, .slice Tr T ct, .slice Sw ns cs, .bool hi]] w (RetI w (ints (lateTo l js en T js.length))) := by
  have hap := apart_of hV
  have hV2 := hV
  simp only [jobsV, Bool.and_eq_true, List.all_eq_true, List.mem_range, decide_eq_true_eq] at hV2
  obtain ⟨⟨hS, h60⟩, hall⟩ := hV2
  have hjob : ∀ i, i < js.length → jobOfB l (jobAt js i) = true := fun i hi => by
    have := hall i hi
    simp only [jobOk, Bool.and_eq_true] at this
    exact this.1.1
  have HV := Lib.hid hV
  have HJ := Lib.hid hjob
  have Hen := Lib.hid hen
  have HS := Lib.hid hS
  clear hV hall hjob hap hen hS
  have hT0 := heap_alloc_new w (.cells #[.slice E js.length ce, .slice Tr T ct, .slice Sw ns cs, .bool hi] 29 (0, 0))
  have hba := bal (Below.refl w.heap.size w) (.cells #[.slice E js.length ce, .slice Tr T ct, .slice Sw ns cs, .bool hi] 29 (0, 0))
  go_enter Tryz.func16, Tryz.ntmps16
  go_wp2_with fail
  refine (impl_JobsValid A l c B js d _ (h.keep hba) (g.keep hba) hjd hjm).mono ?_
  rw [HV.out]
  rintro e w1 ⟨rfl, b1⟩
  have hlT := (Array.getElem?_eq_some_iff.1 hT0).1
  have hT1 := (b1.block _ hlT).trans hT0
  have B1 := bthru hba b1
  have hn1 : w.heap.size < w1.heap.size := Nat.lt_of_lt_of_le hlT b1.size
  clear hT0 hba b1 hlT
  obtain ⟨r0, r1, _, _⟩ : w1.cell? ⟨w.heap.size, 0, none⟩ = some (.slice E js.length ce) ∧ w1.cell? ⟨w.heap.size, 1, none⟩ = some (.slice Tr T ct) ∧ True ∧ True := by
    refine ⟨?_, ?_, trivial, trivial⟩ <;> (rw [Lib.cell_of_heap hT1]; rfl)
  obtain ⟨nR, hnR⟩ : ∃ nR, w.heap.size = nR := ⟨_, rfl⟩
  rw [hnR] at r0 r1 hn1 ⊢
  clear hT1
  go_wp2_with fail
  go_loopg [7, 27] js.length (fun gg v i wr => ∃ (k bo c' : Nat) (xs : List Nat), gg + k = js.length ∧ i = .int .i64 (k : Int) ∧ v = .slice (some ⟨bo, 0, none⟩) xs.length c' ∧ Hid (lateTo l js en T k = xs) ∧ xs.length ≤ k ∧ OI w1.heap.size wr (some ⟨bo, 0, none⟩) c' (ints xs) ∧ Below w1.heap.size w1 wr)
  case atStart => exact ⟨0, _, 0, [], by omega, rfl, rfl, rfl, by simp, OI_blank w1 _ (Nat.le_refl _), bal (Below.refl _ _) _⟩
  case round =>
    have R0 := r0
    have R1 := r1
    clear r0 r1
    obtain ⟨k, bo, c', xs, hgk, rfl, rfl, hxs, hxl, hO, hb⟩ := hrel
    have B2 := bthru B1 hb
    by_cases hlt : k < js.length
    · obtain ⟨b, off, rfl, hbl, hc⟩ := g.keep B2 (by omega)
      obtain ⟨k0, k1, k2⟩ := job_cells hc k hlt
      have hJk := HJ.out k hlt
      have hjk := jobAt_eq js k hlt
      rw [hjk] at hJk
      have hstep : lateTo l js en T (k + 1) = xs ++ (if lateB l js en T k then [k] else []) := by rw [← hxs.out]; rfl
      have hlate : lateB l js en T k = (decide (js[k].at_ + (tkAt l js[k].task.toNat).due < en.getD k 0) || (decide (en.getD k 0 = -1) && decide (js[k].at_ + (tkAt l js[k].task.toNat).due ≤ (T : Int)))) := by
        simp only [lateB, jA, jK, hjk]
      have hek : k < en.length := by rw [Hen.out]; exact hlt
      obtain ⟨eb, eo, hEe, hel, hec⟩ := hE.keep B2 (by omega)
      have ek := hec k (en.getD k 0) (by simp [hek])
      clear hec hek hjk hc
      generalize en.getD k 0 = e at ek hlate
      generalize js[k] = J at k0 k1 k2 hJk hlate
      obtain ⟨q, a, n⟩ := J
      have hJ2 := hJk
      simp only [jobOfB, Bool.and_eq_true, decide_eq_true_eq] at hJ2
      obtain ⟨⟨⟨⟨hp, ha0⟩, ha1⟩, _⟩, _⟩ := hJ2
      obtain ⟨_, _, hx, hq⟩ := plc_yes hp
      generalize q.toNat = x at hx hq hlate
      subst hq
      have hev := vld_bd (tkAt_vld HS.out hx)
      have hlate : lateB l js en T k = (decide (a + (tkAt l x).due < e) || (decide (e = -1) && decide (a + (tkAt l x).due ≤ (T : Int)))) := hlate
      have hD0 : 0 ≤ a + (tkAt l x).due ∧ a + (tkAt l x).due ≤ 300 := by omega
      have HJk := Lib.hid hJk
      have HL := Lib.hid hlate
      have HSt := Lib.hid hstep
      have hDue := fun (w' : World) (hw : TS w' A l) => impl_DueAt A l c x a n w' hw HJk.out
      clear hJk hp hev hlate hstep
      generalize a + (tkAt l x).due = D at hDue HL hD0
      subst hEe
      have r0' := (hb.cell (p := ⟨nR, 0, none⟩) hn1).trans R0
      have r1' := (hb.cell (p := ⟨nR, 1, none⟩) hn1).trans R1
      go_wp2_with fail
      refine (hDue _ (h.keep (bal B2 _))).mono ?_
      rintro e1 w2 ⟨rfl, b2⟩
      have hbb := bthru (bal (Below.refl wr.heap.size wr) _) b2
      have hn2 : nR < wr.heap.size := Nat.lt_of_lt_of_le hn1 hb.size
      replace r0' := (hbb.cell (p := ⟨nR, 0, none⟩) hn2).trans r0'
      replace r1' := (hbb.cell (p := ⟨nR, 1, none⟩) hn2).trans r1'
      replace ek := (hbb.cell (p := ⟨eb, eo + k, none⟩) hel).trans ek
      have hO2 := OI_keep hO hbb
      have hb2 := bthru hb hbb
      clear hDue hbb b2 hO hb k0 k1 k2 R0 R1
      have hkI : (k : Int) < (js.length : Int) := by omega
      by_cases c1 : D < e
      · have d1 : decide (D < e) = true := decide_eq_true c1
        have HS1 : Hid (lateTo l js en T (k + 1) = xs ++ [k]) := by rw [Hid, HSt.out, HL.out]; simp [c1]
        go_wp2_with (at_builtin; refine wpList_app_intL _ rfl _ _ rfl w1.heap.size bo (ints xs) xs.length c' (ints_length xs) rfl (OI_alloc hO2 _) w2.heap.size 1 (k : Int) 3 rfl (heap_alloc_new w2 _) (by rw [ints_length]; omega) (by have := hb2.size; simp; omega) _ rfl ?_; intro g3 c3 w3 o3 gb3 hat3 b3)
        rw [← ints_snoc] at o3
        go_roundg (js.length - (k + 1))
        case measure => omega
        case rel => exact ⟨k + 1, g3, c3, xs ++ [k], by omega, by go_num, by rw [List.length_append]; rfl, HS1.out, by simp; omega, o3, (bal hb2 _).trans b3⟩
      · have d1 : decide (D < e) = false := decide_eq_false c1
        by_cases c2 : e = -1
        · subst c2
          have d2 : ((-1 : Int) == -1) = true := rfl
          by_cases c3' : D ≤ (T : Int)
          · have d3 : decide (D ≤ (T : Int)) = true := decide_eq_true c3'
            have HS1 : Hid (lateTo l js en T (k + 1) = xs ++ [k]) := by rw [Hid, HSt.out, HL.out]; simp [c3']
            go_wp2_with (at_builtin; refine wpList_app_intL _ rfl _ _ rfl w1.heap.size bo (ints xs) xs.length c' (ints_length xs) rfl (OI_alloc hO2 _) w2.heap.size 1 (k : Int) 3 rfl (heap_alloc_new w2 _) (by rw [ints_length]; omega) (by have := hb2.size; simp; omega) _ rfl ?_; intro g3 c3 w3 o3 gb3 hat3 b3)
            rw [← ints_snoc] at o3
            go_roundg (js.length - (k + 1))
            case measure => omega
            case rel => exact ⟨k + 1, g3, c3, xs ++ [k], by omega, by go_num, by rw [List.length_append]; rfl, HS1.out, by simp; omega, o3, (bal hb2 _).trans b3⟩
          · have d3 : decide (D ≤ (T : Int)) = false := decide_eq_false c3'
            have HS1 : Hid (lateTo l js en T (k + 1) = xs) := by rw [Hid, HSt.out, HL.out]; simp [c1, c3']
            go_wp2_with fail
            go_roundg (js.length - (k + 1))
            case measure => omega
            case rel => exact ⟨k + 1, bo, c', xs, by omega, by go_num, rfl, HS1.out, by omega, hO2, hb2⟩
        · have d2 : (e == -1) = false := beq_eq_false_iff_ne.2 c2
          have HS1 : Hid (lateTo l js en T (k + 1) = xs) := by rw [Hid, HSt.out, HL.out]; simp [c1, c2]
          go_wp2_with fail
          go_roundg (js.length - (k + 1))
          case measure => omega
          case rel => exact ⟨k + 1, bo, c', xs, by omega, by go_num, rfl, HS1.out, by omega, hO2, hb2⟩
    · obtain rfl : k = js.length := by omega
      have hxs' := hxs
      go_wp2_with fail
      go_ret
      unfold RetI
      rw [hxs.out]
      refine ⟨_, c', by rw [ints_length]; rfl, own_base hO (by omega), B2⟩
end

section
open Go.RowKit

theorem callHF {P : Program} {md : Region.Mode} {ops : Array Oper} {Q : Exit → Act → World → Prop} {S : World → Prop} (i : Nat) (d : Tmp) {L : List Value} {df : List Deferred} {o : Oper} {fuel : Nat} {listed : Array Bool} {w : World}
    (hi : ops[i]? = some o) (hd : o.dst = some d) (hr : Region.ready md ops listed = [i]) (hw : Region.wanted o (yielded ops L.toArray) = true) (n : Nat) {fn : Func} {c : Code} (hf : P.funcs[n]? = some fn) (hname : (fn.name == "runtime.NumGoroutine") = false) (hb : fn.body = some c)
    (cal : Operand) (xs : Array Operand) (ts : Array TypeId) (hop : o.op = Op.call { callee := Callee.value cal, args := xs, argTypes := ts })
    (caps : Array Value) (hcal : Act.eval ⟨L.toArray, df⟩ cal = .func (.func n) #[] caps) (all : Array Value) (hv : xs.map (Act.eval ⟨L.toArray, df⟩) ++ caps = all) {R : Ending → World → Prop} (h : Calls P n all w R)
    (hK : ∀ e w', R e w' → ∃ v, e = .returned v ∧ S w' ∧ wpAnyH P md ops Q S fuel (listed.setIfInBounds i true) ⟨(L.set d v).toArray, df⟩ w') : wpAnyH P md ops Q S (fuel + 1) listed ⟨L.toArray, df⟩ w := by
  refine wpAnyH_all hr (by simp) ?_
  intro j hj
  rw [List.mem_singleton] at hj
  subst hj
  unfold wpOp
  simp only [hi]
  rw [if_pos hw]
  refine .inl ?_
  have hcall : ∀ args, (callFunc n args).run P w = .ok (.enter n args) w := by
    intro args
    have h1 : ¬ (fn.name = "runtime.NumGoroutine") := by simpa using hname
    simp [callFunc, hf, h1, hb]
  have hrun : (execOp (Act.eval ⟨L.toArray, df⟩) o).run P w = .ok (.enter n all) w := by
    unfold execOp
    rw [hop]
    simp [resolve, invoke, Deferred.ofValue, hcal, ← hv, hcall]
  unfold Oper.wp
  rw [hrun, Oper.upon_enter]
  refine h.mono ?_
  intro e w' r
  obtain ⟨v, rfl, s, k⟩ := hK e w' r
  refine ⟨s, ?_⟩
  rw [hd]
  simpa [Act.put] using k
/-- A call, where several operations are ready. -/
theorem callOp {P : Program} {md : Region.Mode} {ops : Array Oper} {Q : Exit → Act → World → Prop} {S : World → Prop} (i : Nat) (d : Tmp) {L : List Value} {df : List Deferred} {o : Oper} {fuel : Nat} {listed : Array Bool} {w : World}
    (hi : ops[i]? = some o) (hd : o.dst = some d) (hw : Region.wanted o (yielded ops L.toArray) = true) (n : Nat) {fn : Func} {c : Code} (hf : P.funcs[n]? = some fn) (hname : (fn.name == "runtime.NumGoroutine") = false) (hb : fn.body = some c)
    (xs : Array Operand) (ts : Array TypeId) (hop : o.op = Op.call { callee := Callee.value (Operand.func n), args := xs, argTypes := ts })
    (vals : Array Value) (hv : xs.map (Act.eval ⟨L.toArray, df⟩) = vals) {R : Ending → World → Prop} (h : Calls P n vals w R)
    (hK : ∀ e w', R e w' → ∃ v, e = .returned v ∧ S w' ∧ wpAnyH P md ops Q S fuel (listed.setIfInBounds i true) ⟨(L.set d v).toArray, df⟩ w') : wpOp P ops Q i (fun a' w' => S w' ∧ wpAnyH P md ops Q S fuel (listed.setIfInBounds i true) a' w') ⟨L.toArray, df⟩ w := by
  unfold wpOp
  simp only [hi]
  rw [if_pos hw]
  refine .inl ?_
  have hcall : ∀ args, (callFunc n args).run P w = .ok (.enter n args) w := by
    intro args
    have h1 : ¬ (fn.name = "runtime.NumGoroutine") := by simpa using hname
    simp [callFunc, hf, h1, hb]
  have hrun : (execOp (Act.eval ⟨L.toArray, df⟩) o).run P w = .ok (.enter n vals) w := by
    unfold execOp
    rw [hop]
    simp [resolve, invoke, Deferred.ofValue, Act.eval, ← hv, hcall]
  unfold Oper.wp
  rw [hrun, Oper.upon_enter]
  refine h.mono ?_
  intro e w' r
  obtain ⟨v, rfl, s, k⟩ := hK e w' r
  refine ⟨s, ?_⟩
  rw [hd]
  simpa [Act.put] using k
/-- An operation that makes memory. -/
theorem makeOp {P : Program} {md : Region.Mode} {ops : Array Oper} {Q : Exit → Act → World → Prop} {S : World → Prop} (i : Nat) (d : Tmp) {L : List Value} {df : List Deferred} {o : Oper} {fuel : Nat} {listed : Array Bool} {w : World}
    (hi : ops[i]? = some o) (hw : Region.wanted o (yielded ops L.toArray) = true)
    (h : ∀ K' : Act → World → Prop, (∀ v w', S w' → wpAnyH P md ops Q S fuel (listed.setIfInBounds i true) ⟨(L.set d v).toArray, df⟩ w' → K' ((⟨L.toArray, df⟩ : Act).put (some d) v) w') → Oper.wp P o ⟨L.toArray, df⟩ w K' Q) :
    wpOp P ops Q i (fun a' w' => S w' ∧ wpAnyH P md ops Q S fuel (listed.setIfInBounds i true) a' w') ⟨L.toArray, df⟩ w := by
  unfold wpOp
  simp only [hi]
  rw [if_pos hw]
  exact .inl (h _ (fun v w' s k => ⟨s, by simpa [Act.put] using k⟩))
/-- A store. -/
theorem storeOp {P : Program} {md : Region.Mode} {ops : Array Oper} {Q : Exit → Act → World → Prop} {S : World → Prop} (i : Nat) {L : List Value} {df : List Deferred} {o : Oper} {fuel : Nat} {listed : Array Bool} {w : World}
    (hi : ops[i]? = some o) (hw : Region.wanted o (yielded ops L.toArray) = true)
    (h : ∀ K' : Act → World → Prop, (∀ w', S w' → wpAnyH P md ops Q S fuel (listed.setIfInBounds i true) ⟨L.toArray, df⟩ w' → K' ⟨L.toArray, df⟩ w') → Oper.wp P o ⟨L.toArray, df⟩ w K' Q) :
    wpOp P ops Q i (fun a' w' => S w' ∧ wpAnyH P md ops Q S fuel (listed.setIfInBounds i true) a' w') ⟨L.toArray, df⟩ w := by
  unfold wpOp
  simp only [hi]
  rw [if_pos hw]
  exact .inl (h _ (fun w' s k => ⟨s, k⟩))
end

section
open Go.RowKit

/-- What the closure 'due' reads. -/
structure DueEnv (A : Option Addr) (l : List Tk) (c : Nat) (B : Option Addr) (js : List Jb) (d : Nat) (num den : Int) (L J R X : Nat) (hi : Bool) (w : World) : Prop where
  ts : TS w A l
  jS : JS w B js
  cL : w.cell? ⟨L, 0, none⟩ = some (.slice A l.length c)
  cJ : w.cell? ⟨J, 0, none⟩ = some (.slice B js.length d)
  cR : w.cell? ⟨R, 3, none⟩ = some (.bool hi)
  cX0 : w.cell? ⟨X, 0, none⟩ = some (.int .i64 num)
  cX1 : w.cell? ⟨X, 1, none⟩ = some (.int .i64 den)
  Ll : L < w.heap.size
  Jl : J < w.heap.size
  Rl : R < w.heap.size
  Xl : X < w.heap.size
theorem DueEnv.keep {A : Option Addr} {l : List Tk} {c : Nat} {B : Option Addr} {js : List Jb} {d : Nat} {num den : Int} {L J R X : Nat} {hi : Bool} {w w' : World} (h : DueEnv A l c B js d num den L J R X hi w) (hb : Below w.heap.size w w') : DueEnv A l c B js d num den L J R X hi w' :=
  ⟨h.ts.keep hb, h.jS.keep hb, (hb.cell (p := ⟨L, 0, none⟩) h.Ll).trans h.cL, (hb.cell (p := ⟨J, 0, none⟩) h.Jl).trans h.cJ, (hb.cell (p := ⟨R, 3, none⟩) h.Rl).trans h.cR, (hb.cell (p := ⟨X, 0, none⟩) h.Xl).trans h.cX0, (hb.cell (p := ⟨X, 1, none⟩) h.Xl).trans h.cX1,
    Nat.lt_of_lt_of_le h.Ll hb.size, Nat.lt_of_lt_of_le h.Jl hb.size, Nat.lt_of_lt_of_le h.Rl hb.size, Nat.lt_of_lt_of_le h.Xl hb.size⟩
/-- What is known of the jobs and of the factor. -/
structure JobsIn (l : List Tk) (js : List Jb) (num den : Int) : Prop where
  v : setVld l = true
  job : ∀ i, i < js.length → 0 ≤ (jobAt js i).at_ ∧ (jobAt js i).at_ ≤ 200 ∧ (jobAt js i).task = (jK js i : Int) ∧ jK js i < l.length ∧ 1 ≤ (jobAt js i).need ∧ (jobAt js i).need ≤ 20
  n0 : 0 ≤ num
  n1 : num ≤ 1000000000
  d0 : 0 ≤ den
  d1 : den ≤ 1000000000
set_option maxHeartbeats 4000000 in
set_option maxRecDepth 100000 in
theorem impl_due {A : Option Addr} {l : List Tk} {c : Nat} {B : Option Addr} {js : List Jb} {d : Nat} {num den : Int} {L J R X : Nat} {hi : Bool} (V : JobsIn l js num den) (i : Nat) (hil : i < js.length) (w : World) (h : DueEnv A l c B js d num den L J R X hi w) :
    Calls Tryz.prog 29 #[.int .i64 (i : Int), .pointer (some ⟨L, 0, none⟩), .pointer (some ⟨J, 0, none⟩), .pointer (some ⟨R, 0, none⟩), .pointer (some ⟨X, 0, none⟩)] w fun e w' => e = .returned (.int .i64 (vkey l js num den hi i)) ∧ Below w.heap.size w w' := by
  obtain ⟨hTS, hJS, hL, hJ, hR, hX0, hX1, hLl, hJl, hRl, hXl⟩ := h
  obtain ⟨a0, a1, ht, hk, _, _⟩ := V.job i hil
  have hev := vld_bd (tkAt_vld V.v hk)
  obtain ⟨v1, v2, v3, v4, v5⟩ := hev
  obtain ⟨b, off, rfl, hbl, hc⟩ := hJS (by omega)
  obtain ⟨k0, k1, k2⟩ := job_cells hc i hil
  obtain ⟨tb, toff, rfl, htb, htc⟩ := hTS (by omega)
  obtain ⟨c0, c1, c2, c3, c4⟩ := cells_tk htc (jK js i) hk
  rw [← jobAt_eq js i hil] at k0 k1 k2
  rw [ht] at k0
  have hv : vkey l js num den hi i = if (tkAt l (jK js i)).crit && !hi then (jobAt js i).at_ * den + (tkAt l (jK js i)).due * num else ((jobAt js i).at_ + (tkAt l (jK js i)).due) * den := rfl
  have HV := Lib.hid hv
  have n0 := V.n0
  have n1 := V.n1
  have d0 := V.d0
  have d1 := V.d1
  clear hv hc htc ht V
  generalize jobAt js i = j at a0 a1 k0 k1 k2 HV
  generalize jK js i = x at hk v1 v2 v3 v4 v5 c0 c1 c2 c3 c4 k0 HV
  generalize tkAt l x = t at v1 v2 v3 v4 v5 c0 c1 c2 c3 c4 HV
  obtain ⟨q, a, n⟩ := j
  obtain ⟨tl, th, td, te, tc⟩ := t
  simp only at a0 a1 k1 k2 HV v1 v2 v3 v4 v5 c0 c1 c2 c3 c4
  have hxI : (x : Int) < (l.length : Int) := by omega
  have hiI : (i : Int) < (js.length : Int) := by omega
  have p1 := mul_bd a0 a1 d0 d1 (by omega)
  have p2 := mul_bd (show 0 ≤ td by omega) (show td ≤ 20 by omega) n0 n1 (by omega)
  have p3 := mul_bd (show 0 ≤ a + td by omega) (show a + td ≤ 220 by omega) d0 d1 (by omega)
  obtain ⟨p10, p11⟩ := p1
  obtain ⟨p20, p21⟩ := p2
  obtain ⟨p30, p31⟩ := p3
  cases tc with
  | true =>
    cases hi with
    | false =>
      have qw1 : IntKind.i64.wrap (a * den) = a * den := IntWalk.i64_in _ (by omega)
      have qw2 : IntKind.i64.wrap (td * num) = td * num := IntWalk.i64_in _ (by omega)
      have qw3 : IntKind.i64.wrap (a * den + td * num) = a * den + td * num := IntWalk.i64_in _ (by omega)
      have HV2 : Hid (vkey l js num den false i = a * den + td * num) := HV.out
      go_enter Tryz.func29, Tryz.ntmps29
      go_wp2_with fail
      go_region
      have hN := heap_alloc_new w (.cells #[.int .i64 tl, .int .i64 th, .int .i64 td, .int .i64 te, .bool true] 58 (0, 0))
      have hba : Below w.heap.size w (World.alloc w (.cells #[.int .i64 tl, .int .i64 th, .int .i64 td, .int .i64 te, .bool true] 58 (0, 0))).drew := Below.drew (bal (Below.refl _ _) _)
      replace k1 := (hba.cell (p := ⟨b, off + i * 3 + 1, none⟩) hbl).trans k1
      replace hJ := (hba.cell (p := ⟨J, 0, none⟩) hJl).trans hJ
      replace hR := (hba.cell (p := ⟨R, 3, none⟩) hRl).trans hR
      replace hX0 := (hba.cell (p := ⟨X, 0, none⟩) hXl).trans hX0
      replace hX1 := (hba.cell (p := ⟨X, 1, none⟩) hXl).trans hX1
      have hN2 : (World.alloc w (.cells #[.int .i64 tl, .int .i64 th, .int .i64 td, .int .i64 te, .bool true] 58 (0, 0))).drew.heap[w.heap.size]? = some (.cells #[.int .i64 tl, .int .i64 th, .int .i64 td, .int .i64 te, .bool true] 58 (0, 0)) := hN
      generalize (World.alloc w _).drew = wa at hba k1 hJ hR hX0 hX1 hN2 ⊢
      generalize w.heap.size = nT at hN2 ⊢
      obtain ⟨y0, y1, y2, y3, y4, yf⟩ := blk_five hN2
      clear hN hN2 k0 k2 c0 c1 c2 c3 c4 hL
      go_wp2_with fail
      go_quiet (fail)
      go_wp2_with fail
      go_ret
      exact ⟨by rw [HV2.out]; rfl, bdr (by assumption) _⟩
    | true =>
      have qw1 : IntKind.i64.wrap (a + td) = a + td := IntWalk.i64_in _ (by omega)
      have qw2 : IntKind.i64.wrap ((a + td) * den) = (a + td) * den := IntWalk.i64_in _ (by omega)
      have HV2 : Hid (vkey l js num den true i = (a + td) * den) := HV.out
      go_enter Tryz.func29, Tryz.ntmps29
      go_wp2_with fail
      go_region
      have hN := heap_alloc_new w (.cells #[.int .i64 tl, .int .i64 th, .int .i64 td, .int .i64 te, .bool true] 58 (0, 0))
      have hba : Below w.heap.size w (World.alloc w (.cells #[.int .i64 tl, .int .i64 th, .int .i64 td, .int .i64 te, .bool true] 58 (0, 0))).drew := Below.drew (bal (Below.refl _ _) _)
      replace k1 := (hba.cell (p := ⟨b, off + i * 3 + 1, none⟩) hbl).trans k1
      replace hJ := (hba.cell (p := ⟨J, 0, none⟩) hJl).trans hJ
      replace hR := (hba.cell (p := ⟨R, 3, none⟩) hRl).trans hR
      replace hX0 := (hba.cell (p := ⟨X, 0, none⟩) hXl).trans hX0
      replace hX1 := (hba.cell (p := ⟨X, 1, none⟩) hXl).trans hX1
      have hN2 : (World.alloc w (.cells #[.int .i64 tl, .int .i64 th, .int .i64 td, .int .i64 te, .bool true] 58 (0, 0))).drew.heap[w.heap.size]? = some (.cells #[.int .i64 tl, .int .i64 th, .int .i64 td, .int .i64 te, .bool true] 58 (0, 0)) := hN
      generalize (World.alloc w _).drew = wa at hba k1 hJ hR hX0 hX1 hN2 ⊢
      generalize w.heap.size = nT at hN2 ⊢
      obtain ⟨y0, y1, y2, y3, y4, yf⟩ := blk_five hN2
      clear hN hN2 k0 k2 c0 c1 c2 c3 c4 hL
      go_wp2_with fail
      go_quiet (fail)
      go_wp2_with fail
      go_ret
      exact ⟨by rw [HV2.out]; rfl, bdr (by assumption) _⟩
  | false =>
    have qw1 : IntKind.i64.wrap (a + td) = a + td := IntWalk.i64_in _ (by omega)
    have qw2 : IntKind.i64.wrap ((a + td) * den) = (a + td) * den := IntWalk.i64_in _ (by omega)
    have HV2 : Hid (vkey l js num den hi i = (a + td) * den) := HV.out
    go_enter Tryz.func29, Tryz.ntmps29
    go_wp2_with fail
    go_region
    have hN := heap_alloc_new w (.cells #[.int .i64 tl, .int .i64 th, .int .i64 td, .int .i64 te, .bool false] 58 (0, 0))
    have hba : Below w.heap.size w (World.alloc w (.cells #[.int .i64 tl, .int .i64 th, .int .i64 td, .int .i64 te, .bool false] 58 (0, 0))).drew := Below.drew (bal (Below.refl _ _) _)
    replace k1 := (hba.cell (p := ⟨b, off + i * 3 + 1, none⟩) hbl).trans k1
    replace hJ := (hba.cell (p := ⟨J, 0, none⟩) hJl).trans hJ
    replace hR := (hba.cell (p := ⟨R, 3, none⟩) hRl).trans hR
    replace hX0 := (hba.cell (p := ⟨X, 0, none⟩) hXl).trans hX0
    replace hX1 := (hba.cell (p := ⟨X, 1, none⟩) hXl).trans hX1
    have hN2 : (World.alloc w (.cells #[.int .i64 tl, .int .i64 th, .int .i64 td, .int .i64 te, .bool false] 58 (0, 0))).drew.heap[w.heap.size]? = some (.cells #[.int .i64 tl, .int .i64 th, .int .i64 td, .int .i64 te, .bool false] 58 (0, 0)) := hN
    generalize (World.alloc w _).drew = wa at hba k1 hJ hR hX0 hX1 hN2 ⊢
    generalize w.heap.size = nT at hN2 ⊢
    obtain ⟨y0, y1, y2, y3, y4, yf⟩ := blk_five hN2
    clear hN hN2 k0 k2 c0 c1 c2 c3 c4 hL
    go_wp2_with fail
    go_quiet (fail)
    go_wp2_with fail
    go_ret
    exact ⟨by rw [HV2.out]; rfl, bdr (by assumption) _⟩
set_option maxHeartbeats 4000000 in
set_option maxRecDepth 100000 in
theorem impl_goes {A : Option Addr} {l : List Tk} {c : Nat} {B : Option Addr} {js : List Jb} {d : Nat} {num den pol : Int} {L J R X Pp F : Nat} {hi : Bool} (V : JobsIn l js num den) (a b : Nat) (hl_a : a < js.length) (hl_b : b < js.length) (w : World) (h : DueEnv A l c B js d num den L J R X hi w)
    (hP : w.cell? ⟨Pp, 0, none⟩ = some (.int .i64 pol)) (hPl : Pp < w.heap.size) (hF : w.cell? ⟨F, 0, none⟩ = some (.func (.func 29) #[] #[.pointer (some ⟨L, 0, none⟩), .pointer (some ⟨J, 0, none⟩), .pointer (some ⟨R, 0, none⟩), .pointer (some ⟨X, 0, none⟩)])) (hFl : F < w.heap.size) (hpol : pol = 0 ∨ pol = 1) :
    Calls Tryz.prog 30 #[.int .i64 (a : Int), .int .i64 (b : Int), .pointer (some ⟨Pp, 0, none⟩), .pointer (some ⟨F, 0, none⟩), .pointer (some ⟨J, 0, none⟩)] w fun e w' => e = .returned (.bool (goesB l js num den pol hi a b)) ∧ Below w.heap.size w w' := by
  have hSof : ∀ {w' : World}, Below w.heap.size w w' → w'.cell? ⟨Pp, 0, none⟩ = some (.int .i64 pol) ∧ w'.cell? ⟨F, 0, none⟩ = some (.func (.func 29) #[] #[.pointer (some ⟨L, 0, none⟩), .pointer (some ⟨J, 0, none⟩), .pointer (some ⟨R, 0, none⟩), .pointer (some ⟨X, 0, none⟩)]) := fun hb =>
    ⟨(hb.cell (p := ⟨Pp, 0, none⟩) hPl).trans hP, (hb.cell (p := ⟨F, 0, none⟩) hFl).trans hF⟩
  rcases hpol with rfl | rfl
  · have HE : Hid (goesB l js num den 0 hi a b = goesP js a b) := by simp [Hid, goesB]
    clear hP hF
    have KK := Below.refl w.heap.size w
    have h' := h.keep KK
    have hP1 := hSof KK
    obtain ⟨hP1, hF1⟩ := hP1
    obtain ⟨hTS, hJS, hL, hJ, hR, hX0, hX1, hLl, hJl, hRl, hXl⟩ := h'
    obtain ⟨bb, off, hBe, hbl, hc⟩ := hJS (by omega)
    obtain ⟨ka0, ka1, ka2⟩ := job_cells hc a hl_a
    obtain ⟨kb0, kb1, kb2⟩ := job_cells hc b hl_b
    rw [← jobAt_eq js a hl_a] at ka0 ka1 ka2
    rw [← jobAt_eq js b hl_b] at kb0 kb1 kb2
    subst hBe
    clear hc
    have haI : (a : Int) < (js.length : Int) := by omega
    have hbI : (b : Int) < (js.length : Int) := by omega
    have HG : Hid (goesP js a b = if (jobAt js a).task = (jobAt js b).task then decide ((jobAt js a).at_ < (jobAt js b).at_) else decide ((jobAt js a).task < (jobAt js b).task)) := rfl
    generalize jobAt js a = ja at ka0 ka1 ka2 HG
    generalize jobAt js b = jb at kb0 kb1 kb2 HG
    obtain ⟨qa, aa, na⟩ := ja
    obtain ⟨qb, ab, nb⟩ := jb
    simp only at ka0 ka1 ka2 kb0 kb1 kb2 HG
    by_cases hq : qa = qb
    · subst hq
      have eq0 : (qa != qa) = false := by simp
      rw [if_pos rfl] at HG
      go_enter Tryz.func30, Tryz.ntmps30
      go_wp2_with fail
      go_quiet (fail)
      go_wp2_with fail
      go_quiet (fail)
      go_wp2_with fail
      go_quiet (fail)
      go_wp2_with fail
      go_ret
      exact ⟨by rw [HE.out, HG.out]; rfl, bdr (bdr (bdr KK _) _) _⟩
    · have eq0 : (qa != qb) = true := by simpa using hq
      rw [if_neg hq] at HG
      clear hq
      go_enter Tryz.func30, Tryz.ntmps30
      go_wp2_with fail
      go_quiet (fail)
      go_wp2_with fail
      go_quiet (fail)
      go_wp2_with fail
      go_quiet (fail)
      go_wp2_with fail
      go_ret
      exact ⟨by rw [HE.out, HG.out]; rfl, bdr (bdr (bdr KK _) _) _⟩
  · by_cases hne : vkey l js num den hi a = vkey l js num den hi b
    · have HE : Hid (goesB l js num den 1 hi a b = goesP js a b) := by simp [Hid, goesB, hne]
      go_enter Tryz.func30, Tryz.ntmps30
      go_upto_region 1 with fail
      refine wp_region_held (S := fun w' => w'.cell? ⟨Pp, 0, none⟩ = some (.int .i64 1) ∧ w'.cell? ⟨F, 0, none⟩ = some (.func (.func 29) #[] #[.pointer (some ⟨L, 0, none⟩), .pointer (some ⟨J, 0, none⟩), .pointer (some ⟨R, 0, none⟩), .pointer (some ⟨X, 0, none⟩)])) (by kernel_rfl) ?_
      change wpAnyH _ _ _ _ _ _ _ _ (World.drew _)
      have Kz : Below w.heap.size w (World.drew w) := Below.drew (Below.refl _ _)
      have hS0 := hSof Kz
      refine takeHL (i := 0) 8 (.int .i64 1) rfl rfl (by kernel_rfl) (by kernel_rfl) (by kernel_rfl) (fun _ _ _ h => h) (.inl ⟨by rfl, fun w hS => by obtain ⟨h0, h1⟩ := hS; go_simp⟩) hS0 ?_
      simp only [List.set_cons_succ, List.set_cons_zero]
      refine takeHL (i := 1) 9 (.bool true) rfl rfl (by kernel_rfl) (by kernel_rfl) (by kernel_rfl) (fun _ _ _ h => h) (.inl ⟨by rfl, fun w _ => by go_simp⟩) hS0 ?_
      simp only [List.set_cons_succ, List.set_cons_zero]
      refine takeHL (i := 2) 10 (.bool true) rfl rfl (by kernel_rfl) (by kernel_rfl) (by kernel_rfl) (fun _ _ _ h => h) (.inl ⟨by rfl, fun _ _ => rfl⟩) hS0 ?_
      simp only [List.set_cons_succ, List.set_cons_zero]
      refine takeHL (i := 3) 11 (.func (.func 29) #[] #[.pointer (some ⟨L, 0, none⟩), .pointer (some ⟨J, 0, none⟩), .pointer (some ⟨R, 0, none⟩), .pointer (some ⟨X, 0, none⟩)]) rfl rfl (by kernel_rfl) (by kernel_rfl) (by kernel_rfl) (fun _ _ _ h => h) (.inl ⟨by rfl, fun w hS => by obtain ⟨h0, h1⟩ := hS; go_simp⟩) hS0 ?_
      simp only [List.set_cons_succ, List.set_cons_zero]
      refine takeHL (i := 4) 12 (.int .i64 (a : Int)) rfl rfl (by kernel_rfl) (by kernel_rfl) (by kernel_rfl) (fun _ _ _ h => h) (.inl ⟨by rfl, fun _ _ => rfl⟩) hS0 ?_
      simp only [List.set_cons_succ, List.set_cons_zero]
      refine takeHL (i := 6) 14 (.func (.func 29) #[] #[.pointer (some ⟨L, 0, none⟩), .pointer (some ⟨J, 0, none⟩), .pointer (some ⟨R, 0, none⟩), .pointer (some ⟨X, 0, none⟩)]) rfl rfl (by kernel_rfl) (by kernel_rfl) (by kernel_rfl) (fun _ _ _ h => h) (.inl ⟨by rfl, fun w hS => by obtain ⟨h0, h1⟩ := hS; go_simp⟩) hS0 ?_
      simp only [List.set_cons_succ, List.set_cons_zero]
      refine takeHL (i := 7) 15 (.int .i64 (b : Int)) rfl rfl (by kernel_rfl) (by kernel_rfl) (by kernel_rfl) (fun _ _ _ h => h) (.inl ⟨by rfl, fun _ _ => rfl⟩) hS0 ?_
      simp only [List.set_cons_succ, List.set_cons_zero]
      refine callHF 5 13 rfl rfl (by kernel_rfl) (by rfl) 29 Tryz.func29 (by kernel_rfl) rfl _ _ _ rfl #[.pointer (some ⟨L, 0, none⟩), .pointer (some ⟨J, 0, none⟩), .pointer (some ⟨R, 0, none⟩), .pointer (some ⟨X, 0, none⟩)] (by simp [Act.eval]) #[.int .i64 (a : Int), .pointer (some ⟨L, 0, none⟩), .pointer (some ⟨J, 0, none⟩), .pointer (some ⟨R, 0, none⟩), .pointer (some ⟨X, 0, none⟩)] (by simp [Act.eval]) (impl_due V a hl_a _ (h.keep Kz)) ?_
      rintro e v1 ⟨rfl, k1⟩
      have K1 : Below w.heap.size w v1 := bthru Kz k1
      have S1 := hSof K1
      refine ⟨_, rfl, S1, ?_⟩
      simp only [List.set_cons_succ, List.set_cons_zero]
      refine callHF 8 16 rfl rfl (by kernel_rfl) (by rfl) 29 Tryz.func29 (by kernel_rfl) rfl _ _ _ rfl #[.pointer (some ⟨L, 0, none⟩), .pointer (some ⟨J, 0, none⟩), .pointer (some ⟨R, 0, none⟩), .pointer (some ⟨X, 0, none⟩)] (by simp [Act.eval]) #[.int .i64 (b : Int), .pointer (some ⟨L, 0, none⟩), .pointer (some ⟨J, 0, none⟩), .pointer (some ⟨R, 0, none⟩), .pointer (some ⟨X, 0, none⟩)] (by simp [Act.eval]) (impl_due V b hl_b _ (h.keep K1)) ?_
      rintro e v2 ⟨rfl, k2⟩
      have K2 : Below w.heap.size w v2 := bthru K1 k2
      have S2 := hSof K2
      refine ⟨_, rfl, S2, ?_⟩
      simp only [List.set_cons_succ, List.set_cons_zero]
      refine takeHL (i := 9) 17 (.bool false) rfl rfl (by kernel_rfl) (by kernel_rfl) (by kernel_rfl) (fun _ _ _ h => h) (.inl ⟨by rfl, fun w _ => by go_simp <;> simp [hne]⟩) S2 ?_
      simp only [List.set_cons_succ, List.set_cons_zero]
      refine takeHL (i := 10) 18 (.bool false) rfl rfl (by kernel_rfl) (by kernel_rfl) (by kernel_rfl) (fun _ _ _ h => h) (.inl ⟨by rfl, fun w _ => by go_simp⟩) S2 ?_
      simp only [List.set_cons_succ, List.set_cons_zero]
      refine wpAnyH_done (by kernel_rfl) ?_ _
      clear hne hS0 S1 S2
      go_upto_region 3 with fail
      have KK := K2
      have h' := h.keep KK
      have hP1 := hSof KK
      obtain ⟨hP1, hF1⟩ := hP1
      obtain ⟨hTS, hJS, hL, hJ, hR, hX0, hX1, hLl, hJl, hRl, hXl⟩ := h'
      obtain ⟨bb, off, hBe, hbl, hc⟩ := hJS (by omega)
      obtain ⟨ka0, ka1, ka2⟩ := job_cells hc a hl_a
      obtain ⟨kb0, kb1, kb2⟩ := job_cells hc b hl_b
      rw [← jobAt_eq js a hl_a] at ka0 ka1 ka2
      rw [← jobAt_eq js b hl_b] at kb0 kb1 kb2
      subst hBe
      clear hc
      have haI : (a : Int) < (js.length : Int) := by omega
      have hbI : (b : Int) < (js.length : Int) := by omega
      have HG : Hid (goesP js a b = if (jobAt js a).task = (jobAt js b).task then decide ((jobAt js a).at_ < (jobAt js b).at_) else decide ((jobAt js a).task < (jobAt js b).task)) := rfl
      generalize jobAt js a = ja at ka0 ka1 ka2 HG
      generalize jobAt js b = jb at kb0 kb1 kb2 HG
      obtain ⟨qa, aa, na⟩ := ja
      obtain ⟨qb, ab, nb⟩ := jb
      simp only at ka0 ka1 ka2 kb0 kb1 kb2 HG
      by_cases hq : qa = qb
      · subst hq
        have eq0 : (qa != qa) = false := by simp
        rw [if_pos rfl] at HG
        go_quiet (fail)
        go_wp2_with fail
        go_quiet (fail)
        go_wp2_with fail
        go_ret
        exact ⟨by rw [HE.out, HG.out]; rfl, bdr (bdr KK _) _⟩
      · have eq0 : (qa != qb) = true := by simpa using hq
        rw [if_neg hq] at HG
        clear hq
        go_quiet (fail)
        go_wp2_with fail
        go_quiet (fail)
        go_wp2_with fail
        go_ret
        exact ⟨by rw [HE.out, HG.out]; rfl, bdr (bdr KK _) _⟩
    · have HE : Hid (goesB l js num den 1 hi a b = decide (vkey l js num den hi a < vkey l js num den hi b)) := by simp [Hid, goesB, hne]
      go_enter Tryz.func30, Tryz.ntmps30
      go_upto_region 1 with fail
      refine wp_region_held (S := fun w' => w'.cell? ⟨Pp, 0, none⟩ = some (.int .i64 1) ∧ w'.cell? ⟨F, 0, none⟩ = some (.func (.func 29) #[] #[.pointer (some ⟨L, 0, none⟩), .pointer (some ⟨J, 0, none⟩), .pointer (some ⟨R, 0, none⟩), .pointer (some ⟨X, 0, none⟩)])) (by kernel_rfl) ?_
      change wpAnyH _ _ _ _ _ _ _ _ (World.drew _)
      have Kz : Below w.heap.size w (World.drew w) := Below.drew (Below.refl _ _)
      have hS0 := hSof Kz
      refine takeHL (i := 0) 8 (.int .i64 1) rfl rfl (by kernel_rfl) (by kernel_rfl) (by kernel_rfl) (fun _ _ _ h => h) (.inl ⟨by rfl, fun w hS => by obtain ⟨h0, h1⟩ := hS; go_simp⟩) hS0 ?_
      simp only [List.set_cons_succ, List.set_cons_zero]
      refine takeHL (i := 1) 9 (.bool true) rfl rfl (by kernel_rfl) (by kernel_rfl) (by kernel_rfl) (fun _ _ _ h => h) (.inl ⟨by rfl, fun w _ => by go_simp⟩) hS0 ?_
      simp only [List.set_cons_succ, List.set_cons_zero]
      refine takeHL (i := 2) 10 (.bool true) rfl rfl (by kernel_rfl) (by kernel_rfl) (by kernel_rfl) (fun _ _ _ h => h) (.inl ⟨by rfl, fun _ _ => rfl⟩) hS0 ?_
      simp only [List.set_cons_succ, List.set_cons_zero]
      refine takeHL (i := 3) 11 (.func (.func 29) #[] #[.pointer (some ⟨L, 0, none⟩), .pointer (some ⟨J, 0, none⟩), .pointer (some ⟨R, 0, none⟩), .pointer (some ⟨X, 0, none⟩)]) rfl rfl (by kernel_rfl) (by kernel_rfl) (by kernel_rfl) (fun _ _ _ h => h) (.inl ⟨by rfl, fun w hS => by obtain ⟨h0, h1⟩ := hS; go_simp⟩) hS0 ?_
      simp only [List.set_cons_succ, List.set_cons_zero]
      refine takeHL (i := 4) 12 (.int .i64 (a : Int)) rfl rfl (by kernel_rfl) (by kernel_rfl) (by kernel_rfl) (fun _ _ _ h => h) (.inl ⟨by rfl, fun _ _ => rfl⟩) hS0 ?_
      simp only [List.set_cons_succ, List.set_cons_zero]
      refine takeHL (i := 6) 14 (.func (.func 29) #[] #[.pointer (some ⟨L, 0, none⟩), .pointer (some ⟨J, 0, none⟩), .pointer (some ⟨R, 0, none⟩), .pointer (some ⟨X, 0, none⟩)]) rfl rfl (by kernel_rfl) (by kernel_rfl) (by kernel_rfl) (fun _ _ _ h => h) (.inl ⟨by rfl, fun w hS => by obtain ⟨h0, h1⟩ := hS; go_simp⟩) hS0 ?_
      simp only [List.set_cons_succ, List.set_cons_zero]
      refine takeHL (i := 7) 15 (.int .i64 (b : Int)) rfl rfl (by kernel_rfl) (by kernel_rfl) (by kernel_rfl) (fun _ _ _ h => h) (.inl ⟨by rfl, fun _ _ => rfl⟩) hS0 ?_
      simp only [List.set_cons_succ, List.set_cons_zero]
      refine callHF 5 13 rfl rfl (by kernel_rfl) (by rfl) 29 Tryz.func29 (by kernel_rfl) rfl _ _ _ rfl #[.pointer (some ⟨L, 0, none⟩), .pointer (some ⟨J, 0, none⟩), .pointer (some ⟨R, 0, none⟩), .pointer (some ⟨X, 0, none⟩)] (by simp [Act.eval]) #[.int .i64 (a : Int), .pointer (some ⟨L, 0, none⟩), .pointer (some ⟨J, 0, none⟩), .pointer (some ⟨R, 0, none⟩), .pointer (some ⟨X, 0, none⟩)] (by simp [Act.eval]) (impl_due V a hl_a _ (h.keep Kz)) ?_
      rintro e v1 ⟨rfl, k1⟩
      have K1 : Below w.heap.size w v1 := bthru Kz k1
      have S1 := hSof K1
      refine ⟨_, rfl, S1, ?_⟩
      simp only [List.set_cons_succ, List.set_cons_zero]
      refine callHF 8 16 rfl rfl (by kernel_rfl) (by rfl) 29 Tryz.func29 (by kernel_rfl) rfl _ _ _ rfl #[.pointer (some ⟨L, 0, none⟩), .pointer (some ⟨J, 0, none⟩), .pointer (some ⟨R, 0, none⟩), .pointer (some ⟨X, 0, none⟩)] (by simp [Act.eval]) #[.int .i64 (b : Int), .pointer (some ⟨L, 0, none⟩), .pointer (some ⟨J, 0, none⟩), .pointer (some ⟨R, 0, none⟩), .pointer (some ⟨X, 0, none⟩)] (by simp [Act.eval]) (impl_due V b hl_b _ (h.keep K1)) ?_
      rintro e v2 ⟨rfl, k2⟩
      have K2 : Below w.heap.size w v2 := bthru K1 k2
      have S2 := hSof K2
      refine ⟨_, rfl, S2, ?_⟩
      simp only [List.set_cons_succ, List.set_cons_zero]
      refine takeHL (i := 9) 17 (.bool true) rfl rfl (by kernel_rfl) (by kernel_rfl) (by kernel_rfl) (fun _ _ _ h => h) (.inl ⟨by rfl, fun w _ => by go_simp <;> simp [hne]⟩) S2 ?_
      simp only [List.set_cons_succ, List.set_cons_zero]
      refine takeHL (i := 10) 18 (.bool true) rfl rfl (by kernel_rfl) (by kernel_rfl) (by kernel_rfl) (fun _ _ _ h => h) (.inl ⟨by rfl, fun w _ => by go_simp⟩) S2 ?_
      simp only [List.set_cons_succ, List.set_cons_zero]
      refine wpAnyH_done (by kernel_rfl) ?_ _
      clear hne hS0 S1 S2
      go_upto_region 2 with fail
      refine wp_region_held (S := fun w' => w'.cell? ⟨Pp, 0, none⟩ = some (.int .i64 1) ∧ w'.cell? ⟨F, 0, none⟩ = some (.func (.func 29) #[] #[.pointer (some ⟨L, 0, none⟩), .pointer (some ⟨J, 0, none⟩), .pointer (some ⟨R, 0, none⟩), .pointer (some ⟨X, 0, none⟩)])) (by kernel_rfl) ?_
      change wpAnyH _ _ _ _ _ _ _ _ (World.drew _)
      have Ky : Below w.heap.size w (World.drew v2) := Below.drew K2
      have hS3 := hSof Ky
      refine takeHL (i := 0) 19 (.func (.func 29) #[] #[.pointer (some ⟨L, 0, none⟩), .pointer (some ⟨J, 0, none⟩), .pointer (some ⟨R, 0, none⟩), .pointer (some ⟨X, 0, none⟩)]) rfl rfl (by kernel_rfl) (by kernel_rfl) (by kernel_rfl) (fun _ _ _ h => h) (.inl ⟨by rfl, fun w hS => by obtain ⟨h0, h1⟩ := hS; go_simp⟩) hS3 ?_
      simp only [List.set_cons_succ, List.set_cons_zero]
      refine takeHL (i := 1) 20 (.int .i64 (a : Int)) rfl rfl (by kernel_rfl) (by kernel_rfl) (by kernel_rfl) (fun _ _ _ h => h) (.inl ⟨by rfl, fun _ _ => rfl⟩) hS3 ?_
      simp only [List.set_cons_succ, List.set_cons_zero]
      refine takeHL (i := 3) 22 (.func (.func 29) #[] #[.pointer (some ⟨L, 0, none⟩), .pointer (some ⟨J, 0, none⟩), .pointer (some ⟨R, 0, none⟩), .pointer (some ⟨X, 0, none⟩)]) rfl rfl (by kernel_rfl) (by kernel_rfl) (by kernel_rfl) (fun _ _ _ h => h) (.inl ⟨by rfl, fun w hS => by obtain ⟨h0, h1⟩ := hS; go_simp⟩) hS3 ?_
      simp only [List.set_cons_succ, List.set_cons_zero]
      refine takeHL (i := 4) 23 (.int .i64 (b : Int)) rfl rfl (by kernel_rfl) (by kernel_rfl) (by kernel_rfl) (fun _ _ _ h => h) (.inl ⟨by rfl, fun _ _ => rfl⟩) hS3 ?_
      simp only [List.set_cons_succ, List.set_cons_zero]
      refine callHF 2 21 rfl rfl (by kernel_rfl) (by rfl) 29 Tryz.func29 (by kernel_rfl) rfl _ _ _ rfl #[.pointer (some ⟨L, 0, none⟩), .pointer (some ⟨J, 0, none⟩), .pointer (some ⟨R, 0, none⟩), .pointer (some ⟨X, 0, none⟩)] (by simp [Act.eval]) #[.int .i64 (a : Int), .pointer (some ⟨L, 0, none⟩), .pointer (some ⟨J, 0, none⟩), .pointer (some ⟨R, 0, none⟩), .pointer (some ⟨X, 0, none⟩)] (by simp [Act.eval]) (impl_due V a hl_a _ (h.keep Ky)) ?_
      rintro e v3 ⟨rfl, k3⟩
      have K3 : Below w.heap.size w v3 := bthru Ky k3
      have S3 := hSof K3
      refine ⟨_, rfl, S3, ?_⟩
      simp only [List.set_cons_succ, List.set_cons_zero]
      refine callHF 5 24 rfl rfl (by kernel_rfl) (by rfl) 29 Tryz.func29 (by kernel_rfl) rfl _ _ _ rfl #[.pointer (some ⟨L, 0, none⟩), .pointer (some ⟨J, 0, none⟩), .pointer (some ⟨R, 0, none⟩), .pointer (some ⟨X, 0, none⟩)] (by simp [Act.eval]) #[.int .i64 (b : Int), .pointer (some ⟨L, 0, none⟩), .pointer (some ⟨J, 0, none⟩), .pointer (some ⟨R, 0, none⟩), .pointer (some ⟨X, 0, none⟩)] (by simp [Act.eval]) (impl_due V b hl_b _ (h.keep K3)) ?_
      rintro e v4 ⟨rfl, k4⟩
      have K4 : Below w.heap.size w v4 := bthru K3 k4
      have S4 := hSof K4
      refine ⟨_, rfl, S4, ?_⟩
      simp only [List.set_cons_succ, List.set_cons_zero]
      refine takeHL (i := 6) 25 (.bool (decide (vkey l js num den hi a < vkey l js num den hi b))) rfl rfl (by kernel_rfl) (by kernel_rfl) (by kernel_rfl) (fun _ _ _ h => h) (.inl ⟨by rfl, fun w _ => by go_simp⟩) S4 ?_
      simp only [List.set_cons_succ, List.set_cons_zero]
      refine takeHL (i := 7) 7 (.bool (decide (vkey l js num den hi a < vkey l js num den hi b))) rfl rfl (by kernel_rfl) (by kernel_rfl) (by kernel_rfl) (fun _ _ _ h => h) (.inl ⟨by rfl, fun _ _ => rfl⟩) S4 ?_
      simp only [List.set_cons_succ, List.set_cons_zero]
      refine wpAnyH_done (by kernel_rfl) ?_ _
      go_wp2_with fail
      go_ret
      exact ⟨by rw [HE.out]; rfl, K4⟩
end
end Go.Proofs.YtmkjmancmiphfaaGreatDoor
