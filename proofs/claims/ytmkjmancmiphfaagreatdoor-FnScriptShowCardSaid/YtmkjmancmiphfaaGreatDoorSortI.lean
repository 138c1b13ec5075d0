/-
  SortDue: the program's (the library's sort by its kit contract, at tasks).
-/
import Derived.Test.YtmkjmancmiphfaaGreatDoorSortP
import Derived.Test.YtmkjmancmiphfaaGreatDoorClone
import Derived.Test.YtmkjmancmiphfaaGreatDoorDrawTask
import Derived.Test.YtmkjmancmiphfaaGreatDoorShare
import Derived.Test.YtmkjmancmiphfaaGreatDoorHeld
import Derived.Lib.QuietBelow
import Derived.Lib.AppendIntMem
import Derived.Lib.OwnBridge
namespace Go.Proofs.YtmkjmancmiphfaaGreatDoor
open Go.RowKit

def srt_ren : Go.Shelf.Ren := ⟨fun | 20 => 242 | n => n, fun | 22 => 23 | 24 => 58 | 25 => 180 | n => n, fun n => n⟩
theorem srt_lays : Go.Proofs.SlLaysF0.n20 Tryz.prog srt_ren := {
  mixed := by kernel_rfl
  f20 := ⟨Tryz.f242.name, by kernel_rfl, Tryz.func242.trans (congrArg some (by kernel_rfl))⟩
  t0 := Tryz.underlying0
  a0 := Tryz.isAgg0
  z0 := Tryz.sizeOf0
  v0 := Tryz.zeroValue0
  t3 := Tryz.underlying3
  a3 := Tryz.isAgg3
  z3 := Tryz.sizeOf3
  v3 := Tryz.zeroValue3
  t4 := Tryz.underlying4
  a4 := Tryz.isAgg4
  z4 := Tryz.sizeOf4
  v4 := Tryz.zeroValue4
  t22 := Tryz.underlying23
  a22 := Tryz.isAgg23
  z22 := Tryz.sizeOf23
  v22 := Tryz.zeroValue23
  t25 := Tryz.underlying180
  a25 := Tryz.isAgg180
  z25 := Tryz.sizeOf180
  v25 := Tryz.zeroValue180 }

theorem cmp_isNaN0 (x : Int) (w : World) :
    Calls Tryz.prog 225 #[.int .i64 x] w fun e w' => e = .returned (.bool false) ∧ w' = w := by
  go_enter Tryz.func225, Tryz.ntmps225
  go_wp2_with fail
  go_ret
  exact ⟨by simp, rfl⟩
theorem cmp_is (x y : Int) (w : World) : Calls Tryz.prog 176 #[.int .i64 x, .int .i64 y] w fun e w' => e = .returned (.int .i64 (cmpI x y)) ∧ w' = w := by
  go_enter Tryz.func176, Tryz.ntmps176
  go_wp2_with fail
  refine (cmp_isNaN0 x _).mono ?_
  rintro e w1 ⟨rfl, rfl⟩
  go_wp2_with fail
  refine (cmp_isNaN0 y _).mono ?_
  rintro e w2 ⟨rfl, rfl⟩
  by_cases h1 : x < y
  · have hc : Hid (cmpI x y = -1) := by simp [Hid, cmpI, h1]
    go_wp2_with fail
    go_ret
    exact ⟨by rw [hc.out]; rfl, rfl⟩
  · by_cases h2 : y < x
    · have hc : Hid (cmpI x y = 1) := by simp [Hid, cmpI, h1, h2]
      go_wp2_with fail
      go_ret
      exact ⟨by rw [hc.out]; rfl, rfl⟩
    · have hc : Hid (cmpI x y = 0) := by simp [Hid, cmpI, h1, h2]
      go_wp2_with fail
      go_ret
      exact ⟨by rw [hc.out]; rfl, rfl⟩
theorem cmp_or (b : Nat) (p q : Int) (w : World) (h0 : w.cell? ⟨b, 0, none⟩ = some (.int .i64 p)) (h1 : w.cell? ⟨b, 1, none⟩ = some (.int .i64 q)) :
    Calls Tryz.prog 175 #[.slice (some ⟨b, 0, none⟩) 2 2] w fun e w' => e = .returned (.int .i64 (if p = 0 then q else p)) ∧ w' = w := by
  by_cases hp : p = 0
  · by_cases hq : q = 0
    · subst hp hq
      go_enter Tryz.func175, Tryz.ntmps175
      go_wp2_with fail
      go_loopw [8] (fun i wr => ∃ k : Nat, k ≤ 2 ∧ i = .int .i64 (k : Int) ∧ wr = w) (fun i _ => 2 - (intOf i).toNat)
      case atStart => exact ⟨0, by omega, rfl, rfl⟩
      case round =>
        obtain ⟨k, hk, rfl, rfl⟩ := hrel
        by_cases hlt : k < 2
        · have hc : wr.cell? ⟨b, k, none⟩ = some (.int .i64 0) := by
            rcases Nat.lt_or_ge k 1 with h | h
            · obtain rfl : k = 0 := by omega
              exact h0
            · obtain rfl : k = 1 := by omega
              exact h1
          go_wp2_with fail
          go_roundw
          case rel => exact ⟨k + 1, by omega, by go_num, trivial⟩
          case measure => simp [intOf]; omega
        · go_wp2_with fail
          go_ret
          exact ⟨rfl, rfl⟩
    · have hq' : (q != 0) = true := by simpa using hq
      subst hp
      go_enter Tryz.func175, Tryz.ntmps175
      go_wp2_with fail
      go_loopw [8] (fun i wr => ∃ k : Nat, k ≤ 1 ∧ i = .int .i64 (k : Int) ∧ wr = w) (fun i _ => 2 - (intOf i).toNat)
      case atStart => exact ⟨0, by omega, rfl, rfl⟩
      case round =>
        obtain ⟨k, hk, rfl, rfl⟩ := hrel
        rcases Nat.lt_or_ge k 1 with h | h
        · obtain rfl : k = 0 := by omega
          go_wp2_with fail
          go_roundw
          case rel => exact ⟨1, by omega, by go_num, trivial⟩
          case measure => simp [intOf]
        · obtain rfl : k = 1 := by omega
          go_wp2_with fail
          go_ret
          simp
  · have hp' : (p != 0) = true := by simpa using hp
    go_enter Tryz.func175, Tryz.ntmps175
    go_wp2_with fail
    go_loopw [8] (fun i wr => i = .int .i64 0 ∧ wr = w) (fun _ _ => 0)
    case atStart => exact ⟨rfl, rfl⟩
    case round =>
      obtain ⟨rfl, rfl⟩ := hrel
      go_wp2_with fail
      go_ret
      simp
theorem oneHL {P : Program} {md : Region.Mode} {ops : Array Oper} {Q : Exit → Act → World → Prop} {S : World → Prop} (i : Nat) (d : Tmp) {L : List Value} {df : List Deferred} {o : Oper} {fuel : Nat} {listed : Array Bool} {w : World}
    (hi : ops[i]? = some o) (_hd : o.dst = some d) (hr : Region.ready md ops listed = [i]) (hw : Region.wanted o (yielded ops L.toArray) = true)
    (h : ∀ K' : Act → World → Prop, (∀ v w', S w' → wpAnyH P md ops Q S fuel (listed.setIfInBounds i true) ⟨(L.set d v).toArray, df⟩ w' → K' ((⟨L.toArray, df⟩ : Act).put (some d) v) w') → Oper.wp P o ⟨L.toArray, df⟩ w K' Q) : wpAnyH P md ops Q S (fuel + 1) listed ⟨L.toArray, df⟩ w := by
  refine wpAnyH_all hr (by simp) ?_
  intro j hj
  rw [List.mem_singleton] at hj
  subst hj
  unfold wpOp
  simp only [hi]
  rw [if_pos hw]
  exact .inl (h _ (fun v w' s k => ⟨s, by simpa [Act.put] using k⟩))
theorem heap2 (w : World) (A B : Obj) : ((w.alloc A).alloc B).heap[w.heap.size]? = some A ∧ ((w.alloc A).alloc B).heap[w.heap.size + 1]? = some B := by
  refine ⟨?_, ?_⟩
  · show ((w.heap.push A).push B)[_]? = _
    rw [Array.getElem?_push, if_neg (by simp), Array.getElem?_push, if_pos rfl]
  · show ((w.heap.push A).push B)[_]? = _
    rw [Array.getElem?_push, if_pos (by simp)]
theorem sort_eq_alloc (w : World) (a b c : Obj) : (((w.alloc a).alloc b).alloc c).drew = Sort.grow (w.drewN 1) #[a, b, c] := by
  have e : ((w.heap.push a).push b).push c = w.heap ++ #[a, b, c] := by
    apply Array.ext'
    simp
  show ({ w with heap := ((w.heap.push a).push b).push c, drawn := w.drawn + 1 } : World) = { w with heap := w.heap ++ #[a, b, c], drawn := w.drawn + 1 }
  rw [e]
/-- The comparison handed to the sort. -/
theorem sort_cmp (x y : Tk) (w : World) : Calls Tryz.prog 174 #[x.val, y.val] w fun e w' => e = .returned (.int .i64 (cfT x y)) ∧ ∃ q os', w' = Sort.grow (w.drewN q) os' := by
  have hv : Hid ((if cmpI x.due y.due = 0 then cmpI x.every y.every else cmpI x.due y.due) = cfT x y) := by
    unfold Hid cfT cmpI
    by_cases h1 : x.due < y.due
    · have : x.due ≠ y.due := by omega
      simp [h1, this]
    · by_cases h2 : y.due < x.due
      · have : x.due ≠ y.due := by omega
        simp [h1, h2, this]
      · have : x.due = y.due := by omega
        simp [this]
  go_enter Tryz.func174, Tryz.ntmps174
  go_wp2_with fail
  obtain ⟨h1, h2⟩ := heap2 w (.cells #[.int .i64 x.low, .int .i64 x.high, .int .i64 x.due, .int .i64 x.every, .bool x.crit] 58 (0, 0)) (.cells #[.int .i64 y.low, .int .i64 y.high, .int .i64 y.due, .int .i64 y.every, .bool y.crit] 58 (0, 0))
  obtain ⟨a0, a1, a2, a3, a4, _⟩ := blk_five h1
  obtain ⟨b0, b1, b2, b3, b4, _⟩ := blk_five h2
  refine wp_region_held (S := fun w' => w'.cell? ⟨w.heap.size, 2, none⟩ = some (.int .i64 x.due) ∧ w'.cell? ⟨w.heap.size, 3, none⟩ = some (.int .i64 x.every) ∧ w'.cell? ⟨w.heap.size + 1, 2, none⟩ = some (.int .i64 y.due) ∧ w'.cell? ⟨w.heap.size + 1, 3, none⟩ = some (.int .i64 y.every)) (by kernel_rfl) ?_
  change wpAnyH _ _ _ _ _ _ _ _ (World.drew _)
  have hS0 : (World.drew ((w.alloc (.cells #[.int .i64 x.low, .int .i64 x.high, .int .i64 x.due, .int .i64 x.every, .bool x.crit] 58 (0, 0))).alloc (.cells #[.int .i64 y.low, .int .i64 y.high, .int .i64 y.due, .int .i64 y.every, .bool y.crit] 58 (0, 0)))).cell? ⟨w.heap.size, 2, none⟩ = some (.int .i64 x.due) ∧ (World.drew ((w.alloc (.cells #[.int .i64 x.low, .int .i64 x.high, .int .i64 x.due, .int .i64 x.every, .bool x.crit] 58 (0, 0))).alloc (.cells #[.int .i64 y.low, .int .i64 y.high, .int .i64 y.due, .int .i64 y.every, .bool y.crit] 58 (0, 0)))).cell? ⟨w.heap.size, 3, none⟩ = some (.int .i64 x.every) ∧ (World.drew ((w.alloc (.cells #[.int .i64 x.low, .int .i64 x.high, .int .i64 x.due, .int .i64 x.every, .bool x.crit] 58 (0, 0))).alloc (.cells #[.int .i64 y.low, .int .i64 y.high, .int .i64 y.due, .int .i64 y.every, .bool y.crit] 58 (0, 0)))).cell? ⟨w.heap.size + 1, 2, none⟩ = some (.int .i64 y.due) ∧ (World.drew ((w.alloc (.cells #[.int .i64 x.low, .int .i64 x.high, .int .i64 x.due, .int .i64 x.every, .bool x.crit] 58 (0, 0))).alloc (.cells #[.int .i64 y.low, .int .i64 y.high, .int .i64 y.due, .int .i64 y.every, .bool y.crit] 58 (0, 0)))).cell? ⟨w.heap.size + 1, 3, none⟩ = some (.int .i64 y.every) := ⟨a2, a3, b2, b3⟩
  refine takeHL (i := 0) 5 (.pointer (some ⟨w.heap.size, 2, none⟩)) rfl rfl (by kernel_rfl) (by kernel_rfl) (by kernel_rfl) (fun _ _ _ h => h) (.inl ⟨by rfl, fun w _ => by go_simp⟩) hS0 ?_
  simp only [List.set_cons_succ, List.set_cons_zero]
  refine takeHL (i := 1) 6 (.int .i64 x.due) rfl rfl (by kernel_rfl) (by kernel_rfl) (by kernel_rfl) (fun _ _ _ h => h) (.inl ⟨by rfl, fun w hS => by have h1 := hS.1; go_simp⟩) hS0 ?_
  simp only [List.set_cons_succ, List.set_cons_zero]
  refine takeHL (i := 2) 7 (.pointer (some ⟨w.heap.size + 1, 2, none⟩)) rfl rfl (by kernel_rfl) (by kernel_rfl) (by kernel_rfl) (fun _ _ _ h => h) (.inl ⟨by rfl, fun w _ => by go_simp⟩) hS0 ?_
  simp only [List.set_cons_succ, List.set_cons_zero]
  refine takeHL (i := 3) 8 (.int .i64 y.due) rfl rfl (by kernel_rfl) (by kernel_rfl) (by kernel_rfl) (fun _ _ _ h => h) (.inl ⟨by rfl, fun w hS => by have h1 := hS.2.2.1; go_simp⟩) hS0 ?_
  simp only [List.set_cons_succ, List.set_cons_zero]
  refine takeHL (i := 5) 10 (.pointer (some ⟨w.heap.size, 3, none⟩)) rfl rfl (by kernel_rfl) (by kernel_rfl) (by kernel_rfl) (fun _ _ _ h => h) (.inl ⟨by rfl, fun w _ => by go_simp⟩) hS0 ?_
  simp only [List.set_cons_succ, List.set_cons_zero]
  refine takeHL (i := 6) 11 (.int .i64 x.every) rfl rfl (by kernel_rfl) (by kernel_rfl) (by kernel_rfl) (fun _ _ _ h => h) (.inl ⟨by rfl, fun w hS => by have h1 := hS.2.1; go_simp⟩) hS0 ?_
  simp only [List.set_cons_succ, List.set_cons_zero]
  refine takeHL (i := 7) 12 (.pointer (some ⟨w.heap.size + 1, 3, none⟩)) rfl rfl (by kernel_rfl) (by kernel_rfl) (by kernel_rfl) (fun _ _ _ h => h) (.inl ⟨by rfl, fun w _ => by go_simp⟩) hS0 ?_
  simp only [List.set_cons_succ, List.set_cons_zero]
  refine takeHL (i := 8) 13 (.int .i64 y.every) rfl rfl (by kernel_rfl) (by kernel_rfl) (by kernel_rfl) (fun _ _ _ h => h) (.inl ⟨by rfl, fun w hS => by have h1 := hS.2.2.2; go_simp⟩) hS0 ?_
  simp only [List.set_cons_succ, List.set_cons_zero]
  refine callHL 4 9 rfl rfl (by kernel_rfl) (by rfl) 176 Tryz.func176 (by kernel_rfl) rfl _ _ rfl _ ?hv (cmp_is x.due y.due _) ?_
  case hv => simp [Act.eval]
  rintro e v1 ⟨rfl, rfl⟩
  refine ⟨_, rfl, hS0, ?_⟩
  simp only [List.set_cons_succ, List.set_cons_zero]
  refine callHL 9 14 rfl rfl (by kernel_rfl) (by rfl) 176 Tryz.func176 (by kernel_rfl) rfl _ _ rfl _ ?hv (cmp_is x.every y.every _) ?_
  case hv => simp [Act.eval]
  rintro e v2 ⟨rfl, rfl⟩
  refine ⟨_, rfl, hS0, ?_⟩
  simp only [List.set_cons_succ, List.set_cons_zero]
  refine oneHL 10 15 rfl rfl (by kernel_rfl) (by rfl) ?_
  intro K hK
  go_simp
  have hS1 : ((((w.alloc (.cells #[.int .i64 x.low, .int .i64 x.high, .int .i64 x.due, .int .i64 x.every, .bool x.crit] 58 (0, 0))).alloc (.cells #[.int .i64 y.low, .int .i64 y.high, .int .i64 y.due, .int .i64 y.every, .bool y.crit] 58 (0, 0))).alloc (.cells #[.int .i64 (cmpI x.due y.due), .int .i64 (cmpI x.every y.every)] 3 (0, 0))).drew).cell? ⟨w.heap.size, 2, none⟩ = some (.int .i64 x.due) ∧ ((((w.alloc (.cells #[.int .i64 x.low, .int .i64 x.high, .int .i64 x.due, .int .i64 x.every, .bool x.crit] 58 (0, 0))).alloc (.cells #[.int .i64 y.low, .int .i64 y.high, .int .i64 y.due, .int .i64 y.every, .bool y.crit] 58 (0, 0))).alloc (.cells #[.int .i64 (cmpI x.due y.due), .int .i64 (cmpI x.every y.every)] 3 (0, 0))).drew).cell? ⟨w.heap.size, 3, none⟩ = some (.int .i64 x.every) ∧ ((((w.alloc (.cells #[.int .i64 x.low, .int .i64 x.high, .int .i64 x.due, .int .i64 x.every, .bool x.crit] 58 (0, 0))).alloc (.cells #[.int .i64 y.low, .int .i64 y.high, .int .i64 y.due, .int .i64 y.every, .bool y.crit] 58 (0, 0))).alloc (.cells #[.int .i64 (cmpI x.due y.due), .int .i64 (cmpI x.every y.every)] 3 (0, 0))).drew).cell? ⟨w.heap.size + 1, 2, none⟩ = some (.int .i64 y.due) ∧ ((((w.alloc (.cells #[.int .i64 x.low, .int .i64 x.high, .int .i64 x.due, .int .i64 x.every, .bool x.crit] 58 (0, 0))).alloc (.cells #[.int .i64 y.low, .int .i64 y.high, .int .i64 y.due, .int .i64 y.every, .bool y.crit] 58 (0, 0))).alloc (.cells #[.int .i64 (cmpI x.due y.due), .int .i64 (cmpI x.every y.every)] 3 (0, 0))).drew).cell? ⟨w.heap.size + 1, 3, none⟩ = some (.int .i64 y.every) := by
    have hb : Below ((w.alloc (.cells #[.int .i64 x.low, .int .i64 x.high, .int .i64 x.due, .int .i64 x.every, .bool x.crit] 58 (0, 0))).alloc (.cells #[.int .i64 y.low, .int .i64 y.high, .int .i64 y.due, .int .i64 y.every, .bool y.crit] 58 (0, 0))).heap.size ((w.alloc (.cells #[.int .i64 x.low, .int .i64 x.high, .int .i64 x.due, .int .i64 x.every, .bool x.crit] 58 (0, 0))).alloc (.cells #[.int .i64 y.low, .int .i64 y.high, .int .i64 y.due, .int .i64 y.every, .bool y.crit] 58 (0, 0))) ((((w.alloc (.cells #[.int .i64 x.low, .int .i64 x.high, .int .i64 x.due, .int .i64 x.every, .bool x.crit] 58 (0, 0))).alloc (.cells #[.int .i64 y.low, .int .i64 y.high, .int .i64 y.due, .int .i64 y.every, .bool y.crit] 58 (0, 0))).alloc (.cells #[.int .i64 (cmpI x.due y.due), .int .i64 (cmpI x.every y.every)] 3 (0, 0))).drew) := Below.drew (bal (Below.refl _ _) _)
    have hz : ((w.alloc (.cells #[.int .i64 x.low, .int .i64 x.high, .int .i64 x.due, .int .i64 x.every, .bool x.crit] 58 (0, 0))).alloc (.cells #[.int .i64 y.low, .int .i64 y.high, .int .i64 y.due, .int .i64 y.every, .bool y.crit] 58 (0, 0))).heap.size = w.heap.size + 1 + 1 := by simp
    exact ⟨(hb.cell (p := ⟨w.heap.size, 2, none⟩) (by rw [hz]; show w.heap.size < _; omega)).trans a2, (hb.cell (p := ⟨w.heap.size, 3, none⟩) (by rw [hz]; show w.heap.size < _; omega)).trans a3, (hb.cell (p := ⟨w.heap.size + 1, 2, none⟩) (by rw [hz]; show w.heap.size + 1 < _; omega)).trans b2, (hb.cell (p := ⟨w.heap.size + 1, 3, none⟩) (by rw [hz]; show w.heap.size + 1 < _; omega)).trans b3⟩
  have hN : ((((w.alloc (.cells #[.int .i64 x.low, .int .i64 x.high, .int .i64 x.due, .int .i64 x.every, .bool x.crit] 58 (0, 0))).alloc (.cells #[.int .i64 y.low, .int .i64 y.high, .int .i64 y.due, .int .i64 y.every, .bool y.crit] 58 (0, 0))).alloc (.cells #[.int .i64 (cmpI x.due y.due), .int .i64 (cmpI x.every y.every)] 3 (0, 0))).drew).heap[w.heap.size + 1 + 1]? = some (.cells #[.int .i64 (cmpI x.due y.due), .int .i64 (cmpI x.every y.every)] 3 (0, 0)) := by
    have := heap_alloc_new ((w.alloc (.cells #[.int .i64 x.low, .int .i64 x.high, .int .i64 x.due, .int .i64 x.every, .bool x.crit] 58 (0, 0))).alloc (.cells #[.int .i64 y.low, .int .i64 y.high, .int .i64 y.due, .int .i64 y.every, .bool y.crit] 58 (0, 0))) (.cells #[.int .i64 (cmpI x.due y.due), .int .i64 (cmpI x.every y.every)] 3 (0, 0))
    have hz : ((w.alloc (.cells #[.int .i64 x.low, .int .i64 x.high, .int .i64 x.due, .int .i64 x.every, .bool x.crit] 58 (0, 0))).alloc (.cells #[.int .i64 y.low, .int .i64 y.high, .int .i64 y.due, .int .i64 y.every, .bool y.crit] 58 (0, 0))).heap.size = w.heap.size + 1 + 1 := by simp
    rw [hz] at this
    exact this
  obtain ⟨n0, n1, _⟩ := blk_two hN
  have hEq := sort_eq_alloc w (.cells #[.int .i64 x.low, .int .i64 x.high, .int .i64 x.due, .int .i64 x.every, .bool x.crit] 58 (0, 0)) (.cells #[.int .i64 y.low, .int .i64 y.high, .int .i64 y.due, .int .i64 y.every, .bool y.crit] 58 (0, 0)) (.cells #[.int .i64 (cmpI x.due y.due), .int .i64 (cmpI x.every y.every)] 3 (0, 0))
  refine hK (.slice (some ⟨w.heap.size + 1 + 1, 0, none⟩) 2 2) _ hS1 ?_
  simp only [List.set_cons_succ, List.set_cons_zero]
  generalize ((((w.alloc (.cells #[.int .i64 x.low, .int .i64 x.high, .int .i64 x.due, .int .i64 x.every, .bool x.crit] 58 (0, 0))).alloc (.cells #[.int .i64 y.low, .int .i64 y.high, .int .i64 y.due, .int .i64 y.every, .bool y.crit] 58 (0, 0))).alloc (.cells #[.int .i64 (cmpI x.due y.due), .int .i64 (cmpI x.every y.every)] 3 (0, 0))).drew) = wz at *
  refine callHL 11 16 rfl rfl (by kernel_rfl) (by rfl) 175 Tryz.func175 (by kernel_rfl) rfl _ _ rfl _ ?hv (cmp_or (w.heap.size + 1 + 1) (cmpI x.due y.due) (cmpI x.every y.every) _ n0 n1) ?_
  case hv => simp [Act.eval]
  rintro e v3 ⟨rfl, rfl⟩
  refine ⟨_, rfl, hS1, ?_⟩
  simp only [List.set_cons_succ, List.set_cons_zero]
  rw [hv.out]
  refine takeHL (i := 12) 4 (.int .i64 (cfT x y)) rfl rfl (by kernel_rfl) (by kernel_rfl) (by kernel_rfl) (fun _ _ _ h => h) (.inl ⟨by rfl, fun _ _ => rfl⟩) hS1 ?_
  simp only [List.set_cons_succ, List.set_cons_zero]
  refine wpAnyH_done (by kernel_rfl) ?_ _
  go_wp2_with fail
  go_ret
  exact ⟨rfl, 1, _, hEq⟩
theorem holdsK_of {base : Nat} {w : World} {g c : Nat} {l : List Tk} (h : OT base w (some ⟨g, 0, none⟩) c l) : Sort.HoldsK Tk.cells 5 w g 0 l.toArray := by
  intro j hj
  have hj5 : j < l.length * 5 := by simpa using hj
  have hq : j / 5 < l.length := by omega
  have hr : j % 5 < 5 := Nat.mod_lt _ (by omega)
  refine ⟨?_, by rw [Nat.zero_add]; exact h.frozenAt j⟩
  rw [Nat.zero_add, h.cellAt j (by omega), Sort.get_flatK _ _ _ _ (by simpa using hj5)]
  have e := flat_at l (j / 5) (j % 5) hq hr
  rw [show j / 5 * 5 + j % 5 = j by omega] at e
  rw [e]
  have e2 : (l.toArray)[j / 5]! = l[j / 5] := get_list l.toArray l (by simp) (j / 5) hq
  rw [e2]
  have hlen : (l[j / 5]).cells.length = 5 := rfl
  rw [List.getElem?_eq_getElem (by omega)]
  simp [getElem!_pos, hlen, hr]
theorem flatK_flat (l : List Tk) : (Sort.flatK Tk.cells 5 l.toArray).toList = flat l := by
  apply List.ext_getElem?
  intro j
  by_cases hj : j < l.length * 5
  · have hq : j / 5 < l.length := by omega
    have hr : j % 5 < 5 := Nat.mod_lt _ (by omega)
    have e := flat_at l (j / 5) (j % 5) hq hr
    rw [show j / 5 * 5 + j % 5 = j by omega] at e
    have hlen : (l[j / 5]).cells.length = 5 := rfl
    have e3 := Sort.get_flatK Tk.cells 5 l.toArray j (by simpa using hj)
    have e2 : (l.toArray)[j / 5]! = l[j / 5] := get_list l.toArray l (by simp) (j / 5) hq
    have hs : j < (Sort.flatK Tk.cells 5 l.toArray).size := by simpa using hj
    rw [getElem!_pos _ j hs, e2, getElem!_pos _ _ (by omega)] at e3
    rw [e, Array.getElem?_toList, Array.getElem?_eq_getElem hs, e3, List.getElem?_eq_getElem (by omega)]
  · rw [List.getElem?_eq_none (by simp; omega), List.getElem?_eq_none (by rw [flat_length]; omega)]
theorem OT_sorted {base : Nat} {w : World} {g c q : Nat} {l l' : List Tk} (h : OT base w (some ⟨g, 0, none⟩) c l) (hl : l'.length = l.length) (os : Array Obj) :
    OT base (sortWorldK Tk.cells 5 w g 0 q l'.toArray os) (some ⟨g, 0, none⟩) c l' := by
  have hlt : g < w.heap.size := by
    rcases h.2 with ⟨e0, _⟩ | ⟨g', cap', cur, e0, hb, hg, _⟩
    · cases e0
    · injection e0 with e1
      injection e1 with e1
      injection e1 with e1
      subst e1
      exact (Array.getElem?_eq_some_iff.1 hg).1
  have hP : OT base (Sort.putRowK Tk.cells 5 (Sort.ahead w q) g 0 l'.toArray) (some ⟨g, 0, none⟩) c l' := by
    unfold OT at h ⊢
    rw [hl]
    rcases h.2 with ⟨e0, _⟩ | ⟨g', cap', cur, e0, hb, hg, hn, hm, hs, ht⟩
    · cases e0
    · injection e0 with e1 _ e3
      injection e1 with e1
      injection e1 with e1
      subst e1; subst e3
      have hfl : (Sort.flatK Tk.cells 5 l'.toArray).size = l.length * 5 := by simp [hl]
      refine ⟨by rw [flat_length, hl]; omega, .inr ⟨g, c, Sort.putCells id 0 (Sort.flatK Tk.cells 5 l'.toArray) cur, rfl, hb, ?_, hn, hm, by simpa [Sort.putCells] using hs, ?_⟩⟩
      · simp [Sort.putRowK, Sort.putRow, Sort.mapBlock, Sort.ahead, Array.getElem?_modify, hg, Sort.onCells]
      · rw [← flatK_flat l']
        apply List.ext_getElem?
        intro j
        rw [List.getElem?_take, Array.getElem?_toList, Array.getElem?_toList]
        by_cases hj : j < l.length * 5
        · have hjc : j < cur.size := by omega
          simp only [if_pos hj, Sort.putCells, Array.getElem?_mapIdx, Array.getElem?_eq_getElem hjc, Option.map_some]
          rw [if_pos (by rw [hfl]; omega), Array.getElem?_eq_getElem (by omega)]
          simp [getElem!_pos, hfl, hj]
        · rw [if_neg hj, Array.getElem?_eq_none (by omega)]
  unfold sortWorldK
  refine OT_keep hP ?_
  have := Lib.below_grow (Sort.putRowK Tk.cells 5 (Sort.ahead w q) g 0 l'.toArray).heap.size (Sort.putRowK Tk.cells 5 (Sort.ahead w q) g 0 l'.toArray) (Nat.le_refl _) 0 os
  exact this
theorem below_sorted {w0 w : World} {g q : Nat} {d : Array Tk} (h : Below w0.heap.size w0 w) (hg : w0.heap.size ≤ g) (os : Array Obj) : Below w0.heap.size w0 (sortWorldK Tk.cells 5 w g 0 q d os) := by
  unfold sortWorldK
  have h1 : Below w0.heap.size w0 (Sort.putRowK Tk.cells 5 (Sort.ahead w q) g 0 d) := Lib.below_putRow h hg
  have := Lib.below_grow (Sort.putRowK Tk.cells 5 (Sort.ahead w q) g 0 d).heap.size (Sort.putRowK Tk.cells 5 (Sort.ahead w q) g 0 d) (Nat.le_refl _) 0 os
  exact bthru h1 this
/-- Insertion sort of the library, at tasks. -/
theorem sort_ins (g c : Nat) (l : List Tk) (base : Nat) (w : World) (h : OT base w (some ⟨g, 0, none⟩) c l) (hl : l.length ≤ 100000) (hlt : g < w.heap.size) :
    Calls Tryz.prog 242 #[.slice (some ⟨g, 0, none⟩) l.length c, .int .i64 0, .int .i64 (l.length : Int), .func (.func 174) #[] #[]] w fun e w' =>
      e = .returned (.tuple #[]) ∧ OT base w' (some ⟨g, 0, none⟩) c (sortF l) ∧ ∃ q os, w' = sortWorldK Tk.cells 5 w g 0 q (sortF l).toArray os := by
  have K := AnyQ.insertionSortCmpFunc srt_lays 5 Tryz.isAgg58 Tryz.sizeOf58 Tk.cells (fun _ => rfl)
    (fun x v hv => by simp [Tk.cells] at hv; rcases hv with rfl | rfl | rfl | rfl | rfl <;> rfl) cfT 174 #[] g 0 c 0 l.length l.toArray w
    (enters_of Tryz.func174 (by kernel_rfl) rfl) (fun m os dk _ x y => by rw [Array.append_empty]; exact sort_cmp x y _) (holdsK_of h) hlt (Nat.zero_le _) (by simp) (by simp; omega)
  refine (show Calls Tryz.prog 242 _ w _ from K).mono ?_
  rintro e w' ⟨rfl, n, os, rfl⟩
  have e2 : Sort.insertionSort (ltOf cfT) l.toArray 0 l.length = (sortF l).toArray := by
    apply Array.ext'
    rw [insertionSort_is]
  rw [e2]
  exact ⟨rfl, OT_sorted h (sortF_len l) os, n, os, rfl⟩
def SortPost (g c : Nat) (l : List Tk) (base : Nat) (w : World) (e : Ending) (w' : World) : Prop :=
  e = .returned (.tuple #[]) ∧ OT base w' (some ⟨g, 0, none⟩) c (sortF l) ∧ ∃ q os, w' = sortWorldK Tk.cells 5 w g 0 q (sortF l).toArray os
theorem sort_stable (g c : Nat) (l : List Tk) (base : Nat) (w : World) (h : OT base w (some ⟨g, 0, none⟩) c l) (hl : l.length ≤ 19) (hlt : g < w.heap.size) :
    Calls Tryz.prog 224 #[.slice (some ⟨g, 0, none⟩) l.length c, .int .i64 (l.length : Int), .func (.func 174) #[] #[]] w (SortPost g c l base w) := by
  go_enter Tryz.func224, Tryz.ntmps224
  go_wp2_with fail
  go_loopw [7, 8] (fun a b wr => a = .int .i64 0 ∧ b = .int .i64 20 ∧ wr = w) (fun _ _ _ => 0)
  case atStart => exact ⟨rfl, rfl, rfl⟩
  case round =>
    obtain ⟨rfl, rfl, rfl⟩ := hrel
    go_wp2_with fail
    refine (sort_ins g c l base _ h (by omega) hlt).mono ?_
    rintro e w1 ⟨rfl, ho, hx⟩
    go_wp2_with fail
    go_loopw [6, 7, 8] (fun a _ _ wr => a = .int .i64 20 ∧ wr = w1) (fun _ _ _ _ => 0)
    case atStart => exact ⟨rfl, rfl⟩
    case round =>
      obtain ⟨rfl, rfl⟩ := hrel
      go_wp2_with fail
      first
        | ((try simp only [Exit.inBlock, Exit.then]); refine bodyPost_ret (results_none rfl _ _ _) rfl ?_)
        | go_end0
      exact ⟨rfl, ho, hx⟩
theorem sort_func (g c : Nat) (l : List Tk) (base : Nat) (w : World) (h : OT base w (some ⟨g, 0, none⟩) c l) (hl : l.length ≤ 19) (hlt : g < w.heap.size) :
    Calls Tryz.prog 173 #[.slice (some ⟨g, 0, none⟩) l.length c, .func (.func 174) #[] #[]] w (SortPost g c l base w) := by
  go_enter Tryz.func173, Tryz.ntmps173
  go_wp2_with fail
  refine (sort_stable g c l base _ h hl hlt).mono ?_
  rintro e w1 ⟨rfl, ho, hx⟩
  go_wp2_with fail
  first
    | ((try simp only [Exit.inBlock, Exit.then]); refine bodyPost_ret (results_none rfl _ _ _) rfl ?_)
    | go_end0
  exact ⟨rfl, ho, hx⟩
/-- .. of no task. -/
theorem sort_none (A : Option Addr) (c : Nat) (w : World) :
    Calls Tryz.prog 173 #[.slice A 0 c, .func (.func 174) #[] #[]] w fun e w' => e = .returned (.tuple #[]) ∧ w' = w := by
  have hI : Calls Tryz.prog 242 #[.slice A 0 c, .int .i64 0, .int .i64 0, .func (.func 174) #[] #[]] w fun e w' => e = .returned (.tuple #[]) ∧ w' = w := by
    go_enter Tryz.func242, Tryz.ntmps242
    go_wp2_with fail
    go_loopw [8] (fun a wr => a = .int .i64 1 ∧ wr = w) (fun _ _ => 0)
    case atStart => exact ⟨rfl, rfl⟩
    case round =>
      obtain ⟨rfl, rfl⟩ := hrel
      go_wp2_with fail
      first
        | ((try simp only [Exit.inBlock, Exit.then]); refine bodyPost_ret (results_none rfl _ _ _) rfl ?_)
        | go_end0
      exact ⟨rfl, rfl⟩
  have hS : Calls Tryz.prog 224 #[.slice A 0 c, .int .i64 0, .func (.func 174) #[] #[]] w fun e w' => e = .returned (.tuple #[]) ∧ w' = w := by
    go_enter Tryz.func224, Tryz.ntmps224
    go_wp2_with fail
    go_loopw [7, 8] (fun a b wr => a = .int .i64 0 ∧ b = .int .i64 20 ∧ wr = w) (fun _ _ _ => 0)
    case atStart => exact ⟨rfl, rfl, rfl⟩
    case round =>
      obtain ⟨rfl, rfl, rfl⟩ := hrel
      go_wp2_with fail
      refine hI.mono ?_
      rintro e w1 ⟨rfl, rfl⟩
      go_wp2_with fail
      go_loopw [6, 7, 8] (fun a _ _ wr => a = .int .i64 20 ∧ wr = w1) (fun _ _ _ _ => 0)
      case atStart => exact ⟨rfl, rfl⟩
      case round =>
        obtain ⟨rfl, rfl⟩ := hrel
        go_wp2_with fail
        first
          | ((try simp only [Exit.inBlock, Exit.then]); refine bodyPost_ret (results_none rfl _ _ _) rfl ?_)
          | go_end0
        exact ⟨rfl, rfl⟩
  go_enter Tryz.func173, Tryz.ntmps173
  go_wp2_with fail
  refine hS.mono ?_
  rintro e w1 ⟨rfl, rfl⟩
  go_wp2_with fail
  first
    | ((try simp only [Exit.inBlock, Exit.then]); refine bodyPost_ret (results_none rfl _ _ _) rfl ?_)
    | go_end0
  exact ⟨rfl, rfl⟩
set_option maxHeartbeats 1000000 in
theorem impl_SortDue (A : Option Addr) (l : List Tk) (c : Nat) (w : World) (h : TS w A l) :
    Calls Tryz.prog 122 #[.slice A l.length c] w (RetT w (sortD l)) := by
  cases hS : setVld l with
  | false =>
    have hd : Hid (sortD l = []) := by simp [Hid, sortD, hS]
    go_enter Tryz.func122, Tryz.ntmps122
    go_wp2_with fail
    refine (impl_SetValid A l c _ h).mono ?_
    rw [hS]
    rintro e w1 ⟨rfl, b1⟩
    go_wp2_with fail
    go_ret
    rw [hd.out]
    exact ⟨none, 0, rfl, OT_nil _ _, b1⟩
  | true =>
    have hd : Hid (sortD l = sortF l) := by simp [Hid, sortD, hS]
    have hl5 := (setVld_all hS).1
    have HS := Lib.hid hS
    have hfl := Lib.hid (sortF_len l)
    clear hS
    go_enter Tryz.func122, Tryz.ntmps122
    go_wp2_with fail
    refine (impl_SetValid A l c _ h).mono ?_
    rw [HS.out]
    rintro e w1 ⟨rfl, b1⟩
    go_wp2_with fail
    refine (slices_CloneT A l c _ (h.keep b1) (by omega)).mono ?_
    rintro e w2 ⟨A2, c2, rfl, o2, b2⟩
    by_cases h0 : 0 < l.length
    · obtain ⟨g, rfl, hgw, hlt⟩ := OT_addr o2 h0
      go_wp2_with fail
      refine (sort_func g c2 l w1.heap.size _ o2 (by omega) hlt).mono ?_
      rintro e w3 ⟨rfl, ho, q, os, rfl⟩
      go_wp2_with fail
      go_ret
      rw [hd.out]
      have B := below_sorted (q := q) (d := (sortF l).toArray) (bthru b1 b2) (Nat.le_trans b1.size hgw) os
      exact ⟨_, c2, by rw [hfl.out]; rfl, own_base ho b1.size, B⟩
    · have hl0 : l = [] := List.length_eq_zero_iff.1 (by omega)
      subst hl0
      go_wp2_with fail
      refine (sort_none A2 c2 _).mono ?_
      rintro e w3 ⟨rfl, rfl⟩
      go_wp2_with fail
      go_ret
      rw [hd.out]
      exact ⟨A2, c2, rfl, own_base o2 b1.size, bthru b1 b2⟩
end Go.Proofs.YtmkjmancmiphfaaGreatDoor
