/-
  LowShare, CriticalOf, HighShare: the reference's.
  CriticalOf, HighShare, Implicit, HoldsPlain: the reference's.
  HighShare, Implicit, HoldsPlain: the reference's.
-/
import Derived.Test.YtmkjmancmiphfaaGreatDoorRa11
import Derived.Test.YtmkjmancmiphfaaGreatDoorRa06
namespace Go.Proofs.YtmkjmancmiphfaaGreatDoor
open Go.RowKit

theorem spec_MakeShare_in (n d : Int) (w : World) (h : shIn n d = true) :
    Calls Tryz.prog 112 #[.int .i64 n, .int .i64 d] w fun e w' => e = .returned (.tuple #[rv (mkRat n d.toNat), .bool true]) ∧ Below w.heap.size w w' := by
  refine (spec_MakeShare n d w).mono ?_
  rintro e w1 (⟨_, rfl, b1⟩ | ⟨hf, _, _⟩)
  · exact ⟨rfl, b1⟩
  · rw [h] at hf
    cases hf
theorem RIn_take {l : List Tk} (h : setVld l = true) (crit high : Bool) (k : Nat) : RIn (shares crit high (l.take k)) :=
  RIn_shares (setVld_sub (Sub.sub (List.take_sublist k l)) h) crit high
theorem RIn_shr {t : Tk} (h : vld t = true) (high : Bool) : RIn (shr high t) := by
  have h1 := shr_le (high := high) h
  have h2 := shr_den (high := high) h
  exact RIn_of_den (n := 1) h1.1 (by simpa using h1.2) (by omega) (by omega)

set_option maxHeartbeats 2000000 in
set_option maxRecDepth 100000 in
theorem spec_LowShare (A : Option Addr) (l : List Tk) (c : Nat) (crit : Bool) (w : World) (h : TS w A l) (hm : l.length ≤ maxLen) :
    Calls Tryz.prog 108 #[.slice A l.length c, .bool crit] w fun e w' => e = .returned (sumV l crit false) ∧ Below w.heap.size w w' := by
  cases hS : setVld l with
  | false =>
    have hv : sumV l crit false = sv 0 0 := by simp [sumV, hS]
    rw [hv]
    clear hv
    go_enter Tryz.func108, Tryz.ntmps108
    go_wp2_with fail
    refine (spec_SetValid A l c _ (h.keep (bal (bal (Below.refl _ _) _) _)) hm).mono ?_
    rw [hS]
    rintro e w1 ⟨rfl, b1⟩
    obtain ⟨q0, q1⟩ := heap2 w (.cells #[.int .i64 0, .int .i64 0] 54) (.cells #[.int .i64 0, .int .i64 1] 54)
    have hB := (b1.block w.heap.size (by simp; omega)).trans q0
    obtain ⟨x0, x1, xf⟩ := blk_two hB
    clear hB q0 q1
    go_wp2_with fail
    refine bodyPost_ret (v := sv 0 0) (by simp [results, Tryz.results108, go_sem, x0, x1]) rfl ⟨rfl, ?_⟩
    exact bst (bst (bthru (bal (bal (Below.refl _ _) _) _) b1) (p := ⟨w.heap.size, 0, none⟩) (Nat.le_refl _) _) (p := ⟨w.heap.size, 1, none⟩) (Nat.le_refl _) _
  | true =>
    have HS := Lib.hid hS
    have hl5 := (setVld_all hS).1
    have hv : sumV l crit false = rv (shares crit false l) := by simp [sumV, hS]
    rw [hv]
    clear hv hS
    go_enter Tryz.func108, Tryz.ntmps108
    go_wp2_with fail
    refine (spec_SetValid A l c _ (h.keep (bal (bal (Below.refl _ _) _) _)) hm).mono ?_
    rw [HS.out]
    rintro e w1 ⟨rfl, b1⟩
    obtain ⟨q0, q1⟩ := heap2 w (.cells #[.int .i64 0, .int .i64 0] 54) (.cells #[.int .i64 0, .int .i64 1] 54)
    have hB := Lib.hid ((b1.block w.heap.size (by simp; omega)).trans q0)
    have hO := Lib.hid ((b1.block (w.heap.size + 1) (by simp)).trans q1)
    have hz1 := b1.size
    simp only [World.size_alloc] at hz1
    have hb1 := bthru (bal (bal (Below.refl w.heap.size w) _) _) b1
    clear q0 q1
    go_wp2_with fail
    go_loopw [6] (fun i wr => ∃ k : Nat, i = .int .i64 (k : Int) ∧ k ≤ l.length ∧ Below w.heap.size w wr ∧ w.heap.size + 1 < wr.heap.size ∧ Hid (wr.heap[w.heap.size]? = some (.cells #[.int .i64 0, .int .i64 0] 54 (0, 0))) ∧
      Hid (wr.heap[w.heap.size + 1]? = some (.cells #[.int .i64 (shares crit false (l.take k)).num, .int .i64 ((shares crit false (l.take k)).den : Int)] 54 (0, 0)))) (fun i _ => l.length - (intOf i).toNat)
    case atStart => exact ⟨0, rfl, by omega, hb1, by omega, hB, by simpa [shares] using hO⟩
    case round =>
      clear hB hO
      obtain ⟨k, rfl, hk, hb, hzr, hB, hO⟩ := hrel
      by_cases hlt : k < l.length
      · obtain ⟨b, off, rfl, hbl, hc⟩ := h.keep hb (by omega)
        obtain ⟨c0, c1, c2, c3, c4⟩ := task_cells hc k hlt
        clear hc
        have hvt := (setVld_all HS.out).2 _ (List.getElem_mem hlt)
        have hnv := vld_nums hvt
        obtain ⟨n1, n2, n3, n4, n5⟩ := hnv
        have hts := Lib.hid (shares_take_succ crit false l k hlt)
        have r1 := Lib.hid (RIn_take HS.out crit false k)
        by_cases hcr : l[k].crit = crit
        · have hcb : (l[k].crit == crit) = true := by simp [hcr]
          have Hcr := Lib.hid hcr
          have r2 : Hid (RIn (shr false l[k])) := RIn_shr hvt false
          have r3 : Hid (RIn (shares crit false (l.take k) + shr false l[k])) := by
            have := RIn_take HS.out crit false (k + 1)
            rw [hts.out, if_pos hcr] at this
            exact this
          have hin : Hid (shIn l[k].low l[k].every = true) := by simp [Hid, shIn]; omega
          have hsh : Hid (mkRat l[k].low l[k].every.toNat = shr false l[k]) := rfl
          clear hcr hvt
          obtain ⟨wo, rfl⟩ : ∃ wo : World, wo = wr := ⟨_, rfl⟩
          have S_of : ∀ w' : World, Below wo.heap.size wo w' → w'.cell? ⟨b, off + k * 5, none⟩ = some (.int .i64 l[k].low) ∧ w'.cell? ⟨b, off + k * 5 + 3, none⟩ = some (.int .i64 l[k].every) ∧ Below wo.heap.size wo w' := fun w' hw =>
            ⟨(hw.cell (p := ⟨b, off + k * 5, none⟩) hbl).trans c0, (hw.cell (p := ⟨b, off + k * 5 + 3, none⟩) hbl).trans c3, hw⟩
          go_wp2_with fail
          go_region_held3 (fun w' => w'.cell? ⟨b, off + k * 5, none⟩ = some (.int .i64 l[k].low) ∧ w'.cell? ⟨b, off + k * 5 + 3, none⟩ = some (.int .i64 l[k].every) ∧ Below wo.heap.size wo w')
            ((refine S_of _ ?_; first | assumption | exact Below.drew (Below.refl _ _) | exact Below.drew (bal (Below.refl _ _) _) | exact (by assumption : _ ∧ _ ∧ Below wo.heap.size wo _).2.2 | (refine bal ?_ _; first | assumption | exact (by assumption : _ ∧ _ ∧ Below wo.heap.size wo _).2.2) | (refine bst (bst ?_ (p := ⟨_, 0, none⟩) ?_ _) (p := ⟨_, 1, none⟩) ?_ _ <;> first | assumption | exact (by assumption : _ ∧ _ ∧ Below wo.heap.size wo _).2.2 | exact Nat.le_refl _ | exact B5.size)))
            (first
              | (go_at_call 112; refine (spec_MakeShare_in _ _ (World.drew (World.alloc _ _)) hin.out).mono ?_; rw [hsh.out]; rintro e w5 ⟨rfl, b5⟩; have HN := Lib.hid ((b5.block wo.heap.size (by show wo.heap.size < (World.alloc wo _).heap.size; rw [World.size_alloc]; exact Nat.lt_succ_self _)).trans (heap_alloc_new wo _)); have hn5 : wo.heap.size < w5.heap.size := Nat.lt_of_lt_of_le (by show wo.heap.size < (World.alloc wo _).heap.size; rw [World.size_alloc]; exact Nat.lt_succ_self _) b5.size; have B5 : Below wo.heap.size wo w5 := bthru (by first | assumption | exact (by assumption : _ ∧ _ ∧ Below wo.heap.size wo _).2.2) b5; obtain ⟨y0, y1, yf⟩ := blk_two HN.out)
              | (go_at_call 112; refine (spec_MakeShare_in _ _ _ hin.out).mono ?_; rw [hsh.out]; rintro e w5 ⟨rfl, b5⟩; have B5 : Below wo.heap.size wo w5 := bthru (by first | assumption | exact (by assumption : _ ∧ _ ∧ Below wo.heap.size wo _).2.2) b5))
          all_goals (rename_i hS; replace hS := hS.2.2)
          · have hN := heap_alloc_new w5 (.cells #[.int .i64 (shr false l[k]).num, .int .i64 ((shr false l[k]).den : Int)] 54 (0, 0))
            have hnb : w.heap.size + 1 ≠ w5.heap.size := by have := B5.size; omega
            generalize hw : World.alloc w5 _ = wx at hN hS ⊢
            clear hw
            have pO := (hS.block _ hzr).trans hO.out
            have pB := Lib.hid ((hS.block w.heap.size (by omega)).trans hB.out)
            obtain ⟨n0, n1, nf⟩ := blk_two hN
            obtain ⟨p0, p1, pf⟩ := blk_two pO
            have PO := Lib.hid pO
            have hzx := hS.size
            clear hN pO
            go_wp2_with fail
            refine (spec_l2Add (shares crit false (l.take k)) (shr false l[k]) _ r1.out r2.out r3.out).mono ?_
            rintro e w7 ⟨rfl, b7⟩
            have hz7 := b7.size
            have sO := (b7.block (w.heap.size + 1) (by omega)).trans PO.out
            have SB := Lib.hid ((b7.block w.heap.size (by omega)).trans pB.out)
            clear n0 n1 nf p0 p1 pf
            obtain ⟨p0, p1, pf⟩ := blk_two sO
            have SO := Lib.hid sO
            clear sO
            go_wp2_with fail
            go_roundw
            case rel =>
              refine ⟨k + 1, by go_num, by omega, bst (bst (bthru (bthru hb hS) b7) (p := ⟨w.heap.size + 1, 0, none⟩) (Nat.le_succ _) _) (p := ⟨w.heap.size + 1, 1, none⟩) (Nat.le_succ _) _, by simp; omega, ?_, ?_⟩
              · exact (Below.heap_setCell _ _ _ _ (by simp)).trans ((Below.heap_setCell _ _ _ _ (by simp)).trans SB.out)
              · rw [Hid, hts.out, if_pos Hcr.out]
                exact blk_set2 SO.out _ _
            case measure => simp [intOf]; omega
          · have hN := blk_set2 HN.out (.int .i64 (shr false l[k]).num) (.int .i64 ((shr false l[k]).den : Int))
            have hnb : w.heap.size + 1 ≠ wo.heap.size := by omega
            generalize hw : (World.setCell (World.setCell w5 ⟨wo.heap.size, 0, none⟩ _) ⟨wo.heap.size, 1, none⟩ _) = wx at hN hS ⊢
            clear hw
            have pO := (hS.block _ hzr).trans hO.out
            have pB := Lib.hid ((hS.block w.heap.size (by omega)).trans hB.out)
            obtain ⟨n0, n1, nf⟩ := blk_two hN
            obtain ⟨p0, p1, pf⟩ := blk_two pO
            have PO := Lib.hid pO
            have hzx := hS.size
            clear hN pO
            go_wp2_with fail
            refine (spec_l2Add (shares crit false (l.take k)) (shr false l[k]) _ r1.out r2.out r3.out).mono ?_
            rintro e w7 ⟨rfl, b7⟩
            have hz7 := b7.size
            have sO := (b7.block (w.heap.size + 1) (by omega)).trans PO.out
            have SB := Lib.hid ((b7.block w.heap.size (by omega)).trans pB.out)
            clear n0 n1 nf p0 p1 pf
            obtain ⟨p0, p1, pf⟩ := blk_two sO
            have SO := Lib.hid sO
            clear sO
            go_wp2_with fail
            go_roundw
            case rel =>
              refine ⟨k + 1, by go_num, by omega, bst (bst (bthru (bthru hb hS) b7) (p := ⟨w.heap.size + 1, 0, none⟩) (Nat.le_succ _) _) (p := ⟨w.heap.size + 1, 1, none⟩) (Nat.le_succ _) _, by simp; omega, ?_, ?_⟩
              · exact (Below.heap_setCell _ _ _ _ (by simp)).trans ((Below.heap_setCell _ _ _ _ (by simp)).trans SB.out)
              · rw [Hid, hts.out, if_pos Hcr.out]
                exact blk_set2 SO.out _ _
            case measure => simp [intOf]; omega
        · have hcb : (l[k].crit == crit) = false := by simp [hcr]
          have Hcr := Lib.hid hcr
          clear hcr
          go_wp2_with fail
          go_roundw
          case rel => exact ⟨k + 1, by go_num, by omega, hb, hzr, hB, by rw [Hid, hts.out, if_neg Hcr.out, Rat.add_zero]; exact hO⟩
          case measure => simp [intOf]; omega
      · have hO' := hO.out
        rw [List.take_of_length_le (by omega)] at hO'
        obtain ⟨s0, s1, sf⟩ := blk_two hO'
        obtain ⟨z0, z1, zf⟩ := blk_two hB.out
        clear hO'
        go_wp2_with fail
        refine bodyPost_ret (v := rv (shares crit false l)) (by simp [results, Tryz.results108, go_sem, z0, z1]) rfl ⟨rfl, ?_⟩
        exact bst (bst hb (p := ⟨w.heap.size, 0, none⟩) (Nat.le_refl _) _) (p := ⟨w.heap.size, 1, none⟩) (Nat.le_refl _) _

def critT (t : Tk) : Tk := { t with low := t.high }
def critL (l : List Tk) : List Tk := (l.filter (·.crit)).map critT
theorem critL_snoc (l : List Tk) (t : Tk) : critL (l ++ [t]) = critL l ++ (if t.crit then [critT t] else []) := by
  simp only [critL, List.filter_append, List.map_append]
  cases h : t.crit <;> simp [h]
theorem critL_len (l : List Tk) : (critL l).length ≤ l.length := by
  rw [critL, List.length_map]
  exact List.length_filter_le _ _
theorem critL_vld {l : List Tk} (h : setVld l = true) : setVld (critL l) = true := by
  obtain ⟨h1, h2⟩ := setVld_all h
  have := critL_len l
  simp only [setVld, Bool.and_eq_true, decide_eq_true_eq, List.all_eq_true]
  refine ⟨by omega, fun t ht => ?_⟩
  simp only [critL, List.mem_map, List.mem_filter] at ht
  obtain ⟨s, ⟨hs, hc⟩, rfl⟩ := ht
  have hb := vld_nums (h2 s hs)
  simp only [vld, critT, hc, Bool.true_or, Bool.and_true, decide_eq_true_eq]
  omega
theorem shares_critL (l : List Tk) : shares true false (critL l) = shares true true l := by
  induction l with
  | nil => rfl
  | cons t l ih =>
    cases h : t.crit with
    | false =>
      have e : critL (t :: l) = critL l := by simp [critL, h]
      rw [e, ih]
      simp [shares, h, Rat.zero_add]
    | true =>
      have e : critL (t :: l) = critT t :: critL l := by simp [critL, h]
      rw [e]
      have h2 : (critT t).crit = true := h
      have h3 : shr false (critT t) = shr true t := rfl
      simp only [shares, h, h2, if_true, h3, ih]

set_option maxHeartbeats 1000000 in
theorem spec_CriticalOf_yes (A : Option Addr) (l : List Tk) (c : Nat) (w : World) (h : TS w A l) (hS : setVld l = true) :
    Calls Tryz.prog 202 #[.slice A l.length c] w (RetT w (critL l)) := by
  have hl5 := (setVld_all hS).1
  have hm : l.length ≤ maxLen := by unfold maxLen; omega
  have HS := Lib.hid hS
  clear hS
  go_enter Tryz.func202, Tryz.ntmps202
  go_wp2_with fail
  go_loopw [3, 4] (fun v i wr => ∃ (k n : Nat) (A' : Option Addr) (c' : Nat), i = .int .i64 (k : Int) ∧ v = .slice A' n c' ∧ k ≤ l.length ∧ Hid ((critL (l.take k)).length = n) ∧ n ≤ 5 ∧ OT w.heap.size wr A' c' (critL (l.take k)) ∧ Below w.heap.size w wr) (fun _ i _ => l.length - (intOf i).toNat)
  case atStart => exact ⟨0, 0, _, 0, rfl, rfl, by omega, rfl, by omega, OT_blank w _ (Nat.le_refl _), bal (Below.refl _ _) _⟩
  case round =>
    obtain ⟨k, n, A', c', rfl, rfl, hk, hn, hn5, hO, hb⟩ := hrel
    by_cases hlt : k < l.length
    · have hsn : Hid (critL (l.take (k + 1)) = critL (l.take k) ++ (if l[k].crit then [critT l[k]] else [])) := by rw [Hid, List.take_succ_eq_append_getElem hlt, critL_snoc]
      have hn6 : (critL (l.take (k + 1))).length ≤ 5 := by
        have := critL_len (l.take (k + 1))
        simp at this
        omega
      go_wp2_with fail
      refine (spec_SetValid A l c _ (h.keep hb) hm).mono ?_
      rw [HS.out]
      rintro e w1 ⟨rfl, b1⟩
      have B1 := bthru hb b1
      have O1 := OT_keep hO b1
      obtain ⟨b, off, rfl, hbl, hc⟩ := h.keep B1 (by omega)
      obtain ⟨c0, c1, c2, c3, c4⟩ := task_cells hc k hlt
      clear hc
      cases hcr : l[k].crit with
      | false =>
        rw [hcr] at c4
        have Hcr := Lib.hid hcr
        clear hcr
        go_wp2_with fail
        go_roundw
        case rel => exact ⟨k + 1, n, A', c', by go_num, rfl, by omega, by rw [Hid, hsn.out, Hcr.out]; simpa using hn.out, hn5, by rw [hsn.out, Hcr.out]; simpa using OT_alloc O1 _, bal B1 _⟩
        case measure => simp [intOf]; omega
      | true =>
        rw [hcr] at c4
        have hsn2 : Hid (critL (l.take (k + 1)) = critL (l.take k) ++ [critT l[k]]) := by rw [Hid, hsn.out, hcr]; rfl
        have hcells : Hid ((critT l[k]).cells = [.int .i64 l[k].high, .int .i64 l[k].high, .int .i64 l[k].due, .int .i64 l[k].every, .bool true]) := by simp [Hid, Tk.cells, critT, hcr]
        have hn7 : n + 1 ≤ 5 := by
          rw [hsn2.out, List.length_append, hn.out] at hn6
          simpa using hn6
        clear hcr
        go_wp2_with (at_builtin; refine wpList_app_task' _ rfl _ _ rfl w.heap.size A' (critL (l.take k)) n c' hn.out rfl (OT_alloc (OT_alloc O1 _) _) (w1.heap.size + 1) 1 (critT l[k]) _ 58 rfl (by have := heap_alloc_new (w1.alloc (.cells #[.int .i64 l[k].high, .int .i64 l[k].high, .int .i64 l[k].due, .int .i64 l[k].every, .bool true] 58)) (.cells #[.int .i64 l[k].high, .int .i64 l[k].high, .int .i64 l[k].due, .int .i64 l[k].every, .bool true] 58 (0, 0)); rw [World.size_alloc] at this; exact this) (by rw [hcells.out]) (by rw [hn.out]; omega) (by have := B1.size; simp; omega) ?_; intro A3 c3' w3 hO3 hg3 hb3)
        go_roundw
        case rel => exact ⟨k + 1, n + 1, A3, c3', by go_num, rfl, by omega, by rw [Hid, hsn2.out, List.length_append, hn.out]; rfl, hn7, by rw [hsn2.out]; exact hO3, (bal (bal B1 _) _).trans hb3⟩
        case measure => simp [intOf]; omega
    · obtain rfl : k = l.length := by omega
      go_wp2_with fail
      have e : l.take l.length = l := List.take_length
      rw [e] at hO hn
      have Hn := hn.out
      subst Hn
      go_ret
      exact ⟨A', c', rfl, hO, hb⟩

theorem spec_HighShare (A : Option Addr) (l : List Tk) (c : Nat) (w : World) (h : TS w A l) (hm : l.length ≤ maxLen) :
    Calls Tryz.prog 151 #[.slice A l.length c] w fun e w' => e = .returned (sumV l true true) ∧ Below w.heap.size w w' := by
  cases hS : setVld l with
  | false =>
    have hv : sumV l true true = sv 0 0 := by simp [sumV, hS]
    rw [hv]
    clear hv
    go_enter Tryz.func151, Tryz.ntmps151
    go_wp2_with fail
    refine (spec_SetValid A l c _ (h.keep (bal (Below.refl _ _) _)) hm).mono ?_
    rw [hS]
    rintro e w1 ⟨rfl, b1⟩
    have hB := (b1.block w.heap.size (by simp)).trans (heap_alloc_new w _)
    obtain ⟨x0, x1, xf⟩ := blk_two hB
    clear hB
    go_wp2_with fail
    refine bodyPost_ret (v := sv 0 0) (by simp [results, Tryz.results151, go_sem, x0, x1]) rfl ⟨rfl, ?_⟩
    exact bst (bst (bthru (bal (Below.refl _ _) _) b1) (p := ⟨w.heap.size, 0, none⟩) (Nat.le_refl _) _) (p := ⟨w.heap.size, 1, none⟩) (Nat.le_refl _) _
  | true =>
    have HS := Lib.hid hS
    have hv : sumV l true true = rv (shares true true l) := by simp [sumV, hS]
    have hv2 : Hid (sumV (critL l) true false = rv (shares true true l)) := by simp [Hid, sumV, critL_vld hS, shares_critL]
    have hlm : Hid ((critL l).length ≤ maxLen) := by
      have := critL_len l
      simp only [Hid]
      omega
    rw [hv]
    clear hv
    go_enter Tryz.func151, Tryz.ntmps151
    go_wp2_with fail
    refine (spec_SetValid A l c _ (h.keep (bal (Below.refl _ _) _)) hm).mono ?_
    rw [hS]
    clear hS
    rintro e w1 ⟨rfl, b1⟩
    have B1 := bthru (bal (Below.refl w.heap.size w) _) b1
    have hz1 := b1.size
    simp only [World.size_alloc] at hz1
    go_wp2_with fail
    refine (spec_CriticalOf_yes A l c _ (h.keep B1) HS.out).mono ?_
    rintro e w2 ⟨A2, c2, rfl, o2, b2⟩
    have hz2 := b2.size
    go_wp2_with fail
    refine (spec_LowShare A2 (critL l) c2 true _ o2.ts hlm.out).mono ?_
    rw [hv2.out]
    rintro e w3 ⟨rfl, b3⟩
    have hB := ((b3.block w.heap.size (by omega)).trans ((b2.block w.heap.size (by omega)).trans (b1.block w.heap.size (by simp)))).trans (heap_alloc_new w _)
    obtain ⟨x0, x1, xf⟩ := blk_two hB
    clear hB
    obtain ⟨r, hr⟩ : ∃ r, shares true true l = r := ⟨_, rfl⟩
    rw [hr]
    have Hr := Lib.hid hr
    clear hr
    go_wp2_with fail
    refine bodyPost_ret (v := rv r) (by simp [results, Tryz.results151, go_sem, x0, x1]) rfl ⟨by rw [Hr.out], ?_⟩
    exact bst (bst (bthru (bthru B1 b2) b3) (p := ⟨w.heap.size, 0, none⟩) (Nat.le_refl _) _) (p := ⟨w.heap.size, 1, none⟩) (Nat.le_refl _) _
theorem spec_l5One (w : World) : Calls Tryz.prog 66 #[] w fun e w' => e = .returned (sv 1 1) ∧ Below w.heap.size w w' := by
  go_enter Tryz.func66, Tryz.ntmps66
  go_wp2_with fail
  exact bodyPost_ret (v := sv 1 1) (by simp [results, Tryz.results66, go_sem]) rfl ⟨rfl, bal (Below.refl _ _) _⟩
def cmp1 (a : Rat) : Int := if a.num < (a.den : Int) then -1 else if (a.den : Int) < a.num then 1 else 0
theorem cmpR_one (a : Rat) : cmpR a 1 = cmp1 a := by simp [cmpR, cmp1]
theorem RIn_one : RIn 1 := ⟨by decide, by decide, by decide⟩
theorem spec_Cmp1 (a : Rat) (w : World) (ha : RIn a) :
    Calls Tryz.prog 110 #[rv a, sv 1 1] w fun e w' => e = .returned (.int .i64 (cmp1 a)) ∧ Below w.heap.size w w' := by
  have h := spec_CompareShares a 1 w ha RIn_one
  rw [cmpR_one] at h
  exact h
theorem cmp1_le (a : Rat) : decide (cmp1 a ≤ 0) = fitsR a := by
  unfold cmp1 fitsR
  split
  · simp; omega
  · split
    · simp; omega
    · simp; omega
theorem cmp1_gt (a : Rat) : decide (0 < cmp1 a) = !fitsR a := by
  rw [← cmp1_le, ← decide_not]
  simp
theorem cmp1_eq (a : Rat) : (cmp1 a == 0) = (a.num == (a.den : Int)) := by
  rw [Bool.eq_iff_iff, beq_iff_eq, beq_iff_eq]
  unfold cmp1
  split
  · omega
  · split <;> omega
theorem cmp1_bd (a : Rat) : -1 ≤ cmp1 a ∧ cmp1 a ≤ 1 := by
  unfold cmp1
  split
  · omega
  · split <;> omega

theorem spec_Implicit (A : Option Addr) (l : List Tk) (c : Nat) (w : World) (h : TS w A l) (hm : l.length ≤ maxLen) :
    Calls Tryz.prog 106 #[.slice A l.length c] w fun e w' => e = .returned (.bool (impl_ l)) ∧ Below w.heap.size w w' := by
  have hm' := hm
  unfold maxLen at hm'
  cases hS : setVld l with
  | false =>
    have Hf : Hid (impl_ l = false) := by simp [Hid, impl_, hS]
    have hne : 0 < l.length := by
      cases l with
      | nil => simp [setVld] at hS
      | cons => simp
    go_enter Tryz.func106, Tryz.ntmps106
    go_wp2_with fail
    go_loopw [3] (fun i wr => i = .int .i64 0 ∧ Below w.heap.size w wr) (fun _ _ => 0)
    case atStart => exact ⟨rfl, Below.refl _ _⟩
    case round =>
      obtain ⟨rfl, hb⟩ := hrel
      go_wp2_with fail
      refine (spec_SetValid A l c _ (h.keep hb) hm).mono ?_
      rw [hS]
      rintro e w1 ⟨rfl, b1⟩
      go_wp2_with fail
      refine (spec_SetValid A l c _ (h.keep (bthru hb b1)) hm).mono ?_
      rw [hS]
      rintro e w2 ⟨rfl, b2⟩
      go_wp2_with fail
      go_ret
      exact ⟨by rw [Hf.out]; rfl, bthru (bthru hb b1) b2⟩
  | true =>
    have hl5 := (setVld_all hS).1
    have Hs := Lib.hid hS
    have Hf : Hid (impl_ l = impAll l l.length) := by simp [Hid, impl_, hS]
    clear hS
    go_enter Tryz.func106, Tryz.ntmps106
    go_wp2_with fail
    go_loopw [3] (fun i wr => ∃ k : Nat, k ≤ l.length ∧ i = .int .i64 (k : Int) ∧ Hid (impAll l k = true) ∧ Below w.heap.size w wr) (fun i _ => l.length - (intOf i).toNat)
    case atStart => exact ⟨0, by omega, rfl, rfl, Below.refl _ _⟩
    case round =>
      obtain ⟨k, hk, rfl, hall, hb⟩ := hrel
      by_cases hlt : k < l.length
      · go_wp2_with fail
        refine (spec_SetValid A l c _ (h.keep hb) hm).mono ?_
        rw [Hs.out]
        rintro e w1 ⟨rfl, b1⟩
        have B1 := bthru hb b1
        obtain ⟨b, off, rfl, hbl, hc⟩ := h.keep B1 (by omega)
        obtain ⟨c0, c1, c2, c3, c4⟩ := cells_tk hc k hlt
        clear hc
        have q0 : (0 : Int) ≤ (k : Int) := by omega
        have q1 : (k : Int) < (l.length : Int) := by omega
        by_cases hd : (tkAt l k).due = (tkAt l k).every
        · have hgood := Lib.hid (impAll_succ hall.out hd)
          have hne : ((tkAt l k).due != (tkAt l k).every) = false := by simp [hd]
          clear hd
          go_wp2_with fail
          go_quiet (fail)
          go_wp2_with fail
          go_roundw
          case rel => exact ⟨k + 1, by omega, by go_num, hgood, bdr B1 _⟩
          case measure => simp [intOf]; omega
        · have hbad := Lib.hid (impAll_bad hlt hd)
          have hne : ((tkAt l k).due != (tkAt l k).every) = true := by simpa using hd
          clear hd
          go_wp2_with fail
          go_quiet (fail)
          go_wp2_with fail
          go_ret
          exact ⟨by rw [Hf.out, hbad.out]; rfl, bdr B1 _⟩
      · have hk' : Hid (k = l.length) := show k = l.length by omega
        go_wp2_with fail
        refine (spec_SetValid A l c _ (h.keep hb) hm).mono ?_
        rw [Hs.out]
        rintro e w1 ⟨rfl, b1⟩
        go_wp2_with fail
        go_ret
        have ha := hall.out
        rw [hk'.out] at ha
        exact ⟨by rw [Hf.out, ha]; rfl, bthru hb b1⟩

theorem RIn_plain {l : List Tk} (h : setVld l = true) : RIn (ua l + uh l) ∧ RIn (ua l + ub l) := by
  obtain ⟨hl5, hall⟩ := setVld_all h
  have p1 := evProd_pos false l hall
  have p2 := evProd_pos true l hall
  have hpl := Nat.le_trans (evProd_le l hall) (pow_le5' hl5)
  have d1 := shares_dvd false false l hall
  have d2 := shares_dvd true true l hall
  have d3 := shares_dvd true false l hall
  have b1 := shares_bd false false l hall
  have b2 := shares_bd true true l hall
  have b3 := shares_bd true false l hall
  have h5 : ((l.length : Nat) : Rat) ≤ 5 := by exact_mod_cast hl5
  have hn0 : evProd true l * evProd false l ≠ 0 := Nat.mul_ne_zero (by omega) (by omega)
  have key : ∀ x y : Rat, 0 ≤ x → 0 ≤ y → x ≤ 5 → y ≤ 5 → x.den ∣ evProd false l → y.den ∣ evProd true l → RIn (x + y) := by
    intro x y x0 y0 x5 y5 dx dy
    have hd := add_den_dvd hn0 (Nat.dvd_trans dx (Nat.dvd_mul_left _ _)) (Nat.dvd_trans dy (Nat.dvd_mul_right _ _))
    have h1 : x + y ≤ ((10 : Nat) : Rat) := by grind
    have h3 := num_le_of_le h1
    have h6 := Nat.le_of_dvd (by omega) hd
    exact ⟨rat_num_le (by grind), by omega, by omega⟩
  exact ⟨key _ _ b1.1 b2.1 (Rat.le_trans b1.2 h5) (Rat.le_trans b2.2 h5) d1 d2, key _ _ b1.1 b3.1 (Rat.le_trans b1.2 h5) (Rat.le_trans b3.2 h5) d1 d3⟩

set_option maxHeartbeats 1000000 in
theorem spec_HoldsPlain (A : Option Addr) (l : List Tk) (c : Nat) (w : World) (h : TS w A l) (hm : l.length ≤ maxLen) :
    Calls Tryz.prog 107 #[.slice A l.length c] w fun e w' => e = .returned (.bool (hldPlain l)) ∧ Below w.heap.size w w' := by
  cases hI : impl_ l with
  | false =>
    have Hf : Hid (hldPlain l = false) := by simp [Hid, hldPlain, hI]
    go_enter Tryz.func107, Tryz.ntmps107
    go_wp2_with fail
    refine (spec_Implicit A l c _ h hm).mono ?_
    rw [hI]
    rintro e w1 ⟨rfl, b1⟩
    go_wp2_with fail
    go_ret
    exact ⟨by rw [Hf.out]; rfl, b1⟩
  | true =>
    have hs := impl_vld hI
    have Hf : Hid (hldPlain l = fitsR (ua l + uh l)) := by simp [Hid, hldPlain, hI]
    have ea : Hid (sumV l false false = rv (ua l)) := sumV_yes hs false false
    have eh : Hid (sumV l true true = rv (uh l)) := sumV_yes hs true true
    have ra : Hid (RIn (ua l)) := RIn_shares hs false false
    have rh : Hid (RIn (uh l)) := RIn_shares hs true true
    have rs : Hid (RIn (ua l + uh l)) := (RIn_plain hs).1
    clear hs
    go_enter Tryz.func107, Tryz.ntmps107
    go_wp2_with fail
    refine (spec_Implicit A l c _ h hm).mono ?_
    rw [hI]
    rintro e w1 ⟨rfl, b1⟩
    go_wp2_with fail
    refine (spec_LowShare A l c false _ (h.keep b1) hm).mono ?_
    rw [ea.out]
    rintro e w2 ⟨rfl, b2⟩
    have B2 := bthru b1 b2
    go_wp2_with fail
    refine (spec_HighShare A l c _ (h.keep B2) hm).mono ?_
    rw [eh.out]
    rintro e w3 ⟨rfl, b3⟩
    have B3 := bthru B2 b3
    go_wp2_with fail
    refine (spec_l2Add (ua l) (uh l) _ ra.out rh.out rs.out).mono ?_
    rintro e w4 ⟨rfl, b4⟩
    have B4 := bthru B3 b4
    generalize ua l + uh l = r at *
    go_wp2_with fail
    have hB := heap_alloc_new w4 (.cells #[.int .i64 r.num, .int .i64 (r.den : Int)] 54 (0, 0))
    have hbl : w4.heap.size < (w4.alloc (.cells #[.int .i64 r.num, .int .i64 (r.den : Int)] 54 (0, 0))).heap.size := by simp
    have B5 := bal B4 (.cells #[.int .i64 r.num, .int .i64 (r.den : Int)] 54 (0, 0))
    generalize hg : World.alloc w4 _ = wx at hB hbl B5 ⊢
    clear hg
    have S_of : ∀ w' : World, Below wx.heap.size wx w' → w'.cell? ⟨w4.heap.size, 0, none⟩ = some (.int .i64 r.num) ∧ w'.cell? ⟨w4.heap.size, 1, none⟩ = some (.int .i64 (r.den : Int)) ∧ Below wx.heap.size wx w' := fun w' hw => by
      obtain ⟨h0, h1, _⟩ := blk_two ((hw.block _ hbl).trans hB)
      exact ⟨h0, h1, hw⟩
    clear hB
    have hq := Lib.hid (cmp1_le r)
    have hcb := cmp1_bd r
    go_region_held3 (fun w' => w'.cell? ⟨w4.heap.size, 0, none⟩ = some (.int .i64 r.num) ∧ w'.cell? ⟨w4.heap.size, 1, none⟩ = some (.int .i64 (r.den : Int)) ∧ Below wx.heap.size wx w')
      ((refine S_of _ ?_; first | assumption | exact Below.drew (Below.refl _ _) | exact (by assumption : _ ∧ _ ∧ Below wx.heap.size wx _).2.2))
      (first
        | (go_at_call 66; refine (spec_l5One _).mono ?_; rintro e w5 ⟨rfl, b5⟩; have B6 : Below wx.heap.size wx w5 := bthru (by first | assumption | exact (by assumption : _ ∧ _ ∧ Below wx.heap.size wx _).2.2) b5)
        | (go_at_call 110; refine (spec_Cmp1 r _ rs.out).mono ?_; rintro e w6 ⟨rfl, b6⟩; have B7 : Below wx.heap.size wx w6 := bthru (by first | assumption | exact (by assumption : _ ∧ _ ∧ Below wx.heap.size wx _).2.2) b6))
    all_goals go_wp2_with fail
    all_goals go_ret
    all_goals exact ⟨by rw [Hf.out, ← hq.out]; rfl, bthru B5 (by first | assumption | exact (by assumption : _ ∧ _ ∧ Below wx.heap.size wx _).2.2)⟩
end Go.Proofs.YtmkjmancmiphfaaGreatDoor
