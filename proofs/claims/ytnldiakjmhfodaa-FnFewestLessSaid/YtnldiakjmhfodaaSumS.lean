/-
  LowShare, CriticalOf, HighShare: the reference's.
-/
import Derived.Test.YtnldiakjmhfodaaAddS
import Derived.Test.YtnldiakjmhfodaaAsg
namespace Go.Proofs.Ytnldiakjmhfodaa
open Go.RowKit

theorem spec_MakeShare_in (n d : Int) (w : World) (h : shIn n d = true) :
    Calls Try.prog 119 #[.int .i64 n, .int .i64 d] w fun e w' => e = .returned (.tuple #[rv (mkRat n d.toNat), .bool true]) ∧ Below w.heap.size w w' := by
  refine (spec_MakeShare n d w).mono ?_
  rintro e w1 (⟨_, rfl, b1⟩ | ⟨hf, _, _⟩)
  · exact ⟨rfl, b1⟩
  · rw [h] at hf
    cases hf
theorem RIn_take {l : List Tk} (h : setVld l = true) (crit high : Bool) (k : Nat) : RIn (shares crit high (l.take k)) :=
  RIn_shares (setVld_sub (Sub.sub (List.take_sublist k l)) h) crit high
theorem RIn_shr {t : Tk} (h : vld t = true) (high : Bool) : RIn (shr high t) := by
  have h1 := shr_le (high := high) h
  have h2 := shr_den (high := high) h
  exact RIn_of_den (n := 1) h1.1 (by simpa using h1.2) (by omega) (by omega)

set_option maxHeartbeats 2000000 in
set_option maxRecDepth 100000 in
theorem spec_LowShare (A : Option Addr) (l : List Tk) (c : Nat) (crit : Bool) (w : World) (h : TS w A l) (hm : l.length ≤ maxLen) :
    Calls Try.prog 117 #[.slice A l.length c, .bool crit] w fun e w' => e = .returned (sumV l crit false) ∧ Below w.heap.size w w' := by
  cases hS : setVld l with
  | false =>
    have hv : sumV l crit false = sv 0 0 := by simp [sumV, hS]
    rw [hv]
    clear hv
    go_enter Try.func117, Try.ntmps117
    go_wp2_with fail
    refine (spec_SetValid A l c _ (h.keep (bal (bal (Below.refl _ _) _) _)) hm).mono ?_
    rw [hS]
    rintro e w1 ⟨rfl, b1⟩
    obtain ⟨q0, q1⟩ := heap2 w (.cells #[.int .i64 0, .int .i64 0] 63) (.cells #[.int .i64 0, .int .i64 1] 63)
    have hB := (b1.block w.heap.size (by simp; omega)).trans q0
    obtain ⟨x0, x1, xf⟩ := blk_two hB
    clear hB q0 q1
    go_wp2_with fail
    refine bodyPost_ret (v := sv 0 0) (by simp [results, Try.results117, go_sem, x0, x1]) rfl ⟨rfl, ?_⟩
    exact bst (bst (bthru (bal (bal (Below.refl _ _) _) _) b1) (p := ⟨w.heap.size, 0, none⟩) (Nat.le_refl _) _) (p := ⟨w.heap.size, 1, none⟩) (Nat.le_refl _) _
  | true =>
    have HS := Lib.hid hS
    have hl5 := (setVld_all hS).1
    have hv : sumV l crit false = rv (shares crit false l) := by simp [sumV, hS]
    rw [hv]
    clear hv hS
    go_enter Try.func117, Try.ntmps117
    go_wp2_with fail
    refine (spec_SetValid A l c _ (h.keep (bal (bal (Below.refl _ _) _) _)) hm).mono ?_
    rw [HS.out]
    rintro e w1 ⟨rfl, b1⟩
    obtain ⟨q0, q1⟩ := heap2 w (.cells #[.int .i64 0, .int .i64 0] 63) (.cells #[.int .i64 0, .int .i64 1] 63)
    have hB := Lib.hid ((b1.block w.heap.size (by simp; omega)).trans q0)
    have hO := Lib.hid ((b1.block (w.heap.size + 1) (by simp)).trans q1)
    have hz1 := b1.size
    simp only [World.size_alloc] at hz1
    have hb1 := bthru (bal (bal (Below.refl w.heap.size w) _) _) b1
    clear q0 q1
    go_wp2_with fail
    go_loopw [6] (fun i wr => ∃ k : Nat, i = .int .i64 (k : Int) ∧ k ≤ l.length ∧ Below w.heap.size w wr ∧ w.heap.size + 1 < wr.heap.size ∧ Hid (wr.heap[w.heap.size]? = some (.cells #[.int .i64 0, .int .i64 0] 63 (0, 0))) ∧
      Hid (wr.heap[w.heap.size + 1]? = some (.cells #[.int .i64 (shares crit false (l.take k)).num, .int .i64 ((shares crit false (l.take k)).den : Int)] 63 (0, 0)))) (fun i _ => l.length - (intOf i).toNat)
    case atStart => exact ⟨0, rfl, by omega, hb1, by omega, hB, by simpa [shares] using hO⟩
    case round =>
      clear hB hO
      obtain ⟨k, rfl, hk, hb, hzr, hB, hO⟩ := hrel
      by_cases hlt : k < l.length
      · obtain ⟨b, off, rfl, hbl, hc⟩ := h.keep hb (by omega)
        obtain ⟨c0, c1, c2, c3, c4⟩ := task_cells hc k hlt
        clear hc
        have hvt := (setVld_all HS.out).2 _ (List.getElem_mem hlt)
        have hnv := vld_nums hvt
        obtain ⟨n1, n2, n3, n4, n5⟩ := hnv
        have hts := Lib.hid (shares_take_succ crit false l k hlt)
        have r1 := Lib.hid (RIn_take HS.out crit false k)
        by_cases hcr : l[k].crit = crit
        · have hcb : (l[k].crit == crit) = true := by simp [hcr]
          have Hcr := Lib.hid hcr
          have r2 : Hid (RIn (shr false l[k])) := RIn_shr hvt false
          have r3 : Hid (RIn (shares crit false (l.take k) + shr false l[k])) := by
            have := RIn_take HS.out crit false (k + 1)
            rw [hts.out, if_pos hcr] at this
            exact this
          have hin : Hid (shIn l[k].low l[k].every = true) := by simp [Hid, shIn]; omega
          have hsh : Hid (mkRat l[k].low l[k].every.toNat = shr false l[k]) := rfl
          clear hcr hvt
          obtain ⟨wo, rfl⟩ : ∃ wo : World, wo = wr := ⟨_, rfl⟩
          have S_of : ∀ w' : World, Below wo.heap.size wo w' → w'.cell? ⟨b, off + k * 5, none⟩ = some (.int .i64 l[k].low) ∧ w'.cell? ⟨b, off + k * 5 + 3, none⟩ = some (.int .i64 l[k].every) ∧ Below wo.heap.size wo w' := fun w' hw =>
            ⟨(hw.cell (p := ⟨b, off + k * 5, none⟩) hbl).trans c0, (hw.cell (p := ⟨b, off + k * 5 + 3, none⟩) hbl).trans c3, hw⟩
          go_wp2_with fail
          go_region_held3 (fun w' => w'.cell? ⟨b, off + k * 5, none⟩ = some (.int .i64 l[k].low) ∧ w'.cell? ⟨b, off + k * 5 + 3, none⟩ = some (.int .i64 l[k].every) ∧ Below wo.heap.size wo w')
            ((refine S_of _ ?_; first | assumption | exact Below.drew (Below.refl _ _) | exact Below.drew (bal (Below.refl _ _) _) | exact (by assumption : _ ∧ _ ∧ Below wo.heap.size wo _).2.2 | (refine bal ?_ _; first | assumption | exact (by assumption : _ ∧ _ ∧ Below wo.heap.size wo _).2.2) | (refine bst (bst ?_ (p := ⟨_, 0, none⟩) ?_ _) (p := ⟨_, 1, none⟩) ?_ _ <;> first | assumption | exact (by assumption : _ ∧ _ ∧ Below wo.heap.size wo _).2.2 | exact Nat.le_refl _ | exact B5.size)))
            (first
              | (go_at_call 119; refine (spec_MakeShare_in _ _ (World.drew (World.alloc _ _)) hin.out).mono ?_; rw [hsh.out]; rintro e w5 ⟨rfl, b5⟩; have HN := Lib.hid ((b5.block wo.heap.size (by show wo.heap.size < (World.alloc wo _).heap.size; rw [World.size_alloc]; exact Nat.lt_succ_self _)).trans (heap_alloc_new wo _)); have hn5 : wo.heap.size < w5.heap.size := Nat.lt_of_lt_of_le (by show wo.heap.size < (World.alloc wo _).heap.size; rw [World.size_alloc]; exact Nat.lt_succ_self _) b5.size; have B5 : Below wo.heap.size wo w5 := bthru (by first | assumption | exact (by assumption : _ ∧ _ ∧ Below wo.heap.size wo _).2.2) b5; obtain ⟨y0, y1, yf⟩ := blk_two HN.out)
              | (go_at_call 119; refine (spec_MakeShare_in _ _ _ hin.out).mono ?_; rw [hsh.out]; rintro e w5 ⟨rfl, b5⟩; have B5 : Below wo.heap.size wo w5 := bthru (by first | assumption | exact (by assumption : _ ∧ _ ∧ Below wo.heap.size wo _).2.2) b5))
          all_goals (rename_i hS; replace hS := hS.2.2)
          · have hN := heap_alloc_new w5 (.cells #[.int .i64 (shr false l[k]).num, .int .i64 ((shr false l[k]).den : Int)] 63 (0, 0))
            have hnb : w.heap.size + 1 ≠ w5.heap.size := by have := B5.size; omega
            generalize hw : World.alloc w5 _ = wx at hN hS ⊢
            clear hw
            have pO := (hS.block _ hzr).trans hO.out
            have pB := Lib.hid ((hS.block w.heap.size (by omega)).trans hB.out)
            obtain ⟨n0, n1, nf⟩ := blk_two hN
            obtain ⟨p0, p1, pf⟩ := blk_two pO
            have PO := Lib.hid pO
            have hzx := hS.size
            clear hN pO
            go_wp2_with fail
            refine (spec_l2Add (shares crit false (l.take k)) (shr false l[k]) _ r1.out r2.out r3.out).mono ?_
            rintro e w7 ⟨rfl, b7⟩
            have hz7 := b7.size
            have sO := (b7.block (w.heap.size + 1) (by omega)).trans PO.out
            have SB := Lib.hid ((b7.block w.heap.size (by omega)).trans pB.out)
            clear n0 n1 nf p0 p1 pf
            obtain ⟨p0, p1, pf⟩ := blk_two sO
            have SO := Lib.hid sO
            clear sO
            go_wp2_with fail
            go_roundw
            case rel =>
              refine ⟨k + 1, by go_num, by omega, bst (bst (bthru (bthru hb hS) b7) (p := ⟨w.heap.size + 1, 0, none⟩) (Nat.le_succ _) _) (p := ⟨w.heap.size + 1, 1, none⟩) (Nat.le_succ _) _, by simp; omega, ?_, ?_⟩
              · exact (Below.heap_setCell _ _ _ _ (by simp)).trans ((Below.heap_setCell _ _ _ _ (by simp)).trans SB.out)
              · rw [Hid, hts.out, if_pos Hcr.out]
                exact blk_set2 SO.out _ _
            case measure => simp [intOf]; omega
          · have hN := blk_set2 HN.out (.int .i64 (shr false l[k]).num) (.int .i64 ((shr false l[k]).den : Int))
            have hnb : w.heap.size + 1 ≠ wo.heap.size := by omega
            generalize hw : (World.setCell (World.setCell w5 ⟨wo.heap.size, 0, none⟩ _) ⟨wo.heap.size, 1, none⟩ _) = wx at hN hS ⊢
            clear hw
            have pO := (hS.block _ hzr).trans hO.out
            have pB := Lib.hid ((hS.block w.heap.size (by omega)).trans hB.out)
            obtain ⟨n0, n1, nf⟩ := blk_two hN
            obtain ⟨p0, p1, pf⟩ := blk_two pO
            have PO := Lib.hid pO
            have hzx := hS.size
            clear hN pO
            go_wp2_with fail
            refine (spec_l2Add (shares crit false (l.take k)) (shr false l[k]) _ r1.out r2.out r3.out).mono ?_
            rintro e w7 ⟨rfl, b7⟩
            have hz7 := b7.size
            have sO := (b7.block (w.heap.size + 1) (by omega)).trans PO.out
            have SB := Lib.hid ((b7.block w.heap.size (by omega)).trans pB.out)
            clear n0 n1 nf p0 p1 pf
            obtain ⟨p0, p1, pf⟩ := blk_two sO
            have SO := Lib.hid sO
            clear sO
            go_wp2_with fail
            go_roundw
            case rel =>
              refine ⟨k + 1, by go_num, by omega, bst (bst (bthru (bthru hb hS) b7) (p := ⟨w.heap.size + 1, 0, none⟩) (Nat.le_succ _) _) (p := ⟨w.heap.size + 1, 1, none⟩) (Nat.le_succ _) _, by simp; omega, ?_, ?_⟩
              · exact (Below.heap_setCell _ _ _ _ (by simp)).trans ((Below.heap_setCell _ _ _ _ (by simp)).trans SB.out)
              · rw [Hid, hts.out, if_pos Hcr.out]
                exact blk_set2 SO.out _ _
            case measure => simp [intOf]; omega
        · have hcb : (l[k].crit == crit) = false := by simp [hcr]
          have Hcr := Lib.hid hcr
          clear hcr
          go_wp2_with fail
          go_roundw
          case rel => exact ⟨k + 1, by go_num, by omega, hb, hzr, hB, by rw [Hid, hts.out, if_neg Hcr.out, Rat.add_zero]; exact hO⟩
          case measure => simp [intOf]; omega
      · have hO' := hO.out
        rw [List.take_of_length_le (by omega)] at hO'
        obtain ⟨s0, s1, sf⟩ := blk_two hO'
        obtain ⟨z0, z1, zf⟩ := blk_two hB.out
        clear hO'
        go_wp2_with fail
        refine bodyPost_ret (v := rv (shares crit false l)) (by simp [results, Try.results117, go_sem, z0, z1]) rfl ⟨rfl, ?_⟩
        exact bst (bst hb (p := ⟨w.heap.size, 0, none⟩) (Nat.le_refl _) _) (p := ⟨w.heap.size, 1, none⟩) (Nat.le_refl _) _
end Go.Proofs.Ytnldiakjmhfodaa
