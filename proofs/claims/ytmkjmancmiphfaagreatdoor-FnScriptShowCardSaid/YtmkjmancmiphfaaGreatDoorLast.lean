/-
  CanBeLast: the program's and the reference's.
-/
import Derived.Test.YtmkjmancmiphfaaGreatDoorOrd
import Derived.Test.YtmkjmancmiphfaaGreatDoorHoldsBoth
namespace Go.Proofs.YtmkjmancmiphfaaGreatDoor
open Go.RowKit

def canLast (l : List Tk) (x : Int) : Bool := plc l x && lastOk l x.toNat
theorem moved_perm {l : List Tk} {k : Nat} (hk : k < l.length) : (l.eraseIdx k ++ [tkAt l k]).Perm l := by
  rw [tkAt_eq l k hk]
  exact (List.perm_append_comm (l₁ := l.eraseIdx k) (l₂ := [l[k]])).trans (idx_perm l k hk)
theorem moved_vld {l : List Tk} (hs : setVld l = true) {k : Nat} (hk : k < l.length) : setVld (l.eraseIdx k ++ [tkAt l k]) = true := setVld_sub (Sub.perm (moved_perm hk)) hs
theorem last_eq {l : List Tk} {k : Nat} : holdsAt (l.eraseIdx k ++ [tkAt l k]) (l.eraseIdx k).length = lastOk l k := by
  have e : tkAt (l.eraseIdx k ++ [tkAt l k]) (l.eraseIdx k).length = tkAt l k := by
    rw [tkAt_eq _ _ (by simp)]
    simp
  rw [holdsAt_eq (by simp), e, List.take_left, lastOk]
theorem canLast_eq {l : List Tk} (hs : setVld l = true) {k : Nat} (hk : k < l.length) : holdsX (l.eraseIdx k ++ [tkAt l k]) (((l.eraseIdx k).length : Nat) : Int) = lastOk l k := by
  rw [holdsX_nat (moved_vld hs hk) (by simp), last_eq]
theorem TS_blk {w : World} {b : Nat} {t : Tk} {ty : TypeId} {cs : Array Value} (h : w.heap[b]? = some (.cells cs ty (0, 0))) (hcs : cs.toList = t.cells) : TS w (some ⟨b, 0, none⟩) [t] := by
  intro _
  refine ⟨b, 0, rfl, (Array.getElem?_eq_some_iff.1 h).1, fun j u hu => ?_⟩
  rw [Nat.zero_add, cell_of_row w b j cs ty (0, 0) h, ← Array.getElem?_toList, hcs]
  simpa [flat] using hu

set_option maxHeartbeats 2000000 in
set_option maxRecDepth 100000 in
theorem spec_CanBeLast (A : Option Addr) (l : List Tk) (c : Nat) (x : Int) (w : World) (h : TS w A l) (hm : l.length ≤ maxLen) (hlc : l.length ≤ c) :
    Calls Tryz.prog 146 #[.slice A l.length c, .int .i64 x] w fun e w' => e = .returned (.bool (canLast l x)) ∧ Below w.heap.size w w' := by
  cases hP : plc l x with
  | false =>
    have hv : Hid (canLast l x = false) := by simp [Hid, canLast, hP]
    go_enter Tryz.func146, Tryz.ntmps146
    go_wp2_with fail
    refine (spec_l3At A l c x _ h hm).mono ?_
    rw [hP]
    rintro e w1 ⟨rfl, b1⟩
    go_wp2_with fail
    go_ret
    exact ⟨by rw [hv.out]; rfl, b1⟩
  | true =>
    obtain ⟨hs, hl5, hlt, hx⟩ := plc_yes hP
    have hv : Hid (canLast l x = lastOk l x.toNat) := by simp [Hid, canLast, hP]
    obtain ⟨n, rfl⟩ : ∃ n : Nat, x = (n : Int) := ⟨_, hx⟩
    rw [Int.toNat_natCast] at *
    have HS := Lib.hid hs
    clear hx hs
    go_enter Tryz.func146, Tryz.ntmps146
    go_wp2_with fail
    refine (spec_l3At A l c n _ h hm).mono ?_
    rw [hP]
    clear hP
    rintro e w1 ⟨rfl, b1⟩
    obtain ⟨b, off, rfl, hbl, hc⟩ := h.keep b1 (by omega)
    obtain ⟨c0, c1, c2, c3, c4⟩ := cells_tk hc n hlt
    clear hc
    have S_of : ∀ w' : World, Below w1.heap.size w1 w' → w'.cell? ⟨b, off + n * 5, none⟩ = some (.int .i64 (tkAt l n).low) ∧ w'.cell? ⟨b, off + n * 5 + 1, none⟩ = some (.int .i64 (tkAt l n).high) ∧ w'.cell? ⟨b, off + n * 5 + 2, none⟩ = some (.int .i64 (tkAt l n).due) ∧
        w'.cell? ⟨b, off + n * 5 + 3, none⟩ = some (.int .i64 (tkAt l n).every) ∧ w'.cell? ⟨b, off + n * 5 + 4, none⟩ = some (.bool (tkAt l n).crit) ∧ Below w1.heap.size w1 w' := fun w' hw =>
      ⟨(hw.cell (p := ⟨b, off + n * 5, none⟩) hbl).trans c0, (hw.cell (p := ⟨b, off + n * 5 + 1, none⟩) hbl).trans c1, (hw.cell (p := ⟨b, off + n * 5 + 2, none⟩) hbl).trans c2, (hw.cell (p := ⟨b, off + n * 5 + 3, none⟩) hbl).trans c3, (hw.cell (p := ⟨b, off + n * 5 + 4, none⟩) hbl).trans c4, hw⟩
    have q0 : (0 : Int) ≤ (n : Int) := by omega
    have q1 : (n : Int) < (l.length : Int) := by omega
    have el : Hid ((l.eraseIdx n).length = l.length - 1) := List.length_eraseIdx_of_lt hlt
    have el5 : (l.eraseIdx n).length ≤ 5 := by rw [el.out]; omega
    clear c0 c1 c2 c3 c4
    go_wp2_with fail
    go_region_held3 (fun w' => w'.cell? ⟨b, off + n * 5, none⟩ = some (.int .i64 (tkAt l n).low) ∧ w'.cell? ⟨b, off + n * 5 + 1, none⟩ = some (.int .i64 (tkAt l n).high) ∧ w'.cell? ⟨b, off + n * 5 + 2, none⟩ = some (.int .i64 (tkAt l n).due) ∧
        w'.cell? ⟨b, off + n * 5 + 3, none⟩ = some (.int .i64 (tkAt l n).every) ∧ w'.cell? ⟨b, off + n * 5 + 4, none⟩ = some (.bool (tkAt l n).crit) ∧ Below w1.heap.size w1 w')
      ((refine S_of _ ?_; first | assumption | exact Below.drew (Below.refl _ _) | exact Below.drew (bal (Below.refl _ _) _) | exact (by assumption : _ ∧ _ ∧ _ ∧ _ ∧ _ ∧ Below w1.heap.size w1 _).2.2.2.2.2 | (refine bal ?_ _; first | assumption | exact (by assumption : _ ∧ _ ∧ _ ∧ _ ∧ _ ∧ Below w1.heap.size w1 _).2.2.2.2.2)))
      (first
        | (go_at_call 199; refine (spec_l4Without (some ⟨b, off, none⟩) l c n (World.drew (World.alloc _ _)) (h.keep (bthru b1 (by first | assumption | exact (by assumption : _ ∧ _ ∧ _ ∧ _ ∧ _ ∧ Below w1.heap.size w1 _).2.2.2.2.2))) hlt hlc (by omega)).mono ?_; rintro e w5 ⟨A5, c5, rfl, o5, b5⟩; have o5 : OT w1.heap.size w5 A5 c5 (l.eraseIdx n) := own_base o5 (by simp); have HN := Lib.hid ((b5.block w1.heap.size (by show w1.heap.size < (World.alloc w1 _).heap.size; rw [World.size_alloc]; exact Nat.lt_succ_self _)).trans (heap_alloc_new w1 _)); have B5 : Below w1.heap.size w1 w5 := bthru (by first | assumption | exact (by assumption : _ ∧ _ ∧ _ ∧ _ ∧ _ ∧ Below w1.heap.size w1 _).2.2.2.2.2) b5)
        | (go_at_call 199; refine (spec_l4Without (some ⟨b, off, none⟩) l c n _ (h.keep (bthru b1 (by first | assumption | exact (by assumption : _ ∧ _ ∧ _ ∧ _ ∧ _ ∧ Below w1.heap.size w1 _).2.2.2.2.2))) hlt hlc (by omega)).mono ?_; rintro e w5 ⟨A5, c5, rfl, o5, b5⟩; have B5 : Below w1.heap.size w1 w5 := bthru (by first | assumption | exact (by assumption : _ ∧ _ ∧ _ ∧ _ ∧ _ ∧ Below w1.heap.size w1 _).2.2.2.2.2) b5; have o5 : OT w1.heap.size w5 A5 c5 (l.eraseIdx n) := own_base o5 (by simp))
        | (have hsrc := HN.out; refine step_app_tasks rfl (.tmp 12) (.tmp 17) rfl w1.heap.size A5 (l.eraseIdx n) _ c5 rfl (by simp [Act.eval]) o5 ⟨w1.heap.size, 0, none⟩ 1 1 [tkAt l n] rfl (by simp [Act.eval]) (TS_blk hsrc rfl) (by rw [el.out]; omega) (by simp) B5.size ?_; intro A7 c7 w7 o7 g7 b7; clear hsrc; have B7 : Below w1.heap.size w1 w7 := B5.trans b7)
        | (refine step_app_tasks rfl (.tmp 12) (.tmp 17) rfl w1.heap.size A5 (l.eraseIdx n) _ c5 rfl (by simp [Act.eval]) (OT_alloc o5 _) ⟨w5.heap.size, 0, none⟩ 1 1 [tkAt l n] rfl (by simp [Act.eval]) (TS_blk (heap_alloc_new w5 _) rfl) (by rw [el.out]; omega) (by simp) (by have := B5.size; rw [World.size_alloc]; omega) ?_; intro A7 c7 w7 o7 g7 b7; have B7 : Below w1.heap.size w1 w7 := (bal B5 _).trans b7))
    all_goals go_wp2_with fail
    all_goals
      have K := spec_l3Both A7 (l.eraseIdx n ++ [tkAt l n]) c7 (l.eraseIdx n).length w7 o7.ts (moved_vld HS.out hlt) (by simp)
      rw [last_eq, show (l.eraseIdx n ++ [tkAt l n]).length = (l.eraseIdx n).length + 1 by simp] at K
      refine K.mono ?_
      rintro e w8 ⟨rfl, b8⟩
      go_wp2_with fail
      go_ret
      exact ⟨by rw [hv.out]; rfl, bthru b1 (bthru B7 b8)⟩
set_option maxHeartbeats 2000000 in
set_option maxRecDepth 100000 in
theorem impl_CanBeLast (A : Option Addr) (l : List Tk) (c : Nat) (x : Int) (w : World) (h : TS w A l) (_hlc : l.length ≤ c) :
    Calls Tryz.prog 177 #[.slice A l.length c, .int .i64 x] w fun e w' => e = .returned (.bool (canLast l x)) ∧ Below w.heap.size w w' := by
  cases hP : plc l x with
  | false =>
    have hv : Hid (canLast l x = false) := by simp [Hid, canLast, hP]
    go_enter Tryz.func177, Tryz.ntmps177
    go_wp2_with fail
    refine (impl_placed A l c x _ h).mono ?_
    rw [hP]
    rintro e w1 ⟨rfl, b1⟩
    go_wp2_with fail
    go_ret
    exact ⟨by rw [hv.out]; rfl, b1⟩
  | true =>
    obtain ⟨hs, hl5, hlt, hx⟩ := plc_yes hP
    have hv : Hid (canLast l x = lastOk l x.toNat) := by simp [Hid, canLast, hP]
    obtain ⟨n, rfl⟩ : ∃ n : Nat, x = (n : Int) := ⟨_, hx⟩
    rw [Int.toNat_natCast] at *
    have HS := Lib.hid hs
    clear hx hs
    go_enter Tryz.func177, Tryz.ntmps177
    go_wp2_with fail
    refine (impl_placed A l c n _ h).mono ?_
    rw [hP]
    clear hP
    rintro e w1 ⟨rfl, b1⟩
    obtain ⟨b, off, rfl, hbl, hc⟩ := h.keep b1 (by omega)
    obtain ⟨c0, c1, c2, c3, c4⟩ := cells_tk hc n hlt
    clear hc
    have S_of : ∀ w' : World, Below w1.heap.size w1 w' → w'.cell? ⟨b, off + n * 5, none⟩ = some (.int .i64 (tkAt l n).low) ∧ w'.cell? ⟨b, off + n * 5 + 1, none⟩ = some (.int .i64 (tkAt l n).high) ∧ w'.cell? ⟨b, off + n * 5 + 2, none⟩ = some (.int .i64 (tkAt l n).due) ∧
        w'.cell? ⟨b, off + n * 5 + 3, none⟩ = some (.int .i64 (tkAt l n).every) ∧ w'.cell? ⟨b, off + n * 5 + 4, none⟩ = some (.bool (tkAt l n).crit) ∧ Below w1.heap.size w1 w' := fun w' hw =>
      ⟨(hw.cell (p := ⟨b, off + n * 5, none⟩) hbl).trans c0, (hw.cell (p := ⟨b, off + n * 5 + 1, none⟩) hbl).trans c1, (hw.cell (p := ⟨b, off + n * 5 + 2, none⟩) hbl).trans c2, (hw.cell (p := ⟨b, off + n * 5 + 3, none⟩) hbl).trans c3, (hw.cell (p := ⟨b, off + n * 5 + 4, none⟩) hbl).trans c4, hw⟩
    have q0 : (0 : Int) ≤ (n : Int) := by omega
    have q1 : (n : Int) < (l.length : Int) := by omega
    have qw : IntKind.i64.wrap ((n : Int) + 1) = (n : Int) + 1 := IntWalk.i64_in _ (by omega)
    have el : Hid ((l.eraseIdx n).length = l.length - 1) := List.length_eraseIdx_of_lt hlt
    have el5 : (l.eraseIdx n).length ≤ 5 := by rw [el.out]; omega
    clear c0 c1 c2 c3 c4
    go_wp2_with fail
    go_region_held3 (fun w' => w'.cell? ⟨b, off + n * 5, none⟩ = some (.int .i64 (tkAt l n).low) ∧ w'.cell? ⟨b, off + n * 5 + 1, none⟩ = some (.int .i64 (tkAt l n).high) ∧ w'.cell? ⟨b, off + n * 5 + 2, none⟩ = some (.int .i64 (tkAt l n).due) ∧
        w'.cell? ⟨b, off + n * 5 + 3, none⟩ = some (.int .i64 (tkAt l n).every) ∧ w'.cell? ⟨b, off + n * 5 + 4, none⟩ = some (.bool (tkAt l n).crit) ∧ Below w1.heap.size w1 w')
      ((refine S_of _ ?_; first | assumption | exact Below.drew (Below.refl _ _) | exact Below.drew (bal (Below.refl _ _) _) | exact (by assumption : _ ∧ _ ∧ _ ∧ _ ∧ _ ∧ Below w1.heap.size w1 _).2.2.2.2.2 | (refine bal ?_ _; first | assumption | exact (by assumption : _ ∧ _ ∧ _ ∧ _ ∧ _ ∧ Below w1.heap.size w1 _).2.2.2.2.2)))
      (first
        | (go_at_call 172; refine (slices_CloneT (some ⟨b, off, none⟩) l c (World.drew (World.alloc _ _)) (h.keep (bthru b1 (by first | assumption | exact (by assumption : _ ∧ _ ∧ _ ∧ _ ∧ _ ∧ Below w1.heap.size w1 _).2.2.2.2.2))) (by omega)).mono ?_; rintro e w5 ⟨A5, c5, rfl, o5, b5⟩; obtain ⟨g5, rfl, hg5', hl5⟩ := OT_addr o5 (by omega); have hne5 : w1.heap.size ≠ g5 := Nat.ne_of_lt (Nat.lt_of_lt_of_le (by show w1.heap.size < (World.alloc w1 _).heap.size; rw [World.size_alloc]; exact Nat.lt_succ_self _) hg5'); have hg5 : w1.heap.size ≤ g5 := Nat.le_trans (by show w1.heap.size ≤ (World.alloc w1 _).heap.size; rw [World.size_alloc]; exact Nat.le_succ _) hg5'; have o5 : OT w1.heap.size w5 (some ⟨g5, 0, none⟩) c5 l := own_base o5 (by simp); have HN := Lib.hid ((b5.block w1.heap.size (by show w1.heap.size < (World.alloc w1 _).heap.size; rw [World.size_alloc]; exact Nat.lt_succ_self _)).trans (heap_alloc_new w1 _)); have hz5 : w1.heap.size < w5.heap.size := Nat.lt_of_lt_of_le (by show w1.heap.size < (World.alloc w1 _).heap.size; rw [World.size_alloc]; exact Nat.lt_succ_self _) b5.size; have B5 : Below w1.heap.size w1 w5 := bthru (by first | assumption | exact (by assumption : _ ∧ _ ∧ _ ∧ _ ∧ _ ∧ Below w1.heap.size w1 _).2.2.2.2.2) b5)
        | (go_at_call 172; refine (slices_CloneT (some ⟨b, off, none⟩) l c _ (h.keep (bthru b1 (by first | assumption | exact (by assumption : _ ∧ _ ∧ _ ∧ _ ∧ _ ∧ Below w1.heap.size w1 _).2.2.2.2.2))) (by omega)).mono ?_; rintro e w5 ⟨A5, c5, rfl, o5, b5⟩; have B5 : Below w1.heap.size w1 w5 := bthru (by first | assumption | exact (by assumption : _ ∧ _ ∧ _ ∧ _ ∧ _ ∧ Below w1.heap.size w1 _).2.2.2.2.2) b5; have o5 : OT w1.heap.size w5 A5 c5 l := own_base o5 (by simp); obtain ⟨g5, rfl, hg5, hl5⟩ := OT_addr o5 (by omega))
        | (go_at_call 191; have hn5 := HN.out; refine (slices_DeleteT w1.heap.size g5 c5 n l _ o5 hlt (by omega)).mono ?_; rintro e w6 ⟨rfl, o6, gr6⟩; have HN6 := Lib.hid ((gr6.block w1.heap.size hz5 (fun e => hne5 (Option.some.inj e))).trans hn5); clear hn5; have B6 : Below w1.heap.size w1 w6 := B5.trans (gb_low gr6 hg5 B5.size))
        | (go_at_call 191; refine (slices_DeleteT w1.heap.size g5 c5 n l (World.alloc _ _) (OT_alloc o5 _) hlt (by omega)).mono ?_; rintro e w6 ⟨rfl, o6, gr6⟩; have HN6 := Lib.hid ((gr6.block w5.heap.size (by rw [World.size_alloc]; exact Nat.lt_succ_self _) (fun e => Nat.ne_of_gt hl5 (Option.some.inj e))).trans (heap_alloc_new w5 _)); have B6 : Below w1.heap.size w1 w6 := (bal B5 _).trans (gb_low gr6 hg5 (bal B5 _).size))
        | (go_at_call 191; refine (slices_DeleteT w1.heap.size g5 c5 n l _ o5 hlt (by omega)).mono ?_; rintro e w6 ⟨rfl, o6, gr6⟩; have B6 : Below w1.heap.size w1 w6 := B5.trans (gb_low gr6 hg5 B5.size))
        | (have hsrc := HN6.out; refine step_app_tasks rfl (.tmp 15) (.tmp 20) rfl w1.heap.size (some ⟨g5, 0, none⟩) (l.eraseIdx n) _ c5 rfl (by simp [Act.eval]) o6 ⟨_, 0, none⟩ 1 1 [tkAt l n] rfl (by simp [Act.eval]) (TS_blk hsrc rfl) (by rw [el.out]; omega) (by simp) B6.size ?_; intro A7 c7 w7 o7 g7 b7; clear hsrc; have B7 : Below w1.heap.size w1 w7 := B6.trans b7)
        | (refine step_app_tasks rfl (.tmp 15) (.tmp 20) rfl w1.heap.size (some ⟨g5, 0, none⟩) (l.eraseIdx n) _ c5 rfl (by simp [Act.eval]) (OT_alloc o6 _) ⟨w6.heap.size, 0, none⟩ 1 1 [tkAt l n] rfl (by simp [Act.eval]) (TS_blk (heap_alloc_new w6 _) rfl) (by rw [el.out]; omega) (by simp) (by have := B6.size; rw [World.size_alloc]; omega) ?_; intro A7 c7 w7 o7 g7 b7; have B7 : Below w1.heap.size w1 w7 := (bal B6 _).trans b7))
    all_goals go_wp2_with fail
    all_goals
      have h7 := own_size o7
      have K := impl_holds A7 (l.eraseIdx n ++ [tkAt l n]) c7 ((l.eraseIdx n).length : Nat) w7 o7.ts h7.1
      rw [canLast_eq HS.out hlt, show (l.eraseIdx n ++ [tkAt l n]).length = (l.eraseIdx n).length + 1 by simp] at K
      clear h7
      refine K.mono ?_
      rintro e w8 ⟨rfl, b8⟩
      go_wp2_with fail
      go_ret
      exact ⟨by rw [hv.out]; rfl, bthru b1 (bthru B7 b8)⟩
end Go.Proofs.YtmkjmancmiphfaaGreatDoor
