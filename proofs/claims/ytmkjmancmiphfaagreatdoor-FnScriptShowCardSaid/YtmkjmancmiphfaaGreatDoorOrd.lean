/-
  OrderValid, PutOrder (of an order that is one), l4Put: tasks in an order.
-/
import Derived.Test.YtmkjmancmiphfaaGreatDoorLeave
import Derived.Test.YtmkjmancmiphfaaGreatDoorAud
import Derived.Laws.BitsAllLaws
import Derived.Laws.BitsLemmas
namespace Go.Proofs.YtmkjmancmiphfaaGreatDoor
open Go.RowKit

def ints (o : List Nat) : List Int := o.map (fun (x : Nat) => (x : Int))
theorem ints_length (o : List Nat) : (ints o).length = o.length := by simp [ints]
theorem ints_at (o : List Nat) (k : Nat) (hk : k < o.length) : (ints o)[k]? = some ((o[k] : Nat) : Int) := by simp [ints, hk]
def mask (o : List Nat) : Nat := o.foldl (fun m x => m ||| 1 <<< x) 0

theorem bit_free : ∀ m < 32, ∀ x < 5, Nat.testBit m x = false → (bits .and .i64 (((m : Nat) : Int) / 2 ^ x) 1 == 1) = false := by decide +kernel
theorem bit_put : ∀ m < 32, ∀ x < 5, bits .or .i64 ((m : Nat) : Int) (wrap64 (2 ^ x)) = ((m ||| 1 <<< x : Nat) : Int) ∧ (m ||| 1 <<< x) < 32 := by decide +kernel
theorem mask_go (o : List Nat) (m x : Nat) : Nat.testBit (o.foldl (fun m x => m ||| 1 <<< x) m) x = (Nat.testBit m x || decide (x ∈ o)) := by
  induction o generalizing m with
  | nil => simp
  | cons y o ih =>
    rw [List.foldl_cons, ih, Nat.testBit_or, Nat.one_shiftLeft, Nat.testBit_two_pow]
    by_cases h : y = x
    · subst h; simp
    · have h' : ¬ x = y := fun e => h e.symm
      simp [h, h']
theorem mask_bit (o : List Nat) (x : Nat) (h : x ∉ o) : Nat.testBit (mask o) x = false := by
  rw [mask, mask_go]
  simp [h]
theorem mask_take (o : List Nat) (k : Nat) (hk : k < o.length) : mask (o.take (k + 1)) = mask (o.take k) ||| 1 <<< o[k] := by
  rw [List.take_succ_eq_append_getElem hk, mask, List.foldl_append]
  rfl
theorem mask_lt (o : List Nat) (h : ∀ x ∈ o, x < 5) : mask o < 32 := by
  suffices hs : ∀ (m : Nat), m < 32 → o.foldl (fun m x => m ||| 1 <<< x) m < 32 from hs 0 (by omega)
  induction o with
  | nil => intro m hm; exact hm
  | cons y o ih =>
    intro m hm
    exact ih (fun x hx => h x (List.mem_cons_of_mem _ hx)) _ (bit_put m hm y (h y (by simp))).2
theorem nodup_at {o : List Nat} (h : o.Nodup) (k : Nat) (hk : k < o.length) : o[k] ∉ o.take k := by
  have h1 : (o.take (k + 1)).Nodup := h.sublist (List.take_sublist _ _)
  rw [List.take_succ_eq_append_getElem hk, List.nodup_append] at h1
  intro hm
  exact h1.2.2 _ hm _ (by simp) rfl

theorem impl_OrderValid_yes (A B : Option Addr) (l : List Tk) (o : List Nat) (c d : Nat) (w : World) (h : TS w A l) (g : IS w B (ints o)) (hs : setVld l = true) (ho : o.Perm (List.range l.length)) :
    Calls Tryz.prog 179 #[.slice A l.length c, .slice B o.length d] w fun e w' => e = .returned (.bool true) ∧ Below w.heap.size w w' := by
  have hl5 := (setVld_all hs).1
  have hol : o.length = l.length := by rw [ho.length_eq, List.length_range]
  have hne : ((o.length : Int) != l.length) = false := by simp [hol]
  have HS := Lib.hid hs
  have HO := Lib.hid ho
  have hol5 : o.length ≤ 5 := by omega
  have Hol := Lib.hid hol
  clear hs ho hol
  go_enter Tryz.func179, Tryz.ntmps179
  go_wp2_with fail
  refine (impl_SetValid A l c _ h).mono ?_
  rw [HS.out]
  rintro e w1 ⟨rfl, b1⟩
  go_wp2_with fail
  go_loopw [5, 20] (fun i j wr => ∃ k : Nat, k ≤ o.length ∧ j = .int .i64 (k : Int) ∧ i = .int .i64 ((mask (o.take k) : Nat) : Int) ∧ Below w.heap.size w wr) (fun _ j _ => o.length - (intOf j).toNat)
  case atStart => exact ⟨0, by omega, rfl, rfl, b1⟩
  case round =>
    obtain ⟨k, hk, rfl, rfl, hb⟩ := hrel
    by_cases hlt : k < o.length
    · obtain ⟨b, off, rfl, hbl, hc⟩ := g.keep hb (by rw [ints_length]; omega)
      have c0 := hc k _ (ints_at o k hlt)
      clear hc
      have hx : o[k] < l.length := by
        have := HO.out.mem_iff.1 (List.getElem_mem hlt)
        simpa using this
      have hm := mask_lt (o.take k) (fun x hx => by
        have := HO.out.mem_iff.1 (List.mem_of_mem_take hx)
        simp at this
        omega)
      have hnd : o.Nodup := HO.out.nodup_iff.2 List.nodup_range
      have hf := bit_free _ hm _ (show o[k] < 5 by omega) (mask_bit _ _ (nodup_at hnd k hlt))
      have hp := Lib.hid (bit_put _ hm _ (show o[k] < 5 by omega)).1
      have ht := Lib.hid (mask_take o k hlt)
      have hx' : ¬ l.length ≤ o[k] := by omega
      go_wp2_with fail
      go_roundw
      case rel => exact ⟨k + 1, by omega, by go_num, by rw [hp.out, ht.out], hb⟩
      case measure => simp [intOf]; omega
    · go_wp2_with fail
      go_ret
      exact ⟨rfl, hb⟩

theorem spec_l4Put (A B : Option Addr) (l : List Tk) (o : List Nat) (c d : Nat) (w : World) (h : TS w A l) (g : IS w B (ints o)) (hx : ∀ x ∈ o, x < l.length) (hl : l.length ≤ 100000) (ho : o.length ≤ 100000)  :
    Calls Tryz.prog 84 #[.slice A l.length c, .slice B o.length d] w (RetT w (pick l o)) := by
  have HX := Lib.hid hx
  clear hx
  
  
  
  go_enter Tryz.func84, Tryz.ntmps84
  go_wp2_with fail
  go_loopw [5, 6] (fun v i wr => ∃ (k : Nat) (A' : Option Addr) (c' : Nat) (l' : List Tk), i = .int .i64 (k : Int) ∧ v = .slice A' l'.length c' ∧ k ≤ o.length ∧ l'.length = k ∧ Hid (l' = pick l (o.take k)) ∧ OT w.heap.size wr A' c' l' ∧ Below w.heap.size w wr) (fun _ i _ => o.length - (intOf i).toNat)
  case atStart => exact ⟨0, _, 0, [], rfl, rfl, by omega, rfl, by simp [Hid, pick], OT_blank w _ (Nat.le_refl _), bal (Below.refl _ _) _⟩
  case round =>
    obtain ⟨k, A', c', l', rfl, rfl, hk, hll, hg, hO, hb⟩ := hrel
    have Hll := Lib.hid hll
    have hl1 : l'.length ≤ 100000 := by omega
    clear hll
    by_cases hlt : k < o.length
    · have hxk := HX.out _ (List.getElem_mem hlt)
      obtain ⟨b', off', rfl, hbl', hc'⟩ := g.keep hb (by rw [ints_length]; omega)
      have d0 := hc' k _ (ints_at o k hlt)
      clear hc'
      have hpk : Hid (pick l (o.take (k + 1)) = pick l (o.take k) ++ [tkAt l o[k]]) := by
        rw [Hid, List.take_succ_eq_append_getElem hlt, pick, List.map_append]
        rfl
      generalize o[k] = x at *
      obtain ⟨b, off, rfl, hbl, hc⟩ := h.keep hb (by omega)
      obtain ⟨c0, c1, c2, c3, c4⟩ := cells_tk hc x hxk
      clear hc
      go_wp2_with (at_builtin; refine wpList_app_task _ rfl _ _ rfl w.heap.size A' l' c' rfl (OT_alloc hO _) wr.heap.size 1 (tkAt l x) _ 58 rfl (heap_alloc_new wr _) rfl (by omega) (by have := hb.size; simp; omega) ?_; intro A3 c3' w3 hO3 hg3 hb3)
      go_roundw
      case rel => exact ⟨k + 1, A3, c3', l' ++ [tkAt l x], by go_num, by simp, by omega, by simp [Hll.out], by rw [Hid, hpk.out, hg.out], hO3, (bal hb _).trans hb3⟩
      case measure => simp [intOf]; omega
    · go_wp2_with fail
      go_ret
      have e := hg.out
      rw [List.take_of_length_le (by omega)] at e
      subst e
      exact ⟨A', c', rfl, hO, hb⟩

theorem impl_PutOrder_yes (A B : Option Addr) (l : List Tk) (o : List Nat) (c d : Nat) (w : World) (h : TS w A l) (g : IS w B (ints o)) (hx : ∀ x ∈ o, x < l.length) (hl : l.length ≤ 100000) (ho : o.length ≤ 100000) (hs : setVld l = true) (hp : o.Perm (List.range l.length)) :
    Calls Tryz.prog 124 #[.slice A l.length c, .slice B o.length d] w (RetTB w (pick l o) true) := by
  have HX := Lib.hid hx
  clear hx
  have HS := Lib.hid hs
  have HP := Lib.hid hp
  clear hs hp
  go_enter Tryz.func124, Tryz.ntmps124
  go_wp2_with fail
  refine (impl_OrderValid_yes A B l o c d _ h g HS.out HP.out).mono ?_
  rintro e w0 ⟨rfl, b0⟩
  go_wp2_with fail
  go_loopw [6, 16] (fun v i wr => ∃ (k : Nat) (A' : Option Addr) (c' : Nat) (l' : List Tk), i = .int .i64 (k : Int) ∧ v = .slice A' l'.length c' ∧ k ≤ o.length ∧ l'.length = k ∧ Hid (l' = pick l (o.take k)) ∧ OT w.heap.size wr A' c' l' ∧ Below w.heap.size w wr) (fun _ i _ => o.length - (intOf i).toNat)
  case atStart => exact ⟨0, _, 0, [], rfl, rfl, by omega, rfl, by simp [Hid, pick], OT_blank w0 _ b0.size, bal b0 _⟩
  case round =>
    obtain ⟨k, A', c', l', rfl, rfl, hk, hll, hg, hO, hb⟩ := hrel
    have Hll := Lib.hid hll
    have hl1 : l'.length ≤ 100000 := by omega
    clear hll
    by_cases hlt : k < o.length
    · have hxk := HX.out _ (List.getElem_mem hlt)
      obtain ⟨b', off', rfl, hbl', hc'⟩ := g.keep hb (by rw [ints_length]; omega)
      have d0 := hc' k _ (ints_at o k hlt)
      clear hc'
      have hpk : Hid (pick l (o.take (k + 1)) = pick l (o.take k) ++ [tkAt l o[k]]) := by
        rw [Hid, List.take_succ_eq_append_getElem hlt, pick, List.map_append]
        rfl
      generalize o[k] = x at *
      obtain ⟨b, off, rfl, hbl, hc⟩ := h.keep hb (by omega)
      obtain ⟨c0, c1, c2, c3, c4⟩ := cells_tk hc x hxk
      clear hc
      go_wp2_with (at_builtin; refine wpList_app_task _ rfl _ _ rfl w.heap.size A' l' c' rfl (OT_alloc hO _) wr.heap.size 1 (tkAt l x) _ 58 rfl (heap_alloc_new wr _) rfl (by omega) (by have := hb.size; simp; omega) ?_; intro A3 c3' w3 hO3 hg3 hb3)
      go_roundw
      case rel => exact ⟨k + 1, A3, c3', l' ++ [tkAt l x], by go_num, by simp, by omega, by simp [Hll.out], by rw [Hid, hpk.out, hg.out], hO3, (bal hb _).trans hb3⟩
      case measure => simp [intOf]; omega
    · go_wp2_with fail
      go_ret2
      have e := hg.out
      rw [List.take_of_length_le (by omega)] at e
      subst e
      exact ⟨A', c', rfl, hO, hb⟩
end Go.Proofs.YtmkjmancmiphfaaGreatDoor
