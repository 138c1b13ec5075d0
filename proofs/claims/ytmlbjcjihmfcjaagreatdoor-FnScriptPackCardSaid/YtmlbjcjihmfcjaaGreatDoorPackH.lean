/-
  PackHolds: the program's and the reference's.
-/
import Derived.Test.YtmlbjcjihmfcjaaGreatDoorHoldsBy
import Derived.Test.YtmlbjcjihmfcjaaGreatDoorPackT
namespace Go.Proofs.YtmlbjcjihmfcjaaGreatDoor
open Go.RowKit

theorem impl_PackHolds (A B : Option Addr) (l : List Tk) (ws : List Int) (c d : Nat) (m p : Int) (w : World) (h : TS w A l) (g : IS w B ws) :
    Calls Tryz.prog 201 #[.slice A l.length c, .slice B ws.length d, .int .i64 m, .int .i64 p] w fun e w' => e = .returned (.bool (pkH l ws m p)) ∧ Below w.heap.size w w' := by
  cases hP : packVld l ws m with
  | false =>
    have Hf : Hid (pkH l ws m p = false) := by simp [Hid, pkH, hP]
    go_enter Tryz.func201, Tryz.ntmps201
    go_wp2_with fail
    refine (impl_PackValid A B l ws c d m _ h g).mono ?_
    rw [hP]
    rintro e w1 ⟨rfl, b1⟩
    go_wp2_with fail
    go_ret
    exact ⟨by rw [Hf.out]; rfl, b1⟩
  | true =>
    obtain ⟨hs, m1, m3, hlen, _⟩ := (packVld_iff _ _ _).1 hP
    have hl5 := (setVld_all hs).1
    have HP := Lib.hid hP
    have Hlen := Lib.hid hlen
    clear hs hlen hP
    go_enter Tryz.func201, Tryz.ntmps201
    go_wp2_with fail
    refine (impl_PackValid A B l ws c d m _ h g).mono ?_
    rw [HP.out]
    rintro e w1 ⟨rfl, b1⟩
    go_wp2_with fail
    go_loopw [16] (fun i wr => ∃ k : Nat, (k : Int) ≤ m ∧ i = .int .i64 (k : Int) ∧ Hid (∀ q : Nat, q < k → canH (grp l ws (q : Int)) p = true) ∧ Below w.heap.size w wr) (fun i _ => (m - intOf i).toNat)
    case atStart => exact ⟨0, by omega, rfl, fun q hq => by omega, b1⟩
    case round =>
      obtain ⟨k, hk, rfl, hall, hb⟩ := hrel
      by_cases hlt : (k : Int) < m
      · have hgl : (grp l ws (k : Int)).length ≤ 5 := Nat.le_trans (grp_len l ws _) hl5
        cases hc : canH (grp l ws (k : Int)) p with
        | true =>
          have hnext : Hid (∀ q : Nat, q < k + 1 → canH (grp l ws (q : Int)) p = true) := fun q hq => by
            by_cases e : q = k
            · subst e; exact hc
            · exact hall.out q (by omega)
          go_wp2_with fail
          refine (impl_group A B l ws c d (k : Int) _ (h.keep hb) (g.keep hb) Hlen.out (by omega)).mono ?_
          rintro e w2 ⟨A2, c2, rfl, o2, b2⟩
          go_wp2_with fail
          refine (impl_CanHold A2 (grp l ws (k : Int)) c2 p _ o2.ts (by unfold maxLen; omega) (own_size o2).1).mono ?_
          rw [hc]
          clear hc
          rintro e w3 ⟨rfl, b3⟩
          go_wp2_with fail
          go_roundw
          case rel => exact ⟨k + 1, by omega, by go_num, hnext, bthru hb (bthru b2 b3)⟩
          case measure => simp [intOf]; omega
        | false =>
          have Hf : Hid (pkH l ws m p = false) := by
            rw [Hid]
            cases e : pkH l ws m p with
            | false => rfl
            | true =>
              have := ((pkH_iff _ _ _ _).1 e).2 k (by omega)
              rw [hc] at this
              cases this
          go_wp2_with fail
          refine (impl_group A B l ws c d (k : Int) _ (h.keep hb) (g.keep hb) Hlen.out (by omega)).mono ?_
          rintro e w2 ⟨A2, c2, rfl, o2, b2⟩
          go_wp2_with fail
          refine (impl_CanHold A2 (grp l ws (k : Int)) c2 p _ o2.ts (by unfold maxLen; omega) (own_size o2).1).mono ?_
          rw [hc]
          clear hc
          rintro e w3 ⟨rfl, b3⟩
          go_wp2_with fail
          go_ret
          exact ⟨by rw [Hf.out]; rfl, bthru hb (bthru b2 b3)⟩
      · have Hf : Hid (pkH l ws m p = true) := by
          rw [Hid, pkH_iff]
          exact ⟨HP.out, fun q hq => hall.out q (by omega)⟩
        go_wp2_with fail
        go_ret
        exact ⟨by rw [Hf.out]; rfl, hb⟩

theorem spec_PackHolds (A B : Option Addr) (l : List Tk) (ws : List Int) (c d : Nat) (m p : Int) (w : World) (h : TS w A l) (g : IS w B ws) (hm : l.length ≤ 9223372036854775807) :
    Calls Tryz.prog 203 #[.slice A l.length c, .slice B ws.length d, .int .i64 m, .int .i64 p] w fun e w' => e = .returned (.bool (pkH l ws m p)) ∧ Below w.heap.size w w' := by
  cases hP : packVld l ws m with
  | false =>
    have Hf : Hid (pkH l ws m p = false) := by simp [Hid, pkH, hP]
    go_enter Tryz.func203, Tryz.ntmps203
    go_wp2_with fail
    refine (spec_PackValid A B l ws c d m _ h g hm).mono ?_
    rw [hP]
    rintro e w1 ⟨rfl, b1⟩
    go_wp2_with fail
    go_ret
    exact ⟨by rw [Hf.out]; rfl, b1⟩
  | true =>
    obtain ⟨hs, m1, m3, hlen, _⟩ := (packVld_iff _ _ _).1 hP
    have hl5 := (setVld_all hs).1
    have HP := Lib.hid hP
    have Hlen := Lib.hid hlen
    clear hs hlen hP
    go_enter Tryz.func203, Tryz.ntmps203
    go_wp2_with fail
    refine (spec_PackValid A B l ws c d m _ h g hm).mono ?_
    rw [HP.out]
    rintro e w1 ⟨rfl, b1⟩
    go_wp2_with fail
    go_loopw [9] (fun i wr => ∃ k : Nat, (k : Int) ≤ m ∧ i = .int .i64 (k : Int) ∧ Hid (∀ q : Nat, q < k → canH (grp l ws (q : Int)) p = true) ∧ Below w.heap.size w wr) (fun i _ => (m - intOf i).toNat)
    case atStart => exact ⟨0, by omega, rfl, fun q hq => by omega, b1⟩
    case round =>
      obtain ⟨k, hk, rfl, hall, hb⟩ := hrel
      by_cases hlt : (k : Int) < m
      · have hgl : (grp l ws (k : Int)).length ≤ 5 := Nat.le_trans (grp_len l ws _) hl5
        cases hc : canH (grp l ws (k : Int)) p with
        | true =>
          have hnext : Hid (∀ q : Nat, q < k + 1 → canH (grp l ws (q : Int)) p = true) := fun q hq => by
            by_cases e : q = k
            · subst e; exact hc
            · exact hall.out q (by omega)
          go_wp2_with fail
          refine (spec_l9Group A B l ws c d (k : Int) _ (h.keep hb) (g.keep hb) Hlen.out (by omega)).mono ?_
          rintro e w2 ⟨A2, c2, rfl, o2, b2⟩
          go_wp2_with fail
          refine (spec_CanHold A2 (grp l ws (k : Int)) c2 p _ o2.ts (by unfold maxLen; omega)).mono ?_
          rw [hc]
          clear hc
          rintro e w3 ⟨rfl, b3⟩
          go_wp2_with fail
          go_roundw
          case rel => exact ⟨k + 1, by omega, by go_num, hnext, bthru hb (bthru b2 b3)⟩
          case measure => simp [intOf]; omega
        | false =>
          have Hf : Hid (pkH l ws m p = false) := by
            rw [Hid]
            cases e : pkH l ws m p with
            | false => rfl
            | true =>
              have := ((pkH_iff _ _ _ _).1 e).2 k (by omega)
              rw [hc] at this
              cases this
          go_wp2_with fail
          refine (spec_l9Group A B l ws c d (k : Int) _ (h.keep hb) (g.keep hb) Hlen.out (by omega)).mono ?_
          rintro e w2 ⟨A2, c2, rfl, o2, b2⟩
          go_wp2_with fail
          refine (spec_CanHold A2 (grp l ws (k : Int)) c2 p _ o2.ts (by unfold maxLen; omega)).mono ?_
          rw [hc]
          clear hc
          rintro e w3 ⟨rfl, b3⟩
          go_wp2_with fail
          go_ret
          exact ⟨by rw [Hf.out]; rfl, bthru hb (bthru b2 b3)⟩
      · have Hf : Hid (pkH l ws m p = true) := by
          rw [Hid, pkH_iff]
          exact ⟨HP.out, fun q hq => hall.out q (by omega)⟩
        go_wp2_with fail
        go_ret
        exact ⟨by rw [Hf.out]; rfl, hb⟩
end Go.Proofs.YtmlbjcjihmfcjaaGreatDoor
