/-
  AdmitAll: the program's. (Printed by gen_admall.py.)
-/
import Derived.Test.YtnldiakjmhfodaaAdmAllS
import Derived.Test.YtnldiakjmhfodaaAdmI
namespace Go.Proofs.Ytnldiakjmhfodaa
open Go.RowKit

theorem OI_blank_at (w : World) (base n : Nat) (hn : w.heap.size = n) (hb : base ≤ n) : OI base (w.alloc (.cells #[] 3)) (some ⟨n, 0, none⟩) 0 [] := by
  subst hn
  exact OI_blank w base hb

set_option maxHeartbeats 4000000 in
set_option maxRecDepth 100000 in
theorem impl_AdmitAll (A : Option Addr) (ts : List Tk) (c : Nat) (p : Int) (w : World) (h : TS w A ts) (_hm : ts.length ≤ maxLen) :
    Calls Try.prog 57 #[.slice A ts.length c, .int .i64 p] w (RetTIB w (admAll ts p).1 (admAll ts p).2 (admOk ts p)) := by
  cases hk : admOk ts p with
  | false =>
    have hv : admAll ts p = ([], []) := by simp [admAll, hk]
    rw [hv]
    clear hv
    by_cases hp0 : p = 0
    · have h20 : ¬ ts.length ≤ 20 := by
        subst hp0
        intro h
        simp [admOk, polB, h] at hk
      subst hp0
      clear hk
      go_enter Try.func57, Try.ntmps57
      go_wp2_with fail
      go_ret3
      exact ⟨none, 0, none, 0, rfl, OT_nil _ _, OI_nil _ _, Below.refl _ _⟩
    · by_cases hp1 : p = 1
      · have h20 : ¬ ts.length ≤ 20 := by
          subst hp1
          intro h
          simp [admOk, polB, h] at hk
        subst hp1
        clear hk hp0
        go_enter Try.func57, Try.ntmps57
        go_wp2_with fail
        go_ret3
        exact ⟨none, 0, none, 0, rfl, OT_nil _ _, OI_nil _ _, Below.refl _ _⟩
      · have p0 : (p != 0) = true := by simpa using hp0
        have p1 : (p != 1) = true := by simpa using hp1
        clear hp0 hp1 hk
        go_enter Try.func57, Try.ntmps57
        go_wp2_with fail
        go_ret3
        exact ⟨none, 0, none, 0, rfl, OT_nil _ _, OI_nil _ _, Below.refl _ _⟩
  | true =>
    have hpol : ts.length ≤ 20 ∧ (p = 0 ∨ p = 1) := by simpa [admOk, polB] using hk
    have hv : admAll ts p = admGo p ts 0 [] [] := by simp [admAll, hk]
    rw [hv]
    clear hv hk
    obtain ⟨h20, hp⟩ := hpol
    obtain ⟨R, hR⟩ : ∃ R, admGo p ts 0 [] [] = R := ⟨_, rfl⟩
    have HR := Lib.hid hR
    rw [hR]
    clear hR
    rcases hp with rfl | rfl
    · go_enter Try.func57, Try.ntmps57
      go_wp2_with fail
      go_loopw [7, 8, 28] (fun v r i wr => ∃ (k : Nat) (B : Option Addr) (d : Nat) (ref : List Int) (A' : Option Addr) (c' : Nat) (out : List Tk), i = .int .i64 (k : Int) ∧ r = .slice B ref.length d ∧ v = .slice A' out.length c' ∧ k ≤ ts.length ∧ OI w.heap.size wr B d ref ∧ OT w.heap.size wr A' c' out ∧ ref.length ≤ k ∧ out.length ≤ k ∧ Hid (admGo 0 (ts.drop k) k out ref = R) ∧ Below w.heap.size w wr) (fun _ _ i _ => ts.length - (intOf i).toNat)
      case atStart => exact ⟨0, _, 0, [], _, 0, [], rfl, rfl, rfl, by omega, OI_blank_at (w.alloc (.cells #[] 30)) w.heap.size (w.heap.size + 1) (by simp) (by omega), OT_alloc (OT_blank w _ (Nat.le_refl _)) _, by simp, by simp, HR.out, bal (bal (Below.refl _ _) _) _⟩
      case round =>
        obtain ⟨k, B, d, ref, A', c', out, rfl, rfl, rfl, hk, hOI, hOT, hrl, hol, hgo, hb⟩ := hrel
        have hsz := (own_size hOT).1
        by_cases hlt : k < ts.length
        · obtain ⟨b, off, rfl, hbl, hc⟩ := h.keep hb (by omega)
          obtain ⟨c0, c1, c2, c3, c4⟩ := cells_tk hc k hlt
          clear hc
          have hg := hgo.out
          rw [drop_tk ts k hlt, admGo] at hg
          obtain ⟨nx, hnx⟩ : ∃ nx, admitT out (tkAt ts k) 0 = nx := ⟨_, rfl⟩
          rw [hnx] at hg
          cases nx with
          | none =>
            have hgo' : Hid (admGo 0 (ts.drop (k + 1)) (k + 1) out (ref ++ [(k : Int)]) = R) := hg
            have Hn := Lib.hid (admL_none hnx)
            clear hg hnx hgo
            go_wp2_with fail
            refine (impl_AdmitTask A' out (tkAt ts k) c' 0 _ (OT_alloc hOT _).ts (by omega) hsz).mono ?_
            rw [Hn.out.1, Hn.out.2]
            rintro e w2 ⟨A2, c2', rfl, o2, b2⟩
            have hOI2 := OI_keep (OI_alloc hOI _) b2
            have hOT2 := OT_keep (OT_alloc hOT _) b2
            clear c0 c1 c2 c3 c4 hOI hOT o2
            have B2 := bthru (bal hb _) b2
            go_wp2_with (at_builtin; refine wpList_app_int _ rfl _ _ rfl w.heap.size B ref d rfl (OI_alloc hOI2 _) w2.heap.size 1 (k : Int) 3 rfl (heap_alloc_new w2 _) (by omega) (by have := B2.size; simp; omega) ?_; intro B3 d3 w3 o3 g3 b3)
            have hOT3 := OT_keepI (OT_alloc hOT2 _) (OI_alloc hOI2 _) g3
            go_roundw
            case rel => exact ⟨k + 1, B3, d3, ref ++ [(k : Int)], A', c', out, by go_num, by simp, rfl, by omega, o3, hOT3, by simp; omega, by omega, hgo', (bal B2 _).trans b3⟩
            case measure => simp [intOf]; omega
          | some next =>
            have hgo' : Hid (admGo 0 (ts.drop (k + 1)) (k + 1) next ref = R) := hg
            have Hn := Lib.hid (admL_some hnx)
            have hnl : Hid (next.length = out.length + 1) := admL_len hnx
            clear hg hnx hgo
            go_wp2_with fail
            refine (impl_AdmitTask A' out (tkAt ts k) c' 0 _ (OT_alloc hOT _).ts (by omega) hsz).mono ?_
            rw [Hn.out.1, Hn.out.2]
            rintro e w2 ⟨A2, c2', rfl, o2, b2⟩
            have B2 := bthru (bal hb _) b2
            have hOI2 := OI_keep (OI_alloc hOI _) b2
            have o2' : OT w.heap.size w2 A2 c2' next := own_base o2 (bal hb _).size
            clear c0 c1 c2 c3 c4 hOI hOT o2
            go_wp2_with fail
            go_roundw
            case rel => exact ⟨k + 1, B, d, ref, A2, c2', next, by go_num, rfl, rfl, by omega, hOI2, o2', by omega, by rw [hnl.out]; omega, hgo', B2⟩
            case measure => simp [intOf]; omega
        · obtain rfl : k = ts.length := by omega
          have e : Hid (R = (out, ref)) := by
            have := hgo.out
            rw [List.drop_length] at this
            rw [Hid, ← this]
            rfl
          clear hgo
          go_wp2_with fail
          go_ret3
          rw [e.out]
          exact ⟨_, c', _, d, rfl, hOT, hOI, hb⟩
    · go_enter Try.func57, Try.ntmps57
      go_wp2_with fail
      go_loopw [7, 8, 28] (fun v r i wr => ∃ (k : Nat) (B : Option Addr) (d : Nat) (ref : List Int) (A' : Option Addr) (c' : Nat) (out : List Tk), i = .int .i64 (k : Int) ∧ r = .slice B ref.length d ∧ v = .slice A' out.length c' ∧ k ≤ ts.length ∧ OI w.heap.size wr B d ref ∧ OT w.heap.size wr A' c' out ∧ ref.length ≤ k ∧ out.length ≤ k ∧ Hid (admGo 1 (ts.drop k) k out ref = R) ∧ Below w.heap.size w wr) (fun _ _ i _ => ts.length - (intOf i).toNat)
      case atStart => exact ⟨0, _, 0, [], _, 0, [], rfl, rfl, rfl, by omega, OI_blank_at (w.alloc (.cells #[] 30)) w.heap.size (w.heap.size + 1) (by simp) (by omega), OT_alloc (OT_blank w _ (Nat.le_refl _)) _, by simp, by simp, HR.out, bal (bal (Below.refl _ _) _) _⟩
      case round =>
        obtain ⟨k, B, d, ref, A', c', out, rfl, rfl, rfl, hk, hOI, hOT, hrl, hol, hgo, hb⟩ := hrel
        have hsz := (own_size hOT).1
        by_cases hlt : k < ts.length
        · obtain ⟨b, off, rfl, hbl, hc⟩ := h.keep hb (by omega)
          obtain ⟨c0, c1, c2, c3, c4⟩ := cells_tk hc k hlt
          clear hc
          have hg := hgo.out
          rw [drop_tk ts k hlt, admGo] at hg
          obtain ⟨nx, hnx⟩ : ∃ nx, admitT out (tkAt ts k) 1 = nx := ⟨_, rfl⟩
          rw [hnx] at hg
          cases nx with
          | none =>
            have hgo' : Hid (admGo 1 (ts.drop (k + 1)) (k + 1) out (ref ++ [(k : Int)]) = R) := hg
            have Hn := Lib.hid (admL_none hnx)
            clear hg hnx hgo
            go_wp2_with fail
            refine (impl_AdmitTask A' out (tkAt ts k) c' 1 _ (OT_alloc hOT _).ts (by omega) hsz).mono ?_
            rw [Hn.out.1, Hn.out.2]
            rintro e w2 ⟨A2, c2', rfl, o2, b2⟩
            have hOI2 := OI_keep (OI_alloc hOI _) b2
            have hOT2 := OT_keep (OT_alloc hOT _) b2
            clear c0 c1 c2 c3 c4 hOI hOT o2
            have B2 := bthru (bal hb _) b2
            go_wp2_with (at_builtin; refine wpList_app_int _ rfl _ _ rfl w.heap.size B ref d rfl (OI_alloc hOI2 _) w2.heap.size 1 (k : Int) 3 rfl (heap_alloc_new w2 _) (by omega) (by have := B2.size; simp; omega) ?_; intro B3 d3 w3 o3 g3 b3)
            have hOT3 := OT_keepI (OT_alloc hOT2 _) (OI_alloc hOI2 _) g3
            go_roundw
            case rel => exact ⟨k + 1, B3, d3, ref ++ [(k : Int)], A', c', out, by go_num, by simp, rfl, by omega, o3, hOT3, by simp; omega, by omega, hgo', (bal B2 _).trans b3⟩
            case measure => simp [intOf]; omega
          | some next =>
            have hgo' : Hid (admGo 1 (ts.drop (k + 1)) (k + 1) next ref = R) := hg
            have Hn := Lib.hid (admL_some hnx)
            have hnl : Hid (next.length = out.length + 1) := admL_len hnx
            clear hg hnx hgo
            go_wp2_with fail
            refine (impl_AdmitTask A' out (tkAt ts k) c' 1 _ (OT_alloc hOT _).ts (by omega) hsz).mono ?_
            rw [Hn.out.1, Hn.out.2]
            rintro e w2 ⟨A2, c2', rfl, o2, b2⟩
            have B2 := bthru (bal hb _) b2
            have hOI2 := OI_keep (OI_alloc hOI _) b2
            have o2' : OT w.heap.size w2 A2 c2' next := own_base o2 (bal hb _).size
            clear c0 c1 c2 c3 c4 hOI hOT o2
            go_wp2_with fail
            go_roundw
            case rel => exact ⟨k + 1, B, d, ref, A2, c2', next, by go_num, rfl, rfl, by omega, hOI2, o2', by omega, by rw [hnl.out]; omega, hgo', B2⟩
            case measure => simp [intOf]; omega
        · obtain rfl : k = ts.length := by omega
          have e : Hid (R = (out, ref)) := by
            have := hgo.out
            rw [List.drop_length] at this
            rw [Hid, ← this]
            rfl
          clear hgo
          go_wp2_with fail
          go_ret3
          rw [e.out]
          exact ⟨_, c', _, d, rfl, hOT, hOI, hb⟩
end Go.Proofs.Ytnldiakjmhfodaa
