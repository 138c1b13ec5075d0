/-
  AdmitTask, AdmitAll: the reference's.
-/
import Derived.Test.YtmkjmancmiphfaaHoldsBy
import Derived.Test.YtmkjmancmiphfaaAdmT
import Derived.Test.YtmkjmancmiphfaaDrawTask
import Derived.Test.YtmkjmancmiphfaaStep
import Derived.Deep.RegionLaw
import Derived.Deep.CutBlock
namespace Go.Proofs.Ytmkjmancmiphfaa
open Go.RowKit

def admL (l : List Tk) (t : Tk) (p : Int) : List Tk := (admitT l t p).getD []
theorem admL_none {l : List Tk} {t : Tk} {p : Int} (h : admitT l t p = none) : admL l t p = [] ∧ (admitT l t p).isSome = false := by simp [admL, h]
theorem admL_some {l x : List Tk} {t : Tk} {p : Int} (h : admitT l t p = some x) : admL l t p = x ∧ (admitT l t p).isSome = true := by simp [admL, h]
theorem OT_blank_at (w : World) (base n : Nat) (hn : w.heap.size = n) (hb : base ≤ n) : OT base (w.alloc (.cells #[] 43)) (some ⟨n, 0, none⟩) 0 [] := by
  subst hn
  exact OT_blank w base hb
theorem heap_new_at (w : World) (o : Obj) (n : Nat) (hn : w.heap.size = n) : (w.alloc o).heap[n]? = some o := by
  subst hn
  exact heap_alloc_new w o

theorem admitT_def (l : List Tk) (t : Tk) (p : Int) : admitT l t p = (if hldBy l p && setVld (l ++ [t]) then
    if p = 1 then (if hldVirt (l ++ [t]) then some (l ++ [t]) else none)
    else match assign (l ++ [t]) with
      | none => none
      | some o => some (pick (l ++ [t]) o)
  else none) := rfl
set_option maxHeartbeats 4000000 in
set_option maxRecDepth 100000 in
theorem spec_AdmitTask (A : Option Addr) (l : List Tk) (t : Tk) (c : Nat) (p : Int) (w : World) (h : TS w A l) (hl : l.length ≤ 1100000) (hA : A = none → c = 0) :
    Calls Try.prog 51 #[.slice A l.length c, t.val, .int .i64 p] w (RetTB w (admL l t p) (admitT l t p).isSome) := by
  have hlm : l.length ≤ maxLen := by unfold maxLen; omega
  have hallm : (l ++ [t]).length ≤ maxLen := by unfold maxLen; simp; omega
  have hall : Hid ((l ++ [t]).length = l.length + 1) := by simp [Hid]
  go_enter Try.func51, Try.ntmps51
  go_upto_region 1 with fail
  have B0 := bal (Below.refl w.heap.size w) (.cells #[.int .i64 t.low, .int .i64 t.high, .int .i64 t.due, .int .i64 t.every, .bool t.crit] 43 (0, 0))
  have hN0 := heap_alloc_new w (.cells #[.int .i64 t.low, .int .i64 t.high, .int .i64 t.due, .int .i64 t.every, .bool t.crit] 43 (0, 0))
  have hz0 : w.heap.size < (w.alloc (.cells #[.int .i64 t.low, .int .i64 t.high, .int .i64 t.due, .int .i64 t.every, .bool t.crit] 43 (0, 0))).heap.size := by simp
  generalize hw0 : World.alloc w _ = w0 at B0 hN0 hz0 ⊢
  generalize hn4 : w.heap.size = n4 at hN0 hz0 ⊢
  have hwn : w.heap.size ≤ n4 := by omega
  have hS := h.keep (B0.mono (by omega))
  have hbx : n4 < w0.heap.size := hz0
  obtain ⟨t0, t1, t2, t3, t4, _⟩ := blk_five hN0
  have hne : Hid (w.heap.size = n4) := hn4
  clear hw0 hn4
  have hz : w0.heap.size ≠ w0.heap.size + 1 := by omega
  go_cut [8] from 11 to 16 (fun v wc => ∃ A2 c2, v = .slice A2 (l.length + 1) c2 ∧ OT w0.heap.size wc A2 c2 (l ++ [t]) ∧ Below w0.heap.size w0 wc)
  case first =>
    go_region_law (first
      | (refine step_app_any rfl (.tmp 11) (.tmp 12) rfl w0.heap.size (some ⟨w0.heap.size + 1, 0, none⟩) [] 0 0 rfl (by simp [Act.eval]) (OT_blank_at _ _ (w0.heap.size + 1) (by simp) (by omega)) A l.length c l rfl (by simp [Act.eval]) (hS.keep (bal (bal (Below.drew (Below.refl _ _)) _) _)) hA (by simp) (by omega) (by simp <;> omega) ?_; intro A1 c1 w1 o1 g1 b1; have HN := Lib.hid ((g1.block w0.heap.size (by simp <;> omega) (by simp [Value.ownBlock])).trans ((Below.heap_alloc _ _ _ (by simp)).trans (heap_new_at (World.drew w0) _ w0.heap.size rfl))); have B1 : Below w0.heap.size w0 w1 := (bal (bal (Below.drew (Below.refl _ _)) _) _).trans b1)
      | (refine step_app_any rfl (.tmp 11) (.tmp 12) rfl w0.heap.size (some ⟨w0.heap.size, 0, none⟩) [] 0 0 rfl (by simp [Act.eval]) (OT_alloc (OT_blank (World.drew w0) _ (Nat.le_refl _)) _) A l.length c l rfl (by simp [Act.eval]) (hS.keep (bal (bal (Below.drew (Below.refl _ _)) _) _)) hA (by simp) (by omega) (by simp <;> omega) ?_; intro A1 c1 w1 o1 g1 b1; have HN := Lib.hid ((g1.block (w0.heap.size + 1) (by simp <;> omega) (by simp [Value.ownBlock])).trans (heap_new_at _ _ (w0.heap.size + 1) (by simp))); have B1 : Below w0.heap.size w0 w1 := (bal (bal (Below.drew (Below.refl _ _)) _) _).trans b1)
      | (refine step_app_any rfl (.tmp 11) (.tmp 12) rfl w0.heap.size (some ⟨w0.heap.size, 0, none⟩) [] 0 0 rfl (by simp [Act.eval]) (OT_blank (World.drew w0) _ (Nat.le_refl _)) A l.length c l rfl (by simp [Act.eval]) (hS.keep (bal (Below.drew (Below.refl _ _)) _)) hA (by simp) (by omega) (by simp <;> omega) ?_; intro A1 c1 w1 o1 g1 b1; have B1 : Below w0.heap.size w0 w1 := (bal (Below.drew (Below.refl _ _)) _).trans b1; obtain ⟨k0, k1, k2, k3, k4, _⟩ := blk_five ((B1.block n4 hbx).trans hN0))
      | (have hsrc := HN.out; refine step_app_tasks rfl (.tmp 13) (.tmp 15) rfl w0.heap.size A1 l l.length c1 rfl (by simp [Act.eval]) o1 ⟨_, 0, none⟩ 1 1 [t] rfl (by simp [Act.eval]) (TS_blk hsrc rfl) (by omega) (by simp) B1.size ?_; intro A2 c2 w2 o2 g2 b2; clear hsrc; have B2 : Below w0.heap.size w0 w2 := B1.trans b2)
      | (refine step_app_tasks rfl (.tmp 13) (.tmp 15) rfl w0.heap.size A1 l l.length c1 rfl (by simp [Act.eval]) (OT_alloc o1 _) ⟨w1.heap.size, 0, none⟩ 1 1 [t] rfl (by simp [Act.eval]) (TS_blk (heap_alloc_new w1 _) rfl) (by omega) (by simp) (by have := B1.size; simp; omega) ?_; intro A2 c2 w2 o2 g2 b2; have B2 : Below w0.heap.size w0 w2 := (bal B1 _).trans b2))
    all_goals go_wp2_with fail
    all_goals go_meet
    all_goals exact ⟨A2, c2, rfl, o2, B2⟩
  case rest =>
    obtain ⟨A2, c2, rfl, o2, B2⟩ := hcut
    clear hN0 t0 t1 t2 t3 t4 hbx hz hz0
    have hwn0 : w.heap.size ≤ w0.heap.size := B0.size
    have o2' : OT w.heap.size wc A2 c2 (l ++ [t]) := own_base o2 hwn0
    have Bw : Below w.heap.size w wc := B0.trans (B2.mono hwn0)
    have hS2 := h.keep Bw
    clear o2 B2 B0 hS hwn hne
    have hadm := admitT_def l t p
    generalize l ++ [t] = all at hallm hall o2' hadm
    have Hadm := Lib.hid hadm
    clear hadm
    have s2 := own_size o2'
    obtain ⟨s21, _⟩ := s2
    rw [hall.out] at s21
    cases hB : hldBy l p with
    | false =>
      have hn : admitT l t p = none := by rw [Hadm.out]; simp [hB]
      have Hn := Lib.hid (admL_none hn)
      clear hn
      go_wp2_with fail
      refine (spec_HoldsBy A l c p _ hS2 hlm).mono ?_
      rw [hB]
      rintro e w3 ⟨rfl, b3⟩
      go_wp2_with fail
      go_ret2
      rw [Hn.out.1, Hn.out.2]
      exact ⟨_, 0, rfl, OT_blank _ _ (bthru Bw b3).size, bal (bthru Bw b3) _⟩
    | true =>
      have HB := Lib.hid hB
      clear hB
      cases hV : setVld all with
      | false =>
        have hn : admitT l t p = none := by rw [Hadm.out]; simp [hV]
        have Hn := Lib.hid (admL_none hn)
        clear hn
        go_wp2_with fail
        refine (spec_HoldsBy A l c p _ hS2 hlm).mono ?_
        rw [HB.out]
        rintro e w3 ⟨rfl, b3⟩
        have B3 := bthru Bw b3
        have o3 := OT_keep o2' b3
        have K := spec_SetValid A2 all c2 w3 o3.ts hallm
        rw [hall.out, hV] at K
        go_wp2_with fail
        refine K.mono ?_
        rintro e w4 ⟨rfl, b4⟩
        go_wp2_with fail
        go_ret2
        rw [Hn.out.1, Hn.out.2]
        exact ⟨_, 0, rfl, OT_blank _ _ (bthru B3 b4).size, bal (bthru B3 b4) _⟩
      | true =>
        have HV := Lib.hid hV
        clear hV
        have hl5 : all.length ≤ 5 := (setVld_all HV.out).1
        by_cases hp : p = 1
        · subst hp
          cases hW : hldVirt all with
          | false =>
            have hn : admitT l t 1 = none := by rw [Hadm.out]; simp [hW]
            have Hn := Lib.hid (admL_none hn)
            clear hn
            go_wp2_with fail
            refine (spec_HoldsBy A l c 1 _ hS2 hlm).mono ?_
            rw [HB.out]
            rintro e w3 ⟨rfl, b3⟩
            have B3 := bthru Bw b3
            have o3 := OT_keep o2' b3
            have K := spec_SetValid A2 all c2 w3 o3.ts hallm
            rw [hall.out, HV.out] at K
            go_wp2_with fail
            refine K.mono ?_
            clear K
            rintro e w4 ⟨rfl, b4⟩
            have B4 := bthru B3 b4
            have o4 := OT_keep o3 b4
            have K := spec_HoldsVirtual A2 all c2 w4 o4.ts hallm
            rw [hall.out, hW] at K
            go_wp2_with fail
            refine K.mono ?_
            rintro e w5 ⟨rfl, b5⟩
            go_wp2_with fail
            go_ret2
            rw [Hn.out.1, Hn.out.2]
            exact ⟨_, 0, rfl, OT_blank _ _ (bthru B4 b5).size, bal (bthru B4 b5) _⟩
          | true =>
            have hn : admitT l t 1 = some all := by rw [Hadm.out]; simp [hW, HB.out, HV.out]
            have Hn := Lib.hid (admL_some hn)
            clear hn
            go_wp2_with fail
            refine (spec_HoldsBy A l c 1 _ hS2 hlm).mono ?_
            rw [HB.out]
            rintro e w3 ⟨rfl, b3⟩
            have B3 := bthru Bw b3
            have o3 := OT_keep o2' b3
            have K := spec_SetValid A2 all c2 w3 o3.ts hallm
            rw [hall.out, HV.out] at K
            go_wp2_with fail
            refine K.mono ?_
            clear K
            rintro e w4 ⟨rfl, b4⟩
            have B4 := bthru B3 b4
            have o4 := OT_keep o3 b4
            have K := spec_HoldsVirtual A2 all c2 w4 o4.ts hallm
            rw [hall.out, hW] at K
            go_wp2_with fail
            refine K.mono ?_
            rintro e w5 ⟨rfl, b5⟩
            go_wp2_with fail
            go_ret2
            rw [Hn.out.1, Hn.out.2]
            exact ⟨A2, c2, by rw [hall.out]; rfl, OT_keep o4 b5, bthru B4 b5⟩
        · have hp1 : (p == 1) = false := beq_eq_false_iff_ne.2 hp
          obtain ⟨R, hR⟩ : ∃ R, assign all = R := ⟨_, rfl⟩
          cases R with
          | none =>
            have hn : admitT l t p = none := by rw [Hadm.out]; simp [hp, hR]
            have Hn := Lib.hid (admL_none hn)
            clear hn
            have hg : asgL all = [] ∧ (assign all).isSome = false := by simp [asgL, hR]
            have HG := Lib.hid hg
            clear hR hp hg
            go_wp2_with fail
            refine (spec_HoldsBy A l c p _ hS2 hlm).mono ?_
            rw [HB.out]
            rintro e w3 ⟨rfl, b3⟩
            have B3 := bthru Bw b3
            have o3 := OT_keep o2' b3
            have K := spec_SetValid A2 all c2 w3 o3.ts hallm
            rw [hall.out, HV.out] at K
            go_wp2_with fail
            refine K.mono ?_
            clear K
            rintro e w4 ⟨rfl, b4⟩
            have B4 := bthru B3 b4
            have o4 := OT_keep o3 b4
            have K := spec_AssignOrder A2 all c2 w4 o4.ts hallm
            rw [hall.out, HG.out.1, HG.out.2] at K
            go_wp2_with fail
            refine K.mono ?_
            rintro e w5 ⟨A5, c5, rfl, o5, b5⟩
            go_wp2_with fail
            go_ret2
            rw [Hn.out.1, Hn.out.2]
            exact ⟨_, 0, rfl, OT_blank _ _ (bthru B4 b5).size, bal (bthru B4 b5) _⟩
          | some o =>
            have hn : admitT l t p = some (pick all o) := by rw [Hadm.out]; simp [hp, hR, HB.out, HV.out]
            have Hn := Lib.hid (admL_some hn)
            clear hn
            have hg : asgL all = ints o ∧ (assign all).isSome = true := by simp [asgL, hR]
            obtain ⟨g1, g2, g3⟩ := assign_good hR
            have hol : Hid (o.length = l.length + 1) := by rw [Hid, g2.length_eq, List.length_range]; exact hall.out
            have hpl : Hid ((pick all o).length = l.length + 1) := by rw [Hid, pick_length]; exact hol.out
            have hx : ∀ x ∈ o, x < all.length := fun x hx => List.mem_range.1 (g2.mem_iff.1 hx)
            have HX := Lib.hid hx
            have HG := Lib.hid hg
            clear hR hp hg g1 g2 g3 hx
            go_wp2_with fail
            refine (spec_HoldsBy A l c p _ hS2 hlm).mono ?_
            rw [HB.out]
            rintro e w3 ⟨rfl, b3⟩
            have B3 := bthru Bw b3
            have o3 := OT_keep o2' b3
            have K := spec_SetValid A2 all c2 w3 o3.ts hallm
            rw [hall.out, HV.out] at K
            go_wp2_with fail
            refine K.mono ?_
            clear K
            rintro e w4 ⟨rfl, b4⟩
            have B4 := bthru B3 b4
            have o4 := OT_keep o3 b4
            have K := spec_AssignOrder A2 all c2 w4 o4.ts hallm
            rw [hall.out, HG.out.1, HG.out.2] at K
            go_wp2_with fail
            refine K.mono ?_
            clear K
            rintro e w5 ⟨A5, c5, he, o5, b5⟩
            rw [ints_length, hol.out] at he
            subst he
            have B5 := bthru B4 b5
            have K := spec_l4Put A2 A5 all o c2 c5 w5 ((OT_keep o4 b5).ts) o5.is HX.out (by omega) (by rw [hol.out, ← hall.out]; omega)
            rw [hall.out, hol.out] at K
            go_wp2_with fail
            refine K.mono ?_
            rintro e w6 ⟨A6, c6, rfl, o6, b6⟩
            have o6' : OT w.heap.size w6 A6 c6 (pick all o) := own_base o6 B5.size
            go_wp2_with fail
            go_ret2
            rw [Hn.out.1, Hn.out.2]
            exact ⟨A6, c6, rfl, o6', bthru B5 b6⟩
end Go.Proofs.Ytmkjmancmiphfaa
