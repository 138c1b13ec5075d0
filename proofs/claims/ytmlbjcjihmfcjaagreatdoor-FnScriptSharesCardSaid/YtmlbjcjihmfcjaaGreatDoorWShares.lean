/-
  What the word 'shares' does at the desk. (Printed by gen_s3.py.)
-/
import Derived.Test.YtmlbjcjihmfcjaaGreatDoorVirtI
import Derived.Test.YtmlbjcjihmfcjaaGreatDoorShareT
import Derived.Test.YtmlbjcjihmfcjaaGreatDoorWords
import Derived.Test.YtmlbjcjihmfcjaaGreatDoorHeld
namespace Go.Proofs.YtmlbjcjihmfcjaaGreatDoor
open Go.RowKit

theorem Desk.lt {B b : Nat} {w : World} {s : St} (h : Desk B b w s) : b < w.heap.size := by
  obtain ⟨hB, A, c, jv, p, v, hk, hp, hv, hO, hJ⟩ := h
  exact (Array.getElem?_eq_some_iff.1 hk).1
/-- The desk, its first two cells named. -/
def DeskX (B b : Nat) (w : World) (A : Option Addr) (c : Nat) (jv : Value) (s : St) : Prop :=
  B ≤ b ∧ ∃ p v, w.heap[b]? = some (.cells #[.slice A s.l.length c, jv, .int .i64 s.pol, p, v] DT (0, 0)) ∧ (p = .pointer none ∨ p = selfP b) ∧ w.ownsRowF B 5 1 v s.out.length (Lib.byteCells s.out) ∧
    OT B w A c s.l ∧ w.ownsRow B 93 3 jv s.jn s.jc
theorem DeskX.desk {B b : Nat} {w : World} {A : Option Addr} {c : Nat} {jv : Value} {s : St} (h : DeskX B b w A c jv s) : Desk B b w s := by
  obtain ⟨hB, p, v, h⟩ := h
  exact ⟨hB, A, c, jv, p, v, h⟩
theorem Desk.x {B b : Nat} {w : World} {s : St} (h : Desk B b w s) : ∃ A c jv, DeskX B b w A c jv s := by
  obtain ⟨hB, A, c, jv, p, v, h⟩ := h
  exact ⟨A, c, jv, hB, p, v, h⟩
theorem DeskX.c0 {B b : Nat} {w : World} {A : Option Addr} {c : Nat} {jv : Value} {s : St} (h : DeskX B b w A c jv s) : w.cell? ⟨b, 0, none⟩ = some (.slice A s.l.length c) := by
  obtain ⟨hB, p, v, hk, h⟩ := h
  rw [Lib.cell_of_heap hk]
  rfl
theorem DeskX.keep {B b : Nat} {w w' : World} {A : Option Addr} {c : Nat} {jv : Value} {s : St} (h : DeskX B b w A c jv s) (hb : Below w.heap.size w w') : DeskX B b w' A c jv s := by
  obtain ⟨hB, p, v, hk, hp, hv, hO, hJ⟩ := h
  have hlt : b < w.heap.size := (Array.getElem?_eq_some_iff.1 hk).1
  refine ⟨hB, p, v, (hb.block b hlt).trans hk, hp, ?_, OT_keep hO hb, own_keep hJ hb⟩
  refine ⟨hv.1, ?_⟩
  rcases hv.2 with hn | ⟨g, cap, cur, fz, e, hg, hh, r⟩
  · exact .inl hn
  · exact .inr ⟨g, cap, cur, fz, e, hg, (hb.block g (Array.getElem?_eq_some_iff.1 hh).1).trans hh, r⟩
set_option maxHeartbeats 2000000 in
set_option maxRecDepth 100000 in
theorem deskX_Write {B b : Nat} {w : World} {A : Option Addr} {c : Nat} {jv : Value} {s : St} (h : DeskX B b w A c jv s) (x : List UInt8) (hlen : s.out.length + x.length ≤ 140737488355328) (hBw : B ≤ w.heap.size) :
    Calls Tryz.prog 168 #[selfP b, .string ⟨x.toArray⟩] w fun e w' => e = .returned (.tuple #[.int .i64 (x.length : Int), .nilIface]) ∧ DeskX B b w' A c jv { s with out := s.out ++ x } ∧ Frm B b w w' := by
  obtain ⟨i0, hi, hz0, hz1, hz2⟩ := info_parts infoByte
  obtain ⟨hB, p, v, hk, hp, hv, hO, hJ⟩ := h
  have hss : (⟨x.toArray⟩ : ByteArray).size = x.length := by rw [Lib.size_eq]
  have e166 : (Lib.strCells ⟨x.toArray⟩) = Lib.byteCells x := by rw [Lib.strCells_eq]
  go_enter Tryz.func168, Tryz.ntmps168
  go_wp2_with fail
  refine (copyCheck_at b _ _ _ p v _ hk hp).mono ?_
  rintro e w1 ⟨rfl, hk1, g1⟩
  have c0 : w1.cell? ⟨b, 3, none⟩ = some (selfP b) := by rw [Lib.cell_of_heap hk1]; rfl
  have c1 : w1.cell? ⟨b, 4, none⟩ = some v := by rw [Lib.cell_of_heap hk1]; rfl
  have hb1 : Below B w w1 := (Below.refl B w).grown g1 hBw (fun k hk => by cases hk; exact hB)
  have hf1 : Frm B b w w1 := ⟨kept_grown g1, hb1⟩
  have hvb : v.ownBlock ≠ some b := by
    intro e
    obtain ⟨cs, fz, hc⟩ := Lib.ownsRowF_kind hv b e
    rw [hk] at hc
    injection hc with hc
    injection hc with _ ht _
    exact tn3 ht
  have hv1 : w1.ownsRowF B 5 1 v s.out.length (Lib.byteCells s.out) := hv.kept g1 (.inr hvb)
  have hO1 : OT B w1 A c s.l := own_keepX hO _ g1 (fun g hg => by cases hg; exact ⟨_, _, _, hk, tn1⟩)
  have hJ1 := own_keepX hJ _ g1 (fun g hg => by cases hg; exact ⟨_, _, _, hk, tn4⟩)
  clear hk hv hO hJ
  go_wp2_with (at_builtin; refine Lib.wpList_append_own_stringF _ rfl _ _ 22 9 rfl B 5 i0 Tryz.underlying22 Tryz.underlying9 hi hz0 hz1 hz2 _ _ _ rfl hv1 ⟨x.toArray⟩ rfl ?c3 ?c4 ?c5 ?_)
  case c3 => rw [hss]; unfold maxLen; omega
  case c4 => rw [hss]; omega
  case c5 => have := hb1.size; omega
  intro v' w2 hown' hgrow _
  have hlt : b < w1.heap.size := (Array.getElem?_eq_some_iff.1 hk1).1
  have hk2 : w2.heap[b]? = some (.cells #[.slice A s.l.length c, jv, .int .i64 s.pol, selfP b, v] DT (0, 0)) := by
    rw [hgrow.block b hlt (fun e => hvb e.symm)]
    exact hk1
  have d0 : w2.cell? ⟨b, 3, none⟩ = some (selfP b) := by rw [Lib.cell_of_heap hk2]; rfl
  have d1 : w2.cell? ⟨b, 4, none⟩ = some v := by rw [Lib.cell_of_heap hk2]; rfl
  have f1 : w2.frozen? ⟨b, 4, none⟩ = false := Lib.frozen_of_heap hk2 4
  have hO2 : OT B w2 A c s.l := own_keepX hO1 _ hgrow (fun g hg => by
    obtain ⟨cs, fz, hc⟩ := Lib.ownsRowF_kind hv1 g hg
    exact ⟨_, _, _, hc, tn2⟩)
  have hJ2 := own_keepX hJ1 _ hgrow (fun g hg => by
    obtain ⟨cs, fz, hc⟩ := Lib.ownsRowF_kind hv1 g hg
    exact ⟨_, _, _, hc, tn5⟩)
  have hb2 : Below B w w2 := hb1.grown hgrow (by have := hb1.size; omega) (fun k hk => (hv1.lt k hk).1)
  have hf2 : Frm B b w w2 := ⟨hf1.1.grown hgrow (Lib.ownsRowF_kind hv1), hb2⟩
  have hown' : w2.ownsRowF B 5 1 v' (s.out.length + x.length) (Lib.byteCells s.out ++ Lib.byteCells x) := by
    first
      | exact hown'
      | (rw [e166, hss] at hown'; exact hown')
      | (rw [hss] at hown'; exact hown')
      | (rw [e166] at hown'; exact hown')
  obtain ⟨ao, n', cap, rfl⟩ : ∃ ao n' cap, v' = .slice ao n' cap := by
    rcases hown'.2 with ⟨hv, _⟩ | ⟨g, cap, cur, fz, hv, _⟩
    · exact ⟨_, _, _, hv⟩
    · exact ⟨_, _, _, hv⟩
  go_wp2
  go_ret2
  have hne : (Value.slice ao n' cap).ownBlock ≠ some b := by
    intro e
    obtain ⟨cs, fz, hc⟩ := Lib.ownsRowF_kind hown' b e
    rw [hk2] at hc
    injection hc with hc
    injection hc with _ ht _
    exact tn3 ht
  have g3 := gb_setCell w2 b 4 (.slice ao n' cap)
  refine ⟨rfl, ⟨hB, selfP b, _, desk_blk hk2 4 _, .inr rfl, ?_, own_keepX hO2 _ g3 (fun g hg => by cases hg; exact ⟨_, _, _, hk2, tn1⟩), own_keepX hJ2 _ g3 (fun g hg => by cases hg; exact ⟨_, _, _, hk2, tn4⟩)⟩, ⟨hf2.1.trans (kept_grown g3), hb2.setCell (p := ⟨b, 4, none⟩) hB _⟩⟩
  show (w2.setCell ⟨b, 4, none⟩ (.slice ao n' cap)).ownsRowF B 5 1 (.slice ao n' cap) (s.out ++ x).length (Lib.byteCells (s.out ++ x))
  rw [List.length_append, Lib.byteCells_append]
  exact hown'.kept g3 (.inr hne)
set_option maxHeartbeats 2000000 in
set_option maxRecDepth 100000 in
theorem deskX_tell {B b : Nat} {w : World} {A : Option Addr} {c : Nat} {jv : Value} {s : St} (h : DeskX B b w A c jv s) (x : List UInt8) (S : ByteArray) (hS : S = ⟨x.toArray⟩) (hlen : s.out.length + x.length ≤ 900000) (hBw : B ≤ w.heap.size) :
    Calls Tryz.prog 95 #[.pointer (some ⟨b, 0, none⟩), .string S] w fun e w' => e = .returned (.tuple #[]) ∧ DeskX B b w' A c jv { s with out := s.out ++ (x ++ [10]) } ∧ Frm B b w w' := by
  subst hS
  have hx : x.length ≤ 900000 := by omega
  have K : ∀ S : ByteArray, S = ⟨(x ++ [10]).toArray⟩ → Calls Tryz.prog 168 #[selfP b, .string S] w fun e w' => e = .returned (.tuple #[.int .i64 ((x ++ [10]).length : Int), .nilIface]) ∧ DeskX B b w' A c jv { s with out := s.out ++ (x ++ [10]) } ∧ Frm B b w w' := fun S hS => by
    subst hS
    exact deskX_Write h (x ++ [10]) (by simp <;> omega) hBw
  go_enter Tryz.func95, Tryz.ntmps95
  go_wp2_with fail
  refine (K _ (mk_app x [10])).mono ?_
  rintro e w1 ⟨rfl, D, F⟩
  go_wp2_with fail
  go_end0
  exact ⟨rfl, D, F⟩
set_option maxHeartbeats 4000000 in
set_option maxRecDepth 100000 in
theorem plain_shares (s : St) (hS : setVld s.l = true) (ho : s.out.length ≤ 700000) : PlainIs [115, 104, 97, 114, 101, 115] s { s with out := s.out ++ (((((([115, 104, 97, 114, 101, 115, 32] ++ shareT (shares false false s.l)) ++ [32]) ++ shareT (shares true false s.l)) ++ [32]) ++ shareT (shares true true s.l)) ++ [10]) } := by
  intro B b w hM D hBw
  have D0 := D
  obtain ⟨A, c, jv, c0, c1, c2, f0, f1, f2, hO, hlc⟩ := D0.cells
  go_enter Tryz.func172, Tryz.ntmps172
  have R1 := RIn_shares hS false false
  have R2 := RIn_shares hS true false
  have R3 := RIn_shares hS true true
  have L1 := shareT_len _ R1
  have L2 := shareT_len _ R2
  have L3 := shareT_len _ R3
  have V1 := Lib.hid (sumV_yes hS false false)
  have V2 := Lib.hid (sumV_yes hS true false)
  have V3 := Lib.hid (sumV_yes hS true true)
  have hbl : b < w.heap.size := D.lt
  clear c0 c1 c2 f0 f1 f2 hO hlc
  have DX := D.x
  obtain ⟨A, c, jv, DX⟩ := DX
  have c0 := DX.c0
  have hO : TS w A s.l := by
    obtain ⟨_, _, _, _, _, _, h, _⟩ := DX
    exact h.ts
  generalize shares false false s.l = r1 at *
  generalize shares true false s.l = r2 at *
  generalize shares true true s.l = r3 at *
  go_wp2_with fail
  refine wp_region_held (S := fun w' => w'.cell? ⟨b, 0, none⟩ = some (.slice A s.l.length c)) (by kernel_rfl) ?_
  change wpAnyH _ _ _ _ _ _ _ _ (World.drew _)
  have hS0 : (World.drew w).cell? ⟨b, 0, none⟩ = some (.slice A s.l.length c) := c0
  have Kz : Below w.heap.size w (World.drew w) := Below.drew (Below.refl _ _)
  refine takeHL (i := 0) 146 (.pointer (some ⟨b, 0, none⟩)) rfl rfl (by kernel_rfl) (by kernel_rfl) (by kernel_rfl) (fun _ _ _ h => h) (.inl ⟨by rfl, fun _ _ => rfl⟩) hS0 ?_
  simp only [List.set_cons_succ, List.set_cons_zero]
  refine takeHL (i := 1) 147 (.pointer (some ⟨b, 0, none⟩)) rfl rfl (by kernel_rfl) (by kernel_rfl) (by kernel_rfl) (fun _ _ _ h => h) (.inl ⟨by rfl, fun _ _ => rfl⟩) hS0 ?_
  simp only [List.set_cons_succ, List.set_cons_zero]
  refine takeHL (i := 2) 148 (.pointer (some ⟨b, 0, none⟩)) rfl rfl (by kernel_rfl) (by kernel_rfl) (by kernel_rfl) (fun _ _ _ h => h) (.inl ⟨by rfl, fun w _ => by go_simp⟩) hS0 ?_
  simp only [List.set_cons_succ, List.set_cons_zero]
  refine takeHL (i := 3) 149 (.pointer (some ⟨b, 0, none⟩)) rfl rfl (by kernel_rfl) (by kernel_rfl) (by kernel_rfl) (fun _ _ _ h => h) (.inl ⟨by rfl, fun w _ => by go_simp⟩) hS0 ?_
  simp only [List.set_cons_succ, List.set_cons_zero]
  refine takeHL (i := 4) 150 (.slice A s.l.length c) rfl rfl (by kernel_rfl) (by kernel_rfl) (by kernel_rfl) (fun _ _ _ h => h) (.inl ⟨by rfl, fun w hS => by have h1 := hS; go_simp⟩) hS0 ?_
  simp only [List.set_cons_succ, List.set_cons_zero]
  refine takeHL (i := 9) 155 (.pointer (some ⟨b, 0, none⟩)) rfl rfl (by kernel_rfl) (by kernel_rfl) (by kernel_rfl) (fun _ _ _ h => h) (.inl ⟨by rfl, fun _ _ => rfl⟩) hS0 ?_
  simp only [List.set_cons_succ, List.set_cons_zero]
  refine takeHL (i := 10) 156 (.pointer (some ⟨b, 0, none⟩)) rfl rfl (by kernel_rfl) (by kernel_rfl) (by kernel_rfl) (fun _ _ _ h => h) (.inl ⟨by rfl, fun w _ => by go_simp⟩) hS0 ?_
  simp only [List.set_cons_succ, List.set_cons_zero]
  refine takeHL (i := 11) 157 (.pointer (some ⟨b, 0, none⟩)) rfl rfl (by kernel_rfl) (by kernel_rfl) (by kernel_rfl) (fun _ _ _ h => h) (.inl ⟨by rfl, fun w _ => by go_simp⟩) hS0 ?_
  simp only [List.set_cons_succ, List.set_cons_zero]
  refine takeHL (i := 12) 158 (.slice A s.l.length c) rfl rfl (by kernel_rfl) (by kernel_rfl) (by kernel_rfl) (fun _ _ _ h => h) (.inl ⟨by rfl, fun w hS => by have h1 := hS; go_simp⟩) hS0 ?_
  simp only [List.set_cons_succ, List.set_cons_zero]
  refine takeHL (i := 17) 163 (.pointer (some ⟨b, 0, none⟩)) rfl rfl (by kernel_rfl) (by kernel_rfl) (by kernel_rfl) (fun _ _ _ h => h) (.inl ⟨by rfl, fun _ _ => rfl⟩) hS0 ?_
  simp only [List.set_cons_succ, List.set_cons_zero]
  refine takeHL (i := 18) 164 (.pointer (some ⟨b, 0, none⟩)) rfl rfl (by kernel_rfl) (by kernel_rfl) (by kernel_rfl) (fun _ _ _ h => h) (.inl ⟨by rfl, fun w _ => by go_simp⟩) hS0 ?_
  simp only [List.set_cons_succ, List.set_cons_zero]
  refine takeHL (i := 19) 165 (.pointer (some ⟨b, 0, none⟩)) rfl rfl (by kernel_rfl) (by kernel_rfl) (by kernel_rfl) (fun _ _ _ h => h) (.inl ⟨by rfl, fun w _ => by go_simp⟩) hS0 ?_
  simp only [List.set_cons_succ, List.set_cons_zero]
  refine takeHL (i := 20) 166 (.slice A s.l.length c) rfl rfl (by kernel_rfl) (by kernel_rfl) (by kernel_rfl) (fun _ _ _ h => h) (.inl ⟨by rfl, fun w hS => by have h1 := hS; go_simp⟩) hS0 ?_
  simp only [List.set_cons_succ, List.set_cons_zero]
  refine callHL 5 151 rfl rfl (by kernel_rfl) (by rfl) 47 Tryz.func47 (by kernel_rfl) rfl _ _ rfl (#[.slice A s.l.length c, .bool false]) (by simp [Act.eval]) (impl_LowShare A s.l c false _ (hO.keep Kz)) ?_
  rw [V1.out]
  rintro e v1 ⟨rfl, k1⟩
  have K1 : Below w.heap.size w v1 := bthru Kz k1
  have S1 := (K1.cell (p := ⟨b, 0, none⟩) hbl).trans c0
  refine ⟨_, rfl, S1, ?_⟩
  simp only [List.set_cons_succ, List.set_cons_zero]
  refine callHL 6 152 rfl rfl (by kernel_rfl) (by rfl) 46 Tryz.func46 (by kernel_rfl) rfl _ _ rfl (#[rv r1]) (by simp [Act.eval]) (impl_FormatShare r1 R1 _ (hM.keep (Below.mono K1 hBw)) (Nat.le_trans hBw (Below.size K1))) ?_
  rintro e v2 ⟨rfl, k2⟩
  have K2 : Below w.heap.size w v2 := bthru K1 k2
  have S2 := (K2.cell (p := ⟨b, 0, none⟩) hbl).trans c0
  refine ⟨_, rfl, S2, ?_⟩
  simp only [List.set_cons_succ, List.set_cons_zero]
  refine takeHL (i := 7) 153 (.string ⟨([115, 104, 97, 114, 101, 115, 32] ++ shareT r1).toArray⟩) rfl rfl (by kernel_rfl) (by kernel_rfl) (by kernel_rfl) (fun _ _ _ h => h) (.inl ⟨by rfl, fun w _ => by go_simp; rw [if_neg (by omega), mk_app]; first | rfl | simp⟩) S2 ?_
  simp only [List.set_cons_succ, List.set_cons_zero]
  refine takeHL (i := 8) 154 (.string ⟨(([115, 104, 97, 114, 101, 115, 32] ++ shareT r1) ++ [32]).toArray⟩) rfl rfl (by kernel_rfl) (by kernel_rfl) (by kernel_rfl) (fun _ _ _ h => h) (.inl ⟨by rfl, fun w _ => by go_simp; rw [if_neg (by omega), mk_app]; first | rfl | simp⟩) S2 ?_
  simp only [List.set_cons_succ, List.set_cons_zero]
  refine callHL 13 159 rfl rfl (by kernel_rfl) (by rfl) 47 Tryz.func47 (by kernel_rfl) rfl _ _ rfl (#[.slice A s.l.length c, .bool true]) (by simp [Act.eval]) (impl_LowShare A s.l c true _ (hO.keep K2)) ?_
  rw [V2.out]
  rintro e v3 ⟨rfl, k3⟩
  have K3 : Below w.heap.size w v3 := bthru K2 k3
  have S3 := (K3.cell (p := ⟨b, 0, none⟩) hbl).trans c0
  refine ⟨_, rfl, S3, ?_⟩
  simp only [List.set_cons_succ, List.set_cons_zero]
  refine callHL 14 160 rfl rfl (by kernel_rfl) (by rfl) 46 Tryz.func46 (by kernel_rfl) rfl _ _ rfl (#[rv r2]) (by simp [Act.eval]) (impl_FormatShare r2 R2 _ (hM.keep (Below.mono K3 hBw)) (Nat.le_trans hBw (Below.size K3))) ?_
  rintro e v4 ⟨rfl, k4⟩
  have K4 : Below w.heap.size w v4 := bthru K3 k4
  have S4 := (K4.cell (p := ⟨b, 0, none⟩) hbl).trans c0
  refine ⟨_, rfl, S4, ?_⟩
  simp only [List.set_cons_succ, List.set_cons_zero]
  refine takeHL (i := 15) 161 (.string ⟨((([115, 104, 97, 114, 101, 115, 32] ++ shareT r1) ++ [32]) ++ shareT r2).toArray⟩) rfl rfl (by kernel_rfl) (by kernel_rfl) (by kernel_rfl) (fun _ _ _ h => h) (.inl ⟨by rfl, fun w _ => by go_simp; rw [if_neg (by omega), mk_app]; first | rfl | simp⟩) S4 ?_
  simp only [List.set_cons_succ, List.set_cons_zero]
  refine takeHL (i := 16) 162 (.string ⟨(((([115, 104, 97, 114, 101, 115, 32] ++ shareT r1) ++ [32]) ++ shareT r2) ++ [32]).toArray⟩) rfl rfl (by kernel_rfl) (by kernel_rfl) (by kernel_rfl) (fun _ _ _ h => h) (.inl ⟨by rfl, fun w _ => by go_simp; rw [if_neg (by omega), mk_app]; first | rfl | simp⟩) S4 ?_
  simp only [List.set_cons_succ, List.set_cons_zero]
  refine callHL 21 167 rfl rfl (by kernel_rfl) (by rfl) 44 Tryz.func44 (by kernel_rfl) rfl _ _ rfl (#[.slice A s.l.length c]) (by simp [Act.eval]) (impl_HighShare A s.l c _ (hO.keep K4)) ?_
  rw [V3.out]
  rintro e v5 ⟨rfl, k5⟩
  have K5 : Below w.heap.size w v5 := bthru K4 k5
  have S5 := (K5.cell (p := ⟨b, 0, none⟩) hbl).trans c0
  refine ⟨_, rfl, S5, ?_⟩
  simp only [List.set_cons_succ, List.set_cons_zero]
  refine callHL 22 168 rfl rfl (by kernel_rfl) (by rfl) 46 Tryz.func46 (by kernel_rfl) rfl _ _ rfl (#[rv r3]) (by simp [Act.eval]) (impl_FormatShare r3 R3 _ (hM.keep (Below.mono K5 hBw)) (Nat.le_trans hBw (Below.size K5))) ?_
  rintro e v6 ⟨rfl, k6⟩
  have K6 : Below w.heap.size w v6 := bthru K5 k6
  have S6 := (K6.cell (p := ⟨b, 0, none⟩) hbl).trans c0
  refine ⟨_, rfl, S6, ?_⟩
  simp only [List.set_cons_succ, List.set_cons_zero]
  refine takeHL (i := 23) 169 (.string ⟨((((([115, 104, 97, 114, 101, 115, 32] ++ shareT r1) ++ [32]) ++ shareT r2) ++ [32]) ++ shareT r3).toArray⟩) rfl rfl (by kernel_rfl) (by kernel_rfl) (by kernel_rfl) (fun _ _ _ h => h) (.inl ⟨by rfl, fun w _ => by go_simp; rw [if_neg (by omega), mk_app]; first | rfl | simp⟩) S6 ?_
  simp only [List.set_cons_succ, List.set_cons_zero]
  refine callHL 24 170 rfl rfl (by kernel_rfl) (by rfl) 95 Tryz.func95 (by kernel_rfl) rfl _ _ rfl (#[.pointer (some ⟨b, 0, none⟩), .string ⟨((((([115, 104, 97, 114, 101, 115, 32] ++ shareT r1) ++ [32]) ++ shareT r2) ++ [32]) ++ shareT r3).toArray⟩]) (by simp [Act.eval]) (deskX_tell (DX.keep K6) ((((([115, 104, 97, 114, 101, 115, 32] ++ shareT r1) ++ [32]) ++ shareT r2) ++ [32]) ++ shareT r3) _ rfl (by first | omega | (simp <;> omega)) (Nat.le_trans hBw (Below.size K6))) ?_
  rintro e w2 ⟨rfl, DX2, F2⟩
  replace F2 := ((Frm.refl B b w).thru hBw K6).trans F2
  refine ⟨_, rfl, DX2.c0, ?_⟩
  simp only [List.set_cons_succ, List.set_cons_zero]
  refine wpAnyH_done (by kernel_rfl) ?_ _
  go_wp2_with fail
  go_ret
  exact ⟨rfl, DX2.desk, F2⟩
end Go.Proofs.YtmlbjcjihmfcjaaGreatDoor
