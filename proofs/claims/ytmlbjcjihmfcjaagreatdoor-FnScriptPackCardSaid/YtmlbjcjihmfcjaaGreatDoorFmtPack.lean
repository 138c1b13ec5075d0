/-
  Texts of ways: the program's and the reference's.
-/
import Derived.Test.YtmlbjcjihmfcjaaGreatDoorFmtSet
import Derived.Test.YtmlbjcjihmfcjaaGreatDoorGroup
namespace Go.Proofs.YtmlbjcjihmfcjaaGreatDoor
open Go.RowKit

def piece (l : List Tk) (ws : List Int) (p : Int) : List UInt8 :=
  if 0 < (grp l ws p).length then [112, 114, 111, 99, 101, 115, 115, 111, 114, 32] ++ num p ++ [58, 32] ++ fmtSet (grp l ws p) ++ [10] else []
def packTo (l : List Tk) (ws : List Int) : Nat → List UInt8
  | 0 => []
  | n + 1 => packTo l ws n ++ piece l ws (n : Int)
def fmtPack (l : List Tk) (ws : List Int) : List UInt8 := if packVld l ws 3 then packTo l ws 3 else []
theorem packVld_parts {l : List Tk} {ws : List Int} {m : Int} (h : packVld l ws m = true) : setVld l = true ∧ ws.length = l.length := by
  simp only [packVld, Bool.and_eq_true, decide_eq_true_eq] at h
  exact ⟨h.1.1.1.1, h.1.2⟩
theorem piece_le (l : List Tk) (ws : List Int) (p : Int) (hp : p ≤ 100) : (piece l ws p).length ≤ 600 := by
  have h1 := fmtSet_le (grp l ws p)
  have h2 := num_len p (by omega)
  unfold piece
  split
  · simp only [List.length_append, List.length_cons, List.length_nil]
    omega
  · simp
theorem packTo_le (l : List Tk) (ws : List Int) (n : Nat) (hn : n ≤ 100) : (packTo l ws n).length ≤ n * 600 := by
  induction n with
  | zero => simp [packTo]
  | succ n ih =>
    have h1 := ih (by omega)
    have h2 := piece_le l ws (n : Int) (by omega)
    simp only [packTo, List.length_append]
    omega

set_option maxHeartbeats 2000000 in
theorem impl_FormatPack (A B : Option Addr) (l : List Tk) (ws : List Int) (c d : Nat) (w : World) (h : TS w A l) (g : IS w B ws) :
    Calls Tryz.prog 76 #[.slice A l.length c, .slice B ws.length d] w fun e w' => e = .returned (.string ⟨(fmtPack l ws).toArray⟩) ∧ Below w.heap.size w w' := by
  cases hP : packVld l ws 3 with
  | false =>
    have HF : Hid (fmtPack l ws = []) := by simp [Hid, fmtPack, hP]
    go_enter Tryz.func76, Tryz.ntmps76
    go_wp2_with fail
    refine (impl_PackValid A B l ws c d 3 _ h g).mono ?_
    rw [hP]
    rintro e w1 ⟨rfl, b1⟩
    go_wp2_with fail
    go_ret
    exact ⟨by rw [HF.out]; rfl, b1⟩
  | true =>
    obtain ⟨hs, hlen⟩ := packVld_parts hP
    have hl5 := setVld_len hs
    have HF : Hid (fmtPack l ws = packTo l ws 3) := by simp [Hid, fmtPack, hP]
    have HP := Lib.hid hP
    have Hlen := Lib.hid hlen
    clear hs hlen hP
    go_enter Tryz.func76, Tryz.ntmps76
    go_wp2_with fail
    refine (impl_PackValid A B l ws c d 3 _ h g).mono ?_
    rw [HP.out]
    rintro e w1 ⟨rfl, b1⟩
    go_wp2_with fail
    go_loopw [5, 12] (fun v i wr => ∃ (k : Nat) (T : List UInt8), i = .int .i64 (k : Int) ∧ v = .string ⟨T.toArray⟩ ∧ k ≤ 3 ∧ Hid (T = packTo l ws k) ∧ Below w.heap.size w wr) (fun _ i _ => 3 - (intOf i).toNat)
    case atStart => exact ⟨0, [], rfl, rfl, by omega, rfl, b1⟩
    case round =>
      obtain ⟨k, T, rfl, rfl, hk, hT, hb⟩ := hrel
      have hTl : T.length ≤ 1800 := by
        rw [hT.out]
        have := packTo_le l ws k (by omega)
        omega
      by_cases hlt : (k : Int) < 3
      · have hgl := grp_len l ws (k : Int)
        have hnl := num_len (k : Int) (by omega)
        have hsl := fmtSet_le (grp l ws (k : Int))
        have hnx : Hid (packTo l ws (k + 1) = T ++ piece l ws (k : Int)) := by rw [Hid, hT.out]; rfl
        go_wp2_with fail
        refine (impl_group A B l ws c d (k : Int) _ (h.keep hb) (g.keep hb) Hlen.out (by omega)).mono ?_
        rintro e w2 ⟨A2, c2, rfl, o2, b2⟩
        have B2 := bthru hb b2
        by_cases hg0 : 0 < (grp l ws (k : Int)).length
        · have hpc : Hid (T ++ piece l ws (k : Int) = T ++ ([112, 114, 111, 99, 101, 115, 115, 111, 114, 32] ++ num (k : Int) ++ [58, 32] ++ fmtSet (grp l ws (k : Int)) ++ [10])) := by rw [Hid, piece, if_pos hg0]
          generalize grp l ws (k : Int) = G at *
          go_wp2_with fail
          refine (itoa_num (k : Int) (by omega) (by omega) _).mono ?_
          rintro e w3 ⟨rfl, rfl⟩
          go_wp2_with fail
          refine (impl_FormatSet A2 G c2 _ o2.ts).mono ?_
          rintro e w4 ⟨rfl, b4⟩
          go_wp2_with fail
          go_roundw
          case rel => exact ⟨k + 1, _, by go_num, by rw [hnx.out, hpc.out]; simp only [← mk_app], by omega, rfl, bthru B2 b4⟩
          case measure => simp [intOf]; omega
        · have hpc : Hid (packTo l ws (k + 1) = T) := by rw [Hid, hnx.out, piece, if_neg hg0, List.append_nil]
          go_wp2_with fail
          go_roundw
          case rel => exact ⟨k + 1, _, by go_num, by rw [hpc.out], by omega, rfl, B2⟩
          case measure => simp [intOf]; omega
      · obtain rfl : k = 3 := by omega
        go_wp2_with fail
        go_ret
        exact ⟨by rw [HF.out, ← hT.out]; rfl, hb⟩

set_option maxHeartbeats 2000000 in
theorem spec_FormatPack (A B : Option Addr) (l : List Tk) (ws : List Int) (c d : Nat) (w : World) (h : TS w A l) (g : IS w B ws) (hm : l.length ≤ 9223372036854775807) :
    Calls Tryz.prog 232 #[.slice A l.length c, .slice B ws.length d] w fun e w' => e = .returned (.string ⟨(fmtPack l ws).toArray⟩) ∧ Below w.heap.size w w' := by
  cases hP : packVld l ws 3 with
  | false =>
    have HF : Hid (fmtPack l ws = []) := by simp [Hid, fmtPack, hP]
    go_enter Tryz.func232, Tryz.ntmps232
    go_wp2_with fail
    refine (spec_PackValid A B l ws c d 3 _ h g hm).mono ?_
    rw [hP]
    rintro e w1 ⟨rfl, b1⟩
    go_wp2_with fail
    go_ret
    exact ⟨by rw [HF.out]; rfl, b1⟩
  | true =>
    obtain ⟨hs, hlen⟩ := packVld_parts hP
    have hl5 := setVld_len hs
    have HF : Hid (fmtPack l ws = packTo l ws 3) := by simp [Hid, fmtPack, hP]
    have HP := Lib.hid hP
    have Hlen := Lib.hid hlen
    clear hs hlen hP
    go_enter Tryz.func232, Tryz.ntmps232
    go_wp2_with fail
    refine (spec_PackValid A B l ws c d 3 _ h g hm).mono ?_
    rw [HP.out]
    rintro e w1 ⟨rfl, b1⟩
    go_wp2_with fail
    go_loopw [5, 6] (fun v i wr => ∃ (k : Nat) (T : List UInt8), i = .int .i64 (k : Int) ∧ v = .string ⟨T.toArray⟩ ∧ k ≤ 3 ∧ Hid (T = packTo l ws k) ∧ Below w.heap.size w wr) (fun _ i _ => 3 - (intOf i).toNat)
    case atStart => exact ⟨0, [], rfl, rfl, by omega, rfl, b1⟩
    case round =>
      obtain ⟨k, T, rfl, rfl, hk, hT, hb⟩ := hrel
      have hTl : T.length ≤ 1800 := by
        rw [hT.out]
        have := packTo_le l ws k (by omega)
        omega
      by_cases hlt : (k : Int) < 3
      · have hgl := grp_len l ws (k : Int)
        have hnl := num_len (k : Int) (by omega)
        have hsl := fmtSet_le (grp l ws (k : Int))
        have hnx : Hid (packTo l ws (k + 1) = T ++ piece l ws (k : Int)) := by rw [Hid, hT.out]; rfl
        go_wp2_with fail
        refine (spec_l9Group A B l ws c d (k : Int) _ (h.keep hb) (g.keep hb) Hlen.out (by omega)).mono ?_
        rintro e w2 ⟨A2, c2, rfl, o2, b2⟩
        have B2 := bthru hb b2
        by_cases hg0 : 0 < (grp l ws (k : Int)).length
        · have hpc : Hid (T ++ piece l ws (k : Int) = ((((T ++ [112, 114, 111, 99, 101, 115, 115, 111, 114, 32]) ++ num (k : Int)) ++ [58, 32]) ++ fmtSet (grp l ws (k : Int))) ++ [10]) := by rw [Hid, piece, if_pos hg0]; simp [List.append_assoc]
          generalize grp l ws (k : Int) = G at *
          go_wp2_with fail
          refine (dec_num (k : Int) (by omega) (by omega) _).mono ?_
          rintro e w3 ⟨rfl, b3⟩
          go_wp2_with fail
          refine (spec_FormatSet A2 G c2 _ (o2.ts.keep b3) (by omega)).mono ?_
          rintro e w4 ⟨rfl, b4⟩
          go_wp2_with fail
          go_roundw
          case rel => exact ⟨k + 1, _, by go_num, by rw [hnx.out, hpc.out]; simp only [← mk_app], by omega, rfl, bthru B2 (bthru b3 b4)⟩
          case measure => simp [intOf]; omega
        · have hpc : Hid (packTo l ws (k + 1) = T) := by rw [Hid, hnx.out, piece, if_neg hg0, List.append_nil]
          go_wp2_with fail
          go_roundw
          case rel => exact ⟨k + 1, _, by go_num, by rw [hpc.out], by omega, rfl, B2⟩
          case measure => simp [intOf]; omega
      · obtain rfl : k = 3 := by omega
        go_wp2_with fail
        go_ret
        exact ⟨by rw [HF.out, ← hT.out]; rfl, hb⟩
end Go.Proofs.YtmlbjcjihmfcjaaGreatDoor
