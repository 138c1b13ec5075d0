/-
  FnScriptRun returns true for every code.
-/
import Derived.Test.YtmkjmancmiphfaaGreatDoorRa25
import Derived.Test.YtmkjmancmiphfaaGreatDoorRa27
import Derived.Test.YtmkjmancmiphfaaGreatDoorRa28
import Derived.Test.YtmkjmancmiphfaaGreatDoorTie
import Derived.Test.YtmkjmancmiphfaaGreatDoorCards
namespace Go.Proofs.YtmkjmancmiphfaaGreatDoor
open Go.RowKit

theorem dm_numB (n : Int) (h0 : 0 ≤ n) (h1 : n ≤ 100000) (w : World) :
    Calls Tryz.prog 13 #[.int .i64 n] w fun e w' => e = .returned (.string ⟨(num n).toArray⟩) ∧ Below w.heap.size w w' := by
  have K := laws_dmNumber n.toNat (by omega) w
  rw [Int.toNat_of_nonneg h0] at K
  exact K
set_option maxHeartbeats 4000000 in
set_option maxRecDepth 100000 in
theorem text_no_run (r : List UInt8) (s : St) : TextNo [114, 117, 110] r s := by
  intro B b w hM D hBw
  go_enter Tryz.func78, Tryz.ntmps78
  go_wp2_with fail
  go_ret
  exact ⟨rfl, D, Frm.refl B b w⟩
theorem cut_front (x y : List UInt8) : (ByteArray.mk (x ++ y).toArray).extract 0 x.length = ByteArray.mk x.toArray := by
  rw [Go.Lib.extract_eq]
  show (⟨(((x ++ y).drop 0).take (x.length - 0)).toArray⟩ : ByteArray) = _
  rw [List.drop_zero, Nat.sub_zero, List.take_left']
  rfl
set_option maxHeartbeats 4000000 in
set_option maxRecDepth 100000 in
theorem laws_dmBegins (x y : List UInt8) (S : ByteArray) (hS : S = ⟨(x ++ y).toArray⟩) (X : ByteArray) (hX : X = ⟨x.toArray⟩) (w : World) (hl : (x ++ y).length ≤ 1000000) :
    Calls Tryz.prog 17 #[.string S, .string X] w fun e w' => e = .returned (.bool true) ∧ Below w.heap.size w w' := by
  have hsz : S.size = (x ++ y).length := by rw [hS, Go.Lib.size_eq]
  have hxz : X.size = x.length := by rw [hX, Go.Lib.size_eq]
  have hcut : S.extract 0 X.size = X := by rw [hxz, hS, hX]; exact cut_front x y
  have hle : X.size ≤ S.size := by rw [hsz, hxz]; simp
  have hSl : S.size ≤ 1000000 := by rw [hsz]; exact hl
  have hcut0 : S.extract 0 (0 + X.size) = X := by rw [Nat.zero_add]; exact hcut
  clear hS hX hsz hxz hl
  have d1 : decide ((S.size : Int) ≥ (X.size : Int)) = true := decide_eq_true (by omega)
  have d2 : decide ((X.size : Int) ≤ (S.size : Int)) = true := decide_eq_true (by omega)
  have d3 : (X.size : Int) ≤ (S.size : Int) := by omega
  go_enter Tryz.func17, Tryz.ntmps17
  go_wp2_with fail
  go_ret
  refine ⟨?_, Below.refl _ _⟩
  simp
set_option maxHeartbeats 4000000 in
set_option maxRecDepth 100000 in
theorem law_FnScriptRun (A0 : Option Addr) (code : List Int) (c0 : Nat) (w : World) (h : BS w A0 code) (hl : code.length ≤ maxLen) (hlc : code.length ≤ c0) (hM : Mx w.heap.size w) :
    Calls Tryz.prog 3 #[.slice A0 code.length c0] w fun e w' => e = .returned (.bool true) ∧ Below w.heap.size w w' := by
  have hl' := hl
  unfold maxLen at hl'
  by_cases h1 : code.length ≤ 1048576
  case neg =>
    go_enter Tryz.func3, Tryz.ntmps3
    go_wp2_with fail
    go_ret
    exact ⟨rfl, Below.refl _ _⟩
  go_enter Tryz.func3, Tryz.ntmps3
  go_wp2_with fail
  refine (spec_DrawRunJobs A0 code c0 w h hl hlc).mono ?_
  rintro e w1 ⟨A, c, l, B, d, js, pol, tk, rfl, hO, hJ, hl5, hj61, htk, hb⟩
  have hlm : l.length ≤ maxLen := by unfold maxLen; omega
  have hjm : js.length ≤ maxLen := by unfold maxLen; omega
  have hjd := (own_size hJ).1
  have hBw := hb.size
  cases hR : runB l js pol tk with
  | false =>
    have HR := Lib.hid hR
    clear hR
    go_wp2_with fail
    refine (impl_RunJobs_no pol tk HR.out A c B d _ hO.ts hJ.js hlm hjd hjm).mono ?_
    rintro e w2 ⟨rfl, b2⟩
    have N2 := heap_alloc_new w2 (runC (.slice none 0 0) (.slice none 0 0) (.slice none 0 0) false)
    have b2 := bal b2 (runC (.slice none 0 0) (.slice none 0 0) (.slice none 0 0) false)
    go_upto_region 5 with fail
    obtain ⟨n2, hn2⟩ : ∃ n2, w2.heap.size = n2 := ⟨_, rfl⟩
    rw [hn2] at N2 ⊢
    generalize World.alloc w2 _ = w3 at N2 b2 ⊢
    clear hn2
    go_wp2_with fail
    refine (spec_RunJobs_no pol tk HR.out A c B d _ (hO.ts.keep b2) (hJ.js.keep b2) hlm hjm).mono ?_
    rintro e w4 ⟨rfl, b4⟩
    have N4 := heap_alloc_new w4 (runC (.slice none 0 0) (.slice none 0 0) (.slice none 0 0) false)
    have b4 := bal b4 (runC (.slice none 0 0) (.slice none 0 0) (.slice none 0 0) false)
    have N2 := (b4.block _ (Array.getElem?_eq_some_iff.1 N2).1).trans N2
    have b4 := bthru b2 b4
    go_upto_region 6 with fail
    obtain ⟨n4, hn4⟩ : ∃ n4, w4.heap.size = n4 := ⟨_, rfl⟩
    rw [hn4] at N4 ⊢
    generalize World.alloc w4 _ = w5 at N2 N4 b4 ⊢
    clear hn4 b2
    obtain ⟨z0, z1, z2, z3⟩ := blk4r N2
    obtain ⟨y0, y1, y2, y3⟩ := blk4r N4
    have hnil : ∀ w', IS w' none [] := fun w' hl => by simp at hl
    go_wp2_with fail
    refine (impl_RunSame none none none none none none 0 0 0 0 0 0 [] [] [] false _ (hnil _) (hnil _) (hnil _) (hnil _) (hnil _) (hnil _) (by simp) (by simp) (by simp)).mono ?_
    rintro e w6 ⟨rfl, b6⟩
    have N2 := (b6.block _ (Array.getElem?_eq_some_iff.1 N2).1).trans N2
    have N4 := (b6.block _ (Array.getElem?_eq_some_iff.1 N4).1).trans N4
    have b6 := bthru b4 b6
    clear z0 z1 z2 z3 y0 y1 y2 y3
    obtain ⟨z0, z1, z2, z3⟩ := blk4r N2
    obtain ⟨y0, y1, y2, y3⟩ := blk4r N4
    go_wp2_with fail
    refine (impl_RunSame none none none none none none 0 0 0 0 0 0 [] [] [] false _ (hnil _) (hnil _) (hnil _) (hnil _) (hnil _) (hnil _) (by simp) (by simp) (by simp)).mono ?_
    rintro e w7 ⟨rfl, b7⟩
    go_wp2_with fail
    go_ret
    exact ⟨rfl, hb.trans ((bthru b6 b7).mono hBw)⟩
  | true =>
    have hR2 := hR
    simp only [runB, Bool.and_eq_true, decide_eq_true_eq] at hR2
    obtain ⟨⟨⟨hV, hPB⟩, ht0⟩, ht1⟩ := hR2
    clear hR
    obtain ⟨n, rfl⟩ : ∃ n : Nat, tk = (n : Int) := ⟨tk.toNat, by omega⟩
    have hn : n ≤ 200 := by omega
    have hp : pol = 0 ∨ pol = 1 := by
      unfold polB at hPB
      split at hPB
      · exact .inl ‹_›
      · simp only [Bool.and_eq_true, decide_eq_true_eq] at hPB
        exact .inr hPB.2
    have hf : pol = 1 → facB l = true := by
      rintro rfl
      simp [polB] at hPB
      exact hPB
    have hS : setVld l = true := by
      simp only [jobsV, Bool.and_eq_true] at hV
      exact hV.1.1
    have hj60 : js.length ≤ 60 := by
      simp only [jobsV, Bool.and_eq_true, decide_eq_true_eq] at hV
      exact hV.1.2
    have KI := fun w h g => impl_RunJobs hV pol hp hf n hn A c B d w h g hlm hjd hjm
    have KS := fun w h g => spec_RunJobs_yes hV pol hp hf n hn A c B d w h g hlm hjm
    have KR := fun out ho => count_run n ⟨l, js.length, flatJ js, pol, out⟩ js rfl rfl hV hp hf hn ho
    have KM := fun E en ce Tr ct Sw ns cs hi w h g hE hen => impl_MissesOf A l c B js d E en ce Tr n ct Sw ns cs hi w h g hE hen hjd hjm (by omega) hV
    have ht := jobsV_told hV
    have KT := text_tasks l hS
    have KJ := fun out ho => text_jobs js ⟨l, 0, [], pol, out⟩ hV ho
    have HT : Hid (runT l js pol n = (([116, 114, 97, 99, 101, 32] ++ trT (mR l js pol n).tr) ++ [10]) ++ (([115, 119, 105, 116, 99, 104, 101, 115] ++ numsT (mR l js pol n).sw) ++ [10]) ++ (([108, 97, 116, 101] ++ numsT (ints (lateTo l js (mR l js pol n).en n js.length))) ++ [10]) ++ (([100, 114, 111, 112, 112, 101, 100] ++ numsT (ints (dropL (mR l js pol n).en js.length))) ++ [10])) := rfl
    have hlen : (mR l js pol n).tr.length = n ∧ (mR l js pol n).sw.length ≤ n := ⟨(mrun_len hj60 n).1, (mrun_len hj60 n).2.1⟩
    have hok : (∀ x ∈ (mR l js pol n).tr, x = -1 ∨ (0 ≤ x ∧ x ≤ 4)) ∧ (∀ x ∈ (mR l js pol n).sw, 0 ≤ x ∧ x ≤ (n : Int)) := mrun_ok hV (facN l) (facD l) pol n
    have hEn : (mR l js pol n).en.length = js.length := (minv (num := facN l) (den := facD l) (pol := pol) (apart_of hV) (fun k hk => tkAt_vld hS hk) n).enL
    have KS : ∀ (w : World), TS w A l → JS w B js → Calls Tryz.prog 9 #[.slice A l.length c, .slice B js.length d, .int .i64 pol, .int .i64 (n : Int)] w fun e w' => ∃ Ae ce At ct As cs, e = .returned (.tuple #[.agg #[.slice Ae (mR l js pol n).en.length ce, .slice At (mR l js pol n).tr.length ct, .slice As (mR l js pol n).sw.length cs, .bool (mR l js pol n).hi], .bool true]) ∧
      OI w.heap.size w' Ae ce (mR l js pol n).en ∧ OI w.heap.size w' At ct (mR l js pol n).tr ∧ OI w.heap.size w' As cs (mR l js pol n).sw ∧ Below w.heap.size w w' := KS
    have KI : ∀ (w : World), TS w A l → JS w B js → Calls Tryz.prog 8 #[.slice A l.length c, .slice B js.length d, .int .i64 pol, .int .i64 (n : Int)] w fun e w' => ∃ ge ce gt ct gs cs, e = .returned (.tuple #[.agg #[sl ge (mR l js pol n).en.length ce, sl gt (mR l js pol n).tr.length ct, sl gs (mR l js pol n).sw.length cs, .bool (mR l js pol n).hi], .bool true]) ∧
      IRows w.heap.size w' [(ge, ce, (mR l js pol n).en), (gt, ct, (mR l js pol n).tr), (gs, cs, (mR l js pol n).sw)] ∧ Below w.heap.size w w' := KI
    clear hV hPB hf hS ht0 ht1 htk
    generalize mR l js pol n = m at KI KS HT hlen hok hEn
    obtain ⟨en, dn, lf, tr, sw, hi⟩ := m
    dsimp only at KI KS HT hlen hok hEn
    obtain ⟨ok1, ok2⟩ := hok
    obtain ⟨hln, hls⟩ := hlen
    have hla : ∀ x ∈ ints (lateTo l js en n js.length), 0 ≤ x ∧ x ≤ 1000 := by
      intro x hx
      obtain ⟨i, hi, rfl⟩ := List.mem_map.1 hx
      have := late_lt _ _ _ _ _ i hi
      omega
    have hda : ∀ x ∈ ints (dropL en js.length), 0 ≤ x ∧ x ≤ 1000 := by
      intro x hx
      obtain ⟨i, hi, rfl⟩ := List.mem_map.1 hx
      have := dropL_lt _ _ i hi
      omega
    have hlal := late_le l js en n js.length
    have hdal := dropL_le en js.length
    have htl := trT_len tr
    have hsl := numsT_len sw (fun x hx => by have := ok2 x hx; omega)
    have hll := numsT_len (ints (lateTo l js en n js.length)) (fun x hx => by have := hla x hx; omega)
    have hdl := numsT_len (ints (dropL en js.length)) (fun x hx => by have := hda x hx; omega)
    rw [ints_length] at hll hdl
    generalize hLL : lateTo l js en n js.length = LL at *
    generalize dropL en js.length = DL at *
    obtain ⟨X1, hX1⟩ : ∃ X, trT tr = X := ⟨_, rfl⟩
    obtain ⟨X4, hX4⟩ : ∃ X, numsT (ints DL) = X := ⟨_, rfl⟩
    rw [hX1, hX4] at HT
    rw [hX1, hln] at htl
    rw [hX4] at hdl
    have HLL := Lib.hid hLL
    have H1 := Lib.hid hX1
    have HEN := Lib.hid hEn
    have HLN := Lib.hid hln
    have hx1 : X1.length ≤ 200 := by omega
    have hx2 : (numsT sw).length ≤ 5000 := by omega
    have hx3 : (numsT (ints LL)).length ≤ 2000 := by omega
    have hx4 : X4.length ≤ 2000 := by omega
    have hLL3 : (ints LL).length ≤ 100 := by rw [ints_length]; omega
    have hSW : sw.length ≤ 200 := by omega
    obtain ⟨F, hF⟩ : ∃ F, fmtSet l = F := ⟨_, rfl⟩
    have HFl : F.length ≤ 510 := by rw [← hF]; exact fmtSet_le _
    have HF10 : (10 : UInt8) ∉ F := by rw [← hF]; exact fmtSet_no _
    have HF := Lib.hid hF
    obtain ⟨P, hP⟩ : ∃ P, fmtJobs js = P := ⟨_, rfl⟩
    have hPl : P.length ≤ 3960 := by rw [← hP]; exact fmtJobs_le js
    have HP10 : (10 : UInt8) ∉ P := by rw [← hP]; exact fmtJobs_no _
    have HP := Lib.hid hP
    have Ht := Lib.hid ht
    have hX := num_no 10 (n : Int) (by decide)
    have hnl := num_len (n : Int) (by omega)
    rw [hF] at KT
    rw [hP] at KJ
    have hrl : (runT l js pol n).length ≤ 10000 := by
      rw [HT.out]
      simp
      omega
    clear hX1 hX4 hLL hEn hln htl hsl hll hdl hlal hdal hF hP ht
    go_wp2_with fail
    refine (KI _ hO.ts hJ.js).mono ?_
    rintro e w2 ⟨ge, ce, gt, ct, gs, cs, rfl, hR, b2⟩
    have oe := hR.own (ge, ce, en) (by simp)
    have ot := hR.own (gt, ct, tr) (by simp)
    have os := hR.own (gs, cs, sw) (by simp)
    dsimp only at oe ot os
    clear hR KI
    rw [HEN.out, HLN.out]
    have N2 := heap_alloc_new w2 (runC (sl ge js.length ce) (sl gt n ct) (sl gs sw.length cs) hi)
    have ba := bal (Below.refl w2.heap.size w2) (runC (sl ge js.length ce) (sl gt n ct) (sl gs sw.length cs) hi)
    have oe := OI_keep oe ba
    have ot := OI_keep ot ba
    have os := OI_keep os ba
    have b2 := bthru b2 ba
    go_upto_region 5 with fail
    obtain ⟨n2, hn2⟩ : ∃ n2, w2.heap.size = n2 := ⟨_, rfl⟩
    rw [hn2] at N2 ⊢
    generalize World.alloc w2 _ = w3 at N2 b2 oe ot os ⊢
    clear hn2 ba
    go_wp2_with fail
    refine (KS _ (hO.ts.keep b2) (hJ.js.keep b2)).mono ?_
    rintro e w4 ⟨Ae, ce2, At, ct2, As, cs2, rfl, qe, qt, qs, b4⟩
    rw [HEN.out, HLN.out]
    have N4 := heap_alloc_new w4 (runC (.slice Ae js.length ce2) (.slice At n ct2) (.slice As sw.length cs2) hi)
    have ba := bal (Below.refl w4.heap.size w4) (runC (.slice Ae js.length ce2) (.slice At n ct2) (.slice As sw.length cs2) hi)
    have b5 := bthru b4 ba
    have N2 := (b5.block _ (Array.getElem?_eq_some_iff.1 N2).1).trans N2
    have oe := OI_keep oe b5
    have ot := OI_keep ot b5
    have os := OI_keep os b5
    have qe := OI_keep qe ba
    have qt := OI_keep qt ba
    have qs := OI_keep qs ba
    have B5 := bthru b2 b5
    clear KS
    go_upto_region 6 with fail
    obtain ⟨n4, hn4⟩ : ∃ n4, w4.heap.size = n4 := ⟨_, rfl⟩
    rw [hn4] at N4 ⊢
    generalize World.alloc w4 _ = w5 at N2 N4 oe ot os qe qt qs B5 ⊢
    clear hn4 ba b5 b4 b2
    obtain ⟨z0, z1, z2, z3⟩ := blk4r N2
    obtain ⟨y0, y1, y2, y3⟩ := blk4r N4
    have KR2 := impl_RunSame (some ⟨ge, 0, none⟩) Ae (some ⟨gt, 0, none⟩) At (some ⟨gs, 0, none⟩) As ce ce2 ct ct2 cs cs2 en tr sw hi w5 oe.is qe.is ot.is qt.is os.is qs.is (by rw [HEN.out]; omega) (by rw [HLN.out]; omega) (by omega)
    rw [HEN.out, HLN.out] at KR2
    go_wp2_with fail
    refine KR2.mono ?_
    rintro e w6 ⟨rfl, b6⟩
    have N2 := (b6.block _ (Array.getElem?_eq_some_iff.1 N2).1).trans N2
    have oe := OI_keep oe b6
    have ot := OI_keep ot b6
    have os := OI_keep os b6
    have B6 := bthru B5 b6
    clear z0 z1 z2 z3 y0 y1 y2 y3 N4 qe qt qs b6 B5 KR2
    rcases hp with rfl | rfl
    · have B7 := B6
      go_wp2_with fail
      refine (impl_FormatSet A l c _ (hO.ts.keep B7)).mono ?_
      rw [HF.out]
      rintro e w7 ⟨rfl, b7⟩
      have B7 := bthru B7 b7
      go_wp2_with fail
      refine (impl_FormatJobs B js d _ (hJ.js.keep B7) Ht.out (hM.keep (hb.trans (B7.mono hBw))) (Below.size (hb.trans (B7.mono hBw)))).mono ?_
      rw [HP.out]
      rintro e w8 ⟨rfl, b8⟩
      have B8 := bthru B7 b8
      go_wp2_with fail
      refine (dm_numB (n : Int) (by omega) (by omega) _).mono ?_
      rintro e w9 ⟨rfl, b9⟩
      have B9 := bthru B8 b9
      have b79 := bthru (bthru b7 b8) b9
      have N2 := (b79.block _ (Array.getElem?_eq_some_iff.1 N2).1).trans N2
      have oe := OI_keep oe b79
      have ot := OI_keep ot b79
      have os := OI_keep os b79
      clear B6 B7 B8 b7 b8 b9 b79
      have hp : pieces [10] (([112, 108, 97, 99, 101, 115]) ++ [10] ++ (([116, 97, 115, 107, 115, 32] ++ F) ++ [10] ++ (([106, 111, 98, 115, 32] ++ P) ++ [10] ++ (([114, 117, 110, 32] ++ num (n : Int)) ++ [10] ++ ([]))))) = [[112, 108, 97, 99, 101, 115], [116, 97, 115, 107, 115, 32] ++ F, [106, 111, 98, 115, 32] ++ P, [114, 117, 110, 32] ++ num (n : Int), []] := by
        rw [pieces_app 10 [] _ _ (by decide), pieces_app 10 [] _ _ (by simp [HF10]), pieces_app 10 [] _ _ (by simp [HP10]), pieces_app 10 [] _ _ (by simp [hX]), pieces_no 10 [] [] (by simp)]
      have hC : Chain [[112, 108, 97, 99, 101, 115], [116, 97, 115, 107, 115, 32] ++ F, [106, 111, 98, 115, 32] ++ P, [114, 117, 110, 32] ++ num (n : Int), []] St0 ⟨l, js.length, flatJ js, 0, St0.out ++ [111, 107, 10] ++ (F ++ [10]) ++ ([111, 107] ++ [10]) ++ runT l js 0 n⟩ := by
        refine .step (by simp) (by simp [St0]) (do_plain (by decide) (by simp) (plain_places St0 (by simp [St0]))) ?_
        refine .step (by simp) (by simp [St0]) (do_text (x := [116, 97, 115, 107, 115]) (by decide) (by simp <;> omega) (KT _ (by simp [St0]))) ?_
        refine .step (by simp) (by simp [St0] <;> omega) (do_text (x := [106, 111, 98, 115]) (by decide) (by simp <;> omega) (KJ _ (by simp [St0] <;> omega))) ?_
        refine .step (by simp) (by simp [St0] <;> omega) (do_count (x := [114, 117, 110]) (n := (n : Int)) (by decide) (by simp) (by omega) (by omega) (text_no_run _ _) (KR _ (by simp [St0] <;> omega))) ?_
        exact .skip (.nil _)
      obtain ⟨OUT, hOUT⟩ : ∃ O, St0.out ++ [111, 107, 10] ++ (F ++ [10]) ++ ([111, 107] ++ [10]) ++ runT l js 0 n = O := ⟨_, rfl⟩
      have hne : OUT ≠ [] := by rw [← hOUT]; simp [St0]
      have hol : OUT.length ≤ 20000 := by rw [← hOUT]; simp [St0]; omega
      rw [hOUT] at hC
      have HOUT := Lib.hid hOUT
      clear hOUT
      go_wp2_with fail
      refine (impl_RunScript _ _ (ByteArray.mk OUT.toArray) ?hT _ hp _ rfl _ (by simp <;> omega) (by simp) hC hne ((hM.keep (hb.trans (B9.mono hBw))).up (Below.size (hb.trans (B9.mono hBw))))).mono ?_
      case hT => simp only [mk_app]; simp
      rintro e wa ⟨rfl, ba⟩
      have N2 := (ba.block _ (Array.getElem?_eq_some_iff.1 N2).1).trans N2
      have oe := OI_keep oe ba
      have ot := OI_keep ot ba
      have os := OI_keep os ba
      have Ba := bthru B9 ba
      clear hC hp B9 ba
      obtain ⟨z0, z1, z2, z3⟩ := blk4r N2
      go_wp2_with fail
      refine (impl_FormatTrace (some ⟨ge, 0, none⟩) (some ⟨gt, 0, none⟩) (some ⟨gs, 0, none⟩) js.length ce n ct sw.length cs tr hi _ HLN.out ot.is hn ok1 (hM.keep (hb.trans (Ba.mono hBw))) (Below.size (hb.trans (Ba.mono hBw)))).mono ?_
      rw [H1.out]
      rintro e wb ⟨rfl, bb⟩
      have N2 := (bb.block _ (Array.getElem?_eq_some_iff.1 N2).1).trans N2
      have oe := OI_keep oe bb
      have os := OI_keep os bb
      have Bb := bthru Ba bb
      clear z0 z1 z2 z3 bb Ba ot
      go_wp2_with fail
      go_loopg [14, 15] sw.length (fun gg v i wr => ∃ k : Nat, gg + k = sw.length ∧ i = .int .i64 (k : Int) ∧ v = .string ⟨([116, 114, 97, 99, 101, 32] ++ X1 ++ [10, 115, 119, 105, 116, 99, 104, 101, 115] ++ numsT (sw.take k)).toArray⟩ ∧ Below wb.heap.size wb wr)
      case atStart => exact ⟨0, by omega, rfl, by simp only [mk_app]; simp [numsT], Below.refl _ _⟩
      case round =>
        obtain ⟨k, hgk, rfl, rfl, hbr⟩ := hrel
        have N3 := (hbr.block _ (Array.getElem?_eq_some_iff.1 N2).1).trans N2
        obtain ⟨z0, z1, z2, z3⟩ := blk4r N3
        have osr := OI_keep os hbr
        by_cases hkl : k < sw.length
        · have e0 : decide ((k : Int) < (sw.length : Int)) = true := decide_eq_true (by omega)
          have hkI : (k : Int) < (sw.length : Int) := by omega
          have hc0 := (OI_get osr k hkl).1
          have hgd : sw.getD k 0 = sw[k] := by simp [hkl]
          rw [hgd] at hc0
          have ho := ok2 sw[k] (List.getElem_mem hkl)
          have hst : sw.take (k + 1) = sw.take k ++ [sw[k]] := by rw [List.take_succ_eq_append_getElem hkl]
          have hTS := numsT_snoc (sw.take k) sw[k]
          rw [← hst] at hTS
          have hxk : (numsT (sw.take k)).length ≤ 5000 := by
            have := numsT_len (sw.take k) (fun x hx => by have := ok2 x (List.mem_of_mem_take hx); omega)
            rw [List.length_take] at this
            omega
          clear hst hgd
          generalize sw[k] = t at hc0 ho hTS
          generalize numsT (sw.take k) = Q at hTS hxk ⊢
          have HTS := Lib.hid hTS
          have hnl2 := num_len t (by omega)
          clear hTS
          go_wp2_with fail
          refine (dm_numB t (by omega) (by omega) _).mono ?_
          rintro e wx ⟨rfl, bx⟩
          go_wp2_with fail
          go_roundg (gk - 1)
          case measure => omega
          case rel => exact ⟨k + 1, by omega, by go_num, by rw [HTS.out]; simp only [mk_app]; simp, bthru hbr bx⟩
        · obtain rfl : k = sw.length := by omega
          have e0 : decide ((sw.length : Int) < (sw.length : Int)) = false := decide_eq_false (by omega)
          rw [List.take_length]
          have oer := OI_keep oe hbr
          have Br := bthru Bb hbr
          clear oe os Bb N2 hbr osr
          have KM2 := KM (some ⟨ge, 0, none⟩) en ce (some ⟨gt, 0, none⟩) ct (some ⟨gs, 0, none⟩) sw.length cs hi wr (hO.ts.keep Br) (hJ.js.keep Br) oer.is HEN.out
          rw [HLL.out] at KM2
          obtain ⟨Q2, hQ2⟩ : ∃ Q, numsT sw = Q := ⟨_, rfl⟩
          rw [hQ2] at hx2 ⊢
          have HQ2 := Lib.hid hQ2
          clear hQ2
          go_wp2_with fail
          refine KM2.mono ?_
          rintro e wc ⟨Am, cm, rfl, om, bm⟩
          have Bm := bthru Br bm
          clear KM2 Br bm z0 z1 z2 z3 N3 oer
          go_wp2_with fail
          go_loopg [14, 17] (ints LL).length (fun gg v i wr => ∃ k : Nat, gg + k = (ints LL).length ∧ i = .int .i64 (k : Int) ∧ v = .string ⟨([116, 114, 97, 99, 101, 32] ++ X1 ++ [10, 115, 119, 105, 116, 99, 104, 101, 115] ++ Q2 ++ [10, 108, 97, 116, 101] ++ numsT ((ints LL).take k)).toArray⟩ ∧ Below wc.heap.size wc wr)
          case atStart => exact ⟨0, by omega, rfl, by simp only [mk_app]; simp [numsT], Below.refl _ _⟩
          case round =>
            obtain ⟨k, hgk, rfl, rfl, hbr⟩ := hrel
            have omr := OI_keep om hbr
            by_cases hkl : k < (ints LL).length
            · have e0 : decide ((k : Int) < ((ints LL).length : Int)) = true := decide_eq_true (by omega)
              have hkI : (k : Int) < ((ints LL).length : Int) := by omega
              obtain ⟨bq, offq, rfl, hblq, hcq⟩ := omr.is (by omega)
              have hc0 := hcq k (ints LL)[k] (by simp [hkl])
              have ho := hla (ints LL)[k] (List.getElem_mem hkl)
              have hst : (ints LL).take (k + 1) = (ints LL).take k ++ [(ints LL)[k]] := by rw [List.take_succ_eq_append_getElem hkl]
              have hTS := numsT_snoc ((ints LL).take k) (ints LL)[k]
              rw [← hst] at hTS
              have hxk : (numsT ((ints LL).take k)).length ≤ 5000 := by
                have := numsT_len ((ints LL).take k) (fun x hx => by have := hla x (List.mem_of_mem_take hx); omega)
                rw [List.length_take] at this
                omega
              clear hst hcq
              generalize (ints LL)[k] = t at hc0 ho hTS
              generalize numsT ((ints LL).take k) = Q at hTS hxk ⊢
              have HTS := Lib.hid hTS
              have hnl2 := num_len t (by omega)
              clear hTS
              go_wp2_with fail
              refine (dm_numB t (by omega) (by omega) _).mono ?_
              rintro e wx ⟨rfl, bx⟩
              go_wp2_with fail
              go_roundg (gk - 1)
              case measure => omega
              case rel => exact ⟨k + 1, by omega, by go_num, by rw [HTS.out]; simp only [mk_app]; simp, bthru hbr bx⟩
            · obtain rfl : k = (ints LL).length := by omega
              have e0 : decide (((ints LL).length : Int) < ((ints LL).length : Int)) = false := decide_eq_false (by omega)
              rw [List.take_length]
              have Bq := bthru Bm hbr
              have HO : Hid (OUT = ([111, 107, 10] ++ F ++ [10, 111, 107, 10] ++ ([116, 114, 97, 99, 101, 32] ++ X1 ++ [10, 115, 119, 105, 116, 99, 104, 101, 115] ++ Q2 ++ [10, 108, 97, 116, 101] ++ numsT (ints LL)) ++ [10, 100, 114, 111, 112, 112, 101, 100]) ++ (X4 ++ [10])) := by
                rw [Hid, ← HOUT.out, HT.out, HQ2.out]
                simp [St0]
              generalize numsT (ints LL) = Q3 at hx3 HO ⊢
              clear om omr Bm hbr
              go_wp2_with fail
              refine (impl_FormatSet A l c _ (hO.ts.keep Bq)).mono ?_
              rw [HF.out]
              rintro e wd ⟨rfl, bd⟩
              go_wp2_with fail
              refine (laws_dmBegins ([111, 107, 10] ++ F ++ [10, 111, 107, 10] ++ ([116, 114, 97, 99, 101, 32] ++ X1 ++ [10, 115, 119, 105, 116, 99, 104, 101, 115] ++ Q2 ++ [10, 108, 97, 116, 101] ++ Q3) ++ [10, 100, 114, 111, 112, 112, 101, 100]) (X4 ++ [10]) _ (by rw [HO.out]) _ (by simp [mk_app]) _ (by simp <;> omega)).mono ?_
              rintro e we ⟨rfl, be⟩
              go_wp2_with fail
              go_ret
              exact ⟨rfl, hb.trans ((bthru (bthru Bq bd) be).mono hBw)⟩
    · have B7 := B6
      go_wp2_with fail
      refine (impl_FormatSet A l c _ (hO.ts.keep B7)).mono ?_
      rw [HF.out]
      rintro e w7 ⟨rfl, b7⟩
      have B7 := bthru B7 b7
      go_wp2_with fail
      refine (impl_FormatJobs B js d _ (hJ.js.keep B7) Ht.out (hM.keep (hb.trans (B7.mono hBw))) (Below.size (hb.trans (B7.mono hBw)))).mono ?_
      rw [HP.out]
      rintro e w8 ⟨rfl, b8⟩
      have B8 := bthru B7 b8
      go_wp2_with fail
      refine (dm_numB (n : Int) (by omega) (by omega) _).mono ?_
      rintro e w9 ⟨rfl, b9⟩
      have B9 := bthru B8 b9
      have b79 := bthru (bthru b7 b8) b9
      have N2 := (b79.block _ (Array.getElem?_eq_some_iff.1 N2).1).trans N2
      have oe := OI_keep oe b79
      have ot := OI_keep ot b79
      have os := OI_keep os b79
      clear B6 B7 B8 b7 b8 b9 b79
      have hp : pieces [10] (([100, 101, 97, 100, 108, 105, 110, 101, 115]) ++ [10] ++ (([116, 97, 115, 107, 115, 32] ++ F) ++ [10] ++ (([106, 111, 98, 115, 32] ++ P) ++ [10] ++ (([114, 117, 110, 32] ++ num (n : Int)) ++ [10] ++ ([]))))) = [[100, 101, 97, 100, 108, 105, 110, 101, 115], [116, 97, 115, 107, 115, 32] ++ F, [106, 111, 98, 115, 32] ++ P, [114, 117, 110, 32] ++ num (n : Int), []] := by
        rw [pieces_app 10 [] _ _ (by decide), pieces_app 10 [] _ _ (by simp [HF10]), pieces_app 10 [] _ _ (by simp [HP10]), pieces_app 10 [] _ _ (by simp [hX]), pieces_no 10 [] [] (by simp)]
      have hC : Chain [[100, 101, 97, 100, 108, 105, 110, 101, 115], [116, 97, 115, 107, 115, 32] ++ F, [106, 111, 98, 115, 32] ++ P, [114, 117, 110, 32] ++ num (n : Int), []] St0 ⟨l, js.length, flatJ js, 1, St0.out ++ [111, 107, 10] ++ (F ++ [10]) ++ ([111, 107] ++ [10]) ++ runT l js 1 n⟩ := by
        refine .step (by simp) (by simp [St0]) (do_plain (by decide) (by simp) (plain_deadlines St0 (by simp [St0]))) ?_
        refine .step (by simp) (by simp [St0]) (do_text (x := [116, 97, 115, 107, 115]) (by decide) (by simp <;> omega) (KT _ (by simp [St0]))) ?_
        refine .step (by simp) (by simp [St0] <;> omega) (do_text (x := [106, 111, 98, 115]) (by decide) (by simp <;> omega) (KJ _ (by simp [St0] <;> omega))) ?_
        refine .step (by simp) (by simp [St0] <;> omega) (do_count (x := [114, 117, 110]) (n := (n : Int)) (by decide) (by simp) (by omega) (by omega) (text_no_run _ _) (KR _ (by simp [St0] <;> omega))) ?_
        exact .skip (.nil _)
      obtain ⟨OUT, hOUT⟩ : ∃ O, St0.out ++ [111, 107, 10] ++ (F ++ [10]) ++ ([111, 107] ++ [10]) ++ runT l js 1 n = O := ⟨_, rfl⟩
      have hne : OUT ≠ [] := by rw [← hOUT]; simp [St0]
      have hol : OUT.length ≤ 20000 := by rw [← hOUT]; simp [St0]; omega
      rw [hOUT] at hC
      have HOUT := Lib.hid hOUT
      clear hOUT
      go_wp2_with fail
      refine (impl_RunScript _ _ (ByteArray.mk OUT.toArray) ?hT _ hp _ rfl _ (by simp <;> omega) (by simp) hC hne ((hM.keep (hb.trans (B9.mono hBw))).up (Below.size (hb.trans (B9.mono hBw))))).mono ?_
      case hT => simp only [mk_app]; simp
      rintro e wa ⟨rfl, ba⟩
      have N2 := (ba.block _ (Array.getElem?_eq_some_iff.1 N2).1).trans N2
      have oe := OI_keep oe ba
      have ot := OI_keep ot ba
      have os := OI_keep os ba
      have Ba := bthru B9 ba
      clear hC hp B9 ba
      obtain ⟨z0, z1, z2, z3⟩ := blk4r N2
      go_wp2_with fail
      refine (impl_FormatTrace (some ⟨ge, 0, none⟩) (some ⟨gt, 0, none⟩) (some ⟨gs, 0, none⟩) js.length ce n ct sw.length cs tr hi _ HLN.out ot.is hn ok1 (hM.keep (hb.trans (Ba.mono hBw))) (Below.size (hb.trans (Ba.mono hBw)))).mono ?_
      rw [H1.out]
      rintro e wb ⟨rfl, bb⟩
      have N2 := (bb.block _ (Array.getElem?_eq_some_iff.1 N2).1).trans N2
      have oe := OI_keep oe bb
      have os := OI_keep os bb
      have Bb := bthru Ba bb
      clear z0 z1 z2 z3 bb Ba ot
      go_wp2_with fail
      go_loopg [14, 15] sw.length (fun gg v i wr => ∃ k : Nat, gg + k = sw.length ∧ i = .int .i64 (k : Int) ∧ v = .string ⟨([116, 114, 97, 99, 101, 32] ++ X1 ++ [10, 115, 119, 105, 116, 99, 104, 101, 115] ++ numsT (sw.take k)).toArray⟩ ∧ Below wb.heap.size wb wr)
      case atStart => exact ⟨0, by omega, rfl, by simp only [mk_app]; simp [numsT], Below.refl _ _⟩
      case round =>
        obtain ⟨k, hgk, rfl, rfl, hbr⟩ := hrel
        have N3 := (hbr.block _ (Array.getElem?_eq_some_iff.1 N2).1).trans N2
        obtain ⟨z0, z1, z2, z3⟩ := blk4r N3
        have osr := OI_keep os hbr
        by_cases hkl : k < sw.length
        · have e0 : decide ((k : Int) < (sw.length : Int)) = true := decide_eq_true (by omega)
          have hkI : (k : Int) < (sw.length : Int) := by omega
          have hc0 := (OI_get osr k hkl).1
          have hgd : sw.getD k 0 = sw[k] := by simp [hkl]
          rw [hgd] at hc0
          have ho := ok2 sw[k] (List.getElem_mem hkl)
          have hst : sw.take (k + 1) = sw.take k ++ [sw[k]] := by rw [List.take_succ_eq_append_getElem hkl]
          have hTS := numsT_snoc (sw.take k) sw[k]
          rw [← hst] at hTS
          have hxk : (numsT (sw.take k)).length ≤ 5000 := by
            have := numsT_len (sw.take k) (fun x hx => by have := ok2 x (List.mem_of_mem_take hx); omega)
            rw [List.length_take] at this
            omega
          clear hst hgd
          generalize sw[k] = t at hc0 ho hTS
          generalize numsT (sw.take k) = Q at hTS hxk ⊢
          have HTS := Lib.hid hTS
          have hnl2 := num_len t (by omega)
          clear hTS
          go_wp2_with fail
          refine (dm_numB t (by omega) (by omega) _).mono ?_
          rintro e wx ⟨rfl, bx⟩
          go_wp2_with fail
          go_roundg (gk - 1)
          case measure => omega
          case rel => exact ⟨k + 1, by omega, by go_num, by rw [HTS.out]; simp only [mk_app]; simp, bthru hbr bx⟩
        · obtain rfl : k = sw.length := by omega
          have e0 : decide ((sw.length : Int) < (sw.length : Int)) = false := decide_eq_false (by omega)
          rw [List.take_length]
          have oer := OI_keep oe hbr
          have Br := bthru Bb hbr
          clear oe os Bb N2 hbr osr
          have KM2 := KM (some ⟨ge, 0, none⟩) en ce (some ⟨gt, 0, none⟩) ct (some ⟨gs, 0, none⟩) sw.length cs hi wr (hO.ts.keep Br) (hJ.js.keep Br) oer.is HEN.out
          rw [HLL.out] at KM2
          obtain ⟨Q2, hQ2⟩ : ∃ Q, numsT sw = Q := ⟨_, rfl⟩
          rw [hQ2] at hx2 ⊢
          have HQ2 := Lib.hid hQ2
          clear hQ2
          go_wp2_with fail
          refine KM2.mono ?_
          rintro e wc ⟨Am, cm, rfl, om, bm⟩
          have Bm := bthru Br bm
          clear KM2 Br bm z0 z1 z2 z3 N3 oer
          go_wp2_with fail
          go_loopg [14, 17] (ints LL).length (fun gg v i wr => ∃ k : Nat, gg + k = (ints LL).length ∧ i = .int .i64 (k : Int) ∧ v = .string ⟨([116, 114, 97, 99, 101, 32] ++ X1 ++ [10, 115, 119, 105, 116, 99, 104, 101, 115] ++ Q2 ++ [10, 108, 97, 116, 101] ++ numsT ((ints LL).take k)).toArray⟩ ∧ Below wc.heap.size wc wr)
          case atStart => exact ⟨0, by omega, rfl, by simp only [mk_app]; simp [numsT], Below.refl _ _⟩
          case round =>
            obtain ⟨k, hgk, rfl, rfl, hbr⟩ := hrel
            have omr := OI_keep om hbr
            by_cases hkl : k < (ints LL).length
            · have e0 : decide ((k : Int) < ((ints LL).length : Int)) = true := decide_eq_true (by omega)
              have hkI : (k : Int) < ((ints LL).length : Int) := by omega
              obtain ⟨bq, offq, rfl, hblq, hcq⟩ := omr.is (by omega)
              have hc0 := hcq k (ints LL)[k] (by simp [hkl])
              have ho := hla (ints LL)[k] (List.getElem_mem hkl)
              have hst : (ints LL).take (k + 1) = (ints LL).take k ++ [(ints LL)[k]] := by rw [List.take_succ_eq_append_getElem hkl]
              have hTS := numsT_snoc ((ints LL).take k) (ints LL)[k]
              rw [← hst] at hTS
              have hxk : (numsT ((ints LL).take k)).length ≤ 5000 := by
                have := numsT_len ((ints LL).take k) (fun x hx => by have := hla x (List.mem_of_mem_take hx); omega)
                rw [List.length_take] at this
                omega
              clear hst hcq
              generalize (ints LL)[k] = t at hc0 ho hTS
              generalize numsT ((ints LL).take k) = Q at hTS hxk ⊢
              have HTS := Lib.hid hTS
              have hnl2 := num_len t (by omega)
              clear hTS
              go_wp2_with fail
              refine (dm_numB t (by omega) (by omega) _).mono ?_
              rintro e wx ⟨rfl, bx⟩
              go_wp2_with fail
              go_roundg (gk - 1)
              case measure => omega
              case rel => exact ⟨k + 1, by omega, by go_num, by rw [HTS.out]; simp only [mk_app]; simp, bthru hbr bx⟩
            · obtain rfl : k = (ints LL).length := by omega
              have e0 : decide (((ints LL).length : Int) < ((ints LL).length : Int)) = false := decide_eq_false (by omega)
              rw [List.take_length]
              have Bq := bthru Bm hbr
              have HO : Hid (OUT = ([111, 107, 10] ++ F ++ [10, 111, 107, 10] ++ ([116, 114, 97, 99, 101, 32] ++ X1 ++ [10, 115, 119, 105, 116, 99, 104, 101, 115] ++ Q2 ++ [10, 108, 97, 116, 101] ++ numsT (ints LL)) ++ [10, 100, 114, 111, 112, 112, 101, 100]) ++ (X4 ++ [10])) := by
                rw [Hid, ← HOUT.out, HT.out, HQ2.out]
                simp [St0]
              generalize numsT (ints LL) = Q3 at hx3 HO ⊢
              clear om omr Bm hbr
              go_wp2_with fail
              refine (impl_FormatSet A l c _ (hO.ts.keep Bq)).mono ?_
              rw [HF.out]
              rintro e wd ⟨rfl, bd⟩
              go_wp2_with fail
              refine (laws_dmBegins ([111, 107, 10] ++ F ++ [10, 111, 107, 10] ++ ([116, 114, 97, 99, 101, 32] ++ X1 ++ [10, 115, 119, 105, 116, 99, 104, 101, 115] ++ Q2 ++ [10, 108, 97, 116, 101] ++ Q3) ++ [10, 100, 114, 111, 112, 112, 101, 100]) (X4 ++ [10]) _ (by rw [HO.out]) _ (by simp [mk_app]) _ (by simp <;> omega)).mono ?_
              rintro e we ⟨rfl, be⟩
              go_wp2_with fail
              go_ret
              exact ⟨rfl, hb.trans ((bthru (bthru Bq bd) be).mono hBw)⟩

open Go.ChangeShapes Go.WideShapes Go.ChangeAt Go.WideElems Go.Deep

set_option maxRecDepth 100000 in
set_option maxHeartbeats 4000000 in
theorem FnScriptRun_lifted (os : Os) (started : os.Started) (H : Type) (enc : TypeId × Value → H) :
    ReturnsInHanded {} Tryz.checked os 3 .any (fun w args => (Rows.fnScriptRunSpec.pre enc Tryz.prog Tryz.f3 [] false w args ∧ laidMetH Tryz.prog Rows.fnScriptRunRow.laid w) ∧ sizedMet enc Tryz.prog Tryz.f3 (OpenSpec.ofChange Rows.fnScriptRunSpec) false w args) (Rows.fnScriptRunSpec.post enc Tryz.prog Tryz.f3 false true false false) := by
  refine returns_row (C := Tryz.checked) (X := fun w _ => laidMetH Tryz.prog Rows.fnScriptRunRow.laid w) (fun _ _ _ hh h => h.of_heap hh) own started (by as_aux_lemma => kernel_rfl) Tryz.func3
    (ChangeSpec.witness_shaped (enc := enc) (C := Tryz.checked) (os := os) (X := fun w _ => laidMetH Tryz.prog Rows.fnScriptRunRow.laid w) false (World.laidAll Tryz.prog os Rows.fnScriptRunRow.laid) #[.slice none 0 0] 8 (World.laidAll_os _ _ _) (shapedS os) (by as_aux_lemma => kernel_rfl) (by as_aux_lemma => kernel_rfl) (by as_aux_lemma => kernel_rfl) (metS os _)) ?_
  intro W base args ds gs before hval0 hW hL hsh
  have hM : Mx W.heap.size W := mx_of hL hsh (by as_aux_lemma => rfl)
  have hval : ∀ (j : Nat) t v, Tryz.f3.params[j]? = some t → args[j]? = some v → Value.okWide Tryz.prog W .any base t v := hval0
  have hW' := hW
  obtain ⟨p, q, hA0, hV, rfl, _, _⟩ := hW
  have hA : DataW.TrodAll enc Tryz.prog W 0 (fun _ => true) true Tryz.f3.params.toList args.toList ds p := hA0
  rw [Tryz.params3] at hA hval
  obtain ⟨v0, d0, rfl, rfl, h0⟩ := trodAll_one hA
  obtain ⟨rfl, rfl⟩ := trodVars_none hV
  clear hA0 hval0
  simp only [List.append_nil] at hW'
  have hlt : ∀ x ∈ p, x.block < W.heap.size := fun x hx => hW'.lt x (by simpa using hx)
  have hargs : ∀ W', Below W.heap.size W W' → DataW.TrodAll enc Tryz.prog W' 0 (fun b => decide (b < W.heap.size)) true [22] [v0] [d0] (p) := fun W' hb =>
    trodAll_mk1 (Below.trod laidOut (by as_aux_lemma => kernel_rfl) (of_decide_eq_true (by as_aux_lemma => kernel_rfl)) h0 hb (fun x hx => hlt x (by simp [hx])))
  obtain ⟨A0, l0, c0, rfl, hlc0, hlm0, hlw0, hl0⟩ := open_kind Tryz.underlying22 Tryz.underlying5 (by as_aux_lemma => kernel_rfl) (okWide_slice Tryz.underlying22 (hval 0 _ v0 rfl rfl)) h0
  refine (law_FnScriptRun A0 l0 c0 W ⟨fun x hx => byte_wf (hlw0 x hx), hl0⟩ hlm0 hlc0 hM).mono fun e W' ⟨he, hb⟩ => ?_
  subst he
  exact ⟨_, rfl, ⟨_, _, _, [], _, [], hW', trodAll_mk1 (shut_bool Tryz.underlying4 _), hargs W' hb, rfl, hb.frame _, fun h => by cases h⟩⟩

set_option maxHeartbeats 4000000 in
theorem FnScriptRun_joined : joinedFacts Tryz.prog 3 Tryz.f3 Rows.fnScriptRunSpec Rows.fnScriptRunRow = true :=
  joined_mk (by as_aux_lemma => kernel_rfl) laidOut mapsRowed_ok (by as_aux_lemma => kernel_rfl) (by as_aux_lemma => kernel_rfl) (by as_aux_lemma => kernel_rfl) stops_ok (by as_aux_lemma => kernel_rfl) knobs_ok (by as_aux_lemma => kernel_rfl) (by as_aux_lemma => kernel_rfl) (by as_aux_lemma => kernel_rfl) (by as_aux_lemma => kernel_rfl) (by as_aux_lemma => kernel_rfl) (by as_aux_lemma => kernel_rfl) (by as_aux_lemma => kernel_rfl) (by as_aux_lemma => kernel_rfl) (by as_aux_lemma => kernel_rfl) (by as_aux_lemma => kernel_rfl) (by as_aux_lemma => kernel_rfl) (by as_aux_lemma => kernel_rfl) (by as_aux_lemma => kernel_rfl) (by rw [keys_ok]; rfl) (by as_aux_lemma => kernel_rfl) heard_ok enter_ok (by rw [lifts_ok]; rfl) (by rw [make_ok]; rfl) (by as_aux_lemma => kernel_rfl) (by as_aux_lemma => kernel_rfl) (by as_aux_lemma => kernel_rfl) (by as_aux_lemma => kernel_rfl)

theorem FnScriptRun_holds : Rows.FnScriptRunSaid :=
  OpenClaim.holds_of_wide 3 Tryz.f3 rfl rfl rfl rfl rfl rfl rfl ⟨rfl, rfl, rfl, rfl, rfl⟩ rfl rfl rfl rfl rfl (by as_aux_lemma => kernel_rfl) Tryz.func3 FnScriptRun_joined
    (of_decide_eq_true (by as_aux_lemma => kernel_rfl)) (by unfold Func.isWrapper; rw [if_neg (by decide +kernel)]; exact ⟨rfl, rfl⟩)
    (fun os started H enc _ => FnScriptRun_lifted os started H enc)

set_option maxHeartbeats 4000000 in
theorem FnScriptRun_card : Rows.FnScriptRunCardSaid :=
  Claim7.holds_tied_plain_at .later [] [.data, .data, .data, .data, .sentinel, .sentinel, .pinned] true (true, "74102130d830dfba4418ea06ae63a0b6dcec1dcf8107afcd9dc9897d072acdcc") true
    FnScriptRun_holds (fun _ h => by cases h) (by as_aux_lemma => kernel_rfl) (fun _ h => by cases h) fnScriptRun_row_tie rfl ⟨rfl, rfl⟩ (by as_aux_lemma => kernel_rfl) rfl
    (fun f fn hf hfn => by
      obtain rfl : f = 3 := Option.some.inj ((show Tryz.prog.funcNamed "loop.example/dualmodes/laws.FnScriptRun" = some 3 by as_aux_lemma => kernel_rfl).symm.trans hf) |>.symm
      obtain rfl : fn = Tryz.f3 := (Option.some.inj (Tryz.func3.symm.trans hfn)).symm
      exact ⟨looksS, fun j t ht => by
        rw [Tryz.params3] at ht
        have hm : t ∈ [22] := by simpa using Array.mem_of_getElem? ht
        have hall : ([22].all fun u => !Tryz.prog.wantsStandIn u) = true := by as_aux_lemma => kernel_rfl
        exact (show Tryz.prog.wantsStandIn t = false by simpa using List.all_eq_true.1 hall t hm)⟩)
    (by as_aux_lemma => kernel_rfl)
#print axioms FnScriptRun_card
end Go.Proofs.YtmkjmancmiphfaaGreatDoor
