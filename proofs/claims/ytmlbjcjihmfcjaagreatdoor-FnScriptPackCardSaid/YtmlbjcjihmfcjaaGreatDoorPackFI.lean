/-
  PackFirst: the program's. (Printed by gen_packf.py.)
-/
import Derived.Test.YtmlbjcjihmfcjaaGreatDoorPackH
import Derived.Test.YtmlbjcjihmfcjaaGreatDoorWayT
import Derived.Test.YtmlbjcjihmfcjaaGreatDoorStep
import Derived.Test.YtmlbjcjihmfcjaaGreatDoorTake
import Derived.Deep.CutBlock
namespace Go.Proofs.YtmlbjcjihmfcjaaGreatDoor
open Go.RowKit

theorem slices_CloneI (A : Option Addr) (l : List Int) (c : Nat) (w : World) (h : IS w A l) (hl : l.length ≤ 2000000) :
    Calls Tryz.prog 156 #[.slice A l.length c] w (RetI w l) := by
  have hnil := Lib.run_eql_slice_nil (P := Tryz.prog) (t := 27) (e := 3) (a := A) (n := l.length) (c := c) (n' := 0) (c' := 0) (h := Tryz.underlying27)
  cases A with
  | none =>
    have e := IS_none h
    subst e
    simp only [List.length_nil, Option.isNone_none] at hnil ⊢
    clear h hl
    go_enter Tryz.func156, Tryz.ntmps156
    go_wp2_with fail
    go_ret
    exact ⟨none, 0, rfl, OI_nil _ _, Below.refl _ _⟩
  | some ad =>
    simp only [Option.isNone_some] at hnil
    go_enter Tryz.func156, Tryz.ntmps156
    go_wp2_with (at_builtin; refine wpList_app_ints _ rfl _ _ rfl w.heap.size (some ⟨w.heap.size, 0, none⟩) [] 0 rfl (OI_blank w _ (Nat.le_refl _)) ad c l rfl (h.keep (bal (Below.refl _ _) _)) (by simp) (by omega) (by simp) ?_; intro A' c' w1 o1 g1 b1; rw [List.nil_append] at o1)
    have B1 : Below w.heap.size w w1 := (bal (Below.refl _ _) _).trans b1
    go_wp2_with fail
    go_ret
    exact ⟨A', c', rfl, o1, B1⟩
theorem wpList_app_intN (w : World) {ops : Array Oper} {rest : List Oper} {o : Oper} {a : Act} {Q : Exit → Act → World → Prop} (hgd : o.guard = none) (s x : Operand)
    (ho : o.op = .call { callee := .builtin .append, args := #[s, x], argTypes := #[27, 27] })
    (base : Nat) (A : Option Addr) (l : List Int) (k c : Nat) (hk : l.length = k) (hs : a.eval s = .slice A k c) (hown : OI base w A c l)
    (b c1 : Nat) (n : Int) (ty : TypeId) (hx : a.eval x = .slice (some ⟨b, 0, none⟩) 1 c1) (hb : w.heap[b]? = some (.cells #[.int .i64 n] ty (0, 0)))
    (hl : k ≤ 2000000) (hbase : base ≤ w.heap.size)
    (h : ∀ A' c' w', OI base w' A' c' (l ++ [n]) → Below base w w' → wpList Tryz.prog ops Q rest (a.put o.dst (.slice A' (k + 1) c')) w') : wpList Tryz.prog ops Q (o :: rest) a w := by
  subst hk
  exact wpList_app_int w hgd s x ho base A l c hs hown b c1 n ty hx hb hl hbase (fun A' c' w' h1 _ h2 => h A' c' w' h1 h2)
theorem IS_one {w : World} {b : Nat} {n : Int} {t : TypeId} (h : w.heap[b]? = some (.cells #[.int .i64 n] t (0, 0))) : IS w (some ⟨b, 0, none⟩) [n] := by
  intro _
  refine ⟨b, 0, rfl, (Array.getElem?_eq_some_iff.1 h).1, ?_⟩
  intro j x hj
  have hj0 : j = 0 := by
    have := (List.getElem?_eq_some_iff.1 hj).1
    simp at this
    exact this
  subst hj0
  simp at hj
  subst hj
  rw [Nat.zero_add, cell_of_row w b 0 _ t (0, 0) h]
  rfl
theorem clone_len (A : Option Addr) (l : List Int) (n c : Nat) (w : World) (h : IS w A l) (hn : l.length = n) (hl : n ≤ 2000000) : Calls Tryz.prog 156 #[.slice A n c] w (fun e w' => ∃ A' c', e = .returned (.slice A' n c') ∧ OI w.heap.size w' A' c' l ∧ Below w.heap.size w w') := by
  subst hn
  exact slices_CloneI A l c w h hl
theorem impl_groupN (A B : Option Addr) (l : List Tk) (ws : List Int) (n c d : Nat) (p : Int) (w : World) (h : TS w A l) (g : IS w B ws) (h1 : l.length = n) (h2 : ws.length = n) (hl : n ≤ 100000) :
    Calls Tryz.prog 155 #[.slice A n c, .slice B n d, .int .i64 p] w (RetT w (grp l ws p)) := by
  have K := impl_group A B l ws c d p w h g (by omega) (by omega)
  rw [h1, h2] at K
  exact K
theorem canHold_len (A : Option Addr) (l : List Tk) (n c : Nat) (p : Int) (w : World) (h : TS w A l) (hn : l.length = n) (hm : n ≤ maxLen) (hlc : n ≤ c) :
    Calls Tryz.prog 154 #[.slice A n c, .int .i64 p] w fun e w' => e = .returned (.bool (canH l p)) ∧ Below w.heap.size w w' := by
  subst hn
  exact impl_CanHold A l c p w h hm hlc

theorem ffGo_bind (l : List Tk) (M : Nat) (p : Int) (n : Nat) (ws : List Int) : ffGo l M p (n + 1) ws = (firstK (fitQ l ws p) M 0).bind (fun q => ffGo l M p n (ws ++ [(q : Int)])) := by
  rw [ffGo]
  cases firstK (fitQ l ws p) M 0 <;> rfl

set_option maxHeartbeats 4000000 in
set_option maxRecDepth 100000 in
theorem impl_PackFirst (A : Option Addr) (l : List Tk) (c : Nat) (m p : Int) (w : World) (h : TS w A l) (_hm : l.length ≤ maxLen) (hlc : l.length ≤ c) :
    Calls Tryz.prog 74 #[.slice A l.length c, .int .i64 m, .int .i64 p] w (RetIB w (ffL l m p) (ffit l m p).isSome) := by
  by_cases hall : setVld l = true ∧ 1 ≤ m ∧ m ≤ 3 ∧ (p = 0 ∨ p = 1)
  case neg =>
    have hv : ffit l m p = none := by
      have hf : (setVld l && num3B m && polB p) = false := by
        cases hc : (setVld l && num3B m && polB p) with
        | false => rfl
        | true =>
          exfalso
          apply hall
          simp only [Bool.and_eq_true, num3B, polB, decide_eq_true_eq, Bool.or_eq_true, beq_iff_eq] at hc
          exact ⟨hc.1.1, hc.1.2.1, hc.1.2.2, hc.2⟩
      simp [ffit, hf]
    have hv2 : ffL l m p = [] := by simp [ffL, hv]
    rw [hv, hv2]
    clear hv hv2
    have HA := Lib.hid hall
    clear hall
    cases hS : setVld l with
    | false =>
      go_enter Tryz.func74, Tryz.ntmps74
      go_wp2_with fail
      refine (impl_SetValid A l c _ h).mono ?_
      rw [hS]
      rintro e w1 ⟨rfl, b1⟩
      go_wp2_with fail
      go_ret2
      exact ⟨none, 0, rfl, OI_nil _ _, b1⟩
    | true =>
      have H2 : Hid (¬ (1 ≤ m ∧ m ≤ 3 ∧ (p = 0 ∨ p = 1))) := fun e => HA.out ⟨hS, e⟩
      have HS := Lib.hid hS
      clear HA hS
      by_cases h1m : 1 ≤ m
      · by_cases h3m : m ≤ 3
        · have hp0 : (p != 0) = true := by
            simp only [bne_iff_ne]
            intro e
            exact H2.out ⟨h1m, h3m, .inl e⟩
          have hp1 : (p != 1) = true := by
            simp only [bne_iff_ne]
            intro e
            exact H2.out ⟨h1m, h3m, .inr e⟩
          go_enter Tryz.func74, Tryz.ntmps74
          go_wp2_with fail
          refine (impl_SetValid A l c _ h).mono ?_
          rw [HS.out]
          rintro e w1 ⟨rfl, b1⟩
          go_wp2_with fail
          go_ret2
          exact ⟨none, 0, rfl, OI_nil _ _, b1⟩
        · go_enter Tryz.func74, Tryz.ntmps74
          go_wp2_with fail
          refine (impl_SetValid A l c _ h).mono ?_
          rw [HS.out]
          rintro e w1 ⟨rfl, b1⟩
          go_wp2_with fail
          go_ret2
          exact ⟨none, 0, rfl, OI_nil _ _, b1⟩
      · go_enter Tryz.func74, Tryz.ntmps74
        go_wp2_with fail
        refine (impl_SetValid A l c _ h).mono ?_
        rw [HS.out]
        rintro e w1 ⟨rfl, b1⟩
        go_wp2_with fail
        go_ret2
        exact ⟨none, 0, rfl, OI_nil _ _, b1⟩
  case pos =>
    obtain ⟨hS, h1m, h3m, hp⟩ := hall
    have hl5 := (setVld_all hS).1
    obtain ⟨M, rfl⟩ : ∃ M : Nat, m = (M : Int) := ⟨m.toNat, (Int.toNat_of_nonneg (by omega)).symm⟩
    have hM : 0 < M := by omega
    obtain ⟨R, hR⟩ : ∃ R, ffGo l M p (l.length - 0) [] = R := ⟨_, rfl⟩
    have hany : ffit l (M : Int) p = R := by
      have h1 : num3B (M : Int) = true := by simp [num3B]; omega
      have h2 : polB p = true := by rcases hp with rfl | rfl <;> rfl
      simp only [ffit, hS, h1, h2, Bool.and_self, if_true, Int.toNat_natCast]
      exact hR
    have HA := Lib.hid hany
    have HR := Lib.hid hR
    have HS := Lib.hid hS
    clear hS hany hR
    have hp0 : (p != 0) = false ∨ (p != 0) = true ∧ (p != 1) = false := by
      rcases hp with rfl | rfl
      · exact .inl rfl
      · exact .inr ⟨rfl, rfl⟩
    clear hp
    rcases hp0 with hq0 | ⟨hq0, hq1⟩
    · go_enter Tryz.func74, Tryz.ntmps74
      go_wp2_with fail
      refine (impl_SetValid A l c _ h).mono ?_
      rw [HS.out]
      rintro e w1 ⟨rfl, b1⟩
      go_wp2_with fail
      go_loopg [8, 33] l.length (fun g v i wr => ∃ (ws : List Int) (bo d : Nat), g + ws.length = l.length ∧ i = .int .i64 (ws.length : Int) ∧ v = .slice (some ⟨bo, 0, none⟩) ws.length d ∧ OI w.heap.size wr (some ⟨bo, 0, none⟩) d ws ∧ Hid (ffGo l M p (l.length - ws.length) ws = R) ∧ Below w.heap.size w wr)
      case atStart => exact ⟨[], w1.heap.size, 0, by simp, rfl, rfl, OI_blank w1 _ b1.size, HR.out, bal b1 _⟩
      case round =>
        obtain ⟨ws, bo, d, hg, rfl, rfl, hO, hfk, hb⟩ := hrel
        obtain ⟨wo, rfl⟩ : ∃ wo : World, wo = wr := ⟨_, rfl⟩
        obtain ⟨k, hk⟩ : ∃ k, ws.length = k := ⟨_, rfl⟩
        have HK := Lib.hid hk
        rw [hk] at hg hfk ⊢
        clear hk
        have hd : k ≤ d := by have := (own_size hO).1; rw [HK.out] at this; exact this
        by_cases hlt : k < l.length
        · obtain ⟨ab, aoff, rfl, _, _⟩ := h (by omega)
          have hfk2 := hfk.out
          rw [show l.length - k = (l.length - (k + 1)) + 1 by omega, ffGo_bind] at hfk2
          obtain ⟨F, hF⟩ : ∃ F, firstK (fitQ l ws p) (M - 0) 0 = F := ⟨_, rfl⟩
          have hF0 := hF
          rw [Nat.sub_zero] at hF0
          rw [hF0] at hfk2
          have HF2 := Lib.hid hfk2
          have HF0 := Lib.hid hF
          clear hF hF0 hfk2 hfk
          have q0 : (0 : Int) ≤ (k : Int) := by omega
          have q1 : (k : Int) < (l.length : Int) := by omega
          have q2 : IntKind.i64.wrap ((k : Int) + 1) = (k : Int) + 1 := IntWalk.i64_in _ (by omega)
          have q3 : ((k : Int) + 1).toNat = k + 1 := by omega
          have q4 : (0 : Int) ≤ (k : Int) + 1 := by omega
          have q5 : (k : Int) + 1 ≤ (c : Int) := by omega
          go_wp2_with fail
          go_loopg [10] M (fun g q wy => ∃ y : Nat, g + y = M ∧ q = .int .i64 (y : Int) ∧ Hid (firstK (fitQ l ws p) (M - y) y = F) ∧ Below wo.heap.size wo wy)
          case atStart => exact ⟨0, by omega, rfl, HF0.out, Below.refl _ _⟩
          case round =>
            obtain ⟨y, hgy, rfl, hfy, hby⟩ := hrel
            obtain ⟨wy, rfl⟩ : ∃ wy : World, wy = wr := ⟨_, rfl⟩
            have hOy := OI_keep hO hby
            have hBy := bthru hb hby
            clear HF0
            by_cases hy : y < M
            · have hst := firstK_step (fitQ l ws p) M y hy
              have hT : TS wy (some ⟨ab, aoff, none⟩) (l.take (k + 1)) := TS_take (h.keep hBy) (k + 1)
              have hIS : IS wy (some ⟨bo, 0, none⟩) ws := hOy.is
              have hgl : (grp (l.take (k + 1)) (ws ++ [(y : Int)]) (y : Int)) = grp (l.take k) ws (y : Int) ++ [tkAt l k] := by
                have := grp_snoc (l := l) (ws := ws) (by rw [HK.out]; exact hlt) (y : Int) (y : Int)
                rw [HK.out] at this
                simpa using this
              have hfit : fitQ l ws p y = canH (grp (l.take (k + 1)) (ws ++ [(y : Int)]) (y : Int)) p := by
                rw [hgl, fitQ, HK.out]
              have hGl : (grp (l.take (k + 1)) (ws ++ [(y : Int)]) (y : Int)).length ≤ 5 := by
                refine Nat.le_trans (grp_len _ _ _) ?_
                rw [List.length_take]
                omega
              have hlen1 : (l.take (k + 1)).length = k + 1 := by rw [List.length_take]; omega
              have hlen2 : (ws ++ [(y : Int)]).length = k + 1 := by rw [List.length_append, HK.out]; rfl
              have Hlen1 := Lib.hid hlen1
              have Hlen2 := Lib.hid hlen2
              have Hfit := Lib.hid hfit
              have Hst := Lib.hid hst
              obtain ⟨G, hG⟩ : ∃ G, grp (l.take (k + 1)) (ws ++ [(y : Int)]) (y : Int) = G := ⟨_, rfl⟩
              rw [hG] at hGl
              have HG := Lib.hid hG
              clear hst hgl hfit hG hlen1 hlen2
              have hyM : (y : Int) < (M : Int) := by omega
              go_wp2_with fail
              cases hq : fitQ l ws p y with
              | false =>
                have hc : canH G p = false := by rw [← HG.out, ← Hfit.out, hq]
                have hst2 : Hid (firstK (fitQ l ws p) (M - (y + 1)) (y + 1) = F) := by rw [Hid, ← hfy.out, Hst.out, hq]; rfl
                have HC := Lib.hid hc
                clear hq hc
                refine wp_region_any (by kernel_rfl) ?_
                refine takeL (i := 0) 36 (.int .i64 (y : Int)) rfl rfl (by kernel_rfl) (by kernel_rfl) (by kernel_rfl) (fun _ _ _ h => h) (.inl ⟨by rfl, fun _ => rfl⟩) ?_
                simp only [List.set_cons_succ, List.set_cons_zero]
                refine takeL (i := 1) 37 (.int .i64 (M : Int)) rfl rfl (by kernel_rfl) (by kernel_rfl) (by kernel_rfl) (fun _ _ _ h => h) (.inl ⟨by rfl, fun _ => rfl⟩) ?_
                simp only [List.set_cons_succ, List.set_cons_zero]
                refine takeL (i := 2) 38 (.bool true) rfl rfl (by kernel_rfl) (by kernel_rfl) (by kernel_rfl) (fun _ _ _ h => h) (.inl ⟨by rfl, fun w => by go_simp⟩) ?_
                simp only [List.set_cons_succ, List.set_cons_zero]
                refine takeL (i := 3) 39 (.bool true) rfl rfl (by kernel_rfl) (by kernel_rfl) (by kernel_rfl) (fun _ _ _ h => h) (.inl ⟨by rfl, fun _ => rfl⟩) ?_
                simp only [List.set_cons_succ, List.set_cons_zero]
                refine takeL (i := 4) 40 (.slice (some ⟨ab, aoff, none⟩) l.length c) rfl rfl (by kernel_rfl) (by kernel_rfl) (by kernel_rfl) (fun _ _ _ h => h) (.inl ⟨by rfl, fun _ => rfl⟩) ?_
                simp only [List.set_cons_succ, List.set_cons_zero]
                refine takeL (i := 5) 41 (.int .i64 (k : Int)) rfl rfl (by kernel_rfl) (by kernel_rfl) (by kernel_rfl) (fun _ _ _ h => h) (.inl ⟨by rfl, fun _ => rfl⟩) ?_
                simp only [List.set_cons_succ, List.set_cons_zero]
                refine takeL (i := 6) 42 (.int .i64 ((k : Int) + 1)) rfl rfl (by kernel_rfl) (by kernel_rfl) (by kernel_rfl) (fun _ _ _ h => h) (.inl ⟨by rfl, fun w => by go_simp⟩) ?_
                simp only [List.set_cons_succ, List.set_cons_zero]
                refine takeL (i := 7) 43 (.slice (some ⟨ab, aoff, none⟩) (k + 1) c) rfl rfl (by kernel_rfl) (by kernel_rfl) (by kernel_rfl) (fun _ _ _ h => h) (.inl ⟨by rfl, fun w => by go_simp⟩) ?_
                simp only [List.set_cons_succ, List.set_cons_zero]
                refine takeL (i := 8) 44 (.slice (some ⟨bo, 0, none⟩) k d) rfl rfl (by kernel_rfl) (by kernel_rfl) (by kernel_rfl) (fun _ _ _ h => h) (.inl ⟨by rfl, fun _ => rfl⟩) ?_
                simp only [List.set_cons_succ, List.set_cons_zero]
                refine takeL (i := 10) 46 (.int .i64 (y : Int)) rfl rfl (by kernel_rfl) (by kernel_rfl) (by kernel_rfl) (fun _ _ _ h => h) (.inl ⟨by rfl, fun _ => rfl⟩) ?_
                simp only [List.set_cons_succ, List.set_cons_zero]
                refine takeL (i := 13) 49 (.int .i64 (y : Int)) rfl rfl (by kernel_rfl) (by kernel_rfl) (by kernel_rfl) (fun _ _ _ h => h) (.inl ⟨by rfl, fun _ => rfl⟩) ?_
                simp only [List.set_cons_succ, List.set_cons_zero]
                refine takeL (i := 15) 51 (.int .i64 p) rfl rfl (by kernel_rfl) (by kernel_rfl) (by kernel_rfl) (fun _ _ _ h => h) (.inl ⟨by rfl, fun _ => rfl⟩) ?_
                simp only [List.set_cons_succ, List.set_cons_zero]
                refine wpAny_ready (rs := [9, 11]) (by kernel_rfl) (by simp) (wantL (i := 9) 45 rfl rfl (by rfl) (fun K hK => ?_) (wantL (i := 11) 47 rfl rfl (by rfl) (fun K hK => ?_) AllReady.nil))
                · refine wp_of_step (step_call rfl 156 Tryz.func156 (by kernel_rfl) rfl _ _ rfl #[.slice (some ⟨bo, 0, none⟩) k d] (by simp [Act.eval]) (clone_len (some ⟨bo, 0, none⟩) ws k d _ (hIS.keep (Below.drew (Below.refl _ _))) HK.out (by omega)) ?_)
                  rintro e w7 ⟨A7, c7, rfl, o7, b7⟩
                  have B7 : Below wy.heap.size wy w7 := bthru (Below.drew (Below.refl _ _)) b7
                  have O7 : OI wy.heap.size w7 A7 c7 ws := own_base o7 (by first | exact Nat.le_refl _ | simp)
                  refine ⟨_, rfl, hK _ _ ?_⟩
                  simp only [List.set_cons_succ, List.set_cons_zero]
                  refine wpAny_ready (rs := [11]) (by kernel_rfl) (by simp) (wantL (i := 11) 47 rfl rfl (by rfl) (fun K hK => ?_) AllReady.nil)
                  go_simp
                  refine hK _ _ ?_
                  simp only [List.set_cons_succ, List.set_cons_zero]
                  refine wpAny_ready (rs := [12]) (by kernel_rfl) (by simp) (wantL (i := 12) 48 rfl rfl (by rfl) (fun K hK => ?_) AllReady.nil)
                  refine wp_of_step (step_app_ints rfl (.tmp 45) (.tmp 47) rfl wy.heap.size A7 ws k c7 HK.out rfl (OI_alloc O7 _) ⟨w7.heap.size, 0, none⟩ 1 1 [(y : Int)] rfl rfl (IS_one (heap_alloc_new w7 _)) (by rw [HK.out]; omega) (by simp) (by have := B7.size; simp; omega) ?_)
                  intro A8 c8 w8 o8 g8 b8
                  have B8 : Below wy.heap.size wy w8 := (bal B7 _).trans b8
                  refine hK _ _ ?_
                  simp only [List.set_cons_succ, List.set_cons_zero]
                  refine wpAny_ready (rs := [14]) (by kernel_rfl) (by simp) (wantL (i := 14) 50 rfl rfl (by rfl) (fun K hK => ?_) AllReady.nil)
                  refine wp_of_step (step_call rfl 155 Tryz.func155 (by kernel_rfl) rfl _ _ rfl #[.slice (some ⟨ab, aoff, none⟩) (k + 1) c, .slice A8 (k + 1) c8, .int .i64 (y : Int)] (by simp [Act.eval]) (impl_groupN (some ⟨ab, aoff, none⟩) A8 (l.take (k + 1)) (ws ++ [(y : Int)]) (k + 1) c c8 (y : Int) _ (hT.keep B8) o8.is Hlen1.out Hlen2.out (by omega)) ?_)
                  rintro e w9 ⟨A9, c9, rfl, o9, b9⟩
                  rw [HG.out] at o9 ⊢
                  have B9 : Below wy.heap.size wy w9 := bthru B8 b9
                  have s9 := (own_size o9).1
                  refine ⟨_, rfl, hK _ _ ?_⟩
                  simp only [List.set_cons_succ, List.set_cons_zero]
                  refine wpAny_ready (rs := [16]) (by kernel_rfl) (by simp) (wantL (i := 16) 52 rfl rfl (by rfl) (fun K hK => ?_) AllReady.nil)
                  refine wp_of_step (step_call rfl 154 Tryz.func154 (by kernel_rfl) rfl _ _ rfl #[.slice A9 G.length c9, .int .i64 p] (by simp [Act.eval]) (impl_CanHold A9 G c9 p _ o9.ts (by unfold maxLen; omega) s9) ?_)
                  rw [HC.out]
                  rintro e w10 ⟨rfl, b10⟩
                  have B10 : Below wy.heap.size wy w10 := bthru B9 b10
                  refine ⟨_, rfl, hK _ _ ?_⟩
                  simp only [List.set_cons_succ, List.set_cons_zero]
                  refine takeL (i := 17) 53 (.bool true) rfl rfl (by kernel_rfl) (by kernel_rfl) (by kernel_rfl) (fun _ _ _ h => h) (.inl ⟨by rfl, fun _ => rfl⟩) ?_
                  simp only [List.set_cons_succ, List.set_cons_zero]
                  refine takeL (i := 18) 54 (.bool true) rfl rfl (by kernel_rfl) (by kernel_rfl) (by kernel_rfl) (fun _ _ _ h => h) (.inl ⟨by rfl, fun _ => rfl⟩) ?_
                  simp only [List.set_cons_succ, List.set_cons_zero]
                  refine wpAny_done (by kernel_rfl) ?_ _
                  go_wp2_with fail
                  go_roundg (M - (y + 1))
                  case measure => omega
                  case rel => exact ⟨y + 1, by omega, by go_num, hst2, bthru hby B10⟩
                · go_simp
                  refine hK _ _ ?_
                  simp only [List.set_cons_succ, List.set_cons_zero]
                  refine wpAny_ready (rs := [9]) (by kernel_rfl) (by simp) (wantL (i := 9) 45 rfl rfl (by rfl) (fun K hK => ?_) AllReady.nil)
                  refine wp_of_step (step_call rfl 156 Tryz.func156 (by kernel_rfl) rfl _ _ rfl #[.slice (some ⟨bo, 0, none⟩) k d] (by simp [Act.eval]) (clone_len (some ⟨bo, 0, none⟩) ws k d _ (hIS.keep (bal (Below.drew (Below.refl _ _)) _)) HK.out (by omega)) ?_)
                  rintro e w7 ⟨A7, c7, rfl, o7, b7⟩
                  have B7 : Below wy.heap.size wy w7 := bthru (bal (Below.drew (Below.refl _ _)) _) b7
                  have O7 : OI wy.heap.size w7 A7 c7 ws := own_base o7 (by first | exact Nat.le_refl _ | simp)
                  refine ⟨_, rfl, hK _ _ ?_⟩
                  simp only [List.set_cons_succ, List.set_cons_zero]
                  refine wpAny_ready (rs := [12]) (by kernel_rfl) (by simp) (wantL (i := 12) 48 rfl rfl (by rfl) (fun K hK => ?_) AllReady.nil)
                  refine wp_of_step (step_app_ints rfl (.tmp 45) (.tmp 47) rfl wy.heap.size A7 ws k c7 HK.out rfl (O7) ⟨wy.heap.size, 0, none⟩ 1 1 [(y : Int)] rfl rfl (IS_one ((b7.block _ (by simp)).trans (heap_alloc_new _ _))) (by rw [HK.out]; omega) (by simp) (by have := B7.size; simp; omega) ?_)
                  intro A8 c8 w8 o8 g8 b8
                  have B8 : Below wy.heap.size wy w8 := B7.trans b8
                  refine hK _ _ ?_
                  simp only [List.set_cons_succ, List.set_cons_zero]
                  refine wpAny_ready (rs := [14]) (by kernel_rfl) (by simp) (wantL (i := 14) 50 rfl rfl (by rfl) (fun K hK => ?_) AllReady.nil)
                  refine wp_of_step (step_call rfl 155 Tryz.func155 (by kernel_rfl) rfl _ _ rfl #[.slice (some ⟨ab, aoff, none⟩) (k + 1) c, .slice A8 (k + 1) c8, .int .i64 (y : Int)] (by simp [Act.eval]) (impl_groupN (some ⟨ab, aoff, none⟩) A8 (l.take (k + 1)) (ws ++ [(y : Int)]) (k + 1) c c8 (y : Int) _ (hT.keep B8) o8.is Hlen1.out Hlen2.out (by omega)) ?_)
                  rintro e w9 ⟨A9, c9, rfl, o9, b9⟩
                  rw [HG.out] at o9 ⊢
                  have B9 : Below wy.heap.size wy w9 := bthru B8 b9
                  have s9 := (own_size o9).1
                  refine ⟨_, rfl, hK _ _ ?_⟩
                  simp only [List.set_cons_succ, List.set_cons_zero]
                  refine wpAny_ready (rs := [16]) (by kernel_rfl) (by simp) (wantL (i := 16) 52 rfl rfl (by rfl) (fun K hK => ?_) AllReady.nil)
                  refine wp_of_step (step_call rfl 154 Tryz.func154 (by kernel_rfl) rfl _ _ rfl #[.slice A9 G.length c9, .int .i64 p] (by simp [Act.eval]) (impl_CanHold A9 G c9 p _ o9.ts (by unfold maxLen; omega) s9) ?_)
                  rw [HC.out]
                  rintro e w10 ⟨rfl, b10⟩
                  have B10 : Below wy.heap.size wy w10 := bthru B9 b10
                  refine ⟨_, rfl, hK _ _ ?_⟩
                  simp only [List.set_cons_succ, List.set_cons_zero]
                  refine takeL (i := 17) 53 (.bool true) rfl rfl (by kernel_rfl) (by kernel_rfl) (by kernel_rfl) (fun _ _ _ h => h) (.inl ⟨by rfl, fun _ => rfl⟩) ?_
                  simp only [List.set_cons_succ, List.set_cons_zero]
                  refine takeL (i := 18) 54 (.bool true) rfl rfl (by kernel_rfl) (by kernel_rfl) (by kernel_rfl) (fun _ _ _ h => h) (.inl ⟨by rfl, fun _ => rfl⟩) ?_
                  simp only [List.set_cons_succ, List.set_cons_zero]
                  refine wpAny_done (by kernel_rfl) ?_ _
                  go_wp2_with fail
                  go_roundg (M - (y + 1))
                  case measure => omega
                  case rel => exact ⟨y + 1, by omega, by go_num, hst2, bthru hby B10⟩
              | true =>
                have hc : canH G p = true := by rw [← HG.out, ← Hfit.out, hq]
                have hst2 : Hid (F = some y) := by rw [Hid, ← hfy.out, Hst.out, hq]; rfl
                have HC := Lib.hid hc
                clear hq hc
                refine wp_region_any (by kernel_rfl) ?_
                refine takeL (i := 0) 36 (.int .i64 (y : Int)) rfl rfl (by kernel_rfl) (by kernel_rfl) (by kernel_rfl) (fun _ _ _ h => h) (.inl ⟨by rfl, fun _ => rfl⟩) ?_
                simp only [List.set_cons_succ, List.set_cons_zero]
                refine takeL (i := 1) 37 (.int .i64 (M : Int)) rfl rfl (by kernel_rfl) (by kernel_rfl) (by kernel_rfl) (fun _ _ _ h => h) (.inl ⟨by rfl, fun _ => rfl⟩) ?_
                simp only [List.set_cons_succ, List.set_cons_zero]
                refine takeL (i := 2) 38 (.bool true) rfl rfl (by kernel_rfl) (by kernel_rfl) (by kernel_rfl) (fun _ _ _ h => h) (.inl ⟨by rfl, fun w => by go_simp⟩) ?_
                simp only [List.set_cons_succ, List.set_cons_zero]
                refine takeL (i := 3) 39 (.bool true) rfl rfl (by kernel_rfl) (by kernel_rfl) (by kernel_rfl) (fun _ _ _ h => h) (.inl ⟨by rfl, fun _ => rfl⟩) ?_
                simp only [List.set_cons_succ, List.set_cons_zero]
                refine takeL (i := 4) 40 (.slice (some ⟨ab, aoff, none⟩) l.length c) rfl rfl (by kernel_rfl) (by kernel_rfl) (by kernel_rfl) (fun _ _ _ h => h) (.inl ⟨by rfl, fun _ => rfl⟩) ?_
                simp only [List.set_cons_succ, List.set_cons_zero]
                refine takeL (i := 5) 41 (.int .i64 (k : Int)) rfl rfl (by kernel_rfl) (by kernel_rfl) (by kernel_rfl) (fun _ _ _ h => h) (.inl ⟨by rfl, fun _ => rfl⟩) ?_
                simp only [List.set_cons_succ, List.set_cons_zero]
                refine takeL (i := 6) 42 (.int .i64 ((k : Int) + 1)) rfl rfl (by kernel_rfl) (by kernel_rfl) (by kernel_rfl) (fun _ _ _ h => h) (.inl ⟨by rfl, fun w => by go_simp⟩) ?_
                simp only [List.set_cons_succ, List.set_cons_zero]
                refine takeL (i := 7) 43 (.slice (some ⟨ab, aoff, none⟩) (k + 1) c) rfl rfl (by kernel_rfl) (by kernel_rfl) (by kernel_rfl) (fun _ _ _ h => h) (.inl ⟨by rfl, fun w => by go_simp⟩) ?_
                simp only [List.set_cons_succ, List.set_cons_zero]
                refine takeL (i := 8) 44 (.slice (some ⟨bo, 0, none⟩) k d) rfl rfl (by kernel_rfl) (by kernel_rfl) (by kernel_rfl) (fun _ _ _ h => h) (.inl ⟨by rfl, fun _ => rfl⟩) ?_
                simp only [List.set_cons_succ, List.set_cons_zero]
                refine takeL (i := 10) 46 (.int .i64 (y : Int)) rfl rfl (by kernel_rfl) (by kernel_rfl) (by kernel_rfl) (fun _ _ _ h => h) (.inl ⟨by rfl, fun _ => rfl⟩) ?_
                simp only [List.set_cons_succ, List.set_cons_zero]
                refine takeL (i := 13) 49 (.int .i64 (y : Int)) rfl rfl (by kernel_rfl) (by kernel_rfl) (by kernel_rfl) (fun _ _ _ h => h) (.inl ⟨by rfl, fun _ => rfl⟩) ?_
                simp only [List.set_cons_succ, List.set_cons_zero]
                refine takeL (i := 15) 51 (.int .i64 p) rfl rfl (by kernel_rfl) (by kernel_rfl) (by kernel_rfl) (fun _ _ _ h => h) (.inl ⟨by rfl, fun _ => rfl⟩) ?_
                simp only [List.set_cons_succ, List.set_cons_zero]
                refine wpAny_ready (rs := [9, 11]) (by kernel_rfl) (by simp) (wantL (i := 9) 45 rfl rfl (by rfl) (fun K hK => ?_) (wantL (i := 11) 47 rfl rfl (by rfl) (fun K hK => ?_) AllReady.nil))
                · refine wp_of_step (step_call rfl 156 Tryz.func156 (by kernel_rfl) rfl _ _ rfl #[.slice (some ⟨bo, 0, none⟩) k d] (by simp [Act.eval]) (clone_len (some ⟨bo, 0, none⟩) ws k d _ (hIS.keep (Below.drew (Below.refl _ _))) HK.out (by omega)) ?_)
                  rintro e w7 ⟨A7, c7, rfl, o7, b7⟩
                  have B7 : Below wy.heap.size wy w7 := bthru (Below.drew (Below.refl _ _)) b7
                  have O7 : OI wy.heap.size w7 A7 c7 ws := own_base o7 (by first | exact Nat.le_refl _ | simp)
                  refine ⟨_, rfl, hK _ _ ?_⟩
                  simp only [List.set_cons_succ, List.set_cons_zero]
                  refine wpAny_ready (rs := [11]) (by kernel_rfl) (by simp) (wantL (i := 11) 47 rfl rfl (by rfl) (fun K hK => ?_) AllReady.nil)
                  go_simp
                  refine hK _ _ ?_
                  simp only [List.set_cons_succ, List.set_cons_zero]
                  refine wpAny_ready (rs := [12]) (by kernel_rfl) (by simp) (wantL (i := 12) 48 rfl rfl (by rfl) (fun K hK => ?_) AllReady.nil)
                  refine wp_of_step (step_app_ints rfl (.tmp 45) (.tmp 47) rfl wy.heap.size A7 ws k c7 HK.out rfl (OI_alloc O7 _) ⟨w7.heap.size, 0, none⟩ 1 1 [(y : Int)] rfl rfl (IS_one (heap_alloc_new w7 _)) (by rw [HK.out]; omega) (by simp) (by have := B7.size; simp; omega) ?_)
                  intro A8 c8 w8 o8 g8 b8
                  have B8 : Below wy.heap.size wy w8 := (bal B7 _).trans b8
                  refine hK _ _ ?_
                  simp only [List.set_cons_succ, List.set_cons_zero]
                  refine wpAny_ready (rs := [14]) (by kernel_rfl) (by simp) (wantL (i := 14) 50 rfl rfl (by rfl) (fun K hK => ?_) AllReady.nil)
                  refine wp_of_step (step_call rfl 155 Tryz.func155 (by kernel_rfl) rfl _ _ rfl #[.slice (some ⟨ab, aoff, none⟩) (k + 1) c, .slice A8 (k + 1) c8, .int .i64 (y : Int)] (by simp [Act.eval]) (impl_groupN (some ⟨ab, aoff, none⟩) A8 (l.take (k + 1)) (ws ++ [(y : Int)]) (k + 1) c c8 (y : Int) _ (hT.keep B8) o8.is Hlen1.out Hlen2.out (by omega)) ?_)
                  rintro e w9 ⟨A9, c9, rfl, o9, b9⟩
                  rw [HG.out] at o9 ⊢
                  have B9 : Below wy.heap.size wy w9 := bthru B8 b9
                  have s9 := (own_size o9).1
                  refine ⟨_, rfl, hK _ _ ?_⟩
                  simp only [List.set_cons_succ, List.set_cons_zero]
                  refine wpAny_ready (rs := [16]) (by kernel_rfl) (by simp) (wantL (i := 16) 52 rfl rfl (by rfl) (fun K hK => ?_) AllReady.nil)
                  refine wp_of_step (step_call rfl 154 Tryz.func154 (by kernel_rfl) rfl _ _ rfl #[.slice A9 G.length c9, .int .i64 p] (by simp [Act.eval]) (impl_CanHold A9 G c9 p _ o9.ts (by unfold maxLen; omega) s9) ?_)
                  rw [HC.out]
                  rintro e w10 ⟨rfl, b10⟩
                  have B10 : Below wy.heap.size wy w10 := bthru B9 b10
                  refine ⟨_, rfl, hK _ _ ?_⟩
                  simp only [List.set_cons_succ, List.set_cons_zero]
                  refine takeL (i := 17) 53 (.bool false) rfl rfl (by kernel_rfl) (by kernel_rfl) (by kernel_rfl) (fun _ _ _ h => h) (.inl ⟨by rfl, fun _ => rfl⟩) ?_
                  simp only [List.set_cons_succ, List.set_cons_zero]
                  refine takeL (i := 18) 54 (.bool false) rfl rfl (by kernel_rfl) (by kernel_rfl) (by kernel_rfl) (fun _ _ _ h => h) (.inl ⟨by rfl, fun _ => rfl⟩) ?_
                  simp only [List.set_cons_succ, List.set_cons_zero]
                  refine wpAny_done (by kernel_rfl) ?_ _
                  have hO10 := OI_keep hOy B10
                  have HF3 : Hid (ffGo l M p (l.length - (k + 1)) (ws ++ [(y : Int)]) = R) := by
                    have e := HF2.out
                    rw [hst2.out] at e
                    exact e
                  have qne : ((y : Int) == (M : Int)) = false := beq_eq_false_iff_ne.2 (by omega)
                  have hB10 := bthru hBy B10
                  go_wp2_with (at_builtin; refine wpList_app_intN _ rfl (.tmp 60) (.tmp 62) rfl w.heap.size (some ⟨bo, 0, none⟩) ws k d HK.out rfl (OI_alloc hO10 _) w10.heap.size 1 (y : Int) _ rfl (heap_alloc_new w10 _) (by omega) (by have := hB10.size; simp; omega) ?_; intro A11 c11 w11 o11 b11)
                  obtain ⟨bo2, rfl, _, _⟩ := OI_addr o11 (by rw [Hlen2.out]; omega)
                  go_roundg (l.length - (k + 1))
                  case measure => omega
                  case rel => exact ⟨ws ++ [(y : Int)], bo2, c11, by rw [Hlen2.out]; omega, by rw [Hlen2.out]; go_num, by rw [Hlen2.out], o11, by rw [Hlen2.out]; exact HF3, (bal hB10 _).trans b11⟩
                · go_simp
                  refine hK _ _ ?_
                  simp only [List.set_cons_succ, List.set_cons_zero]
                  refine wpAny_ready (rs := [9]) (by kernel_rfl) (by simp) (wantL (i := 9) 45 rfl rfl (by rfl) (fun K hK => ?_) AllReady.nil)
                  refine wp_of_step (step_call rfl 156 Tryz.func156 (by kernel_rfl) rfl _ _ rfl #[.slice (some ⟨bo, 0, none⟩) k d] (by simp [Act.eval]) (clone_len (some ⟨bo, 0, none⟩) ws k d _ (hIS.keep (bal (Below.drew (Below.refl _ _)) _)) HK.out (by omega)) ?_)
                  rintro e w7 ⟨A7, c7, rfl, o7, b7⟩
                  have B7 : Below wy.heap.size wy w7 := bthru (bal (Below.drew (Below.refl _ _)) _) b7
                  have O7 : OI wy.heap.size w7 A7 c7 ws := own_base o7 (by first | exact Nat.le_refl _ | simp)
                  refine ⟨_, rfl, hK _ _ ?_⟩
                  simp only [List.set_cons_succ, List.set_cons_zero]
                  refine wpAny_ready (rs := [12]) (by kernel_rfl) (by simp) (wantL (i := 12) 48 rfl rfl (by rfl) (fun K hK => ?_) AllReady.nil)
                  refine wp_of_step (step_app_ints rfl (.tmp 45) (.tmp 47) rfl wy.heap.size A7 ws k c7 HK.out rfl (O7) ⟨wy.heap.size, 0, none⟩ 1 1 [(y : Int)] rfl rfl (IS_one ((b7.block _ (by simp)).trans (heap_alloc_new _ _))) (by rw [HK.out]; omega) (by simp) (by have := B7.size; simp; omega) ?_)
                  intro A8 c8 w8 o8 g8 b8
                  have B8 : Below wy.heap.size wy w8 := B7.trans b8
                  refine hK _ _ ?_
                  simp only [List.set_cons_succ, List.set_cons_zero]
                  refine wpAny_ready (rs := [14]) (by kernel_rfl) (by simp) (wantL (i := 14) 50 rfl rfl (by rfl) (fun K hK => ?_) AllReady.nil)
                  refine wp_of_step (step_call rfl 155 Tryz.func155 (by kernel_rfl) rfl _ _ rfl #[.slice (some ⟨ab, aoff, none⟩) (k + 1) c, .slice A8 (k + 1) c8, .int .i64 (y : Int)] (by simp [Act.eval]) (impl_groupN (some ⟨ab, aoff, none⟩) A8 (l.take (k + 1)) (ws ++ [(y : Int)]) (k + 1) c c8 (y : Int) _ (hT.keep B8) o8.is Hlen1.out Hlen2.out (by omega)) ?_)
                  rintro e w9 ⟨A9, c9, rfl, o9, b9⟩
                  rw [HG.out] at o9 ⊢
                  have B9 : Below wy.heap.size wy w9 := bthru B8 b9
                  have s9 := (own_size o9).1
                  refine ⟨_, rfl, hK _ _ ?_⟩
                  simp only [List.set_cons_succ, List.set_cons_zero]
                  refine wpAny_ready (rs := [16]) (by kernel_rfl) (by simp) (wantL (i := 16) 52 rfl rfl (by rfl) (fun K hK => ?_) AllReady.nil)
                  refine wp_of_step (step_call rfl 154 Tryz.func154 (by kernel_rfl) rfl _ _ rfl #[.slice A9 G.length c9, .int .i64 p] (by simp [Act.eval]) (impl_CanHold A9 G c9 p _ o9.ts (by unfold maxLen; omega) s9) ?_)
                  rw [HC.out]
                  rintro e w10 ⟨rfl, b10⟩
                  have B10 : Below wy.heap.size wy w10 := bthru B9 b10
                  refine ⟨_, rfl, hK _ _ ?_⟩
                  simp only [List.set_cons_succ, List.set_cons_zero]
                  refine takeL (i := 17) 53 (.bool false) rfl rfl (by kernel_rfl) (by kernel_rfl) (by kernel_rfl) (fun _ _ _ h => h) (.inl ⟨by rfl, fun _ => rfl⟩) ?_
                  simp only [List.set_cons_succ, List.set_cons_zero]
                  refine takeL (i := 18) 54 (.bool false) rfl rfl (by kernel_rfl) (by kernel_rfl) (by kernel_rfl) (fun _ _ _ h => h) (.inl ⟨by rfl, fun _ => rfl⟩) ?_
                  simp only [List.set_cons_succ, List.set_cons_zero]
                  refine wpAny_done (by kernel_rfl) ?_ _
                  have hO10 := OI_keep hOy B10
                  have HF3 : Hid (ffGo l M p (l.length - (k + 1)) (ws ++ [(y : Int)]) = R) := by
                    have e := HF2.out
                    rw [hst2.out] at e
                    exact e
                  have qne : ((y : Int) == (M : Int)) = false := beq_eq_false_iff_ne.2 (by omega)
                  have hB10 := bthru hBy B10
                  go_wp2_with (at_builtin; refine wpList_app_intN _ rfl (.tmp 60) (.tmp 62) rfl w.heap.size (some ⟨bo, 0, none⟩) ws k d HK.out rfl (OI_alloc hO10 _) w10.heap.size 1 (y : Int) _ rfl (heap_alloc_new w10 _) (by omega) (by have := hB10.size; simp; omega) ?_; intro A11 c11 w11 o11 b11)
                  obtain ⟨bo2, rfl, _, _⟩ := OI_addr o11 (by rw [Hlen2.out]; omega)
                  go_roundg (l.length - (k + 1))
                  case measure => omega
                  case rel => exact ⟨ws ++ [(y : Int)], bo2, c11, by rw [Hlen2.out]; omega, by rw [Hlen2.out]; go_num, by rw [Hlen2.out], o11, by rw [Hlen2.out]; exact HF3, (bal hB10 _).trans b11⟩
            · obtain rfl : y = M := by omega
              have hFn : F = none := by rw [← hfy.out, Nat.sub_self]; rfl
              have hRn : R = none := by
                have e := HF2.out
                rw [hFn] at e
                exact e.symm
              have hr2 : Hid (ffL l (y : Int) p = [] ∧ (ffit l (y : Int) p).isSome = false) := by
                have e : ffit l (y : Int) p = none := by rw [HA.out, hRn]
                simp [Hid, ffL, e]
              clear hFn hRn
              go_wp2_with fail
              refine wp_region_any (by kernel_rfl) ?_
              refine takeL (i := 0) 36 (.int .i64 (y : Int)) rfl rfl (by kernel_rfl) (by kernel_rfl) (by kernel_rfl) (fun _ _ _ h => h) (.inl ⟨by rfl, fun _ => rfl⟩) ?_
              simp only [List.set_cons_succ, List.set_cons_zero]
              refine takeL (i := 1) 37 (.int .i64 (y : Int)) rfl rfl (by kernel_rfl) (by kernel_rfl) (by kernel_rfl) (fun _ _ _ h => h) (.inl ⟨by rfl, fun _ => rfl⟩) ?_
              simp only [List.set_cons_succ, List.set_cons_zero]
              refine takeL (i := 2) 38 (.bool false) rfl rfl (by kernel_rfl) (by kernel_rfl) (by kernel_rfl) (fun _ _ _ h => h) (.inl ⟨by rfl, fun w => by go_simp⟩) ?_
              simp only [List.set_cons_succ, List.set_cons_zero]
              refine takeL (i := 3) 39 (.bool false) rfl rfl (by kernel_rfl) (by kernel_rfl) (by kernel_rfl) (fun _ _ _ h => h) (.inl ⟨by rfl, fun _ => rfl⟩) ?_
              simp only [List.set_cons_succ, List.set_cons_zero]
              refine takeL (i := 4) 40 (undef) rfl rfl (by kernel_rfl) (by kernel_rfl) (by kernel_rfl) (fun _ _ _ h => h) (.inr ⟨by rfl, rfl⟩) ?_
              simp only [List.set_cons_succ, List.set_cons_zero]
              refine takeL (i := 5) 41 (undef) rfl rfl (by kernel_rfl) (by kernel_rfl) (by kernel_rfl) (fun _ _ _ h => h) (.inr ⟨by rfl, rfl⟩) ?_
              simp only [List.set_cons_succ, List.set_cons_zero]
              refine takeL (i := 6) 42 (undef) rfl rfl (by kernel_rfl) (by kernel_rfl) (by kernel_rfl) (fun _ _ _ h => h) (.inr ⟨by rfl, rfl⟩) ?_
              simp only [List.set_cons_succ, List.set_cons_zero]
              refine takeL (i := 7) 43 (undef) rfl rfl (by kernel_rfl) (by kernel_rfl) (by kernel_rfl) (fun _ _ _ h => h) (.inr ⟨by rfl, rfl⟩) ?_
              simp only [List.set_cons_succ, List.set_cons_zero]
              refine takeL (i := 8) 44 (undef) rfl rfl (by kernel_rfl) (by kernel_rfl) (by kernel_rfl) (fun _ _ _ h => h) (.inr ⟨by rfl, rfl⟩) ?_
              simp only [List.set_cons_succ, List.set_cons_zero]
              refine takeL (i := 9) 45 (undef) rfl rfl (by kernel_rfl) (by kernel_rfl) (by kernel_rfl) (fun _ _ _ h => h) (.inr ⟨by rfl, rfl⟩) ?_
              simp only [List.set_cons_succ, List.set_cons_zero]
              refine takeL (i := 10) 46 (undef) rfl rfl (by kernel_rfl) (by kernel_rfl) (by kernel_rfl) (fun _ _ _ h => h) (.inr ⟨by rfl, rfl⟩) ?_
              simp only [List.set_cons_succ, List.set_cons_zero]
              refine takeL (i := 11) 47 (undef) rfl rfl (by kernel_rfl) (by kernel_rfl) (by kernel_rfl) (fun _ _ _ h => h) (.inr ⟨by rfl, rfl⟩) ?_
              simp only [List.set_cons_succ, List.set_cons_zero]
              refine takeL (i := 12) 48 (undef) rfl rfl (by kernel_rfl) (by kernel_rfl) (by kernel_rfl) (fun _ _ _ h => h) (.inr ⟨by rfl, rfl⟩) ?_
              simp only [List.set_cons_succ, List.set_cons_zero]
              refine takeL (i := 13) 49 (undef) rfl rfl (by kernel_rfl) (by kernel_rfl) (by kernel_rfl) (fun _ _ _ h => h) (.inr ⟨by rfl, rfl⟩) ?_
              simp only [List.set_cons_succ, List.set_cons_zero]
              refine takeL (i := 14) 50 (undef) rfl rfl (by kernel_rfl) (by kernel_rfl) (by kernel_rfl) (fun _ _ _ h => h) (.inr ⟨by rfl, rfl⟩) ?_
              simp only [List.set_cons_succ, List.set_cons_zero]
              refine takeL (i := 15) 51 (undef) rfl rfl (by kernel_rfl) (by kernel_rfl) (by kernel_rfl) (fun _ _ _ h => h) (.inr ⟨by rfl, rfl⟩) ?_
              simp only [List.set_cons_succ, List.set_cons_zero]
              refine takeL (i := 16) 52 (undef) rfl rfl (by kernel_rfl) (by kernel_rfl) (by kernel_rfl) (fun _ _ _ h => h) (.inr ⟨by rfl, rfl⟩) ?_
              simp only [List.set_cons_succ, List.set_cons_zero]
              refine takeL (i := 17) 53 (undef) rfl rfl (by kernel_rfl) (by kernel_rfl) (by kernel_rfl) (fun _ _ _ h => h) (.inr ⟨by rfl, rfl⟩) ?_
              simp only [List.set_cons_succ, List.set_cons_zero]
              refine takeL (i := 18) 54 (.bool false) rfl rfl (by kernel_rfl) (by kernel_rfl) (by kernel_rfl) (fun _ _ _ h => h) (.inl ⟨by rfl, fun _ => rfl⟩) ?_
              simp only [List.set_cons_succ, List.set_cons_zero]
              refine wpAny_done (by kernel_rfl) ?_ _
              go_wp2_with fail
              go_ret2
              rw [hr2.out.1, hr2.out.2]
              exact ⟨none, 0, rfl, OI_nil _ _, bdr hBy _⟩
        · obtain rfl : k = l.length := by omega
          have hr : ffit l (M : Int) p = some ws := by rw [HA.out, ← hfk.out, Nat.sub_self]; rfl
          have hr2 : Hid (ffL l (M : Int) p = ws ∧ (ffit l (M : Int) p).isSome = true) := by simp [Hid, ffL, hr]
          clear hr
          go_wp2_with fail
          go_ret2
          rw [hr2.out.1, hr2.out.2]
          exact ⟨some ⟨bo, 0, none⟩, d, by rw [HK.out]; rfl, hO, hb⟩
    · go_enter Tryz.func74, Tryz.ntmps74
      go_wp2_with fail
      refine (impl_SetValid A l c _ h).mono ?_
      rw [HS.out]
      rintro e w1 ⟨rfl, b1⟩
      go_wp2_with fail
      go_loopg [8, 33] l.length (fun g v i wr => ∃ (ws : List Int) (bo d : Nat), g + ws.length = l.length ∧ i = .int .i64 (ws.length : Int) ∧ v = .slice (some ⟨bo, 0, none⟩) ws.length d ∧ OI w.heap.size wr (some ⟨bo, 0, none⟩) d ws ∧ Hid (ffGo l M p (l.length - ws.length) ws = R) ∧ Below w.heap.size w wr)
      case atStart => exact ⟨[], w1.heap.size, 0, by simp, rfl, rfl, OI_blank w1 _ b1.size, HR.out, bal b1 _⟩
      case round =>
        obtain ⟨ws, bo, d, hg, rfl, rfl, hO, hfk, hb⟩ := hrel
        obtain ⟨wo, rfl⟩ : ∃ wo : World, wo = wr := ⟨_, rfl⟩
        obtain ⟨k, hk⟩ : ∃ k, ws.length = k := ⟨_, rfl⟩
        have HK := Lib.hid hk
        rw [hk] at hg hfk ⊢
        clear hk
        have hd : k ≤ d := by have := (own_size hO).1; rw [HK.out] at this; exact this
        by_cases hlt : k < l.length
        · obtain ⟨ab, aoff, rfl, _, _⟩ := h (by omega)
          have hfk2 := hfk.out
          rw [show l.length - k = (l.length - (k + 1)) + 1 by omega, ffGo_bind] at hfk2
          obtain ⟨F, hF⟩ : ∃ F, firstK (fitQ l ws p) (M - 0) 0 = F := ⟨_, rfl⟩
          have hF0 := hF
          rw [Nat.sub_zero] at hF0
          rw [hF0] at hfk2
          have HF2 := Lib.hid hfk2
          have HF0 := Lib.hid hF
          clear hF hF0 hfk2 hfk
          have q0 : (0 : Int) ≤ (k : Int) := by omega
          have q1 : (k : Int) < (l.length : Int) := by omega
          have q2 : IntKind.i64.wrap ((k : Int) + 1) = (k : Int) + 1 := IntWalk.i64_in _ (by omega)
          have q3 : ((k : Int) + 1).toNat = k + 1 := by omega
          have q4 : (0 : Int) ≤ (k : Int) + 1 := by omega
          have q5 : (k : Int) + 1 ≤ (c : Int) := by omega
          go_wp2_with fail
          go_loopg [10] M (fun g q wy => ∃ y : Nat, g + y = M ∧ q = .int .i64 (y : Int) ∧ Hid (firstK (fitQ l ws p) (M - y) y = F) ∧ Below wo.heap.size wo wy)
          case atStart => exact ⟨0, by omega, rfl, HF0.out, Below.refl _ _⟩
          case round =>
            obtain ⟨y, hgy, rfl, hfy, hby⟩ := hrel
            obtain ⟨wy, rfl⟩ : ∃ wy : World, wy = wr := ⟨_, rfl⟩
            have hOy := OI_keep hO hby
            have hBy := bthru hb hby
            clear HF0
            by_cases hy : y < M
            · have hst := firstK_step (fitQ l ws p) M y hy
              have hT : TS wy (some ⟨ab, aoff, none⟩) (l.take (k + 1)) := TS_take (h.keep hBy) (k + 1)
              have hIS : IS wy (some ⟨bo, 0, none⟩) ws := hOy.is
              have hgl : (grp (l.take (k + 1)) (ws ++ [(y : Int)]) (y : Int)) = grp (l.take k) ws (y : Int) ++ [tkAt l k] := by
                have := grp_snoc (l := l) (ws := ws) (by rw [HK.out]; exact hlt) (y : Int) (y : Int)
                rw [HK.out] at this
                simpa using this
              have hfit : fitQ l ws p y = canH (grp (l.take (k + 1)) (ws ++ [(y : Int)]) (y : Int)) p := by
                rw [hgl, fitQ, HK.out]
              have hGl : (grp (l.take (k + 1)) (ws ++ [(y : Int)]) (y : Int)).length ≤ 5 := by
                refine Nat.le_trans (grp_len _ _ _) ?_
                rw [List.length_take]
                omega
              have hlen1 : (l.take (k + 1)).length = k + 1 := by rw [List.length_take]; omega
              have hlen2 : (ws ++ [(y : Int)]).length = k + 1 := by rw [List.length_append, HK.out]; rfl
              have Hlen1 := Lib.hid hlen1
              have Hlen2 := Lib.hid hlen2
              have Hfit := Lib.hid hfit
              have Hst := Lib.hid hst
              obtain ⟨G, hG⟩ : ∃ G, grp (l.take (k + 1)) (ws ++ [(y : Int)]) (y : Int) = G := ⟨_, rfl⟩
              rw [hG] at hGl
              have HG := Lib.hid hG
              clear hst hgl hfit hG hlen1 hlen2
              have hyM : (y : Int) < (M : Int) := by omega
              go_wp2_with fail
              cases hq : fitQ l ws p y with
              | false =>
                have hc : canH G p = false := by rw [← HG.out, ← Hfit.out, hq]
                have hst2 : Hid (firstK (fitQ l ws p) (M - (y + 1)) (y + 1) = F) := by rw [Hid, ← hfy.out, Hst.out, hq]; rfl
                have HC := Lib.hid hc
                clear hq hc
                refine wp_region_any (by kernel_rfl) ?_
                refine takeL (i := 0) 36 (.int .i64 (y : Int)) rfl rfl (by kernel_rfl) (by kernel_rfl) (by kernel_rfl) (fun _ _ _ h => h) (.inl ⟨by rfl, fun _ => rfl⟩) ?_
                simp only [List.set_cons_succ, List.set_cons_zero]
                refine takeL (i := 1) 37 (.int .i64 (M : Int)) rfl rfl (by kernel_rfl) (by kernel_rfl) (by kernel_rfl) (fun _ _ _ h => h) (.inl ⟨by rfl, fun _ => rfl⟩) ?_
                simp only [List.set_cons_succ, List.set_cons_zero]
                refine takeL (i := 2) 38 (.bool true) rfl rfl (by kernel_rfl) (by kernel_rfl) (by kernel_rfl) (fun _ _ _ h => h) (.inl ⟨by rfl, fun w => by go_simp⟩) ?_
                simp only [List.set_cons_succ, List.set_cons_zero]
                refine takeL (i := 3) 39 (.bool true) rfl rfl (by kernel_rfl) (by kernel_rfl) (by kernel_rfl) (fun _ _ _ h => h) (.inl ⟨by rfl, fun _ => rfl⟩) ?_
                simp only [List.set_cons_succ, List.set_cons_zero]
                refine takeL (i := 4) 40 (.slice (some ⟨ab, aoff, none⟩) l.length c) rfl rfl (by kernel_rfl) (by kernel_rfl) (by kernel_rfl) (fun _ _ _ h => h) (.inl ⟨by rfl, fun _ => rfl⟩) ?_
                simp only [List.set_cons_succ, List.set_cons_zero]
                refine takeL (i := 5) 41 (.int .i64 (k : Int)) rfl rfl (by kernel_rfl) (by kernel_rfl) (by kernel_rfl) (fun _ _ _ h => h) (.inl ⟨by rfl, fun _ => rfl⟩) ?_
                simp only [List.set_cons_succ, List.set_cons_zero]
                refine takeL (i := 6) 42 (.int .i64 ((k : Int) + 1)) rfl rfl (by kernel_rfl) (by kernel_rfl) (by kernel_rfl) (fun _ _ _ h => h) (.inl ⟨by rfl, fun w => by go_simp⟩) ?_
                simp only [List.set_cons_succ, List.set_cons_zero]
                refine takeL (i := 7) 43 (.slice (some ⟨ab, aoff, none⟩) (k + 1) c) rfl rfl (by kernel_rfl) (by kernel_rfl) (by kernel_rfl) (fun _ _ _ h => h) (.inl ⟨by rfl, fun w => by go_simp⟩) ?_
                simp only [List.set_cons_succ, List.set_cons_zero]
                refine takeL (i := 8) 44 (.slice (some ⟨bo, 0, none⟩) k d) rfl rfl (by kernel_rfl) (by kernel_rfl) (by kernel_rfl) (fun _ _ _ h => h) (.inl ⟨by rfl, fun _ => rfl⟩) ?_
                simp only [List.set_cons_succ, List.set_cons_zero]
                refine takeL (i := 10) 46 (.int .i64 (y : Int)) rfl rfl (by kernel_rfl) (by kernel_rfl) (by kernel_rfl) (fun _ _ _ h => h) (.inl ⟨by rfl, fun _ => rfl⟩) ?_
                simp only [List.set_cons_succ, List.set_cons_zero]
                refine takeL (i := 13) 49 (.int .i64 (y : Int)) rfl rfl (by kernel_rfl) (by kernel_rfl) (by kernel_rfl) (fun _ _ _ h => h) (.inl ⟨by rfl, fun _ => rfl⟩) ?_
                simp only [List.set_cons_succ, List.set_cons_zero]
                refine takeL (i := 15) 51 (.int .i64 p) rfl rfl (by kernel_rfl) (by kernel_rfl) (by kernel_rfl) (fun _ _ _ h => h) (.inl ⟨by rfl, fun _ => rfl⟩) ?_
                simp only [List.set_cons_succ, List.set_cons_zero]
                refine wpAny_ready (rs := [9, 11]) (by kernel_rfl) (by simp) (wantL (i := 9) 45 rfl rfl (by rfl) (fun K hK => ?_) (wantL (i := 11) 47 rfl rfl (by rfl) (fun K hK => ?_) AllReady.nil))
                · refine wp_of_step (step_call rfl 156 Tryz.func156 (by kernel_rfl) rfl _ _ rfl #[.slice (some ⟨bo, 0, none⟩) k d] (by simp [Act.eval]) (clone_len (some ⟨bo, 0, none⟩) ws k d _ (hIS.keep (Below.drew (Below.refl _ _))) HK.out (by omega)) ?_)
                  rintro e w7 ⟨A7, c7, rfl, o7, b7⟩
                  have B7 : Below wy.heap.size wy w7 := bthru (Below.drew (Below.refl _ _)) b7
                  have O7 : OI wy.heap.size w7 A7 c7 ws := own_base o7 (by first | exact Nat.le_refl _ | simp)
                  refine ⟨_, rfl, hK _ _ ?_⟩
                  simp only [List.set_cons_succ, List.set_cons_zero]
                  refine wpAny_ready (rs := [11]) (by kernel_rfl) (by simp) (wantL (i := 11) 47 rfl rfl (by rfl) (fun K hK => ?_) AllReady.nil)
                  go_simp
                  refine hK _ _ ?_
                  simp only [List.set_cons_succ, List.set_cons_zero]
                  refine wpAny_ready (rs := [12]) (by kernel_rfl) (by simp) (wantL (i := 12) 48 rfl rfl (by rfl) (fun K hK => ?_) AllReady.nil)
                  refine wp_of_step (step_app_ints rfl (.tmp 45) (.tmp 47) rfl wy.heap.size A7 ws k c7 HK.out rfl (OI_alloc O7 _) ⟨w7.heap.size, 0, none⟩ 1 1 [(y : Int)] rfl rfl (IS_one (heap_alloc_new w7 _)) (by rw [HK.out]; omega) (by simp) (by have := B7.size; simp; omega) ?_)
                  intro A8 c8 w8 o8 g8 b8
                  have B8 : Below wy.heap.size wy w8 := (bal B7 _).trans b8
                  refine hK _ _ ?_
                  simp only [List.set_cons_succ, List.set_cons_zero]
                  refine wpAny_ready (rs := [14]) (by kernel_rfl) (by simp) (wantL (i := 14) 50 rfl rfl (by rfl) (fun K hK => ?_) AllReady.nil)
                  refine wp_of_step (step_call rfl 155 Tryz.func155 (by kernel_rfl) rfl _ _ rfl #[.slice (some ⟨ab, aoff, none⟩) (k + 1) c, .slice A8 (k + 1) c8, .int .i64 (y : Int)] (by simp [Act.eval]) (impl_groupN (some ⟨ab, aoff, none⟩) A8 (l.take (k + 1)) (ws ++ [(y : Int)]) (k + 1) c c8 (y : Int) _ (hT.keep B8) o8.is Hlen1.out Hlen2.out (by omega)) ?_)
                  rintro e w9 ⟨A9, c9, rfl, o9, b9⟩
                  rw [HG.out] at o9 ⊢
                  have B9 : Below wy.heap.size wy w9 := bthru B8 b9
                  have s9 := (own_size o9).1
                  refine ⟨_, rfl, hK _ _ ?_⟩
                  simp only [List.set_cons_succ, List.set_cons_zero]
                  refine wpAny_ready (rs := [16]) (by kernel_rfl) (by simp) (wantL (i := 16) 52 rfl rfl (by rfl) (fun K hK => ?_) AllReady.nil)
                  refine wp_of_step (step_call rfl 154 Tryz.func154 (by kernel_rfl) rfl _ _ rfl #[.slice A9 G.length c9, .int .i64 p] (by simp [Act.eval]) (impl_CanHold A9 G c9 p _ o9.ts (by unfold maxLen; omega) s9) ?_)
                  rw [HC.out]
                  rintro e w10 ⟨rfl, b10⟩
                  have B10 : Below wy.heap.size wy w10 := bthru B9 b10
                  refine ⟨_, rfl, hK _ _ ?_⟩
                  simp only [List.set_cons_succ, List.set_cons_zero]
                  refine takeL (i := 17) 53 (.bool true) rfl rfl (by kernel_rfl) (by kernel_rfl) (by kernel_rfl) (fun _ _ _ h => h) (.inl ⟨by rfl, fun _ => rfl⟩) ?_
                  simp only [List.set_cons_succ, List.set_cons_zero]
                  refine takeL (i := 18) 54 (.bool true) rfl rfl (by kernel_rfl) (by kernel_rfl) (by kernel_rfl) (fun _ _ _ h => h) (.inl ⟨by rfl, fun _ => rfl⟩) ?_
                  simp only [List.set_cons_succ, List.set_cons_zero]
                  refine wpAny_done (by kernel_rfl) ?_ _
                  go_wp2_with fail
                  go_roundg (M - (y + 1))
                  case measure => omega
                  case rel => exact ⟨y + 1, by omega, by go_num, hst2, bthru hby B10⟩
                · go_simp
                  refine hK _ _ ?_
                  simp only [List.set_cons_succ, List.set_cons_zero]
                  refine wpAny_ready (rs := [9]) (by kernel_rfl) (by simp) (wantL (i := 9) 45 rfl rfl (by rfl) (fun K hK => ?_) AllReady.nil)
                  refine wp_of_step (step_call rfl 156 Tryz.func156 (by kernel_rfl) rfl _ _ rfl #[.slice (some ⟨bo, 0, none⟩) k d] (by simp [Act.eval]) (clone_len (some ⟨bo, 0, none⟩) ws k d _ (hIS.keep (bal (Below.drew (Below.refl _ _)) _)) HK.out (by omega)) ?_)
                  rintro e w7 ⟨A7, c7, rfl, o7, b7⟩
                  have B7 : Below wy.heap.size wy w7 := bthru (bal (Below.drew (Below.refl _ _)) _) b7
                  have O7 : OI wy.heap.size w7 A7 c7 ws := own_base o7 (by first | exact Nat.le_refl _ | simp)
                  refine ⟨_, rfl, hK _ _ ?_⟩
                  simp only [List.set_cons_succ, List.set_cons_zero]
                  refine wpAny_ready (rs := [12]) (by kernel_rfl) (by simp) (wantL (i := 12) 48 rfl rfl (by rfl) (fun K hK => ?_) AllReady.nil)
                  refine wp_of_step (step_app_ints rfl (.tmp 45) (.tmp 47) rfl wy.heap.size A7 ws k c7 HK.out rfl (O7) ⟨wy.heap.size, 0, none⟩ 1 1 [(y : Int)] rfl rfl (IS_one ((b7.block _ (by simp)).trans (heap_alloc_new _ _))) (by rw [HK.out]; omega) (by simp) (by have := B7.size; simp; omega) ?_)
                  intro A8 c8 w8 o8 g8 b8
                  have B8 : Below wy.heap.size wy w8 := B7.trans b8
                  refine hK _ _ ?_
                  simp only [List.set_cons_succ, List.set_cons_zero]
                  refine wpAny_ready (rs := [14]) (by kernel_rfl) (by simp) (wantL (i := 14) 50 rfl rfl (by rfl) (fun K hK => ?_) AllReady.nil)
                  refine wp_of_step (step_call rfl 155 Tryz.func155 (by kernel_rfl) rfl _ _ rfl #[.slice (some ⟨ab, aoff, none⟩) (k + 1) c, .slice A8 (k + 1) c8, .int .i64 (y : Int)] (by simp [Act.eval]) (impl_groupN (some ⟨ab, aoff, none⟩) A8 (l.take (k + 1)) (ws ++ [(y : Int)]) (k + 1) c c8 (y : Int) _ (hT.keep B8) o8.is Hlen1.out Hlen2.out (by omega)) ?_)
                  rintro e w9 ⟨A9, c9, rfl, o9, b9⟩
                  rw [HG.out] at o9 ⊢
                  have B9 : Below wy.heap.size wy w9 := bthru B8 b9
                  have s9 := (own_size o9).1
                  refine ⟨_, rfl, hK _ _ ?_⟩
                  simp only [List.set_cons_succ, List.set_cons_zero]
                  refine wpAny_ready (rs := [16]) (by kernel_rfl) (by simp) (wantL (i := 16) 52 rfl rfl (by rfl) (fun K hK => ?_) AllReady.nil)
                  refine wp_of_step (step_call rfl 154 Tryz.func154 (by kernel_rfl) rfl _ _ rfl #[.slice A9 G.length c9, .int .i64 p] (by simp [Act.eval]) (impl_CanHold A9 G c9 p _ o9.ts (by unfold maxLen; omega) s9) ?_)
                  rw [HC.out]
                  rintro e w10 ⟨rfl, b10⟩
                  have B10 : Below wy.heap.size wy w10 := bthru B9 b10
                  refine ⟨_, rfl, hK _ _ ?_⟩
                  simp only [List.set_cons_succ, List.set_cons_zero]
                  refine takeL (i := 17) 53 (.bool true) rfl rfl (by kernel_rfl) (by kernel_rfl) (by kernel_rfl) (fun _ _ _ h => h) (.inl ⟨by rfl, fun _ => rfl⟩) ?_
                  simp only [List.set_cons_succ, List.set_cons_zero]
                  refine takeL (i := 18) 54 (.bool true) rfl rfl (by kernel_rfl) (by kernel_rfl) (by kernel_rfl) (fun _ _ _ h => h) (.inl ⟨by rfl, fun _ => rfl⟩) ?_
                  simp only [List.set_cons_succ, List.set_cons_zero]
                  refine wpAny_done (by kernel_rfl) ?_ _
                  go_wp2_with fail
                  go_roundg (M - (y + 1))
                  case measure => omega
                  case rel => exact ⟨y + 1, by omega, by go_num, hst2, bthru hby B10⟩
              | true =>
                have hc : canH G p = true := by rw [← HG.out, ← Hfit.out, hq]
                have hst2 : Hid (F = some y) := by rw [Hid, ← hfy.out, Hst.out, hq]; rfl
                have HC := Lib.hid hc
                clear hq hc
                refine wp_region_any (by kernel_rfl) ?_
                refine takeL (i := 0) 36 (.int .i64 (y : Int)) rfl rfl (by kernel_rfl) (by kernel_rfl) (by kernel_rfl) (fun _ _ _ h => h) (.inl ⟨by rfl, fun _ => rfl⟩) ?_
                simp only [List.set_cons_succ, List.set_cons_zero]
                refine takeL (i := 1) 37 (.int .i64 (M : Int)) rfl rfl (by kernel_rfl) (by kernel_rfl) (by kernel_rfl) (fun _ _ _ h => h) (.inl ⟨by rfl, fun _ => rfl⟩) ?_
                simp only [List.set_cons_succ, List.set_cons_zero]
                refine takeL (i := 2) 38 (.bool true) rfl rfl (by kernel_rfl) (by kernel_rfl) (by kernel_rfl) (fun _ _ _ h => h) (.inl ⟨by rfl, fun w => by go_simp⟩) ?_
                simp only [List.set_cons_succ, List.set_cons_zero]
                refine takeL (i := 3) 39 (.bool true) rfl rfl (by kernel_rfl) (by kernel_rfl) (by kernel_rfl) (fun _ _ _ h => h) (.inl ⟨by rfl, fun _ => rfl⟩) ?_
                simp only [List.set_cons_succ, List.set_cons_zero]
                refine takeL (i := 4) 40 (.slice (some ⟨ab, aoff, none⟩) l.length c) rfl rfl (by kernel_rfl) (by kernel_rfl) (by kernel_rfl) (fun _ _ _ h => h) (.inl ⟨by rfl, fun _ => rfl⟩) ?_
                simp only [List.set_cons_succ, List.set_cons_zero]
                refine takeL (i := 5) 41 (.int .i64 (k : Int)) rfl rfl (by kernel_rfl) (by kernel_rfl) (by kernel_rfl) (fun _ _ _ h => h) (.inl ⟨by rfl, fun _ => rfl⟩) ?_
                simp only [List.set_cons_succ, List.set_cons_zero]
                refine takeL (i := 6) 42 (.int .i64 ((k : Int) + 1)) rfl rfl (by kernel_rfl) (by kernel_rfl) (by kernel_rfl) (fun _ _ _ h => h) (.inl ⟨by rfl, fun w => by go_simp⟩) ?_
                simp only [List.set_cons_succ, List.set_cons_zero]
                refine takeL (i := 7) 43 (.slice (some ⟨ab, aoff, none⟩) (k + 1) c) rfl rfl (by kernel_rfl) (by kernel_rfl) (by kernel_rfl) (fun _ _ _ h => h) (.inl ⟨by rfl, fun w => by go_simp⟩) ?_
                simp only [List.set_cons_succ, List.set_cons_zero]
                refine takeL (i := 8) 44 (.slice (some ⟨bo, 0, none⟩) k d) rfl rfl (by kernel_rfl) (by kernel_rfl) (by kernel_rfl) (fun _ _ _ h => h) (.inl ⟨by rfl, fun _ => rfl⟩) ?_
                simp only [List.set_cons_succ, List.set_cons_zero]
                refine takeL (i := 10) 46 (.int .i64 (y : Int)) rfl rfl (by kernel_rfl) (by kernel_rfl) (by kernel_rfl) (fun _ _ _ h => h) (.inl ⟨by rfl, fun _ => rfl⟩) ?_
                simp only [List.set_cons_succ, List.set_cons_zero]
                refine takeL (i := 13) 49 (.int .i64 (y : Int)) rfl rfl (by kernel_rfl) (by kernel_rfl) (by kernel_rfl) (fun _ _ _ h => h) (.inl ⟨by rfl, fun _ => rfl⟩) ?_
                simp only [List.set_cons_succ, List.set_cons_zero]
                refine takeL (i := 15) 51 (.int .i64 p) rfl rfl (by kernel_rfl) (by kernel_rfl) (by kernel_rfl) (fun _ _ _ h => h) (.inl ⟨by rfl, fun _ => rfl⟩) ?_
                simp only [List.set_cons_succ, List.set_cons_zero]
                refine wpAny_ready (rs := [9, 11]) (by kernel_rfl) (by simp) (wantL (i := 9) 45 rfl rfl (by rfl) (fun K hK => ?_) (wantL (i := 11) 47 rfl rfl (by rfl) (fun K hK => ?_) AllReady.nil))
                · refine wp_of_step (step_call rfl 156 Tryz.func156 (by kernel_rfl) rfl _ _ rfl #[.slice (some ⟨bo, 0, none⟩) k d] (by simp [Act.eval]) (clone_len (some ⟨bo, 0, none⟩) ws k d _ (hIS.keep (Below.drew (Below.refl _ _))) HK.out (by omega)) ?_)
                  rintro e w7 ⟨A7, c7, rfl, o7, b7⟩
                  have B7 : Below wy.heap.size wy w7 := bthru (Below.drew (Below.refl _ _)) b7
                  have O7 : OI wy.heap.size w7 A7 c7 ws := own_base o7 (by first | exact Nat.le_refl _ | simp)
                  refine ⟨_, rfl, hK _ _ ?_⟩
                  simp only [List.set_cons_succ, List.set_cons_zero]
                  refine wpAny_ready (rs := [11]) (by kernel_rfl) (by simp) (wantL (i := 11) 47 rfl rfl (by rfl) (fun K hK => ?_) AllReady.nil)
                  go_simp
                  refine hK _ _ ?_
                  simp only [List.set_cons_succ, List.set_cons_zero]
                  refine wpAny_ready (rs := [12]) (by kernel_rfl) (by simp) (wantL (i := 12) 48 rfl rfl (by rfl) (fun K hK => ?_) AllReady.nil)
                  refine wp_of_step (step_app_ints rfl (.tmp 45) (.tmp 47) rfl wy.heap.size A7 ws k c7 HK.out rfl (OI_alloc O7 _) ⟨w7.heap.size, 0, none⟩ 1 1 [(y : Int)] rfl rfl (IS_one (heap_alloc_new w7 _)) (by rw [HK.out]; omega) (by simp) (by have := B7.size; simp; omega) ?_)
                  intro A8 c8 w8 o8 g8 b8
                  have B8 : Below wy.heap.size wy w8 := (bal B7 _).trans b8
                  refine hK _ _ ?_
                  simp only [List.set_cons_succ, List.set_cons_zero]
                  refine wpAny_ready (rs := [14]) (by kernel_rfl) (by simp) (wantL (i := 14) 50 rfl rfl (by rfl) (fun K hK => ?_) AllReady.nil)
                  refine wp_of_step (step_call rfl 155 Tryz.func155 (by kernel_rfl) rfl _ _ rfl #[.slice (some ⟨ab, aoff, none⟩) (k + 1) c, .slice A8 (k + 1) c8, .int .i64 (y : Int)] (by simp [Act.eval]) (impl_groupN (some ⟨ab, aoff, none⟩) A8 (l.take (k + 1)) (ws ++ [(y : Int)]) (k + 1) c c8 (y : Int) _ (hT.keep B8) o8.is Hlen1.out Hlen2.out (by omega)) ?_)
                  rintro e w9 ⟨A9, c9, rfl, o9, b9⟩
                  rw [HG.out] at o9 ⊢
                  have B9 : Below wy.heap.size wy w9 := bthru B8 b9
                  have s9 := (own_size o9).1
                  refine ⟨_, rfl, hK _ _ ?_⟩
                  simp only [List.set_cons_succ, List.set_cons_zero]
                  refine wpAny_ready (rs := [16]) (by kernel_rfl) (by simp) (wantL (i := 16) 52 rfl rfl (by rfl) (fun K hK => ?_) AllReady.nil)
                  refine wp_of_step (step_call rfl 154 Tryz.func154 (by kernel_rfl) rfl _ _ rfl #[.slice A9 G.length c9, .int .i64 p] (by simp [Act.eval]) (impl_CanHold A9 G c9 p _ o9.ts (by unfold maxLen; omega) s9) ?_)
                  rw [HC.out]
                  rintro e w10 ⟨rfl, b10⟩
                  have B10 : Below wy.heap.size wy w10 := bthru B9 b10
                  refine ⟨_, rfl, hK _ _ ?_⟩
                  simp only [List.set_cons_succ, List.set_cons_zero]
                  refine takeL (i := 17) 53 (.bool false) rfl rfl (by kernel_rfl) (by kernel_rfl) (by kernel_rfl) (fun _ _ _ h => h) (.inl ⟨by rfl, fun _ => rfl⟩) ?_
                  simp only [List.set_cons_succ, List.set_cons_zero]
                  refine takeL (i := 18) 54 (.bool false) rfl rfl (by kernel_rfl) (by kernel_rfl) (by kernel_rfl) (fun _ _ _ h => h) (.inl ⟨by rfl, fun _ => rfl⟩) ?_
                  simp only [List.set_cons_succ, List.set_cons_zero]
                  refine wpAny_done (by kernel_rfl) ?_ _
                  have hO10 := OI_keep hOy B10
                  have HF3 : Hid (ffGo l M p (l.length - (k + 1)) (ws ++ [(y : Int)]) = R) := by
                    have e := HF2.out
                    rw [hst2.out] at e
                    exact e
                  have qne : ((y : Int) == (M : Int)) = false := beq_eq_false_iff_ne.2 (by omega)
                  have hB10 := bthru hBy B10
                  go_wp2_with (at_builtin; refine wpList_app_intN _ rfl (.tmp 60) (.tmp 62) rfl w.heap.size (some ⟨bo, 0, none⟩) ws k d HK.out rfl (OI_alloc hO10 _) w10.heap.size 1 (y : Int) _ rfl (heap_alloc_new w10 _) (by omega) (by have := hB10.size; simp; omega) ?_; intro A11 c11 w11 o11 b11)
                  obtain ⟨bo2, rfl, _, _⟩ := OI_addr o11 (by rw [Hlen2.out]; omega)
                  go_roundg (l.length - (k + 1))
                  case measure => omega
                  case rel => exact ⟨ws ++ [(y : Int)], bo2, c11, by rw [Hlen2.out]; omega, by rw [Hlen2.out]; go_num, by rw [Hlen2.out], o11, by rw [Hlen2.out]; exact HF3, (bal hB10 _).trans b11⟩
                · go_simp
                  refine hK _ _ ?_
                  simp only [List.set_cons_succ, List.set_cons_zero]
                  refine wpAny_ready (rs := [9]) (by kernel_rfl) (by simp) (wantL (i := 9) 45 rfl rfl (by rfl) (fun K hK => ?_) AllReady.nil)
                  refine wp_of_step (step_call rfl 156 Tryz.func156 (by kernel_rfl) rfl _ _ rfl #[.slice (some ⟨bo, 0, none⟩) k d] (by simp [Act.eval]) (clone_len (some ⟨bo, 0, none⟩) ws k d _ (hIS.keep (bal (Below.drew (Below.refl _ _)) _)) HK.out (by omega)) ?_)
                  rintro e w7 ⟨A7, c7, rfl, o7, b7⟩
                  have B7 : Below wy.heap.size wy w7 := bthru (bal (Below.drew (Below.refl _ _)) _) b7
                  have O7 : OI wy.heap.size w7 A7 c7 ws := own_base o7 (by first | exact Nat.le_refl _ | simp)
                  refine ⟨_, rfl, hK _ _ ?_⟩
                  simp only [List.set_cons_succ, List.set_cons_zero]
                  refine wpAny_ready (rs := [12]) (by kernel_rfl) (by simp) (wantL (i := 12) 48 rfl rfl (by rfl) (fun K hK => ?_) AllReady.nil)
                  refine wp_of_step (step_app_ints rfl (.tmp 45) (.tmp 47) rfl wy.heap.size A7 ws k c7 HK.out rfl (O7) ⟨wy.heap.size, 0, none⟩ 1 1 [(y : Int)] rfl rfl (IS_one ((b7.block _ (by simp)).trans (heap_alloc_new _ _))) (by rw [HK.out]; omega) (by simp) (by have := B7.size; simp; omega) ?_)
                  intro A8 c8 w8 o8 g8 b8
                  have B8 : Below wy.heap.size wy w8 := B7.trans b8
                  refine hK _ _ ?_
                  simp only [List.set_cons_succ, List.set_cons_zero]
                  refine wpAny_ready (rs := [14]) (by kernel_rfl) (by simp) (wantL (i := 14) 50 rfl rfl (by rfl) (fun K hK => ?_) AllReady.nil)
                  refine wp_of_step (step_call rfl 155 Tryz.func155 (by kernel_rfl) rfl _ _ rfl #[.slice (some ⟨ab, aoff, none⟩) (k + 1) c, .slice A8 (k + 1) c8, .int .i64 (y : Int)] (by simp [Act.eval]) (impl_groupN (some ⟨ab, aoff, none⟩) A8 (l.take (k + 1)) (ws ++ [(y : Int)]) (k + 1) c c8 (y : Int) _ (hT.keep B8) o8.is Hlen1.out Hlen2.out (by omega)) ?_)
                  rintro e w9 ⟨A9, c9, rfl, o9, b9⟩
                  rw [HG.out] at o9 ⊢
                  have B9 : Below wy.heap.size wy w9 := bthru B8 b9
                  have s9 := (own_size o9).1
                  refine ⟨_, rfl, hK _ _ ?_⟩
                  simp only [List.set_cons_succ, List.set_cons_zero]
                  refine wpAny_ready (rs := [16]) (by kernel_rfl) (by simp) (wantL (i := 16) 52 rfl rfl (by rfl) (fun K hK => ?_) AllReady.nil)
                  refine wp_of_step (step_call rfl 154 Tryz.func154 (by kernel_rfl) rfl _ _ rfl #[.slice A9 G.length c9, .int .i64 p] (by simp [Act.eval]) (impl_CanHold A9 G c9 p _ o9.ts (by unfold maxLen; omega) s9) ?_)
                  rw [HC.out]
                  rintro e w10 ⟨rfl, b10⟩
                  have B10 : Below wy.heap.size wy w10 := bthru B9 b10
                  refine ⟨_, rfl, hK _ _ ?_⟩
                  simp only [List.set_cons_succ, List.set_cons_zero]
                  refine takeL (i := 17) 53 (.bool false) rfl rfl (by kernel_rfl) (by kernel_rfl) (by kernel_rfl) (fun _ _ _ h => h) (.inl ⟨by rfl, fun _ => rfl⟩) ?_
                  simp only [List.set_cons_succ, List.set_cons_zero]
                  refine takeL (i := 18) 54 (.bool false) rfl rfl (by kernel_rfl) (by kernel_rfl) (by kernel_rfl) (fun _ _ _ h => h) (.inl ⟨by rfl, fun _ => rfl⟩) ?_
                  simp only [List.set_cons_succ, List.set_cons_zero]
                  refine wpAny_done (by kernel_rfl) ?_ _
                  have hO10 := OI_keep hOy B10
                  have HF3 : Hid (ffGo l M p (l.length - (k + 1)) (ws ++ [(y : Int)]) = R) := by
                    have e := HF2.out
                    rw [hst2.out] at e
                    exact e
                  have qne : ((y : Int) == (M : Int)) = false := beq_eq_false_iff_ne.2 (by omega)
                  have hB10 := bthru hBy B10
                  go_wp2_with (at_builtin; refine wpList_app_intN _ rfl (.tmp 60) (.tmp 62) rfl w.heap.size (some ⟨bo, 0, none⟩) ws k d HK.out rfl (OI_alloc hO10 _) w10.heap.size 1 (y : Int) _ rfl (heap_alloc_new w10 _) (by omega) (by have := hB10.size; simp; omega) ?_; intro A11 c11 w11 o11 b11)
                  obtain ⟨bo2, rfl, _, _⟩ := OI_addr o11 (by rw [Hlen2.out]; omega)
                  go_roundg (l.length - (k + 1))
                  case measure => omega
                  case rel => exact ⟨ws ++ [(y : Int)], bo2, c11, by rw [Hlen2.out]; omega, by rw [Hlen2.out]; go_num, by rw [Hlen2.out], o11, by rw [Hlen2.out]; exact HF3, (bal hB10 _).trans b11⟩
            · obtain rfl : y = M := by omega
              have hFn : F = none := by rw [← hfy.out, Nat.sub_self]; rfl
              have hRn : R = none := by
                have e := HF2.out
                rw [hFn] at e
                exact e.symm
              have hr2 : Hid (ffL l (y : Int) p = [] ∧ (ffit l (y : Int) p).isSome = false) := by
                have e : ffit l (y : Int) p = none := by rw [HA.out, hRn]
                simp [Hid, ffL, e]
              clear hFn hRn
              go_wp2_with fail
              refine wp_region_any (by kernel_rfl) ?_
              refine takeL (i := 0) 36 (.int .i64 (y : Int)) rfl rfl (by kernel_rfl) (by kernel_rfl) (by kernel_rfl) (fun _ _ _ h => h) (.inl ⟨by rfl, fun _ => rfl⟩) ?_
              simp only [List.set_cons_succ, List.set_cons_zero]
              refine takeL (i := 1) 37 (.int .i64 (y : Int)) rfl rfl (by kernel_rfl) (by kernel_rfl) (by kernel_rfl) (fun _ _ _ h => h) (.inl ⟨by rfl, fun _ => rfl⟩) ?_
              simp only [List.set_cons_succ, List.set_cons_zero]
              refine takeL (i := 2) 38 (.bool false) rfl rfl (by kernel_rfl) (by kernel_rfl) (by kernel_rfl) (fun _ _ _ h => h) (.inl ⟨by rfl, fun w => by go_simp⟩) ?_
              simp only [List.set_cons_succ, List.set_cons_zero]
              refine takeL (i := 3) 39 (.bool false) rfl rfl (by kernel_rfl) (by kernel_rfl) (by kernel_rfl) (fun _ _ _ h => h) (.inl ⟨by rfl, fun _ => rfl⟩) ?_
              simp only [List.set_cons_succ, List.set_cons_zero]
              refine takeL (i := 4) 40 (undef) rfl rfl (by kernel_rfl) (by kernel_rfl) (by kernel_rfl) (fun _ _ _ h => h) (.inr ⟨by rfl, rfl⟩) ?_
              simp only [List.set_cons_succ, List.set_cons_zero]
              refine takeL (i := 5) 41 (undef) rfl rfl (by kernel_rfl) (by kernel_rfl) (by kernel_rfl) (fun _ _ _ h => h) (.inr ⟨by rfl, rfl⟩) ?_
              simp only [List.set_cons_succ, List.set_cons_zero]
              refine takeL (i := 6) 42 (undef) rfl rfl (by kernel_rfl) (by kernel_rfl) (by kernel_rfl) (fun _ _ _ h => h) (.inr ⟨by rfl, rfl⟩) ?_
              simp only [List.set_cons_succ, List.set_cons_zero]
              refine takeL (i := 7) 43 (undef) rfl rfl (by kernel_rfl) (by kernel_rfl) (by kernel_rfl) (fun _ _ _ h => h) (.inr ⟨by rfl, rfl⟩) ?_
              simp only [List.set_cons_succ, List.set_cons_zero]
              refine takeL (i := 8) 44 (undef) rfl rfl (by kernel_rfl) (by kernel_rfl) (by kernel_rfl) (fun _ _ _ h => h) (.inr ⟨by rfl, rfl⟩) ?_
              simp only [List.set_cons_succ, List.set_cons_zero]
              refine takeL (i := 9) 45 (undef) rfl rfl (by kernel_rfl) (by kernel_rfl) (by kernel_rfl) (fun _ _ _ h => h) (.inr ⟨by rfl, rfl⟩) ?_
              simp only [List.set_cons_succ, List.set_cons_zero]
              refine takeL (i := 10) 46 (undef) rfl rfl (by kernel_rfl) (by kernel_rfl) (by kernel_rfl) (fun _ _ _ h => h) (.inr ⟨by rfl, rfl⟩) ?_
              simp only [List.set_cons_succ, List.set_cons_zero]
              refine takeL (i := 11) 47 (undef) rfl rfl (by kernel_rfl) (by kernel_rfl) (by kernel_rfl) (fun _ _ _ h => h) (.inr ⟨by rfl, rfl⟩) ?_
              simp only [List.set_cons_succ, List.set_cons_zero]
              refine takeL (i := 12) 48 (undef) rfl rfl (by kernel_rfl) (by kernel_rfl) (by kernel_rfl) (fun _ _ _ h => h) (.inr ⟨by rfl, rfl⟩) ?_
              simp only [List.set_cons_succ, List.set_cons_zero]
              refine takeL (i := 13) 49 (undef) rfl rfl (by kernel_rfl) (by kernel_rfl) (by kernel_rfl) (fun _ _ _ h => h) (.inr ⟨by rfl, rfl⟩) ?_
              simp only [List.set_cons_succ, List.set_cons_zero]
              refine takeL (i := 14) 50 (undef) rfl rfl (by kernel_rfl) (by kernel_rfl) (by kernel_rfl) (fun _ _ _ h => h) (.inr ⟨by rfl, rfl⟩) ?_
              simp only [List.set_cons_succ, List.set_cons_zero]
              refine takeL (i := 15) 51 (undef) rfl rfl (by kernel_rfl) (by kernel_rfl) (by kernel_rfl) (fun _ _ _ h => h) (.inr ⟨by rfl, rfl⟩) ?_
              simp only [List.set_cons_succ, List.set_cons_zero]
              refine takeL (i := 16) 52 (undef) rfl rfl (by kernel_rfl) (by kernel_rfl) (by kernel_rfl) (fun _ _ _ h => h) (.inr ⟨by rfl, rfl⟩) ?_
              simp only [List.set_cons_succ, List.set_cons_zero]
              refine takeL (i := 17) 53 (undef) rfl rfl (by kernel_rfl) (by kernel_rfl) (by kernel_rfl) (fun _ _ _ h => h) (.inr ⟨by rfl, rfl⟩) ?_
              simp only [List.set_cons_succ, List.set_cons_zero]
              refine takeL (i := 18) 54 (.bool false) rfl rfl (by kernel_rfl) (by kernel_rfl) (by kernel_rfl) (fun _ _ _ h => h) (.inl ⟨by rfl, fun _ => rfl⟩) ?_
              simp only [List.set_cons_succ, List.set_cons_zero]
              refine wpAny_done (by kernel_rfl) ?_ _
              go_wp2_with fail
              go_ret2
              rw [hr2.out.1, hr2.out.2]
              exact ⟨none, 0, rfl, OI_nil _ _, bdr hBy _⟩
        · obtain rfl : k = l.length := by omega
          have hr : ffit l (M : Int) p = some ws := by rw [HA.out, ← hfk.out, Nat.sub_self]; rfl
          have hr2 : Hid (ffL l (M : Int) p = ws ∧ (ffit l (M : Int) p).isSome = true) := by simp [Hid, ffL, hr]
          clear hr
          go_wp2_with fail
          go_ret2
          rw [hr2.out.1, hr2.out.2]
          exact ⟨some ⟨bo, 0, none⟩, d, by rw [HK.out]; rfl, hO, hb⟩
end Go.Proofs.YtmlbjcjihmfcjaaGreatDoor
