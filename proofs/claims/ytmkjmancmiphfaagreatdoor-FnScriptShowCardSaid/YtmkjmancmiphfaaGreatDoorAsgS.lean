/-
  AssignOrder: the reference's.
-/
import Derived.Test.YtmkjmancmiphfaaGreatDoorAsg
namespace Go.Proofs.YtmkjmancmiphfaaGreatDoor
open Go.RowKit

theorem OI_one (w : World) (base : Nat) (x : Int) (hb : base ≤ w.heap.size) : OI base (w.alloc (.cells #[.int .i64 x] 3)) (some ⟨w.heap.size, 0, none⟩) 1 [x] :=
  ⟨by simp, .inr ⟨w.heap.size, 1, #[.int .i64 x], rfl, hb, heap_alloc_new w _, Nat.le_refl _, by unfold maxLen; simp, by simp, by simp⟩⟩
theorem wpList_app_ints' (w : World) {ops : Array Oper} {rest : List Oper} {o : Oper} {a : Act} {Q : Exit → Act → World → Prop} (hgd : o.guard = none) (s x : Operand)
    (ho : o.op = .call { callee := .builtin .append, args := #[s, x], argTypes := #[27, 27] })
    (base : Nat) (A : Option Addr) (l : List Int) (n c : Nat) (hn : l.length = n) (hs : a.eval s = .slice A n c) (hown : OI base w A c l)
    (ad : Addr) (j c1 : Nat) (m : List Int) (hj : m.length = j) (hx : a.eval x = .slice (some ad) j c1) (hm : IS w (some ad) m)
    (hl : l.length ≤ 2000000) (hlm : m.length ≤ 2000000) (hbase : base ≤ w.heap.size)
    (h : ∀ A' c' w', OI base w' A' c' (l ++ m) → w.grownBy w' (Value.slice A n c).ownBlock → Below base w w' → wpList Tryz.prog ops Q rest (a.put o.dst (.slice A' (n + j) c')) w') : wpList Tryz.prog ops Q (o :: rest) a w := by
  subst hn hj
  exact wpList_app_ints w hgd s x ho base A l c hs hown ad c1 m hx hm hl hlm hbase h

def lenOf : Value → Nat
  | .slice _ m _ => m
  | _ => 0
/-- The search from above: not found yet, or found. -/
def Srch (p : Nat → Bool) (n : Nat) (v i : Value) : Prop :=
  (∃ q : Nat, v = .int .i64 (-1) ∧ i = .int .i64 ((q : Int) - 1) ∧ q ≤ n ∧ Hid (topK p n = topK p q)) ∨ (∃ r : Nat, v = .int .i64 (r : Int) ∧ i = .int .i64 ((r : Int) - 1) ∧ r < n ∧ Hid (topK p n = some r))
set_option maxHeartbeats 4000000 in
set_option maxRecDepth 100000 in
theorem spec_AssignOrder (A : Option Addr) (l : List Tk) (c : Nat) (w : World) (h : TS w A l) (hm : l.length ≤ maxLen) :
    Calls Tryz.prog 83 #[.slice A l.length c] w (RetIB w (asgL l) (assign l).isSome) := by
  cases hS : setVld l with
  | false =>
    rw [(asg_none hS).1, (asg_none hS).2]
    go_enter Tryz.func83, Tryz.ntmps83
    go_wp2_with fail
    refine (spec_SetValid A l c _ h hm).mono ?_
    rw [hS]
    rintro e w1 ⟨rfl, b1⟩
    go_wp2_with fail
    go_ret2
    exact ⟨_, 0, rfl, OI_blank w1 _ b1.size, bal b1 _⟩
  | true =>
    have hl5 := (setVld_all hS).1
    have HS := Lib.hid hS
    clear hS
    go_enter Tryz.func83, Tryz.ntmps83
    go_wp2_with fail
    refine (spec_SetValid A l c _ h hm).mono ?_
    rw [HS.out]
    rintro e w1 ⟨rfl, b1⟩
    go_wp2_with fail
    have hz1 := b1.size
    go_loopw [4, 5] (fun v i wr => ∃ (k : Nat) (A' : Option Addr) (c' : Nat), i = .int .i64 (k : Int) ∧ v = .slice A' k c' ∧ k ≤ l.length ∧ OI w.heap.size wr A' c' (ints (List.range k)) ∧ Below w.heap.size w wr) (fun _ i _ => l.length - (intOf i).toNat)
    case atStart => exact ⟨0, _, 0, rfl, rfl, by omega, OI_blank w1 _ hz1, bal b1 _⟩
    case round =>
      obtain ⟨k, A', c', rfl, rfl, hk, hO, hb⟩ := hrel
      have hbz := hb.size
      by_cases hlt : k < l.length
      · have hlr : Hid ((ints (List.range k)).length = k) := by simp [Hid, ints_length]
        have hrs : Hid (ints (List.range (k + 1)) = ints (List.range k) ++ [(k : Int)]) := by rw [Hid, List.range_succ, ints_snoc]
        go_wp2_with (at_builtin; refine wpList_app_int' _ rfl _ _ rfl w.heap.size A' (ints (List.range k)) k c' hlr.out rfl (OI_alloc hO _) wr.heap.size 1 (k : Int) 3 rfl (heap_alloc_new wr _) (by rw [hlr.out]; omega) (by simp; omega) ?_; intro A3 c3' w3 hO3 hg3 hb3)
        go_roundw
        case rel => exact ⟨k + 1, A3, c3', by go_num, rfl, by omega, by rw [hrs.out]; exact hO3, (bal hb _).trans hb3⟩
        case measure => simp [intOf]; omega
      · obtain rfl : k = l.length := by omega
        go_wp2_with fail
        obtain ⟨wb, rfl⟩ : ∃ wb : World, wb = wr := ⟨_, rfl⟩
        have hs0 : Hid (aud l l.length (List.range l.length) [] = assign l) := by simp [Hid, assign, HS.out]
        have hO0 := OI_blank wb w.heap.size hbz
        have hL0 := OI_alloc hO (.cells #[] 3)
        have hB0 := bal hb (.cells #[] 3)
        go_loopw [4, 6] (fun v i wx => ∃ (m : Nat) (A5 : Option Addr) (c5 : Nat) (left acc : List Nat) (ad : Addr) (c6 : Nat), v = .slice A5 m c5 ∧ i = .slice (some ad) acc.length c6 ∧ m ≤ l.length ∧ Hid (left.length = m) ∧ Hid (aud l m left acc = assign l) ∧ Hid ((left ++ acc).Perm (List.range l.length)) ∧
          OI w.heap.size wx A5 c5 (ints left) ∧ OI w.heap.size wx (some ad) c6 (ints acc) ∧ Below w.heap.size w wx) (fun v _ _ => lenOf v)
        case atStart => exact ⟨l.length, A', c', List.range l.length, [], ⟨wb.heap.size, 0, none⟩, 0, rfl, rfl, by omega, by simp [Hid], hs0, by simp [Hid], hL0, hO0, hB0⟩
        case round =>
          clear hO hs0 hO0 hL0 hB0 hb hbz
          obtain ⟨m, A5, c5, left, acc, ad, c6, rfl, rfl, hm5, hlm, ha, hperm, hL, hA6, hT⟩ := hrel
          have hacl : acc.length ≤ 5 := by
            have := hperm.out.length_eq
            simp at this
            omega
          cases m with
          | zero =>
            have hfin : assign l = some acc := by rw [← ha.out]; rfl
            have E1 : Hid (asgL l = ints acc) := by simp [Hid, asgL, hfin]
            have E2 : Hid ((assign l).isSome = true) := by rw [Hid, hfin]; rfl
            clear hfin
            go_wp2_with fail
            go_ret2
            exact ⟨some ad, c6, by rw [E1.out, E2.out, ints_length]; rfl, by rw [E1.out]; exact hA6, hT⟩
          | succ j =>
            obtain ⟨wo, rfl⟩ : ∃ wo : World, wo = wr := ⟨_, rfl⟩
            have hvp : Hid (setVld (pick l left) = true) := setVld_sub (pick_sub hperm.out) HS.out
            have hpl : Hid ((pick l left).length = j + 1) := by rw [Hid, pick_length]; exact hlm.out
            have hil : Hid ((ints left).length = j + 1) := by rw [Hid, ints_length]; exact hlm.out
            have hlt : ∀ x ∈ left, x < l.length := fun x hx => by
              have := hperm.out.mem_iff.1 (List.mem_append_left acc hx)
              simpa using this
            have hPut := spec_l4Put A A5 l left c c5 wo (h.keep hT) hL.is hlt (by omega) (by rw [hlm.out]; omega)
            rw [hlm.out] at hPut
            clear hlt
            go_wp2_with fail
            refine hPut.mono ?_
            clear hPut
            rintro e wz ⟨A', c', rfl, hO8, b8⟩
            have hsz8 := own_size hO8
            rw [hpl.out] at hsz8 ⊢
            obtain ⟨hsz8, _⟩ := hsz8
            go_wp2_with fail
            go_loopw [7, 9] (fun v i wy => Srch (lastOk (pick l left)) (j + 1) v i ∧ Below wz.heap.size wz wy) (fun _ i _ => (intOf i + 1).toNat)
            case atStart => exact ⟨.inl ⟨j + 1, rfl, by go_num, by omega, rfl⟩, Below.refl _ _⟩
            case round =>
              obtain ⟨hsr, hby⟩ := hrel
              have hTy := bthru hT (bthru b8 hby)
              rcases hsr with ⟨q, rfl, rfl, hq, htop⟩ | ⟨r, rfl, rfl, hrj, htop⟩
              case inr =>
                have H9 := bthru b8 hby
                have hL9 := OI_keep hL H9
                have hA9 := OI_keep hA6 H9
                obtain ⟨b5, rfl, hb5, hl5'⟩ := OI_addr hL9 (by rw [hil.out]; omega)
                have d0 := hL9.cellAt' r (left.getD r 0) (by rw [getD_eq (by rw [hlm.out]; omega)]; exact ints_at left r (by rw [hlm.out]; omega))
                have hrl : Hid (r < left.length) := by rw [Hid, hlm.out]; omega
                obtain ⟨x, hx⟩ : ∃ x, left.getD r 0 = x := ⟨_, rfl⟩
                rw [hx] at d0
                have hst : Hid (aud l j (left.eraseIdx r) (x :: acc) = assign l) := by
                  rw [Hid, ← ha.out, ← hx]
                  refine (aud_step ?_).symm
                  rw [hlm.out, htop.out]
                have hll : Hid ((left.eraseIdx r).length = j) := by rw [Hid, List.length_eraseIdx_of_lt hrl.out, hlm.out]; rfl
                have hpe : Hid ((left.eraseIdx r ++ (x :: acc)).Perm (List.range l.length)) := by rw [← hx]; exact perm_step hrl.out hperm.out
                have hsz5 := own_size hL9
                rw [hil.out] at hsz5
                obtain ⟨hsz5, _⟩ := hsz5
                have hD := IS_drop (hL9.is) (r + 1) (c := c5) (by rw [hil.out]; exact hsz5)
                obtain ⟨A2, hA2, hS2⟩ := hD
                rw [Nat.zero_add] at hA2
                have hS1 := Lib.hid (IS_take hL9.is r)
                have HS2 := Lib.hid hS2
                have hl1 : Hid (((ints left).take r).length = r) := by rw [Hid, List.length_take, hil.out]; omega
                have hl2 : Hid (((ints left).drop (r + 1)).length = j - r) := by rw [Hid, List.length_drop, hil.out]; omega
                have hlen : Hid (ints (left.eraseIdx r) = (ints left).take r ++ (ints left).drop (r + 1)) := by rw [Hid, ints_erase, List.eraseIdx_eq_take_drop_succ]
                have q1 : (0 : Int) ≤ (r : Int) + 1 := by omega
                have q2 : (r : Int) + 1 ≤ ((j + 1 : Nat) : Int) := by omega
                have q3 : (r : Int) ≤ (c5 : Int) := by omega
                have q0 : (0 : Int) ≤ (r : Int) := by omega
                have qw : IntKind.i64.wrap ((r : Int) + 1) = (r : Int) + 1 := IntWalk.i64_in _ (by omega)
                have hkc : r ≤ c5 := by omega
                have qj : r ≤ j := by omega
                clear hS2 hx
                go_wp2_with (at_builtin; refine wpList_app_ints' _ rfl _ _ rfl wr.heap.size (some ⟨wr.heap.size, 0, none⟩) [(x : Int)] 1 1 rfl rfl (OI_one _ _ _ (Nat.le_refl _)) ad acc.length c6 (ints acc) (ints_length _) rfl (hA9.is.keep (bal (Below.refl _ _) _)) (by simp) (by rw [ints_length]; omega) (by simp) ?_; intro A7 c7 w10 o7 g7 b7)
                all_goals
                  have B10 : Below wr.heap.size wr w10 := (bal (Below.refl _ _) _).trans b7
                  have hz10 := B10.size
                  obtain ⟨b7', rfl, _, _⟩ := OI_addr o7 (by simp)
                  have hzw := hTy.size
                  go_region_law (first
                    | (refine step_app_ints rfl (.tmp 57) (.tmp 60) rfl w10.heap.size (some ⟨w10.heap.size, 0, none⟩) [] 0 0 rfl (by simp [Act.eval]) (OI_blank _ _ (Nat.le_refl _)) ⟨b5, 0, none⟩ r c5 ((ints left).take r) hl1.out (by simp [Act.eval]) (hS1.out.keep (B10.trans ((bal (Below.drew (Below.refl _ _)) _).mono hz10))) (by simp) (by rw [hl1.out]; omega) (by simp) ?_; intro A' c' w1' o1 g1 b1')
                    | (refine step_app_ints rfl (.tmp 61) (.tmp 65) rfl w10.heap.size _ ((ints left).take r) r _ hl1.out (by simp [Act.eval]) o1 A2 (j - r) (c5 - (r + 1)) ((ints left).drop (r + 1)) hl2.out (by simp [Act.eval]) (HS2.out.keep (B10.trans (((bal (Below.drew (Below.refl _ _)) _).trans b1').mono hz10))) (by rw [hl1.out]; omega) (by rw [hl2.out]; omega) (by have := b1'.size; simp at this; omega) ?_; intro A'' c'' w2' o2 g2 b2'))
                  have H12 : Below w10.heap.size w10 w2' := ((bal (Below.drew (Below.refl _ _)) _).trans b1').trans b2'
                  have oL : OI w.heap.size w2' A'' c'' (ints (left.eraseIdx r)) := by rw [hlen.out]; exact own_base o2 (by omega)
                  have oA : OI w.heap.size w2' (some ⟨b7', 0, none⟩) c7 (ints (x :: acc)) := own_base (OI_keep o7 H12) hzw
                  have HT := bthru (bthru hTy B10) H12
                  clear o1 o2 o7 b1' b2' g1 g2 g7 b7 B10 H12
                  go_wp2_with fail
                  go_roundw
                  case rel => ((repeat apply Exists.intro); exact ⟨⟨j, A'', c'', left.eraseIdx r, x :: acc, ⟨b7', 0, none⟩, c7, rfl, by rw [List.length_cons, Nat.add_comm], by omega, hll, hst, hpe, oL, oA, HT⟩, rfl⟩)
                  case measure => exact Nat.lt_succ_self j
              cases q with
              | zero =>
                rw [show (((0 : Nat) : Int) - 1) = -1 from rfl]
                have hno : assign l = none := by
                  rw [← ha.out]
                  refine aud_none ?_
                  rw [hlm.out, htop.out]
                  rfl
                have E1 : Hid (asgL l = []) := by simp [Hid, asgL, hno]
                have E2 : Hid ((assign l).isSome = false) := by simp [Hid, hno]
                clear hno
                go_wp2_with fail
                go_ret2
                exact ⟨_, 0, by rw [E1.out, E2.out]; rfl, by rw [E1.out]; exact OI_blank wr _ hTy.size, bal hTy _⟩
              | succ r =>
                rw [show (((r + 1 : Nat) : Int) - 1) = (r : Int) by omega]
                have hK := spec_CanBeLast A' (pick l left) c' (r : Int) wr (hO8.ts.keep hby) (by rw [hpl.out]; unfold maxLen; omega) (by rw [hpl.out]; exact hsz8)
                rw [hpl.out, canLast_nat hvp.out (by rw [hpl.out]; omega)] at hK
                cases hlo : lastOk (pick l left) r with
                | false =>
                  rw [hlo] at hK
                  have hmi := Lib.hid (topK_miss hlo)
                  clear hlo
                  go_wp2_with (go_at_call 146; refine hK.mono ?_; rintro e w9 ⟨rfl, b9⟩)
                  go_roundw
                  case rel => exact ⟨.inl ⟨r, rfl, by go_num, by omega, by rw [Hid, htop.out, hmi.out]⟩, bthru hby b9⟩
                  case measure => simp [intOf]
                | true =>
                  rw [hlo] at hK
                  have hhi := Lib.hid (topK_hit hlo)
                  clear hlo
                  go_wp2_with (go_at_call 146; refine hK.mono ?_; rintro e w9 ⟨rfl, b9⟩)
                  go_roundw
                  case rel => exact ⟨.inr ⟨r, rfl, by go_num, by omega, by rw [Hid, htop.out, hhi.out]⟩, bthru hby b9⟩
                  case measure => simp [intOf]
end Go.Proofs.YtmkjmancmiphfaaGreatDoor
