/-
  AssignOrder: the program's.
-/
import Derived.Test.YtmkjmancmiphfaaGreatDoorLast
namespace Go.Proofs.YtmkjmancmiphfaaGreatDoor
open Go.RowKit

def asgL (l : List Tk) : List Int := match assign l with | some o => ints o | none => []
theorem ints_erase (o : List Nat) (k : Nat) : ints (o.eraseIdx k) = (ints o).eraseIdx k := by
  simp only [ints]
  induction o generalizing k with
  | nil => rfl
  | cons a o ih =>
    cases k with
    | zero => rfl
    | succ k => simp [ih k]
theorem ints_snoc (o : List Nat) (k : Nat) : ints (o ++ [k]) = ints o ++ [(k : Int)] := by simp [ints]
theorem pick_sub {l : List Tk} {left acc : List Nat} (h : (left ++ acc).Perm (List.range l.length)) : Sub (pick l left) l := by
  have h1 := pick_perm l h
  rw [pick_range] at h1
  refine (Sub.sub ?_).trans (Sub.perm h1)
  simp [pick]
theorem perm_step {l : List Tk} {left acc : List Nat} {k : Nat} (hk : k < left.length) (h : (left ++ acc).Perm (List.range l.length)) : (left.eraseIdx k ++ (left.getD k 0 :: acc)).Perm (List.range l.length) :=
  (List.perm_middle.trans ((erase_perm left hk).append_right acc)).trans h
theorem topK_hit {p : Nat → Bool} {j : Nat} (h : p j = true) : topK p (j + 1) = some j := by simp [topK, h]
theorem topK_miss {p : Nat → Bool} {j : Nat} (h : p j = false) : topK p (j + 1) = topK p j := by simp [topK, h]
theorem aud_none {l : List Tk} {n : Nat} {left acc : List Nat} (h : topK (lastOk (pick l left)) left.length = none) : aud l (n + 1) left acc = none := by simp only [aud, h]
theorem aud_step {l : List Tk} {n k : Nat} {left acc : List Nat} (h : topK (lastOk (pick l left)) left.length = some k) : aud l (n + 1) left acc = aud l n (left.eraseIdx k) (left.getD k 0 :: acc) := by simp only [aud, h]
theorem canLast_nat {l : List Tk} (hs : setVld l = true) {k : Nat} (hk : k < l.length) : canLast l (k : Int) = lastOk l k := by simp [canLast, plc_nat hs hk]
theorem drop_set (xs : List Value) (n : Nat) (v : Value) (hn : n < xs.length) : (xs.set n v).drop n = v :: xs.drop (n + 1) := by
  rw [List.drop_eq_getElem_cons (by simpa using hn), List.getElem_set_self, List.drop_set_of_lt (by omega)]

/-- A row of the call's own below B stays. -/
theorem own_under {base B : Nat} {w w' : World} {t : TypeId} {size g n cap : Nat} {xs : List Value} (h : w.ownsRow base t size (.slice (some ⟨g, 0, none⟩) n cap) n xs) (hb : Below B w w') (hg : g < B) : w'.ownsRow base t size (.slice (some ⟨g, 0, none⟩) n cap) n xs := by
  refine ⟨h.1, ?_⟩
  rcases h.2 with ⟨hn, _⟩ | ⟨g', cap', cur, hv, hg', hh, rest⟩
  · cases hn
  · refine .inr ⟨g', cap', cur, hv, hg', ?_, rest⟩
    injection hv with hv
    injection hv with hv
    injection hv with hv
    subst hv
    rw [hb.block _ hg]
    exact hh
theorem asg_none {l : List Tk} (h : setVld l = false) : asgL l = [] ∧ (assign l).isSome = false := by simp [asgL, assign, h]

theorem wpList_app_int' (w : World) {ops : Array Oper} {rest : List Oper} {o : Oper} {a : Act} {Q : Exit → Act → World → Prop} (hgd : o.guard = none) (s x : Operand)
    (ho : o.op = .call { callee := .builtin .append, args := #[s, x], argTypes := #[27, 27] })
    (base : Nat) (A : Option Addr) (l : List Int) (k c : Nat) (hk : l.length = k) (hs : a.eval s = .slice A k c) (hown : OI base w A c l)
    (b c1 : Nat) (n : Int) (ty : TypeId) (hx : a.eval x = .slice (some ⟨b, 0, none⟩) 1 c1) (hb : w.heap[b]? = some (.cells #[.int .i64 n] ty (0, 0)))
    (hl : l.length ≤ 2000000) (hbase : base ≤ w.heap.size)
    (h : ∀ A' c' w', OI base w' A' c' (l ++ [n]) → w.grownBy w' (Value.slice A k c).ownBlock → Below base w w' → wpList Tryz.prog ops Q rest (a.put o.dst (.slice A' (k + 1) c')) w') : wpList Tryz.prog ops Q (o :: rest) a w := by
  subst hk
  exact wpList_app_int w hgd s x ho base A l c hs hown b c1 n ty hx hb hl hbase h

theorem wpList_app_task' (w : World) {ops : Array Oper} {rest : List Oper} {o : Oper} {a : Act} {Q : Exit → Act → World → Prop} (hgd : o.guard = none) (s x : Operand)
    (ho : o.op = .call { callee := .builtin .append, args := #[s, x], argTypes := #[23, 23] })
    (base : Nat) (A : Option Addr) (l : List Tk) (k c : Nat) (hk : l.length = k) (hs : a.eval s = .slice A k c) (hown : OT base w A c l)
    (b c1 : Nat) (t : Tk) (cs : Array Value) (ty : TypeId) (hx : a.eval x = .slice (some ⟨b, 0, none⟩) 1 c1) (hb : w.heap[b]? = some (.cells cs ty (0, 0))) (hcs : cs.toList = t.cells)
    (hl : l.length ≤ 2000000) (hbase : base ≤ w.heap.size)
    (h : ∀ A' c' w', OT base w' A' c' (l ++ [t]) → w.grownBy w' (Value.slice A k c).ownBlock → Below base w w' → wpList Tryz.prog ops Q rest (a.put o.dst (.slice A' (k + 1) c')) w') : wpList Tryz.prog ops Q (o :: rest) a w := by
  subst hk
  exact wpList_app_task w hgd s x ho base A l c hs hown b c1 t cs ty hx hb hcs hl hbase h
theorem OI_setLow {base : Nat} {w : World} {A : Option Addr} {c : Nat} {l : List Int} (h : OI base w A c l) {p : Addr} (hp : p.block < base) (u : Value) : OI base (w.setCell p u) A c l := by
  refine ⟨h.1, ?_⟩
  rcases h.2 with hn | ⟨g, cap, cur, hv, hg, hh, rest⟩
  · exact .inl hn
  · exact .inr ⟨g, cap, cur, hv, hg, (Below.heap_setCell w p u g (by omega)).trans hh, rest⟩

theorem OI.cellAt' {base : Nat} {w : World} {b c : Nat} {l : List Int} (h : OI base w (some ⟨b, 0, none⟩) c l) (k : Nat) (x : Int) (hk : l[k]? = some x) : w.cell? ⟨b, k, none⟩ = some (.int .i64 x) := by
  have hl := (List.getElem?_eq_some_iff.1 hk).1
  obtain ⟨b', off, hA, _, hc⟩ := h.is (by omega)
  have := h.cells (g := b) rfl k (.int .i64 x) (by simp [hk])
  rwa [addr_add0] at this

set_option maxHeartbeats 4000000 in
set_option maxRecDepth 100000 in
theorem impl_AssignOrder (A : Option Addr) (l : List Tk) (c : Nat) (w : World) (h : TS w A l) :
    Calls Tryz.prog 123 #[.slice A l.length c] w (RetIB w (asgL l) (assign l).isSome) := by
  cases hS : setVld l with
  | false =>
    rw [(asg_none hS).1, (asg_none hS).2]
    go_enter Tryz.func123, Tryz.ntmps123
    go_wp2_with fail
    refine (impl_SetValid A l c _ h).mono ?_
    rw [hS]
    rintro e w1 ⟨rfl, b1⟩
    go_wp2_with fail
    go_ret2
    exact ⟨none, 0, rfl, OI_nil _ _, b1⟩
  | true =>
    have hl5 := (setVld_all hS).1
    have HS := Lib.hid hS
    obtain ⟨i0, hi0, hz0, hz1, hz2⟩ := info_parts infoIntB
    obtain ⟨row, hrs, hmk⟩ := run_make_n (P := Tryz.prog) 27 3 i0 _ 1 Tryz.underlying27 hi0 hz0 hz1 (by rw [hz2]; omega) l.length (by omega)
    have Hrs := Lib.hid hrs
    clear hS hrs hi0 hz0 hz1 hz2
    go_enter Tryz.func123, Tryz.ntmps123
    go_wp2_with fail
    refine (impl_SetValid A l c _ h).mono ?_
    rw [HS.out]
    rintro e w1 ⟨rfl, b1⟩
    go_wp2_with fail
    clear hmk
    have hO1 := own_new (w := w1) (t := 3) (size := 1) (n := l.length) (row := row) Hrs.out (by omega)
    have hB2 := bal b1 (.cells row 3)
    have hO2 := World.ownsRow.alloc hO1 (.cells #[] 3)
    have hL2 := OI_blank (w1.alloc (.cells row 3)) (w1.heap.size + 1) (by simp)
    have hB3 := bal hB2 (.cells #[] 3)
    have hz3 : w1.heap.size + 1 < ((w1.alloc (.cells row 3)).alloc (.cells #[] 3)).heap.size := by simp
    have hz1 := b1.size
    simp only [World.size_alloc] at hL2
    generalize hwa : World.alloc (World.alloc w1 _) _ = wa at hO2 hL2 hB3 hz3 ⊢
    generalize hg : w1.heap.size = g at hO2 hL2 hz3 hz1 ⊢
    clear hwa hO1 hB2 b1 hg
    have HO2 := Lib.hid hO2
    clear hO2
    have hwg : w.heap.size ≤ g + 1 := by omega
    go_loopw [5, 21] (fun v i wr => ∃ (k : Nat) (A' : Option Addr) (c' : Nat), i = .int .i64 (k : Int) ∧ v = .slice A' k c' ∧ k ≤ l.length ∧ OI (g + 1) wr A' c' (ints (List.range k)) ∧ Below (g + 1) wa wr) (fun _ i _ => l.length - (intOf i).toNat)
    case atStart => exact ⟨0, _, 0, rfl, rfl, by omega, hL2, Below.refl _ _⟩
    case round =>
      obtain ⟨k, A', c', rfl, rfl, hk, hO, hb⟩ := hrel
      have hbz := hb.size
      by_cases hlt : k < l.length
      · have hlr : Hid ((ints (List.range k)).length = k) := by simp [Hid, ints_length]
        have hrs : Hid (ints (List.range (k + 1)) = ints (List.range k) ++ [(k : Int)]) := by rw [Hid, List.range_succ, ints_snoc]
        go_wp2_with (at_builtin; refine wpList_app_int' _ rfl _ _ rfl (g + 1) A' (ints (List.range k)) k c' hlr.out rfl (OI_alloc hO _) wr.heap.size 1 (k : Int) 3 rfl (heap_alloc_new wr _) (by rw [hlr.out]; omega) (by simp; omega) ?_; intro A3 c3' w3 hO3 hg3 hb3)
        go_roundw
        case rel => exact ⟨k + 1, A3, c3', by go_num, rfl, by omega, by rw [hrs.out]; exact hO3, (Below.alloc hb (by omega) _).trans hb3⟩
        case measure => simp [intOf]; omega
      · obtain rfl : k = l.length := by omega
        go_wp2_with fail
        have hT := hB3.trans (hb.mono hwg)
        have hOr := Lib.hid (own_under HO2.out hb (Nat.lt_succ_self g))
        obtain ⟨wb, rfl⟩ : ∃ wb : World, wb = wr := ⟨_, rfl⟩
        have hzb : g + 1 ≤ wb.heap.size := by omega
        have hs0 : Hid (aud l l.length (List.range l.length) [] = assign l) := by simp [Hid, assign, HS.out]
        clear hb hbz hz3 hB3 HO2 hL2
        go_loopw [5, 7] (fun v i wx => ∃ (m : Nat) (A5 : Option Addr) (c5 : Nat) (left acc : List Nat) (xs : List Value), i = .int .i64 ((m : Int) - 1) ∧ v = .slice A5 m c5 ∧ m ≤ l.length ∧ Hid (left.length = m) ∧ Hid (aud l m left acc = assign l) ∧ Hid ((left ++ acc).Perm (List.range l.length)) ∧
          OI (g + 1) wx A5 c5 (ints left) ∧ Hid (wx.ownsRow g 3 1 (.slice (some ⟨g, 0, none⟩) l.length l.length) l.length xs) ∧ Hid (xs.drop m = (ints acc).map (.int .i64)) ∧ Below w.heap.size w wx ∧ g + 1 ≤ wx.heap.size) (fun _ i _ => (intOf i + 1).toNat)
        case atStart => exact ⟨l.length, A', c', List.range l.length, [], row.toList, rfl, rfl, by omega, by simp [Hid], hs0, by simp [Hid], hO, hOr, by simp [Hid, ints, Hrs.out], hT, hzb⟩
        case round =>
          clear hO hOr hs0 hT hzb
          obtain ⟨m, A5, c5, left, acc, xs, rfl, rfl, hm, hlm, ha, hperm, hL, hOr, hxs, hT, hzx⟩ := hrel
          cases m with
          | zero =>
            rw [show (((0 : Nat) : Int) - 1) = -1 from rfl]
            have hfin : assign l = some acc := by rw [← ha.out]; rfl
            have e1 : asgL l = ints acc := by simp [asgL, hfin]
            have e2 : (assign l).isSome = true := by rw [hfin]; rfl
            have hx0 := hxs.out
            rw [List.drop_zero] at hx0
            have hxl := hOr.out.1
            have hil : (ints acc).length = l.length := by
              rw [hx0, List.length_map] at hxl
              omega
            have E1 := Lib.hid e1
            have E2 := Lib.hid e2
            have HIL := Lib.hid hil
            have HX0 := Lib.hid hx0
            clear hfin e1 e2 hx0 hxl hil
            go_wp2_with fail
            go_ret2
            refine ⟨some ⟨g, 0, none⟩, l.length, by rw [E1.out, E2.out, HIL.out]; rfl, ?_, hT⟩
            rw [E1.out, OI, HIL.out, ← HX0.out]
            exact own_base hOr.out hz1
          | succ j =>
            rw [show (((j + 1 : Nat) : Int) - 1) = (j : Int) by omega]
            obtain ⟨wo, rfl⟩ : ∃ wo : World, wo = wr := ⟨_, rfl⟩
            have hvp : Hid (setVld (pick l left) = true) := setVld_sub (pick_sub hperm.out) HS.out
            have hpl : Hid ((pick l left).length = j + 1) := by rw [Hid, pick_length]; exact hlm.out
            have hil : Hid ((ints left).length = j + 1) := by rw [Hid, ints_length]; exact hlm.out
            have hlt : ∀ x ∈ left, x < l.length := fun x hx => by
              have := hperm.out.mem_iff.1 (List.mem_append_left acc hx)
              simpa using this
            have Hlt := Lib.hid hlt
            clear hlt
            go_wp2_with fail
            go_loopw [8, 39] (fun v i wy => ∃ (k : Nat) (A' : Option Addr) (c' : Nat), i = .int .i64 (k : Int) ∧ v = .slice A' k c' ∧ k ≤ j + 1 ∧ OT wo.heap.size wy A' c' (pick l (left.take k)) ∧ Below wo.heap.size wo wy) (fun _ i _ => j + 1 - (intOf i).toNat)
            case atStart => exact ⟨0, _, 0, rfl, rfl, by omega, by simpa [pick] using OT_blank wo _ (Nat.le_refl _), bal (Below.refl _ _) _⟩
            case round =>
              obtain ⟨k, A', c', rfl, rfl, hk, hO, hb⟩ := hrel
              have hTr := bthru hT hb
              by_cases hlk : k < j + 1
              · have hkl : k < left.length := by rw [hlm.out]; exact hlk
                obtain ⟨b5, off5, rfl, hbl5, hc5⟩ := (OI_keep hL hb).is (by rw [hil.out]; omega)
                have d0 := hc5 k _ (ints_at left k hkl)
                clear hc5
                have hxk := Hlt.out _ (List.getElem_mem hkl)
                have hpk : Hid (pick l (left.take (k + 1)) = pick l (left.take k) ++ [tkAt l left[k]]) := by
                  rw [Hid, List.take_succ_eq_append_getElem hkl, pick, List.map_append]
                  rfl
                have hpn : Hid ((pick l (left.take k)).length = k) := by rw [Hid, pick_length, List.length_take]; omega
                generalize left[k] = x at *
                obtain ⟨b, off, rfl, hbl, hc⟩ := h.keep hTr (by omega)
                obtain ⟨c0, c1, c2, c3, c4⟩ := cells_tk hc x hxk
                clear hc
                go_wp2_with (at_builtin; refine wpList_app_task' _ rfl _ _ rfl wo.heap.size A' (pick l (left.take k)) k c' hpn.out rfl (OT_alloc hO _) wr.heap.size 1 (tkAt l x) _ 58 rfl (heap_alloc_new wr _) rfl (by rw [hpn.out]; omega) (by have := hb.size; simp; omega) ?_; intro A3 c3' w3 hO3 hg3 hb3)
                go_roundw
                case rel => exact ⟨k + 1, A3, c3', by go_num, rfl, by omega, by rw [hpk.out]; exact hO3, (bal hb _).trans hb3⟩
                case measure => simp [intOf]; omega
              · obtain rfl : k = j + 1 := by omega
                have hO8 : OT wo.heap.size wr A' c' (pick l left) := by
                  have e : left.take (j + 1) = left := List.take_of_length_le (by rw [hlm.out]; exact Nat.le_refl _)
                  rw [e] at hO
                  exact hO
                clear hO
                obtain ⟨wz, rfl⟩ : ∃ wz : World, wz = wr := ⟨_, rfl⟩
                have hsz8 := own_size hO8
                rw [hpl.out] at hsz8
                obtain ⟨hsz8, _⟩ := hsz8
                go_wp2_with fail
                go_loopw [11] (fun i wy => ∃ q : Nat, i = .int .i64 ((q : Int) - 1) ∧ q ≤ j + 1 ∧ Hid (topK (lastOk (pick l left)) (j + 1) = topK (lastOk (pick l left)) q) ∧ Below wz.heap.size wz wy) (fun i _ => (intOf i + 1).toNat)
                case atStart => exact ⟨j + 1, by go_num, by omega, rfl, Below.refl _ _⟩
                case round =>
                  obtain ⟨q, rfl, hq, htop, hby⟩ := hrel
                  have hTy := bthru hTr hby
                  have hby2 := bthru hb hby
                  cases q with
                  | zero =>
                    rw [show (((0 : Nat) : Int) - 1) = -1 from rfl]
                    have hno : assign l = none := by
                      rw [← ha.out]
                      refine aud_none ?_
                      rw [hlm.out, htop.out]
                      rfl
                    have E1 : Hid (asgL l = []) := by simp [Hid, asgL, hno]
                    have E2 : Hid ((assign l).isSome = false) := by simp [Hid, hno]
                    clear hno
                    go_wp2_with fail
                    go_ret2
                    exact ⟨none, 0, by rw [E1.out, E2.out]; rfl, by rw [E1.out]; exact OI_nil _ _, hTy⟩
                  | succ r =>
                    rw [show (((r + 1 : Nat) : Int) - 1) = (r : Int) by omega]
                    have hK := impl_CanBeLast A' (pick l left) c' (r : Int) wr (hO8.ts.keep hby) (by rw [hpl.out]; exact hsz8)
                    rw [hpl.out, canLast_nat hvp.out (by rw [hpl.out]; omega)] at hK
                    cases hlo : lastOk (pick l left) r with
                    | false =>
                      rw [hlo] at hK
                      have hmi := Lib.hid (topK_miss hlo)
                      clear hlo
                      go_wp2_with (go_at_call 177; refine hK.mono ?_; rintro e w9 ⟨rfl, b9⟩)
                      go_roundw
                      case rel => ((repeat apply Exists.intro); exact ⟨⟨r, by go_num, by omega, by rw [Hid, htop.out, hmi.out], bthru hby b9⟩, rfl⟩)
                      case measure => simp [intOf]
                    | true =>
                      rw [hlo] at hK
                      have hhi := Lib.hid (topK_hit hlo)
                      clear hlo
                      go_wp2_with (go_at_call 177; refine hK.mono ?_; rintro e w9 ⟨rfl, b9⟩; have H9 := bthru hby2 b9; have hL9 := OI_keep hL H9; have hO9 := own_keep hOr.out H9; obtain ⟨b5, rfl, hb5, hl5'⟩ := OI_addr hL9 (by rw [hil.out]; omega); have d0 := hL9.cellAt' r (left.getD r 0) (by rw [getD_eq (by rw [hlm.out]; omega)]; exact ints_at left r (by rw [hlm.out]; omega)); obtain ⟨⟨v0, e0⟩, ef⟩ := own_one hO9 j (by omega); have hgz : g + 1 ≤ w9.heap.size := Nat.le_trans hzx H9.size)
                      have hT9 := bst (bthru hT H9) (p := ⟨g, j, none⟩) hz1 (.int .i64 ((left.getD r 0 : Nat) : Int))
                      have hLs := OI_setLow hL9 (p := ⟨g, j, none⟩) (Nat.lt_succ_self g) (.int .i64 ((left.getD r 0 : Nat) : Int))
                      have hOs := Lib.hid (hO9.stored j (.int .i64 ((left.getD r 0 : Nat) : Int))).1
                      have hel : ((ints left).eraseIdx r).length = j := by rw [List.length_eraseIdx_of_lt (by rw [hil.out]; omega), hil.out]; rfl
                      have hD := slices_DeleteI (g + 1) b5 c5 r (ints left) _ hLs (by rw [hil.out]; omega) (by rw [hil.out]; omega)
                      rw [hil.out, hel] at hD
                      have hrl : Hid (r < left.length) := by rw [Hid, hlm.out]; omega
                      have hst : Hid (aud l j (left.eraseIdx r) (left.getD r 0 :: acc) = assign l) := by
                        rw [Hid, ← ha.out]
                        refine (aud_step ?_).symm
                        rw [hlm.out, htop.out, hhi.out]
                      have hll : Hid ((left.eraseIdx r).length = j) := by rw [Hid, List.length_eraseIdx_of_lt hrl.out, hlm.out]; rfl
                      have hxd : Hid ((xs.set j (.int .i64 ((left.getD r 0 : Nat) : Int))).drop j = (ints (left.getD r 0 :: acc)).map (.int .i64)) := by
                        have h1 := hOr.out.1
                        rw [Hid, drop_set _ _ _ (by omega), hxs.out]
                        simp [ints]
                      clear hel d0 e0 ef hK hL9 hO9 hLs
                      refine hD.mono ?_
                      rintro e w10 ⟨rfl, o10, gr10⟩
                      rw [← ints_erase] at o10
                      have hG10 : Below (g + 1) _ w10 := gb_low gr10 hb5 (by simp [World.setCell]; omega)
                      have hz10 := hG10.size
                      simp only [World.setCell] at hz10
                      go_wp2_with fail
                      go_roundw
                      case rel => exact ⟨j, _, c5, left.eraseIdx r, left.getD r 0 :: acc, xs.set j (.int .i64 ((left.getD r 0 : Nat) : Int)), by go_num, rfl, by omega, hll, hst, perm_step hrl.out hperm.out, o10, own_under hOs.out hG10 (Nat.lt_succ_self g), hxd, hT9.trans (hG10.mono hwg), by simp at hz10; omega⟩
                      case measure => simp [intOf]
end Go.Proofs.YtmkjmancmiphfaaGreatDoor
