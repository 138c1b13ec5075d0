/-
  l9Ways, PackAny: the reference's.
-/
import Derived.Test.YtmlbjcjihmfcjaaGreatDoorPackH
import Derived.Test.YtmlbjcjihmfcjaaGreatDoorWayT
import Derived.Deep.CutBlock
import Derived.Deep.RegionHeld3
namespace Go.Proofs.YtmlbjcjihmfcjaaGreatDoor
open Go.RowKit

/-- All ways that begin with bs, k numbers more. -/
def waysF (m : Nat) : Nat → List Int → List (List Int)
  | 0, bs => [bs]
  | k + 1, bs => (List.range m).flatMap (fun (p : Nat) => waysF m k (bs ++ [(p : Int)]))
theorem waysF_eq : ∀ m < 4, ∀ n < 6, waysF m n [] = (List.range (m ^ n)).map (way m n) := by decide +kernel
def waysTo (m k : Nat) (bs : List Int) (q : Nat) : List (List Int) := (List.range q).flatMap (fun (p : Nat) => waysF m k (bs ++ [(p : Int)]))
theorem waysTo_succ (m k : Nat) (bs : List Int) (q : Nat) : waysTo m k bs (q + 1) = waysTo m k bs q ++ waysF m k (bs ++ [(q : Int)]) := by simp [waysTo, List.range_succ]
theorem waysF_succ (m k : Nat) (bs : List Int) : waysF m (k + 1) bs = waysTo m k bs m := rfl
theorem waysF_len (m k : Nat) (bs : List Int) : (waysF m k bs).length = m ^ k := by
  induction k generalizing bs with
  | zero => rfl
  | succ k ih =>
    rw [waysF_succ]
    suffices hs : ∀ q, (waysTo m k bs q).length = q * m ^ k by rw [hs, Nat.pow_succ, Nat.mul_comm]
    intro q
    induction q with
    | zero => simp [waysTo]
    | succ q ihq => rw [waysTo_succ, List.length_append, ihq, ih, Nat.succ_mul]
theorem waysTo_len (m k : Nat) (bs : List Int) (q : Nat) : (waysTo m k bs q).length = q * m ^ k := by
  induction q with
  | zero => simp [waysTo]
  | succ q ih => rw [waysTo_succ, List.length_append, ih, waysF_len, Nat.succ_mul]

/-! ### Rows of rows -/
abbrev Rw := Option Addr × List Int × Nat
def rowV (x : Rw) : Value := .slice x.1 x.2.1.length x.2.2
def OR (ob base : Nat) (w : World) (A : Option Addr) (c : Nat) (xs : List Rw) : Prop :=
  w.ownsRow ob 27 1 (.slice A xs.length c) xs.length (xs.map rowV) ∧ ∀ x ∈ xs, OI base w x.1 x.2.2 x.2.1
theorem infoRow : (Tryz.prog.info? 27).map (fun i => (i.zero, i.size, i.bytes)) = some (some (.slice none 0 0), 1, 24) := by kernel_rfl
theorem OR_keep {ob base : Nat} {w w' : World} {A : Option Addr} {c : Nat} {xs : List Rw} (h : OR ob base w A c xs) (hb : Below w.heap.size w w') : OR ob base w' A c xs :=
  ⟨own_keep h.1 hb, fun x hx => OI_keep (h.2 x hx) hb⟩
theorem OI_keepR {base base2 : Nat} {w w' : World} {A B : Option Addr} {c d n : Nat} {vs : List Value} {r : List Int} (h : OI base w B d r) (k : w.ownsRow base2 27 1 (.slice A n c) n vs) (hg : w.grownBy w' (Value.slice A n c).ownBlock) : OI base w' B d r := by
  refine World.ownsRow.kept h hg ?_
  rcases h.2 with ⟨hv, _⟩ | ⟨g, cap, cur, hv, _, hh, _⟩
  · exact .inl (by rw [hv]; rfl)
  · refine .inr ?_
    rcases k.2 with ⟨kv, _⟩ | ⟨g2, cap2, cur2, kv, _, kh, _⟩
    · rw [hv, kv]; simp [Value.ownBlock]
    · rw [hv, kv]
      intro e
      have : g = g2 := by simpa [Value.ownBlock] using e
      subst this
      rw [hh] at kh
      injection kh with kh
      injection kh with _ kt _
      revert kt
      decide
theorem OR_addr {ob base : Nat} {w : World} {A : Option Addr} {c : Nat} {xs : List Rw} (h : OR ob base w A c xs) (hl : 0 < xs.length) : ∃ b, A = some ⟨b, 0, none⟩ ∧ ob ≤ b ∧ b < w.heap.size := by
  rcases h.1.2 with ⟨_, h0⟩ | ⟨g, cap, cur, hv, hg, hh, _⟩
  · omega
  · injection hv with hA
    exact ⟨g, hA, hg, (Array.getElem?_eq_some_iff.1 hh).1⟩
theorem OR_cell {ob base : Nat} {w : World} {b c : Nat} {xs : List Rw} (h : OR ob base w (some ⟨b, 0, none⟩) c xs) (k : Nat) (x : Rw) (hx : xs[k]? = some x) : w.cell? ⟨b, k, none⟩ = some (rowV x) := by
  have := World.ownsRow.cells h.1 (g := b) rfl k (rowV x) (by rw [List.getElem?_map, hx]; rfl)
  rwa [addr_add0] at this
theorem wpList_app_rows (w : World) {ops : Array Oper} {rest : List Oper} {o : Oper} {a : Act} {Q : Exit → Act → World → Prop} (hgd : o.guard = none) (s x : Operand)
    (ho : o.op = .call { callee := .builtin .append, args := #[s, x], argTypes := #[186, 186] })
    (ob ob2 base : Nat) (A : Option Addr) (l : List Rw) (c : Nat) (hs : a.eval s = .slice A l.length c) (hown : OR ob base w A c l)
    (b c1 : Nat) (m : List Rw) (hx : a.eval x = .slice (some ⟨b, 0, none⟩) m.length c1) (hm : OR ob2 base w (some ⟨b, 0, none⟩) c1 m)
    (hl : l.length ≤ 2000000) (hlm : m.length ≤ 2000000) (hbase : ob ≤ w.heap.size)
    (h : ∀ A' c' w', OR ob base w' A' c' (l ++ m) → Below ob w w' → wpList Tryz.prog ops Q rest (a.put o.dst (.slice A' (l.length + m.length) c')) w') : wpList Tryz.prog ops Q (o :: rest) a w := by
  obtain ⟨i0, hi, hz0, hz1, hz2⟩ := info_parts infoRow
  refine wpList_append_own w hgd s x 186 ho ob 27 i0 _ 1 24 Tryz.underlying186 hi hz0 hz1 hz2 rfl (by decide) (.slice A l.length c) l.length (l.map rowV) hs hown.1
    ⟨b, 0, none⟩ m.length c1 (m.map rowV) hx (by simp) ?_ ?_ (by unfold maxLen; omega) (by omega) hbase ?_
  · intro j u hj
    rw [List.getElem?_map] at hj
    obtain ⟨y, hy, rfl⟩ := Option.map_eq_some_iff.1 hj
    rw [addr_add0]
    exact OR_cell hm j y hy
  · intro u hu
    obtain ⟨y, _, rfl⟩ := List.mem_map.1 hu
    rfl
  · intro v' w' hown' hg _
    obtain ⟨A', c', rfl⟩ := own_form hown'
    refine h A' c' w' ⟨?_, fun y hy => ?_⟩ (own_below hown.1 hg hbase)
    · rw [List.length_append, List.map_append]
      exact hown'
    · rcases List.mem_append.1 hy with hy | hy
      · exact OI_keepR (hown.2 y hy) hown.1 hg
      · exact OI_keepR (hm.2 y hy) hown.1 hg
theorem OR_blank (w : World) (ob base : Nat) (hb : ob ≤ w.heap.size) : OR ob base (w.alloc (.cells #[] 27)) (some ⟨w.heap.size, 0, none⟩) 0 [] := ⟨own_blank w _ 1 ob hb, fun x hx => by simp at hx⟩
theorem OR_one (w : World) (ob base : Nat) (x : Rw) (hb : ob ≤ w.heap.size) (hx : OI base w x.1 x.2.2 x.2.1) : OR ob base (w.alloc (.cells #[rowV x] 27)) (some ⟨w.heap.size, 0, none⟩) 1 [x] :=
  ⟨⟨by simp, .inr ⟨w.heap.size, 1, #[rowV x], rfl, hb, heap_alloc_new w _, Nat.le_refl _, by unfold maxLen; simp, by simp, by simp⟩⟩, fun y hy => by
    obtain rfl : y = x := by simpa using hy
    exact OI_alloc hx _⟩
def WaysPost (base : Nat) (w : World) (ls : List (List Int)) (e : Ending) (w' : World) : Prop :=
  ∃ (A : Option Addr) (c : Nat) (xs : List Rw), e = .returned (.slice A xs.length c) ∧ OR w.heap.size base w' A c xs ∧ xs.map (fun x => x.2.1) = ls ∧ Below w.heap.size w w'
theorem pow_bd {m k : Nat} (hm : m ≤ 3) (hk : k ≤ 5) : m ^ k ≤ 243 := Nat.le_trans (Nat.pow_le_pow_left hm k) (Nat.pow_le_pow_right (by omega) hk)

set_option maxHeartbeats 4000000 in
set_option maxRecDepth 100000 in
theorem spec_l9Ways (m : Nat) (hm : m ≤ 3) : ∀ (k : Nat), k ≤ 5 → ∀ (bs : List Int) (bb d n base : Nat) (w : World), bs.length + k = n → n ≤ 5 → OI base w (some ⟨bb, 0, none⟩) d bs → base ≤ w.heap.size →
    Calls Tryz.prog 202 #[.slice (some ⟨bb, 0, none⟩) bs.length d, .int .i64 (n : Int), .int .i64 (m : Int)] w (WaysPost base w (waysF m k bs)) := by
  intro k
  induction k with
  | zero =>
    intro hk bs bb d n base w hn hn5 h hb
    have heq : ((bs.length : Int) == (n : Int)) = true := by rw [beq_iff_eq]; omega
    have hO := OR_one w w.heap.size base (some ⟨bb, 0, none⟩, bs, d) (Nat.le_refl _) h
    have HO := Lib.hid hO
    clear hO
    go_enter Tryz.func202, Tryz.ntmps202
    go_wp2_with fail
    go_ret
    exact ⟨_, 1, [(some ⟨bb, 0, none⟩, bs, d)], rfl, HO.out, rfl, bal (Below.refl _ _) _⟩
  | succ k ih =>
    intro hk bs bb d n base w hn hn5 h hb
    have heq : ((bs.length : Int) == (n : Int)) = false := beq_eq_false_iff_ne.2 (by omega)
    have IH := Lib.hid (ih (by omega))
    have hpb := pow_bd hm (show k ≤ 5 by omega)
    have hbs5 : bs.length ≤ 5 := by omega
    clear ih
    go_enter Tryz.func202, Tryz.ntmps202
    go_wp2_with fail
    go_loopw [7, 8] (fun v i wr => ∃ (q : Nat) (A : Option Addr) (c : Nat) (xs : List Rw), i = .int .i64 (q : Int) ∧ v = .slice A xs.length c ∧ q ≤ m ∧ OR w.heap.size base wr A c xs ∧ Hid (xs.map (fun x => x.2.1) = waysTo m k bs q) ∧ Below w.heap.size w wr) (fun _ i _ => m - (intOf i).toNat)
    case atStart => exact ⟨0, _, 0, [], rfl, rfl, by omega, OR_blank w w.heap.size base (Nat.le_refl _), rfl, bal (Below.refl _ _) _⟩
    case round =>
      obtain ⟨q, A, c, xs, rfl, rfl, hq, hO, hxs, hbr⟩ := hrel
      have hxl : xs.length ≤ 1000 := by
        have := congrArg List.length hxs.out
        rw [List.length_map, waysTo_len] at this
        rw [this]
        have : q * m ^ k ≤ 3 * 243 := Nat.mul_le_mul (by omega) hpb
        omega
      by_cases hlt : (q : Int) < (m : Int)
      · have hnx : Hid (waysTo m k bs (q + 1) = waysTo m k bs q ++ waysF m k (bs ++ [(q : Int)])) := waysTo_succ m k bs q
        have hbr0 : base ≤ wr.heap.size := Nat.le_trans hb hbr.size
        have hI := (OI_keep h hbr).is
        go_wp2_with (first
          | (at_builtin; refine wpList_app_ints' _ rfl (.tmp 22) (.tmp 23) rfl wr.heap.size (some ⟨wr.heap.size, 0, none⟩) [] 0 0 rfl rfl (OI_blank wr _ (Nat.le_refl _)) ⟨bb, 0, none⟩ bs.length d bs rfl rfl (hI.keep (bal (Below.refl _ _) _)) (by simp) (by omega) (by simp) ?_; intro A1 c1 w1 o1 g1 b1; rw [List.nil_append] at o1; have B1 : Below wr.heap.size wr w1 := (bal (Below.refl _ _) _).trans b1)
          | (at_builtin; refine wpList_app_int' _ rfl (.tmp 24) (.tmp 26) rfl wr.heap.size A1 bs _ c1 (by simp) rfl (OI_alloc o1 _) w1.heap.size 1 (q : Int) 3 rfl (heap_alloc_new w1 _) (by omega) (by have := B1.size; simp; omega) ?_; intro A2 c2 w2 o2 g2 b2; have B2 : Below wr.heap.size wr w2 := (bal B1 _).trans b2; obtain ⟨b2', rfl, _, _⟩ := OI_addr o2 (by simp)))
        have hl1 : (bs ++ [(q : Int)]).length = bs.length + 1 := by simp
        have K := IH.out (bs ++ [(q : Int)]) b2' c2 n base w2 (by rw [hl1]; omega) hn5 (own_base o2 hbr0) (Nat.le_trans hbr0 B2.size)
        rw [hl1] at K
        refine K.mono ?_
        clear K
        rintro e w3 ⟨A3, c3, ys, rfl, o3, hys, b3⟩
        have B3 := bthru B2 b3
        have hO3 := OR_keep hO B3
        have hyl : ys.length = m ^ k := by
          have := congrArg List.length hys
          rwa [List.length_map, waysF_len] at this
        have hyp : 0 < m ^ k := Nat.pow_pos (by omega)
        obtain ⟨b3', rfl, _, _⟩ := OR_addr o3 (by rw [hyl]; exact hyp)
        have hnx2 : Hid ((xs ++ ys).map (fun x => x.2.1) = waysTo m k bs (q + 1)) := by rw [Hid, List.map_append, hxs.out, hys, hnx.out]
        have hyl2 : ys.length ≤ 243 := by omega
        clear hys hyl hyp hO o1 o2
        go_wp2_with (at_builtin; refine wpList_app_rows _ rfl _ _ rfl w.heap.size w2.heap.size base A xs c rfl hO3 b3' c3 ys rfl o3 (by omega) (by omega) (Nat.le_trans hbr.size B3.size) ?_; intro A4 c4 w4 o4 b4)
        go_roundw
        case rel => exact ⟨q + 1, A4, c4, xs ++ ys, by go_num, by rw [List.length_append], by omega, o4, hnx2, (bthru hbr B3).trans b4⟩
        case measure => simp [intOf]; omega
      · obtain rfl : q = m := by omega
        go_wp2_with fail
        go_ret
        exact ⟨A, c, xs, rfl, hO, hxs.out, hbr⟩

set_option maxHeartbeats 4000000 in
set_option maxRecDepth 100000 in
theorem spec_PackAny (A : Option Addr) (l : List Tk) (c : Nat) (m p : Int) (w : World) (h : TS w A l) (hm : l.length ≤ maxLen) (_hlc : l.length ≤ c) :
    Calls Tryz.prog 162 #[.slice A l.length c, .int .i64 m, .int .i64 p] w (RetIB w (anyL l m p) (anyP l m p).isSome) := by
  cases hS : setVld l with
  | false =>
    have hv : anyP l m p = none := by simp [anyP, hS]
    have hv2 : anyL l m p = [] := by simp [anyL, hv]
    rw [hv, hv2]
    clear hv hv2
    go_enter Tryz.func162, Tryz.ntmps162
    go_wp2_with fail
    refine (spec_SetValid A l c _ h hm).mono ?_
    rw [hS]
    rintro e w1 ⟨rfl, b1⟩
    go_wp2_with fail
    go_ret2
    exact ⟨_, 0, rfl, OI_blank _ _ b1.size, bal b1 _⟩
  | true =>
    have hl5 := (setVld_all hS).1
    have HS := Lib.hid hS
    cases hn : num3 m with
    | false =>
      have hv : anyP l m p = none := by
        have : num3B m = false := hn
        simp [anyP, this]
      have hv2 : anyL l m p = [] := by simp [anyL, hv]
      rw [hv, hv2]
      clear hv hv2 hS
      go_enter Tryz.func162, Tryz.ntmps162
      go_wp2_with fail
      refine (spec_SetValid A l c _ h hm).mono ?_
      rw [HS.out]
      rintro e w1 ⟨rfl, b1⟩
      go_wp2_with fail
      refine (spec_l9Number m _).mono ?_
      rw [hn]
      rintro e w2 ⟨rfl, rfl⟩
      go_wp2_with fail
      go_ret2
      exact ⟨_, 0, rfl, OI_blank _ _ b1.size, bal b1 _⟩
    | true =>
      have h13 : 1 ≤ m ∧ m ≤ 3 := by simpa [num3] using hn
      obtain ⟨h1m, h3m⟩ := h13
      obtain ⟨M, rfl⟩ : ∃ M : Nat, m = (M : Int) := ⟨m.toNat, (Int.toNat_of_nonneg (by omega)).symm⟩
      obtain ⟨R, hR⟩ : ∃ R, firstK (fun k => pkH l (way M l.length k) (M : Int) p) (M ^ l.length - 0) 0 = R := ⟨_, rfl⟩
      have hany : anyP l (M : Int) p = R.map (way M l.length) := by
        have : num3B (M : Int) = true := hn
        simp only [anyP, hS, this, Bool.and_self, if_true, anyK, Int.toNat_natCast]
        rw [Nat.sub_zero] at hR
        rw [hR]
      have HA := Lib.hid hany
      have HR := Lib.hid hR
      have HN := Lib.hid hn
      have hwe := Lib.hid (waysF_eq M (by omega) l.length (by omega))
      clear hS hany hR hn
      go_enter Tryz.func162, Tryz.ntmps162
      go_wp2_with fail
      refine (spec_SetValid A l c _ h hm).mono ?_
      rw [HS.out]
      rintro e w1 ⟨rfl, b1⟩
      go_wp2_with fail
      refine (spec_l9Number (M : Int) _).mono ?_
      rw [HN.out]
      rintro e w2 ⟨rfl, rfl⟩
      go_wp2_with fail
      refine (spec_l9Ways M (by omega) l.length (by omega) [] w1.heap.size 0 l.length w1.heap.size _ (by simp) (by omega) (OI_blank w1 _ (Nat.le_refl _)) (by simp)).mono ?_
      rintro e w3 ⟨A3, c3, xs, rfl, o3, hxs, b3⟩
      rw [hwe.out] at hxs
      have hxl : xs.length = M ^ l.length := by
        have := congrArg List.length hxs
        simpa using this
      have hpb := pow_bd (show M ≤ 3 by omega) (show l.length ≤ 5 by omega)
      have B3 : Below w.heap.size w w3 := bthru (bal b1 _) b3
      have hxk : Hid (∀ k, (hk : k < xs.length) → xs[k].2.1 = way M l.length k) := by
        intro k hk
        have h1 : (xs.map (fun x => x.2.1))[k]? = some xs[k].2.1 := by simp [hk]
        rw [hxs] at h1
        have hk2 : k < M ^ l.length := by omega
        simpa [hk2] using h1.symm
      have HXL := Lib.hid hxl
      have hx243 : xs.length ≤ 243 := by omega
      clear hxs hxl hpb
      go_wp2_with fail
      go_loopw [9] (fun i wr => ∃ k : Nat, i = .int .i64 (k : Int) ∧ k ≤ xs.length ∧ Hid (firstK (fun k => pkH l (way M l.length k) (M : Int) p) (M ^ l.length - k) k = R) ∧ Below w3.heap.size w3 wr) (fun i _ => xs.length - (intOf i).toNat)
      case atStart => exact ⟨0, rfl, by omega, HR.out, Below.refl _ _⟩
      case round =>
        obtain ⟨k, rfl, hk, hfk, hbr⟩ := hrel
        have hB := bthru B3 hbr
        by_cases hlt : k < xs.length
        · obtain ⟨b, rfl, _, hbl⟩ := OR_addr o3 (by omega)
          have hst := firstK_step (fun k => pkH l (way M l.length k) (M : Int) p) (M ^ l.length) k (by rw [← HXL.out]; exact hlt)
          have kc := OR_cell o3 k xs[k] (List.getElem?_eq_getElem hlt)
          have hOk := o3.2 xs[k] (List.getElem_mem hlt)
          have hwk := hxk.out k hlt
          have kc := (hbr.cell (p := ⟨b, k, none⟩) hbl).trans kc
          have hOk := OI_keep hOk hbr
          generalize xs[k] = x at kc hOk hwk
          obtain ⟨Bk, W, dk⟩ := x
          simp only at hOk hwk
          subst hwk
          simp only [rowV] at kc
          have K := spec_PackHolds A Bk l (way M l.length k) c dk (M : Int) p wr (h.keep hB) hOk.is hm
          cases hp : pkH l (way M l.length k) (M : Int) p with
          | true =>
            rw [hp] at K
            have hRk : R = some k := by rw [← hfk.out, hst, hp]; rfl
            have hr1 : anyP l (M : Int) p = some (way M l.length k) := by rw [HA.out, hRk]; rfl
            have hr2 : Hid (anyL l (M : Int) p = way M l.length k ∧ (anyP l (M : Int) p).isSome = true) := by simp [Hid, anyL, hr1]
            clear hst hp hRk hr1
            go_wp2_with fail
            refine K.mono ?_
            rintro e w4 ⟨rfl, b4⟩
            have kc := (b4.cell (p := ⟨b, k, none⟩) (Nat.lt_of_lt_of_le hbl hbr.size)).trans kc
            go_wp2_with fail
            go_ret2
            rw [hr2.out.1, hr2.out.2]
            exact ⟨Bk, dk, rfl, own_base (OI_keep hOk b4) b1.size, bthru hB b4⟩
          | false =>
            rw [hp] at K
            have hnx : Hid (firstK (fun k => pkH l (way M l.length k) (M : Int) p) (M ^ l.length - (k + 1)) (k + 1) = R) := by
              rw [Hid, ← hfk.out, hst, hp]
              rfl
            clear hst hp hfk
            go_wp2_with fail
            refine K.mono ?_
            rintro e w4 ⟨rfl, b4⟩
            go_wp2_with fail
            go_roundw
            case rel => exact ⟨k + 1, by go_num, by omega, hnx, bthru hbr b4⟩
            case measure => simp [intOf]; omega
        · have hRn : R = none := by
            have : M ^ l.length - k = 0 := by rw [← HXL.out]; omega
            rw [← hfk.out, this]
            rfl
          have hr2 : Hid (anyL l (M : Int) p = [] ∧ (anyP l (M : Int) p).isSome = false) := by
            have e : anyP l (M : Int) p = none := by rw [HA.out, hRn]; rfl
            simp [Hid, anyL, e]
          clear hRn
          go_wp2_with fail
          go_ret2
          rw [hr2.out.1, hr2.out.2]
          exact ⟨_, 0, rfl, OI_blank _ _ hB.size, bal hB _⟩
end Go.Proofs.YtmlbjcjihmfcjaaGreatDoor
