/-
  The reference's machine: deadlines, which of two jobs goes first, the policy's factor.
  The reference's machine: its rows in memory (three of integers, one of works), appended to and stored into.
  The reference's machine: the jobs of a tick come (l7Come).
  The reference's machine: needs become high (l7Switch).
  The reference's machine: the row of works appended to, cut, stored into.
  By place the factor does not count: in plain Lean.
-/
import Derived.Test.YtmkjmancmiphfaaGreatDoorRa11
import Derived.Test.YtmkjmancmiphfaaGreatDoorRa09
import Derived.Test.YtmkjmancmiphfaaGreatDoorRa13
import Derived.Test.YtmkjmancmiphfaaGreatDoorRa07
import Derived.Test.YtmkjmancmiphfaaGreatDoorRa05
namespace Go.Proofs.YtmkjmancmiphfaaGreatDoor
section
open Go.RowKit

/-- The state as a value. -/
abbrev stV (e t s wv : Value) (hi : Bool) (nx num den : Int) : Value := .agg #[e, t, s, .bool hi, wv, .int .i64 nx, .int .i64 num, .int .i64 den]
set_option maxHeartbeats 4000000 in
theorem spec_l7Key {A : Option Addr} {l : List Tk} {c : Nat} {js : List Jb} {num den : Int} (V : JobsIn l js num den) (i : Nat) (hil : i < js.length) (hi : Bool) (e t s wv : Value) (nx : Int) (w : World) (hTS : TS w A l) :
    Calls Tryz.prog 113 #[.slice A l.length c, (jobAt js i).val, stV e t s wv hi nx num den] w fun e w' => e = .returned (.int .i64 (vkey l js num den hi i)) ∧ Below w.heap.size w w' := by
  obtain ⟨a0, a1, ht, hk, _, _⟩ := V.job i hil
  have hev := vld_bd (tkAt_vld V.v hk)
  obtain ⟨v1, v2, v3, v4, v5⟩ := hev
  obtain ⟨tb, toff, rfl, htb, htc⟩ := hTS (by omega)
  obtain ⟨c0, c1, c2, c3, c4⟩ := cells_tk htc (jK js i) hk
  have hv : vkey l js num den hi i = if (tkAt l (jK js i)).crit && !hi then (jobAt js i).at_ * den + (tkAt l (jK js i)).due * num else ((jobAt js i).at_ + (tkAt l (jK js i)).due) * den := rfl
  have HV := Lib.hid hv
  have n0 := V.n0
  have n1 := V.n1
  have d0 := V.d0
  have d1 := V.d1
  clear hv htc V
  generalize jobAt js i = j at a0 a1 ht HV
  generalize jK js i = x at hk v1 v2 v3 v4 v5 c0 c1 c2 c3 c4 ht HV
  generalize tkAt l x = t at v1 v2 v3 v4 v5 c0 c1 c2 c3 c4 HV
  obtain ⟨q, a, n⟩ := j
  obtain ⟨tl, th, td, te, tc⟩ := t
  simp only at a0 a1 ht HV v1 v2 v3 v4 v5 c0 c1 c2 c3 c4
  subst ht
  have hxI : (x : Int) < (l.length : Int) := by omega
  have p1 := mul_bd a0 a1 d0 d1 (by omega)
  have p2 := mul_bd n0 n1 (show 0 ≤ td by omega) (show td ≤ 20 by omega) (by omega)
  have p3 := mul_bd (show 0 ≤ a + td by omega) (show a + td ≤ 220 by omega) d0 d1 (by omega)
  obtain ⟨p10, p11⟩ := p1
  obtain ⟨p20, p21⟩ := p2
  obtain ⟨p30, p31⟩ := p3
  cases tc with
  | true =>
    cases hi with
    | false =>
      have qw1 : IntKind.i64.wrap (a * den) = a * den := IntWalk.i64_in _ (by omega)
      have qw2 : IntKind.i64.wrap (num * td) = num * td := IntWalk.i64_in _ (by omega)
      have qw3 : IntKind.i64.wrap (a * den + num * td) = a * den + num * td := IntWalk.i64_in _ (by omega)
      have HV2 : Hid (vkey l js num den false i = a * den + num * td) := by rw [Hid, HV.out, Int.mul_comm td num]; rfl
      go_enter Tryz.func113, Tryz.ntmps113
      go_wp2_with fail
      go_ret
      exact ⟨by rw [HV2.out]; rfl, bal (bal (bal (Below.refl _ _) _) _) _⟩
    | true =>
      have qw1 : IntKind.i64.wrap (a + td) = a + td := IntWalk.i64_in _ (by omega)
      have qw2 : IntKind.i64.wrap ((a + td) * den) = (a + td) * den := IntWalk.i64_in _ (by omega)
      have HV2 : Hid (vkey l js num den true i = (a + td) * den) := HV.out
      go_enter Tryz.func113, Tryz.ntmps113
      go_wp2_with fail
      go_ret
      exact ⟨by rw [HV2.out]; rfl, bal (bal (bal (Below.refl _ _) _) _) _⟩
  | false =>
    have qw1 : IntKind.i64.wrap (a + td) = a + td := IntWalk.i64_in _ (by omega)
    have qw2 : IntKind.i64.wrap ((a + td) * den) = (a + td) * den := IntWalk.i64_in _ (by omega)
    have HV2 : Hid (vkey l js num den hi i = (a + td) * den) := HV.out
    go_enter Tryz.func113, Tryz.ntmps113
    go_wp2_with fail
    go_ret
    exact ⟨by rw [HV2.out]; rfl, bal (bal (bal (Below.refl _ _) _) _) _⟩
theorem blk8 {w : World} {b : Nat} {v0 v1 v2 v3 v4 v5 v6 v7 : Value} {t : TypeId} (h : w.heap[b]? = some (.cells #[v0, v1, v2, v3, v4, v5, v6, v7] t (0, 0))) :
    w.cell? ⟨b, 0, none⟩ = some v0 ∧ w.cell? ⟨b, 1, none⟩ = some v1 ∧ w.cell? ⟨b, 2, none⟩ = some v2 ∧ w.cell? ⟨b, 3, none⟩ = some v3 ∧ w.cell? ⟨b, 4, none⟩ = some v4 ∧ w.cell? ⟨b, 5, none⟩ = some v5 ∧ w.cell? ⟨b, 6, none⟩ = some v6 ∧ w.cell? ⟨b, 7, none⟩ = some v7 := by
  refine ⟨?_, ?_, ?_, ?_, ?_, ?_, ?_, ?_⟩ <;> (rw [Lib.cell_of_heap h]; rfl)
set_option maxHeartbeats 4000000 in
theorem spec_l7First {A : Option Addr} {l : List Tk} {c : Nat} {js : List Jb} {num den pol : Int} (V : JobsIn l js num den) (a b : Nat) (hal : a < js.length) (hbl : b < js.length) (hi : Bool) (e t s wv : Value) (nx : Int) (hp : pol = 0 ∨ pol = 1) (w : World) (hTS : TS w A l) :
    Calls Tryz.prog 69 #[.slice A l.length c, (jobAt js a).val, (jobAt js b).val, .int .i64 pol, stV e t s wv hi nx num den] w fun e w' => e = .returned (.bool (goesB l js num den pol hi a b)) ∧ Below w.heap.size w w' := by
  have K1 := fun w => spec_l7Key (A := A) (c := c) V a hal hi e t s wv nx w
  have K2 := fun w => spec_l7Key (A := A) (c := c) V b hbl hi e t s wv nx w
  have HG : Hid (goesB l js num den pol hi a b = if pol = 1 ∧ vkey l js num den hi a ≠ vkey l js num den hi b then decide (vkey l js num den hi a < vkey l js num den hi b) else if (jobAt js a).task = (jobAt js b).task then decide ((jobAt js a).at_ < (jobAt js b).at_) else decide ((jobAt js a).task < (jobAt js b).task)) := rfl
  generalize goesB l js num den pol hi a b = G at HG ⊢
  clear V hal hbl
  generalize vkey l js num den hi a = x at K1 HG
  generalize vkey l js num den hi b = y at K2 HG
  generalize jobAt js a = u at K1 HG ⊢
  generalize jobAt js b = v at K2 HG ⊢
  obtain ⟨q, m, n⟩ := u
  obtain ⟨q', m', n'⟩ := v
  dsimp only at HG K1 K2
  have bx := bal (bal (bal (Below.refl w.heap.size w) (.cells #[.int .i64 q, .int .i64 m, .int .i64 n] 60)) (.cells #[.int .i64 q', .int .i64 m', .int .i64 n'] 60)) (.cells #[e, t, s, .bool hi, wv, .int .i64 nx, .int .i64 num, .int .i64 den] 65)
  rcases hp with rfl | rfl
  · have HG0 : G = if q = q' then decide (m < m') else decide (q < q') := by
      rw [HG.out, if_neg (fun h => by have := h.1; omega)]
    clear HG K1 K2
    by_cases hq : q = q'
    · have e1 : (q == q') = true := by simpa using hq
      rw [if_pos hq] at HG0
      have HG1 := Lib.hid HG0
      clear hq HG0
      go_enter Tryz.func69, Tryz.ntmps69
      go_wp2_with fail
      go_ret
      exact ⟨by rw [HG1.out]; rfl, bx⟩
    · have e1 : (q == q') = false := by simpa using hq
      rw [if_neg hq] at HG0
      have HG1 := Lib.hid HG0
      clear hq HG0
      go_enter Tryz.func69, Tryz.ntmps69
      go_wp2_with fail
      go_ret
      exact ⟨by rw [HG1.out]; rfl, bx⟩
  · have g1 : (((w.alloc (.cells #[.int .i64 q, .int .i64 m, .int .i64 n] 60)).alloc (.cells #[.int .i64 q', .int .i64 m', .int .i64 n'] 60)).alloc (.cells #[e, t, s, .bool hi, wv, .int .i64 nx, .int .i64 num, .int .i64 den] 65)).heap[w.heap.size]? = some (.cells #[.int .i64 q, .int .i64 m, .int .i64 n] 60 (0, 0)) :=
      (Below.heap_alloc _ _ _ (by simp; omega)).trans ((Below.heap_alloc _ _ _ (by simp)).trans (heap_alloc_new w _))
    have g2 : (((w.alloc (.cells #[.int .i64 q, .int .i64 m, .int .i64 n] 60)).alloc (.cells #[.int .i64 q', .int .i64 m', .int .i64 n'] 60)).alloc (.cells #[e, t, s, .bool hi, wv, .int .i64 nx, .int .i64 num, .int .i64 den] 65)).heap[w.heap.size + 1]? = some (.cells #[.int .i64 q', .int .i64 m', .int .i64 n'] 60 (0, 0)) := by
      have := (Below.heap_alloc ((w.alloc (.cells #[.int .i64 q, .int .i64 m, .int .i64 n] 60)).alloc (.cells #[.int .i64 q', .int .i64 m', .int .i64 n'] 60)) (.cells #[e, t, s, .bool hi, wv, .int .i64 nx, .int .i64 num, .int .i64 den] 65) _ (by simp)).trans (heap_alloc_new (w.alloc (.cells #[.int .i64 q, .int .i64 m, .int .i64 n] 60)) (.cells #[.int .i64 q', .int .i64 m', .int .i64 n'] 60 (0, 0)))
      simpa using this
    have g3 := heap_alloc_new ((w.alloc (.cells #[.int .i64 q, .int .i64 m, .int .i64 n] 60)).alloc (.cells #[.int .i64 q', .int .i64 m', .int .i64 n'] 60)) (.cells #[e, t, s, .bool hi, wv, .int .i64 nx, .int .i64 num, .int .i64 den] 65 (0, 0))
    have hsz : ((w.alloc (.cells #[.int .i64 q, .int .i64 m, .int .i64 n] 60)).alloc (.cells #[.int .i64 q', .int .i64 m', .int .i64 n'] 60)).heap.size = w.heap.size + 1 + 1 := by simp
    rw [hsz] at g3
    go_enter Tryz.func69, Tryz.ntmps69
    go_upto_region 2 with fail
    generalize World.alloc (World.alloc (World.alloc w _) _) _ = wa at bx g1 g2 g3 ⊢
    have hTa := hTS.keep bx
    obtain ⟨a0, a1, a2⟩ := blk3 g1
    obtain ⟨b0, b1, b2⟩ := blk3 g2
    obtain ⟨s0, s1, s2, s3, s4, s5, s6, s7⟩ := blk8 g3
    go_wp2_with fail
    refine (K1 _ hTa).mono ?_
    rintro _ w1 ⟨rfl, b1'⟩
    have h1 := (b1'.block _ (Array.getElem?_eq_some_iff.1 g1).1).trans g1
    have h2 := (b1'.block _ (Array.getElem?_eq_some_iff.1 g2).1).trans g2
    have h3 := (b1'.block _ (Array.getElem?_eq_some_iff.1 g3).1).trans g3
    have hT1 := hTa.keep b1'
    have B1 := bthru bx b1'
    clear a0 a1 a2 b0 b1 b2 s0 s1 s2 s3 s4 s5 s6 s7 g1 g2 g3
    obtain ⟨b0, b1, b2⟩ := blk3 h2
    obtain ⟨s0, s1, s2, s3, s4, s5, s6, s7⟩ := blk8 h3
    go_wp2_with fail
    refine (K2 _ hT1).mono ?_
    rintro _ w2 ⟨rfl, b2'⟩
    have k1 := (b2'.block _ (Array.getElem?_eq_some_iff.1 h1).1).trans h1
    have k2 := (b2'.block _ (Array.getElem?_eq_some_iff.1 h2).1).trans h2
    have B2 := bthru B1 b2'
    clear b0 b1 b2 s0 s1 s2 s3 s4 s5 s6 s7 h1 h2 h3
    obtain ⟨a0, a1, a2⟩ := blk3 k1
    obtain ⟨b0, b1, b2⟩ := blk3 k2
    by_cases hxy : x = y
    · have e0 : (x == y) = true := by simpa using hxy
      have HG0 : G = if q = q' then decide (m < m') else decide (q < q') := by
        rw [HG.out, if_neg (fun h => h.2 hxy)]
      clear HG hxy
      by_cases hq : q = q'
      · have e1 : (q == q') = true := by simpa using hq
        rw [if_pos hq] at HG0
        have HG1 := Lib.hid HG0
        clear hq HG0
        go_wp2_with fail
        go_ret
        exact ⟨by rw [HG1.out]; rfl, B2⟩
      · have e1 : (q == q') = false := by simpa using hq
        rw [if_neg hq] at HG0
        have HG1 := Lib.hid HG0
        clear hq HG0
        go_wp2_with fail
        go_ret
        exact ⟨by rw [HG1.out]; rfl, B2⟩
    · have e0 : (x == y) = false := by simpa using hxy
      have HG1 : Hid (G = decide (x < y)) := by rw [Hid, HG.out, if_pos (by simpa using hxy)]
      clear HG hxy
      go_wp2_with fail
      go_ret
      exact ⟨by rw [HG1.out]; rfl, B2⟩
/-- The factor as the reference has it. -/
def polN (l : List Tk) (pol : Int) : Int := if pol = 0 then 1 else facN l
def polD (l : List Tk) (pol : Int) : Int := if pol = 0 then 1 else facD l
def polB (l : List Tk) (pol : Int) : Bool := if pol = 0 then true else facB l && decide (pol = 1)
set_option maxHeartbeats 4000000 in
theorem spec_l7Policy (A : Option Addr) (l : List Tk) (c : Nat) (pol : Int) (w : World) (h : TS w A l) (hm : l.length ≤ maxLen) :
    Calls Tryz.prog 31 #[.slice A l.length c, .int .i64 pol] w fun e w' => e = .returned (.tuple #[sv (polN l pol) (polD l pol), .bool (polB l pol)]) ∧ Below w.heap.size w w' := by
  by_cases h0 : pol = 0
  · have e0 : (pol == 0) = true := by simpa using h0
    have HN : Hid (polN l pol = 1) := by simp [Hid, polN, h0]
    have HD : Hid (polD l pol = 1) := by simp [Hid, polD, h0]
    have HB : Hid (polB l pol = true) := by simp [Hid, polB, h0]
    clear h0
    go_enter Tryz.func31, Tryz.ntmps31
    go_wp2_with fail
    refine (spec_l5One _).mono ?_
    rintro e w1 ⟨rfl, b1⟩
    have r0 := (b1.block _ (by simp)).trans (heap_alloc_new w (.cells #[.int .i64 0, .int .i64 0] 54 (0, 0)))
    have B1 := bthru (bal (Below.refl w.heap.size w) _) b1
    obtain ⟨x0, x1, xf⟩ := blk_two r0
    go_wp2_with fail
    have y := blk_set2 r0 (.int .i64 1) (.int .i64 1)
    obtain ⟨y0, y1, yf⟩ := blk_two y
    refine bodyPost_ret (v := .tuple #[sv 1 1, .bool true]) (by simp [results, Tryz.results31, go_sem, y0, y1]) rfl ⟨by rw [HN.out, HD.out, HB.out], ?_⟩
    exact (B1.setCell (p := ⟨w.heap.size, 0, none⟩) (Nat.le_refl _) _).setCell (p := ⟨w.heap.size, 1, none⟩) (Nat.le_refl _) _
  · have e0 : (pol == 0) = false := by simpa using h0
    have HN : Hid (polN l pol = facN l) := by simp [Hid, polN, h0]
    have HD : Hid (polD l pol = facD l) := by simp [Hid, polD, h0]
    have HB : Hid (polB l pol = (facB l && decide (pol = 1))) := by simp [Hid, polB, h0]
    clear h0
    go_enter Tryz.func31, Tryz.ntmps31
    go_wp2_with fail
    refine (spec_FactorOf A l c _ (h.keep (bal (Below.refl _ _) _)) hm).mono ?_
    rw [facV_eq]
    rintro e w1 ⟨rfl, b1⟩
    have r0 := (b1.block _ (by simp)).trans (heap_alloc_new w (.cells #[.int .i64 0, .int .i64 0] 54 (0, 0)))
    have B1 := bthru (bal (Below.refl w.heap.size w) _) b1
    go_upto_region 4 with fail
    have g6 := heap_alloc_new w1 (.cells #[.int .i64 (facN l), .int .i64 (facD l)] 54 (0, 0))
    have g0 := (Below.heap_alloc w1 (.cells #[.int .i64 (facN l), .int .i64 (facD l)] 54) _ (Array.getElem?_eq_some_iff.1 r0).1).trans r0
    have B2 := bal B1 (.cells #[.int .i64 (facN l), .int .i64 (facD l)] 54)
    generalize World.alloc w1 _ = w2 at g6 g0 B2 ⊢
    obtain ⟨x0, x1, xf⟩ := blk_two g0
    obtain ⟨z0, z1, zf⟩ := blk_two g6
    have e9 : decide (pol = 1) = (pol == 1) := by by_cases h : pol = 1 <;> simp [h]
    cases hB : facB l with
    | true =>
      go_wp2_with fail
      have y := blk_set2 g0 (.int .i64 (facN l)) (.int .i64 (facD l))
      obtain ⟨y0, y1, yf⟩ := blk_two y
      refine bodyPost_ret (v := .tuple #[sv (facN l) (facD l), .bool (pol == 1)]) (by simp [results, Tryz.results31, go_sem, y0, y1]) rfl ⟨by rw [HN.out, HD.out, HB.out, hB, e9]; rfl, ?_⟩
      exact (B2.setCell (p := ⟨w.heap.size, 0, none⟩) (Nat.le_refl _) _).setCell (p := ⟨w.heap.size, 1, none⟩) (Nat.le_refl _) _
    | false =>
      go_wp2_with fail
      have y := blk_set2 g0 (.int .i64 (facN l)) (.int .i64 (facD l))
      obtain ⟨y0, y1, yf⟩ := blk_two y
      refine bodyPost_ret (v := .tuple #[sv (facN l) (facD l), .bool false]) (by simp [results, Tryz.results31, go_sem, y0, y1]) rfl ⟨by rw [HN.out, HD.out, HB.out, hB]; rfl, ?_⟩
      exact (B2.setCell (p := ⟨w.heap.size, 0, none⟩) (Nat.le_refl _) _).setCell (p := ⟨w.heap.size, 1, none⟩) (Nat.le_refl _) _
end

section
open Go.RowKit

abbrev WT : TypeId := 109
abbrev ST : TypeId := 65
theorem wt1 : WT ≠ 3 := by decide
theorem st1 : ST ≠ 3 := by decide
theorem st2 : ST ≠ WT := by decide
def flatW (wk : List (Nat × Int)) : List Value := wk.flatMap (fun p => [.int .i64 (p.1 : Int), .int .i64 p.2])
theorem flatW_append (l m : List (Nat × Int)) : flatW (l ++ m) = flatW l ++ flatW m := by simp [flatW]
theorem flatW_at (l : List (Nat × Int)) (k : Nat) (hk : k < l.length) : (flatW l)[k * 2]? = some (.int .i64 (l[k].1 : Int)) ∧ (flatW l)[k * 2 + 1]? = some (.int .i64 l[k].2) := by
  induction l generalizing k with
  | nil => simp at hk
  | cons t l ih =>
    have e : flatW (t :: l) = (.int .i64 (t.1 : Int)) :: (.int .i64 t.2) :: flatW l := by simp [flatW]
    rw [e]
    cases k with
    | zero => exact ⟨rfl, rfl⟩
    | succ k =>
      have h1 : (k + 1) * 2 = k * 2 + 1 + 1 := by omega
      rw [h1]
      have := ih k (by simpa using hk)
      simpa using this
/-- A row of works of the call's own. -/
def OW (base : Nat) (w : World) (A : Option Addr) (c : Nat) (wk : List (Nat × Int)) : Prop := w.ownsRow base WT 2 (.slice A wk.length c) wk.length (flatW wk)
theorem OW_nil (base : Nat) (w : World) : OW base w none 0 [] := World.ownsRow_nil _ _ _ _
theorem OW_keep {base : Nat} {w w' : World} {A : Option Addr} {c : Nat} {l : List (Nat × Int)} (h : OW base w A c l) (hb : Below w.heap.size w w') : OW base w' A c l := own_keep h hb
theorem infoWork : (Tryz.prog.info? WT).map (fun i => (i.zero, i.size, i.bytes)) = some (some (.agg #[.int .i64 0, .int .i64 0]), 2, 16) := by kernel_rfl
theorem OW_cells {base : Nat} {w : World} {A : Option Addr} {c : Nat} {l : List (Nat × Int)} (h : OW base w A c l) (k : Nat) (hk : k < l.length) :
    ∃ b, A = some ⟨b, 0, none⟩ ∧ base ≤ b ∧ b < w.heap.size ∧ w.cell? ⟨b, k * 2, none⟩ = some (.int .i64 (l[k].1 : Int)) ∧ w.cell? ⟨b, k * 2 + 1, none⟩ = some (.int .i64 l[k].2) ∧ ∀ i, w.frozen? ⟨b, i, none⟩ = false := by
  have hh : OW base w A c l := h
  rcases h.2 with ⟨_, h0⟩ | ⟨g, cap, cur, hv, hg, hb, _⟩
  · omega
  · injection hv with hA hn hc
    subst hA
    have hc : ∀ j u, (flatW l)[j]? = some u → w.cell? ⟨g, j, none⟩ = some u := by
      intro j u hu
      have := World.ownsRow.cells hh (g := g) rfl j u hu
      have e : (⟨g, 0, none⟩ : Addr).add j = ⟨g, 0 + j, none⟩ := by unfold Addr.add; split <;> simp_all
      rw [e, Nat.zero_add] at this
      exact this
    exact ⟨g, rfl, hg, (Array.getElem?_eq_some_iff.1 hb).1, hc _ _ (flatW_at l k hk).1, hc _ _ (flatW_at l k hk).2, fun i => Lib.frozen_of_heap hb i⟩
/-- A work appended: it stays in its block, or lies in the block that is made now. -/
theorem wpList_app_work (w : World) {ops : Array Oper} {rest : List Oper} {o : Oper} {a : Act} {Q : Exit → Act → World → Prop} (hgd : o.guard = none) (s x : Operand)
    (ho : o.op = .call { callee := .builtin .append, args := #[s, x], argTypes := #[63, 63] })
    (base : Nat) (A : Option Addr) (l : List (Nat × Int)) (n c : Nat) (hn : l.length = n) (hs : a.eval s = .slice A n c) (hown : OW base w A c l)
    (b c1 : Nat) (y : Nat × Int) (ty : TypeId) (hx : a.eval x = .slice (some ⟨b, 0, none⟩) 1 c1) (hb : w.heap[b]? = some (.cells #[.int .i64 (y.1 : Int), .int .i64 y.2] ty (0, 0)))
    (hl : l.length ≤ 2000000) (hbase : base ≤ w.heap.size)
    (h : ∀ g c' w', OW base w' (some ⟨g, 0, none⟩) c' (l ++ [y]) → w.grownBy w' (Value.slice A n c).ownBlock → Below base w w' → wpList Tryz.prog ops Q rest (a.put o.dst (.slice (some ⟨g, 0, none⟩) (n + 1) c')) w') : wpList Tryz.prog ops Q (o :: rest) a w := by
  subst hn
  obtain ⟨i0, hi, hz0, hz1, hz2⟩ := info_parts infoWork
  refine wpList_append_lies w hgd s x 63 ho base WT i0 _ 2 16 Tryz.underlying63 hi hz0 hz1 hz2 rfl (by decide) (.slice A l.length c) l.length (flatW l) hs hown
    ⟨b, 0, none⟩ 1 c1 [.int .i64 (y.1 : Int), .int .i64 y.2] hx rfl ?_ ?_ (by omega) (by unfold maxLen; omega) (by omega) hbase _ rfl ?_
  · intro j u hj
    rw [addr_add0, cell_of_row w b j _ ty (0, 0) hb, ← Array.getElem?_toList]
    exact hj
  · intro u hu
    simp at hu
    rcases hu with rfl | rfl <;> rfl
  · intro g c' w' hown' hg _ _
    refine h g c' w' ?_ hg (own_below hown hg hbase)
    unfold OW
    rw [List.length_append, List.length_singleton, flatW_append]
    have e : flatW [y] = [.int .i64 (y.1 : Int), .int .i64 y.2] := by simp [flatW]
    rw [e]
    exact hown'
/-- An integer appended to a row that may be nil. -/
theorem wpList_app_intO (w : World) {ops : Array Oper} {rest : List Oper} {o : Oper} {a : Act} {Q : Exit → Act → World → Prop} (hgd : o.guard = none) (s x : Operand)
    (ho : o.op = .call { callee := .builtin .append, args := #[s, x], argTypes := #[27, 27] })
    (base : Nat) (A : Option Addr) (l : List Int) (n c : Nat) (hn : l.length = n) (hs : a.eval s = .slice A n c) (hown : OI base w A c l)
    (b c1 : Nat) (y : Int) (ty : TypeId) (hx : a.eval x = .slice (some ⟨b, 0, none⟩) 1 c1) (hb : w.heap[b]? = some (.cells #[.int .i64 y] ty (0, 0)))
    (hl : l.length ≤ 2000000) (hbase : base ≤ w.heap.size) (H : Nat) (hH : w.heap.size = H)
    (h : ∀ g c' w', OI base w' (some ⟨g, 0, none⟩) c' (l ++ [y]) → w.grownBy w' (Value.slice A n c).ownBlock → ((Value.slice A n c).ownBlock = some g ∨ g = H) → Below base w w' → wpList Tryz.prog ops Q rest (a.put o.dst (.slice (some ⟨g, 0, none⟩) (n + 1) c')) w') : wpList Tryz.prog ops Q (o :: rest) a w := by
  subst hn
  obtain ⟨i0, hi, hz0, hz1, hz2⟩ := info_parts infoIntB
  refine wpList_append_lies w hgd s x 27 ho base 3 i0 _ 1 8 Tryz.underlying27 hi hz0 hz1 hz2 rfl (by decide) (.slice A l.length c) l.length (l.map (.int .i64)) hs hown
    ⟨b, 0, none⟩ 1 c1 [.int .i64 y] hx rfl ?_ ?_ (by omega) (by unfold maxLen; omega) (by omega) hbase H hH ?_
  · intro j u hj
    rw [addr_add0, cell_of_row w b j _ ty (0, 0) hb, ← Array.getElem?_toList]
    exact hj
  · intro u hu
    simp at hu
    subst hu
    rfl
  · intro g c' w' hown' hg hat _
    refine h g c' w' ?_ hg hat (own_below hown hg hbase)
    unfold OI
    rw [List.length_append, List.length_singleton, List.map_append]
    exact hown'

def bk (A : Option Addr) : Option Nat := (Value.slice A 0 0).ownBlock
theorem bk_eq (A : Option Addr) (n c : Nat) : (Value.slice A n c).ownBlock = bk A := by
  cases A <;> rfl
/-- Two rows do not lie in one block. -/
def far (A B : Option Addr) : Prop := bk A = none ∨ bk A ≠ bk B
theorem far.symm {A B : Option Addr} (h : far A B) : far B A := by
  unfold far at h ⊢
  cases hb : bk B with
  | none => exact .inl rfl
  | some b =>
    rcases h with h | h
    · exact .inr (by rw [h]; simp)
    · exact .inr (fun e => h (by rw [← e, hb]))
theorem far_none (A : Option Addr) : far none A := .inl rfl
theorem OI_past {base : Nat} {w w' : World} {A : Option Addr} {c : Nat} {l : List Int} (h : OI base w A c l) {B : Option Addr} (hg : w.grownBy w' (bk B)) (hf : far A B) : OI base w' A c l :=
  World.ownsRow.kept h hg (by rw [bk_eq]; exact hf)
theorem own_bk {base : Nat} {w : World} {t : TypeId} {size : Nat} {A : Option Addr} {n c : Nat} {xs : List Value} (h : w.ownsRow base t size (.slice A n c) n xs) {b : Nat} (hb : bk A = some b) : base ≤ b ∧ ∃ cs, w.heap[b]? = some (.cells cs t (0, 0)) := by
  rcases h.2 with ⟨hv, _⟩ | ⟨g, cap, cur, hv, hg, hh, _⟩
  · injection hv with hA
    subst hA
    cases hb
  · injection hv with hA
    subst hA
    have : g = b := by simpa [bk, Value.ownBlock] using hb
    subst this
    exact ⟨hg, _, hh⟩
theorem own_pastT {base base2 : Nat} {w w' : World} {t t2 : TypeId} {size n : Nat} {v : Value} {xs : List Value} (h : w.ownsRow base t size v n xs) {B : Option Addr} {size2 n2 c2 : Nat} {ys : List Value} (h2 : w.ownsRow base2 t2 size2 (.slice B n2 c2) n2 ys) (hg : w.grownBy w' (bk B)) (hne : t ≠ t2) : w'.ownsRow base t size v n xs := by
  refine World.ownsRow.kept h hg ?_
  rcases h.2 with ⟨hv, _⟩ | ⟨g, cap, cur, hv, _, hh, _⟩
  · exact .inl (by rw [hv]; rfl)
  · refine .inr ?_
    intro e
    have e2 : bk B = some g := by rw [← e, hv]; rfl
    obtain ⟨_, cs, h3⟩ := own_bk h2 e2
    rw [hh] at h3
    injection h3 with h3
    injection h3 with _ h4 _
    exact hne h4
/-- All blocks but those of the rows are left as they were. -/
def Kp (w w' : World) : Prop := w.heap.size ≤ w'.heap.size ∧ ∀ (k : Nat) (cs : Array Value) (ty : TypeId) (fz : Nat × Nat), w.heap[k]? = some (.cells cs ty fz) → ty ≠ 3 → ty ≠ WT → w'.heap[k]? = some (.cells cs ty fz)
theorem Kp.refl (w : World) : Kp w w := ⟨Nat.le_refl _, fun _ _ _ _ h _ _ => h⟩
theorem Kp.trans {a b c : World} (h : Kp a b) (g : Kp b c) : Kp a c := ⟨Nat.le_trans h.1 g.1, fun k cs ty fz hk h1 h2 => g.2 k cs ty fz (h.2 k cs ty fz hk h1 h2) h1 h2⟩
theorem Kp.keep {w wr w' : World} (h : Kp w wr) (hb : Below wr.heap.size wr w') : Kp w w' := ⟨Nat.le_trans h.1 hb.size, fun k cs ty fz hk h1 h2 => (hb.block k (Array.getElem?_eq_some_iff.1 (h.2 k cs ty fz hk h1 h2)).1).trans (h.2 k cs ty fz hk h1 h2)⟩
theorem Kp.setX {w wr : World} (h : Kp w wr) {b : Nat} (hb : w.heap.size ≤ b) (i : Nat) (v : Value) : Kp w (wr.setCell ⟨b, i, none⟩ v) :=
  ⟨by simpa [World.setCell] using h.1, fun k cs ty fz hk h1 h2 => (Below.heap_setCell wr ⟨b, i, none⟩ v k (by
    have := (Array.getElem?_eq_some_iff.1 hk).1
    simp
    omega)).trans (h.2 k cs ty fz hk h1 h2)⟩
theorem Kp.row {w wr w' : World} (h : Kp w wr) {base : Nat} {t : TypeId} {size n c : Nat} {A : Option Addr} {xs : List Value} (ho : wr.ownsRow base t size (.slice A n c) n xs) (ht : t = 3 ∨ t = WT) (hg : wr.grownBy w' (bk A)) : Kp w w' := by
  refine ⟨Nat.le_trans h.1 hg.size, fun k cs ty fz hk h1 h2 => ?_⟩
  have hw := h.2 k cs ty fz hk h1 h2
  refine (hg.block k (Array.getElem?_eq_some_iff.1 hw).1 ?_).trans hw
  intro e
  obtain ⟨_, cs', h3⟩ := own_bk ho e.symm
  rw [hw] at h3
  injection h3 with h3
  injection h3 with _ h4 _
  rcases ht with rfl | rfl
  · exact h1 h4
  · exact h2 h4

/-- The machine's rows. -/
structure SRows (base : Nat) (w : World) (Ae : Option Addr) (ce : Nat) (en : List Int) (At : Option Addr) (ct : Nat) (tr : List Int) (As : Option Addr) (cs : Nat) (sw : List Int) (Aw : Option Addr) (cw : Nat) (wk : List (Nat × Int)) : Prop where
  e : OI base w Ae ce en
  t : OI base w At ct tr
  s : OI base w As cs sw
  k : OW base w Aw cw wk
  et : far Ae At
  es : far Ae As
  ts : far At As
section
variable {base : Nat} {w w' : World} {Ae : Option Addr} {ce : Nat} {en : List Int} {At : Option Addr} {ct : Nat} {tr : List Int} {As : Option Addr} {cs : Nat} {sw : List Int} {Aw : Option Addr} {cw : Nat} {wk : List (Nat × Int)}
theorem SRows.keep (h : SRows base w Ae ce en At ct tr As cs sw Aw cw wk) (hb : Below w.heap.size w w') : SRows base w' Ae ce en At ct tr As cs sw Aw cw wk :=
  ⟨OI_keep h.e hb, OI_keep h.t hb, OI_keep h.s hb, OW_keep h.k hb, h.et, h.es, h.ts⟩
/-- A cell of a state stored. -/
theorem SRows.setX (h : SRows base w Ae ce en At ct tr As cs sw Aw cw wk) {b : Nat} {xs : Array Value} {t : TypeId} (hk : w.heap[b]? = some (.cells xs t (0, 0))) (h1 : t ≠ 3) (h2 : t ≠ WT) (i : Nat) (v : Value) : SRows base (w.setCell ⟨b, i, none⟩ v) Ae ce en At ct tr As cs sw Aw cw wk :=
  ⟨own_only h.e (oi_gb_cell w b i v) hk (fun e => h1 e.symm), own_only h.t (oi_gb_cell w b i v) hk (fun e => h1 e.symm), own_only h.s (oi_gb_cell w b i v) hk (fun e => h1 e.symm), own_only h.k (oi_gb_cell w b i v) hk (fun e => h2 e.symm), h.et, h.es, h.ts⟩
/-- A work appended. -/
theorem SRows.appW (h : SRows base w Ae ce en At ct tr As cs sw Aw cw wk) {Aw' : Option Addr} {cw' : Nat} {wk' : List (Nat × Int)} (ho : OW base w' Aw' cw' wk') (hg : w.grownBy w' (bk Aw)) : SRows base w' Ae ce en At ct tr As cs sw Aw' cw' wk' :=
  ⟨own_pastT h.e h.k hg (fun e => wt1 e.symm), own_pastT h.t h.k hg (fun e => wt1 e.symm), own_pastT h.s h.k hg (fun e => wt1 e.symm), ho, h.et, h.es, h.ts⟩
theorem SRows.appT (h : SRows base w Ae ce en At ct tr As cs sw Aw cw wk) {g ct' : Nat} {tr' : List Int} (ho : OI base w' (some ⟨g, 0, none⟩) ct' tr') (hg : w.grownBy w' (bk At)) (hat : bk At = some g ∨ g = w.heap.size) : SRows base w' Ae ce en (some ⟨g, 0, none⟩) ct' tr' As cs sw Aw cw wk := by
  have hn : ∀ {A : Option Addr} {c : Nat} {l : List Int}, OI base w A c l → far A At → far A (some ⟨g, 0, none⟩) := by
    intro A c l hO hf
    unfold far at hf ⊢
    rcases hf with hf | hf
    · exact .inl hf
    · rcases hat with hat | hat
      · exact .inr (by rw [hat] at hf; exact hf)
      · refine .inr (fun e => ?_)
        have e : bk A = some g := e
        obtain ⟨_, cs, h3⟩ := own_bk hO e
        have := (Array.getElem?_eq_some_iff.1 h3).1
        omega
  exact ⟨OI_past h.e hg h.et, ho, OI_past h.s hg h.ts.symm, own_pastT h.k h.t hg wt1, hn h.e h.et, h.es, (hn h.s h.ts.symm).symm⟩
theorem SRows.appS (h : SRows base w Ae ce en At ct tr As cs sw Aw cw wk) {g cs' : Nat} {sw' : List Int} (ho : OI base w' (some ⟨g, 0, none⟩) cs' sw') (hg : w.grownBy w' (bk As)) (hat : bk As = some g ∨ g = w.heap.size) : SRows base w' Ae ce en At ct tr (some ⟨g, 0, none⟩) cs' sw' Aw cw wk := by
  have hn : ∀ {A : Option Addr} {c : Nat} {l : List Int}, OI base w A c l → far A As → far A (some ⟨g, 0, none⟩) := by
    intro A c l hO hf
    unfold far at hf ⊢
    rcases hf with hf | hf
    · exact .inl hf
    · rcases hat with hat | hat
      · exact .inr (by rw [hat] at hf; exact hf)
      · refine .inr (fun e => ?_)
        have e : bk A = some g := e
        obtain ⟨_, cs, h3⟩ := own_bk hO e
        have := (Array.getElem?_eq_some_iff.1 h3).1
        omega
  exact ⟨OI_past h.e hg h.es, OI_past h.t hg h.ts, ho, own_pastT h.k h.s hg wt1, h.et, hn h.e h.es, hn h.t h.ts⟩
/-- Who ended: one number stored. -/
theorem SRows.setE (h : SRows base w Ae ce en At ct tr As cs sw Aw cw wk) (i : Nat) (hi : i < en.length) (x : Int) : ∃ b, Ae = some ⟨b, 0, none⟩ ∧ base ≤ b ∧ b < w.heap.size ∧ (∃ u, w.cell? ⟨b, i, none⟩ = some u) ∧ w.frozen? ⟨b, i, none⟩ = false ∧
    SRows base (w.setCell ⟨b, i, none⟩ (.int .i64 x)) Ae ce (en.set i x) At ct tr As cs sw Aw cw wk ∧ w.grownBy (w.setCell ⟨b, i, none⟩ (.int .i64 x)) (bk Ae) := by
  have he := h.e
  rcases h.e.2 with ⟨_, h0⟩ | ⟨g, cap, cur, hv, hg, hh, _⟩
  · omega
  · injection hv with hA hn hc
    subst hA
    have hgb : w.grownBy (w.setCell ⟨g, i, none⟩ (.int .i64 x)) (bk (some ⟨g, 0, none⟩)) := oi_gb_cell w g i (.int .i64 x)
    exact ⟨g, rfl, hg, (Array.getElem?_eq_some_iff.1 hh).1, ⟨_, (OI_get he i hi).1⟩, (OI_get he i hi).2, ⟨OI_st he i x, OI_past h.t hgb h.et.symm, OI_past h.s hgb h.es.symm, own_pastT h.k h.e hgb wt1, h.et, h.es, h.ts⟩, hgb⟩
end
end

section
open Go.RowKit

theorem row_same {w w' : World} {base : Nat} {t t' : TypeId} {size n c g : Nat} {A : Option Addr} {xs : List Value} (ho : w.ownsRow base t size (.slice A n c) n xs) (hg : w.grownBy w' (bk A)) {cs : Array Value} {fz : Nat × Nat} (hk : w.heap[g]? = some (.cells cs t' fz)) (hne : t' ≠ t) : w'.heap[g]? = some (.cells cs t' fz) := by
  refine (hg.block g (Array.getElem?_eq_some_iff.1 hk).1 ?_).trans hk
  intro e
  obtain ⟨_, cs', h3⟩ := own_bk ho e.symm
  rw [hk] at h3
  injection h3 with h3
  injection h3 with _ h4 _
  exact hne h4
abbrev stC (e t s wv : Value) (hi : Bool) (nx num den : Int) : Obj := .cells #[e, t, s, .bool hi, wv, .int .i64 nx, .int .i64 num, .int .i64 den] ST (0, 0)
theorem state_store {v : World} {r : Nat} {x0 x1 x2 x3 x4 x5 x6 x7 : Value} (h : v.heap[r]? = some (.cells #[x0, x1, x2, x3, x4, x5, x6, x7] ST (0, 0))) (e t s wv : Value) (hi : Bool) (nx num den : Int) :
    ((((((((v.setCell ⟨r, 0, none⟩ e).setCell ⟨r, 1, none⟩ t).setCell ⟨r, 2, none⟩ s).setCell ⟨r, 3, none⟩ (.bool hi)).setCell ⟨r, 4, none⟩ wv).setCell ⟨r, 5, none⟩ (.int .i64 nx)).setCell ⟨r, 6, none⟩ (.int .i64 num)).setCell ⟨r, 7, none⟩ (.int .i64 den)).heap[r]? = some (stC e t s wv hi nx num den) ∧
      v.grownBy ((((((((v.setCell ⟨r, 0, none⟩ e).setCell ⟨r, 1, none⟩ t).setCell ⟨r, 2, none⟩ s).setCell ⟨r, 3, none⟩ (.bool hi)).setCell ⟨r, 4, none⟩ wv).setCell ⟨r, 5, none⟩ (.int .i64 nx)).setCell ⟨r, 6, none⟩ (.int .i64 num)).setCell ⟨r, 7, none⟩ (.int .i64 den)) (some r) := by
  have h1 : (v.setCell ⟨r, 0, none⟩ e).heap[r]? = some (.cells #[e, x1, x2, x3, x4, x5, x6, x7] ST (0, 0)) := heap_setCell_same v r 0 _ _ e h
  have g1 := oi_gb_cell v r 0 e
  generalize v.setCell ⟨r, 0, none⟩ e = v1 at h1 g1 ⊢
  have h2 : (v1.setCell ⟨r, 1, none⟩ t).heap[r]? = some (.cells #[e, t, x2, x3, x4, x5, x6, x7] ST (0, 0)) := heap_setCell_same v1 r 1 _ _ t h1
  have g2 := oi_gb_cell v1 r 1 t
  generalize v1.setCell ⟨r, 1, none⟩ t = v2 at h2 g2 ⊢
  have h3 : (v2.setCell ⟨r, 2, none⟩ s).heap[r]? = some (.cells #[e, t, s, x3, x4, x5, x6, x7] ST (0, 0)) := heap_setCell_same v2 r 2 _ _ s h2
  have g3 := oi_gb_cell v2 r 2 s
  generalize v2.setCell ⟨r, 2, none⟩ s = v3 at h3 g3 ⊢
  have h4 : (v3.setCell ⟨r, 3, none⟩ (.bool hi)).heap[r]? = some (.cells #[e, t, s, .bool hi, x4, x5, x6, x7] ST (0, 0)) := heap_setCell_same v3 r 3 _ _ (.bool hi) h3
  have g4 := oi_gb_cell v3 r 3 (.bool hi)
  generalize v3.setCell ⟨r, 3, none⟩ (.bool hi) = v4 at h4 g4 ⊢
  have h5 : (v4.setCell ⟨r, 4, none⟩ wv).heap[r]? = some (.cells #[e, t, s, .bool hi, wv, x5, x6, x7] ST (0, 0)) := heap_setCell_same v4 r 4 _ _ wv h4
  have g5 := oi_gb_cell v4 r 4 wv
  generalize v4.setCell ⟨r, 4, none⟩ wv = v5 at h5 g5 ⊢
  have h6 : (v5.setCell ⟨r, 5, none⟩ (.int .i64 nx)).heap[r]? = some (.cells #[e, t, s, .bool hi, wv, .int .i64 nx, x6, x7] ST (0, 0)) := heap_setCell_same v5 r 5 _ _ (.int .i64 nx) h5
  have g6 := oi_gb_cell v5 r 5 (.int .i64 nx)
  generalize v5.setCell ⟨r, 5, none⟩ (.int .i64 nx) = v6 at h6 g6 ⊢
  have h7 : (v6.setCell ⟨r, 6, none⟩ (.int .i64 num)).heap[r]? = some (.cells #[e, t, s, .bool hi, wv, .int .i64 nx, .int .i64 num, x7] ST (0, 0)) := heap_setCell_same v6 r 6 _ _ (.int .i64 num) h6
  have g7 := oi_gb_cell v6 r 6 (.int .i64 num)
  generalize v6.setCell ⟨r, 6, none⟩ (.int .i64 num) = v7 at h7 g7 ⊢
  have h8 : (v7.setCell ⟨r, 7, none⟩ (.int .i64 den)).heap[r]? = some (.cells #[e, t, s, .bool hi, wv, .int .i64 nx, .int .i64 num, .int .i64 den] ST (0, 0)) := heap_setCell_same v7 r 7 _ _ (.int .i64 den) h7
  have g8 := oi_gb_cell v7 r 7 (.int .i64 den)
  generalize v7.setCell ⟨r, 7, none⟩ (.int .i64 den) = v8 at h8 g8 ⊢
  exact ⟨h8, gb_trans (gb_trans (gb_trans (gb_trans (gb_trans (gb_trans (gb_trans g1 g2) g3) g4) g5) g6) g7) g8⟩
theorem SRows.gbX {base : Nat} {w w' : World} {Ae : Option Addr} {ce : Nat} {en : List Int} {At : Option Addr} {ct : Nat} {tr : List Int} {As : Option Addr} {cs : Nat} {sw : List Int} {Aw : Option Addr} {cw : Nat} {wk : List (Nat × Int)} (h : SRows base w Ae ce en At ct tr As cs sw Aw cw wk) {r : Nat} (hg : w.grownBy w' (some r)) {xs : Array Value} {t : TypeId} (hk : w.heap[r]? = some (.cells xs t (0, 0))) (h1 : t ≠ 3) (h2 : t ≠ WT) : SRows base w' Ae ce en At ct tr As cs sw Aw cw wk :=
  ⟨own_only h.e hg hk (fun e => h1 e.symm), own_only h.t hg hk (fun e => h1 e.symm), own_only h.s hg hk (fun e => h1 e.symm), own_only h.k hg hk (fun e => h2 e.symm), h.et, h.es, h.ts⟩
theorem Kp.gbX {w wr w' : World} (h : Kp w wr) {r : Nat} (hg : wr.grownBy w' (some r)) (hr : w.heap.size ≤ r) : Kp w w' :=
  ⟨Nat.le_trans h.1 hg.size, fun k cs ty fz hk h1 h2 => (hg.block k (Array.getElem?_eq_some_iff.1 (h.2 k cs ty fz hk h1 h2)).1 (by
    have := (Array.getElem?_eq_some_iff.1 hk).1
    intro e
    have : k = r := by simpa using e
    omega)).trans (h.2 k cs ty fz hk h1 h2)⟩
set_option maxHeartbeats 4000000 in
set_option maxRecDepth 100000 in
theorem spec_l7Come {l : List Tk} {js : List Jb} (hV : jobsV l js = true) {num den : Int} (V : JobsIn l js num den) (A : Option Addr) (c : Nat) (B : Option Addr) (d : Nat) (W0 : World) (hTS : TS W0 A l) (hJS : JS W0 B js) (t nx : Nat) (_ht : t ≤ 1000) (hnx : NX js (t : Int) nx) (hi : Bool) (dn : List Int)
    (hdn : ∀ i, i < js.length → (t : Int) ≤ jA js i → dn.getD i 0 = 0) (en : List Int) (lf : List Nat) (hen : en.length = js.length) (hlf : lf.length ≤ 20000) {Ae : Option Addr} {ce : Nat} {At : Option Addr} {ct : Nat} {tr : List Int} {As : Option Addr} {cs : Nat} {sw : List Int} {Aw : Option Addr} {cw : Nat}
    (w : World) (hB0 : Below W0.heap.size W0 w) (h : SRows W0.heap.size w Ae ce en At ct tr As cs sw Aw cw (wkOf dn lf)) :
    Calls Tryz.prog 68 #[.slice A l.length c, .slice B js.length d, stV (.slice Ae en.length ce) (.slice At tr.length ct) (.slice As sw.length cs) (.slice Aw lf.length cw) hi (nx : Int) num den, .int .i64 (t : Int)] w fun e w' => ∃ Aw' cw' m, e = .returned (stV (.slice Ae en.length ce) (.slice At tr.length ct) (.slice As sw.length cs) (.slice Aw' (arrTo l js t hi (en, lf) js.length).2.length cw') hi (m : Nat) num den) ∧ NX js ((t : Int) + 1) m ∧ SRows W0.heap.size w' Ae ce (arrTo l js t hi (en, lf) js.length).1 At ct tr As cs sw Aw' cw' (wkOf dn (arrTo l js t hi (en, lf) js.length).2) ∧ Kp w w' ∧ Below W0.heap.size w w' := by
  have h60 : js.length ≤ 60 := by
    simp only [jobsV, Bool.and_eq_true, decide_eq_true_eq] at hV
    exact hV.1.2
  have hW0 := hB0.size
  obtain ⟨ne, hne⟩ : ∃ x, en.length = x := ⟨_, rfl⟩
  obtain ⟨nt, hnt⟩ : ∃ x, tr.length = x := ⟨_, rfl⟩
  obtain ⟨ns, hns⟩ : ∃ x, sw.length = x := ⟨_, rfl⟩
  rw [hne, hnt, hns]
  have Hne := Lib.hid (hne.symm.trans hen)
  clear hne hnt hns
  have hg1 : ((w.alloc (stC (.slice Ae ne ce) (.slice At nt ct) (.slice As ns cs) (.slice Aw lf.length cw) hi nx num den)).alloc (.cells #[.slice none 0 0, .slice none 0 0, .slice none 0 0, .bool false, .slice none 0 0, .int .i64 0, .int .i64 0, .int .i64 0] ST)).heap[w.heap.size]? = some (stC (.slice Ae ne ce) (.slice At nt ct) (.slice As ns cs) (.slice Aw lf.length cw) hi nx num den) :=
    (Below.heap_alloc _ _ _ (by simp)).trans (heap_alloc_new w _)
  have hg2 := heap_alloc_new (w.alloc (stC (.slice Ae ne ce) (.slice At nt ct) (.slice As ns cs) (.slice Aw lf.length cw) hi nx num den)) (.cells #[.slice none 0 0, .slice none 0 0, .slice none 0 0, .bool false, .slice none 0 0, .int .i64 0, .int .i64 0, .int .i64 0] ST (0, 0))
  have hsz : (w.alloc (stC (.slice Ae ne ce) (.slice At nt ct) (.slice As ns cs) (.slice Aw lf.length cw) hi nx num den)).heap.size = w.heap.size + 1 := by simp
  rw [hsz] at hg2
  have bx := bal (bal (Below.refl w.heap.size w) (stC (.slice Ae ne ce) (.slice At nt ct) (.slice As ns cs) (.slice Aw lf.length cw) hi nx num den)) (.cells #[.slice none 0 0, .slice none 0 0, .slice none 0 0, .bool false, .slice none 0 0, .int .i64 0, .int .i64 0, .int .i64 0] ST)
  go_enter Tryz.func68, Tryz.ntmps68
  go_wp2_with fail
  generalize World.alloc (World.alloc w _) _ = w1 at hg1 hg2 bx ⊢
  obtain ⟨g, hg⟩ : ∃ g, w.heap.size = g := ⟨_, rfl⟩
  rw [hg] at hg1 hg2 ⊢
  have h1 := h.keep bx
  have k1 := (Kp.refl w).keep bx
  have hb1 := bx.mono hW0
  clear bx hsz h
  go_loopg [] (js.length - nx) (fun gg wr => ∃ (m cw' : Nat) (Aw' : Option Addr) (en' : List Int) (lf' : List Nat), gg + m = js.length ∧ Hid (nx ≤ m ∧ ∀ i, nx ≤ i → i < m → jA js i = (t : Int)) ∧ Hid (arrTo l js (t : Int) hi (en, lf) m = (en', lf')) ∧ lf'.length ≤ 20000 + m ∧ en'.length = js.length ∧ Hid (wr.heap[g]? = some (stC (.slice Ae ne ce) (.slice At nt ct) (.slice As ns cs) (.slice Aw' lf'.length cw') hi m num den)) ∧ Hid (wr.heap[g + 1]? = some (.cells #[.slice none 0 0, .slice none 0 0, .slice none 0 0, .bool false, .slice none 0 0, .int .i64 0, .int .i64 0, .int .i64 0] ST (0, 0))) ∧ SRows W0.heap.size wr Ae ce en' At ct tr As cs sw Aw' cw' (wkOf dn lf') ∧ Kp w wr ∧ Below W0.heap.size w wr)
  case atStart => exact ⟨nx, cw, Aw, en, lf, by have := hnx.le; omega, ⟨Nat.le_refl _, fun i h1 h2 => by omega⟩, arr_none hnx, by omega, hen, hg1, hg2, h1, k1, hb1⟩
  case round =>
    clear hg1 hg2 h1 k1 hb1
    obtain ⟨m, cw', Aw', en', lf', hgm, hm, ha, hlf', hen', hg1, hg2, h1, k1, hb1⟩ := hrel
    have hB1 := hB0.trans hb1
    obtain ⟨s0, s1, s2, s3, s4, s5, s6, s7⟩ := blk8 hg1.out
    have sf := fun i => Lib.frozen_of_heap hg1.out i
    by_cases hml : m < js.length
    case neg =>
      have e0 : decide ((m : Int) < (js.length : Int)) = false := decide_eq_false (by omega)
      obtain ⟨z0, z1, z2, z3, z4, z5, z6, z7⟩ := blk8 hg2.out
      have zf := fun i => Lib.frozen_of_heap hg2.out i
      have hN := hnx.step hV hm.out.1 (by omega) hm.out.2 (by omega)
      go_wp2_with fail
      have hz := state_store hg2.out (.slice Ae ne ce) (.slice At nt ct) (.slice As ns cs) (.slice Aw' lf'.length cw') hi m num den
      obtain ⟨hzB, hzG⟩ := hz
      obtain ⟨y0, y1, y2, y3, y4, y5, y6, y7⟩ := blk8 hzB
      refine bodyPost_ret (v := stV (.slice Ae ne ce) (.slice At nt ct) (.slice As ns cs) (.slice Aw' lf'.length cw') hi m num den) (by simp [results, Tryz.results68, go_sem, y0, y1, y2, y3, y4, y5, y6, y7]) rfl ?_
      have harr := arr_all (l := l) (hi := hi) (s := (en, lf)) hN
      rw [ha.out] at harr
      rw [harr]
      exact ⟨Aw', cw', m, rfl, hN, h1.gbX hzG hg2.out st1 st2, k1.gbX hzG (by omega), hb1.grown hzG (Nat.le_trans hW0 hb1.size) (fun k hk => by cases hk; omega)⟩
    obtain ⟨b, off, rfl, hbl, hc⟩ := (hJS.keep hB1) (by omega)
    obtain ⟨q0, q1, q2⟩ := job_cells hc m hml
    rw [← jobAt_eq js m hml] at q0 q1 q2
    obtain ⟨a0, a1, hta, hk, _, _⟩ := V.job m hml
    obtain ⟨tb, toff, rfl, htb, htc⟩ := (hTS.keep hB1) (by omega)
    obtain ⟨c0, c1, c2, c3, c4⟩ := cells_tk htc (jK js m) hk
    rw [hta] at q0
    clear hc htc c0 c1 c2 c3 q2
    have hmI : (m : Int) < (js.length : Int) := by omega
    have hkI : (jK js m : Int) < (l.length : Int) := by omega
    have e0 : decide ((m : Int) < (js.length : Int)) = true := decide_eq_true hmI
    have hja : jA js m = (jobAt js m).at_ := rfl
    have HJ := Lib.hid hja
    clear hja
    generalize (jobAt js m).at_ = at_ at q1 HJ a0 a1
    by_cases hat : at_ = (t : Int)
    case neg =>
      have e1 : (at_ == (t : Int)) = false := beq_eq_false_iff_ne.2 hat
      obtain ⟨z0, z1, z2, z3, z4, z5, z6, z7⟩ := blk8 hg2.out
      have zf := fun i => Lib.frozen_of_heap hg2.out i
      have hN := hnx.step hV hm.out.1 (by omega) hm.out.2 (fun _ => by rw [HJ.out]; exact hat)
      go_wp2_with fail
      have hz := state_store hg2.out (.slice Ae ne ce) (.slice At nt ct) (.slice As ns cs) (.slice Aw' lf'.length cw') hi m num den
      obtain ⟨hzB, hzG⟩ := hz
      obtain ⟨y0, y1, y2, y3, y4, y5, y6, y7⟩ := blk8 hzB
      refine bodyPost_ret (v := stV (.slice Ae ne ce) (.slice At nt ct) (.slice As ns cs) (.slice Aw' lf'.length cw') hi m num den) (by simp [results, Tryz.results68, go_sem, y0, y1, y2, y3, y4, y5, y6, y7]) rfl ?_
      have harr := arr_all (l := l) (hi := hi) (s := (en, lf)) hN
      rw [ha.out] at harr
      rw [harr]
      exact ⟨Aw', cw', m, rfl, hN, h1.gbX hzG hg2.out st1 st2, k1.gbX hzG (by omega), hb1.grown hzG (Nat.le_trans hW0 hb1.size) (fun k hk => by cases hk; omega)⟩
    have e1 : (at_ == (t : Int)) = true := by simpa using hat
    have hcr : ∃ cr, (tkAt l (jK js m)).crit = cr := ⟨_, rfl⟩
    obtain ⟨cr, hcr⟩ := hcr
    rw [hcr] at c4
    have HCR := Lib.hid hcr
    clear hcr
    cases hi with
    | true =>
      cases cr with
      | false =>
        have harr : Hid (arrTo l js (t : Int) true (en, lf) (m + 1) = (en'.set m (-2), lf')) := by
          have := arr_one (l := l) (hi := true) (s := (en, lf)) (HJ.out.trans hat)
          rw [ha.out] at this
          rw [Hid, this, HCR.out]
          rfl
        obtain ⟨be, rfl, hbe, hbel, ⟨u, hu⟩, hfz, hR, hgE⟩ := h1.setE m (by omega) (-2)
        have q1' := row_same h1.e hgE hg1.out st1
        have q2' := row_same h1.e hgE hg2.out st1
        have kp' := k1.row h1.e (.inl rfl) hgE
        have bl' := hb1.grown hgE (Nat.le_trans hW0 hb1.size) (fun k hk => by
          have : be = k := by simpa [bk, Value.ownBlock] using hk
          omega)
        have hmE : (m : Int) < (ne : Int) := by have := Hne.out; omega
        go_upto_region 5 with fail
        generalize World.setCell wr _ _ = w2 at hR hgE q1' q2' kp' bl' ⊢
        obtain ⟨p0, p1, p2, p3, p4, p5, p6, p7⟩ := blk8 q1'
        have pf := fun i => Lib.frozen_of_heap q1' i
        go_wp2_with fail
        go_roundg (gk - 1)
        case measure => omega
        case rel =>
          have hn1 := heap_setCell_same w2 g 5 _ _ (.int .i64 ((m : Int) + 1)) q1'
          have hn2 := (Below.heap_setCell w2 ⟨g, 5, none⟩ (.int .i64 ((m : Int) + 1)) (g + 1) (by simp)).trans q2'
          exact ⟨m + 1, cw', Aw', en'.set m (-2), lf', by omega, ⟨by have := hm.out.1; omega, fun i h1 h2 => by
            by_cases e : i = m
            · rw [e, HJ.out]
              exact hat
            · exact hm.out.2 i h1 (by omega)⟩, harr, by omega, by rw [List.length_set]; exact hen', hn1, hn2, hR.setX q1' st1 st2 5 _, kp'.setX (by omega) 5 _, bl'.setCell (p := ⟨g, 5, none⟩) (by show W0.heap.size ≤ g; omega) _⟩
      | true =>
        have harr : Hid (arrTo l js (t : Int) true (en, lf) (m + 1) = (en', lf' ++ [m])) := by
          have := arr_one (l := l) (hi := true) (s := (en, lf)) (HJ.out.trans hat)
          rw [ha.out] at this
          rw [Hid, this, HCR.out]
          rfl
        have bA := Below.refl wr.heap.size wr
        have hA := heap_alloc_new wr (.cells #[.int .i64 (m : Int), .int .i64 0] WT (0, 0))
        have bA := bal bA (.cells #[.int .i64 (m : Int), .int .i64 0] WT)
        have hRa := h1.keep bA
        have kA := k1.keep bA
        have hWr := Nat.le_trans hW0 hb1.size
        have BA := hb1.trans (bA.mono hWr)
        have hp1 := (bA.block _ (Array.getElem?_eq_some_iff.1 hg1.out).1).trans hg1.out
        have hp2 := (bA.block _ (Array.getElem?_eq_some_iff.1 hg2.out).1).trans hg2.out
        have HP1 := Lib.hid hp1
        have HP2 := Lib.hid hp2
        have pf := fun i => Lib.frozen_of_heap hp1 i
        obtain ⟨s0, s1, s2, s3, s4, s5, s6, s7⟩ := blk8 hg1.out
        clear bA hp1 hp2
        go_wp2_with (at_builtin; refine wpList_app_work _ rfl _ _ rfl W0.heap.size Aw' (wkOf dn lf') lf'.length cw' (wk_len _ _) ?a1 ?a2 wr.heap.size 1 (m, 0) WT ?a3 ?a4 ?a5 ?a6 ?_; (case a1 => exact rfl); (case a2 => exact hRa.k); (case a3 => exact rfl); (case a4 => exact hA); (case a5 => rw [wk_len]; omega); (case a6 => simp; omega); intro g4 cc4 w4 o4 g4' b4; have gb4 := g4'; rw [bk_eq] at gb4; have qq := row_same hRa.k gb4 HP1.out st2; obtain ⟨y0, y1, y2, y3, y4, y5, y6, y7⟩ := blk8 qq; have yf := fun i => Lib.frozen_of_heap qq i; clear s0 s1 s2 s3 s4 s5 s6 s7)
        have q1' := heap_setCell_same w4 g 4 _ _ (.slice (some ⟨g4, 0, none⟩) (lf'.length + 1) cc4) qq
        have R4 := hRa.appW o4 gb4
        have q2' := row_same hRa.k gb4 HP2.out st2
        have q2'' := (Below.heap_setCell w4 ⟨g, 4, none⟩ (.slice (some ⟨g4, 0, none⟩) (lf'.length + 1) cc4) (g + 1) (by simp)).trans q2'
        have K4 := kA.row hRa.k (.inr rfl) gb4
        have hdm := hdn m hml (by rw [HJ.out, hat]; exact Int.le_refl _)
        rw [← wkOf_snoc dn lf' m hdm] at R4
        have hlen : (lf' ++ [m]).length = lf'.length + 1 := by simp
        have R4a := R4.setX qq st1 st2 4 (.slice (some ⟨g4, 0, none⟩) (lf'.length + 1) cc4)
        have R4b := R4a.setX q1' st1 st2 5 (.int .i64 ((m : Int) + 1))
        have hn1 := heap_setCell_same _ g 5 _ _ (.int .i64 ((m : Int) + 1)) q1'
        have hn2 := (Below.heap_setCell (w4.setCell ⟨g, 4, none⟩ (.slice (some ⟨g4, 0, none⟩) (lf'.length + 1) cc4)) ⟨g, 5, none⟩ (.int .i64 ((m : Int) + 1)) (g + 1) (by simp)).trans q2''
        have hle : W0.heap.size ≤ g := by omega
        have B4b := ((BA.trans b4).setCell (p := ⟨g, 4, none⟩) hle (.slice (some ⟨g4, 0, none⟩) (lf'.length + 1) cc4)).setCell (p := ⟨g, 5, none⟩) hle (.int .i64 ((m : Int) + 1))
        go_roundg (gk - 1)
        case measure => omega
        case rel =>
          refine ⟨m + 1, cc4, some ⟨g4, 0, none⟩, en', lf' ++ [m], by omega, ⟨by have := hm.out.1; omega, fun i h1 h2 => ?_⟩, harr, by rw [hlen]; omega, hen', ?_, hn2, R4b, (K4.setX (by omega) 4 _).setX (by omega) 5 _, B4b⟩
          · by_cases e : i = m
            · rw [e, HJ.out]
              exact hat
            · exact hm.out.2 i h1 (by omega)
          · rw [Hid, hlen]
            exact hn1
    | false =>
      have harr : Hid (arrTo l js (t : Int) false (en, lf) (m + 1) = (en', lf' ++ [m])) := by
        have := arr_one (l := l) (hi := false) (s := (en, lf)) (HJ.out.trans hat)
        rw [ha.out] at this
        rw [Hid, this]
        rfl
      have bA := Below.refl wr.heap.size wr
      have hA := heap_alloc_new wr (.cells #[.int .i64 (m : Int), .int .i64 0] WT (0, 0))
      have bA := bal bA (.cells #[.int .i64 (m : Int), .int .i64 0] WT)
      have hRa := h1.keep bA
      have kA := k1.keep bA
      have hWr := Nat.le_trans hW0 hb1.size
      have BA := hb1.trans (bA.mono hWr)
      have hp1 := (bA.block _ (Array.getElem?_eq_some_iff.1 hg1.out).1).trans hg1.out
      have hp2 := (bA.block _ (Array.getElem?_eq_some_iff.1 hg2.out).1).trans hg2.out
      have HP1 := Lib.hid hp1
      have HP2 := Lib.hid hp2
      have pf := fun i => Lib.frozen_of_heap hp1 i
      obtain ⟨s0, s1, s2, s3, s4, s5, s6, s7⟩ := blk8 hg1.out
      clear bA hp1 hp2
      go_wp2_with (at_builtin; refine wpList_app_work _ rfl _ _ rfl W0.heap.size Aw' (wkOf dn lf') lf'.length cw' (wk_len _ _) ?a1 ?a2 wr.heap.size 1 (m, 0) WT ?a3 ?a4 ?a5 ?a6 ?_; (case a1 => exact rfl); (case a2 => exact hRa.k); (case a3 => exact rfl); (case a4 => exact hA); (case a5 => rw [wk_len]; omega); (case a6 => simp; omega); intro g4 cc4 w4 o4 g4' b4; have gb4 := g4'; rw [bk_eq] at gb4; have qq := row_same hRa.k gb4 HP1.out st2; obtain ⟨y0, y1, y2, y3, y4, y5, y6, y7⟩ := blk8 qq; have yf := fun i => Lib.frozen_of_heap qq i; clear s0 s1 s2 s3 s4 s5 s6 s7)
      have q1' := heap_setCell_same w4 g 4 _ _ (.slice (some ⟨g4, 0, none⟩) (lf'.length + 1) cc4) qq
      have R4 := hRa.appW o4 gb4
      have q2' := row_same hRa.k gb4 HP2.out st2
      have q2'' := (Below.heap_setCell w4 ⟨g, 4, none⟩ (.slice (some ⟨g4, 0, none⟩) (lf'.length + 1) cc4) (g + 1) (by simp)).trans q2'
      have K4 := kA.row hRa.k (.inr rfl) gb4
      have hdm := hdn m hml (by rw [HJ.out, hat]; exact Int.le_refl _)
      rw [← wkOf_snoc dn lf' m hdm] at R4
      have hlen : (lf' ++ [m]).length = lf'.length + 1 := by simp
      have R4a := R4.setX qq st1 st2 4 (.slice (some ⟨g4, 0, none⟩) (lf'.length + 1) cc4)
      have R4b := R4a.setX q1' st1 st2 5 (.int .i64 ((m : Int) + 1))
      have hn1 := heap_setCell_same _ g 5 _ _ (.int .i64 ((m : Int) + 1)) q1'
      have hn2 := (Below.heap_setCell (w4.setCell ⟨g, 4, none⟩ (.slice (some ⟨g4, 0, none⟩) (lf'.length + 1) cc4)) ⟨g, 5, none⟩ (.int .i64 ((m : Int) + 1)) (g + 1) (by simp)).trans q2''
      have hle : W0.heap.size ≤ g := by omega
      have B4b := ((BA.trans b4).setCell (p := ⟨g, 4, none⟩) hle (.slice (some ⟨g4, 0, none⟩) (lf'.length + 1) cc4)).setCell (p := ⟨g, 5, none⟩) hle (.int .i64 ((m : Int) + 1))
      go_roundg (gk - 1)
      case measure => omega
      case rel =>
        refine ⟨m + 1, cc4, some ⟨g4, 0, none⟩, en', lf' ++ [m], by omega, ⟨by have := hm.out.1; omega, fun i h1 h2 => ?_⟩, harr, by rw [hlen]; omega, hen', ?_, hn2, R4b, (K4.setX (by omega) 4 _).setX (by omega) 5 _, B4b⟩
        · by_cases e : i = m
          · rw [e, HJ.out]
            exact hat
          · exact hm.out.2 i h1 (by omega)
        · rw [Hid, hlen]
          exact hn1
end

section
open Go.RowKit

/-- A work appended, with where the row lies then. -/
theorem wpList_app_workL (w : World) {ops : Array Oper} {rest : List Oper} {o : Oper} {a : Act} {Q : Exit → Act → World → Prop} (hgd : o.guard = none) (s x : Operand)
    (ho : o.op = .call { callee := .builtin .append, args := #[s, x], argTypes := #[63, 63] })
    (base : Nat) (A : Option Addr) (l : List (Nat × Int)) (n c : Nat) (hn : l.length = n) (hs : a.eval s = .slice A n c) (hown : OW base w A c l)
    (b c1 : Nat) (y : Nat × Int) (ty : TypeId) (hx : a.eval x = .slice (some ⟨b, 0, none⟩) 1 c1) (hb : w.heap[b]? = some (.cells #[.int .i64 (y.1 : Int), .int .i64 y.2] ty (0, 0)))
    (hl : l.length ≤ 2000000) (hbase : base ≤ w.heap.size)
    (h : ∀ g c' w', OW base w' (some ⟨g, 0, none⟩) c' (l ++ [y]) → w.grownBy w' (bk A) → (bk A = some g ∨ g = w.heap.size) → Below base w w' → wpList Tryz.prog ops Q rest (a.put o.dst (.slice (some ⟨g, 0, none⟩) (n + 1) c')) w') : wpList Tryz.prog ops Q (o :: rest) a w := by
  subst hn
  obtain ⟨i0, hi, hz0, hz1, hz2⟩ := info_parts infoWork
  refine wpList_append_lies w hgd s x 63 ho base WT i0 _ 2 16 Tryz.underlying63 hi hz0 hz1 hz2 rfl (by decide) (.slice A l.length c) l.length (flatW l) hs hown
    ⟨b, 0, none⟩ 1 c1 [.int .i64 (y.1 : Int), .int .i64 y.2] hx rfl ?_ ?_ (by omega) (by unfold maxLen; omega) (by omega) hbase _ rfl ?_
  · intro j u hj
    rw [addr_add0, cell_of_row w b j _ ty (0, 0) hb, ← Array.getElem?_toList]
    exact hj
  · intro u hu
    simp at hu
    rcases hu with rfl | rfl <;> rfl
  · intro g c' w' hown' hg hat _
    rw [bk_eq] at hg hat
    refine h g c' w' ?_ hg hat (own_below hown (by rw [bk_eq]; exact hg) hbase)
    unfold OW
    rw [List.length_append, List.length_singleton, flatW_append]
    have e : flatW [y] = [.int .i64 (y.1 : Int), .int .i64 y.2] := by simp [flatW]
    rw [e]
    exact hown'
/-- A second row of works grows: the state's rows stay. -/
theorem SRows.side {base : Nat} {w w' : World} {Ae : Option Addr} {ce : Nat} {en : List Int} {At : Option Addr} {ct : Nat} {tr : List Int} {As : Option Addr} {cs : Nat} {sw : List Int} {Aw : Option Addr} {cw : Nat} {wk : List (Nat × Int)} (h : SRows base w Ae ce en At ct tr As cs sw Aw cw wk) {A9 : Option Addr} {c9 : Nat} {k9 : List (Nat × Int)} (ho : OW base w A9 c9 k9) (hf : far Aw A9) (hg : w.grownBy w' (bk A9)) : SRows base w' Ae ce en At ct tr As cs sw Aw cw wk :=
  ⟨own_pastT h.e ho hg (fun e => wt1 e.symm), own_pastT h.t ho hg (fun e => wt1 e.symm), own_pastT h.s ho hg (fun e => wt1 e.symm), World.ownsRow.kept h.k hg (by rw [bk_eq]; exact hf), h.et, h.es, h.ts⟩
theorem far_new {base : Nat} {w : World} {t : TypeId} {size n c : Nat} {A A9 : Option Addr} {xs : List Value} (hO : w.ownsRow base t size (.slice A n c) n xs) (hf : far A A9) {g : Nat} (hat : bk A9 = some g ∨ g = w.heap.size) : far A (some ⟨g, 0, none⟩) := by
  unfold far at hf ⊢
  rcases hf with hf | hf
  · exact .inl hf
  · rcases hat with hat | hat
    · exact .inr (by rw [hat] at hf; exact hf)
    · refine .inr (fun e => ?_)
      have e : bk A = some g := e
      obtain ⟨_, cs, h3⟩ := own_bk hO e
      have := (Array.getElem?_eq_some_iff.1 h3).1
      omega
theorem filt_snoc (f : Nat → Bool) (l : List Nat) (k : Nat) (hk : k < l.length) : (l.take (k + 1)).filter f = (l.take k).filter f ++ (if f l[k] then [l[k]] else []) := by
  rw [List.take_succ_eq_append_getElem hk, List.filter_append]
  cases h : f l[k] with
  | true => rw [List.filter_cons_of_pos h, List.filter_nil, if_pos rfl]
  | false => rw [List.filter_cons_of_neg (by simp [h]), List.filter_nil, if_neg (by simp)]
set_option maxHeartbeats 4000000 in
set_option maxRecDepth 100000 in
theorem spec_l7Switch {l : List Tk} {js : List Jb} (hV : jobsV l js = true) {num den : Int} (V : JobsIn l js num den) (A : Option Addr) (c : Nat) (B : Option Addr) (d : Nat) (W0 : World) (hTS : TS W0 A l) (hJS : JS W0 B js) (now : Int) (hi : Bool) (nx : Int) (dn : List Int)
    (en : List Int) (lf : List Nat) (hen : en.length = js.length) (hlf : lf.length ≤ 20000) (hmem : ∀ i, i ∈ lf → i < js.length) {sw : List Int} (hsw : sw.length ≤ 1000) {Ae : Option Addr} {ce : Nat} {At : Option Addr} {ct : Nat} {tr : List Int} {As : Option Addr} {cs : Nat} {Aw : Option Addr} {cw : Nat}
    (w : World) (hB0 : Below W0.heap.size W0 w) (h : SRows W0.heap.size w Ae ce en At ct tr As cs sw Aw cw (wkOf dn lf)) :
    Calls Tryz.prog 70 #[.slice A l.length c, .slice B js.length d, stV (.slice Ae en.length ce) (.slice At tr.length ct) (.slice As sw.length cs) (.slice Aw lf.length cw) hi nx num den, .int .i64 now] w fun e w' => ∃ As' cs' Aw' cw', e = .returned (stV (.slice Ae en.length ce) (.slice At tr.length ct) (.slice As' (sw.length + 1) cs') (.slice Aw' (lf.filter (fun i => (tkAt l (jK js i)).crit)).length cw') true nx num den) ∧ SRows W0.heap.size w' Ae ce (dropTo l js lf en lf.length) At ct tr As' cs' (sw ++ [now]) Aw' cw' (wkOf dn (lf.filter (fun i => (tkAt l (jK js i)).crit))) ∧ Kp w w' ∧ Below W0.heap.size w w' := by
  have h60 : js.length ≤ 60 := by
    simp only [jobsV, Bool.and_eq_true, decide_eq_true_eq] at hV
    exact hV.1.2
  have hW0 := hB0.size
  obtain ⟨ne, hne⟩ : ∃ x, en.length = x := ⟨_, rfl⟩
  obtain ⟨nt, hnt⟩ : ∃ x, tr.length = x := ⟨_, rfl⟩
  obtain ⟨ns, hns⟩ : ∃ x, sw.length = x := ⟨_, rfl⟩
  rw [hne, hnt, hns]
  have Hne := Lib.hid (hne.symm.trans hen)
  have Hns := Lib.hid hns
  clear hne hnt hns
  have hg1 : ((((w.alloc (stC (.slice Ae ne ce) (.slice At nt ct) (.slice As ns cs) (.slice Aw lf.length cw) hi nx num den)).alloc (.cells #[.slice none 0 0, .slice none 0 0, .slice none 0 0, .bool false, .slice none 0 0, .int .i64 0, .int .i64 0, .int .i64 0] ST))).alloc (.cells #[] WT)).heap[w.heap.size]? = some (stC (.slice Ae ne ce) (.slice At nt ct) (.slice As ns cs) (.slice Aw lf.length cw) hi nx num den) :=
    (Below.heap_alloc _ _ _ (by simp; omega)).trans ((Below.heap_alloc _ _ _ (by simp)).trans (heap_alloc_new w _))
  have hsz : (w.alloc (stC (.slice Ae ne ce) (.slice At nt ct) (.slice As ns cs) (.slice Aw lf.length cw) hi nx num den)).heap.size = w.heap.size + 1 := by simp
  have hg2 := (Below.heap_alloc ((w.alloc (stC (.slice Ae ne ce) (.slice At nt ct) (.slice As ns cs) (.slice Aw lf.length cw) hi nx num den)).alloc (.cells #[.slice none 0 0, .slice none 0 0, .slice none 0 0, .bool false, .slice none 0 0, .int .i64 0, .int .i64 0, .int .i64 0] ST (0, 0))) (.cells #[] WT) _ (by simp)).trans (heap_alloc_new (w.alloc (stC (.slice Ae ne ce) (.slice At nt ct) (.slice As ns cs) (.slice Aw lf.length cw) hi nx num den)) (.cells #[.slice none 0 0, .slice none 0 0, .slice none 0 0, .bool false, .slice none 0 0, .int .i64 0, .int .i64 0, .int .i64 0] ST (0, 0)))
  rw [hsz] at hg2
  have bx2 := bal (bal (Below.refl w.heap.size w) (stC (.slice Ae ne ce) (.slice At nt ct) (.slice As ns cs) (.slice Aw lf.length cw) hi nx num den)) (.cells #[.slice none 0 0, .slice none 0 0, .slice none 0 0, .bool false, .slice none 0 0, .int .i64 0, .int .i64 0, .int .i64 0] ST (0, 0))
  have bx := bal bx2 (.cells #[] WT)
  have o9 : OW W0.heap.size _ (some ⟨((w.alloc (stC (.slice Ae ne ce) (.slice At nt ct) (.slice As ns cs) (.slice Aw lf.length cw) hi nx num den)).alloc (.cells #[.slice none 0 0, .slice none 0 0, .slice none 0 0, .bool false, .slice none 0 0, .int .i64 0, .int .i64 0, .int .i64 0] ST (0, 0))).heap.size, 0, none⟩) 0 [] := own_blank ((w.alloc (stC (.slice Ae ne ce) (.slice At nt ct) (.slice As ns cs) (.slice Aw lf.length cw) hi nx num den)).alloc (.cells #[.slice none 0 0, .slice none 0 0, .slice none 0 0, .bool false, .slice none 0 0, .int .i64 0, .int .i64 0, .int .i64 0] ST (0, 0))) WT 2 W0.heap.size (by simp; omega)
  have f9 := far_new (h.keep bx2).k (far_none Aw).symm (g := ((w.alloc (stC (.slice Ae ne ce) (.slice At nt ct) (.slice As ns cs) (.slice Aw lf.length cw) hi nx num den)).alloc (.cells #[.slice none 0 0, .slice none 0 0, .slice none 0 0, .bool false, .slice none 0 0, .int .i64 0, .int .i64 0, .int .i64 0] ST (0, 0))).heap.size) (.inr rfl)
  have hs2 : ((w.alloc (stC (.slice Ae ne ce) (.slice At nt ct) (.slice As ns cs) (.slice Aw lf.length cw) hi nx num den)).alloc (.cells #[.slice none 0 0, .slice none 0 0, .slice none 0 0, .bool false, .slice none 0 0, .int .i64 0, .int .i64 0, .int .i64 0] ST (0, 0))).heap.size = w.heap.size + 1 + 1 := by simp
  rw [hs2] at o9 f9
  have h1 := h.keep bx
  have k1 := (Kp.refl w).keep bx
  have hb1 := bx.mono hW0
  clear bx bx2 hsz hs2 h
  go_enter Tryz.func70, Tryz.ntmps70
  go_wp2_with fail
  generalize World.alloc (World.alloc (World.alloc w _) _) _ = w1 at hg1 hg2 o9 h1 k1 hb1 ⊢
  obtain ⟨g, hg⟩ : ∃ g, w.heap.size = g := ⟨_, rfl⟩
  rw [hg] at hg1 hg2 o9 f9 ⊢
  go_loopg [9, 10] lf.length (fun gg v iv wr => ∃ (k b9 c9 : Nat) (lk : List Nat), gg + k = lf.length ∧ iv = .int .i64 (k : Int) ∧ v = .slice (some ⟨b9, 0, none⟩) lk.length c9 ∧ Hid ((lf.take k).filter (fun i => (tkAt l (jK js i)).crit) = lk) ∧ Hid (wr.heap[g]? = some (stC (.slice Ae ne ce) (.slice At nt ct) (.slice As ns cs) (.slice Aw lf.length cw) hi nx num den)) ∧ Hid (wr.heap[g + 1]? = some (.cells #[.slice none 0 0, .slice none 0 0, .slice none 0 0, .bool false, .slice none 0 0, .int .i64 0, .int .i64 0, .int .i64 0] ST (0, 0))) ∧ SRows W0.heap.size wr Ae ce (dropTo l js lf en k) At ct tr As cs sw Aw cw (wkOf dn lf) ∧ OW W0.heap.size wr (some ⟨b9, 0, none⟩) c9 (wkOf dn lk) ∧ far Aw (some ⟨b9, 0, none⟩) ∧ Kp w wr ∧ Below W0.heap.size w wr)
  case atStart => exact ⟨0, g + 1 + 1, 0, [], by omega, rfl, rfl, rfl, hg1, hg2, h1, o9, f9, k1, hb1⟩
  case round =>
    clear hg1 hg2 h1 o9 f9 k1 hb1
    obtain ⟨k, b9, c9, lk, hgk, rfl, rfl, hlk, hg1, hg2, h1, o9, f9, k1, hb1⟩ := hrel
    have hB1 := hB0.trans hb1
    obtain ⟨s0, s1, s2, s3, s4, s5, s6, s7⟩ := blk8 hg1.out
    have sf := fun i => Lib.frozen_of_heap hg1.out i
    by_cases hkl : k < lf.length
    case neg =>
      obtain rfl : k = lf.length := by omega
      have e0 : decide ((lf.length : Int) < (lf.length : Int)) = false := decide_eq_false (by omega)
      have hlk2 := hlk.out
      rw [List.take_length] at hlk2
      have hle : W0.heap.size ≤ g := by omega
      have hWr := Nat.le_trans hW0 hb1.size
      have R1 : SRows W0.heap.size wr Ae ce (dropTo l js lf en lf.length) At ct tr As cs sw (some ⟨b9, 0, none⟩) c9 (wkOf dn lk) := ⟨h1.e, h1.t, h1.s, o9, h1.et, h1.es, h1.ts⟩
      have p1 := heap_setCell_same wr g 4 _ _ (.slice (some ⟨b9, 0, none⟩) lk.length c9) hg1.out
      have R2 := R1.setX hg1.out st1 st2 4 (.slice (some ⟨b9, 0, none⟩) lk.length c9)
      have K2 := k1.setX (by omega) (b := g) 4 (.slice (some ⟨b9, 0, none⟩) lk.length c9)
      have z2 := (Below.heap_setCell wr ⟨g, 4, none⟩ (.slice (some ⟨b9, 0, none⟩) lk.length c9) (g + 1) (by simp)).trans hg2.out
      have B2 := hb1.setCell (p := ⟨g, 4, none⟩) hle (.slice (some ⟨b9, 0, none⟩) lk.length c9)
      have p2 : ((wr.setCell ⟨g, 4, none⟩ (.slice (some ⟨b9, 0, none⟩) lk.length c9)).setCell ⟨g, 3, none⟩ (.bool true)).heap[g]? = some (stC (.slice Ae ne ce) (.slice At nt ct) (.slice As ns cs) (.slice (some ⟨b9, 0, none⟩) lk.length c9) true nx num den) := heap_setCell_same _ g 3 _ _ (.bool true) p1
      have R3 := R2.setX p1 st1 st2 3 (.bool true)
      have K3 := K2.setX (by omega) (b := g) 3 (.bool true)
      have z3 := (Below.heap_setCell (wr.setCell ⟨g, 4, none⟩ (.slice (some ⟨b9, 0, none⟩) lk.length c9)) ⟨g, 3, none⟩ (.bool true) (g + 1) (by simp)).trans z2
      have B3 := B2.setCell (p := ⟨g, 3, none⟩) hle (.bool true)
      clear p1 R2 K2 z2 B2 R1
      go_upto_region 11 with fail
      generalize World.setCell (World.setCell wr _ _) _ _ = w2 at p2 R3 K3 z3 B3 ⊢
      clear s0 s1 s2 s3 s4 s5 s6 s7 sf h1 o9 f9 k1 hb1 hg1 hg2 hB1
      obtain ⟨s0, s1, s2, s3, s4, s5, s6, s7⟩ := blk8 p2
      have sf := fun i => Lib.frozen_of_heap p2 i
      have hW2 := Nat.le_trans hW0 B3.size
      have hA := heap_alloc_new w2 (.cells #[.int .i64 now] 3 (0, 0))
      have bA := bal (Below.refl w2.heap.size w2) (.cells #[.int .i64 now] 3)
      have R4 := R3.keep bA
      have K4 := K3.keep bA
      have B4 := B3.trans (bA.mono hW2)
      have hp1 := (bA.block _ (Array.getElem?_eq_some_iff.1 p2).1).trans p2
      have hp2 := (bA.block _ (Array.getElem?_eq_some_iff.1 z3).1).trans z3
      have HP1 := Lib.hid hp1
      have HP2 := Lib.hid hp2
      clear bA hp1 hp2 R3 K3 B3
      go_upto_region 12 with (at_builtin; refine wpList_app_intO _ rfl _ _ rfl W0.heap.size As sw ns cs Hns.out ?a1 ?a2 w2.heap.size 1 now 3 ?a3 ?a4 ?a5 ?a6 _ rfl ?_; (case a1 => exact rfl); (case a2 => exact R4.s); (case a3 => exact rfl); (case a4 => exact hA); (case a5 => omega); (case a6 => simp; omega); intro g4 cc4 w4 o4 gb4 hat4 b4; rw [bk_eq] at gb4 hat4; have qq := row_same R4.s gb4 HP1.out st1; obtain ⟨y0, y1, y2, y3, y4, y5, y6, y7⟩ := blk8 qq; have yf := fun i => Lib.frozen_of_heap qq i)
      have p5 : (w4.setCell ⟨g, 2, none⟩ (.slice (some ⟨g4, 0, none⟩) (ns + 1) cc4)).heap[g]? = some (stC (.slice Ae ne ce) (.slice At nt ct) (.slice (some ⟨g4, 0, none⟩) (ns + 1) cc4) (.slice (some ⟨b9, 0, none⟩) lk.length c9) true nx num den) := heap_setCell_same w4 g 2 _ _ _ qq
      have R5 := (R4.appS o4 gb4 hat4).setX qq st1 st2 2 (.slice (some ⟨g4, 0, none⟩) (ns + 1) cc4)
      have z5 := (Below.heap_setCell w4 ⟨g, 2, none⟩ (.slice (some ⟨g4, 0, none⟩) (ns + 1) cc4) (g + 1) (by simp)).trans (row_same R4.s gb4 HP2.out st1)
      have K5 := (K4.row R4.s (.inl rfl) gb4).setX (by omega) (b := g) 2 (.slice (some ⟨g4, 0, none⟩) (ns + 1) cc4)
      have B5 := (B4.trans b4).setCell (p := ⟨g, 2, none⟩) hle (.slice (some ⟨g4, 0, none⟩) (ns + 1) cc4)
      generalize World.setCell w4 _ _ = w5 at p5 R5 z5 K5 B5 ⊢
      clear s0 s1 s2 s3 s4 s5 s6 s7 sf y0 y1 y2 y3 y4 y5 y6 y7 yf qq o4 gb4 hat4 b4 R4 K4 B4 hA
      obtain ⟨s0, s1, s2, s3, s4, s5, s6, s7⟩ := blk8 p5
      obtain ⟨z0, z1, z2, z3', z4, z5', z6, z7⟩ := blk8 z5
      have zf := fun i => Lib.frozen_of_heap z5 i
      go_wp2_with fail
      have hz := state_store z5 (.slice Ae ne ce) (.slice At nt ct) (.slice (some ⟨g4, 0, none⟩) (ns + 1) cc4) (.slice (some ⟨b9, 0, none⟩) lk.length c9) true nx num den
      obtain ⟨hzB, hzG⟩ := hz
      obtain ⟨y0, y1, y2, y3, y4, y5, y6, y7⟩ := blk8 hzB
      refine bodyPost_ret (v := stV (.slice Ae ne ce) (.slice At nt ct) (.slice (some ⟨g4, 0, none⟩) (ns + 1) cc4) (.slice (some ⟨b9, 0, none⟩) lk.length c9) true nx num den) (by simp [results, Tryz.results70, go_sem, y0, y1, y2, y3, y4, y5, y6, y7]) rfl ?_
      rw [hlk2]
      exact ⟨some ⟨g4, 0, none⟩, cc4, some ⟨b9, 0, none⟩, c9, rfl, R5.gbX hzG z5 st1 st2, K5.gbX hzG (by omega), B5.grown hzG (Nat.le_trans hW0 B5.size) (fun k hk => by cases hk; omega)⟩
    have e0 : decide ((k : Int) < (lf.length : Int)) = true := decide_eq_true (by omega)
    have hkI : (k : Int) < (lf.length : Int) := by omega
    have hm := hmem lf[k] (List.getElem_mem hkl)
    have hwl : (wkOf dn lf).length = lf.length := wk_len _ _
    obtain ⟨wb, hAw, hwb, hwbl, wc0, wc1, wcf⟩ := OW_cells h1.k k (by rw [hwl]; exact hkl)
    have hwk : (wkOf dn lf)[k]'(by rw [hwl]; exact hkl) = (lf[k], dn.getD lf[k] 0) := by simp [wkOf]
    rw [hwk] at wc0 wc1
    have hgd : lf.getD k 0 = lf[k] := by simp [hkl]
    have hdr : dropTo l js lf en (k + 1) = if (tkAt l (jK js lf[k])).crit then dropTo l js lf en k else (dropTo l js lf en k).set lf[k] (-2) := by
      simp only [dropTo]
      rw [hgd]
    have hfl : (lf.take (k + 1)).filter (fun i => (tkAt l (jK js i)).crit) = lk ++ (if (tkAt l (jK js lf[k])).crit then [lf[k]] else []) := by
      rw [filt_snoc _ lf k hkl, hlk.out]
    have HDR := Lib.hid hdr
    have HFL := Lib.hid hfl
    clear hdr hfl hgd hwk
    generalize lf[k] = i at hm wc0 wc1 HDR HFL
    obtain ⟨b, off, rfl, hbl, hc⟩ := (hJS.keep hB1) (by omega)
    obtain ⟨q0, q1, q2⟩ := job_cells hc i hm
    rw [← jobAt_eq js i hm] at q0 q1 q2
    obtain ⟨a0, a1, hta, hk, _, _⟩ := V.job i hm
    obtain ⟨tb, toff, rfl, htb, htc⟩ := (hTS.keep hB1) (by omega)
    obtain ⟨c0, c1, c2, c3, c4⟩ := cells_tk htc (jK js i) hk
    rw [hta] at q0
    clear hc htc c0 c1 c2 c3 q1 q2 a0 a1 hta
    have hiI : (i : Int) < (js.length : Int) := by omega
    have hkk : (jK js i : Int) < (l.length : Int) := by omega
    subst hAw
    cases hcr : (tkAt l (jK js i)).crit with
    | true =>
      rw [hcr] at c4
      have hde : Hid (dropTo l js lf en (k + 1) = dropTo l js lf en k) := by rw [Hid, HDR.out, hcr]; rfl
      have hfe : Hid ((lf.take (k + 1)).filter (fun i => (tkAt l (jK js i)).crit) = lk ++ [i]) := by rw [Hid, HFL.out, hcr]; rfl
      have hlkl : lk.length ≤ 20000 := by
        rw [← hlk.out]
        exact Nat.le_trans (List.length_filter_le _ _) (by rw [List.length_take]; omega)
      have hwn : wkOf dn (lk ++ [i]) = wkOf dn lk ++ [(i, dn.getD i 0)] := by simp [wkOf]
      dsimp only at wc0 wc1
      have HWN := Lib.hid hwn
      clear hwn
      generalize dn.getD i 0 = y at wc1 HWN
      have bA := Below.refl wr.heap.size wr
      have hA := heap_alloc_new wr (.cells #[.int .i64 (i : Int), .int .i64 y] WT (0, 0))
      have bA := bal bA (.cells #[.int .i64 (i : Int), .int .i64 y] WT)
      have hRa := h1.keep bA
      have kA := k1.keep bA
      have o9a := OW_keep o9 bA
      have hWr := Nat.le_trans hW0 hb1.size
      have BA := hb1.trans (bA.mono hWr)
      have hp1 := (bA.block _ (Array.getElem?_eq_some_iff.1 hg1.out).1).trans hg1.out
      have hp2 := (bA.block _ (Array.getElem?_eq_some_iff.1 hg2.out).1).trans hg2.out
      have HP1 := Lib.hid hp1
      have HP2 := Lib.hid hp2
      clear bA hp1 hp2
      go_wp2_with (at_builtin; refine wpList_app_workL _ rfl _ _ rfl W0.heap.size (some ⟨b9, 0, none⟩) (wkOf dn lk) lk.length c9 (wk_len _ _) ?a1 ?a2 wr.heap.size 1 (i, y) WT ?a3 ?a4 ?a5 ?a6 ?_; (case a1 => exact rfl); (case a2 => exact o9a); (case a3 => exact rfl); (case a4 => exact hA); (case a5 => rw [wk_len]; omega); (case a6 => simp; omega); intro g4 cc4 w4 o4 gb4 hat4 b4)
      have q1' := row_same o9a gb4 HP1.out st2
      have q2' := row_same o9a gb4 HP2.out st2
      have R4 := hRa.side o9a f9 gb4
      have f4 := far_new hRa.k f9 hat4
      have K4 := kA.row o9a (.inr rfl) gb4
      rw [← HWN.out] at o4
      rw [← hde.out] at R4
      have hlen : (lk ++ [i]).length = lk.length + 1 := by simp
      go_roundg (gk - 1)
      case measure => omega
      case rel => exact ⟨k + 1, g4, cc4, lk ++ [i], by omega, by go_num, by rw [hlen], hfe, q1', q2', R4, o4, f4, K4, BA.trans b4⟩
    | false =>
      rw [hcr] at c4
      have hde : Hid (dropTo l js lf en (k + 1) = (dropTo l js lf en k).set i (-2)) := by rw [Hid, HDR.out, hcr]; rfl
      have hfe : Hid ((lf.take (k + 1)).filter (fun i => (tkAt l (jK js i)).crit) = lk) := by rw [Hid, HFL.out, hcr]; simp
      obtain ⟨be, hAe, hbe, hbel, ⟨u, hu⟩, hfz, hR, hgE⟩ := h1.setE i (by rw [drop_len, hen]; exact hm) (-2)
      subst hAe
      rw [← hde.out] at hR
      have q1' := row_same h1.e hgE hg1.out st1
      have q2' := row_same h1.e hgE hg2.out st1
      have kp' := k1.row h1.e (.inl rfl) hgE
      have bl' := hb1.grown hgE (Nat.le_trans hW0 hb1.size) (fun k hk => by
        have : be = k := by simpa [bk, Value.ownBlock] using hk
        omega)
      have o9' := own_pastT o9 h1.e hgE wt1
      have hmE : (i : Int) < (ne : Int) := by have := Hne.out; omega
      go_wp2_with fail
      go_roundg (gk - 1)
      case measure => omega
      case rel => exact ⟨k + 1, b9, c9, lk, by omega, by go_num, rfl, hfe, q1', q2', hR, o9', f9, kp', bl'⟩
end

section
open Go.RowKit

theorem flatW_length (l : List (Nat × Int)) : (flatW l).length = 2 * l.length := by
  induction l with
  | nil => rfl
  | cons t l ih =>
    have e : flatW (t :: l) = (.int .i64 (t.1 : Int)) :: (.int .i64 t.2) :: flatW l := by simp [flatW]
    rw [e, List.length_cons, List.length_cons, ih, List.length_cons]
    omega
theorem flatW_cells (l : List (Nat × Int)) : ∀ u ∈ flatW l, u.oneCell' = true := by
  intro u hu
  simp only [flatW, List.mem_flatMap] at hu
  obtain ⟨p, _, hp⟩ := hu
  simp at hp
  rcases hp with rfl | rfl <;> rfl
theorem flatW_take (l : List (Nat × Int)) (k : Nat) : flatW (l.take k) = (flatW l).take (k * 2) := by
  induction l generalizing k with
  | nil => simp [flatW]
  | cons t l ih =>
    have e : flatW (t :: l) = (.int .i64 (t.1 : Int)) :: (.int .i64 t.2) :: flatW l := by simp [flatW]
    cases k with
    | zero => simp [flatW]
    | succ k =>
      have e2 : flatW ((t :: l).take (k + 1)) = (.int .i64 (t.1 : Int)) :: (.int .i64 t.2) :: flatW (l.take k) := by simp [flatW]
      have h1 : (k + 1) * 2 = k * 2 + 1 + 1 := by omega
      rw [e2, e, h1, ih k]
      simp
theorem flatW_drop (l : List (Nat × Int)) (k : Nat) : flatW (l.drop k) = (flatW l).drop (k * 2) := by
  induction l generalizing k with
  | nil => simp [flatW]
  | cons t l ih =>
    have e : flatW (t :: l) = (.int .i64 (t.1 : Int)) :: (.int .i64 t.2) :: flatW l := by simp [flatW]
    cases k with
    | zero => simp
    | succ k =>
      have h1 : (k + 1) * 2 = k * 2 + 1 + 1 := by omega
      rw [List.drop_succ_cons, e, h1, ih k]
      simp
/-- append of works, at a step of a region that draws. -/
theorem wp_app_works {w : World} {o : Oper} {a : Act} {K : Act → World → Prop} {Q : Exit → Act → World → Prop} (s x : Operand)
    (ho : o.op = .call { callee := .builtin .append, args := #[s, x], argTypes := #[63, 63] })
    (base : Nat) (A : Option Addr) (l : List (Nat × Int)) (n c : Nat) (hn : l.length = n) (hs : a.eval s = .slice A n c) (hown : OW base w A c l)
    (ad : Addr) (j c1 : Nat) (m : List (Nat × Int)) (hj : m.length = j) (hx : a.eval x = .slice (some ad) j c1) (hm : ∀ k u, (flatW m)[k]? = some u → w.cell? (ad.add k) = some u)
    (hl : l.length ≤ 2000000) (hlm : m.length ≤ 2000000) (hbase : base ≤ w.heap.size)
    (h : ∀ A' c' w', OW base w' A' c' (l ++ m) → w.grownBy w' (bk A) → Below base w w' → K (a.put o.dst (.slice A' (n + j) c')) w') : Oper.wp Tryz.prog o a w K Q := by
  subst hn hj
  obtain ⟨i0, hi, hz0, hz1, hz2⟩ := info_parts infoWork
  refine wp_append_own w s x 63 ho base WT i0 _ 2 16 Tryz.underlying63 hi hz0 hz1 hz2 rfl (by decide) (.slice A l.length c) l.length (flatW l) hs hown
    ad m.length c1 (flatW m) hx (by rw [flatW_length, Nat.mul_comm]) hm (flatW_cells m) (by unfold maxLen; omega) (by omega) hbase ?_
  intro v' w' hown' hg _
  obtain ⟨A', c', rfl⟩ := own_form hown'
  have hg2 := hg
  rw [bk_eq] at hg2
  refine h A' c' w' ?_ hg2 (own_below hown hg hbase)
  unfold OW
  rw [List.length_append, flatW_append]
  exact hown'
theorem flatW_set (l : List (Nat × Int)) (i : Nat) (hi : i < l.length) (x : Int) : flatW (l.set i (l[i].1, x)) = (flatW l).set (i * 2 + 1) (.int .i64 x) := by
  induction l generalizing i with
  | nil => simp at hi
  | cons t l ih =>
    have e : flatW (t :: l) = (.int .i64 (t.1 : Int)) :: (.int .i64 t.2) :: flatW l := by simp [flatW]
    cases i with
    | zero => simp [flatW]
    | succ i =>
      have hi' : i < l.length := by simpa using hi
      have h1 : (i + 1) * 2 + 1 = i * 2 + 1 + 1 + 1 := by omega
      have e2 : flatW ((t :: l).set (i + 1) ((t :: l)[i + 1].1, x)) = (.int .i64 (t.1 : Int)) :: (.int .i64 t.2) :: flatW (l.set i (l[i].1, x)) := by simp [flatW]
      rw [e2, e, h1, ih i hi']
      simp
/-- How much of a job is done: one number stored. -/
theorem SRows.setW {base : Nat} {w : World} {Ae : Option Addr} {ce : Nat} {en : List Int} {At : Option Addr} {ct : Nat} {tr : List Int} {As : Option Addr} {cs : Nat} {sw : List Int} {wb cw : Nat} {wk : List (Nat × Int)} (h : SRows base w Ae ce en At ct tr As cs sw (some ⟨wb, 0, none⟩) cw wk) (i : Nat) (hi : i < wk.length) (x : Int) :
    SRows base (w.setCell ⟨wb, i * 2 + 1, none⟩ (.int .i64 x)) Ae ce en At ct tr As cs sw (some ⟨wb, 0, none⟩) cw (wk.set i (wk[i].1, x)) ∧ w.grownBy (w.setCell ⟨wb, i * 2 + 1, none⟩ (.int .i64 x)) (bk (some ⟨wb, 0, none⟩)) := by
  have hg : w.grownBy (w.setCell ⟨wb, i * 2 + 1, none⟩ (.int .i64 x)) (bk (some ⟨wb, 0, none⟩)) := oi_gb_cell w wb (i * 2 + 1) (.int .i64 x)
  have h1 := World.ownsRow.stored h.k (i * 2 + 1) (.int .i64 x)
  refine ⟨h.appW ?_ hg, hg⟩
  unfold OW
  rw [List.length_set, flatW_set wk i hi x]
  exact h1.1
theorem work_take {w : World} {base wb cw : Nat} {wk : List (Nat × Int)} (h : OW base w (some ⟨wb, 0, none⟩) cw wk) (k : Nat) : ∀ j u, (flatW (wk.take k))[j]? = some u → w.cell? ((⟨wb, 0, none⟩ : Addr).add j) = some u := by
  intro j u hu
  rw [flatW_take, List.getElem?_take] at hu
  split at hu
  · exact World.ownsRow.cells h (g := wb) rfl j u hu
  · cases hu
theorem work_drop {w : World} {base wb cw : Nat} {wk : List (Nat × Int)} (h : OW base w (some ⟨wb, 0, none⟩) cw wk) (k : Nat) (hk : k ≤ wk.length) : ∃ A : Addr, (if cw = k then (some (⟨wb, 0, none⟩ : Addr)) else some ⟨wb, k * 2, none⟩) = some A ∧ ∀ w' : World, (∀ j u, (flatW wk)[j]? = some u → w'.cell? ((⟨wb, 0, none⟩ : Addr).add j) = some u) → ∀ j u, (flatW (wk.drop k))[j]? = some u → w'.cell? (A.add j) = some u := by
  have hsz := own_size h
  by_cases hc : cw = k
  · refine ⟨⟨wb, 0, none⟩, by simp [hc], fun w' _ j u hu => ?_⟩
    have : wk.drop k = [] := List.drop_eq_nil_of_le (by omega)
    rw [this] at hu
    simp [flatW] at hu
  · refine ⟨⟨wb, k * 2, none⟩, by simp [hc], fun w' hw j u hu => ?_⟩
    rw [flatW_drop wk k, List.getElem?_drop] at hu
    have := hw _ u hu
    rw [addr_add0] at this
    rw [Go.WideShapes.add_plain]
    exact this
theorem wk_cells {base wb cw : Nat} {w : World} {dn : List Int} {lf : List Nat} (h : OW base w (some ⟨wb, 0, none⟩) cw (wkOf dn lf)) (k : Nat) (hk : k < lf.length) :
    w.cell? ⟨wb, k * 2, none⟩ = some (.int .i64 (lf.getD k 0 : Nat)) ∧ w.cell? ⟨wb, k * 2 + 1, none⟩ = some (.int .i64 (dn.getD (lf.getD k 0) 0)) ∧ ∀ i, w.frozen? ⟨wb, i, none⟩ = false := by
  obtain ⟨b, hA, _, _, c0, c1, cf⟩ := OW_cells h k (by rw [wk_len]; exact hk)
  injection hA with hA
  injection hA with hA _ _
  subst hA
  have hwk : (wkOf dn lf)[k]'(by rw [wk_len]; exact hk) = (lf.getD k 0, dn.getD (lf.getD k 0) 0) := by simp [wkOf, hk]
  rw [hwk] at c0 c1
  exact ⟨c0, c1, cf⟩
theorem jb_cells {w : World} {js : List Jb} {jb joff : Nat} (h : JS w (some ⟨jb, joff, none⟩) js) (i : Nat) (hi : i < js.length) :
    w.cell? ⟨jb, joff + i * 3, none⟩ = some (.int .i64 (jobAt js i).task) ∧ w.cell? ⟨jb, joff + i * 3 + 1, none⟩ = some (.int .i64 (jobAt js i).at_) ∧ w.cell? ⟨jb, joff + i * 3 + 2, none⟩ = some (.int .i64 (jobAt js i).need) := by
  obtain ⟨b, off, hA, _, hc⟩ := h (by omega)
  injection hA with hA
  injection hA with hA hO _
  subst hA hO
  rw [jobAt_eq js i hi]
  exact job_cells hc i hi
end

section
open Go.RowKit

theorem best0 (l : List Tk) (js : List Jb) (n d n' d' : Int) (hi : Bool) (lf : List Nat) : bestOf l js n d 0 hi lf = bestOf l js n' d' 0 hi lf := by
  have e : goesB l js n d 0 hi = goesB l js n' d' 0 hi := by
    funext a b
    simp [goesB]
  unfold bestOf
  rw [e]
theorem mrun0 (l : List Tk) (js : List Jb) (n d n' d' : Int) (k : Nat) : mrun l js n d 0 k = mrun l js n' d' 0 k := by
  induction k with
  | zero => rfl
  | succ k ih =>
    simp only [mrun]
    rw [ih]
    unfold mstep
    simp only [best0 l js n d n' d']
/-- At the start nothing has come. -/
theorem sinv0 {l : List Tk} {js : List Jb} {num den pol : Int} (hv : jobsV l js = true) : SInv l js 0 (mrun l js num den pol 0) 0 := by
  have hS : setVld l = true := by
    simp only [jobsV, Bool.and_eq_true] at hv
    exact hv.1.1
  refine ⟨minv (apart_of hv) (fun k hk => tkAt_vld hS hk) 0, ⟨Nat.zero_le _, fun i hi => by omega, fun i _ hi => (apart_of hv).at0 i hi⟩, List.nodup_nil⟩
end
end Go.Proofs.YtmkjmancmiphfaaGreatDoor
