/-
  The walks of demand and l3Demand.
-/
import Derived.Test.YtmkjmancmiphfaaGreatDoorRise
import Derived.Test.YtmkjmancmiphfaaGreatDoorSumOf
namespace Go.Proofs.YtmkjmancmiphfaaGreatDoor
open Go.RowKit

theorem jobs_tdiv {t : Tk} (h : vld t = true) {x : Int} (hx : 0 ≤ x) : (x + t.every - 1).tdiv t.every = jobsOf t x := by
  have := vld_nums h
  unfold jobsOf
  rw [Int.tdiv_eq_ediv_of_nonneg (by omega)]

theorem impl_demand (t : Tk) (x : Int) (b : Bool) (w : World) (h : vld t = true) (hx : 0 ≤ x) (hxm : x ≤ 2000000) :
    Calls Tryz.prog 184 #[t.val, .int .i64 x, .bool b] w fun e w' => e = .returned (.int .i64 (demF t x b)) ∧ Below w.heap.size w w' := by
  have hn := vld_nums h
  obtain ⟨n1, n2, n3, n4, n5⟩ := hn
  have hJ := jobs_tdiv h hx
  have hb := jobsOf_bd h hx
  have hd : demF t x b = jobsOf t x * needOf t b := rfl
  have Hd := Lib.hid hd
  clear hd
  obtain ⟨J, hJJ⟩ : ∃ J, jobsOf t x = J := ⟨_, rfl⟩
  rw [hJJ] at hJ hb
  obtain ⟨b1, b2⟩ := hb
  have m1 := mul_bd b1 b2 (show 0 ≤ t.low by omega) (show t.low ≤ 20 by omega) hx
  have m2 := mul_bd b1 b2 (show 0 ≤ t.high by omega) (show t.high ≤ 20 by omega) hx
  obtain ⟨m10, m11⟩ := m1
  obtain ⟨m20, m21⟩ := m2
  have hne : (t.every == 0) = false := beq_eq_false_iff_ne.2 (by omega)
  have HJ := Lib.hid hJJ
  clear hJJ
  cases b
  all_goals
    go_enter Tryz.func184, Tryz.ntmps184
    go_wp2_with fail
  all_goals go_ret
  all_goals refine ⟨?_, bal (Below.refl _ _) _⟩
  all_goals (rw [Hd.out, HJ.out]; simp [needOf, *])

theorem spec_l3Demand (t : Tk) (x : Int) (b : Bool) (w : World) (h : vld t = true) (hx : 0 ≤ x) (hxm : x ≤ 2000000) :
    Calls Tryz.prog 201 #[t.val, .int .i64 x, .bool b] w fun e w' => e = .returned (.int .i64 (demF t x b)) ∧ Below w.heap.size w w' := by
  have hn := vld_nums h
  obtain ⟨n1, n2, n3, n4, n5⟩ := hn
  have hJ := jobs_tdiv h hx
  have hb := jobsOf_bd h hx
  have hd : demF t x b = jobsOf t x * needOf t b := rfl
  have Hd := Lib.hid hd
  clear hd
  obtain ⟨J, hJJ⟩ : ∃ J, jobsOf t x = J := ⟨_, rfl⟩
  rw [hJJ] at hJ hb
  obtain ⟨b1, b2⟩ := hb
  have m1 := mul_bd b1 b2 (show 0 ≤ t.low by omega) (show t.low ≤ 20 by omega) hx
  have m2 := mul_bd b1 b2 (show 0 ≤ t.high by omega) (show t.high ≤ 20 by omega) hx
  obtain ⟨m10, m11⟩ := m1
  obtain ⟨m20, m21⟩ := m2
  have hne : (t.every == 0) = false := beq_eq_false_iff_ne.2 (by omega)
  have HJ := Lib.hid hJJ
  clear hJJ
  cases b
  all_goals
    go_enter Tryz.func201, Tryz.ntmps201
    go_wp2_with fail
  all_goals go_ret
  all_goals refine ⟨?_, bal (Below.refl _ _) _⟩
  all_goals (rw [Hd.out, HJ.out]; simp [needOf, *])

/-! ### The sums, and response times -/
def tkAt (l : List Tk) (k : Nat) : Tk := l.getD k ⟨0, 0, 0, 0, false⟩
theorem tkAt_eq (l : List Tk) (k : Nat) (h : k < l.length) : tkAt l k = l[k] := by simp [tkAt, h]
theorem tkAt_vld {l : List Tk} (h : setVld l = true) {k : Nat} (hk : k < l.length) : vld (tkAt l k) = true := by
  rw [tkAt_eq l k hk]
  exact (setVld_all h).2 _ (List.getElem_mem hk)
def lowSum (l : List Tk) (n : Nat) (w : Int) : Int := sumTo (fun k => demF (tkAt l k) w false) n
def nextLow (l : List Tk) (at_ : Nat) (w : Int) : Int := (tkAt l at_).low + lowSum l at_ w
def respLow (l : List Tk) (at_ : Nat) : Option Int := risen (nextLow l at_) (tkAt l at_).low (tkAt l at_).due
def swDem (t : Tk) (low w : Int) : Int := if t.crit then demF t w true else demF t low false
def swSum (l : List Tk) (low : Int) (n : Nat) (w : Int) : Int := sumTo (fun k => swDem (tkAt l k) low w) n
def nextSw (l : List Tk) (low : Int) (at_ : Nat) (w : Int) : Int := (tkAt l at_).high + swSum l low at_ w
def respSw (l : List Tk) (at_ : Nat) : Option Int :=
  match respLow l at_ with
  | none => none
  | some low => if (tkAt l at_).crit then risen (nextSw l low at_) (tkAt l at_).high (tkAt l at_).due else none
def plc (l : List Tk) (x : Int) : Bool := setVld l && decide (0 ≤ x) && decide (x < l.length)
def rLow (l : List Tk) (x : Int) : Option Int := if plc l x then respLow l x.toNat else none
def rSw (l : List Tk) (x : Int) : Option Int := if plc l x then respSw l x.toNat else none
def holdsAt (l : List Tk) (k : Nat) : Bool := if (tkAt l k).crit then (respSw l k).isSome else (respLow l k).isSome
def holdsX (l : List Tk) (x : Int) : Bool := plc l x && holdsAt l x.toNat
def hldBoth (l : List Tk) : Bool := setVld l && (List.range l.length).all (holdsAt l)

theorem lowSum_mono {l : List Tk} (h : setVld l = true) {n : Nat} (hn : n ≤ l.length) {v w : Int} (hw : v ≤ w) : lowSum l n v ≤ lowSum l n w :=
  sumTo_le fun k hk => demF_mono (tkAt_vld h (by omega)) _ hw
theorem nextLow_mono {l : List Tk} (h : setVld l = true) {n : Nat} (hn : n ≤ l.length) {v w : Int} (hw : v ≤ w) : nextLow l n v ≤ nextLow l n w := by
  have := lowSum_mono h hn hw
  simp only [nextLow]
  omega
theorem swDem_mono {t : Tk} (h : vld t = true) (low : Int) {v w : Int} (hw : v ≤ w) : swDem t low v ≤ swDem t low w := by
  unfold swDem
  split
  · exact demF_mono h _ hw
  · omega
theorem swSum_mono {l : List Tk} (h : setVld l = true) (low : Int) {n : Nat} (hn : n ≤ l.length) {v w : Int} (hw : v ≤ w) : swSum l low n v ≤ swSum l low n w :=
  sumTo_le fun k hk => swDem_mono (tkAt_vld h (by omega)) _ hw
theorem nextSw_mono {l : List Tk} (h : setVld l = true) (low : Int) {n : Nat} (hn : n ≤ l.length) {v w : Int} (hw : v ≤ w) : nextSw l low n v ≤ nextSw l low n w := by
  have := swSum_mono h low hn hw
  simp only [nextSw]
  omega
theorem lowSum_bd {l : List Tk} (h : setVld l = true) {n : Nat} (hn : n ≤ l.length) {w : Int} (h0 : 0 ≤ w) (h1 : w ≤ 20) : 0 ≤ lowSum l n w ∧ lowSum l n w ≤ n * 400 :=
  ⟨sumTo_nonneg fun k hk => (demF_bd (tkAt_vld h (by omega)) _ h0).1, sumTo_bd fun k hk => by have := (demF_bd (tkAt_vld h (show k < l.length by omega)) false h0).2; omega⟩
theorem swDem_bd {t : Tk} (h : vld t = true) {low w : Int} (hl : 0 ≤ low) (hl1 : low ≤ 20) (h0 : 0 ≤ w) (h1 : w ≤ 20) : 0 ≤ swDem t low w ∧ swDem t low w ≤ 400 := by
  have a := demF_bd h true h0
  have b := demF_bd h false hl
  unfold swDem
  split <;> omega
theorem swSum_bd {l : List Tk} (h : setVld l = true) {low : Int} (hl : 0 ≤ low) (hl1 : low ≤ 20) {n : Nat} (hn : n ≤ l.length) {w : Int} (h0 : 0 ≤ w) (h1 : w ≤ 20) : 0 ≤ swSum l low n w ∧ swSum l low n w ≤ n * 400 :=
  ⟨sumTo_nonneg fun k hk => (swDem_bd (tkAt_vld h (by omega)) hl hl1 h0 h1).1, sumTo_bd fun k hk => (swDem_bd (tkAt_vld h (by omega)) hl hl1 h0 h1).2⟩
end Go.Proofs.YtmkjmancmiphfaaGreatDoor
