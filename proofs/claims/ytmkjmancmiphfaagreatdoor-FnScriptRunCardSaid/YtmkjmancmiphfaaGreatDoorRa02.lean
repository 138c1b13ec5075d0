/-
  Jobs: which are valid, the worst ones, put in order: in plain Lean.
  The random source of the draws: pick and num return numbers in range, and change only the source.
-/
import Derived.Test.YtmkjmancmiphfaaGreatDoorRa01
import Derived.Laws.BitsAllLaws
import Derived.Laws.BitsLemmas
namespace Go.Proofs.YtmkjmancmiphfaaGreatDoor
section
open Go.RowKit

def jobAt (l : List Jb) (k : Nat) : Jb := l.getD k ⟨0, 0, 0⟩
theorem jobAt_eq (l : List Jb) (k : Nat) (h : k < l.length) : jobAt l k = l[k] := by simp [jobAt, h]
/-- A job is one of the tasks. -/
def jobOfB (l : List Tk) (j : Jb) : Bool := plc l j.task && decide (0 ≤ j.at_) && decide (j.at_ ≤ 200) && decide (1 ≤ j.need) && decide (j.need ≤ (tkAt l j.task.toNat).high)
def befJ (a b : Jb) : Bool := decide (a.at_ < b.at_) || (decide (a.at_ = b.at_) && decide (a.task < b.task))
/-- Far enough from an earlier job of its task. -/
def farJ (l : List Tk) (j k : Jb) : Bool := !(decide (k.task = j.task) && decide (j.at_ - k.at_ < (tkAt l j.task.toNat).every))
def jobOk (l : List Tk) (js : List Jb) (i : Nat) : Bool := jobOfB l (jobAt js i) && (js.take i).all (farJ l (jobAt js i)) && (decide (i = 0) || befJ (jobAt js (i - 1)) (jobAt js i))
def jobsV (l : List Tk) (js : List Jb) : Bool := setVld l && decide (js.length ≤ 60) && (List.range js.length).all (jobOk l js)
/-- When the last job of a task came. -/
def lastAt (xs : List Jb) (t : Int) : Int := xs.foldl (fun a k => if k.task = t then k.at_ else a) (-20)
def jobOkS (l : List Tk) (js : List Jb) (i : Nat) : Bool := jobOfB l (jobAt js i) && (decide (i = 0) || befJ (jobAt js (i - 1)) (jobAt js i)) && !decide ((jobAt js i).at_ - lastAt (js.take i) (jobAt js i).task < (tkAt l (jobAt js i).task.toNat).every)
theorem snocInd {α : Type} {P : List α → Prop} (h0 : P []) (h1 : ∀ xs x, P xs → P (xs ++ [x])) (l : List α) : P l := by
  rw [← l.reverse_reverse]
  induction l.reverse with
  | nil => exact h0
  | cons a r ih =>
    rw [List.reverse_cons]
    exact h1 _ _ ih
theorem lastAt_snoc (xs : List Jb) (k : Jb) (t : Int) : lastAt (xs ++ [k]) t = if k.task = t then k.at_ else lastAt xs t := by simp [lastAt, List.foldl_append]
theorem lastAt_or (xs : List Jb) (t : Int) : lastAt xs t = -20 ∨ ∃ k ∈ xs, k.task = t ∧ k.at_ = lastAt xs t := by
  induction xs using snocInd with
  | h0 => exact .inl rfl
  | h1 xs k ih =>
    rw [lastAt_snoc]
    by_cases h : k.task = t
    · rw [if_pos h]
      exact .inr ⟨k, by simp, h, rfl⟩
    · rw [if_neg h]
      rcases ih with ih | ⟨q, hq, h1, h2⟩
      · exact .inl ih
      · exact .inr ⟨q, by simp [hq], h1, h2⟩
theorem lastAt_ge (xs : List Jb) (t : Int) (hs : xs.Pairwise (fun a b => a.at_ ≤ b.at_)) : ∀ k ∈ xs, k.task = t → k.at_ ≤ lastAt xs t := by
  induction xs using snocInd with
  | h0 => simp
  | h1 xs q ih =>
    rw [List.pairwise_append] at hs
    intro k hk hkt
    rw [lastAt_snoc]
    rw [List.mem_append, List.mem_singleton] at hk
    rcases hk with hk | rfl
    · split
      · exact hs.2.2 k hk q (by simp)
      · exact ih hs.1 k hk hkt
    · rw [if_pos hkt]
      exact Int.le_refl _
theorem take_sorted {js : List Jb} {n : Nat} (hn : n ≤ js.length) (h : ∀ i, i < n → i = 0 ∨ befJ (jobAt js (i - 1)) (jobAt js i) = true) : (js.take n).Pairwise (fun a b => a.at_ ≤ b.at_) := by
  induction n with
  | zero => simp
  | succ n ih =>
    have hlt : n < js.length := by omega
    have ihh := ih (by omega) (fun i hi => h i (by omega))
    rw [List.take_succ_eq_append_getElem hlt, List.pairwise_append]
    refine ⟨ihh, by simp, ?_⟩
    intro a ha b hb
    rw [List.mem_singleton] at hb
    subst hb
    cases n with
    | zero => simp at ha
    | succ m =>
      have hm : m < js.length := by omega
      have hb := h (m + 1) (by omega)
      rcases hb with hb | hb
      · omega
      · have e1 : jobAt js (m + 1 - 1) = js[m] := by rw [jobAt_eq js _ (by omega)]; rfl
        rw [e1, jobAt_eq js _ hlt] at hb
        have hle : js[m].at_ ≤ js[m + 1].at_ := by
          simp only [befJ, Bool.or_eq_true, Bool.and_eq_true, decide_eq_true_eq] at hb
          omega
        rw [List.take_succ_eq_append_getElem hm, List.pairwise_append] at ihh
        rw [List.take_succ_eq_append_getElem hm, List.mem_append, List.mem_singleton] at ha
        rcases ha with ha | rfl
        · exact Int.le_trans (ihh.2.2 a ha _ (by simp)) hle
        · exact hle
theorem jobOk_iff {l : List Tk} {js : List Jb} {i : Nat} (hi : i < js.length) (hall : ∀ j, j < i → jobOk l js j = true) : jobOk l js i = jobOkS l js i := by
  have hs : (js.take i).Pairwise (fun a b => a.at_ ≤ b.at_) := take_sorted (by omega) (fun j hj => by
    have := hall j hj
    simp only [jobOk, Bool.and_eq_true, Bool.or_eq_true, decide_eq_true_eq] at this
    exact this.2)
  generalize hj : jobAt js i = j
  unfold jobOk jobOkS
  rw [hj]
  cases hO : jobOfB l j with
  | false => simp
  | true =>
    have hO' := hO
    simp only [jobOfB, Bool.and_eq_true, decide_eq_true_eq] at hO'
    obtain ⟨⟨⟨⟨hp, h0⟩, h1⟩, h2⟩, h3⟩ := hO'
    have hev : (tkAt l j.task.toNat).every ≤ 20 := by
      simp only [plc, Bool.and_eq_true, decide_eq_true_eq] at hp
      have hv := tkAt_vld hp.1.1 (k := j.task.toNat) (by omega)
      simp only [vld, Bool.and_eq_true, decide_eq_true_eq] at hv
      omega
    have key : (js.take i).all (farJ l j) = !decide (j.at_ - lastAt (js.take i) j.task < (tkAt l j.task.toNat).every) := by
      rw [Bool.eq_iff_iff, List.all_eq_true]
      simp only [farJ, Bool.not_eq_true', Bool.and_eq_false_iff, decide_eq_false_iff_not]
      constructor
      · intro h
        rcases lastAt_or (js.take i) j.task with e | ⟨k, hk, e1, e2⟩
        · omega
        · have := h k hk
          omega
      · intro h k hk
        by_cases e : k.task = j.task
        · have := lastAt_ge _ _ hs k hk e
          omega
        · exact .inl e
    rw [key]
    simp only [Bool.true_and, Bool.and_comm]
/-- The worst jobs that come at a time, of the first k tasks. -/
def wjTo (l : List Tk) (at_ : Int) (high : Bool) : Nat → List Jb
  | 0 => []
  | k + 1 => wjTo l at_ high k ++ (if at_ % (tkAt l k).every = 0 then [⟨(k : Int), at_, if high then (tkAt l k).high else (tkAt l k).low⟩] else [])
def wjAll (l : List Tk) (high : Bool) : Nat → List Jb
  | 0 => []
  | n + 1 => wjAll l high n ++ wjTo l (n : Int) high l.length
def worst (l : List Tk) (n : Int) (high : Bool) : Option (List Jb) :=
  if setVld l && decide (0 ≤ n) && decide (n ≤ 200) && decide ((wjAll l high n.toNat).length ≤ 60) then some (wjAll l high n.toNat) else none
def worstL (l : List Tk) (n : Int) (high : Bool) : List Jb := (worst l n high).getD []
theorem wjTo_le (l : List Tk) (a : Int) (high : Bool) {k n : Nat} (h : k ≤ n) : (wjTo l a high k).length ≤ (wjTo l a high n).length := by
  induction n with
  | zero => rw [show k = 0 by omega]; exact Nat.le_refl _
  | succ n ih =>
    by_cases e : k = n + 1
    · rw [e]; exact Nat.le_refl _
    · have := ih (by omega)
      simp only [wjTo, List.length_append]
      omega
theorem wjAll_le (l : List Tk) (high : Bool) {k n : Nat} (h : k ≤ n) : (wjAll l high k).length ≤ (wjAll l high n).length := by
  induction n with
  | zero => rw [show k = 0 by omega]; exact Nat.le_refl _
  | succ n ih =>
    by_cases e : k = n + 1
    · rw [e]; exact Nat.le_refl _
    · have := ih (by omega)
      simp only [wjAll, List.length_append]
      omega
end

section
open Go.RowKit

theorem ofInt_i64 (a : Nat) (ha : a < 9223372036854775808) : (BitVec.ofInt 64 (a : Int)).toNat = a := by
  rw [BitVec.ofInt_natCast, BitVec.toNat_ofNat]; exact Nat.mod_eq_of_lt (by omega)
theorem i64_xor_nat (a b : Nat) (ha : a < 9223372036854775808) (hb : b < 9223372036854775808) : bits .xor .i64 (a : Int) (b : Int) = ((a ^^^ b : Nat) : Int) := by
  have hx : a ^^^ b < 2 ^ 63 := Nat.xor_lt_two_pow (by omega) (by omega)
  show IntKind.i64.wrap ((BitVec.ofInt 64 (a : Int) ^^^ BitVec.ofInt 64 (b : Int)).toNat : Int) = _
  rw [BitVec.toNat_xor, ofInt_i64 a ha, ofInt_i64 b hb, IntKind.wrap_i64]
  omega

/-- The bytes of a code, in memory. -/
def BS (w : World) (A : Option Addr) (l : List Int) : Prop :=
  (∀ x ∈ l, 0 ≤ x ∧ x ≤ 255) ∧ (0 < l.length → ∃ b off, A = some ⟨b, off, none⟩ ∧ b < w.heap.size ∧ ∀ j u, l[j]? = some u → w.cell? ⟨b, off + j, none⟩ = some (.int .u8 u))

/-- The random source at block g, p numbers drawn: it lies among the call's own blocks, the bytes that it reads lie below. -/
structure RD (W w : World) (g p : Nat) : Prop where
  below : Below W.heap.size W w
  new : W.heap.size ≤ g
  src : ∃ (A : Option Addr) (l : List Int) (c : Nat), w.heap[g]? = some (.cells #[.slice A l.length c, .int .i64 (p : Int)] 98 (0, 0)) ∧ BS W A l ∧ l.length ≤ 2000
  small : p ≤ 1099511627776

theorem RD.lt {W w : World} {g p : Nat} (h : RD W w g p) : g < w.heap.size := by
  obtain ⟨A, l, c, hh, _⟩ := h.src
  exact (Array.getElem?_eq_some_iff.1 hh).1

theorem gb_set {w : World} {g : Nat} {p : Addr} (hp : p.block = g) (u : Value) : w.grownBy (w.setCell p u) (some g) :=
  ⟨rfl, rfl, rfl, by simp [World.setCell], fun k _ hne => Below.heap_setCell w p u k (fun e => hne (by rw [e, hp]))⟩
theorem gb_drew {a w : World} {row : Option Nat} (h : a.grownBy w row) (n : Nat) : a.grownBy (w.drewN n) row := ⟨h.os, h.tape, h.output, h.size, h.block⟩
theorem gb_trans {a b c : World} {row : Option Nat} (h : a.grownBy b row) (k : b.grownBy c row) : a.grownBy c row :=
  ⟨k.os.trans h.os, k.tape.trans h.tape, k.output.trans h.output, Nat.le_trans h.size k.size, fun i hi hne => (k.block i (Nat.lt_of_lt_of_le hi h.size) hne).trans (h.block i hi hne)⟩
theorem gb_alloc {a w : World} {row : Option Nat} (h : a.grownBy w row) (o : Obj) : a.grownBy (w.alloc o) row := gb_trans h (World.grownBy_alloc w o row)

/-- What is only the source's change keeps a row of the call's own of another type. -/
theorem own_only {base : Nat} {w w' : World} {t : TypeId} {size : Nat} {v : Value} {n : Nat} {xs : List Value} (h : w.ownsRow base t size v n xs) {g : Nat} (hg : w.grownBy w' (some g)) {cs : Array Value} {t' : TypeId} (hh : w.heap[g]? = some (.cells cs t' (0, 0))) (hne : t ≠ t') : w'.ownsRow base t size v n xs := by
  refine h.kept hg (.inr ?_)
  rcases h.2 with ⟨rfl, _⟩ | ⟨g', cap, cur, rfl, _, hh', _⟩
  · simp [Value.ownBlock]
  · intro he
    have : g' = g := by simpa [Value.ownBlock] using he
    subst this
    rw [hh] at hh'
    injection hh' with hh'
    injection hh' with _ e
    exact hne e.symm

theorem mod_nat (a n : Nat) (x : Int) (h : x = (a : Int)) : (x % (n : Int)).toNat = a % n := by
  subst h; rw [← Int.natCast_emod, Int.toNat_natCast]

theorem pick_nat (p n a b : Nat) (hk : p ≤ 1099511627776) (ha : a ≤ 255) (hb : b ≤ 255) (m : Int) (hm : 1 ≤ m) :
    0 ≤ (bits BinOp.xor IntKind.i64 (wrap64 ((a : Int) * 131 + (b : Int) * 1117 + (p : Int) * 29 + wrap64 (wrap64 ((p : Int) / (n : Int)) * 53)))
          (wrap64 ((wrap64 ((a : Int) * 131 + (b : Int) * 1117 + (p : Int) * 29 + wrap64 (wrap64 ((p : Int) / (n : Int)) * 53))).tdiv 64))).tmod m ∧
      (bits BinOp.xor IntKind.i64 (wrap64 ((a : Int) * 131 + (b : Int) * 1117 + (p : Int) * 29 + wrap64 (wrap64 ((p : Int) / (n : Int)) * 53)))
          (wrap64 ((wrap64 ((a : Int) * 131 + (b : Int) * 1117 + (p : Int) * 29 + wrap64 (wrap64 ((p : Int) / (n : Int)) * 53))).tdiv 64))).tmod m < m := by
  have hq : p / n ≤ p := Nat.div_le_self _ _
  have e0 : (p : Int) / (n : Int) = ((p / n : Nat) : Int) := by simp
  rw [e0]
  generalize p / n = q at *
  rw [IntWalk.wrap64_in (q : Int) (by omega), IntWalk.wrap64_in ((q : Int) * 53) (by omega), IntWalk.wrap64_in ((a : Int) * 131 + (b : Int) * 1117 + (p : Int) * 29 + (q : Int) * 53) (by omega)]
  generalize hx : a * 131 + b * 1117 + p * 29 + q * 53 = x
  have hxl : x < 9223372036854775808 := by omega
  have ex : (a : Int) * 131 + (b : Int) * 1117 + (p : Int) * 29 + (q : Int) * 53 = (x : Int) := by omega
  rw [ex, Int.tdiv_eq_ediv_of_nonneg (by omega), IntWalk.wrap64_in _ (by omega)]
  have e : ((x : Int) / 64) = ((x / 64 : Nat) : Int) := by omega
  rw [e, i64_xor_nat x (x / 64) hxl (by omega)]
  rw [Int.tmod_eq_emod_of_nonneg (by omega)]
  exact ⟨Int.emod_nonneg _ (by omega), Int.emod_lt_of_pos _ (by omega)⟩

def PickPost (W w : World) (g p : Nat) (n : Int) (e : Ending) (w' : World) : Prop := ∃ x : Int, e = .returned (.int .i64 x) ∧ 0 ≤ x ∧ (1 ≤ n → x < n) ∧ (n < 1 → x = 0) ∧ RD W w' g (p + 1) ∧ w.grownBy w' (some g)

theorem RD.drewN {W w : World} {g p : Nat} (h : RD W w g p) (n : Nat) : RD W (w.drewN n) g p := ⟨bdr h.below n, h.new, h.src, h.small⟩

theorem RD.step {W w w' : World} {g p : Nat} (h : RD W w g p) (hp : p + 1 ≤ 1099511627776) (n : Nat) (hw : w' = (w.setCell ⟨g, 1, none⟩ (.int .i64 ((p : Int) + 1))).drewN n) : RD W w' g (p + 1) ∧ w.grownBy w' (some g) := by
  obtain ⟨A, l, c, hh, hb, hl⟩ := h.src
  subst hw
  refine ⟨⟨bdr (h.below.setCell h.new _) n, h.new, ⟨A, l, c, ?_, hb, hl⟩, hp⟩, gb_drew (gb_set rfl _) n⟩
  show (w.setCell ⟨g, 1, none⟩ (.int .i64 ((p : Int) + 1))).heap[g]? = _
  rw [heap_setCell_same w g 1 _ _ _ hh]
  simp

theorem spec_pick (W w : World) (g p : Nat) (n : Int) (h : RD W w g p) (hp : p + 1 ≤ 1099511627776) :
    Calls Tryz.prog 25 #[.pointer (some ⟨g, 0, none⟩), .int .i64 n] w (PickPost W w g p n) := by
  obtain ⟨A, l, c, hh, hb, hl⟩ := h.src
  have c0 : w.cell? ⟨g, 0, none⟩ = some (.slice A l.length c) := by rw [cell_of_row w g 0 _ _ _ hh]; rfl
  have c1 : w.cell? ⟨g, 1, none⟩ = some (.int .i64 (p : Int)) := by rw [cell_of_row w g 1 _ _ _ hh]; rfl
  have f1 : ∀ i, w.frozen? ⟨g, i, none⟩ = false := fun i => frozen_of_row w g i _ _ hh
  by_cases h1 : 1 ≤ n
  case neg =>
    go_enter Tryz.func25, Tryz.ntmps25
    go_wp2
    go_ret
    exact ⟨0, rfl, by omega, fun h' => by omega, fun _ => rfl, h.step hp 0 rfl⟩
  by_cases h0 : 0 < l.length
  case neg =>
    have hz : ((l.length : Int) == 0) = true := beq_iff_eq.2 (by omega)
    go_enter Tryz.func25, Tryz.ntmps25
    go_wp2
    go_ret
    exact ⟨0, rfl, by omega, fun h' => by omega, fun _ => rfl, h.step hp 0 rfl⟩
  have hz : ((l.length : Int) == 0) = false := beq_eq_false_iff_ne.2 (by omega)
  obtain ⟨b, off, rfl, hbl, hc⟩ := hb.2 h0
  have hbg : b ≠ g := by have := h.new; omega
  have hcell : ∀ j (hj : j < l.length), w.cell? ⟨b, off + j, none⟩ = some (.int .u8 l[j]) := fun j hj => (h.below.cell (p := ⟨b, off + j, none⟩) hbl).trans (hc j _ (List.getElem?_eq_getElem hj))
  by_cases hk : p < l.length
  · have r0 := hb.1 _ (List.getElem_mem hk)
    obtain ⟨r0, r1⟩ := r0
    have d0 := hcell p hk
    clear hcell hc
    go_enter Tryz.func25, Tryz.ntmps25
    go_wp2
    go_ret
    refine ⟨_, rfl, Int.emod_nonneg _ (by omega), fun _ => Int.emod_lt_of_pos _ (by omega), fun h' => by omega, h.step hp 0 rfl⟩
  · go_enter Tryz.func25, Tryz.ntmps25
    have g0 := hcell (p % l.length) (Nat.mod_lt _ h0)
    have g1 := hcell ((p * 7 + 3) % l.length) (Nat.mod_lt _ h0)
    have r0 := hb.1 _ (List.getElem_mem (Nat.mod_lt p h0))
    have r1 := hb.1 _ (List.getElem_mem (Nat.mod_lt (p * 7 + 3) h0))
    obtain ⟨a, ha⟩ : ∃ a : Nat, l[p % l.length]'(Nat.mod_lt _ h0) = (a : Int) := ⟨_, (Int.toNat_of_nonneg r0.1).symm⟩
    obtain ⟨b', hb'⟩ : ∃ b : Nat, l[(p * 7 + 3) % l.length]'(Nat.mod_lt _ h0) = (b : Int) := ⟨_, (Int.toNat_of_nonneg r1.1).symm⟩
    rw [ha] at g0 r0
    rw [hb'] at g1 r1
    have HB := Lib.hid hb
    clear ha hb' hcell hc hb
    have hst := h.step hp 0 rfl
    have k0 : (w.setCell ⟨g, 1, none⟩ (.int .i64 ((p : Int) + 1))).cell? ⟨g, 0, none⟩ = some (.slice (some ⟨b, off, none⟩) l.length c) := by rw [World.cell?_setCell_other _ _ _ _ (by simp)]; exact c0
    have k1 : (w.setCell ⟨g, 1, none⟩ (.int .i64 ((p : Int) + 1))).cell? ⟨b, off + p % l.length, none⟩ = some (.int .u8 a) := by rw [World.cell?_setCell_other _ _ _ _ (by simp)]; exact g0
    have k2 : (w.setCell ⟨g, 1, none⟩ (.int .i64 ((p : Int) + 1))).cell? ⟨b, off + (p * 7 + 3) % l.length, none⟩ = some (.int .u8 b') := by rw [World.cell?_setCell_other _ _ _ _ (by simp)]; exact g1
    go_wp2
    change Code.wp _ _ _ _ _
    generalize w.setCell ⟨g, 1, none⟩ (.int .i64 ((p : Int) + 1)) = w1 at *
    clear g0 g1 c0 c1 f1
    refine wp_region_quiet_lit (by kernel_rfl) (by kernel_rfl) ?_
    have q0 : (0 : Int) ≤ (p : Int) % l.length := Int.emod_nonneg _ (by omega)
    have q1 : (p : Int) % l.length < l.length := Int.emod_lt_of_pos _ (by omega)
    have q2 : ((p : Int) % l.length).toNat = p % l.length := mod_nat _ _ _ rfl
    have q3 : (0 : Int) ≤ ((p : Int) * 7 + 3) % l.length := Int.emod_nonneg _ (by omega)
    have q4 : ((p : Int) * 7 + 3) % l.length < l.length := Int.emod_lt_of_pos _ (by omega)
    have q5 : (((p : Int) * 7 + 3) % l.length).toNat = (p * 7 + 3) % l.length := mod_nat _ _ _ (by omega)
    repeat go_big_quiet_step (fail)
    refine wpQuiet_nil ?_
    intro _ hw'
    obtain ⟨nq, hw''⟩ := hw'
    subst hw''
    go_wp2
    go_ret
    have hv := pick_nat p l.length a b' (by omega) (by omega) (by omega) n h1
    exact ⟨_, rfl, hv.1, fun _ => hv.2, fun h' => by omega, hst.1.drewN nq, gb_drew hst.2 nq⟩

theorem RD.grow {W w w' : World} {g p : Nat} (h : RD W w g p) (hg : Below w.heap.size w w') : RD W w' g p := by
  have hl := h.lt
  obtain ⟨A, l, c, hh, hb, hl2⟩ := h.src
  exact ⟨bthru h.below hg, h.new, ⟨A, l, c, (hg.block g hl).trans hh, hb, hl2⟩, h.small⟩

theorem spec_num (W w : World) (g p : Nat) (A : Option Addr) (l : List Int) (c : Nat) (h : RD W w g p) (hp : p + 1 ≤ 1099511627776) (hl : IS w A l) (h0 : 0 < l.length) (hlm : l.length ≤ 2000000)
    (hne : ∀ a, A = some a → a.block ≠ g) :
    Calls Tryz.prog 27 #[.pointer (some ⟨g, 0, none⟩), .slice A l.length c] w fun e w' => ∃ x, x ∈ l ∧ e = .returned (.int .i64 x) ∧ RD W w' g (p + 1) ∧ w.grownBy w' (some g) := by
  obtain ⟨b, off, rfl, hbl, hc⟩ := hl h0
  have hbg := hne _ rfl
  go_enter Tryz.func27, Tryz.ntmps27
  go_wp2_with fail
  refine (spec_pick W w g p l.length h hp).mono ?_
  rintro e w1 ⟨x, rfl, hx0, hx1, _, hr, hg⟩
  have hx1 := hx1 (by omega)
  obtain ⟨k, rfl⟩ : ∃ k : Nat, x = (k : Int) := ⟨x.toNat, (Int.toNat_of_nonneg hx0).symm⟩
  have hk : k < l.length := by omega
  have c0 := hg.cell (hc k _ (List.getElem?_eq_getElem hk)) (by simp; exact hbg)
  clear hc
  go_wp2
  go_ret
  exact ⟨_, List.getElem_mem hk, rfl, hr, hg⟩
end
end Go.Proofs.YtmkjmancmiphfaaGreatDoor
