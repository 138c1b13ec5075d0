/-
  What the library's walks ask of the world (Mx), and the library's contracts that texts are read with.
  The interpreter's desk: its five cells, and the builder that lies in the last two of them.
  The interpreter's desk tells a line, and takes tasks: (*desk).tell, (*desk).set.
  A line done at the desk: (*desk).do, decimal.
  RunScript: line by line, by what each line does at the desk.
-/
import Derived.Test.YtmkjmancmiphfaaGreatDoorNumT
import Derived.Test.YtmkjmancmiphfaaGreatDoorTaskValid
import Derived.Test.YtmkjmancmiphfaaGreatDoorLeave
import Derived.Lib.AtoiErrMem
import Derived.Lib.LaidTab
import Derived.Lib.AppendIntMem
import Derived.Lib.FrozenHead2
import Derived.Lib.OthersKept
namespace Go.Proofs.YtmkjmancmiphfaaGreatDoor
open Go.RowKit

/-- The variable that the search reads holds some number; the table of powers of ten lies as it was made; both lie below B. -/
structure Mx (B : Nat) (w : World) : Prop where
  max : ∃ m : Int, w.cell? ⟨0, 0, none⟩ = some (.int .i64 m)
  maxLt : 0 < B
  tab : Lib.TabIs Tryz.prog w "internal/strconv.uint64pow10" .u64 Lib.pow10Tab
  tabLt : 1 < B
theorem Mx.keep {B : Nat} {w w' : World} (h : Mx B w) (hb : Below B w w') : Mx B w' := by
  obtain ⟨⟨m, h1⟩, h2, h3, h4⟩ := h
  refine ⟨⟨m, (hb.cell (p := ⟨0, 0, none⟩) h2).trans h1⟩, h2, ?_, h4⟩
  have hn : Tryz.prog.globalNamed "internal/strconv.uint64pow10" = some 1 := by kernel_rfl
  unfold Lib.TabIs World.var? at h3 ⊢
  rw [hn] at h3 ⊢
  simp only [Option.bind_some] at h3 ⊢
  rw [hb.block _ h4]
  exact h3
theorem Mx.up {B B' : Nat} {w : World} (h : Mx B w) (hB : B ≤ B') : Mx B' w := ⟨h.max, Nat.lt_of_lt_of_le h.maxLt hB, h.tab, Nat.lt_of_lt_of_le h.tabLt hB⟩
theorem below_drewN {B : Nat} {w w1 : World} (h : Below B w w1) (n : Nat) : Below B w (w1.drewN n) := ⟨h.os, h.tape, h.output, h.size, h.block⟩
theorem cut_is {s sep a r : List UInt8} {f : Bool} (h : Lib.cut s sep = (a, r, f)) {B : Nat} {w : World} (hM : Mx B w) (hl : s.length ≤ 2000000) :
    Calls Tryz.prog 76 #[.string ⟨s.toArray⟩, .string ⟨sep.toArray⟩] w fun e w' => e = .returned (.tuple #[.string ⟨a.toArray⟩, .string ⟨r.toArray⟩, .bool f]) ∧ Below w.heap.size w w' := by
  obtain ⟨⟨m, h1⟩, _, _, _⟩ := hM
  refine (Tryz.strings_Cut ⟨s.toArray⟩ ⟨sep.toArray⟩ m w (by rw [Lib.size_eq]; show s.length < _; omega) h1).mono ?_
  rintro e w' ⟨rfl, n, rfl⟩
  refine ⟨?_, below_drewN (Below.refl _ _) n⟩
  show Ending.returned (.tuple #[.string ⟨(Lib.cut s sep).1.toArray⟩, .string ⟨(Lib.cut s sep).2.1.toArray⟩, .bool (Lib.cut s sep).2.2]) = _
  rw [h]
theorem dec_lenN (k n : Nat) (h : n < 10 ^ (k + 1)) : (Lib.decDigits n).length ≤ k + 1 := by
  induction k generalizing n with
  | zero => rw [dec_small n (by simpa using h)]; simp
  | succ k ih =>
    by_cases h10 : n < 10
    · rw [dec_small n h10]; simp
    · rw [dec_big n h10, List.length_append, List.length_singleton]
      have := ih (n / 10) (by rw [Nat.pow_succ] at h; omega)
      omega
theorem num_short (n : Int) (_h0 : 0 ≤ n) (h1 : n ≤ 100000) : (num n).length ≤ 18 := by
  have := dec_lenN 5 n.toNat (by have : (10 : Nat) ^ (5 + 1) = 1000000 := by decide
                                 omega)
  unfold num
  omega
theorem atoi_is (n : Int) (h0 : 0 ≤ n) (h1 : n ≤ 100000) (w : World) :
    Calls Tryz.prog 136 #[.string ⟨(num n).toArray⟩] w fun e w' => e = .returned (.tuple #[.int .i64 n, .nilIface]) ∧ Below w.heap.size w w' := by
  refine (Tryz.strconv_Atoi ⟨(num n).toArray⟩ n ?_ (atoi_num n h0) w).mono ?_
  · rw [Lib.size_eq]
    exact num_short n h0 h1
  · rintro e w' ⟨rfl, t, rfl⟩
    exact ⟨rfl, Lib.bytesWorld_below w _ _⟩
theorem itoa_any {B : Nat} {w : World} (hM : Mx B w) (n : Int) (h0 : 0 ≤ n) (h1 : n ≤ 1000000000) :
    Calls Tryz.prog 38 #[.int .i64 n] w fun e w' => e = .returned (.string ⟨(num n).toArray⟩) ∧ Below w.heap.size w w' := by
  refine (Tryz.strconv_Itoa n (by omega) (by omega) w hM.tab).mono ?_
  rintro e w' ⟨rfl, k, os, rfl⟩
  refine ⟨?_, Lib.below_grow _ w (Nat.le_refl _) k os⟩
  rw [Lib.itoa, if_neg (by omega)]
  rfl
theorem flat_row {L : List (List UInt8)} {wr : World} {b : Nat} (h : wr.heap[b]? = some (.cells (L.map (fun x => Value.string ⟨x.toArray⟩)).toArray 9 (0, 0))) (k : Nat) (hk : k < L.length) : wr.cell? ⟨b, k, none⟩ = some (.string ⟨L[k].toArray⟩) := by
  rw [cell_of_row wr b k _ _ _ h]
  simp [hk]
theorem split_is (text : List UInt8) (c : UInt8) (sep : List UInt8) (L : List (List UInt8)) (hL : pieces (c :: sep) text = L) {B : Nat} {w : World} (hM : Mx B w) (hl : text.length ≤ 2000000) :
    Calls Tryz.prog 39 #[.string ⟨text.toArray⟩, .string ⟨(c :: sep).toArray⟩] w fun e w' => e = .returned (.slice (some ⟨w.heap.size, 0, none⟩) L.length L.length) ∧ w' = w.alloc (.cells (L.map (fun x => Value.string ⟨x.toArray⟩)).toArray 9 (0, 0)) := by
  obtain ⟨m, hm⟩ := hM.max
  have hcnt : Lib.countB ⟨text.toArray⟩ ⟨(c :: sep).toArray⟩ + 1 = L.length := by rw [← hL, pieces_len (c :: sep) text (by simp)]
  have hval : (Lib.splitB ⟨(c :: sep).toArray⟩ 0 (Lib.countB ⟨text.toArray⟩ ⟨(c :: sep).toArray⟩) ⟨text.toArray⟩).map Value.string = L.map (fun x => Value.string ⟨x.toArray⟩) := by rw [← hL]; exact pieces_val (c :: sep) text
  refine (Tryz.strings_Split ⟨text.toArray⟩ ⟨(c :: sep).toArray⟩ m w (by rw [Lib.size_eq]; show text.length < _; omega) hm (by rw [Lib.size_eq]; show 1 ≤ (c :: sep).length; simp)).mono ?_
  rintro e w' ⟨rfl, rfl⟩
  rw [hcnt, hval]
  exact ⟨rfl, rfl⟩

abbrev DT : TypeId := 78
abbrev selfP (b : Nat) : Value := .pointer (some ⟨b, 3, none⟩)
theorem sizeBuilder : (Tryz.prog.info? 76).map (·.size) = some 2 := by kernel_rfl
theorem liesDesk : liesAt Tryz.prog Tryz.prog.depth DT (5 / Tryz.prog.cellsOf DT) 3 76 1 = true := by kernel_rfl
theorem infoByte : (Tryz.prog.info? 5).map (fun i => (i.zero, i.size, i.bytes)) = some (some (.int .u8 0), 1, 1) := by kernel_rfl
theorem cellsByte : Tryz.prog.cellsOf 5 = 1 := by kernel_rfl

theorem gb_setCell (w : World) (b i : Nat) (v : Value) : w.grownBy (w.setCell ⟨b, i, none⟩ v) (some b) :=
  ⟨rfl, rfl, rfl, by simp [World.setCell], fun k _ hk => Below.heap_setCell _ _ _ _ (fun e => hk (by simp [e]))⟩
theorem own_keepX {base : Nat} {w w' : World} {e : TypeId} {size : Nat} {v : Value} {n : Nat} {xs : List Value} (h : w.ownsRow base e size v n xs) (row : Option Nat) (hg : w.grownBy w' row)
    (hk : ∀ g, row = some g → ∃ cs t fz, w.heap[g]? = some (.cells cs t fz) ∧ t ≠ e) : w'.ownsRow base e size v n xs := by
  refine World.ownsRow.kept h hg ?_
  rcases h.2 with ⟨hv, _⟩ | ⟨g, cap, cur, hv, _, hh, _⟩
  · exact .inl (by rw [hv]; rfl)
  · refine .inr ?_
    rw [hv]
    cases row with
    | none => simp [Value.ownBlock]
    | some g2 =>
      obtain ⟨cs, t, fz, k1, k2⟩ := hk g2 rfl
      intro e
      have : g = g2 := by simpa [Value.ownBlock] using e
      subst this
      rw [hh] at k1
      injection k1 with k1
      injection k1 with _ kt _
      exact k2 kt.symm

/-- What the interpreter keeps: tasks, jobs (their cells), a policy, and what it told. -/
structure St where
  l : List Tk
  jn : Nat
  jc : List Value
  pol : Int
  out : List UInt8
/-- The desk in block b. -/
def Desk (B b : Nat) (w : World) (s : St) : Prop :=
  B ≤ b ∧ ∃ A c jv p v, w.heap[b]? = some (.cells #[.slice A s.l.length c, jv, .int .i64 s.pol, p, v] DT (0, 0)) ∧ (p = .pointer none ∨ p = selfP b) ∧ w.ownsRowF B 5 1 v s.out.length (Lib.byteCells s.out) ∧
    OT B w A c s.l ∧ w.ownsRow B 60 3 jv s.jn s.jc
/-- What a call that has the desk leaves as it was. -/
def Frm (B b : Nat) (w w' : World) : Prop := Lib.OthersKept 5 (some b) w w' ∧ Below B w w'
theorem Frm.refl (B b : Nat) (w : World) : Frm B b w w := ⟨Lib.OthersKept.refl _ _ _, Below.refl _ _⟩
theorem Frm.trans {B b : Nat} {w w1 w2 : World} (h : Frm B b w w1) (k : Frm B b w1 w2) : Frm B b w w2 := ⟨h.1.trans k.1, h.2.trans k.2⟩
theorem kept_below {b : Nat} {w w' : World} (hb : Below w.heap.size w w') : Lib.OthersKept 5 (some b) w w' := fun k _ hk _ _ => (hb.block k (Array.getElem?_eq_some_iff.1 hk).1).trans hk
theorem Frm.size {B b : Nat} {w w1 : World} (h : Frm B b w w1) : w.heap.size ≤ w1.heap.size := h.2.size
theorem Frm.thru {B b : Nat} {w w1 w2 : World} (h : Frm B b w w1) (hB : B ≤ w.heap.size) (k : Below w1.heap.size w1 w2) : Frm B b w w2 := ⟨h.1.trans (kept_below k), h.2.trans (k.mono (Nat.le_trans hB h.2.size))⟩
theorem kept_grown {b : Nat} {w w' : World} (h : w.grownBy w' (some b)) : Lib.OthersKept 5 (some b) w w' := fun k _ hk hne _ => (h.block k (Array.getElem?_eq_some_iff.1 hk).1 hne).trans hk
theorem Desk.keep {B b : Nat} {w w' : World} {s : St} (h : Desk B b w s) (hb : Below w.heap.size w w') : Desk B b w' s := by
  obtain ⟨hB, A, c, jv, p, v, hk, hp, hv, hO, hJ⟩ := h
  have hlt : b < w.heap.size := (Array.getElem?_eq_some_iff.1 hk).1
  refine ⟨hB, A, c, jv, p, v, (hb.block b hlt).trans hk, hp, ?_, OT_keep hO hb, own_keep hJ hb⟩
  refine ⟨hv.1, ?_⟩
  rcases hv.2 with hn | ⟨g, cap, cur, fz, e, hg, hh, r⟩
  · exact .inl hn
  · exact .inr ⟨g, cap, cur, fz, e, hg, (hb.block g (Array.getElem?_eq_some_iff.1 hh).1).trans hh, r⟩
theorem desk_blk {w : World} {b : Nat} {x0 x1 x2 x3 x4 : Value} {t : TypeId} (h : w.heap[b]? = some (.cells #[x0, x1, x2, x3, x4] t (0, 0))) (i : Nat) (v : Value) :
    (w.setCell ⟨b, i, none⟩ v).heap[b]? = some (.cells ((#[x0, x1, x2, x3, x4] : Array Value).setIfInBounds i v) t (0, 0)) := heap_setCell_same w b i _ t v h

set_option maxHeartbeats 2000000 in
set_option maxRecDepth 100000 in
theorem copyCheck_at (b : Nat) (x0 x1 x2 p v : Value) (w : World) (hk : w.heap[b]? = some (.cells #[x0, x1, x2, p, v] DT (0, 0))) (hp : p = .pointer none ∨ p = selfP b) :
    Calls Tryz.prog 114 #[selfP b] w fun e w' => e = .returned (.tuple #[]) ∧ w'.heap[b]? = some (.cells #[x0, x1, x2, selfP b, v] DT (0, 0)) ∧ w.grownBy w' (some b) := by
  obtain ⟨j, hj, hjs⟩ := Option.map_eq_some_iff.1 sizeBuilder
  have c3 : w.cell? ⟨b, 3, none⟩ = some p := by rw [Lib.cell_of_heap hk]; rfl
  have f3 : w.frozen? ⟨b, 3, none⟩ = false := Lib.frozen_of_heap hk 3
  have hsh : w.shape? b = some (DT, 5) := by simp [World.shape?, hk]
  rcases hp with rfl | rfl
  · go_enter Tryz.func114, Tryz.ntmps114
    go_wp2
    rw [Lib.run_to_unsafe w ⟨b, 3, none⟩ Tryz.underlying74 Tryz.underlying165 hj (by rw [hjs]; decide) hsh (by show 3 < 5; decide)]
    simp only [Result.andThen]
    rw [Oper.upon_value]
    go_wp2
    rw [run_callFunc_extern Tryz.func162 (by kernel_rfl) (by kernel_rfl) (by kernel_rfl) (e := Extern.AbiNoEscape.same) (by kernel_rfl)]
    rw [Lib.run_noEscape]
    simp only [Result.andThen]
    rw [Oper.upon_value]
    go_wp2
    rw [Lib.run_from_unsafe w ⟨b, 3, none⟩ Tryz.underlying165 Tryz.underlying74 hj hsh liesDesk]
    simp only [Result.andThen]
    rw [Oper.upon_value]
    go_wp2
    go_end0
    exact ⟨rfl, desk_blk hk 3 _, gb_setCell w b 3 _⟩
  · go_enter Tryz.func114, Tryz.ntmps114
    go_wp2
    rw [Lib.run_neq_ptr_same w _ Tryz.underlying74 hj]
    go_wp2
    go_end0
    exact ⟨rfl, hk, World.grownBy.refl _ _⟩
theorem tn1 : DT ≠ 58 := by decide
theorem tn2 : (5 : TypeId) ≠ 58 := by decide
theorem tn3 : (DT : TypeId) ≠ 5 := by decide

theorem tn4 : DT ≠ 60 := by decide
theorem tn5 : (5 : TypeId) ≠ 60 := by decide

set_option maxHeartbeats 2000000 in
set_option maxRecDepth 100000 in
/-- WriteString, of the builder in the desk. -/
theorem desk_Write {B b : Nat} {w : World} {s : St} (h : Desk B b w s) (x : List UInt8) (hlen : s.out.length + x.length ≤ 140737488355328) (hBw : B ≤ w.heap.size) :
    Calls Tryz.prog 73 #[selfP b, .string ⟨x.toArray⟩] w fun e w' => e = .returned (.tuple #[.int .i64 (x.length : Int), .nilIface]) ∧ Desk B b w' { s with out := s.out ++ x } ∧ Frm B b w w' := by
  obtain ⟨i0, hi, hz0, hz1, hz2⟩ := info_parts infoByte
  obtain ⟨hB, A, c, jv, p, v, hk, hp, hv, hO, hJ⟩ := h
  have hss : (⟨x.toArray⟩ : ByteArray).size = x.length := by rw [Lib.size_eq]
  have e166 : (Lib.strCells ⟨x.toArray⟩) = Lib.byteCells x := by rw [Lib.strCells_eq]
  go_enter Tryz.func73, Tryz.ntmps73
  go_wp2_with fail
  refine (copyCheck_at b _ _ _ p v _ hk hp).mono ?_
  rintro e w1 ⟨rfl, hk1, g1⟩
  have c0 : w1.cell? ⟨b, 3, none⟩ = some (selfP b) := by rw [Lib.cell_of_heap hk1]; rfl
  have c1 : w1.cell? ⟨b, 4, none⟩ = some v := by rw [Lib.cell_of_heap hk1]; rfl
  have hb1 : Below B w w1 := (Below.refl B w).grown g1 hBw (fun k hk => by cases hk; exact hB)
  have hf1 : Frm B b w w1 := ⟨kept_grown g1, hb1⟩
  have hvb : v.ownBlock ≠ some b := by
    intro e
    obtain ⟨cs, fz, hc⟩ := Lib.ownsRowF_kind hv b e
    rw [hk] at hc
    injection hc with hc
    injection hc with _ ht _
    exact tn3 ht
  have hv1 : w1.ownsRowF B 5 1 v s.out.length (Lib.byteCells s.out) := hv.kept g1 (.inr hvb)
  have hO1 : OT B w1 A c s.l := own_keepX hO _ g1 (fun g hg => by cases hg; exact ⟨_, _, _, hk, tn1⟩)
  have hJ1 := own_keepX hJ _ g1 (fun g hg => by cases hg; exact ⟨_, _, _, hk, tn4⟩)
  clear hk hv hO hJ
  go_wp2_with (at_builtin; refine Lib.wpList_append_own_stringF _ rfl _ _ 22 9 rfl B 5 i0 Tryz.underlying22 Tryz.underlying9 hi hz0 hz1 hz2 _ _ _ rfl hv1 ⟨x.toArray⟩ rfl ?c3 ?c4 ?c5 ?_)
  case c3 => rw [hss]; unfold maxLen; omega
  case c4 => rw [hss]; omega
  case c5 => have := hb1.size; omega
  intro v' w2 hown' hgrow _
  have hlt : b < w1.heap.size := (Array.getElem?_eq_some_iff.1 hk1).1
  have hk2 : w2.heap[b]? = some (.cells #[.slice A s.l.length c, jv, .int .i64 s.pol, selfP b, v] DT (0, 0)) := by
    rw [hgrow.block b hlt (fun e => hvb e.symm)]
    exact hk1
  have d0 : w2.cell? ⟨b, 3, none⟩ = some (selfP b) := by rw [Lib.cell_of_heap hk2]; rfl
  have d1 : w2.cell? ⟨b, 4, none⟩ = some v := by rw [Lib.cell_of_heap hk2]; rfl
  have f1 : w2.frozen? ⟨b, 4, none⟩ = false := Lib.frozen_of_heap hk2 4
  have hO2 : OT B w2 A c s.l := own_keepX hO1 _ hgrow (fun g hg => by
    obtain ⟨cs, fz, hc⟩ := Lib.ownsRowF_kind hv1 g hg
    exact ⟨_, _, _, hc, tn2⟩)
  have hJ2 := own_keepX hJ1 _ hgrow (fun g hg => by
    obtain ⟨cs, fz, hc⟩ := Lib.ownsRowF_kind hv1 g hg
    exact ⟨_, _, _, hc, tn5⟩)
  have hb2 : Below B w w2 := hb1.grown hgrow (by have := hb1.size; omega) (fun k hk => (hv1.lt k hk).1)
  have hf2 : Frm B b w w2 := ⟨hf1.1.grown hgrow (Lib.ownsRowF_kind hv1), hb2⟩
  have hown' : w2.ownsRowF B 5 1 v' (s.out.length + x.length) (Lib.byteCells s.out ++ Lib.byteCells x) := by
    first
      | exact hown'
      | (rw [e166, hss] at hown'; exact hown')
      | (rw [hss] at hown'; exact hown')
      | (rw [e166] at hown'; exact hown')
  obtain ⟨ao, n', cap, rfl⟩ : ∃ ao n' cap, v' = .slice ao n' cap := by
    rcases hown'.2 with ⟨hv, _⟩ | ⟨g, cap, cur, fz, hv, _⟩
    · exact ⟨_, _, _, hv⟩
    · exact ⟨_, _, _, hv⟩
  go_wp2
  go_ret2
  have hne : (Value.slice ao n' cap).ownBlock ≠ some b := by
    intro e
    obtain ⟨cs, fz, hc⟩ := Lib.ownsRowF_kind hown' b e
    rw [hk2] at hc
    injection hc with hc
    injection hc with _ ht _
    exact tn3 ht
  have g3 := gb_setCell w2 b 4 (.slice ao n' cap)
  refine ⟨rfl, ⟨hB, A, c, jv, selfP b, _, desk_blk hk2 4 _, .inr rfl, ?_, own_keepX hO2 _ g3 (fun g hg => by cases hg; exact ⟨_, _, _, hk2, tn1⟩), own_keepX hJ2 _ g3 (fun g hg => by cases hg; exact ⟨_, _, _, hk2, tn4⟩)⟩, ⟨hf2.1.trans (kept_grown g3), hb2.setCell (p := ⟨b, 4, none⟩) hB _⟩⟩
  show (w2.setCell ⟨b, 4, none⟩ (.slice ao n' cap)).ownsRowF B 5 1 (.slice ao n' cap) (s.out ++ x).length (Lib.byteCells (s.out ++ x))
  rw [List.length_append, Lib.byteCells_append]
  exact hown'.kept g3 (.inr hne)
theorem desk_Len {B b : Nat} {w : World} {s : St} (h : Desk B b w s) :
    Calls Tryz.prog 40 #[selfP b] w fun e w' => e = .returned (.int .i64 (s.out.length : Int)) ∧ w' = w := by
  obtain ⟨hB, A, c, jv, p, v, hk, hp, hv, hO, _⟩ := h
  obtain ⟨ao, cap, rfl⟩ : ∃ ao cap, v = .slice ao s.out.length cap := by
    rcases hv.2 with ⟨hv, h0⟩ | ⟨g, cap, cur, fz, hv, _⟩
    · exact ⟨none, 0, by rw [hv, h0]⟩
    · exact ⟨_, _, hv⟩
  have c1 : w.cell? ⟨b, 4, none⟩ = some (.slice ao s.out.length cap) := by rw [Lib.cell_of_heap hk]; rfl
  go_enter Tryz.func40, Tryz.ntmps40
  go_wp2
  go_ret
  exact ⟨rfl, rfl⟩
set_option maxHeartbeats 2000000 in
set_option maxRecDepth 100000 in
theorem desk_String {B b : Nat} {w : World} {s : St} (h : Desk B b w s) (h0 : s.out ≠ []) :
    Calls Tryz.prog 43 #[selfP b] w fun e w' => e = .returned (.string ⟨s.out.toArray⟩) ∧ Below B w w' := by
  obtain ⟨hB, A, c, jv, p, v, hk, hp, hv, hO, _⟩ := h
  have hl0 : s.out.length ≠ 0 := by simpa using h0
  obtain ⟨g, cap, cur, fz, rfl, hbg, hg, hfz, hnc, hcm, hcs, htake⟩ : ∃ g cap cur fz, v = .slice (some ⟨g, 0, none⟩) s.out.length cap ∧ B ≤ g ∧ w.heap[g]? = some (.cells cur 5 fz) ∧ fz.2 ≤ s.out.length * 1 ∧ s.out.length ≤ cap ∧ cap ≤ maxLen ∧ cur.size = cap * 1 ∧ cur.toList.take (s.out.length * 1) = Lib.byteCells s.out := by
    rcases hv.2 with ⟨_, hz⟩ | ⟨g, cap, cur, fz, hv, r⟩
    · exact absurd hz hl0
    · exact ⟨g, cap, cur, fz, hv, r⟩
  have c1 : w.drew.cell? ⟨b, 4, none⟩ = some (.slice (some ⟨g, 0, none⟩) s.out.length cap) := by
    have : w.drew.heap[b]? = some (.cells #[.slice A s.l.length c, jv, .int .i64 s.pol, p, .slice (some ⟨g, 0, none⟩) s.out.length cap] DT (0, 0)) := hk
    rw [Lib.cell_of_heap this]; rfl
  have hSD : (Builtin.unsafeSliceData_ #[22] 121 #[.slice (some ⟨g, 0, none⟩) s.out.length cap]).run Tryz.prog w.drew = .ok (.pointer (some ⟨g, 0, none⟩)) w.drew :=
    Lib.run_unsafeSliceData_row _ _ _ _ _ _ (by omega)
  have hUS : (Builtin.unsafeString_ #[121, 3] 9 #[.pointer (some ⟨g, 0, none⟩), .int .i64 s.out.length]).run Tryz.prog w.drew = .ok (.string ⟨s.out.toArray⟩) (w.drew.freeze ⟨g, 0, none⟩ s.out.length) := by
    refine Lib.run_unsafeString_row w.drew 121 3 9 5 Tryz.underlying121 cellsByte g cur.size (by have hg' : w.drew.heap[g]? = some (.cells cur 5 fz) := hg; simp [World.shape?, hg']) s.out h0 (by omega) (by unfold maxLen at hcm; omega) ?_
    intro j x hx
    have := hv.cells (g := g) rfl j (.int .u8 x.toNat) (by simp [Lib.byteCells, hx])
    exact this
  have mixed : Tryz.prog.follows Departure.mixedOrders = true := by kernel_rfl
  go_enter Tryz.func43, Tryz.ntmps43
  go_wp2
  go_region_o
  all_goals (go_wp2; go_ret; exact ⟨rfl, Lib.below_freeze (Below.drew (Below.refl B w)) (p := ⟨g, 0, none⟩) hbg _⟩)

set_option maxHeartbeats 2000000 in
set_option maxRecDepth 100000 in
theorem desk_WriteS {B b : Nat} {w : World} {s : St} (h : Desk B b w s) (x : List UInt8) (S : ByteArray) (hS : S = ⟨x.toArray⟩) (hlen : s.out.length + x.length ≤ 1000000) (hBw : B ≤ w.heap.size) :
    Calls Tryz.prog 73 #[selfP b, .string S] w fun e w' => e = .returned (.tuple #[.int .i64 (x.length : Int), .nilIface]) ∧ Desk B b w' { s with out := s.out ++ x } ∧ Frm B b w w' := by
  subst hS
  exact desk_Write h x (by omega) hBw
set_option maxHeartbeats 2000000 in
set_option maxRecDepth 100000 in
theorem desk_tell {B b : Nat} {w : World} {s : St} (h : Desk B b w s) (x : List UInt8) (S : ByteArray) (hS : S = ⟨x.toArray⟩) (hlen : s.out.length + x.length ≤ 900000) (hBw : B ≤ w.heap.size) :
    Calls Tryz.prog 41 #[.pointer (some ⟨b, 0, none⟩), .string S] w fun e w' => e = .returned (.tuple #[]) ∧ Desk B b w' { s with out := s.out ++ (x ++ [10]) } ∧ Frm B b w w' := by
  subst hS
  have hx : x.length ≤ 900000 := by omega
  go_enter Tryz.func41, Tryz.ntmps41
  go_wp2_with fail
  refine (desk_WriteS h (x ++ [10]) _ (mk_app x [10]) (by simp; omega) hBw).mono ?_
  rintro e w1 ⟨rfl, D, F⟩
  go_wp2_with fail
  go_end0
  exact ⟨rfl, D, F⟩

set_option maxHeartbeats 2000000 in
set_option maxRecDepth 100000 in
/-- Tasks refused. -/
theorem desk_setNo {B b : Nat} {w : World} {s : St} (h : Desk B b w s) (v : Value) (hlen : s.out.length ≤ 800000) (hBw : B ≤ w.heap.size) :
    Calls Tryz.prog 121 #[.pointer (some ⟨b, 0, none⟩), v, .bool false] w fun e w' => e = .returned (.tuple #[]) ∧ Desk B b w' { s with out := s.out ++ [110, 111, 10] } ∧ Frm B b w w' := by
  go_enter Tryz.func121, Tryz.ntmps121
  go_wp2_with fail
  refine (desk_tell h [110, 111] _ rfl (by simp; omega) hBw).mono ?_
  rintro e w1 ⟨rfl, D, F⟩
  go_wp2_with fail
  (try simp only [Exit.inBlock, Exit.then])
  refine bodyPost_ret (results_none rfl _ _ _) rfl ?_
  exact ⟨rfl, D, F⟩
set_option maxHeartbeats 2000000 in
set_option maxRecDepth 100000 in
/-- Tasks taken. -/
theorem desk_setYes {B b : Nat} {w : World} {s : St} (h : Desk B b w s) (A : Option Addr) (l : List Tk) (c : Nat) (hO : OT B w A c l) (hlen : s.out.length ≤ 800000) (hBw : B ≤ w.heap.size) :
    Calls Tryz.prog 121 #[.pointer (some ⟨b, 0, none⟩), .slice A l.length c, .bool true] w fun e w' => e = .returned (.tuple #[]) ∧ Desk B b w' ⟨l, 0, [], s.pol, s.out ++ (fmtSet l ++ [10])⟩ ∧ Frm B b w w' := by
  obtain ⟨hB, A0, c0, jv, p, v, hk, hp, hv, hO0, hJ⟩ := h
  have f0 : w.frozen? ⟨b, 0, none⟩ = false := Lib.frozen_of_heap hk 0
  have f1 : w.frozen? ⟨b, 1, none⟩ = false := Lib.frozen_of_heap hk 1
  have c0' : w.cell? ⟨b, 0, none⟩ = some (.slice A0 s.l.length c0) := by rw [Lib.cell_of_heap hk]; rfl
  have c1' : w.cell? ⟨b, 1, none⟩ = some jv := by rw [Lib.cell_of_heap hk]; rfl
  have g0 := gb_setCell w b 0 (.slice A l.length c)
  have hk1 := desk_blk hk 0 (.slice A l.length c)
  have g1 := gb_setCell (w.setCell ⟨b, 0, none⟩ (.slice A l.length c)) b 1 (.slice none 0 0)
  have hk2 := desk_blk hk1 1 (.slice none 0 0)
  have hvb : v.ownBlock ≠ some b := by
    intro e
    obtain ⟨cs, fz, hc⟩ := Lib.ownsRowF_kind hv b e
    rw [hk] at hc
    injection hc with hc
    injection hc with _ ht _
    exact tn3 ht
  have hO1 : OT B _ A c l := own_keepX (own_keepX hO _ g0 (fun g hg => by cases hg; exact ⟨_, _, _, hk, tn1⟩)) _ g1 (fun g hg => by cases hg; exact ⟨_, _, _, hk1, tn1⟩)
  have hv1 := (hv.kept g0 (.inr hvb)).kept g1 (.inr hvb)
  have D1 : Desk B b ((w.setCell ⟨b, 0, none⟩ (.slice A l.length c)).setCell ⟨b, 1, none⟩ (.slice none 0 0)) ⟨l, 0, [], s.pol, s.out⟩ :=
    ⟨hB, A, c, .slice none 0 0, p, v, hk2, hp, hv1, hO1, World.ownsRow_nil _ _ _ _⟩
  have F1 : Frm B b w ((w.setCell ⟨b, 0, none⟩ (.slice A l.length c)).setCell ⟨b, 1, none⟩ (.slice none 0 0)) :=
    ⟨(kept_grown g0).trans (kept_grown g1), ((Below.refl B w).setCell (p := ⟨b, 0, none⟩) hB _).setCell (p := ⟨b, 1, none⟩) hB _⟩
  have hfl := fmtSet_le l
  clear hv hO0 hJ g0 g1 hv1 hk1 hk2 hO
  go_enter Tryz.func121, Tryz.ntmps121
  go_wp2_with fail
  refine (impl_FormatSet A l c _ hO1.ts).mono ?_
  rintro e w2 ⟨rfl, b2⟩
  have D2 := D1.keep b2
  have F2 := F1.thru hBw b2
  go_wp2_with fail
  refine (desk_tell D2 (fmtSet l) _ rfl (by simp; omega) (Nat.le_trans hBw F2.size)).mono ?_
  rintro e w3 ⟨rfl, D3, F3⟩
  go_wp2_with fail
  go_end0
  exact ⟨rfl, D3, F2.trans F3⟩

/-- What a word does: from one state to another. -/
def PlainIs (x : List UInt8) (s s' : St) : Prop :=
  ∀ (B b : Nat) (w : World), Mx B w → Desk B b w s → B ≤ w.heap.size → Calls Tryz.prog 77 #[.pointer (some ⟨b, 0, none⟩), .string ⟨x.toArray⟩] w fun e w' => e = .returned (.bool true) ∧ Desk B b w' s' ∧ Frm B b w w'
def TextIs (x r : List UInt8) (s s' : St) : Prop :=
  ∀ (B b : Nat) (w : World), Mx B w → Desk B b w s → B ≤ w.heap.size → Calls Tryz.prog 78 #[.pointer (some ⟨b, 0, none⟩), .string ⟨x.toArray⟩, .string ⟨r.toArray⟩] w fun e w' => e = .returned (.bool true) ∧ Desk B b w' s' ∧ Frm B b w w'
def TextNo (x r : List UInt8) (s : St) : Prop :=
  ∀ (B b : Nat) (w : World), Mx B w → Desk B b w s → B ≤ w.heap.size → Calls Tryz.prog 78 #[.pointer (some ⟨b, 0, none⟩), .string ⟨x.toArray⟩, .string ⟨r.toArray⟩] w fun e w' => e = .returned (.bool false) ∧ Desk B b w' s ∧ Frm B b w w'
def CountIs (x : List UInt8) (n : Int) (s s' : St) : Prop :=
  ∀ (B b : Nat) (w : World), Mx B w → Desk B b w s → B ≤ w.heap.size → Calls Tryz.prog 80 #[.pointer (some ⟨b, 0, none⟩), .string ⟨x.toArray⟩, .int .i64 n] w fun e w' => e = .returned (.bool true) ∧ Desk B b w' s' ∧ Frm B b w w'
/-- What a line does: from one state to another. -/
def DoIs (x : List UInt8) (s s' : St) : Prop :=
  ∀ (B b : Nat) (w : World), Mx B w → Desk B b w s → B ≤ w.heap.size → Calls Tryz.prog 42 #[.pointer (some ⟨b, 0, none⟩), .string ⟨x.toArray⟩] w fun e w' => e = .returned (.tuple #[]) ∧ Desk B b w' s' ∧ Frm B b w w'

theorem trim_num (n : Int) : Lib.trimPrefix (num n) [45] = num n := by
  have h := num_no 45 n (by decide)
  unfold Lib.trimPrefix
  cases hl : num n with
  | nil => rfl
  | cons b r =>
    rw [hl] at h
    have hb : b ≠ 45 := fun e => h (by simp [e])
    simp [Lib.hasPrefix, List.isPrefixOf, Ne.symm hb]
set_option maxHeartbeats 2000000 in
set_option maxRecDepth 100000 in
theorem impl_decimal {B : Nat} {w : World} (hM : Mx B w) (hB : B ≤ w.heap.size) (n : Int) (h0 : 0 ≤ n) (h1 : n ≤ 100000) :
    Calls Tryz.prog 79 #[.string ⟨(num n).toArray⟩] w fun e w' => e = .returned (.tuple #[.int .i64 n, .bool true]) ∧ Below w.heap.size w w' := by
  have hs := num_short n h0 h1
  have hs17 : (num n).length ≤ 17 := by
    have := dec_lenN 5 n.toNat (by have : (10 : Nat) ^ (5 + 1) = 1000000 := by decide
                                   omega)
    unfold num
    omega
  have eqF : ((ByteArray.mk (num n).toArray).toList == (ByteArray.mk (num n).toArray).toList) = true := beq_self_eq_true _
  go_enter Tryz.func79, Tryz.ntmps79
  go_wp2_with fail
  refine (Tryz.strings_TrimPrefix ⟨(num n).toArray⟩ ⟨#[45]⟩ _).mono ?_
  rintro e w1 ⟨rfl, rfl⟩
  have e45 : Lib.trimPrefix (ByteArray.mk (num n).toArray).data.toList (ByteArray.mk #[45]).data.toList = num n := trim_num n
  rw [e45]
  go_wp2_with fail
  refine (atoi_is n h0 h1 _).mono ?_
  rintro e w2 ⟨rfl, b2⟩
  go_wp2_with fail
  refine (itoa_any (hM.keep (b2.mono hB)) n h0 (by omega)).mono ?_
  rintro e w3 ⟨rfl, b3⟩
  go_wp2_with fail
  go_ret2
  exact ⟨rfl, bthru b2 b3⟩

set_option maxHeartbeats 2000000 in
set_option maxRecDepth 100000 in
theorem do_plain {x : List UInt8} {s s' : St} (hx : (32 : UInt8) ∉ x) (hl : x.length ≤ 2000000) (hp : PlainIs x s s') : DoIs x s s' := by
  intro B b w hM D hBw
  have hC := cut_no 32 [] x hx
  go_enter Tryz.func42, Tryz.ntmps42
  go_wp2_with fail
  refine (cut_is hC hM hl).mono ?_
  rintro e w1 ⟨rfl, b1⟩
  have D1 := D.keep b1
  have hM1 := hM.keep (b1.mono hBw)
  have F1 := (Frm.refl B b w).thru hBw b1
  have hB1 := Nat.le_trans hBw b1.size
  go_wp2_with fail
  refine (hp B b _ hM1 D1 hB1).mono ?_
  rintro e w2 ⟨rfl, D2, F2⟩
  go_wp2_with fail
  go_end0
  exact ⟨rfl, D2, F1.trans F2⟩
set_option maxHeartbeats 2000000 in
set_option maxRecDepth 100000 in
theorem do_text {x r : List UInt8} {s s' : St} (hx : (32 : UInt8) ∉ x) (hl : x.length + r.length ≤ 1000000) (hp : TextIs x r s s') : DoIs (x ++ [32] ++ r) s s' := by
  intro B b w hM D hBw
  have hC := cut_app 32 [] x r hx
  have hLl : (x ++ [32] ++ r).length ≤ 2000000 := by simp; omega
  generalize x ++ [32] ++ r = L at hC hLl ⊢
  go_enter Tryz.func42, Tryz.ntmps42
  go_wp2_with fail
  refine (cut_is hC hM hLl).mono ?_
  rintro e w1 ⟨rfl, b1⟩
  have D1 := D.keep b1
  have hM1 := hM.keep (b1.mono hBw)
  have F1 := (Frm.refl B b w).thru hBw b1
  have hB1 := Nat.le_trans hBw b1.size
  go_wp2_with fail
  refine (hp B b _ hM1 D1 hB1).mono ?_
  rintro e w2 ⟨rfl, D2, F2⟩
  go_wp2_with fail
  go_end0
  exact ⟨rfl, D2, F1.trans F2⟩
set_option maxHeartbeats 2000000 in
set_option maxRecDepth 100000 in
theorem do_count {x : List UInt8} {n : Int} {s s' : St} (hx : (32 : UInt8) ∉ x) (hl : x.length ≤ 1000000) (h0 : 0 ≤ n) (h1 : n ≤ 100000) (ht : TextNo x (num n) s) (hp : CountIs x n s s') : DoIs (x ++ [32] ++ num n) s s' := by
  intro B b w hM D hBw
  have hnl := num_len n (by omega)
  have hC := cut_app 32 [] x (num n) hx
  have hLl : (x ++ [32] ++ num n).length ≤ 2000000 := by simp; omega
  generalize x ++ [32] ++ num n = L at hC hLl ⊢
  go_enter Tryz.func42, Tryz.ntmps42
  go_wp2_with fail
  refine (cut_is hC hM hLl).mono ?_
  rintro e w1 ⟨rfl, b1⟩
  have D1 := D.keep b1
  have hM1 := hM.keep (b1.mono hBw)
  have F1 := (Frm.refl B b w).thru hBw b1
  have hB1 := Nat.le_trans hBw b1.size
  go_wp2_with fail
  refine (ht B b _ hM1 D1 hB1).mono ?_
  rintro e w2 ⟨rfl, D2, F2⟩
  have hM2 := hM1.keep F2.2
  have F2 := F1.trans F2
  have hB2 := Nat.le_trans hBw F2.size
  go_wp2_with fail
  refine (impl_decimal hM2 hB2 n h0 h1).mono ?_
  rintro e w3 ⟨rfl, b3⟩
  have D3 := D2.keep b3
  have hM3 := hM2.keep (b3.mono hB2)
  have F3 := F2.thru hBw b3
  have hB3 := Nat.le_trans hBw F3.size
  go_wp2_with fail
  refine (hp B b _ hM3 D3 hB3).mono ?_
  rintro e w4 ⟨rfl, D4, F4⟩
  go_wp2_with fail
  go_end0
  exact ⟨rfl, D4, F3.trans F4⟩

/-- Lines, one after the other. -/
inductive Chain : List (List UInt8) → St → St → Prop
  | nil (s : St) : Chain [] s s
  | skip {r : List (List UInt8)} {s s' : St} (h : Chain r s s') : Chain ([] :: r) s s'
  | step {x : List UInt8} {r : List (List UInt8)} {s s1 s2 : St} (hx : x ≠ []) (ho : s.out.length ≤ 40000) (hd : DoIs x s s1) (h : Chain r s1 s2) : Chain (x :: r) s s2
theorem chain_nil {s s' : St} (h : Chain [] s s') : s' = s := by
  cases h
  rfl
theorem chain_cons {x : List UInt8} {r : List (List UInt8)} {s s' : St} (h : Chain (x :: r) s s') : (x = [] ∧ Chain r s s') ∨ (x ≠ [] ∧ s.out.length ≤ 40000 ∧ ∃ s1, DoIs x s s1 ∧ Chain r s1 s') := by
  cases h with
  | skip h => exact .inl ⟨rfl, h⟩
  | step hx ho hd h => exact .inr ⟨hx, ho, _, hd, h⟩
def St0 : St := ⟨[], 0, [], 0, []⟩
theorem tn6 : (9 : TypeId) ≠ 5 := by decide

set_option maxHeartbeats 4000000 in
set_option maxRecDepth 100000 in
theorem impl_RunScript (text : List UInt8) (T R : ByteArray) (hT : T = ⟨text.toArray⟩) (L : List (List UInt8)) (hL : pieces [10] text = L) (S : St) (hR : R = ⟨S.out.toArray⟩) (w : World) (hlen : text.length ≤ 20000) (hn : L.length ≤ 200) (hC : Chain L St0 S) (h0 : S.out ≠ []) (hM : Mx w.heap.size w) :
    Calls Tryz.prog 14 #[.string T] w fun e w' => e = .returned (.string R) ∧ Below w.heap.size w w' := by
  subst hT hR
  have HC := Lib.hid hC
  have hM0 := hM
  clear hC
  go_enter Tryz.func14, Tryz.ntmps14
  go_wp2_with fail
  have hD0 : (w.alloc (.cells #[.slice none 0 0, .slice none 0 0, .int .i64 0, .pointer none, .slice none 0 0] DT (0, 0))).heap[w.heap.size]? = some (.cells #[.slice none 0 0, .slice none 0 0, .int .i64 0, .pointer none, .slice none 0 0] DT (0, 0)) := heap_alloc_new w _
  have D0 : Desk w.heap.size w.heap.size (w.alloc (.cells #[.slice none 0 0, .slice none 0 0, .int .i64 0, .pointer none, .slice none 0 0] DT (0, 0))) St0 :=
    ⟨Nat.le_refl _, none, 0, .slice none 0 0, .pointer none, .slice none 0 0, hD0, .inl rfl, ⟨rfl, .inl ⟨rfl, rfl⟩⟩, OT_nil _ _, World.ownsRow_nil _ _ _ _⟩
  have F0 : Below w.heap.size w (w.alloc (.cells #[.slice none 0 0, .slice none 0 0, .int .i64 0, .pointer none, .slice none 0 0] DT (0, 0))) := bal (Below.refl _ _) _
  refine (split_is text 10 [] L hL (hM.keep F0) (by omega)).mono ?_
  rintro e w1 ⟨rfl, rfl⟩
  have D1 := D0.keep (bal (Below.refl _ _) (.cells (L.map (fun x => Value.string ⟨x.toArray⟩)).toArray 9 (0, 0)))
  have F1 := bthru F0 (bal (Below.refl _ _) (.cells (L.map (fun x => Value.string ⟨x.toArray⟩)).toArray 9 (0, 0)))
  have hP := heap_alloc_new (w.alloc (.cells #[.slice none 0 0, .slice none 0 0, .int .i64 0, .pointer none, .slice none 0 0] DT (0, 0))) (.cells (L.map (fun x => Value.string ⟨x.toArray⟩)).toArray 9 (0, 0))
  have hsz : (w.alloc (.cells #[.slice none 0 0, .slice none 0 0, .int .i64 0, .pointer none, .slice none 0 0] DT (0, 0))).heap.size = w.heap.size + 1 := by simp
  rw [hsz] at hP
  clear D0 F0 hD0
  go_wp2_with fail
  go_loopw [14] (fun i wr => ∃ (k : Nat) (s : St), i = .int .i64 (k : Int) ∧ k ≤ L.length ∧ Hid (Chain (L.drop k) s S) ∧ Desk w.heap.size w.heap.size wr s ∧ Hid (wr.heap[w.heap.size + 1]? = some (.cells (L.map (fun x => Value.string ⟨x.toArray⟩)).toArray 9 (0, 0))) ∧ Below w.heap.size w wr) (fun i _ => L.length - (intOf i).toNat)
  case atStart => exact ⟨0, St0, rfl, by omega, by rw [List.drop_zero]; exact HC, D1, hP, F1⟩
  case round =>
    clear hP D1 F1 HC
    obtain ⟨k, s, rfl, hk, hC, D, hP, hb⟩ := hrel
    by_cases hlt : k < L.length
    · have hx := flat_row hP.out k hlt
      have hd0 : L.drop k = L[k] :: L.drop (k + 1) := List.drop_eq_getElem_cons hlt
      have hC1 := hC.out
      rw [hd0] at hC1
      generalize L[k] = x at hx hC1
      have hpl := (Array.getElem?_eq_some_iff.1 hP.out).1
      clear hd0 hC
      rcases chain_cons hC1 with ⟨rfl, hC2⟩ | ⟨hne, ho, s1, hd, hC2⟩
      · have HC2 := Lib.hid hC2
        clear hC1 hC2
        go_wp2_with fail
        go_roundw
        case rel => exact ⟨k + 1, s, by go_num, by omega, HC2, D, hP, hb⟩
        case measure => simp [intOf]; omega
      · have HC2 := Lib.hid hC2
        have hxe : x.isEmpty = false := by simpa using hne
        clear hC1 hC2
        have hk200 : ¬ (200 : Int) ≤ (k : Int) := by omega
        have hgo : ¬ (40000 : Int) < (s.out.length : Int) := by omega
        go_wp2_with fail
        refine (desk_Len D).mono ?_
        rintro e w2 ⟨rfl, rfl⟩
        go_wp2_with fail
        refine (hd w.heap.size w.heap.size _ (hM0.keep hb) D hb.size).mono ?_
        rintro e w3 ⟨rfl, D3, F3⟩
        have hP3 := F3.1 _ _ hP.out (by simp) (by rintro c fz e; injection e with _ e _; exact tn6 e)
        go_wp2_with fail
        go_roundw
        case rel => exact ⟨k + 1, s1, by go_num, by omega, HC2, D3, hP3, hb.trans F3.2⟩
        case measure => simp [intOf]; omega
    · obtain rfl : k = L.length := by omega
      have hC1 := hC.out
      rw [List.drop_length] at hC1
      obtain rfl := chain_nil hC1
      clear hC1 hC hP
      go_wp2_with fail
      refine (desk_String D h0).mono ?_
      rintro e w3 ⟨rfl, b3⟩
      go_wp2_with fail
      go_ret
      exact ⟨rfl, hb.trans b3⟩
end Go.Proofs.YtmkjmancmiphfaaGreatDoor
