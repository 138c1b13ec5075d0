/-
  The reference's machine in plain Lean: a list of works, an index of the next job; it is the machine.
  Shares, the reference's: l1Gcd, MakeShare, ShareValid, l2Add, CompareShares.
  l2Add, the reference's sum of shares.
-/
import Derived.Test.YtmkjmancmiphfaaGreatDoorRa06
import Derived.Test.YtmkjmancmiphfaaGreatDoorRa08
import Derived.Test.YtmkjmancmiphfaaGreatDoorRa04
namespace Go.Proofs.YtmkjmancmiphfaaGreatDoor
section
open Go.RowKit

/-- The works of the jobs that are left. -/
def wkOf (dn : List Int) (lf : List Nat) : List (Nat × Int) := lf.map (fun i => (i, dn.getD i 0))
def bestIx (g : Nat → Nat → Bool) (lf : List Nat) : Nat → Nat
  | 0 => 0
  | k + 1 => if g (lf.getD (k + 1) 0) (lf.getD (bestIx g lf k) 0) then k + 1 else bestIx g lf k
theorem bestIx_le (g : Nat → Nat → Bool) (lf : List Nat) (k : Nat) : bestIx g lf k ≤ k := by
  induction k with
  | zero => exact Nat.le_refl _
  | succ k ih =>
    simp only [bestIx]
    split <;> omega
theorem bestIx_at (g : Nat → Nat → Bool) (lf : List Nat) (k : Nat) : lf.getD (bestIx g lf k) 0 = bestTo g lf k := by
  induction k with
  | zero => rfl
  | succ k ih =>
    simp only [bestIx, bestTo, ih]
    split
    · rfl
    · exact ih
/-- The index of the next job. -/
structure NX (js : List Jb) (t : Int) (nx : Nat) : Prop where
  le : nx ≤ js.length
  lo : ∀ i, i < nx → jA js i < t
  hi : ∀ i, nx ≤ i → i < js.length → t ≤ jA js i
theorem arr_pre {l : List Tk} {js : List Jb} {tick : Int} {hi : Bool} {s : List Int × List Nat} {m : Nat} (h : ∀ i, i < m → jA js i ≠ tick) : arrTo l js tick hi s m = s := by
  induction m with
  | zero => rfl
  | succ m ih =>
    simp only [arrTo, arrS]
    rw [if_neg (h m (by omega))]
    exact ih (fun i hi => h i (by omega))
theorem arr_post {l : List Tk} {js : List Jb} {tick : Int} {hi : Bool} {s : List Int × List Nat} {m n : Nat} (hmn : m ≤ n) (h : ∀ i, m ≤ i → i < n → jA js i ≠ tick) : arrTo l js tick hi s n = arrTo l js tick hi s m := by
  induction n with
  | zero =>
    obtain rfl : m = 0 := by omega
    rfl
  | succ n ih =>
    by_cases e : m = n + 1
    · rw [e]
    · simp only [arrTo, arrS]
      rw [if_neg (h n (by omega) (by omega))]
      exact ih (by omega) (fun i h1 h2 => h i h1 (by omega))
theorem jobs_sorted {l : List Tk} {js : List Jb} (h : jobsV l js = true) {i j : Nat} (hij : i ≤ j) (hj : j < js.length) : jA js i ≤ jA js j := by
  simp only [jobsV, Bool.and_eq_true, List.all_eq_true, List.mem_range, decide_eq_true_eq] at h
  obtain ⟨_, hall⟩ := h
  induction j with
  | zero =>
    obtain rfl : i = 0 := by omega
    exact Int.le_refl _
  | succ j ih =>
    by_cases e : i = j + 1
    · rw [e]
      exact Int.le_refl _
    · have h1 := hall (j + 1) hj
      simp only [jobOk, Bool.and_eq_true] at h1
      have h2 := h1.2
      have e1 : j + 1 - 1 = j := by omega
      simp only [befJ, Bool.or_eq_true, Bool.and_eq_true, decide_eq_true_eq, e1] at h2
      have := ih (by omega) (by omega)
      unfold jA at this ⊢
      omega
/-- The jobs of a tick have come. -/
theorem NX.step {l : List Tk} {js : List Jb} (hv : jobsV l js = true) {t : Int} {nx m : Nat} (h : NX js t nx) (hm : nx ≤ m) (hml : m ≤ js.length) (he : ∀ i, nx ≤ i → i < m → jA js i = t) (hx : m < js.length → jA js m ≠ t) : NX js (t + 1) m := by
  refine ⟨hml, fun i hi => ?_, fun i h1 h2 => ?_⟩
  · by_cases e : i < nx
    · have := h.lo i e
      omega
    · have := he i (by omega) hi
      omega
  · have a := hx (by omega)
    have b := h.hi m hm (by omega)
    have c := jobs_sorted hv h1 h2
    omega
theorem arr_all {l : List Tk} {js : List Jb} {t : Int} {hi : Bool} {s : List Int × List Nat} {m : Nat} (h : NX js (t + 1) m) : arrTo l js t hi s js.length = arrTo l js t hi s m :=
  arr_post h.le (fun i h1 h2 => by
    have := h.hi i h1 h2
    omega)
theorem arr_none {l : List Tk} {js : List Jb} {t : Int} {hi : Bool} {s : List Int × List Nat} {nx : Nat} (h : NX js t nx) : arrTo l js t hi s nx = s :=
  arr_pre (fun i hi => by
    have := h.lo i hi
    omega)
theorem arr_one {l : List Tk} {js : List Jb} {t : Int} {hi : Bool} {s : List Int × List Nat} {m : Nat} (h : jA js m = t) :
    arrTo l js t hi s (m + 1) = if hi && !(tkAt l (jK js m)).crit then ((arrTo l js t hi s m).1.set m (-2), (arrTo l js t hi s m).2) else ((arrTo l js t hi s m).1, (arrTo l js t hi s m).2 ++ [m]) := by
  simp only [arrTo, arrS]
  rw [if_pos h]
theorem wkOf_snoc (dn : List Int) (lf : List Nat) (m : Nat) (h : dn.getD m 0 = 0) : wkOf dn (lf ++ [m]) = wkOf dn lf ++ [(m, 0)] := by
  unfold wkOf
  rw [List.map_append, List.map_singleton, h]
/-- None of those that are left is there twice. -/
theorem arr_nodup {l : List Tk} {js : List Jb} {t : Int} {hi : Bool} {s : List Int × List Nat} (h : s.2.Nodup) (hl : ∀ i, i ∈ s.2 → jA js i < t) (m : Nat) : (arrTo l js t hi s m).2.Nodup := by
  induction m with
  | zero => exact h
  | succ m ih =>
    simp only [arrTo, arrS]
    split
    · rename_i he
      split
      · exact ih
      · refine List.nodup_append.2 ⟨ih, by simp, ?_⟩
        intro a ha b hb e
        rw [List.mem_singleton] at hb
        subst hb
        subst e
        rcases (arr_mem l js t hi s a a).1 ha with h1 | ⟨h1, _⟩
        · have := hl a h1
          omega
        · omega
    · exact ih
theorem still_filter (en : List Int) (lf : List Nat) (k : Nat) (hk : k ≤ lf.length) : stillTo en lf k = (lf.take k).filter (fun i => decide (en.getD i 0 = -1)) := by
  induction k with
  | zero => rfl
  | succ k ih =>
    have hk' : k < lf.length := by omega
    rw [List.take_succ_eq_append_getElem hk', List.filter_append, ← ih (by omega)]
    simp only [stillTo]
    have e : lf.getD k 0 = lf[k] := by simp [hk']
    rw [e]
    by_cases h : en.getD lf[k] 0 = -1
    · rw [if_pos h, List.filter_cons_of_pos (by simpa using h), List.filter_nil]
    · rw [if_neg h, List.filter_cons_of_neg (by simpa using h), List.filter_nil]
theorem still_all {en : List Int} {lf : List Nat} (h : ∀ i, i ∈ lf → en.getD i 0 = -1) : stillTo en lf lf.length = lf := by
  rw [still_filter _ _ _ (Nat.le_refl _), List.take_length, List.filter_eq_self]
  intro a ha
  simpa using h a ha
theorem split_at (lf : List Nat) {b : Nat} (hb : b < lf.length) (hn : lf.Nodup) : ∃ r, lf.getD b 0 = r ∧ lf = lf.take b ++ r :: lf.drop (b + 1) ∧ (∀ i, i ∈ lf.take b ++ lf.drop (b + 1) → i ≠ r) ∧ r ∈ lf := by
  have hs : lf = lf.take b ++ lf[b] :: lf.drop (b + 1) := by
    rw [List.getElem_cons_drop, List.take_append_drop]
  refine ⟨lf[b], by simp [hb], hs, ?_, List.getElem_mem hb⟩
  generalize lf[b] = r at hs ⊢
  intro i hi e2
  rw [hs] at hn
  have h1 := List.nodup_append.1 hn
  have h2 := List.nodup_cons.1 h1.2.1
  rcases List.mem_append.1 hi with hi | hi
  · exact h1.2.2 i hi r (by simp) e2
  · exact h2.1 (e2 ▸ hi)
theorem still_erase {en : List Int} {lf : List Nat} (h : ∀ i, i ∈ lf → en.getD i 0 = -1 ∧ i < en.length) (hn : lf.Nodup) {b : Nat} (hb : b < lf.length) {v : Int} (hv : v ≠ -1) :
    stillTo (en.set (lf.getD b 0) v) lf lf.length = lf.take b ++ lf.drop (b + 1) := by
  rw [still_filter _ _ _ (Nat.le_refl _), List.take_length]
  obtain ⟨r, e, hs, hne, hr⟩ := split_at lf hb hn
  rw [e]
  have hmem : ∀ i, i ∈ lf.take b ++ lf.drop (b + 1) → i ∈ lf := by
    intro i hi
    rcases List.mem_append.1 hi with hi | hi
    · exact List.mem_of_mem_take hi
    · exact List.mem_of_mem_drop hi
  have keep : ∀ i, i ∈ lf.take b ++ lf.drop (b + 1) → decide ((en.set r v).getD i 0 = -1) = true := by
    intro i hi
    have h1 := h i (hmem i hi)
    rw [getD_set, if_neg (fun h2 => hne i hi h2.1.symm)]
    simpa using h1.1
  have out : decide ((en.set r v).getD r 0 = -1) = false := by
    rw [getD_set, if_pos ⟨rfl, (h _ hr).2⟩]
    simpa using hv
  have hf : (lf.take b ++ r :: lf.drop (b + 1)).filter (fun i => decide ((en.set r v).getD i 0 = -1)) = lf.take b ++ lf.drop (b + 1) := by
    rw [List.filter_append, List.filter_cons, out]
    simp only [Bool.false_eq_true, if_false]
    rw [List.filter_eq_self.2 (fun a ha => keep a (by simp [ha])), List.filter_eq_self.2 (fun a ha => keep a (by simp [ha]))]
  rw [← hs] at hf
  exact hf
theorem wk_len (dn : List Int) (lf : List Nat) : (wkOf dn lf).length = lf.length := by simp [wkOf]
theorem wk_set {dn : List Int} {lf : List Nat} (hn : lf.Nodup) (hl : ∀ i, i ∈ lf → i < dn.length) {b : Nat} (hb : b < lf.length) (d : Int) :
    wkOf (dn.set (lf.getD b 0) d) lf = (wkOf dn lf).set b (lf.getD b 0, d) := by
  have e : lf.getD b 0 = lf[b] := by simp [hb]
  rw [e]
  apply List.ext_getElem
  · simp [wkOf]
  · intro j h1 h2
    have hj : j < lf.length := by simpa [wkOf] using h1
    rw [List.getElem_set]
    simp only [wkOf, List.getElem_map]
    rw [getD_set]
    by_cases ej : b = j
    · subst ej
      rw [if_pos ⟨rfl, hl _ (List.getElem_mem hb)⟩, if_pos rfl]
    · have hne : lf[b] ≠ lf[j] := fun h => ej ((List.getElem_inj hn).1 h)
      rw [if_neg (fun h => hne h.1), if_neg ej]
theorem wk_erase {dn : List Int} {lf : List Nat} (hn : lf.Nodup) {b : Nat} (hb : b < lf.length) (d : Int) :
    wkOf (dn.set (lf.getD b 0) d) (lf.take b ++ lf.drop (b + 1)) = (wkOf dn lf).take b ++ (wkOf dn lf).drop (b + 1) := by
  obtain ⟨r, e, _, hne, _⟩ := split_at lf hb hn
  rw [e]
  have hm : wkOf (dn.set r d) (lf.take b ++ lf.drop (b + 1)) = wkOf dn (lf.take b ++ lf.drop (b + 1)) := by
    unfold wkOf
    apply List.map_congr_left
    intro i hi
    rw [getD_set, if_neg (fun h => hne i hi h.1.symm)]
  rw [hm]
  simp [wkOf, List.map_append, List.map_take, List.map_drop]
theorem still_switch {l : List Tk} {js : List Jb} {en : List Int} {lf : List Nat} (h : ∀ i, i ∈ lf → en.getD i 0 = -1 ∧ i < en.length) :
    stillTo (dropTo l js lf en lf.length) lf lf.length = lf.filter (fun i => (tkAt l (jK js i)).crit) := by
  rw [still_filter _ _ _ (Nat.le_refl _), List.take_length]
  apply List.filter_congr
  intro i hi
  obtain ⟨h1, h2⟩ := h i hi
  rw [drop_en l js lf en lf.length i h2]
  have hex : ∃ j, j < lf.length ∧ lf.getD j 0 = i := (mem_getD lf i).2 hi
  cases hc : (tkAt l (jK js i)).crit with
  | true =>
    rw [if_neg (fun h => by cases h.2)]
    simpa using h1
  | false =>
    rw [if_pos ⟨hex, rfl⟩]
    rfl
/-- The machine's state as the reference has it. -/
structure SInv (l : List Tk) (js : List Jb) (t : Nat) (s : Mc) (nx : Nat) : Prop where
  inv : MInv l js t s
  nx : NX js (t : Int) nx
  nd : s.lf.Nodup
theorem SInv.step {l : List Tk} {js : List Jb} {num den pol : Int} (hv : jobsV l js = true) {t : Nat} {s : Mc} {nx : Nat} (I : SInv l js t s nx) {m : Nat} (hm : NX js ((t : Int) + 1) m) : SInv l js (t + 1) (mstep l js num den pol t s) m := by
  have hS : setVld l = true := by
    simp only [jobsV, Bool.and_eq_true] at hv
    exact hv.1.1
  have ha : (arrOf l js t s).2.Nodup := arr_nodup I.nd (fun i hi => (I.inv.lfI i hi).2.1) _
  refine ⟨I.inv.step (apart_of hv) (fun k hk => tkAt_vld hS hk), by exact_mod_cast hm, ?_⟩
  unfold mstep
  by_cases he : (arrOf l js t s).2 = []
  · simp only [he, if_true]
    exact List.nodup_nil
  · simp only [he, if_false]
    rw [still_filter _ _ _ (Nat.le_refl _), List.take_length]
    exact ha.filter _
end

section
open Go.RowKit

theorem spec_l1Gcd (a b : Nat) (w : World) (ha : a ≤ 4611686018427387904) (hb : b ≤ 4611686018427387904) :
    Calls Tryz.prog 111 #[.int .i64 (a : Int), .int .i64 (b : Int)] w fun e w' => e = .returned (.int .i64 ((Nat.gcd a b : Nat) : Int)) ∧ Below w.heap.size w w' := by
  go_enter Tryz.func111, Tryz.ntmps111
  go_wp2_with fail
  go_loopw [0, 1] (fun u v wr => ∃ x y : Nat, u = .int .i64 (x : Int) ∧ v = .int .i64 (y : Int) ∧ Hid (Nat.gcd x y = Nat.gcd a b) ∧ x ≤ 4611686018427387904 ∧ y ≤ 4611686018427387904 ∧ Below w.heap.size w wr) (fun _ v _ => (intOf v).toNat)
  case atStart => exact ⟨a, b, rfl, rfl, rfl, ha, hb, Below.refl _ _⟩
  case round =>
    obtain ⟨x, y, rfl, rfl, hg, hx, hy, hbl⟩ := hrel
    by_cases h0 : y = 0
    · subst h0
      go_wp2_with fail
      go_ret
      have := hg.out
      rw [Nat.gcd_zero_right] at this
      exact ⟨by rw [← this]; rfl, hbl⟩
    · have hne : ((y : Int) != 0) = true := by rw [bne_iff_ne]; omega
      have hlt := Nat.mod_lt x (show 0 < y by omega)
      have hz : ((y : Int) == 0) = false := beq_eq_false_iff_ne.2 (by omega)
      have h0' : 0 < y := by omega
      go_wp2_with fail
      go_roundw
      case rel => exact ⟨y, x % y, rfl, by go_num, by rw [Hid, gcd_step]; exact hg, hy, by omega, hbl⟩
      case measure => simp [intOf]; omega

theorem spec_l1GcdI (x y : Int) (w : World) (hx : 0 ≤ x) (hy : 0 ≤ y) (ha : x ≤ 4611686018427387904) (hb : y ≤ 4611686018427387904) :
    Calls Tryz.prog 111 #[.int .i64 x, .int .i64 y] w fun e w' => e = .returned (.int .i64 ((Nat.gcd x.toNat y.toNat : Nat) : Int)) ∧ Below w.heap.size w w' := by
  obtain ⟨n, rfl⟩ : ∃ k : Nat, x = (k : Int) := ⟨x.toNat, (Int.toNat_of_nonneg hx).symm⟩
  obtain ⟨d, rfl⟩ : ∃ k : Nat, y = (k : Int) := ⟨y.toNat, (Int.toNat_of_nonneg hy).symm⟩
  simpa using spec_l1Gcd n d w (by omega) (by omega)

theorem spec_MakeShare (n d : Int) (w : World) :
    Calls Tryz.prog 112 #[.int .i64 n, .int .i64 d] w (MakePost n d w) := by
  by_cases h0 : 0 ≤ n
  case neg =>
    go_enter Tryz.func112, Tryz.ntmps112
    go_wp2_with fail
    exact bodyPost_ret (v := .tuple #[sv 0 0, .bool false]) (by simp [results, Tryz.results112, go_sem]) rfl (.inr ⟨by simp [shIn]; omega, rfl, bal (Below.refl _ _) _⟩)
  by_cases h1 : n ≤ 1000000000
  case neg =>
    go_enter Tryz.func112, Tryz.ntmps112
    go_wp2_with fail
    exact bodyPost_ret (v := .tuple #[sv 0 0, .bool false]) (by simp [results, Tryz.results112, go_sem]) rfl (.inr ⟨by simp [shIn]; omega, rfl, bal (Below.refl _ _) _⟩)
  by_cases h2 : 1 ≤ d
  case neg =>
    go_enter Tryz.func112, Tryz.ntmps112
    go_wp2_with fail
    exact bodyPost_ret (v := .tuple #[sv 0 0, .bool false]) (by simp [results, Tryz.results112, go_sem]) rfl (.inr ⟨by simp [shIn]; omega, rfl, bal (Below.refl _ _) _⟩)
  by_cases h3 : d ≤ 1000000000
  case neg =>
    go_enter Tryz.func112, Tryz.ntmps112
    go_wp2_with fail
    exact bodyPost_ret (v := .tuple #[sv 0 0, .bool false]) (by simp [results, Tryz.results112, go_sem]) rfl (.inr ⟨by simp [shIn]; omega, rfl, bal (Below.refl _ _) _⟩)
  obtain ⟨n, rfl⟩ : ∃ k : Nat, n = (k : Int) := ⟨n.toNat, (Int.toNat_of_nonneg h0).symm⟩
  obtain ⟨d, rfl⟩ : ∃ k : Nat, d = (k : Int) := ⟨d.toNat, (Int.toNat_of_nonneg (by omega)).symm⟩
  have hgpos : 0 < Nat.gcd d n := Nat.gcd_pos_of_pos_left _ (by omega)
  have hgle : Nat.gcd d n ≤ d := Nat.le_of_dvd (by omega) (Nat.gcd_dvd_left _ _)
  have e1 : (mkRat (n : Int) d).num = (n : Int) / ((Nat.gcd d n : Nat) : Int) := by rw [mkRat_num _ _ (by omega), Nat.gcd_comm]; simp
  have e2 : (((mkRat (n : Int) d).den : Nat) : Int) = (d : Int) / ((Nat.gcd d n : Nat) : Int) := by rw [mkRat_den _ _ (by omega), Nat.gcd_comm]; simp
  have hne : (((Nat.gcd d n : Nat) : Int) == 0) = false := beq_eq_false_iff_ne.2 (by omega)
  have E1 := Lib.hid e1
  have E2 := Lib.hid e2
  clear e1 e2
  go_enter Tryz.func112, Tryz.ntmps112
  go_wp2_with fail
  refine (spec_l1Gcd d n _ (by omega) (by omega)).mono ?_
  rintro e w1 ⟨rfl, b1⟩
  generalize Nat.gcd d n = c at *
  have hB : w1.heap[w.heap.size]? = some (.cells #[.int .i64 0, .int .i64 0] 54 (0, 0)) := (b1.block _ (by simp)).trans (heap_alloc_new w _)
  have k0 : w1.cell? ⟨w.heap.size, 0, none⟩ = some (.int .i64 0) := by rw [cell_of_row w1 _ 0 _ _ _ hB]; rfl
  have k1 : w1.cell? ⟨w.heap.size, 1, none⟩ = some (.int .i64 0) := by rw [cell_of_row w1 _ 1 _ _ _ hB]; rfl
  have kf : ∀ i, w1.frozen? ⟨w.heap.size, i, none⟩ = false := fun i => frozen_of_row w1 _ i _ _ hB
  clear hB
  have hq1 : IntKind.i64.wrap ((n : Int).tdiv (c : Int)) = (n : Int) / (c : Int) := IntWalk.i64_quo _ _ (by omega)
  have hq2 : IntKind.i64.wrap ((d : Int).tdiv (c : Int)) = (d : Int) / (c : Int) := IntWalk.i64_quo _ _ (by omega)
  go_wp2_with fail
  go_region
  go_wp2_with fail
  have q1 : 0 ≤ (n : Int) / (c : Int) ∧ (n : Int) / (c : Int) ≤ n := ⟨Int.ediv_nonneg (by omega) (by omega), Int.ediv_le_self _ (by omega)⟩
  have q2 : 0 ≤ (d : Int) / (c : Int) ∧ (d : Int) / (c : Int) ≤ d := ⟨Int.ediv_nonneg (by omega) (by omega), Int.ediv_le_self _ (by omega)⟩
  have p1 : wrap64 ((n : Int) / (c : Int)) = (n : Int) / (c : Int) := IntWalk.wrap64_in _ (by omega)
  have p2 : wrap64 ((d : Int) / (c : Int)) = (d : Int) / (c : Int) := IntWalk.wrap64_in _ (by omega)
  refine bodyPost_ret (v := .tuple #[sv ((n : Int) / (c : Int)) ((d : Int) / (c : Int)), .bool true]) (by simp [results, Tryz.results112, go_sem, k0, k1, p1, p2]) rfl (.inl ⟨by simp [shIn]; omega, ?_, ?_⟩)
  · rw [← E1.out, ← E2.out]; rfl
  · exact (bst (bst (bthru (bal (Below.refl _ _) _) b1) (Nat.le_refl _) _) (Nat.le_refl _) _).drew
theorem spec_ShareValid_yes (r : Rat) (w : World) (h : RIn r) :
    Calls Tryz.prog 152 #[rv r] w fun e w' => e = .returned (.bool true) ∧ Below w.heap.size w w' := by
  have hq := fun (w : World) => run_eql_share r.num r.den w
  go_enter Tryz.func152, Tryz.ntmps152
  go_wp2_with fail
  refine (spec_MakeShare r.num r.den _).mono ?_
  rintro e w1 (⟨_, rfl, b1⟩ | ⟨hf, _, _⟩)
  · rw [Int.toNat_natCast, Rat.mkRat_self]
    have hB : w1.heap[w.heap.size]? = some (.cells #[.int .i64 r.num, .int .i64 (r.den : Int)] 54 (0, 0)) := (b1.block _ (by simp)).trans (heap_alloc_new w _)
    have hs : w.heap.size < w1.heap.size := by have := b1.size; simp at this; omega
    have k0 : w1.cell? ⟨w.heap.size, 0, none⟩ = some (.int .i64 r.num) := by rw [cell_of_row w1 _ 0 _ _ _ hB]; rfl
    have k1 : w1.cell? ⟨w.heap.size, 1, none⟩ = some (.int .i64 (r.den : Int)) := by rw [cell_of_row w1 _ 1 _ _ _ hB]; rfl
    clear hB
    go_wp2_with fail
    go_ret
    exact ⟨rfl, bal (bthru (bal (Below.refl _ _) _) b1) _⟩
  · rw [shIn_rat h] at hf
    cases hf
/-- How two shares compare. -/
def cmpR (a b : Rat) : Int := if a.num * (b.den : Int) < b.num * (a.den : Int) then -1 else if b.num * (a.den : Int) < a.num * (b.den : Int) then 1 else 0
theorem spec_CompareShares (a b : Rat) (w : World) (ha : RIn a) (hb : RIn b) :
    Calls Tryz.prog 110 #[rv a, rv b] w fun e w' => e = .returned (.int .i64 (cmpR a b)) ∧ Below w.heap.size w w' := by
  obtain ⟨a0, a1, a2, a3⟩ := RIn_bds ha
  obtain ⟨b0, b1, b2, b3⟩ := RIn_bds hb
  have m1 := mul_bd a0 a1 (show 0 ≤ (b.den : Int) by omega) b3 (by omega)
  have m2 := mul_bd b0 b1 (show 0 ≤ (a.den : Int) by omega) a3 (by omega)
  obtain ⟨m10, m11⟩ := m1
  obtain ⟨m20, m21⟩ := m2
  have hc : Hid (cmpR a b = if a.num * (b.den : Int) < b.num * (a.den : Int) then -1 else if b.num * (a.den : Int) < a.num * (b.den : Int) then 1 else 0) := rfl
  go_enter Tryz.func110, Tryz.ntmps110
  go_wp2_with fail
  refine (spec_ShareValid_yes a _ ha).mono ?_
  rintro e w1 ⟨rfl, c1⟩
  have hz1 := c1.size
  simp only [World.size_alloc] at hz1
  obtain ⟨q0, q1⟩ := heap2 w (.cells #[.int .i64 a.num, .int .i64 (a.den : Int)] 54) (.cells #[.int .i64 b.num, .int .i64 (b.den : Int)] 54)
  have q0 := (c1.block w.heap.size (by simp; omega)).trans q0
  have q1 := (c1.block (w.heap.size + 1) (by simp)).trans q1
  obtain ⟨u0, u1, uf⟩ := blk_two q0
  obtain ⟨v0, v1, vf⟩ := blk_two q1
  have Q0 := Lib.hid q0
  have Q1 := Lib.hid q1
  clear q0 q1
  go_wp2_with fail
  refine (spec_ShareValid_yes b _ hb).mono ?_
  rintro e w2 ⟨rfl, c2⟩
  have q0 := (c2.block w.heap.size (by omega)).trans Q0.out
  have q1 := (c2.block (w.heap.size + 1) (by omega)).trans Q1.out
  clear u0 u1 uf v0 v1 vf Q0 Q1
  obtain ⟨u0, u1, uf⟩ := blk_two q0
  obtain ⟨v0, v1, vf⟩ := blk_two q1
  clear q0 q1
  have B2 := bthru (bthru (bal (bal (Below.refl w.heap.size w) _) _) c1) c2
  by_cases h1 : a.num * (b.den : Int) < b.num * (a.den : Int)
  · have hv : Hid (cmpR a b = -1) := by rw [Hid, hc.out, if_pos h1]
    go_wp2_with fail
    go_ret
    exact ⟨by rw [hv.out]; rfl, B2⟩
  · by_cases h2 : b.num * (a.den : Int) < a.num * (b.den : Int)
    · have hv : Hid (cmpR a b = 1) := by rw [Hid, hc.out, if_neg h1, if_pos h2]
      go_wp2_with fail
      go_ret
      exact ⟨by rw [hv.out]; rfl, B2⟩
    · have hv : Hid (cmpR a b = 0) := by rw [Hid, hc.out, if_neg h1, if_neg h2]
      go_wp2_with fail
      go_ret
      exact ⟨by rw [hv.out]; rfl, B2⟩

theorem add_parts (a b : Rat) : ∃ p q g : Nat, g = Nat.gcd a.den b.den ∧ 0 < g ∧ a.den = p * g ∧ b.den = q * g ∧ 0 < p ∧ 0 < q := by
  have hg : 0 < Nat.gcd a.den b.den := Nat.gcd_pos_of_pos_left _ a.den_pos
  obtain ⟨p, hp⟩ := Nat.gcd_dvd_left a.den b.den
  obtain ⟨q, hq⟩ := Nat.gcd_dvd_right a.den b.den
  refine ⟨p, q, _, rfl, hg, by rw [Nat.mul_comm]; exact hp, by rw [Nat.mul_comm]; exact hq, ?_, ?_⟩
  · rcases Nat.eq_zero_or_pos p with h | h
    · rw [h, Nat.mul_zero] at hp; have := a.den_pos; omega
    · exact h
  · rcases Nat.eq_zero_or_pos q with h | h
    · rw [h, Nat.mul_zero] at hq; have := b.den_pos; omega
    · exact h
theorem add_as {a b : Rat} {p q g : Nat} (hp : a.den = p * g) (hq : b.den = q * g) (hg : 0 < g) (_h0 : 0 < p) (_h1 : 0 < q) : a + b = mkRat (a.num * q + b.num * p) (p * b.den) := by
  rw [← add_mk]
  have e1 : a.num * (b.den : Int) + b.num * (a.den : Int) = (a.num * q + b.num * p) * (g : Int) := by
    rw [hp, hq, Int.natCast_mul, Int.natCast_mul, Int.add_mul]
    ac_rfl
  have e2 : a.den * b.den = p * b.den * g := by
    rw [hp]
    ac_rfl
  rw [e1, e2, Rat.mkRat_mul_right (by omega)]

theorem spec_MakeShare_rat (r : Rat) (w : World) (h : RIn r) :
    Calls Tryz.prog 112 #[.int .i64 r.num, .int .i64 (r.den : Int)] w fun e w' => e = .returned (.tuple #[rv r, .bool true]) ∧ Below w.heap.size w w' := by
  refine (spec_MakeShare r.num r.den w).mono ?_
  rintro e w1 (⟨_, rfl, b1⟩ | ⟨hf, _, _⟩)
  · rw [Int.toNat_natCast, Rat.mkRat_self]
    exact ⟨rfl, b1⟩
  · rw [shIn_rat h] at hf
    cases hf
theorem nat_big {D : Nat} (h : (D : Int) ≤ 1000000000 * 1000000000 + 1000000000 * 1000000000) : D ≤ 4611686018427387904 := by omega

set_option maxHeartbeats 1000000 in
set_option maxRecDepth 100000 in
theorem spec_l2Add (a b : Rat) (w : World) (ha : RIn a) (hb : RIn b) (hs : RIn (a + b)) :
    Calls Tryz.prog 109 #[rv a, rv b] w fun e w' => e = .returned (.tuple #[rv (a + b), .bool true]) ∧ Below w.heap.size w w' := by
  obtain ⟨p, q, g, hg, g0, hp, hq, p0, q0⟩ := add_parts a b
  have hab := add_as hp hq g0 p0 q0
  obtain ⟨a0, a1, a2, a3⟩ := RIn_bds ha
  obtain ⟨b0, b1, b2, b3⟩ := RIn_bds hb
  have hple : p ≤ a.den := by rw [hp]; exact Nat.le_mul_of_pos_right _ g0
  have hqle : q ≤ b.den := by rw [hq]; exact Nat.le_mul_of_pos_right _ g0
  have hgle : g ≤ a.den := by rw [hp]; exact Nat.le_mul_of_pos_left _ p0
  have d1 : (a.den : Int).tdiv (g : Int) = (p : Int) := by
    rw [hp, Int.natCast_mul, Int.mul_tdiv_cancel _ (by omega)]
  have d2 : (b.den : Int).tdiv (g : Int) = (q : Int) := by
    rw [hq, Int.natCast_mul, Int.mul_tdiv_cancel _ (by omega)]
  have m1 := mul_bd (show 0 ≤ (p : Int) by omega) (show (p : Int) ≤ 1000000000 by omega) (show 0 ≤ (b.den : Int) by omega) b3 (by omega)
  have m2 := mul_bd a0 a1 (show 0 ≤ (q : Int) by omega) (show (q : Int) ≤ 1000000000 by omega) (by omega)
  have m3 := mul_bd b0 b1 (show 0 ≤ (p : Int) by omega) (show (p : Int) ≤ 1000000000 by omega) (by omega)
  have m4 : 1 ≤ (p : Int) * (b.den : Int) := by have := Int.mul_pos (show (0 : Int) < p by omega) (show (0 : Int) < b.den by omega); omega
  obtain ⟨D, hD⟩ : ∃ D : Nat, (p : Int) * (b.den : Int) = (D : Int) := ⟨p * b.den, by rw [Int.natCast_mul]⟩
  obtain ⟨N, hN⟩ : ∃ N : Nat, a.num * (q : Int) + b.num * (p : Int) = (N : Int) := ⟨(a.num * (q : Int) + b.num * (p : Int)).toNat, by omega⟩
  have hDn : p * b.den = D := by have : ((p * b.den : Nat) : Int) = (D : Int) := by rw [Int.natCast_mul, hD]
                                 exact_mod_cast this
  rw [hN, hDn] at hab
  have hD0 : D ≠ 0 := by omega
  have hh : 0 < Nat.gcd D N := Nat.gcd_pos_of_pos_left _ (by omega)
  have hhle : Nat.gcd D N ≤ D := Nat.le_of_dvd (by omega) (Nat.gcd_dvd_left _ _)
  have e1 : (a + b).num = (N : Int) / ((Nat.gcd D N : Nat) : Int) := by rw [hab, mkRat_num _ _ hD0, Nat.gcd_comm]; simp
  have e2 : (((a + b).den : Nat) : Int) = (D : Int) / ((Nat.gcd D N : Nat) : Int) := by rw [hab, mkRat_den _ _ hD0, Nat.gcd_comm]; simp
  have f1 : (N : Int).tdiv ((Nat.gcd D N : Nat) : Int) = (a + b).num := by rw [e1, Int.tdiv_eq_ediv_of_nonneg (by omega)]
  have f2 : (D : Int).tdiv ((Nat.gcd D N : Nat) : Int) = ((a + b).den : Int) := by rw [e2, Int.tdiv_eq_ediv_of_nonneg (by omega)]
  have G := spec_l1Gcd a.den b.den
  rw [← hg] at G
  have G2 := spec_l1Gcd D N
  generalize hgd : Nat.gcd D N = h at *
  obtain ⟨s0, s1, s2, s3⟩ := RIn_bds hs
  have hne : ((g : Int) == 0) = false := beq_eq_false_iff_ne.2 (by omega)
  have hne2 : ((h : Int) == 0) = false := beq_eq_false_iff_ne.2 (by omega)
  have w1 : wrap64 ((a.den : Int) / (g : Int)) = (p : Int) := by rw [← Int.tdiv_eq_ediv_of_nonneg (by omega), d1]; exact IntWalk.wrap64_in _ (by omega)
  have w2 : wrap64 ((b.den : Int) / (g : Int)) = (q : Int) := by rw [← Int.tdiv_eq_ediv_of_nonneg (by omega), d2]; exact IntWalk.wrap64_in _ (by omega)
  have w3 : wrap64 ((p : Int) * (b.den : Int)) = (D : Int) := by rw [hD]; exact IntWalk.wrap64_in _ (by omega)
  have w4 : wrap64 (a.num * (q : Int)) = a.num * (q : Int) := IntWalk.wrap64_in _ (by omega)
  have w5 : wrap64 (b.num * (p : Int)) = b.num * (p : Int) := IntWalk.wrap64_in _ (by omega)
  have w6 : wrap64 (a.num * (q : Int) + b.num * (p : Int)) = (N : Int) := by rw [hN]; exact IntWalk.wrap64_in _ (by omega)
  have w7 : IntKind.i64.wrap ((N : Int).tdiv (h : Int)) = (a + b).num := by rw [f1]; exact IntWalk.i64_in _ (by omega)
  have w8 : IntKind.i64.wrap ((D : Int).tdiv (h : Int)) = ((a + b).den : Int) := by rw [f2]; exact IntWalk.i64_in _ (by omega)
  have hNm : N ≤ 4611686018427387904 := nat_big (by rw [← hN]; exact Int.add_le_add m2.2 m3.2)
  have hDm : D ≤ 4611686018427387904 := nat_big (by rw [← hD]; exact Int.le_trans m1.2 (by decide))
  have G3 : ∀ w : World, Calls Tryz.prog 111 #[.int .i64 ((p : Int) * (b.den : Int)), .int .i64 (a.num * (q : Int) + b.num * (p : Int))] w fun e w' => e = .returned (.int .i64 ((h : Nat) : Int)) ∧ Below w.heap.size w w' := fun w => by
    rw [hD, hN]
    exact G2 w hDm hNm
  rw [← hN] at w7
  rw [← hD] at w8
  have hM := fun (w : World) => spec_MakeShare_rat (a + b) w hs
  generalize a + b = r at *
  have W1 := Lib.hid w1
  have W2 := Lib.hid w2
  have W3 := Lib.hid w3
  have W4 := Lib.hid w4
  have W5 := Lib.hid w5
  have W6 := Lib.hid w6
  have W7 := Lib.hid w7
  have W8 := Lib.hid w8
  have G := Lib.hid G
  have G2 := Lib.hid G3
  have HM := Lib.hid hM
  clear G3 w1 w2 w3 w4 w5 w6 w7 w8 hM e1 e2 f1 f2 hab hD hN hDn hgd d1 d2 hp hq hg
  have hx1 := a.den_pos
  go_enter Tryz.func109, Tryz.ntmps109
  go_wp2_with fail
  refine (G.out _ (by omega) (by omega)).mono ?_
  rintro e w1 ⟨rfl, c1⟩
  have hz1 := c1.size
  simp only [World.size_alloc] at hz1
  obtain ⟨hA0, hB0, hC0⟩ := heap3 w (.cells #[.int .i64 a.num, .int .i64 (a.den : Int)] 54) (.cells #[.int .i64 b.num, .int .i64 (b.den : Int)] 54) (.cells #[.int .i64 0, .int .i64 0] 54)
  have hA1 := (c1.block w.heap.size (by simp; omega)).trans hA0
  have hB1 := (c1.block (w.heap.size + 1) (by simp)).trans hB0
  have hC1 := Lib.hid ((c1.block (w.heap.size + 1 + 1) (by simp)).trans hC0)
  clear hA0 hB0 hC0
  obtain ⟨u0, u1, uf⟩ := blk_two hA1
  obtain ⟨v0, v1, vf⟩ := blk_two hB1
  clear hA1 hB1
  go_wp2_with fail
  have x1 := W1.out
  have x3 := W3.out
  go_quiet (fail)
  go_wp2_with fail
  clear x3
  have x2 := W2.out
  have x4 := W4.out
  have x5 := W5.out
  have x6 := W6.out
  go_quiet (fail)
  go_wp2_with fail
  clear x1 x2 x4 x5 x6
  refine (G2.out _).mono ?_
  rintro e w2 ⟨rfl, c2⟩
  have hz2 : w1.heap.size ≤ w2.heap.size := c2.size
  have hC2 := Lib.hid ((c2.block (w.heap.size + 1 + 1) (by show w.heap.size + 1 + 1 < w1.heap.size; omega)).trans hC1.out)
  clear u0 u1 uf v0 v1 vf
  have B2 := bthru (bdr (bthru (bal (bal (bal (Below.refl w.heap.size w) _) _) _) c1) _) c2
  go_wp2_with fail
  have x7 := W7.out
  have x8 := W8.out
  go_region_with (first
    | (go_at_call 112; refine (HM.out _).mono ?_; rintro e w3 ⟨rfl, c3⟩; have hC3 := (c3.block (w.heap.size + 1 + 1) (by show w.heap.size + 1 + 1 < w2.heap.size; omega)).trans hC2.out; obtain ⟨y0, y1, yf⟩ := blk_two hC3; have hz3 := c3.size; have B3 := bthru (Below.drew B2) c3; clear hC3))
  all_goals clear x7 x8
  all_goals go_wp2_with fail
  all_goals
    refine bodyPost_ret (v := .tuple #[rv r, .bool true]) (by simp [results, Tryz.results109, go_sem, y0, y1]) rfl ⟨rfl, ?_⟩
    exact bst (bst B3 (p := ⟨w.heap.size + 1 + 1, 0, none⟩) (by show w.heap.size ≤ w.heap.size + 1 + 1; omega) _) (p := ⟨w.heap.size + 1 + 1, 1, none⟩) (by show w.heap.size ≤ w.heap.size + 1 + 1; omega) _
end
end Go.Proofs.YtmkjmancmiphfaaGreatDoor
