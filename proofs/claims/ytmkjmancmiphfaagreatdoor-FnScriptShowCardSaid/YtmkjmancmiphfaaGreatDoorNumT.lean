/-
  Texts cut at what does not occur ahead of the cut: index, cut, split: in plain Lean.
  Numbers in decimal read back, and texts of tasks cut into their parts: in plain Lean.
-/
import Derived.Lib.SplitLaws
import Derived.Lib.CutLaws
import Derived.Lib.Join
import Derived.Test.YtmkjmancmiphfaaGreatDoorFmtSet
import Derived.Lib.Atoi
namespace Go.Proofs.YtmkjmancmiphfaaGreatDoor
open Go.RowKit

theorem index_app (c : UInt8) (sep x r : List UInt8) (h : c ∉ x) : Go.Lib.index (x ++ (c :: sep) ++ r) (c :: sep) = (x.length : Int) := by
  induction x with
  | nil =>
    rw [List.nil_append, List.cons_append, Go.Lib.index, if_pos (by simp [List.isPrefixOf])]
    rfl
  | cons b x ih =>
    have hb : c ≠ b := fun e => h (by simp [e])
    have hx : c ∉ x := fun e => h (by simp [e])
    rw [List.cons_append, List.cons_append, Go.Lib.index, if_neg (by simp [List.isPrefixOf, hb]), ih hx, if_neg (by simp)]
    simp
theorem index_no (c : UInt8) (sep x : List UInt8) (h : c ∉ x) : Go.Lib.index x (c :: sep) = -1 := by
  induction x with
  | nil => rw [Go.Lib.index, if_neg (by simp)]
  | cons b x ih =>
    have hb : c ≠ b := fun e => h (by simp [e])
    have hx : c ∉ x := fun e => h (by simp [e])
    rw [Go.Lib.index, if_neg (by simp [List.isPrefixOf, hb]), ih hx]
    rfl
theorem cut_app (c : UInt8) (sep x r : List UInt8) (h : c ∉ x) : Go.Lib.cut (x ++ (c :: sep) ++ r) (c :: sep) = (x, r, true) := by
  unfold Go.Lib.cut
  rw [index_app c sep x r h, if_pos (by omega), Int.toNat_natCast, List.append_assoc, List.take_left', ← List.append_assoc]
  · rw [← List.length_append, List.drop_left']
    rfl
  · rfl
theorem cut_no (c : UInt8) (sep x : List UInt8) (h : c ∉ x) : Go.Lib.cut x (c :: sep) = (x, [], false) := by
  unfold Go.Lib.cut
  rw [index_no c sep x h, if_neg (by omega)]

/-- The pieces of a text, as bytes. -/
def pieces (sep s : List UInt8) : List (List UInt8) := (Go.Lib.splitB ⟨sep.toArray⟩ 0 (Go.Lib.countB ⟨s.toArray⟩ ⟨sep.toArray⟩) ⟨s.toArray⟩).map (fun x => x.data.toList)
theorem pieces_val (sep s : List UInt8) : (Go.Lib.splitB ⟨sep.toArray⟩ 0 (Go.Lib.countB ⟨s.toArray⟩ ⟨sep.toArray⟩) ⟨s.toArray⟩).map Value.string = (pieces sep s).map (fun x => Value.string ⟨x.toArray⟩) := by
  unfold pieces
  rw [List.map_map]
  apply List.map_congr_left
  intro x _
  simp [Function.comp]
theorem pieces_no (c : UInt8) (sep x : List UInt8) (h : c ∉ x) : pieces (c :: sep) x = [x] := by
  have hi : Go.Lib.indexB ⟨x.toArray⟩ ⟨(c :: sep).toArray⟩ = -1 := index_no c sep x h
  unfold pieces
  rw [Go.Lib.countB_miss _ _ hi, Go.Lib.splitB_zero]
  rfl
theorem pieces_app (c : UInt8) (sep x r : List UInt8) (h : c ∉ x) : pieces (c :: sep) (x ++ (c :: sep) ++ r) = x :: pieces (c :: sep) r := by
  have hi : Go.Lib.indexB ⟨(x ++ (c :: sep) ++ r).toArray⟩ ⟨(c :: sep).toArray⟩ = (x.length : Int) := index_app c sep x r h
  have e1 : (⟨(x ++ (c :: sep) ++ r).toArray⟩ : ByteArray).extract (x.length + (⟨(c :: sep).toArray⟩ : ByteArray).size) (⟨(x ++ (c :: sep) ++ r).toArray⟩ : ByteArray).size = ⟨r.toArray⟩ := by
    rw [Go.Lib.extract_eq, Go.Lib.size_eq, Go.Lib.size_eq]
    show (⟨((List.drop (x.length + (c :: sep).length) (x ++ (c :: sep) ++ r)).take ((x ++ (c :: sep) ++ r).length - (x.length + (c :: sep).length))).toArray⟩ : ByteArray) = _
    rw [← List.length_append, List.drop_left', List.take_of_length_le]
    · simp
      omega
    · rfl
  have e0 : (⟨(x ++ (c :: sep) ++ r).toArray⟩ : ByteArray).extract 0 (x.length + 0) = ⟨x.toArray⟩ := by
    rw [Go.Lib.extract_eq]
    show (⟨((List.drop 0 (x ++ (c :: sep) ++ r)).take (x.length + 0 - 0)).toArray⟩ : ByteArray) = _
    rw [List.drop_zero, List.append_assoc, Nat.sub_zero, Nat.add_zero, List.take_left']
    rfl
  have h1 : 1 ≤ (⟨(c :: sep).toArray⟩ : ByteArray).size := by rw [Go.Lib.size_eq]; show 1 ≤ (c :: sep).length; simp
  unfold pieces
  rw [Go.Lib.countB_hit _ _ _ h1 hi, e1, Nat.add_comm 1, Go.Lib.splitB_hit _ _ _ _ _ hi, e0, e1]
  rfl
theorem pieces_len (sep s : List UInt8) (h : sep ≠ []) : (pieces sep s).length = Go.Lib.countB ⟨s.toArray⟩ ⟨sep.toArray⟩ + 1 := by
  unfold pieces
  rw [List.length_map]
  refine Go.Lib.splitB_all _ ?_ 0 _ _ rfl
  rw [Go.Lib.size_eq]
  show 1 ≤ sep.length
  cases sep with
  | nil => exact absurd rfl h
  | cons => simp
theorem pieces_join (c : UInt8) (sep : List UInt8) (xs : List (List UInt8)) (hx : ∀ x ∈ xs, c ∉ x) (h0 : xs ≠ []) : pieces (c :: sep) (Go.Lib.join xs (c :: sep)) = xs := by
  induction xs with
  | nil => exact absurd rfl h0
  | cons x r ih =>
    cases r with
    | nil =>
      have : Go.Lib.join [x] (c :: sep) = x := by simp [Go.Lib.join_cons, Go.Lib.joinTail]
      rw [this]
      exact pieces_no c sep x (hx x (by simp))
    | cons y r =>
      have e : Go.Lib.join (x :: y :: r) (c :: sep) = x ++ (c :: sep) ++ Go.Lib.join (y :: r) (c :: sep) := by simp [Go.Lib.join_cons, Go.Lib.joinTail]
      rw [e, pieces_app c sep x _ (hx x (by simp)), ih (fun z hz => hx z (List.mem_cons_of_mem _ hz)) (by simp)]

theorem dec_mem (n : Nat) : ∀ b ∈ Lib.decDigits n, 48 ≤ b.toNat ∧ b.toNat ≤ 57 := by
  induction n using Nat.strongRecOn with
  | _ n ih =>
    intro b hb
    have dig : ∀ d, d < 10 → 48 ≤ (UInt8.ofNat (48 + d)).toNat ∧ (UInt8.ofNat (48 + d)).toNat ≤ 57 := by
      intro d hd
      rw [UInt8.toNat_ofNat', Nat.mod_eq_of_lt (by omega)]
      omega
    by_cases h : n < 10
    · rw [dec_small n h, List.mem_singleton] at hb
      subst hb
      exact dig n h
    · rw [dec_big n h, List.mem_append, List.mem_singleton] at hb
      rcases hb with hb | rfl
      · exact ih (n / 10) (by omega) b hb
      · exact dig _ (by omega)
theorem decFrom_snoc (l : List UInt8) (b : UInt8) (acc m d : Nat) (h : Lib.decFrom acc l = some m) (hb : Lib.digitVal b = some d) : Lib.decFrom acc (l ++ [b]) = some (m * 10 + d) := by
  induction l generalizing acc with
  | nil =>
    simp only [Lib.decFrom, Option.some.injEq] at h
    subst h
    simp [Lib.decFrom, hb]
  | cons a t ih =>
    rw [List.cons_append]
    simp only [Lib.decFrom] at h ⊢
    cases ha : Lib.digitVal a with
    | none => simp [ha] at h
    | some e =>
      simp only [ha] at h ⊢
      exact ih _ h
theorem digitVal_of (d : Nat) (h : d < 10) : Lib.digitVal (UInt8.ofNat (48 + d)) = some d := by
  have e : (UInt8.ofNat (48 + d)).toNat = 48 + d := by rw [UInt8.toNat_ofNat', Nat.mod_eq_of_lt (by omega)]
  unfold Lib.digitVal
  rw [e, if_pos (by omega)]
  congr 1
  omega
theorem decFrom_dec (n : Nat) : Lib.decFrom 0 (Lib.decDigits n) = some n := by
  induction n using Nat.strongRecOn with
  | _ n ih =>
    by_cases h : n < 10
    · rw [dec_small n h]
      have := decFrom_snoc [] (UInt8.ofNat (48 + n)) 0 0 n rfl (digitVal_of n h)
      simpa using this
    · rw [dec_big n h, decFrom_snoc _ _ 0 (n / 10) (n % 10) (ih (n / 10) (by omega)) (digitVal_of _ (by omega))]
      congr 1
      omega
theorem dec_ne (n : Nat) : Lib.decDigits n ≠ [] := by
  by_cases h : n < 10
  · rw [dec_small n h]
    simp
  · rw [dec_big n h]
    simp
theorem atoi_num (n : Int) (h : 0 ≤ n) : Lib.atoi (num n) = some n := by
  have h1 := dec_mem n.toNat
  have h2 := decFrom_dec n.toNat
  have h3 := dec_ne n.toNat
  unfold num
  cases hl : Lib.decDigits n.toNat with
  | nil => exact absurd hl h3
  | cons b r =>
    rw [hl] at h1 h2
    have hb := h1 b (by simp)
    have n45 : (b == 45) = false := by
      apply beq_eq_false_iff_ne.2
      rintro rfl
      revert hb
      decide
    have n43 : (b == 43) = false := by
      apply beq_eq_false_iff_ne.2
      rintro rfl
      revert hb
      decide
    simp only [Lib.atoi, n45, n43, Bool.false_eq_true, if_false, Lib.decNat, List.isEmpty_cons, h2, Option.map_some, Option.some.injEq]
    omega
theorem num_no (c : UInt8) (n : Int) (h : c.toNat < 48 ∨ 57 < c.toNat) : c ∉ num n := by
  intro e
  have := dec_mem n.toNat c e
  omega

/-- What stands ahead of " every ", and behind. -/
def needT (t : Tk) : List UInt8 := num t.low ++ highT t
def restT (t : Tk) : List UInt8 := num t.every ++ dueT t
theorem taskT_cut (t : Tk) : Lib.cut (taskT t) [32, 101, 118, 101, 114, 121, 32] = (needT t, restT t, true) := by
  have e : taskT t = needT t ++ (32 :: [101, 118, 101, 114, 121, 32]) ++ restT t := by simp [taskT, needT, restT]
  rw [e]
  refine cut_app _ _ _ _ ?_
  unfold needT highT
  intro h
  rw [List.mem_append] at h
  rcases h with h | h
  · exact num_no 32 _ (by decide) h
  · split at h
    · simp only [List.mem_cons] at h
      rcases h with h | h
      · revert h; decide
      · exact num_no 32 _ (by decide) h
    · simp at h
theorem needT_crit {t : Tk} (h : t.crit = true) : Lib.cut (needT t) [47] = (num t.low, num t.high, true) := by
  have e : needT t = num t.low ++ (47 :: []) ++ num t.high := by simp [needT, highT, h]
  rw [e]
  exact cut_app _ _ _ _ (num_no 47 _ (by decide))
theorem needT_not {t : Tk} (h : t.crit = false) : Lib.cut (needT t) [47] = (num t.low, [], false) := by
  have e : needT t = num t.low := by simp [needT, highT, h]
  rw [e]
  exact cut_no _ _ _ (num_no 47 _ (by decide))
theorem restT_due {t : Tk} (h : t.due < t.every) : Lib.cut (restT t) [32, 98, 121, 32] = (num t.every, num t.due, true) := by
  have e : restT t = num t.every ++ (32 :: [98, 121, 32]) ++ num t.due := by simp [restT, dueT, h]
  rw [e]
  exact cut_app _ _ _ _ (num_no 32 _ (by decide))
theorem restT_not {t : Tk} (h : ¬ t.due < t.every) : Lib.cut (restT t) [32, 98, 121, 32] = (num t.every, [], false) := by
  have e : restT t = num t.every := by simp [restT, dueT, h]
  rw [e]
  exact cut_no _ _ _ (num_no 32 _ (by decide))
theorem taskT_no (c : UInt8) (t : Tk) (h : c = 59 ∨ c = 10) : c ∉ taskT t := by
  have hc : c.toNat < 48 ∨ 57 < c.toNat := by rcases h with rfl | rfl <;> decide
  have hn : ∀ n, c ∉ num n := fun n => num_no c n hc
  intro hm
  unfold taskT highT dueT at hm
  simp only [List.mem_append, List.mem_cons] at hm
  rcases h with rfl | rfl <;> (revert hm; split <;> split <;> simp [hn])
theorem fmtTask_no (c : UInt8) (t : Tk) (h : c = 59 ∨ c = 10) : c ∉ fmtTask t := by
  unfold fmtTask
  split
  · exact taskT_no c t h
  · simp
theorem setT_pieces {l : List Tk} (h : l ≠ []) : pieces [59, 32] (setT l) = l.map fmtTask := by
  refine pieces_join 59 [32] _ ?_ (by simpa using h)
  intro x hx
  obtain ⟨t, _, rfl⟩ := List.mem_map.1 hx
  exact fmtTask_no 59 t (.inl rfl)
theorem join_no (c : UInt8) (xs : List (List UInt8)) (sep : List UInt8) (hx : ∀ x ∈ xs, c ∉ x) (hs : c ∉ sep) : c ∉ Lib.join xs sep := by
  cases xs with
  | nil => simp [Lib.join_nil]
  | cons x r =>
    rw [Lib.join_cons, List.mem_append]
    rintro (h | h)
    · exact hx x (by simp) h
    · simp only [Lib.joinTail, List.mem_flatten, List.mem_map] at h
      obtain ⟨y, ⟨z, hz, rfl⟩, hy⟩ := h
      rw [List.mem_append] at hy
      rcases hy with hy | hy
      · exact hs hy
      · exact hx z (List.mem_cons_of_mem _ hz) hy
theorem fmtSet_no (l : List Tk) : (10 : UInt8) ∉ fmtSet l := by
  unfold fmtSet
  split
  · refine join_no 10 _ _ ?_ (by decide)
    intro x hx
    obtain ⟨t, _, rfl⟩ := List.mem_map.1 hx
    exact fmtTask_no 10 t (.inr rfl)
  · simp
end Go.Proofs.YtmkjmancmiphfaaGreatDoor
