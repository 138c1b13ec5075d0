/-
  Insertion by exchange is insertion: in plain Lean.
-/
import Derived.Test.YtmkjmancmiphfaaGreatDoorSortD
import Derived.Shelf.SlSortCmp.InsertionK
namespace Go.Proofs.YtmkjmancmiphfaaGreatDoor
open Go.RowKit

instance : Inhabited Tk := ⟨⟨0, 0, 0, 0, false⟩⟩
def cmpI (a b : Int) : Int := if a < b then -1 else if b < a then 1 else 0
def cfT (x y : Tk) : Int := if x.due = y.due then cmpI x.every y.every else cmpI x.due y.due
theorem cfT_bef (x y : Tk) : ltOf cfT x y = bef x y := by
  unfold ltOf cfT bef cmpI
  split
  · by_cases h : x.every < y.every
    · simp [h]
    · simp only [h, if_false]
      split <;> simp
  · by_cases h : x.due < y.due
    · simp [h]
    · simp only [h, if_false]
      split <;> simp
theorem get_list (d : Array Tk) (l : List Tk) (h : d.toList = l) (k : Nat) (hk : k < l.length) : d[k]! = l[k] := by
  subst h
  have hk' : k < d.size := by simpa using hk
  rw [getElem!_pos d k hk']
  simp
/-- The inner loop: the element at j walks down. -/
theorem insInner_is (out rest : List Tk) (x : Tk) (j : Nat) (hj : j ≤ out.length) (d : Array Tk) (h : d.toList = out.take j ++ x :: out.drop j ++ rest) :
    (Sort.insInner (ltOf cfT) 0 j d).toList = out.take (findAt x out j) ++ x :: out.drop (findAt x out j) ++ rest := by
  induction j generalizing d with
  | zero => exact h
  | succ j ih =>
    have hlt : j < out.length := by omega
    have hl1 : (out.take (j + 1)).length = j + 1 := by rw [List.length_take]; omega
    have hx : d[j + 1]! = x := by
      rw [get_list d _ h (j + 1) (by simp; omega)]
      rw [List.getElem_append_left (by simp; omega), List.getElem_append_right (by omega)]
      simp [hl1]
    have hy : d[j]! = out[j] := by
      rw [get_list d _ h j (by simp; omega)]
      rw [List.getElem_append_left (by simp; omega), List.getElem_append_left (by omega)]
      simp
    have hsz : d.size = out.length + 1 + rest.length := by
      have := congrArg List.length h
      simp at this
      omega
    unfold Sort.insInner
    rw [hx, hy, cfT_bef]
    have hb : bef x (tkAt out j) = bef x out[j] := by rw [tkAt_eq out j hlt]
    unfold findAt
    rw [hb]
    cases hbb : bef x out[j] with
    | true =>
      simp only [Bool.and_true, decide_eq_true_eq, gt_iff_lt, Nat.zero_lt_succ, if_true]
      refine ih (by omega) _ ?_
      apply List.ext_getElem?
      intro k
      have e1 : (Sort.swp d (j + 1) j).toList[k]? = (Sort.swp d (j + 1) j)[k]? := by simp
      rw [e1]
      unfold Sort.swp
      rw [hx, hy, Array.getElem?_setIfInBounds, Array.getElem?_setIfInBounds]
      have e2 : d[k]? = (out.take (j + 1) ++ x :: out.drop (j + 1) ++ rest)[k]? := by rw [← h]; simp
      have hlj : (out.take j).length = j := by rw [List.length_take]; omega
      rw [e2]
      by_cases k1 : j = k
      · subst k1
        rw [if_pos rfl, if_pos (by simp; omega), List.getElem?_append_left (by simp; omega), List.getElem?_append_right (by omega)]
        simp [hlj]
      · rw [if_neg k1]
        by_cases k2 : j + 1 = k
        · subst k2
          rw [if_pos rfl, if_pos (by omega), List.getElem?_append_left (by simp; omega), List.getElem?_append_right (by omega), hlj]
          have : j + 1 - j = 1 := by omega
          rw [this, List.drop_eq_getElem_cons hlt]
          simp
        · rw [if_neg k2]
          rcases Nat.lt_or_ge k j with k3 | k3
          · rw [List.getElem?_append_left (by simp; omega), List.getElem?_append_left (by omega), List.getElem?_append_left (by simp; omega), List.getElem?_append_left (by omega)]
            rw [List.getElem?_take_of_lt (by omega), List.getElem?_take_of_lt k3]
          · have k4 : j + 2 ≤ k := by omega
            obtain ⟨q, rfl⟩ : ∃ q, k = j + 2 + q := ⟨k - (j + 2), by omega⟩
            have E1 : (out.take (j + 1) ++ x :: out.drop (j + 1) ++ rest)[j + 2 + q]? = (out.drop (j + 1) ++ rest)[q]? := by
              rw [List.append_assoc, List.getElem?_append_right (by omega), hl1, show j + 2 + q - (j + 1) = q + 1 by omega]
              simp
            have E2 : (out.take j ++ x :: out.drop j ++ rest)[j + 2 + q]? = (out.drop (j + 1) ++ rest)[q]? := by
              rw [List.append_assoc, List.getElem?_append_right (by omega), hlj, show j + 2 + q - j = q + 2 by omega, List.drop_eq_getElem_cons hlt]
              rfl
            rw [E1, E2]
    | false =>
      simp only [Bool.and_false, Bool.false_eq_true, if_false]
      exact h
theorem insOuter_is (l : List Tk) (n i : Nat) (hn : n = l.length) (hi : 1 ≤ i) (hin : i ≤ n ∨ n = 0) (d : Array Tk) (h : d.toList = sortF (l.take i) ++ l.drop i) : (Sort.insOuter (ltOf cfT) 0 n i d).toList = sortF l := by
  induction hk : n - i generalizing i d with
  | zero =>
    unfold Sort.insOuter
    rw [if_neg (by omega), h]
    have : l.length ≤ i := by omega
    rw [List.take_of_length_le this, List.drop_of_length_le this, List.append_nil]
  | succ k ih =>
    have hlt : i < l.length := by omega
    unfold Sort.insOuter
    rw [if_pos (by omega)]
    refine ih (i + 1) (by omega) (by omega) _ ?_ (by omega)
    have hlen : (sortF (l.take i)).length = i := by rw [sortF_len, List.length_take]; omega
    have e := insInner_is (sortF (l.take i)) (l.drop (i + 1)) l[i] i (by omega) d (by
      rw [h, List.take_of_length_le (show (sortF (l.take i)).length ≤ i by omega), List.drop_of_length_le (show (sortF (l.take i)).length ≤ i by omega), List.drop_eq_getElem_cons hlt]
      simp)
    rw [e]
    have e2 : sortF (l.take (i + 1)) = insD (sortF (l.take i)) l[i] := by
      unfold sortF
      rw [List.take_succ_eq_append_getElem hlt, List.foldl_append]
      rfl
    rw [e2]
    unfold insD
    rw [hlen]
theorem insertionSort_is (l : List Tk) : (Sort.insertionSort (ltOf cfT) l.toArray 0 l.length).toList = sortF l := by
  unfold Sort.insertionSort
  cases l with
  | nil =>
    unfold Sort.insOuter
    simp [sortF]
  | cons a r =>
    refine insOuter_is (a :: r) _ 1 rfl (by omega) (.inl (by simp)) _ ?_
    simp [sortF, insD, findAt]
end Go.Proofs.YtmkjmancmiphfaaGreatDoor
