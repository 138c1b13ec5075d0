/-
  AssignOrder: the program's.
-/
import Derived.Test.YtmkjmancmiphfaaLast
namespace Go.Proofs.Ytmkjmancmiphfaa
open Go.RowKit

def asgL (l : List Tk) : List Int := match assign l with | some o => ints o | none => []
theorem ints_erase (o : List Nat) (k : Nat) : ints (o.eraseIdx k) = (ints o).eraseIdx k := by
  simp only [ints]
  induction o generalizing k with
  | nil => rfl
  | cons a o ih =>
    cases k with
    | zero => rfl
    | succ k => simp [ih k]
theorem ints_snoc (o : List Nat) (k : Nat) : ints (o ++ [k]) = ints o ++ [(k : Int)] := by simp [ints]
theorem pick_sub {l : List Tk} {left acc : List Nat} (h : (left ++ acc).Perm (List.range l.length)) : Sub (pick l left) l := by
  have h1 := pick_perm l h
  rw [pick_range] at h1
  refine (Sub.sub ?_).trans (Sub.perm h1)
  simp [pick]
theorem perm_step {l : List Tk} {left acc : List Nat} {k : Nat} (hk : k < left.length) (h : (left ++ acc).Perm (List.range l.length)) : (left.eraseIdx k ++ (left.getD k 0 :: acc)).Perm (List.range l.length) :=
  (List.perm_middle.trans ((erase_perm left hk).append_right acc)).trans h
theorem topK_hit {p : Nat → Bool} {j : Nat} (h : p j = true) : topK p (j + 1) = some j := by simp [topK, h]
theorem topK_miss {p : Nat → Bool} {j : Nat} (h : p j = false) : topK p (j + 1) = topK p j := by simp [topK, h]
theorem aud_none {l : List Tk} {n : Nat} {left acc : List Nat} (h : topK (lastOk (pick l left)) left.length = none) : aud l (n + 1) left acc = none := by simp only [aud, h]
theorem aud_step {l : List Tk} {n k : Nat} {left acc : List Nat} (h : topK (lastOk (pick l left)) left.length = some k) : aud l (n + 1) left acc = aud l n (left.eraseIdx k) (left.getD k 0 :: acc) := by simp only [aud, h]
theorem canLast_nat {l : List Tk} (hs : setVld l = true) {k : Nat} (hk : k < l.length) : canLast l (k : Int) = lastOk l k := by simp [canLast, plc_nat hs hk]
theorem drop_set (xs : List Value) (n : Nat) (v : Value) (hn : n < xs.length) : (xs.set n v).drop n = v :: xs.drop (n + 1) := by
  rw [List.drop_eq_getElem_cons (by simpa using hn), List.getElem_set_self, List.drop_set_of_lt (by omega)]

/-- A row of the call's own below B stays. -/
theorem own_under {base B : Nat} {w w' : World} {t : TypeId} {size g n cap : Nat} {xs : List Value} (h : w.ownsRow base t size (.slice (some ⟨g, 0, none⟩) n cap) n xs) (hb : Below B w w') (hg : g < B) : w'.ownsRow base t size (.slice (some ⟨g, 0, none⟩) n cap) n xs := by
  refine ⟨h.1, ?_⟩
  rcases h.2 with ⟨hn, _⟩ | ⟨g', cap', cur, hv, hg', hh, rest⟩
  · cases hn
  · refine .inr ⟨g', cap', cur, hv, hg', ?_, rest⟩
    injection hv with hv
    injection hv with hv
    injection hv with hv
    subst hv
    rw [hb.block _ hg]
    exact hh
theorem asg_none {l : List Tk} (h : setVld l = false) : asgL l = [] ∧ (assign l).isSome = false := by simp [asgL, assign, h]

theorem wpList_app_int' (w : World) {ops : Array Oper} {rest : List Oper} {o : Oper} {a : Act} {Q : Exit → Act → World → Prop} (hgd : o.guard = none) (s x : Operand)
    (ho : o.op = .call { callee := .builtin .append, args := #[s, x], argTypes := #[30, 30] })
    (base : Nat) (A : Option Addr) (l : List Int) (k c : Nat) (hk : l.length = k) (hs : a.eval s = .slice A k c) (hown : OI base w A c l)
    (b c1 : Nat) (n : Int) (ty : TypeId) (hx : a.eval x = .slice (some ⟨b, 0, none⟩) 1 c1) (hb : w.heap[b]? = some (.cells #[.int .i64 n] ty (0, 0)))
    (hl : l.length ≤ 2000000) (hbase : base ≤ w.heap.size)
    (h : ∀ A' c' w', OI base w' A' c' (l ++ [n]) → w.grownBy w' (Value.slice A k c).ownBlock → Below base w w' → wpList Try.prog ops Q rest (a.put o.dst (.slice A' (k + 1) c')) w') : wpList Try.prog ops Q (o :: rest) a w := by
  subst hk
  exact wpList_app_int w hgd s x ho base A l c hs hown b c1 n ty hx hb hl hbase h

theorem wpList_app_task' (w : World) {ops : Array Oper} {rest : List Oper} {o : Oper} {a : Act} {Q : Exit → Act → World → Prop} (hgd : o.guard = none) (s x : Operand)
    (ho : o.op = .call { callee := .builtin .append, args := #[s, x], argTypes := #[23, 23] })
    (base : Nat) (A : Option Addr) (l : List Tk) (k c : Nat) (hk : l.length = k) (hs : a.eval s = .slice A k c) (hown : OT base w A c l)
    (b c1 : Nat) (t : Tk) (cs : Array Value) (ty : TypeId) (hx : a.eval x = .slice (some ⟨b, 0, none⟩) 1 c1) (hb : w.heap[b]? = some (.cells cs ty (0, 0))) (hcs : cs.toList = t.cells)
    (hl : l.length ≤ 2000000) (hbase : base ≤ w.heap.size)
    (h : ∀ A' c' w', OT base w' A' c' (l ++ [t]) → w.grownBy w' (Value.slice A k c).ownBlock → Below base w w' → wpList Try.prog ops Q rest (a.put o.dst (.slice A' (k + 1) c')) w') : wpList Try.prog ops Q (o :: rest) a w := by
  subst hk
  exact wpList_app_task w hgd s x ho base A l c hs hown b c1 t cs ty hx hb hcs hl hbase h
theorem OI_setLow {base : Nat} {w : World} {A : Option Addr} {c : Nat} {l : List Int} (h : OI base w A c l) {p : Addr} (hp : p.block < base) (u : Value) : OI base (w.setCell p u) A c l := by
  refine ⟨h.1, ?_⟩
  rcases h.2 with hn | ⟨g, cap, cur, hv, hg, hh, rest⟩
  · exact .inl hn
  · exact .inr ⟨g, cap, cur, hv, hg, (Below.heap_setCell w p u g (by omega)).trans hh, rest⟩

theorem OI.cellAt' {base : Nat} {w : World} {b c : Nat} {l : List Int} (h : OI base w (some ⟨b, 0, none⟩) c l) (k : Nat) (x : Int) (hk : l[k]? = some x) : w.cell? ⟨b, k, none⟩ = some (.int .i64 x) := by
  have hl := (List.getElem?_eq_some_iff.1 hk).1
  obtain ⟨b', off, hA, _, hc⟩ := h.is (by omega)
  have := h.cells (g := b) rfl k (.int .i64 x) (by simp [hk])
  rwa [addr_add0] at this

end Go.Proofs.Ytmkjmancmiphfaa
