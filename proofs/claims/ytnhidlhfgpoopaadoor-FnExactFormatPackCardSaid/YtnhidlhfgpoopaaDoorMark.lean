/-
  The marks of the exact laws: a result shares no memory with the arguments.
-/
import Derived.Test.YtnhidlhfgpoopaaDoorLawKit
import Derived.Test.YtnhidlhfgpoopaaDoorDrawPack
namespace Go.Proofs.YtnhidlhfgpoopaaDoor
open Go.RowKit

def mtask (k : Int) : Tk := ⟨k, k + 1, k + 1 + 1, k + 1 + 1 + 1, (k + 1 + 1 + 1 + 1) % 3 == 0⟩
def marked (k : Int) (n : Nat) : List Tk := (List.range n).map fun (i : Nat) => mtask (k + 5 * (i : Int))
theorem marked_len (k : Int) (n : Nat) : (marked k n).length = n := by simp [marked]
theorem marked_at (k : Int) (n i : Nat) (h : i < (marked k n).length) : (marked k n)[i] = mtask (k + 5 * (i : Int)) := by simp [marked]

theorem marked_succ (k : Int) (n : Nat) : marked k (n + 1) = marked k n ++ [mtask (k + 5 * (n : Int))] := by simp [marked, List.range_succ]

theorem OT_apart {base : Nat} {w w' : World} {A B : Option Addr} {c d n : Nat} {l : List Tk} (h : OT base w A c l) (hg : w.grownBy w' (Value.slice B n d).ownBlock) (hne : ∀ a b, A = some a → B = some b → a.block ≠ b.block) : OT base w' A c l := by
  refine World.ownsRow.kept h hg ?_
  cases A with
  | none => exact .inl rfl
  | some a =>
    cases B with
    | none => exact .inr (by simp [Value.ownBlock])
    | some b => exact .inr (by simpa [Value.ownBlock] using hne a b rfl rfl)
theorem OI_apart {base : Nat} {w w' : World} {A B : Option Addr} {c d n : Nat} {l : List Int} (h : OI base w A c l) (hg : w.grownBy w' (Value.slice B n d).ownBlock) (hne : ∀ a b, A = some a → B = some b → a.block ≠ b.block) : OI base w' A c l := by
  refine World.ownsRow.kept h hg ?_
  cases A with
  | none => exact .inl rfl
  | some a =>
    cases B with
    | none => exact .inr (by simp [Value.ownBlock])
    | some b => exact .inr (by simpa [Value.ownBlock] using hne a b rfl rfl)
theorem OT_rng {base : Nat} {w : World} {A : Option Addr} {c : Nat} {l : List Tk} (h : OT base w A c l) : ∀ a, A = some a → base ≤ a.block ∧ a.block < w.heap.size := by
  rintro a rfl
  exact World.ownsRow.lt h a.block rfl
theorem OI_rng {base : Nat} {w : World} {A : Option Addr} {c : Nat} {l : List Int} (h : OI base w A c l) : ∀ a, A = some a → base ≤ a.block ∧ a.block < w.heap.size := by
  rintro a rfl
  exact World.ownsRow.lt h a.block rfl

theorem gb_five {w : World} {b i0 i1 i2 i3 i4 : Nat} (u0 u1 u2 u3 u4 : Value) : w.grownBy (((((w.setCell ⟨b, i0, none⟩ u0).setCell ⟨b, i1, none⟩ u1).setCell ⟨b, i2, none⟩ u2).setCell ⟨b, i3, none⟩ u3).setCell ⟨b, i4, none⟩ u4) (some b) := gb_set5row u0 u1 u2 u3 u4

theorem bmarkT {W w w' : World} {base : Nat} {A : Option Addr} {c n : Nat} {l : List Tk} (hb : Below W.heap.size W w) (h : OT base w A c l) (hg : w.grownBy w' (Value.slice A n c).ownBlock) (hB : W.heap.size ≤ base) : Below W.heap.size W w' :=
  hb.trans ((Below.refl _ _).grown hg hb.size (fun k hk => by
    cases A with
    | none => simp [Value.ownBlock] at hk
    | some a =>
      have e : a.block = k := by simpa [Value.ownBlock] using hk
      have := (OT_rng h a rfl).1
      omega))
theorem bmarkI {W w w' : World} {base : Nat} {A : Option Addr} {c n : Nat} {l : List Int} (hb : Below W.heap.size W w) (h : OI base w A c l) (hg : w.grownBy w' (Value.slice A n c).ownBlock) (hB : W.heap.size ≤ base) : Below W.heap.size W w' :=
  hb.trans ((Below.refl _ _).grown hg hb.size (fun k hk => by
    cases A with
    | none => simp [Value.ownBlock] at hk
    | some a =>
      have e : a.block = k := by simpa [Value.ownBlock] using hk
      have := (OI_rng h a rfl).1
      omega))
/-- An address in a range of blocks. -/
def Rng (A : Option Addr) (lo hi : Nat) : Prop := ∀ a, A = some a → lo ≤ a.block ∧ a.block < hi
theorem rng_ne {A B : Option Addr} {l1 h1 l2 h2 : Nat} (h : Rng A l1 h1) (g : Rng B l2 h2) (hd : h1 ≤ l2 ∨ h2 ≤ l1) : ∀ a b, A = some a → B = some b → a.block ≠ b.block := by
  intro a b ha hb
  have := h a ha
  have := g b hb
  omega
end Go.Proofs.YtnhidlhfgpoopaaDoor
