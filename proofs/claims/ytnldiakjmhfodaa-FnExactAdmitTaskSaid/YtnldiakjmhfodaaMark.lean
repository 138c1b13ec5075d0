/-
  The marks of the exact laws: a result shares no memory with the arguments.
-/
import Derived.Test.YtnldiakjmhfodaaLawKit
import Derived.Test.YtnldiakjmhfodaaDrawPack
namespace Go.Proofs.Ytnldiakjmhfodaa
open Go.RowKit

def mtask (k : Int) : Tk := ⟨k, k + 1, k + 1 + 1, k + 1 + 1 + 1, (k + 1 + 1 + 1 + 1) % 3 == 0⟩
def marked (k : Int) (n : Nat) : List Tk := (List.range n).map fun (i : Nat) => mtask (k + 5 * (i : Int))
theorem marked_len (k : Int) (n : Nat) : (marked k n).length = n := by simp [marked]
theorem marked_at (k : Int) (n i : Nat) (h : i < (marked k n).length) : (marked k n)[i] = mtask (k + 5 * (i : Int)) := by simp [marked]

theorem marked_succ (k : Int) (n : Nat) : marked k (n + 1) = marked k n ++ [mtask (k + 5 * (n : Int))] := by simp [marked, List.range_succ]

theorem OT_apart {base : Nat} {w w' : World} {A B : Option Addr} {c d n : Nat} {l : List Tk} (h : OT base w A c l) (hg : w.grownBy w' (Value.slice B n d).ownBlock) (hne : ∀ a b, A = some a → B = some b → a.block ≠ b.block) : OT base w' A c l := by
  refine World.ownsRow.kept h hg ?_
  cases A with
  | none => exact .inl rfl
  | some a =>
    cases B with
    | none => exact .inr (by simp [Value.ownBlock])
    | some b => exact .inr (by simpa [Value.ownBlock] using hne a b rfl rfl)
theorem OI_apart {base : Nat} {w w' : World} {A B : Option Addr} {c d n : Nat} {l : List Int} (h : OI base w A c l) (hg : w.grownBy w' (Value.slice B n d).ownBlock) (hne : ∀ a b, A = some a → B = some b → a.block ≠ b.block) : OI base w' A c l := by
  refine World.ownsRow.kept h hg ?_
  cases A with
  | none => exact .inl rfl
  | some a =>
    cases B with
    | none => exact .inr (by simp [Value.ownBlock])
    | some b => exact .inr (by simpa [Value.ownBlock] using hne a b rfl rfl)
theorem OT_rng {base : Nat} {w : World} {A : Option Addr} {c : Nat} {l : List Tk} (h : OT base w A c l) : ∀ a, A = some a → base ≤ a.block ∧ a.block < w.heap.size := by
  rintro a rfl
  exact World.ownsRow.lt h a.block rfl
theorem OI_rng {base : Nat} {w : World} {A : Option Addr} {c : Nat} {l : List Int} (h : OI base w A c l) : ∀ a, A = some a → base ≤ a.block ∧ a.block < w.heap.size := by
  rintro a rfl
  exact World.ownsRow.lt h a.block rfl

theorem gb_five {w : World} {b i0 i1 i2 i3 i4 : Nat} (u0 u1 u2 u3 u4 : Value) : w.grownBy (((((w.setCell ⟨b, i0, none⟩ u0).setCell ⟨b, i1, none⟩ u1).setCell ⟨b, i2, none⟩ u2).setCell ⟨b, i3, none⟩ u3).setCell ⟨b, i4, none⟩ u4) (some b) := gb_set5row u0 u1 u2 u3 u4

theorem laws_markTaskS (base : Nat) (A : Option Addr) (l : List Tk) (c : Nat) (k0 : Int) (w : World) (h : OT base w A c l) (hl : l.length ≤ 1048576) (hk0 : 0 ≤ k0) (hk1 : k0 ≤ 100000000) :
    Calls Try.prog 35 #[.slice A l.length c, .int .i64 k0] w fun e w' => e = .returned (.int .i64 (k0 + 5 * l.length)) ∧ OT base w' A c (marked k0 l.length) ∧ w.grownBy w' (Value.slice A l.length c).ownBlock := by
  go_enter Try.func35, Try.ntmps35
  go_wp2_with fail
  go_loopw [1, 5] (fun v i wr => ∃ (k : Nat) (l' : List Tk), i = .int .i64 (k : Int) ∧ v = .int .i64 (k0 + 5 * (k : Int)) ∧ k ≤ l.length ∧ Hid (l'.length = l.length ∧ l'.take k = marked k0 k) ∧ OT base wr A c l' ∧ w.grownBy wr (Value.slice A l.length c).ownBlock) (fun _ i _ => l.length - (intOf i).toNat)
  case atStart => exact ⟨0, l, rfl, by simp, by omega, ⟨rfl, by simp [marked]⟩, h, World.grownBy.refl _ _⟩
  case round =>
    obtain ⟨k, l', rfl, rfl, hk, hL, hO, hg⟩ := hrel
    by_cases hlt : k < l.length
    · have hlt' : k < l'.length := by rw [hL.out.1]; exact hlt
      obtain ⟨b, rfl, hbb, hbl⟩ := OT_addr hO (by omega)
      obtain ⟨c0, c1, c2, c3, c4, cf⟩ := OT_cells hO k hlt'
      go_wp2_with fail
      go_roundw
      case rel =>
        have hO2 := OT_whole hO k hlt' (mtask (k0 + 5 * (k : Int)))
        refine ⟨k + 1, l'.set k (mtask (k0 + 5 * (k : Int))), by go_num, by go_num, by omega, ⟨by rw [List.length_set]; exact hL.out.1, ?_⟩, hO2, gb_trans hg (gb_five _ _ _ _ _)⟩
        rw [List.take_succ_eq_append_getElem (by simp; omega), List.take_set_of_le (Nat.le_refl _), hL.out.2, marked_succ]
        simp
      case measure => simp [intOf]; omega
    · go_wp2_with fail
      go_ret
      have e := hL.out
      have ek : k = l.length := by omega
      rw [List.take_of_length_le (by omega), ek] at e
      rw [← e.2]
      exact ⟨by rw [ek]; rfl, hO, hg⟩

theorem laws_heldTaskS (A : Option Addr) (n : Nat) (c : Nat) (k0 : Int) (w : World) (h : TS w A (marked k0 n)) (hl : n ≤ 1048576) (hk0 : 0 ≤ k0) (hk1 : k0 ≤ 100000000) :
    Calls Try.prog 36 #[.slice A n c, .int .i64 k0] w fun e w' => e = .returned (.int .i64 (k0 + 5 * n)) ∧ w = w' := by
  go_enter Try.func36, Try.ntmps36
  go_wp2_with fail
  go_loop [1, 5] (fun v i => ∃ k : Nat, i = .int .i64 (k : Int) ∧ v = .int .i64 (k0 + 5 * (k : Int)) ∧ k ≤ n) (fun _ i => n - (intOf i).toNat)
  case atStart => exact ⟨0, rfl, by simp, by omega⟩
  case round =>
    obtain ⟨k, rfl, rfl, hk⟩ := hrel
    by_cases hlt : k < n
    · have hlt' : k < (marked k0 n).length := by rw [marked_len]; exact hlt
      obtain ⟨b, off, rfl, hbl, hc⟩ := h (by omega)
      obtain ⟨c0, c1, c2, c3, c4⟩ := task_cells hc k hlt'
      rw [marked_at] at c0 c1 c2 c3 c4
      simp only [mtask] at c0 c1 c2 c3 c4
      clear hc
      go_wp2_with fail
      go_round
      case rel => exact ⟨k + 1, by go_num, by go_num, by omega⟩
      case measure => simp [intOf]; omega
    · go_wp2_with fail
      go_ret
      have ek : k = n := by omega
      exact ⟨by rw [ek]; rfl, rfl⟩

theorem laws_markIntS (base : Nat) (A : Option Addr) (l : List Int) (c : Nat) (k0 : Int) (w : World) (h : OI base w A c l) (hl : l.length ≤ 1048576) (hk0 : 0 ≤ k0) (hk1 : k0 ≤ 100000000) :
    Calls Try.prog 40 #[.slice A l.length c, .int .i64 k0] w fun e w' => e = .returned (.int .i64 (k0 + l.length)) ∧ OI base w' A c ((List.range l.length).map fun (i : Nat) => k0 + (i : Int)) ∧ w.grownBy w' (Value.slice A l.length c).ownBlock := by
  go_enter Try.func40, Try.ntmps40
  go_wp2_with fail
  go_loopw [1, 5] (fun v i wr => ∃ (k : Nat) (l' : List Int), i = .int .i64 (k : Int) ∧ v = .int .i64 (k0 + (k : Int)) ∧ k ≤ l.length ∧ Hid (l'.length = l.length ∧ l'.take k = (List.range k).map fun (i : Nat) => k0 + (i : Int)) ∧ OI base wr A c l' ∧ w.grownBy wr (Value.slice A l.length c).ownBlock) (fun _ i _ => l.length - (intOf i).toNat)
  case atStart => exact ⟨0, l, rfl, by simp, by omega, ⟨rfl, by simp⟩, h, World.grownBy.refl _ _⟩
  case round =>
    obtain ⟨k, l', rfl, rfl, hk, hL, hO, hg⟩ := hrel
    by_cases hlt : k < l.length
    · have hlt' : k < l'.length := by rw [hL.out.1]; exact hlt
      obtain ⟨b, rfl, hbb, hbl⟩ := OI_addr hO (by omega)
      obtain ⟨⟨v0, c0⟩, cf⟩ := own_one hO k hlt'
      go_wp2_with fail
      go_roundw
      case rel =>
        have h1 := World.ownsRow.stored hO k (.int .i64 (k0 + (k : Int)))
        refine ⟨k + 1, l'.set k (k0 + (k : Int)), by go_num, by go_num, by omega, ⟨by rw [List.length_set]; exact hL.out.1, ?_⟩, ?_, gb_trans hg h1.2⟩
        · rw [List.take_succ_eq_append_getElem (by simp; omega), List.take_set_of_le (Nat.le_refl _), hL.out.2, List.range_succ, List.map_append]
          simp
        · unfold OI
          rw [List.length_set, List.map_set]
          exact h1.1
      case measure => simp [intOf]; omega
    · go_wp2_with fail
      go_ret
      have e := hL.out
      have ek : k = l.length := by omega
      rw [List.take_of_length_le (by omega), ek] at e
      rw [← e.2]
      exact ⟨by rw [ek]; rfl, hO, hg⟩

theorem bmarkT {W w w' : World} {base : Nat} {A : Option Addr} {c n : Nat} {l : List Tk} (hb : Below W.heap.size W w) (h : OT base w A c l) (hg : w.grownBy w' (Value.slice A n c).ownBlock) (hB : W.heap.size ≤ base) : Below W.heap.size W w' :=
  hb.trans ((Below.refl _ _).grown hg hb.size (fun k hk => by
    cases A with
    | none => simp [Value.ownBlock] at hk
    | some a =>
      have e : a.block = k := by simpa [Value.ownBlock] using hk
      have := (OT_rng h a rfl).1
      omega))
theorem bmarkI {W w w' : World} {base : Nat} {A : Option Addr} {c n : Nat} {l : List Int} (hb : Below W.heap.size W w) (h : OI base w A c l) (hg : w.grownBy w' (Value.slice A n c).ownBlock) (hB : W.heap.size ≤ base) : Below W.heap.size W w' :=
  hb.trans ((Below.refl _ _).grown hg hb.size (fun k hk => by
    cases A with
    | none => simp [Value.ownBlock] at hk
    | some a =>
      have e : a.block = k := by simpa [Value.ownBlock] using hk
      have := (OI_rng h a rfl).1
      omega))
/-- An address in a range of blocks. -/
def Rng (A : Option Addr) (lo hi : Nat) : Prop := ∀ a, A = some a → lo ≤ a.block ∧ a.block < hi
theorem rng_ne {A B : Option Addr} {l1 h1 l2 h2 : Nat} (h : Rng A l1 h1) (g : Rng B l2 h2) (hd : h1 ≤ l2 ∨ h2 ≤ l1) : ∀ a b, A = some a → B = some b → a.block ≠ b.block := by
  intro a b ha hb
  have := h a ha
  have := g b hb
  omega
theorem TI_ne {base base' : Nat} {w : World} {A B : Option Addr} {c d : Nat} {l : List Tk} {r : List Int} (h : OT base w A c l) (g : OI base' w B d r) : ∀ a b, A = some a → B = some b → a.block ≠ b.block := by
  rintro a b rfl rfl e
  rcases h.2 with ⟨hv, _⟩ | ⟨x, cap, cur, hv, _, hh, _⟩
  · cases hv
  · rcases g.2 with ⟨gv, _⟩ | ⟨y, cap2, cur2, gv, _, gh, _⟩
    · cases gv
    · cases hv
      cases gv
      simp only at e
      subst e
      rw [hh] at gh
      injection gh with gh
      injection gh with _ gt _
      revert gt
      decide
theorem IT_ne {base base' : Nat} {w : World} {A B : Option Addr} {c d : Nat} {l : List Tk} {r : List Int} (g : OI base' w B d r) (h : OT base w A c l) : ∀ b a, B = some b → A = some a → b.block ≠ a.block :=
  fun b a hb ha e => TI_ne h g a b ha hb e.symm
end Go.Proofs.Ytnldiakjmhfodaa
