/-
  FnScriptShow returns true for every code.
-/
import Derived.Test.YtmkjmancmiphfaaGreatDoorJobVS2
import Derived.Test.YtmkjmancmiphfaaGreatDoorDrawFmt
import Derived.Test.YtmkjmancmiphfaaGreatDoorDoor
import Derived.Test.YtmkjmancmiphfaaGreatDoorOpen
import Derived.Test.YtmkjmancmiphfaaGreatDoorTie
import Derived.Test.YtmkjmancmiphfaaGreatDoorCards
import Derived.Test.YtmkjmancmiphfaaGreatDoorPutS
import Derived.Test.YtmkjmancmiphfaaGreatDoorWorstS
import Derived.Test.YtmkjmancmiphfaaGreatDoorDrawPack
import Derived.Test.YtmkjmancmiphfaaGreatDoorHeldF
import Derived.Test.YtmkjmancmiphfaaGreatDoorWorstL
import Derived.Test.YtmkjmancmiphfaaGreatDoorJobV2
namespace Go.Proofs.YtmkjmancmiphfaaGreatDoor
open Go.RowKit

/-! l6Jobs, l6Case, DrawJobsValid: some tasks and jobs. -/

theorem OJ_only {base : Nat} {w w' : World} {A : Option Addr} {c : Nat} {l : List Jb} (h : OJ base w A c l) {W : World} {g p : Nat} (hr : RD W w g p) (hg : w.grownBy w' (some g)) : OJ base w' A c l := by
  obtain ⟨A', l', c', hh, _⟩ := hr.src
  exact own_only h hg hh (by decide)
theorem gbb {a w w' : World} {g : Nat} (h : a.grownBy w (some g)) (hb : Below w.heap.size w w') : a.grownBy w' (some g) := gb_row h (hb.mono h.size)
theorem OT_high {base : Nat} {w : World} {tb c : Nat} {l : List Tk} (h : OT base w (some ⟨tb, 0, none⟩) c l) (k : Nat) (hk : k < l.length) : w.cell? ⟨tb, k * 5 + 1, none⟩ = some (.int .i64 (tkAt l k).high) := by
  obtain ⟨b', off', hA, _, hc⟩ := h.ts (by omega)
  cases hA
  have := (cells_tk hc k hk).2.1
  rwa [Nat.zero_add] at this
theorem OJ_lt {base : Nat} {w : World} {b c : Nat} {l : List Jb} (h : OJ base w (some ⟨b, 0, none⟩) c l) : base ≤ b ∧ b < w.heap.size := World.ownsRow.lt h b rfl
theorem OJ_far {base : Nat} {w w' : World} {b c : Nat} {l : List Jb} (h : OJ base w (some ⟨b, 0, none⟩) c l) {nb : Nat} (hg : w.grownBy w' (some nb)) (hne : b ≠ nb) : OJ base w' (some ⟨b, 0, none⟩) c l :=
  World.ownsRow.kept h hg (.inr (by simpa [Value.ownBlock] using hne))
theorem RD_far {W w w' : World} {g p nb : Nat} (h : RD W w g p) (hg : w.grownBy w' (some nb)) (hne : g ≠ nb) (hW : W.heap.size ≤ nb) : RD W w' g p := by
  obtain ⟨A, l, c, hh, hs, hl⟩ := h.src
  refine ⟨h.below.grown hg h.below.size (fun k hk => by cases hk; exact hW), h.new, ⟨A, l, c, ?_, hs, hl⟩, h.small⟩
  exact (hg.block g h.lt (by simpa using hne)).trans hh
theorem gb_far {a w w' : World} {g nb : Nat} (h : a.grownBy w (some g)) (hg : w.grownBy w' (some nb)) (hn : a.heap.size ≤ nb) : a.grownBy w' (some g) :=
  ⟨hg.os.trans h.os, hg.tape.trans h.tape, hg.output.trans h.output, Nat.le_trans h.size hg.size, fun i hi hne => (hg.block i (Nat.lt_of_lt_of_le hi h.size) (by
    intro e
    have : i = nb := by simpa using e
    omega)).trans (h.block i hi hne)⟩
theorem job_store (v : World) (nb : Nat) (t a n : Int) {x0 x1 x2 : Value} (h : v.heap[nb]? = some (.cells #[x0, x1, x2] 60 (0, 0))) :
    (((v.setCell ⟨nb, 0, none⟩ (.int .i64 t)).setCell ⟨nb, 1, none⟩ (.int .i64 a)).setCell ⟨nb, 2, none⟩ (.int .i64 n)).heap[nb]? = some (.cells #[.int .i64 t, .int .i64 a, .int .i64 n] 60 (0, 0)) ∧
      v.grownBy (((v.setCell ⟨nb, 0, none⟩ (.int .i64 t)).setCell ⟨nb, 1, none⟩ (.int .i64 a)).setCell ⟨nb, 2, none⟩ (.int .i64 n)) (some nb) := by
  have h1 := heap_setCell_same v nb 0 _ _ (.int .i64 t) h
  have h2 := heap_setCell_same _ nb 1 _ _ (.int .i64 a) h1
  have h3 := heap_setCell_same _ nb 2 _ _ (.int .i64 n) h2
  exact ⟨h3, gb_trans (gb_trans (oi_gb_cell v nb 0 _) (oi_gb_cell _ nb 1 _)) (oi_gb_cell _ nb 2 _)⟩
/-- Jobs drawn, in new memory. -/
def JobsPost (W w : World) (g p k m : Nat) (e : Ending) (w' : World) : Prop :=
  ∃ (B : Option Addr) (d : Nat) (js : List Jb) (q : Nat), e = .returned (.slice B js.length d) ∧ OJ w.heap.size w' B d js ∧ js.length ≤ m ∧ q ≤ p + k ∧ RD W w' g q ∧ w.grownBy w' (some g)
theorem worstL_len (l : List Tk) (n : Int) (high : Bool) : (worstL l n high).length ≤ 60 := by
  unfold worstL worst
  split
  · rename_i h
    simp only [Bool.and_eq_true, decide_eq_true_eq] at h
    exact h.2
  · simp
set_option maxHeartbeats 4000000 in
set_option maxRecDepth 100000 in
theorem spec_l6Jobs (W w : World) (g p : Nat) (A : Option Addr) (l : List Tk) (c : Nat) (h : RD W w g p) (hp : p + 70 ≤ 1099511627776) (hO : OT W.heap.size w A c l) (hl5 : l.length ≤ 6) (hsm : ∀ t ∈ l, Sm t) :
    Calls Tryz.prog 58 #[.pointer (some ⟨g, 0, none⟩), .slice A l.length c] w (JobsPost W w g p 70 60) := by
  have hWw := h.below.size
  have hgl := h.lt
  have hlm : l.length ≤ maxLen := by unfold maxLen; omega
  have hsz := own_size hO
  obtain ⟨hsz1, _⟩ := hsz
  go_enter Tryz.func58, Tryz.ntmps58
  go_wp2_with fail
  have hb0 := bal (Below.refl w.heap.size w) (.cells #[] 60)
  have hO0 := OT_alloc hO (.cells #[] 60)
  have hJ0 := OJ_blank w w.heap.size (Nat.le_refl _)
  have hr0 := h.grow hb0
  have hG0 : w.grownBy (w.alloc (.cells #[] 60)) (some g) := gb_row (World.grownBy.refl w (some g)) hb0
  refine (spec_pick W _ g p _ hr0 (by omega)).mono ?_
  rintro e w1 ⟨x, rfl, hx0, hx1, _, hr1, hg1⟩
  have hO1 := OT_only hO0 hr0 hg1
  have hJ1 := OJ_only hJ0 hr0 hg1
  have hG1 := gb_trans hG0 hg1
  clear hO0 hJ0 hr0 hG0 hg1 hb0
  by_cases hx : x = 0
  · subst hx
    go_wp2_with fail
    refine (spec_num W _ g (p + 1) _ [20, 10, 40, 5] _ (hr1.grow (bal (Below.refl _ _) _)) (by omega) (IS_lit _ _ _ _ _ rfl rfl) (by simp) (by simp) (by rintro a ⟨⟩; have := hr1.lt; simp; omega)).mono ?_
    rintro e w2 ⟨n, hn, rfl, hr2, hg2⟩
    have hO2 := OT_only (OT_alloc hO1 _) (hr1.grow (bal (Below.refl _ _) _)) hg2
    have hG2 := gb_trans (gbb hG1 (bal (Below.refl _ _) _)) hg2
    clear hg2
    go_wp2_with fail
    refine (spec_pick W _ g (p + 1 + 1) _ hr2 (by omega)).mono ?_
    rintro e w3 ⟨y, rfl, hy0, hy1, _, hr3, hg3⟩
    have hO3 := OT_only hO2 hr2 hg3
    have hG3 := gb_trans hG2 hg3
    go_wp2_with fail
    refine (spec_WorstJobs A l c n (y == 0) _ hO3.ts hlm).mono ?_
    rintro e w4 ⟨B, d, rfl, o4, b4⟩
    go_wp2_with fail
    go_ret
    exact ⟨B, d, worstL l n (y == 0), p + 1 + 1 + 1, rfl, own_base o4 (Nat.le_trans (by omega) hG3.size), worstL_len _ _ _, by omega, hr3.grow b4, gbb hG3 b4⟩
  · have hxe : (x == 0) = false := beq_eq_false_iff_ne.2 hx
    clear hx
    go_wp2_with fail
    refine (spec_num W _ g (p + 1) _ [8, 5, 12, 3, 20, 0] _ (hr1.grow (bal (Below.refl _ _) _)) (by omega) (IS_lit _ _ _ _ _ rfl rfl) (by simp) (by simp) (by rintro a ⟨⟩; have := hr1.lt; simp; omega)).mono ?_
    rintro e w2 ⟨n, hn, rfl, hr2, hg2⟩
    have hO2 := OT_only (OT_alloc hO1 _) (hr1.grow (bal (Below.refl _ _) _)) hg2
    have hJ2 := OJ_only (OJ_alloc hJ1 _) (hr1.grow (bal (Below.refl _ _) _)) hg2
    have hG2 := gb_trans (gbb hG1 (bal (Below.refl _ _) _)) hg2
    have hn2 : 0 ≤ n ∧ n ≤ 20 := by simp at hn; omega
    obtain ⟨i0, hi0⟩ : ∃ i0 : Nat, n = (i0 : Int) := ⟨n.toNat, by omega⟩
    subst hi0
    clear hg2 hn hJ1 hO1 hr1 hG1
    go_wp2_with fail
    go_loopg [5, 6] i0 (fun gg v iv wr => ∃ (m bo co q : Nat) (js : List Jb), gg = m ∧ iv = .int .i64 (m : Int) ∧ m ≤ 20 ∧ v = .slice (some ⟨bo, 0, none⟩) js.length co ∧ js.length + m ≤ 20 ∧ OJ w.heap.size wr (some ⟨bo, 0, none⟩) co js ∧ OT W.heap.size wr A c l ∧ q ≤ p + 2 + 3 * (20 - m) ∧ RD W wr g q ∧ w.grownBy wr (some g))
    case atStart => exact ⟨i0, _, 0, _, [], rfl, rfl, by omega, rfl, by simp; omega, hJ2, hO2, by omega, hr2, hG2⟩
    case round =>
      clear hJ2 hO2 hr2 hG2
      obtain ⟨m, bo, co, q, js, rfl, rfl, hm20, rfl, hjm, hJ, hOT, hq, hr, hG⟩ := hrel
      have hws : w.heap.size ≤ wr.heap.size := hG.size
      by_cases hgo : 0 < gk ∧ 0 < l.length
      · obtain ⟨hm0, hl0⟩ := hgo
        have e0 : decide ((0 : Int) < (gk : Int)) = true := decide_eq_true (by omega)
        have e1 : decide ((0 : Int) < (l.length : Int)) = true := decide_eq_true (by omega)
        go_wp2_with fail
        refine (spec_pick W _ g q _ hr (by omega)).mono ?_
        rintro e w3 ⟨y, rfl, hy0, hy1, _, hr3, hg3⟩
        have hy1 := hy1 (by omega)
        have hO3 := OT_only hOT hr hg3
        have hJ3 := OJ_only hJ hr hg3
        have hG3 := gb_trans hG hg3
        clear hOT hJ hr hG hg3
        obtain ⟨k, rfl⟩ : ∃ k : Nat, y = (k : Int) := ⟨y.toNat, by omega⟩
        have hkl : k < l.length := by omega
        obtain ⟨tb, rfl, htb, htl⟩ := OT_addr hO3 hl0
        obtain ⟨_, c1, _, _, _⟩ := cells_tk (off := 0) (b := tb) (l := l) (w := w3) (by
          obtain ⟨b', off', hA, _, hc⟩ := hO3.ts hl0
          cases hA
          exact hc) k hkl
        have hkI : (k : Int) < (l.length : Int) := by omega
        have hh2 := (hsm l[k] (List.getElem_mem hkl)).2.1
        rw [← tkAt_eq l k hkl] at hh2
        obtain ⟨hh20, hh21⟩ := hh2
        clear c1
        go_upto_region 9 with fail
        -- MARK9
        go_cut [8] from 43 to 54 (fun v wc => ∃ nb x1 x2, v = .pointer (some ⟨nb, 0, none⟩) ∧ wc.heap[nb]? = some (.cells #[.int .i64 (k : Int), .int .i64 x1, .int .i64 x2] 60 (0, 0)) ∧ OJ w.heap.size wc (some ⟨bo, 0, none⟩) co js ∧ OT W.heap.size wc (some ⟨tb, 0, none⟩) c l ∧ RD W wc g (q + 1 + 1 + 1) ∧ w.grownBy wc (some g))
        case first =>
          refine wp_region_held (S := fun w' => w'.cell? ⟨tb, k * 5 + 1, none⟩ = some (.int .i64 (tkAt l k).high)) (by kernel_rfl) ?_
          change wpAnyH _ _ _ _ _ _ _ _ (World.drew _)
          have Kz : Below w3.heap.size w3 (World.drew w3) := Below.drew (Below.refl _ _)
          have hr0 := hr3.grow Kz
          have hO0 := OT_keep hO3 Kz
          have hJ0 := OJ_keep hJ3 Kz
          have hG0 := gbb hG3 Kz
          have hS0 := OT_high hO0 k hkl
          generalize World.drew w3 = v0 at hr0 hO0 hJ0 hG0 hS0 ⊢
          refine takeHL (i := 0) 43 (.int .i64 (k : Int)) rfl rfl (by kernel_rfl) (by kernel_rfl) (by kernel_rfl) (fun _ _ _ h => h) (.inl ⟨by rfl, fun _ _ => rfl⟩) hS0 ?_
          simp only [List.set_cons_succ, List.set_cons_zero]
          refine takeHL (i := 1) 44 (.pointer (some ⟨g, 0, none⟩)) rfl rfl (by kernel_rfl) (by kernel_rfl) (by kernel_rfl) (fun _ _ _ h => h) (.inl ⟨by rfl, fun _ _ => rfl⟩) hS0 ?_
          simp only [List.set_cons_succ, List.set_cons_zero]
          refine takeHL (i := 3) 46 (.pointer (some ⟨g, 0, none⟩)) rfl rfl (by kernel_rfl) (by kernel_rfl) (by kernel_rfl) (fun _ _ _ h => h) (.inl ⟨by rfl, fun _ _ => rfl⟩) hS0 ?_
          simp only [List.set_cons_succ, List.set_cons_zero]
          refine takeHL (i := 4) 47 (.slice (some ⟨tb, 0, none⟩) l.length c) rfl rfl (by kernel_rfl) (by kernel_rfl) (by kernel_rfl) (fun _ _ _ h => h) (.inl ⟨by rfl, fun _ _ => rfl⟩) hS0 ?_
          simp only [List.set_cons_succ, List.set_cons_zero]
          refine takeHL (i := 5) 48 (.int .i64 (k : Int)) rfl rfl (by kernel_rfl) (by kernel_rfl) (by kernel_rfl) (fun _ _ _ h => h) (.inl ⟨by rfl, fun _ _ => rfl⟩) hS0 ?_
          simp only [List.set_cons_succ, List.set_cons_zero]
          refine takeHL (i := 6) 49 (.pointer (some ⟨tb, k * 5, none⟩)) rfl rfl (by kernel_rfl) (by kernel_rfl) (by kernel_rfl) (fun _ _ _ h => h) (.inl ⟨by rfl, fun w _ => by go_simp⟩) hS0 ?_
          simp only [List.set_cons_succ, List.set_cons_zero]
          refine takeHL (i := 7) 50 (.pointer (some ⟨tb, k * 5 + 1, none⟩)) rfl rfl (by kernel_rfl) (by kernel_rfl) (by kernel_rfl) (fun _ _ _ h => h) (.inl ⟨by rfl, fun w _ => by go_simp⟩) hS0 ?_
          simp only [List.set_cons_succ, List.set_cons_zero]
          refine takeHL (i := 8) 51 (.int .i64 (tkAt l k).high) rfl rfl (by kernel_rfl) (by kernel_rfl) (by kernel_rfl) (fun _ _ _ h => h) (.inl ⟨by rfl, fun w hS => by go_simp⟩) hS0 ?_
          simp only [List.set_cons_succ, List.set_cons_zero]
          refine wpAnyH_all (rs := [2, 12]) (by kernel_rfl) (by simp) ?_
          intro j hj
          simp only [List.mem_cons, List.not_mem_nil, or_false] at hj
          rcases hj with rfl | rfl
          · refine callOp 2 45 rfl rfl (by rfl) 25 Tryz.func25 (by kernel_rfl) rfl _ _ rfl #[.pointer (some ⟨g, 0, none⟩), .int .i64 30] (by simp [Act.eval]) (spec_pick W _ g (q + 1) _ hr0 (by omega)) ?_
            rintro e vA ⟨xA, rfl, xaA, xbA, xcA, hrA, hgA⟩
            have hOA := OT_only hO0 hr0 hgA
            have hJA := OJ_only hJ0 hr0 hgA
            have hGA := gb_trans hG0 hgA
            have hSA := OT_high hOA k hkl
            refine ⟨_, rfl, hSA, ?_⟩
            simp only [List.set_cons_succ, List.set_cons_zero]
            refine wpAnyH_all (rs := [9, 12]) (by kernel_rfl) (by simp) ?_
            intro j hj
            simp only [List.mem_cons, List.not_mem_nil, or_false] at hj
            rcases hj with rfl | rfl
            · refine callOp 9 52 rfl rfl (by rfl) 25 Tryz.func25 (by kernel_rfl) rfl _ _ rfl #[.pointer (some ⟨g, 0, none⟩), .int .i64 (tkAt l k).high] (by simp [Act.eval]) (spec_pick W _ g (q + 1 + 1) _ hrA (by omega)) ?_
              rintro e vB ⟨xB, rfl, xaB, xbB, xcB, hrB, hgB⟩
              have hOB := OT_only hOA hrA hgB
              have hJB := OJ_only hJA hrA hgB
              have hGB := gb_trans hGA hgB
              have hSB := OT_high hOB k hkl
              refine ⟨_, rfl, hSB, ?_⟩
              simp only [List.set_cons_succ, List.set_cons_zero]
              have xwB : xB ≤ 100 := by
                rcases Int.lt_or_le 0 (tkAt l k).high with e | e
                · have := xbB (by omega)
                  omega
                · have := xcB (by omega)
                  omega
              have qw : IntKind.i64.wrap (1 + xB) = 1 + xB := IntWalk.i64_in _ (by omega)
              refine takeHL (i := 10) 53 (.int .i64 (1 + xB)) rfl rfl (by kernel_rfl) (by kernel_rfl) (by kernel_rfl) (fun _ _ _ h => h) (.inl ⟨by rfl, fun w _ => by go_simp⟩) hSB ?_
              simp only [List.set_cons_succ, List.set_cons_zero]
              refine takeHL (i := 11) 54 (.agg #[.int .i64 (k : Int), .int .i64 xA, .int .i64 (1 + xB)]) rfl rfl (by kernel_rfl) (by kernel_rfl) (by kernel_rfl) (fun _ _ _ h => h) (.inl ⟨by rfl, fun w _ => by go_simp⟩) hSB ?_
              simp only [List.set_cons_succ, List.set_cons_zero]
              refine wpAnyH_all (rs := [12]) (by kernel_rfl) (by simp) ?_
              intro j hj
              rw [List.mem_singleton] at hj
              subst hj
              refine makeOp 12 8 rfl (by rfl) ?_
              intro K hK
              go_simp
              have bzC := bal (Below.refl vB.heap.size vB) (.cells #[.int .i64 0, .int .i64 0, .int .i64 0] 60 (0, 0))
              have hNC := heap_alloc_new vB (.cells #[.int .i64 0, .int .i64 0, .int .i64 0] 60 (0, 0))
              have hrC := hrB.grow bzC
              have hOC := OT_keep hOB bzC
              have hJC := OJ_keep hJB bzC
              have hGC := gbb hGB bzC
              have hSC := OT_high hOC k hkl
              have hbo := OJ_lt hJB
              have hnb0 := hrB.lt
              refine hK (.pointer (some ⟨vB.heap.size, 0, none⟩)) _ hSC ?_
              simp only [List.set_cons_succ, List.set_cons_zero]
              generalize World.alloc vB _ = vC at *
              obtain ⟨nb, hnbe⟩ : ∃ nb, vB.heap.size = nb := ⟨_, rfl⟩
              rw [hnbe] at hNC hbo hnb0 ⊢
              have hnb : nb ≠ g := by omega
              clear hK bzC hnbe
              refine wpAnyH_all (rs := [13]) (by kernel_rfl) (by simp) ?_
              intro j hj
              rw [List.mem_singleton] at hj
              subst hj
              refine storeOp 13 rfl (by rfl) ?_
              intro K hK
              obtain ⟨z0, z1, z2⟩ := blk3 hNC
              have zf := fun i => Lib.frozen_of_heap hNC i
              go_simp
              have hkk : ∀ i u, vC.grownBy (vC.setCell ⟨nb, i, none⟩ u) (some nb) := fun i u => oi_gb_cell vC nb i u
              have hF := job_store vC nb (k : Int) xA (1 + xB) hNC
              obtain ⟨hFb, hFg⟩ := hF
              have hOf : OT W.heap.size _ (some ⟨tb, 0, none⟩) c l := own_only hOC hFg hNC (by decide)
              have hJf := OJ_far hJC hFg (by omega)
              have hWn : W.heap.size ≤ nb := by have := hrC.below.size; omega
              have hrf := RD_far hrC hFg (fun e => hnb e.symm) (by have := h.below.size; have := hG3.size; omega)
              have hGf := gb_far hGC hFg (by have := hG3.size; omega)
              have hSf := OT_high hOf k hkl
              refine hK _ hSf ?_
              refine wpAnyH_done (by kernel_rfl) ?_ _
              go_wp2_with fail
              go_meet
              exact ⟨nb, xA, 1 + xB, rfl, hFb, hJf, hOf, hrf, hGf⟩
            · refine makeOp 12 8 rfl (by rfl) ?_
              intro K hK
              go_simp
              have bzC := bal (Below.refl vA.heap.size vA) (.cells #[.int .i64 0, .int .i64 0, .int .i64 0] 60 (0, 0))
              have hNC := heap_alloc_new vA (.cells #[.int .i64 0, .int .i64 0, .int .i64 0] 60 (0, 0))
              have hrC := hrA.grow bzC
              have hOC := OT_keep hOA bzC
              have hJC := OJ_keep hJA bzC
              have hGC := gbb hGA bzC
              have hSC := OT_high hOC k hkl
              have hbo := OJ_lt hJA
              have hnb0 := hrA.lt
              refine hK (.pointer (some ⟨vA.heap.size, 0, none⟩)) _ hSC ?_
              simp only [List.set_cons_succ, List.set_cons_zero]
              generalize World.alloc vA _ = vC at *
              obtain ⟨nb, hnbe⟩ : ∃ nb, vA.heap.size = nb := ⟨_, rfl⟩
              rw [hnbe] at hNC hbo hnb0 ⊢
              have hnb : nb ≠ g := by omega
              clear hK bzC hnbe
              refine wpAnyH_all (rs := [9]) (by kernel_rfl) (by simp) ?_
              intro j hj
              rw [List.mem_singleton] at hj
              subst hj
              refine callOp 9 52 rfl rfl (by rfl) 25 Tryz.func25 (by kernel_rfl) rfl _ _ rfl #[.pointer (some ⟨g, 0, none⟩), .int .i64 (tkAt l k).high] (by simp [Act.eval]) (spec_pick W _ g (q + 1 + 1) _ hrC (by omega)) ?_
              rintro e vB ⟨xB, rfl, xaB, xbB, xcB, hrB, hgB⟩
              have hOB := OT_only hOC hrC hgB
              have hJB := OJ_only hJC hrC hgB
              have hGB := gb_trans hGC hgB
              have hSB := OT_high hOB k hkl
              have hNB := (hgB.block nb (Array.getElem?_eq_some_iff.1 hNC).1 (by simpa using hnb)).trans hNC
              refine ⟨_, rfl, hSB, ?_⟩
              simp only [List.set_cons_succ, List.set_cons_zero]
              have xwB : xB ≤ 100 := by
                rcases Int.lt_or_le 0 (tkAt l k).high with e | e
                · have := xbB (by omega)
                  omega
                · have := xcB (by omega)
                  omega
              have qw : IntKind.i64.wrap (1 + xB) = 1 + xB := IntWalk.i64_in _ (by omega)
              refine takeHL (i := 10) 53 (.int .i64 (1 + xB)) rfl rfl (by kernel_rfl) (by kernel_rfl) (by kernel_rfl) (fun _ _ _ h => h) (.inl ⟨by rfl, fun w _ => by go_simp⟩) hSB ?_
              simp only [List.set_cons_succ, List.set_cons_zero]
              refine takeHL (i := 11) 54 (.agg #[.int .i64 (k : Int), .int .i64 xA, .int .i64 (1 + xB)]) rfl rfl (by kernel_rfl) (by kernel_rfl) (by kernel_rfl) (fun _ _ _ h => h) (.inl ⟨by rfl, fun w _ => by go_simp⟩) hSB ?_
              simp only [List.set_cons_succ, List.set_cons_zero]
              refine wpAnyH_all (rs := [13]) (by kernel_rfl) (by simp) ?_
              intro j hj
              rw [List.mem_singleton] at hj
              subst hj
              refine storeOp 13 rfl (by rfl) ?_
              intro K hK
              obtain ⟨z0, z1, z2⟩ := blk3 hNB
              have zf := fun i => Lib.frozen_of_heap hNB i
              go_simp
              have hkk : ∀ i u, vB.grownBy (vB.setCell ⟨nb, i, none⟩ u) (some nb) := fun i u => oi_gb_cell vB nb i u
              have hF := job_store vB nb (k : Int) xA (1 + xB) hNB
              obtain ⟨hFb, hFg⟩ := hF
              have hOf : OT W.heap.size _ (some ⟨tb, 0, none⟩) c l := own_only hOB hFg hNB (by decide)
              have hJf := OJ_far hJB hFg (by omega)
              have hWn : W.heap.size ≤ nb := by have := hrB.below.size; omega
              have hrf := RD_far hrB hFg (fun e => hnb e.symm) (by have := h.below.size; have := hG3.size; omega)
              have hGf := gb_far hGB hFg (by have := hG3.size; omega)
              have hSf := OT_high hOf k hkl
              refine hK _ hSf ?_
              refine wpAnyH_done (by kernel_rfl) ?_ _
              go_wp2_with fail
              go_meet
              exact ⟨nb, xA, 1 + xB, rfl, hFb, hJf, hOf, hrf, hGf⟩
          · refine makeOp 12 8 rfl (by rfl) ?_
            intro K hK
            go_simp
            have bzC := bal (Below.refl v0.heap.size v0) (.cells #[.int .i64 0, .int .i64 0, .int .i64 0] 60 (0, 0))
            have hNC := heap_alloc_new v0 (.cells #[.int .i64 0, .int .i64 0, .int .i64 0] 60 (0, 0))
            have hrC := hr0.grow bzC
            have hOC := OT_keep hO0 bzC
            have hJC := OJ_keep hJ0 bzC
            have hGC := gbb hG0 bzC
            have hSC := OT_high hOC k hkl
            have hbo := OJ_lt hJ0
            have hnb0 := hr0.lt
            refine hK (.pointer (some ⟨v0.heap.size, 0, none⟩)) _ hSC ?_
            simp only [List.set_cons_succ, List.set_cons_zero]
            generalize World.alloc v0 _ = vC at *
            obtain ⟨nb, hnbe⟩ : ∃ nb, v0.heap.size = nb := ⟨_, rfl⟩
            rw [hnbe] at hNC hbo hnb0 ⊢
            have hnb : nb ≠ g := by omega
            clear hK bzC hnbe
            refine wpAnyH_all (rs := [2]) (by kernel_rfl) (by simp) ?_
            intro j hj
            rw [List.mem_singleton] at hj
            subst hj
            refine callOp 2 45 rfl rfl (by rfl) 25 Tryz.func25 (by kernel_rfl) rfl _ _ rfl #[.pointer (some ⟨g, 0, none⟩), .int .i64 30] (by simp [Act.eval]) (spec_pick W _ g (q + 1) _ hrC (by omega)) ?_
            rintro e vA ⟨xA, rfl, xaA, xbA, xcA, hrA, hgA⟩
            have hOA := OT_only hOC hrC hgA
            have hJA := OJ_only hJC hrC hgA
            have hGA := gb_trans hGC hgA
            have hSA := OT_high hOA k hkl
            have hNA := (hgA.block nb (Array.getElem?_eq_some_iff.1 hNC).1 (by simpa using hnb)).trans hNC
            refine ⟨_, rfl, hSA, ?_⟩
            simp only [List.set_cons_succ, List.set_cons_zero]
            refine wpAnyH_all (rs := [9]) (by kernel_rfl) (by simp) ?_
            intro j hj
            rw [List.mem_singleton] at hj
            subst hj
            refine callOp 9 52 rfl rfl (by rfl) 25 Tryz.func25 (by kernel_rfl) rfl _ _ rfl #[.pointer (some ⟨g, 0, none⟩), .int .i64 (tkAt l k).high] (by simp [Act.eval]) (spec_pick W _ g (q + 1 + 1) _ hrA (by omega)) ?_
            rintro e vB ⟨xB, rfl, xaB, xbB, xcB, hrB, hgB⟩
            have hOB := OT_only hOA hrA hgB
            have hJB := OJ_only hJA hrA hgB
            have hGB := gb_trans hGA hgB
            have hSB := OT_high hOB k hkl
            have hNB := (hgB.block nb (Array.getElem?_eq_some_iff.1 hNA).1 (by simpa using hnb)).trans hNA
            refine ⟨_, rfl, hSB, ?_⟩
            simp only [List.set_cons_succ, List.set_cons_zero]
            have xwB : xB ≤ 100 := by
              rcases Int.lt_or_le 0 (tkAt l k).high with e | e
              · have := xbB (by omega)
                omega
              · have := xcB (by omega)
                omega
            have qw : IntKind.i64.wrap (1 + xB) = 1 + xB := IntWalk.i64_in _ (by omega)
            refine takeHL (i := 10) 53 (.int .i64 (1 + xB)) rfl rfl (by kernel_rfl) (by kernel_rfl) (by kernel_rfl) (fun _ _ _ h => h) (.inl ⟨by rfl, fun w _ => by go_simp⟩) hSB ?_
            simp only [List.set_cons_succ, List.set_cons_zero]
            refine takeHL (i := 11) 54 (.agg #[.int .i64 (k : Int), .int .i64 xA, .int .i64 (1 + xB)]) rfl rfl (by kernel_rfl) (by kernel_rfl) (by kernel_rfl) (fun _ _ _ h => h) (.inl ⟨by rfl, fun w _ => by go_simp⟩) hSB ?_
            simp only [List.set_cons_succ, List.set_cons_zero]
            refine wpAnyH_all (rs := [13]) (by kernel_rfl) (by simp) ?_
            intro j hj
            rw [List.mem_singleton] at hj
            subst hj
            refine storeOp 13 rfl (by rfl) ?_
            intro K hK
            obtain ⟨z0, z1, z2⟩ := blk3 hNB
            have zf := fun i => Lib.frozen_of_heap hNB i
            go_simp
            have hkk : ∀ i u, vB.grownBy (vB.setCell ⟨nb, i, none⟩ u) (some nb) := fun i u => oi_gb_cell vB nb i u
            have hF := job_store vB nb (k : Int) xA (1 + xB) hNB
            obtain ⟨hFb, hFg⟩ := hF
            have hOf : OT W.heap.size _ (some ⟨tb, 0, none⟩) c l := own_only hOB hFg hNB (by decide)
            have hJf := OJ_far hJB hFg (by omega)
            have hWn : W.heap.size ≤ nb := by have := hrB.below.size; omega
            have hrf := RD_far hrB hFg (fun e => hnb e.symm) (by have := h.below.size; have := hG3.size; omega)
            have hGf := gb_far hGB hFg (by have := hG3.size; omega)
            have hSf := OT_high hOf k hkl
            refine hK _ hSf ?_
            refine wpAnyH_done (by kernel_rfl) ?_ _
            go_wp2_with fail
            go_meet
            exact ⟨nb, xA, 1 + xB, rfl, hFb, hJf, hOf, hrf, hGf⟩
        case rest =>
          obtain ⟨nb, x1, x2, rfl, hN, hJ4, hO4, hr4, hG4⟩ := hcut
          clear hJ3 hO3 hr3
          obtain ⟨z0, z1, z2⟩ := blk3 hN
          clear hN
          go_wp2_with fail
          refine (spec_PutJob (some ⟨tb, 0, none⟩) l c bo 0 js co ⟨(k : Int), x1, x2⟩ wc hO4.ts hJ4.js hlm (by unfold maxLen; omega) (own_size hJ4).1).mono ?_
          rintro e w5 ⟨js', ok, b5', c5', hle, rfl, o5, b5⟩
          have hr5 := hr4.grow b5
          have hO5 := OT_keep hO4 b5
          have hJ5 := OJ_keep hJ4 b5
          have hG5 := gbb hG4 b5
          have hcs : w.heap.size ≤ wc.heap.size := hG4.size
          cases ok with
          | true =>
            go_wp2_with fail
            go_roundg (gk - 1)
            case measure => omega
            case rel => exact ⟨gk - 1, b5', c5', _, js', rfl, by go_num, by omega, rfl, by omega, own_base o5 hcs, hO5, by omega, hr5, hG5⟩
          | false =>
            go_wp2_with fail
            go_roundg (gk - 1)
            case measure => omega
            case rel => exact ⟨gk - 1, bo, co, _, js, rfl, by go_num, by omega, rfl, by omega, hJ5, hO5, by omega, hr5, hG5⟩
      · have hx : (decide ((0 : Int) < (gk : Int)) = false) ∨ (decide ((0 : Int) < (gk : Int)) = true ∧ decide ((0 : Int) < (l.length : Int)) = false) := by
          by_cases h0 : 0 < gk
          · refine .inr ⟨by go_num, by
              have : ¬ 0 < l.length := fun e => hgo ⟨h0, e⟩
              have : l.length = 0 := by omega
              rw [this]
              rfl⟩
          · exact .inl (by go_num)
        rcases hx with hx | ⟨hx, hx2⟩
        · go_wp2_with fail
          all_goals
            go_ret
            exact ⟨some ⟨bo, 0, none⟩, co, js, q, rfl, hJ, by omega, by omega, hr, hG⟩
        · go_wp2_with fail
          all_goals
            go_ret
            exact ⟨some ⟨bo, 0, none⟩, co, js, q, rfl, hJ, by omega, by omega, hr, hG⟩
-- MARKZ

/-! l6Case, DrawJobsValid: some tasks and jobs. -/

theorem OT_blkC {base : Nat} {w : World} {b c : Nat} {l : List Tk} (h : OT base w (some ⟨b, 0, none⟩) c l) : ∃ cs, w.heap[b]? = some (.cells cs 58 (0, 0)) := by
  rcases h.2 with ⟨hv, _⟩ | ⟨g, cap, cur, hv, hg, hh, _⟩
  · cases hv
  · injection hv with hA
    injection hA with hA
    injection hA with hb
    subst hb
    exact ⟨cur, hh⟩
theorem OJ_blkC {base : Nat} {w : World} {b c : Nat} {l : List Jb} (h : OJ base w (some ⟨b, 0, none⟩) c l) : ∃ cs, w.heap[b]? = some (.cells cs 60 (0, 0)) := by
  rcases h.2 with ⟨hv, _⟩ | ⟨g, cap, cur, hv, hg, hh, _⟩
  · cases hv
  · injection hv with hA
    injection hA with hA
    injection hA with hb
    subst hb
    exact ⟨cur, hh⟩
theorem OJ_fz {base : Nat} {w : World} {b c : Nat} {l : List Jb} (h : OJ base w (some ⟨b, 0, none⟩) c l) (k : Nat) (hk : k < l.length) : (∃ u, w.cell? ⟨b, k * 3 + 2, none⟩ = some u) ∧ ∀ i, w.frozen? ⟨b, i, none⟩ = false := by
  obtain ⟨cs, hb⟩ := OJ_blkC h
  refine ⟨?_, fun i => Lib.frozen_of_heap hb i⟩
  obtain ⟨b', off', hA, _, hc⟩ := h.js (by omega)
  cases hA
  have := (job_cells hc k hk).2.2
  rw [Nat.zero_add] at this
  exact ⟨_, this⟩
theorem OT_pastJ {base base2 : Nat} {w w' : World} {A : Option Addr} {c : Nat} {l : List Tk} (h : OT base w A c l) {B : Option Addr} {d n : Nat} {js : List Jb} (hJ : OJ base2 w B d js) (hg : w.grownBy w' (Value.slice B n d).ownBlock) : OT base w' A c l := by
  rcases hJ.2 with ⟨hv, _⟩ | ⟨g, cap, cur, hv, _, hh, _⟩
  · injection hv with hA
    subst hA
    refine World.ownsRow.kept h hg ?_
    rcases h.2 with ⟨hv, _⟩ | ⟨g, cap, cur, hv, _⟩
    · exact .inl (by rw [hv]; rfl)
    · exact .inr (by rw [hv]; simp [Value.ownBlock])
  · injection hv with hA
    subst hA
    exact own_only h hg hh (by decide)
/-- What l6Case hands over. -/
structure JCaseOk (w w' : World) (A : Option Addr) (c : Nat) (l : List Tk) (B : Option Addr) (d : Nat) (js : List Jb) : Prop where
  tasks : OT w.heap.size w' A c l
  jobs : OJ w.heap.size w' B d js
  len : l.length ≤ 5
  jlen : js.length ≤ 61
  below : Below w.heap.size w w'
def JCasePost (w : World) (e : Ending) (w' : World) : Prop := ∃ A c l B d js, e = .returned (.tuple #[.slice A (List.length l) c, .slice B (List.length js) d]) ∧ JCaseOk w w' A c l B d js

set_option maxHeartbeats 2000000 in
theorem spec_l6Case (A0 : Option Addr) (code : List Int) (c0 : Nat) (w : World) (h : BS w A0 code) (hl : code.length ≤ maxLen) (hlc : code.length ≤ c0) :
    Calls Tryz.prog 26 #[.slice A0 code.length c0] w (JCasePost w) := by
  go_enter Tryz.func26, Tryz.ntmps26
  go_wp2_with fail
  refine (spec_l11Open A0 code c0 w h hl hlc).mono ?_
  rintro e w1 ⟨rfl, hr1⟩
  go_wp2_with fail
  refine (spec_l1Set w _ _ 0 hr1 (by omega)).mono ?_
  rintro e w2 ⟨A, c, l, q2, rfl, hO2, hsm, hl5, hq2, hr2, hg2⟩
  have hO2 := own_base hO2 hr1.below.size
  clear hg2
  go_wp2_with fail
  refine (spec_l6Jobs w _ _ q2 A l c hr2 (by omega) hO2 (by omega) hsm).mono ?_
  rintro e w3 ⟨B, d, js, q3, rfl, hJ3, hj60, hq3, hr3, hg3⟩
  have hJ3 := own_base hJ3 hr2.below.size
  have hO3 := OT_only hO2 hr2 hg3
  clear hg3 hO2 hr2 hr1
  go_wp2_with fail
  refine (spec_pick w _ _ q3 _ hr3 (by omega)).mono ?_
  rintro e w4 ⟨x, rfl, hx0, hx1, _, hr4, hg4⟩
  have hO4 := OT_only hO3 hr3 hg4
  have hJ4 := OJ_only hJ3 hr3 hg4
  clear hg4 hO3 hJ3 hr3 hx1
  rcases Int.lt_or_le 2 x with hx3 | hx3
  · have e0 : (x == 0) = false := beq_eq_false_iff_ne.2 (by omega)
    have e1 : (x == 1) = false := beq_eq_false_iff_ne.2 (by omega)
    have e2 : (x == 2) = false := beq_eq_false_iff_ne.2 (by omega)
    go_wp2_with fail
    go_ret2
    exact ⟨A, c, l, B, d, js, rfl, ⟨hO4, hJ4, hl5, by omega, hr4.below⟩⟩
  · have hx : x = 0 ∨ x = 1 ∨ x = 2 := by omega
    clear hx0 hx3
    rcases hx with rfl | rfl | rfl
    · go_wp2_with fail
      refine (spec_num w _ _ _ _ [0, 5, -1] _ (hr4.grow (bal (Below.refl _ _) _)) (by omega) (IS_lit _ _ _ _ _ rfl rfl) (by simp) (by simp) (by rintro a ⟨⟩; have := hr4.lt; simp; omega)).mono ?_
      rintro e w5 ⟨n5, _, rfl, hr5, hg5⟩
      have hO5 := OT_only (OT_alloc hO4 _) (hr4.grow (bal (Below.refl _ _) _)) hg5
      have hJ5 := OJ_only (OJ_alloc hJ4 _) (hr4.grow (bal (Below.refl _ _) _)) hg5
      clear hg5 hO4 hJ4
      go_wp2_with fail
      refine (spec_num w _ _ _ _ [50, 0, 201] _ (hr5.grow (bal (Below.refl _ _) _)) (by omega) (IS_lit _ _ _ _ _ rfl rfl) (by simp) (by simp) (by rintro a ⟨⟩; have := hr5.lt; simp; omega)).mono ?_
      rintro e w6 ⟨n6, _, rfl, hr6, hg6⟩
      have hO6 := OT_only (OT_alloc hO5 _) (hr5.grow (bal (Below.refl _ _) _)) hg6
      have hJ6 := OJ_only (OJ_alloc hJ5 _) (hr5.grow (bal (Below.refl _ _) _)) hg6
      clear hg6 hO5 hJ5
      go_wp2_with fail
      refine (spec_num w _ _ _ _ [1, 0, 21] _ (hr6.grow (bal (Below.refl _ _) _)) (by omega) (IS_lit _ _ _ _ _ rfl rfl) (by simp) (by simp) (by rintro a ⟨⟩; have := hr6.lt; simp; omega)).mono ?_
      rintro e w7 ⟨n7, _, rfl, hr7, hg7⟩
      have hO7 := OT_only (OT_alloc hO6 _) (hr6.grow (bal (Below.refl _ _) _)) hg7
      have hJ7 := OJ_only (OJ_alloc hJ6 _) (hr6.grow (bal (Below.refl _ _) _)) hg7
      clear hg7 hO6 hJ6
      have hA := heap_alloc_new w7 (.cells #[.int .i64 n5, .int .i64 n6, .int .i64 n7] 60 (0, 0))
      have hW7 := hr7.below.size
      go_wp2_with (at_builtin; refine wpList_app_job _ rfl _ _ rfl w.heap.size B js js.length d rfl rfl (OJ_alloc hJ7 _) w7.heap.size 1 ⟨n5, n6, n7⟩ _ 60 rfl hA rfl (by omega) (by simp; omega) ?_; intro A3 c3 w8 o3 g3 b3)
      go_ret2
      exact ⟨A, c, l, A3, c3, js ++ [⟨n5, n6, n7⟩], by simp, ⟨OT_pastJ (OT_alloc hO7 _) (OJ_alloc hJ7 _) g3, o3, hl5, by simp; omega, (bal hr7.below _).trans b3⟩⟩
    · rcases Nat.eq_zero_or_pos js.length with h0 | h0
      · go_wp2_with fail
        go_ret2
        exact ⟨A, c, l, B, d, js, by rw [h0]; rfl, ⟨hO4, hJ4, hl5, by omega, hr4.below⟩⟩
      · have e0 : decide ((0 : Int) < (js.length : Int)) = true := decide_eq_true (by omega)
        go_wp2_with fail
        refine (spec_pick w _ _ _ _ hr4 (by omega)).mono ?_
        rintro e w5 ⟨y, rfl, hy0, hy1, _, hr5, hg5⟩
        have hy1 := hy1 (by omega)
        have hO5 := OT_only hO4 hr4 hg5
        have hJ5 := OJ_only hJ4 hr4 hg5
        clear hg5 hO4 hJ4 hr4
        obtain ⟨k, rfl⟩ : ∃ k : Nat, y = (k : Int) := ⟨y.toNat, by omega⟩
        have hkl : k < js.length := by omega
        go_wp2_with fail
        refine (spec_num w _ _ _ _ [0, 20, 1] _ (hr5.grow (bal (Below.refl _ _) _)) (by omega) (IS_lit _ _ _ _ _ rfl rfl) (by simp) (by simp) (by rintro a ⟨⟩; have := hr5.lt; simp; omega)).mono ?_
        rintro e w6 ⟨n6, _, rfl, hr6, hg6⟩
        have hO6 := OT_only (OT_alloc hO5 _) (hr5.grow (bal (Below.refl _ _) _)) hg6
        have hJ6 := OJ_only (OJ_alloc hJ5 _) (hr5.grow (bal (Below.refl _ _) _)) hg6
        clear hg6 hO5 hJ5
        obtain ⟨jb, rfl, hjb, hjl⟩ := OJ_addr hJ6 h0
        obtain ⟨⟨u0, k0⟩, kf⟩ := OJ_fz hJ6 k hkl
        go_wp2_with fail
        go_ret2
        obtain ⟨cs, hbk⟩ := OJ_blkC hJ6
        obtain ⟨hJ7, hg7⟩ := OJ_field hJ6 k 2 hkl (by omega) (.int .i64 n6) ⟨js[k].task, js[k].at_, n6⟩ rfl
        exact ⟨A, c, l, _, d, js.set k ⟨js[k].task, js[k].at_, n6⟩, by rw [List.length_set]; rfl, ⟨own_only hO6 hg7 hbk (by decide), hJ7, hl5, by rw [List.length_set]; omega, hr6.below.trans (own_below hJ6 hg7 hr6.below.size)⟩⟩
    · rcases Nat.eq_zero_or_pos l.length with h0 | h0
      · go_wp2_with fail
        go_ret2
        exact ⟨A, c, l, B, d, js, by rw [h0]; rfl, ⟨hO4, hJ4, hl5, by omega, hr4.below⟩⟩
      · have e0 : decide ((0 : Int) < (l.length : Int)) = true := decide_eq_true (by omega)
        go_wp2_with fail
        refine (spec_pick w _ _ _ _ hr4 (by omega)).mono ?_
        rintro e w5 ⟨y, rfl, hy0, hy1, _, hr5, hg5⟩
        have hy1 := hy1 (by omega)
        have hO5 := OT_only hO4 hr4 hg5
        have hJ5 := OJ_only hJ4 hr4 hg5
        clear hg5 hO4 hJ4 hr4
        obtain ⟨k, rfl⟩ : ∃ k : Nat, y = (k : Int) := ⟨y.toNat, by omega⟩
        have hkl : k < l.length := by omega
        obtain ⟨b, rfl, hbw, hbl⟩ := OT_addr hO5 h0
        obtain ⟨k0, k1, k2, k3, k4, kf⟩ := OT_cells hO5 k hkl
        go_wp2_with fail
        refine (spec_l1Wrong w _ _ _ l[k] (hsm _ (List.getElem_mem hkl)) hr5 (by omega)).mono ?_
        rintro e w9 ⟨t9, q9, rfl, hs9, hq9, hr9, hg9⟩
        have hO9 := OT_only hO5 hr5 hg9
        have hJ9 := OJ_only hJ5 hr5 hg9
        clear hg9 k0 k1 k2 k3 k4 kf
        go_wp2_with fail
        refine (spec_l1Wrong w _ _ _ t9 hs9 hr9 (by omega)).mono ?_
        rintro e w10 ⟨t10, q10, rfl, hs10, hq10, hr10, hg10⟩
        have hO10 := OT_only hO9 hr9 hg10
        have hJ10 := OJ_only hJ9 hr9 hg10
        clear hg10 hO9 hJ9 hr9
        obtain ⟨k0, k1, k2, k3, k4, kf⟩ := OT_cells hO10 k hkl
        go_wp2_with fail
        go_ret2
        obtain ⟨cs, hbk⟩ := OT_blkC hO10
        have hO11 := OT_whole hO10 k hkl t10
        have hg11 := gb_set5row (w := w10) (b := b) (i0 := k * 5) (i1 := k * 5 + 1) (i2 := k * 5 + 2) (i3 := k * 5 + 3) (i4 := k * 5 + 4) (.int .i64 t10.low) (.int .i64 t10.high) (.int .i64 t10.due) (.int .i64 t10.every) (.bool t10.crit)
        exact ⟨_, c, l.set k t10, B, d, js, by rw [List.length_set]; rfl, ⟨hO11, own_only hJ10 hg11 hbk (by decide), by rw [List.length_set]; exact hl5, by omega, hr10.below.trans (own_below hO10 hg11 hr10.below.size)⟩⟩
theorem spec_DrawJobsValid (A0 : Option Addr) (code : List Int) (c0 : Nat) (w : World) (h : BS w A0 code) (hl : code.length ≤ maxLen) (hlc : code.length ≤ c0) :
    Calls Tryz.prog 20 #[.slice A0 code.length c0] w (JCasePost w) := by
  go_enter Tryz.func20, Tryz.ntmps20
  go_wp2_with fail
  refine (spec_l6Case A0 code c0 w h hl hlc).mono ?_
  rintro e w1 ⟨A, c, l, B, d, js, rfl, hk⟩
  go_wp2_with fail
  go_ret2
  exact ⟨A, c, l, B, d, js, rfl, hk⟩

/-! ParseJobs of texts that FormatJobs has made; the word jobs. -/

/-- A job in the making, in block g. -/
structure Bj (w : World) (g : Nat) (wx : World) (t : Jb) : Prop where
  t : wx.heap[g]? = some (.cells #[.int .i64 t.task, .int .i64 t.at_, .int .i64 t.need] 60 (0, 0))
  b : Below w.heap.size w wx
  lt : w.heap.size ≤ g
theorem Bj.keep {w wx wy : World} {g : Nat} {t : Jb} (h : Bj w g wx t) (hb : Below wx.heap.size wx wy) : Bj w g wy t :=
  ⟨(hb.block g (Array.getElem?_eq_some_iff.1 h.t).1).trans h.t, bthru h.b hb, h.lt⟩
theorem Bj.st {w wx : World} {g : Nat} {t t' : Jb} (h : Bj w g wx t) (i : Nat) (v : Value) (e : (#[.int .i64 t.task, .int .i64 t.at_, .int .i64 t.need] : Array Value).setIfInBounds i v = #[.int .i64 t'.task, .int .i64 t'.at_, .int .i64 t'.need]) : Bj w g (wx.setCell ⟨g, i, none⟩ v) t' :=
  ⟨by rw [blk_set h.t v, e], h.b.setCell (p := ⟨g, i, none⟩) h.lt v, h.lt⟩
theorem Bj.cells {w wx : World} {g : Nat} {t : Jb} (h : Bj w g wx t) : wx.cell? ⟨g, 0, none⟩ = some (.int .i64 t.task) ∧ wx.cell? ⟨g, 1, none⟩ = some (.int .i64 t.at_) ∧ wx.cell? ⟨g, 2, none⟩ = some (.int .i64 t.need) ∧ ∀ i, wx.frozen? ⟨g, i, none⟩ = false :=
  ⟨(blk3 h.t).1, (blk3 h.t).2.1, (blk3 h.t).2.2, fun i => Lib.frozen_of_heap h.t i⟩

set_option maxHeartbeats 4000000 in
set_option maxRecDepth 100000 in
theorem impl_ParseJobs (js : List Jb) (ht : toldB js = true) (w : World) (hM : Mx w.heap.size w) :
    Calls Tryz.prog 133 #[.string ⟨(fmtJobs js).toArray⟩] w (RetJB w js true) := by
  obtain ⟨hl60, hall⟩ := told_all ht
  have hf : fmtJobs js = jobsT js := by simp [fmtJobs, ht]
  have hsl := fmtJobs_le js
  have HFm := Lib.hid hf
  have HT := Lib.hid ht
  rw [hf] at hsl ⊢
  clear ht
  by_cases h0 : js = []
  · subst h0
    go_enter Tryz.func133, Tryz.ntmps133
    go_wp2_with fail
    go_ret2
    exact ⟨_, 0, rfl, OJ_blank w _ (Nat.le_refl _), bal (Below.refl _ _) _⟩
  · have hp := jobsT_pieces h0
    have hne := jobsT_ne h0
    obtain ⟨F, hF⟩ : ∃ F, jobsT js = F := ⟨_, rfl⟩
    rw [hF] at hp hne hsl hf ⊢
    have HFm := Lib.hid hf
    have hFn : F.isEmpty = false := by simpa using hne
    have HA := Lib.hid hall
    clear hall hF hf hne
    go_enter Tryz.func133, Tryz.ntmps133
    go_wp2_with fail
    refine (split_is F 32 [] _ hp (hM.keep (bal (Below.refl _ _) _)) (by omega)).mono ?_
    rintro e w1 ⟨rfl, rfl⟩
    rw [List.length_map]
    have hP0 := heap_alloc_new (w.alloc (.cells #[] 60)) (.cells ((js.map jobT).map (fun x => Value.string ⟨x.toArray⟩)).toArray 9 (0, 0))
    have hsz0 : (w.alloc (.cells #[] 60)).heap.size = w.heap.size + 1 := by simp
    go_wp2_with fail
    go_loopw [4, 21] (fun v i wr => ∃ (k bo c' : Nat), i = .int .i64 (k : Int) ∧ v = .slice (some ⟨bo, 0, none⟩) k c' ∧ k ≤ js.length ∧ OJ w.heap.size wr (some ⟨bo, 0, none⟩) c' (js.take k) ∧ Hid (wr.heap[w.heap.size + 1]? = some (.cells ((js.map jobT).map (fun x => Value.string ⟨x.toArray⟩)).toArray 9 (0, 0))) ∧ Below w.heap.size w wr) (fun _ i _ => js.length - (intOf i).toNat)
    case atStart => exact ⟨0, _, 0, rfl, rfl, by omega, OJ_alloc (OJ_blank w _ (Nat.le_refl _)) _, by rw [hsz0] at hP0; simpa [Hid] using hP0, bal (bal (Below.refl _ _) _) _⟩
    case round =>
      obtain ⟨k, bo, c', rfl, rfl, hk, hO, hP, hb⟩ := hrel
      clear hP0
      by_cases hlt : k < js.length
      · have hx := flat_row hP.out k (by simpa using hlt)
        have hvt := HA.out js[k] (List.getElem_mem hlt)
        simp only [List.getElem_map] at hx
        have hnx0 : js.take k ++ [js[k]] = js.take (k + 1) := by rw [List.take_succ_eq_append_getElem hlt]
        generalize js[k] = t at hx hvt hnx0
        have hnx := Lib.hid hnx0
        have hkl : Hid ((js.take k).length = k) := by rw [Hid, List.length_take]; omega
        have hC1 := jobT_cut t
        have hC2 := jobT_cut2 t
        have hL := jobT_len hvt
        rw [toldJ_iff] at hvt
        obtain ⟨q, a, n⟩ := t
        dsimp only at *
        have hL2 : (num a ++ (58 :: []) ++ num n).length ≤ 100 := by
          have h2 := num_len a (by omega)
          have h3 := num_len n (by omega)
          simp
          omega
        generalize num a ++ (58 :: []) ++ num n = R at hC1 hC2 hL2
        generalize jobT ⟨q, a, n⟩ = X at hx hC1 hL
        have HC1 := Lib.hid hC1
        have HC2 := Lib.hid hC2
        clear hnx0 hC1 hC2
        go_wp2_with fail
        refine (cut_is HC1.out ((hM.keep hb).up hb.size) (by omega)).mono ?_
        rintro e w2 ⟨rfl, b2⟩
        go_wp2_with fail
        refine (cut_is HC2.out ((hM.keep (bthru hb b2)).up (bthru hb b2).size) (by omega)).mono ?_
        rintro e w3 ⟨rfl, b3⟩
        have hO3 := OJ_keep hO (bthru b2 b3)
        have B3 := bthru hb (bthru b2 b3)
        have hP3 := Lib.hid (((bthru b2 b3).block _ (Array.getElem?_eq_some_iff.1 hP.out).1).trans hP.out)
        clear hO hP hx b2 b3
        have X : Bj w3 w3.heap.size (w3.alloc (.cells #[.int .i64 0, .int .i64 0, .int .i64 0] 60 (0, 0))) ⟨0, 0, 0⟩ := ⟨heap_alloc_new _ _, bal (Below.refl _ _) _, Nat.le_refl _⟩
        go_upto_region 10 with fail
        generalize w3.heap.size = g at X ⊢
        generalize World.alloc w3 _ = v0 at X ⊢
        go_wp2_with fail
        refine (atoi_is q (by omega) (by omega) _).mono ?_
        rintro e v1 ⟨rfl, bv1⟩
        replace X := X.keep bv1
        clear bv1
        obtain ⟨t0, t1, t2, tf⟩ := X.cells
        go_upto_region 11 with fail
        replace X := X.st (t' := ⟨q, 0, 0⟩) 0 (.int .i64 q) rfl
        clear t0 t1 t2 tf
        generalize World.setCell v1 _ _ = v2 at X ⊢
        go_wp2_with fail
        refine (atoi_is a (by omega) (by omega) _).mono ?_
        rintro e v3 ⟨rfl, bv3⟩
        replace X := X.keep bv3
        clear bv3
        obtain ⟨t0, t1, t2, tf⟩ := X.cells
        go_upto_region 12 with fail
        replace X := X.st (t' := ⟨q, a, 0⟩) 1 (.int .i64 a) rfl
        clear t0 t1 t2 tf
        generalize World.setCell v3 _ _ = v4 at X ⊢
        go_wp2_with fail
        refine (atoi_is n (by omega) (by omega) _).mono ?_
        rintro e v5 ⟨rfl, bv5⟩
        replace X := X.keep bv5
        clear bv5
        obtain ⟨t0, t1, t2, tf⟩ := X.cells
        go_upto_region 13 with fail
        replace X := X.st (t' := ⟨q, a, n⟩) 2 (.int .i64 n) rfl
        clear t0 t1 t2 tf
        generalize World.setCell v5 _ _ = v6 at X ⊢
        obtain ⟨t0, t1, t2, tf⟩ := X.cells
        have hO4 := OJ_keep hO3 X.b
        have B4 := bthru B3 X.b
        have hP4 := Lib.hid ((X.b.block _ (Array.getElem?_eq_some_iff.1 hP3.out).1).trans hP3.out)
        clear hO3 hP3
        go_wp2_with (at_builtin; go_loud (refine wpList_app_job _ rfl _ _ rfl w.heap.size (some ⟨bo, 0, none⟩) (js.take k) k c' hkl.out rfl (OJ_alloc hO4 _) v6.heap.size 1 ⟨q, a, n⟩ _ 60 rfl (heap_alloc_new v6 _) rfl (by rw [hkl.out]; omega) (by have := B4.size; simp; omega) ?_); intro A3 c3 w9 o3 g3 b3)
        have hP9 := Lib.hid (row_kept ((Below.heap_alloc v6 (.cells #[.int .i64 q, .int .i64 a, .int .i64 n] 60 (0, 0)) _ (Array.getElem?_eq_some_iff.1 hP4.out).1).trans hP4.out) g3 (own_ne (OJ_alloc hO4 _) ((Below.heap_alloc v6 (.cells #[.int .i64 q, .int .i64 a, .int .i64 n] 60 (0, 0)) _ (Array.getElem?_eq_some_iff.1 hP4.out).1).trans hP4.out) (by decide)))
        obtain ⟨b4, rfl, _, _⟩ := OJ_addr o3 (by simp)
        rw [hnx.out] at o3
        go_roundw
        case rel => exact ⟨k + 1, b4, c3, by go_num, rfl, by omega, o3, hP9, (bal B4 _).trans b3⟩
        case measure => simp [intOf]; omega
      · obtain rfl : k = js.length := by omega
        rw [List.take_length] at hO
        go_wp2_with fail
        refine (impl_FormatJobs (some ⟨bo, 0, none⟩) js c' _ hO.js HT.out (hM.keep hb) hb.size).mono ?_
        rw [HFm.out]
        rintro e w8 ⟨rfl, b8⟩
        go_wp2_with fail
        go_ret2
        exact ⟨_, c', rfl, OJ_keep hO b8, bthru hb b8⟩
set_option maxHeartbeats 4000000 in
set_option maxRecDepth 100000 in
theorem text_jobs (js : List Jb) (s : St) (hV : jobsV s.l js = true) (ho : s.out.length ≤ 700000) : TextIs [106, 111, 98, 115] (fmtJobs js) s ⟨s.l, js.length, flatJ js, s.pol, s.out ++ ([111, 107] ++ [10])⟩ := by
  intro B b w hM D hBw
  have D0 := D
  have ht := jobsV_told hV
  have hl60 := (told_all ht).1
  go_enter Tryz.func78, Tryz.ntmps78
  go_wp2_with fail
  refine (impl_ParseJobs js ht _ (hM.up hBw)).mono ?_
  rintro e w1 ⟨A1, c1', rfl, o1, b1⟩
  have D1 := D.keep b1
  have F1 := (Frm.refl B b w).thru hBw b1
  obtain ⟨A, c, jv, c0, c1, c2, f0, f1, f2, hO, hlc⟩ := D1.cells
  go_wp2_with fail
  refine (impl_JobsValid A s.l c A1 js c1' _ hO.ts o1.js (own_size o1).1 (by unfold maxLen; omega)).mono ?_
  rw [hV]
  rintro e w2 ⟨rfl, b2⟩
  have D2 := D1.keep b2
  have F2 := F1.thru hBw b2
  have o2 := OJ_keep o1 b2
  go_wp2_with fail
  refine (desk_setJobs D2 A1 js c1' (own_base o2 hBw) (by omega) (Nat.le_trans hBw (bthru b1 b2).size)).mono ?_
  rintro e w3 ⟨rfl, D3, F3⟩
  go_wp2_with fail
  go_ret
  exact ⟨rfl, D3, F2.trans F3⟩

set_option maxHeartbeats 4000000 in
set_option maxRecDepth 100000 in
theorem law_FnScriptShow (A0 : Option Addr) (code : List Int) (c0 : Nat) (w : World) (h : BS w A0 code) (hl : code.length ≤ maxLen) (hlc : code.length ≤ c0) (hM : Mx w.heap.size w) :
    Calls Tryz.prog 6 #[.slice A0 code.length c0] w fun e w' => e = .returned (.bool true) ∧ Below w.heap.size w w' := by
  have hl' := hl
  unfold maxLen at hl'
  by_cases h1 : code.length ≤ 1048576
  case neg =>
    go_enter Tryz.func6, Tryz.ntmps6
    go_wp2_with fail
    go_ret
    exact ⟨rfl, Below.refl _ _⟩
  go_enter Tryz.func6, Tryz.ntmps6
  go_wp2_with fail
  refine (spec_DrawJobsValid A0 code c0 w h hl hlc).mono ?_
  rintro e w1 ⟨A, c, l, B, d, js, rfl, ⟨hO, hJ, hl5, hj61, hb⟩⟩
  have hlm : l.length ≤ maxLen := by unfold maxLen; omega
  have hjm : js.length ≤ maxLen := by unfold maxLen; omega
  have hjd := (own_size hJ).1
  go_wp2_with fail
  refine (impl_JobsValid A l c B js d _ hO.ts hJ.js hjd hjm).mono ?_
  rintro e w2 ⟨rfl, b2⟩
  have hO2 := OT_keep hO b2
  have hJ2 := OJ_keep hJ b2
  go_wp2_with fail
  refine (spec_JobsValid A l c B js d _ hO2.ts hJ2.js hlm hjm).mono ?_
  rintro e w3 ⟨rfl, b3⟩
  have hO3 := OT_keep hO2 b3
  have hJ3 := OJ_keep hJ2 b3
  have B3 := bthru b2 b3
  cases hV : jobsV l js with
  | false =>
    go_wp2_with fail
    refine (spec_JobsValid A l c B js d _ hO3.ts hJ3.js hlm hjm).mono ?_
    rw [hV]
    rintro e w4 ⟨rfl, b4⟩
    go_wp2_with fail
    go_ret
    exact ⟨rfl, bthru hb (bthru B3 b4)⟩
  | true =>
    have hS : setVld l = true := by
      simp only [jobsV, Bool.and_eq_true] at hV
      exact hV.1.1
    have ht := jobsV_told hV
    have hT := text_tasks l hS
    have hTJ := text_jobs js ⟨l, 0, [], 0, St0.out ++ (fmtSet l ++ [10])⟩ hV (by have := fmtSet_le l; simp [St0] <;> omega)
    have hW := plain_showJ ⟨l, js.length, flatJ js, 0, St0.out ++ (fmtSet l ++ [10]) ++ ([111, 107] ++ [10])⟩ js rfl rfl ht (by have := fmtSet_le l; simp [St0] <;> omega)
    obtain ⟨F, hF⟩ : ∃ F, fmtSet l = F := ⟨_, rfl⟩
    have HFl : F.length ≤ 510 := by rw [← hF]; exact fmtSet_le _
    have HF10 : (10 : UInt8) ∉ F := by rw [← hF]; exact fmtSet_no _
    have HF := Lib.hid hF
    obtain ⟨P, hP⟩ : ∃ P, fmtJobs js = P := ⟨_, rfl⟩
    have hPl : P.length ≤ 3960 := by rw [← hP]; exact fmtJobs_le js
    have HP10 : (10 : UInt8) ∉ P := by rw [← hP]; exact fmtJobs_no _
    have HP := Lib.hid hP
    dsimp only at hW hTJ
    rw [hF] at hT hTJ hW
    rw [hP] at hTJ hW
    have Ht := Lib.hid ht
    have HW := Lib.hid hW
    have HTJ := Lib.hid hTJ
    clear hF hP hS ht hW hTJ hV
    go_wp2_with fail
    refine (impl_FormatSet A l c _ hO3.ts).mono ?_
    rw [HF.out]
    rintro e w4 ⟨rfl, b4⟩
    have B4 := bthru B3 b4
    have hJ4 := OJ_keep hJ3 b4
    go_wp2_with fail
    refine (impl_FormatJobs B js d _ hJ4.js Ht.out (hM.keep (bthru hb B4)) (Below.size (bthru hb B4))).mono ?_
    rw [HP.out]
    rintro e w5 ⟨rfl, b5⟩
    have B5 := bthru B4 b5
    have hp : pieces [10] (([116, 97, 115, 107, 115, 32] ++ F) ++ [10] ++ (([106, 111, 98, 115, 32] ++ P) ++ [10] ++ (([115, 104, 111, 119]) ++ [10] ++ ([])))) = [[116, 97, 115, 107, 115, 32] ++ F, [106, 111, 98, 115, 32] ++ P, [115, 104, 111, 119], []] := by
      rw [pieces_app 10 [] _ _ (by simp [HF10]), pieces_app 10 [] _ _ (by simp [HP10]), pieces_app 10 [] _ _ (by decide), pieces_no 10 [] [] (by simp)]
    have hC : Chain [[116, 97, 115, 107, 115, 32] ++ F, [106, 111, 98, 115, 32] ++ P, [115, 104, 111, 119], []] St0 ⟨l, js.length, flatJ js, 0, St0.out ++ (F ++ [10]) ++ ([111, 107] ++ [10]) ++ (F ++ [10]) ++ (P ++ [10])⟩ := by
      refine .step (by simp) (by simp [St0] <;> omega) (do_text (x := [116, 97, 115, 107, 115]) (by decide) (by simp <;> omega) (hT _ (by simp [St0] <;> omega))) ?_
      refine .step (by simp) (by simp [St0] <;> omega) (do_text (x := [106, 111, 98, 115]) (by decide) (by simp <;> omega) HTJ.out) ?_
      refine .step (by simp) (by simp [St0] <;> omega) (do_plain (by decide) (by simp) (HW.out)) ?_
      exact .skip (.nil _)
    go_wp2_with fail
    refine (impl_RunScript _ _ (((((ByteArray.mk F.toArray ++ ByteArray.mk #[10, 111, 107, 10]) ++ ByteArray.mk F.toArray) ++ ByteArray.mk #[10]) ++ ByteArray.mk P.toArray) ++ ByteArray.mk #[10]) ?hT _ hp _ ?hR _ (by simp <;> omega) (by simp) hC (by simp) ((hM.keep (bthru hb B5)).up (Below.size (bthru hb B5)))).mono ?_
    case hT => simp only [mk_app]; simp
    case hR => simp only [mk_app]; simp [St0]
    rintro e w7 ⟨rfl, b7⟩
    go_wp2_with fail
    go_ret
    exact ⟨rfl, bthru hb (bthru B5 b7)⟩

open Go.ChangeShapes Go.WideShapes Go.ChangeAt Go.WideElems Go.Deep

set_option maxRecDepth 100000 in
set_option maxHeartbeats 4000000 in
theorem FnScriptShow_lifted (os : Os) (started : os.Started) (H : Type) (enc : TypeId × Value → H) :
    ReturnsInHanded {} Tryz.checked os 6 .any (fun w args => (Rows.fnScriptShowSpec.pre enc Tryz.prog Tryz.f6 [] false w args ∧ laidMetH Tryz.prog Rows.fnScriptShowRow.laid w) ∧ sizedMet enc Tryz.prog Tryz.f6 (OpenSpec.ofChange Rows.fnScriptShowSpec) false w args) (Rows.fnScriptShowSpec.post enc Tryz.prog Tryz.f6 false true false false) := by
  refine returns_row (C := Tryz.checked) (X := fun w _ => laidMetH Tryz.prog Rows.fnScriptShowRow.laid w) (fun _ _ _ hh h => h.of_heap hh) own started (by as_aux_lemma => kernel_rfl) Tryz.func6
    (ChangeSpec.witness_shaped (enc := enc) (C := Tryz.checked) (os := os) (X := fun w _ => laidMetH Tryz.prog Rows.fnScriptShowRow.laid w) false (World.laidAll Tryz.prog os Rows.fnScriptShowRow.laid) #[.slice none 0 0] 8 (World.laidAll_os _ _ _) (shapedS os) (by as_aux_lemma => kernel_rfl) (by as_aux_lemma => kernel_rfl) (by as_aux_lemma => kernel_rfl) (metS os _)) ?_
  intro W base args ds gs before hval0 hW hL hsh
  have hM : Mx W.heap.size W := mx_of hL hsh (by as_aux_lemma => rfl)
  have hval : ∀ (j : Nat) t v, Tryz.f6.params[j]? = some t → args[j]? = some v → Value.okWide Tryz.prog W .any base t v := hval0
  have hW' := hW
  obtain ⟨p, q, hA0, hV, rfl, _, _⟩ := hW
  have hA : DataW.TrodAll enc Tryz.prog W 0 (fun _ => true) true Tryz.f6.params.toList args.toList ds p := hA0
  rw [Tryz.params6] at hA hval
  obtain ⟨v0, d0, rfl, rfl, h0⟩ := trodAll_one hA
  obtain ⟨rfl, rfl⟩ := trodVars_none hV
  clear hA0 hval0
  simp only [List.append_nil] at hW'
  have hlt : ∀ x ∈ p, x.block < W.heap.size := fun x hx => hW'.lt x (by simpa using hx)
  have hargs : ∀ W', Below W.heap.size W W' → DataW.TrodAll enc Tryz.prog W' 0 (fun b => decide (b < W.heap.size)) true [22] [v0] [d0] (p) := fun W' hb =>
    trodAll_mk1 (Below.trod laidOut (by as_aux_lemma => kernel_rfl) (of_decide_eq_true (by as_aux_lemma => kernel_rfl)) h0 hb (fun x hx => hlt x (by simp [hx])))
  obtain ⟨A0, l0, c0, rfl, hlc0, hlm0, hlw0, hl0⟩ := open_kind Tryz.underlying22 Tryz.underlying5 (by as_aux_lemma => kernel_rfl) (okWide_slice Tryz.underlying22 (hval 0 _ v0 rfl rfl)) h0
  refine (law_FnScriptShow A0 l0 c0 W ⟨fun x hx => byte_wf (hlw0 x hx), hl0⟩ hlm0 hlc0 hM).mono fun e W' ⟨he, hb⟩ => ?_
  subst he
  exact ⟨_, rfl, ⟨_, _, _, [], _, [], hW', trodAll_mk1 (shut_bool Tryz.underlying4 _), hargs W' hb, rfl, hb.frame _, fun h => by cases h⟩⟩

set_option maxHeartbeats 4000000 in
theorem FnScriptShow_joined : joinedFacts Tryz.prog 6 Tryz.f6 Rows.fnScriptShowSpec Rows.fnScriptShowRow = true :=
  joined_mk (by as_aux_lemma => kernel_rfl) laidOut mapsRowed_ok (by as_aux_lemma => kernel_rfl) (by as_aux_lemma => kernel_rfl) (by as_aux_lemma => kernel_rfl) stops_ok (by as_aux_lemma => kernel_rfl) knobs_ok (by as_aux_lemma => kernel_rfl) (by as_aux_lemma => kernel_rfl) (by as_aux_lemma => kernel_rfl) (by as_aux_lemma => kernel_rfl) (by as_aux_lemma => kernel_rfl) (by as_aux_lemma => kernel_rfl) (by as_aux_lemma => kernel_rfl) (by as_aux_lemma => kernel_rfl) (by as_aux_lemma => kernel_rfl) (by as_aux_lemma => kernel_rfl) (by as_aux_lemma => kernel_rfl) (by as_aux_lemma => kernel_rfl) (by as_aux_lemma => kernel_rfl) (by rw [keys_ok]; rfl) (by as_aux_lemma => kernel_rfl) heard_ok enter_ok (by rw [lifts_ok]; rfl) (by rw [make_ok]; rfl) (by as_aux_lemma => kernel_rfl) (by as_aux_lemma => kernel_rfl) (by as_aux_lemma => kernel_rfl) (by as_aux_lemma => kernel_rfl)

theorem FnScriptShow_holds : Rows.FnScriptShowSaid :=
  OpenClaim.holds_of_wide 6 Tryz.f6 rfl rfl rfl rfl rfl rfl rfl ⟨rfl, rfl, rfl, rfl, rfl⟩ rfl rfl rfl rfl rfl (by as_aux_lemma => kernel_rfl) Tryz.func6 FnScriptShow_joined
    (of_decide_eq_true (by as_aux_lemma => kernel_rfl)) (by unfold Func.isWrapper; rw [if_neg (by decide +kernel)]; exact ⟨rfl, rfl⟩)
    (fun os started H enc _ => FnScriptShow_lifted os started H enc)

set_option maxHeartbeats 4000000 in
theorem FnScriptShow_card : Rows.FnScriptShowCardSaid :=
  Claim7.holds_tied_plain_at .later [] [.data, .data, .data, .data, .sentinel, .sentinel, .pinned] true (true, "74102130d830dfba4418ea06ae63a0b6dcec1dcf8107afcd9dc9897d072acdcc") true
    FnScriptShow_holds (fun _ h => by cases h) (by as_aux_lemma => kernel_rfl) (fun _ h => by cases h) fnScriptShow_row_tie rfl ⟨rfl, rfl⟩ (by as_aux_lemma => kernel_rfl) rfl
    (fun f fn hf hfn => by
      obtain rfl : f = 6 := Option.some.inj ((show Tryz.prog.funcNamed "loop.example/dualmodes/laws.FnScriptShow" = some 6 by as_aux_lemma => kernel_rfl).symm.trans hf) |>.symm
      obtain rfl : fn = Tryz.f6 := (Option.some.inj (Tryz.func6.symm.trans hfn)).symm
      exact ⟨looksS, fun j t ht => by
        rw [Tryz.params6] at ht
        have hm : t ∈ [22] := by simpa using Array.mem_of_getElem? ht
        have hall : ([22].all fun u => !Tryz.prog.wantsStandIn u) = true := by as_aux_lemma => kernel_rfl
        exact (show Tryz.prog.wantsStandIn t = false by simpa using List.all_eq_true.1 hall t hm)⟩)
    (by as_aux_lemma => kernel_rfl)
#print axioms FnScriptShow_card
end Go.Proofs.YtmkjmancmiphfaaGreatDoor
