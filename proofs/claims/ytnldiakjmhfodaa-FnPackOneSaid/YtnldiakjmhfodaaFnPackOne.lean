/-
  FnPackOne returns true for every code.
-/
import Derived.Test.YtnldiakjmhfodaaPackAI
import Derived.Test.YtnldiakjmhfodaaPackAS
import Derived.Test.YtnldiakjmhfodaaOpen
import Derived.Test.YtnldiakjmhfodaaDrawCase
import Derived.Test.YtnldiakjmhfodaaDm
import Derived.Test.YtnldiakjmhfodaaAdmS
import Derived.Test.YtnldiakjmhfodaaWayT
namespace Go.Proofs.Ytnldiakjmhfodaa
open Go.RowKit

/-! DrawPackHolds, DrawPackFirst, DrawPackAny, DrawFewestFor. -/

theorem spec_DrawPackHolds (A0 : Option Addr) (code : List Int) (c0 : Nat) (w : World) (h : BS w A0 code) (hl : code.length ≤ maxLen) (hlc : code.length ≤ c0) :
    Calls Try.prog 42 #[.slice A0 code.length c0] w (CasePost w) := by
  go_enter Try.func42, Try.ntmps42
  go_wp2_with fail
  refine (spec_l9Case A0 code c0 w h hl hlc).mono ?_
  rintro e w1 ⟨A, c, l, B, d, ws, n, m, rfl, hk⟩
  go_wp2_with fail
  refine bodyPost_ret (results_tmp4 rfl _ _ _) rfl ?_
  exact ⟨A, c, l, B, d, ws, n, m, rfl, hk⟩
theorem spec_DrawPackFirst (A0 : Option Addr) (code : List Int) (c0 : Nat) (w : World) (h : BS w A0 code) (hl : code.length ≤ maxLen) (hlc : code.length ≤ c0) :
    Calls Try.prog 48 #[.slice A0 code.length c0] w fun e w' => ∃ A c l n m, e = .returned (.tuple #[.slice A (List.length l) c, .int .i64 n, .int .i64 m]) ∧ OT w.heap.size w' A c l ∧ l.length ≤ 5 ∧ 0 ≤ n ∧ n ≤ 4 ∧ 0 ≤ m ∧ m ≤ 2 ∧ Below w.heap.size w w' := by
  go_enter Try.func48, Try.ntmps48
  go_wp2_with fail
  refine (spec_l9Case A0 code c0 w h hl hlc).mono ?_
  rintro e w1 ⟨A, c, l, B, d, ws, n, m, rfl, hk⟩
  go_wp2_with fail
  go_ret3
  exact ⟨A, c, l, n, m, rfl, hk.tasks, hk.len, hk.n0, hk.n4, hk.m0, hk.m2, hk.below⟩
theorem spec_DrawPackAny (A0 : Option Addr) (code : List Int) (c0 : Nat) (w : World) (h : BS w A0 code) (hl : code.length ≤ maxLen) (hlc : code.length ≤ c0) :
    Calls Try.prog 69 #[.slice A0 code.length c0] w fun e w' => ∃ A c l n m, e = .returned (.tuple #[.slice A (List.length l) c, .int .i64 n, .int .i64 m]) ∧ OT w.heap.size w' A c l ∧ l.length ≤ 5 ∧ 0 ≤ n ∧ n ≤ 4 ∧ 0 ≤ m ∧ m ≤ 2 ∧ Below w.heap.size w w' := by
  go_enter Try.func69, Try.ntmps69
  go_wp2_with fail
  refine (spec_DrawPackFirst A0 code c0 w h hl hlc).mono ?_
  rintro e w1 ⟨A, c, l, n, m, rfl, hO, hl5, n0, n4, m0, m2, hb⟩
  go_wp2_with fail
  go_ret3
  exact ⟨A, c, l, n, m, rfl, hO, hl5, n0, n4, m0, m2, hb⟩
theorem spec_DrawFewestFor (A0 : Option Addr) (code : List Int) (c0 : Nat) (w : World) (h : BS w A0 code) (hl : code.length ≤ maxLen) (hlc : code.length ≤ c0) :
    Calls Try.prog 71 #[.slice A0 code.length c0] w fun e w' => ∃ A c l m, e = .returned (.tuple #[.slice A (List.length l) c, .int .i64 m]) ∧ OT w.heap.size w' A c l ∧ l.length ≤ 5 ∧ 0 ≤ m ∧ m ≤ 2 ∧ Below w.heap.size w w' := by
  go_enter Try.func71, Try.ntmps71
  go_wp2_with fail
  refine (spec_l9Case A0 code c0 w h hl hlc).mono ?_
  rintro e w1 ⟨A, c, l, B, d, ws, n, m, rfl, hk⟩
  go_wp2_with fail
  go_ret2
  exact ⟨A, c, l, m, rfl, hk.tasks, hk.len, hk.m0, hk.m2, hk.below⟩

/-! dmInts: two lists of numbers are equal. -/

theorem laws_dmInts (A B : Option Addr) (l m : List Int) (c d : Nat) (w : World) (h : IS w A l) (g : IS w B m) (hl : l.length ≤ 9223372036854775807) :
    Calls Try.prog 49 #[.slice A l.length c, .slice B m.length d] w fun e w' => e = .returned (.bool (decide (l = m))) ∧ Below w.heap.size w w' := by
  by_cases hlen : l.length = m.length
  · have hne : ((l.length : Int) != m.length) = false := by simp [hlen]
    go_enter Try.func49, Try.ntmps49
    have hlen' := Lib.hid hlen
    clear hlen
    go_wp2
    go_loopw [5] (fun i wr => ∃ k : Nat, k ≤ l.length ∧ i = .int .i64 k ∧ Hid (l.take k = m.take k) ∧ Below w.heap.size w wr) (fun i _ => l.length - (intOf i).toNat)
    case atStart => exact ⟨0, Nat.zero_le _, rfl, by simp [Hid], Below.refl _ _⟩
    case round =>
      obtain ⟨k, hk, rfl, hall, hb⟩ := hrel
      by_cases hlt : k < l.length
      · have hltm : k < m.length := by rw [← hlen'.out]; exact hlt
        obtain ⟨b, off, rfl, hbl, hc⟩ := h.keep hb (by omega)
        obtain ⟨b', off', rfl, hbl', hc'⟩ := g.keep hb (by omega)
        have c0 := hc k _ (List.getElem?_eq_getElem hlt)
        have d0 := hc' k _ (List.getElem?_eq_getElem hltm)
        clear hc hc'
        go_wp2
        go_quiet (fail)
        all_goals go_wp2
        all_goals first
          | (have hv : (l[k] != m[k]) = true := by assumption
             go_ret
             refine ⟨?_, bdr hb _⟩
             have : l ≠ m := fun e => by subst e; simp at hv
             simp [this])
          | (have hv : (l[k] != m[k]) = false := by assumption
             go_roundw
             case rel => exact ⟨k + 1, by omega, by go_num, take_eq_succ l m k hlt hltm hall.out (by simpa using hv), bdr hb _⟩
             case measure => simp [intOf]; omega)
      · go_wp2
        go_ret
        have : k = l.length := by omega
        subst this
        refine ⟨?_, hb⟩
        have e := hall.out
        rw [List.take_length, hlen'.out, List.take_length] at e
        simp [e]
  · have hne : ((l.length : Int) != m.length) = true := by simp; omega
    go_enter Try.func49, Try.ntmps49
    go_wp2
    go_ret
    refine ⟨?_, Below.refl _ _⟩
    have : l ≠ m := fun e => hlen (by rw [e])
    simp [this]

/-! What the laws on admission and packing lean on, in plain Lean. -/

theorem admL_le {l : List Tk} {t : Tk} {p : Int} (h : l.length ≤ 5) : (admL l t p).length ≤ 6 := by
  cases e : admitT l t p with
  | none => rw [(admL_none e).1]; simp
  | some x =>
    rw [(admL_some e).1]
    have := (admitT_some e).2.2.1.length_eq
    simp at this
    omega
theorem admitT_two (l : List Tk) (t : Tk) : admitT l t 2 = none := by
  simp [admitT, hldBy]
theorem admAll_both (ts : List Tk) (p : Int) : (admAll ts p).1.length ≤ ts.length ∧ (admAll ts p).2.length ≤ ts.length := by
  unfold admAll
  split
  · rename_i hk
    have hp : p = 0 ∨ p = 1 := by
      simp only [admOk, Bool.and_eq_true, polB, Bool.or_eq_true, beq_iff_eq] at hk
      exact hk.2
    have := (admGo_good (p := p) (ts := ts) (i := 0) (out := []) (ref := []) (hldBy_nil hp) rfl rfl).2.2
    omega
  · simp
theorem canB_cons {m x : Int} {ws : List Int} (h : canB m (x :: ws) = true) : x ≤ m + 1 ∧ canB (if x > m then x else m) ws = true := by
  simpa only [canB, Bool.and_eq_true, decide_eq_true_eq] using h
theorem canB_drop {m : Int} {ws : List Int} {k : Nat} (hk : k < ws.length) (h : canB m (ws.drop k) = true) : ws[k] ≤ m + 1 ∧ canB (if ws[k] > m then ws[k] else m) (ws.drop (k + 1)) = true := by
  rw [List.drop_eq_getElem_cons hk] at h
  exact canB_cons h
/-- The first number is 0, and the others go on from it. -/
theorem canB_zero {ws : List Int} (h : canB (-1) ws = true) (h0 : ∀ x ∈ ws, 0 ≤ x) (hl : 0 < ws.length) : ws[0]? = some 0 ∧ canB 0 ws = true := by
  cases ws with
  | nil => simp at hl
  | cons x r =>
    obtain ⟨h1, h2⟩ := canB_cons h
    have h3 := h0 x (by simp)
    obtain rfl : x = 0 := by omega
    refine ⟨rfl, ?_⟩
    simp only [canB, Bool.and_eq_true, decide_eq_true_eq]
    exact ⟨by omega, h2⟩
theorem ordB_drop {b a : Int} {ws : List Int} {k : Nat} (hk : k < ws.length) (h : ordB b a (ws.drop k) = true) : a ≤ ws[k] ∧ ws[k] < b ∧ ordB b (ws[k] + 1) (ws.drop (k + 1)) = true := by
  rw [List.drop_eq_getElem_cons hk] at h
  simp only [ordB, Bool.and_eq_true, decide_eq_true_eq] at h
  exact ⟨h.1.1, h.1.2, h.2⟩
theorem pkH_ints {l : List Tk} {ws : List Int} {m p : Int} (h : pkH l ws m p = true) : ws.length = l.length ∧ ∀ x ∈ ws, 0 ≤ x ∧ x < m := by
  obtain ⟨_, _, _, a, b⟩ := (packVld_iff _ _ _).1 ((pkH_iff _ _ _ _).1 h).1
  exact ⟨a, b⟩

set_option maxHeartbeats 1000000 in
set_option maxRecDepth 100000 in
theorem law_FnPackOne (A0 : Option Addr) (code : List Int) (c0 : Nat) (w : World) (h : BS w A0 code) (hl : code.length ≤ maxLen) (hlc : code.length ≤ c0) :
    Calls Try.prog 23 #[.slice A0 code.length c0] w fun e w' => e = .returned (.bool true) ∧ Below w.heap.size w w' := by
  have hl' := hl
  unfold maxLen at hl'
  by_cases h1 : code.length ≤ 1048576
  case neg =>
    go_enter Try.func23, Try.ntmps23
    go_wp2_with fail
    go_ret
    exact ⟨rfl, Below.refl _ _⟩
  go_enter Try.func23, Try.ntmps23
  go_wp2_with fail
  refine (spec_DrawPackAny A0 code c0 w h hl hlc).mono ?_
  rintro e w1 ⟨A, c, l, n, m, rfl, hO, hl5, n0, n4, m0, m2, hb⟩
  have hsz := own_size hO
  obtain ⟨hsz1, hsz2⟩ := hsz
  have hlm : l.length ≤ maxLen := by unfold maxLen; omega
  clear hsz2

  obtain ⟨ws, hws⟩ : ∃ ws, anyL l n m = ws := ⟨_, rfl⟩
  have hwl : ws.length ≤ 5 := by rw [← hws]; exact anyL_le l n m
  have HW := Lib.hid hws
  obtain ⟨ok, hok⟩ : ∃ ok, (anyP l n m).isSome = ok := ⟨_, rfl⟩
  have HK := Lib.hid hok
  clear hws hok
  go_wp2_with fail
  refine (impl_PackAny A l c n m _ hO.ts hlm hsz1).mono ?_
  rw [HW.out, HK.out]
  rintro e w2 ⟨A2, c2, rfl, o2, b2⟩
  go_wp2_with fail
  refine (spec_PackAny A l c n m _ (hO.ts.keep b2) hlm hsz1).mono ?_
  rw [HW.out, HK.out]
  rintro e w3 ⟨A3, c3, rfl, o3, b3⟩
  have o2 := OI_keep o2 b3
  have B3 := bthru b2 b3
  go_wp2_with fail
  refine (laws_dmInts A2 A3 ws ws c2 c3 _ o2.is o3.is (by omega)).mono ?_
  rintro e w4 ⟨rfl, b4⟩
  simp only [decide_true]
  have o2 := OI_keep o2 b4
  have o3 := OI_keep o3 b4
  have B4 := bthru B3 b4

  cases hS : setVld l with
  | false =>
    go_wp2_with fail
    refine (impl_SetValid A l c _ (hO.ts.keep B4)).mono ?_
    rw [hS]
    rintro e w5 ⟨rfl, b5⟩
    have o2 := OI_keep o2 b5
    have o3 := OI_keep o3 b5
    have B5 := bthru B4 b5
    go_wp2_with fail
    refine (laws_dmInts A2 A3 ws ws c2 c3 _ o2.is o3.is (by omega)).mono ?_
    rintro e w6 ⟨rfl, b6⟩
    simp only [decide_true]
    cases ok
    all_goals
      go_wp2_with fail
      go_ret
      exact ⟨rfl, bthru hb (bthru B5 b6)⟩
  | true =>
    have e := anyP_one hS m
    obtain ⟨os, hos⟩ : ∃ os, anyL l 1 m = os := ⟨_, rfl⟩
    have hz : ∀ y ∈ os, y = 0 := by
      rw [← hos, anyL, e]
      split
      · simp
      · simp
    have hsome : (anyP l 1 m).isSome = canH l m := by
      rw [e]
      split
      · rename_i h; rw [h]; rfl
      · rename_i h; simp at h; rw [h]; rfl
    have hol : os.length ≤ 5 := by rw [← hos]; exact anyL_le l 1 m
    have HS := Lib.hid hS
    have HZ := Lib.hid hz
    have Hos := Lib.hid hos
    have Hsome := Lib.hid hsome
    clear hS e hos hz hsome
    obtain ⟨cb, hcb⟩ : ∃ cb, canH l m = cb := ⟨_, rfl⟩
    have HC := Lib.hid hcb
    clear hcb
    cases ok
    all_goals
      go_wp2_with fail
      refine (impl_SetValid A l c _ (hO.ts.keep B4)).mono ?_
      rw [HS.out]
      rintro e w5 ⟨rfl, b5⟩
      have B5 := bthru B4 b5
      go_wp2_with fail
      refine (impl_PackAny A l c 1 m _ (hO.ts.keep B5) hlm hsz1).mono ?_
      rw [Hos.out, Hsome.out, HC.out]
      rintro e w6 ⟨A6, c6, rfl, o6, b6⟩
      have B6 := bthru B5 b6
      go_wp2_with fail
      go_loopw [12] (fun i wr => ∃ k : Nat, i = .int .i64 (k : Int) ∧ k ≤ os.length ∧ Below w6.heap.size w6 wr) (fun i _ => os.length - (intOf i).toNat)
      case atStart => exact ⟨0, rfl, by omega, Below.refl _ _⟩
      case round =>
        obtain ⟨k, rfl, hk, hbr⟩ := hrel
        by_cases hlt : k < os.length
        · obtain ⟨b, rfl, _, hbl⟩ := OI_addr o6 (by omega)
          obtain ⟨kc, _⟩ := OI_cell o6 k os[k] (List.getElem?_eq_getElem hlt)
          rw [HZ.out os[k] (List.getElem_mem hlt)] at kc
          have kc := (hbr.cell (p := ⟨b, k, none⟩) hbl).trans kc
          go_wp2_with fail
          go_roundw
          case rel => exact ⟨k + 1, by go_num, by omega, hbr⟩
          case measure => simp [intOf]; omega
        · have B7 := bthru B6 hbr
          go_wp2_with fail
          refine (impl_CanHold A l c m _ (hO.ts.keep B7) hlm hsz1).mono ?_
          rw [HC.out]
          rintro e w8 ⟨rfl, b8⟩
          cases cb
          all_goals
            go_wp2_with fail
            go_ret
            exact ⟨rfl, bthru hb (bthru B7 b8)⟩

open Go.ChangeShapes Go.WideShapes Go.ChangeAt Go.WideElems Go.Deep

set_option maxRecDepth 100000 in
theorem FnPackOne_lifted (os : Os) (started : os.Started) (H : Type) (enc : TypeId × Value → H) :
    ReturnsInHanded {} Try.checked os 23 .any (Rows.fnPackOneSpec.pre6 enc Try.prog Try.f23 Rows.fnPackOneRow.domain false) (Rows.fnPackOneSpec.post enc Try.prog Try.f23 false true false false) := by
  refine returnsInHanded_of_change (C := Try.checked) own started (by as_aux_lemma => kernel_rfl) Try.func23
    (ChangeSpec.witness6 (enc := enc) (C := Try.checked) false ⟨#[], #[.slice none 0 0], []⟩ 8 (by as_aux_lemma => kernel_rfl) (by as_aux_lemma => kernel_rfl) (by as_aux_lemma => kernel_rfl) (by as_aux_lemma => kernel_rfl)) ?_
  intro W base args ds gs before hval0 hW _ _
  have hval : ∀ (j : Nat) t v, Try.f23.params[j]? = some t → args[j]? = some v → Value.okWide Try.prog W .any base t v := hval0
  have hW' := hW
  obtain ⟨p, q, hA0, hV, rfl, _, _⟩ := hW
  have hA : DataW.TrodAll enc Try.prog W 0 (fun _ => true) true Try.f23.params.toList args.toList ds p := hA0
  rw [Try.params23] at hA hval
  obtain ⟨v0, d0, rfl, rfl, h0⟩ := trodAll_one hA
  obtain ⟨rfl, rfl⟩ := trodVars_none hV
  clear hA0 hval0
  simp only [List.append_nil] at hW'
  have hlt : ∀ x ∈ p, x.block < W.heap.size := fun x hx => hW'.lt x (by simpa using hx)
  have hargs : ∀ W', Below W.heap.size W W' → DataW.TrodAll enc Try.prog W' 0 (fun b => decide (b < W.heap.size)) true [41] [v0] [d0] (p) := fun W' hb =>
    trodAll_mk1 (Below.trod laidOut (by as_aux_lemma => kernel_rfl) (of_decide_eq_true (by as_aux_lemma => kernel_rfl)) h0 hb (fun x hx => hlt x (by simp [hx])))
  obtain ⟨A0, l0, c0, rfl, hlc0, hlm0, hlw0, hl0⟩ := open_kind Try.underlying41 Try.underlying5 (by as_aux_lemma => kernel_rfl) (okWide_slice Try.underlying41 (hval 0 _ v0 rfl rfl)) h0
  refine (law_FnPackOne A0 l0 c0 W ⟨fun x hx => byte_wf (hlw0 x hx), hl0⟩ hlm0 hlc0).mono fun e W' ⟨he, hb⟩ => ?_
  subst he
  exact ⟨_, rfl, ⟨_, _, _, [], _, [], hW', trodAll_mk1 (shut_bool Try.underlying4 _), hargs W' hb, rfl, hb.frame _, fun h => by cases h⟩⟩

theorem FnPackOne_joined : joinedFacts Try.prog 23 Try.f23 Rows.fnPackOneSpec Rows.fnPackOneRow = true :=
  joined_mk (by as_aux_lemma => kernel_rfl) laidOut mapsRowed_ok (by as_aux_lemma => kernel_rfl) (by as_aux_lemma => kernel_rfl) (by as_aux_lemma => kernel_rfl) stops_ok (by as_aux_lemma => kernel_rfl) knobs_ok (by as_aux_lemma => kernel_rfl) (by as_aux_lemma => kernel_rfl) (by as_aux_lemma => kernel_rfl) (by as_aux_lemma => kernel_rfl) (by as_aux_lemma => kernel_rfl) (by as_aux_lemma => kernel_rfl) (by as_aux_lemma => kernel_rfl) (by as_aux_lemma => kernel_rfl) (by as_aux_lemma => kernel_rfl) (by as_aux_lemma => kernel_rfl) (by as_aux_lemma => kernel_rfl) (by as_aux_lemma => kernel_rfl) (by as_aux_lemma => kernel_rfl) (by rw [keys_ok]; rfl) (by as_aux_lemma => kernel_rfl) heard_ok enter_ok (by rw [lifts_ok]; rfl) (by rw [make_ok]; rfl) (by as_aux_lemma => kernel_rfl) (by as_aux_lemma => kernel_rfl) (by as_aux_lemma => kernel_rfl) (by as_aux_lemma => kernel_rfl)

theorem FnPackOne_holds : Rows.FnPackOneSaid :=
  OpenClaim.holds_of_wide 23 Try.f23 rfl rfl rfl rfl rfl rfl rfl ⟨rfl, rfl, rfl, rfl, rfl⟩ rfl rfl rfl rfl rfl (by as_aux_lemma => kernel_rfl) Try.func23 FnPackOne_joined
    (of_decide_eq_true (by as_aux_lemma => kernel_rfl)) (by unfold Func.isWrapper; rw [if_neg (by decide +kernel)]; exact ⟨rfl, rfl⟩)
    (fun os started H enc _ => FnPackOne_lifted os started H enc)
#print axioms FnPackOne_holds
end Go.Proofs.Ytnldiakjmhfodaa
