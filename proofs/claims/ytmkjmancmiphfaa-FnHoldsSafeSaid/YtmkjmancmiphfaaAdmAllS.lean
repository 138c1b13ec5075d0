/-
  AdmitAll: the reference's.
-/
import Derived.Test.YtmkjmancmiphfaaAdmS
namespace Go.Proofs.Ytmkjmancmiphfaa
open Go.RowKit

def RetTIB (w : World) (l : List Tk) (r : List Int) (ok : Bool) (e : Ending) (w' : World) : Prop :=
  ∃ A c B d, e = .returned (.tuple #[.slice A l.length c, .slice B r.length d, .bool ok]) ∧ OT w.heap.size w' A c l ∧ OI w.heap.size w' B d r ∧ Below w.heap.size w w'
theorem OT_keepI {base base2 : Nat} {w w' : World} {A B : Option Addr} {c d : Nat} {l : List Tk} {r : List Int} (h : OT base w A c l) (k : OI base2 w B d r) (hg : w.grownBy w' (Value.slice B r.length d).ownBlock) : OT base w' A c l := by
  refine World.ownsRow.kept h hg ?_
  rcases h.2 with ⟨hv, _⟩ | ⟨g, cap, cur, hv, _, hh, _⟩
  · exact .inl (by rw [hv]; rfl)
  · refine .inr ?_
    rcases k.2 with ⟨kv, _⟩ | ⟨g2, cap2, cur2, kv, _, kh, _⟩
    · rw [hv, kv]; simp [Value.ownBlock]
    · rw [hv, kv]
      intro e
      have : g = g2 := by simpa [Value.ownBlock] using e
      subst this
      rw [hh] at kh
      injection kh with kh
      injection kh with _ kt _
      revert kt
      decide
theorem OI_keepT {base base2 : Nat} {w w' : World} {A B : Option Addr} {c d : Nat} {l : List Tk} {r : List Int} (h : OI base w B d r) (k : OT base2 w A c l) (hg : w.grownBy w' (Value.slice A l.length c).ownBlock) : OI base w' B d r := by
  refine World.ownsRow.kept h hg ?_
  rcases h.2 with ⟨hv, _⟩ | ⟨g, cap, cur, hv, _, hh, _⟩
  · exact .inl (by rw [hv]; rfl)
  · refine .inr ?_
    rcases k.2 with ⟨kv, _⟩ | ⟨g2, cap2, cur2, kv, _, kh, _⟩
    · rw [hv, kv]; simp [Value.ownBlock]
    · rw [hv, kv]
      intro e
      have : g = g2 := by simpa [Value.ownBlock] using e
      subst this
      rw [hh] at kh
      injection kh with kh
      injection kh with _ kt _
      revert kt
      decide
theorem admL_len {l x : List Tk} {t : Tk} {p : Int} (h : admitT l t p = some x) : x.length = l.length + 1 := by
  have := (admitT_some h).2.2.1.length_eq
  simpa using this
theorem drop_tk (ts : List Tk) (k : Nat) (hk : k < ts.length) : ts.drop k = tkAt ts k :: ts.drop (k + 1) := by
  rw [List.drop_eq_getElem_cons hk, tkAt_eq ts k hk]

set_option maxHeartbeats 4000000 in
set_option maxRecDepth 100000 in
theorem spec_AdmitAll (A : Option Addr) (ts : List Tk) (c : Nat) (p : Int) (w : World) (h : TS w A ts) (_hm : ts.length ≤ maxLen) :
    Calls Try.prog 26 #[.slice A ts.length c, .int .i64 p] w (RetTIB w (admAll ts p).1 (admAll ts p).2 (admOk ts p)) := by
  cases hk : admOk ts p with
  | false =>
    have hv : admAll ts p = ([], []) := by simp [admAll, hk]
    rw [hv]
    clear hv
    by_cases h20 : ts.length ≤ 20
    · have hp : ¬ (p = 0) ∧ ¬ (p = 1) := by
        constructor <;> rintro rfl <;> simp [admOk, polB, h20] at hk
      have p0 : (p != 0) = true := by simpa using hp.1
      have p1 : (p != 1) = true := by simpa using hp.2
      clear hp hk
      go_enter Try.func26, Try.ntmps26
      go_wp2_with fail
      go_ret3
      exact ⟨_, 0, _, 0, rfl, OT_blank_at (w.alloc (.cells #[] 3)) w.heap.size (w.heap.size + 1) (by simp) (by omega), OI_alloc (OI_blank w _ (Nat.le_refl _)) _, bal (bal (Below.refl _ _) _) _⟩
    · clear hk
      go_enter Try.func26, Try.ntmps26
      go_wp2_with fail
      go_ret3
      exact ⟨_, 0, _, 0, rfl, OT_blank_at (w.alloc (.cells #[] 3)) w.heap.size (w.heap.size + 1) (by simp) (by omega), OI_alloc (OI_blank w _ (Nat.le_refl _)) _, bal (bal (Below.refl _ _) _) _⟩
  | true =>
    have hpol : ts.length ≤ 20 ∧ (p = 0 ∨ p = 1) := by simpa [admOk, polB] using hk
    have hv : admAll ts p = admGo p ts 0 [] [] := by simp [admAll, hk]
    rw [hv]
    clear hv hk
    obtain ⟨h20, hp⟩ := hpol
    obtain ⟨R, hR⟩ : ∃ R, admGo p ts 0 [] [] = R := ⟨_, rfl⟩
    have HR := Lib.hid hR
    rw [hR]
    clear hR
    rcases hp with rfl | rfl
    · go_enter Try.func26, Try.ntmps26
      go_wp2_with fail
      go_loopw [7, 8, 9] (fun r v i wr => ∃ (k : Nat) (B : Option Addr) (d : Nat) (ref : List Int) (ad : Addr) (c' : Nat) (out : List Tk), i = .int .i64 (k : Int) ∧ r = .slice B ref.length d ∧ v = .slice (some ad) out.length c' ∧ k ≤ ts.length ∧ OI w.heap.size wr B d ref ∧ OT w.heap.size wr (some ad) c' out ∧ ref.length ≤ k ∧ out.length ≤ k ∧ Hid (admGo 0 (ts.drop k) k out ref = R) ∧ Below w.heap.size w wr) (fun _ _ i _ => ts.length - (intOf i).toNat)
      case atStart => exact ⟨0, _, 0, [], _, 0, [], rfl, rfl, rfl, by omega, OI_alloc (OI_blank w _ (Nat.le_refl _)) _, OT_blank_at _ _ _ (by simp) (by omega), by simp, by simp, HR.out, bal (bal (Below.refl _ _) _) _⟩
      case round =>
        obtain ⟨k, B, d, ref, ad, c', out, rfl, rfl, rfl, hk, hOI, hOT, hrl, hol, hgo, hb⟩ := hrel
        by_cases hlt : k < ts.length
        · obtain ⟨b, off, rfl, hbl, hc⟩ := h.keep hb (by omega)
          obtain ⟨c0, c1, c2, c3, c4⟩ := cells_tk hc k hlt
          clear hc
          have hg := hgo.out
          rw [drop_tk ts k hlt, admGo] at hg
          obtain ⟨nx, hnx⟩ : ∃ nx, admitT out (tkAt ts k) 0 = nx := ⟨_, rfl⟩
          rw [hnx] at hg
          cases nx with
          | none =>
            have hgo' : Hid (admGo 0 (ts.drop (k + 1)) (k + 1) out (ref ++ [(k : Int)]) = R) := hg
            have Hn := Lib.hid (admL_none hnx)
            clear hg hnx hgo
            go_wp2_with fail
            refine (spec_AdmitTask (some ad) out (tkAt ts k) c' 0 _ hOT.ts (by omega) (by simp)).mono ?_
            rw [Hn.out.1, Hn.out.2]
            rintro e w2 ⟨A2, c2', rfl, o2, b2⟩
            have hOI2 := OI_keep hOI b2
            have hOT2 := OT_keep hOT b2
            clear c0 c1 c2 c3 c4 hOI hOT o2
            have B2 := bthru hb b2
            go_wp2_with (at_builtin; refine wpList_app_int _ rfl _ _ rfl w.heap.size B ref d rfl (OI_alloc hOI2 _) w2.heap.size 1 (k : Int) 3 rfl (heap_alloc_new w2 _) (by omega) (by have := B2.size; simp; omega) ?_; intro B3 d3 w3 o3 g3 b3)
            have hOT3 := OT_keepI (OT_alloc hOT2 _) (OI_alloc hOI2 _) g3
            go_roundw
            case rel => exact ⟨k + 1, B3, d3, ref ++ [(k : Int)], ad, c', out, by go_num, by simp, rfl, by omega, o3, hOT3, by simp; omega, by omega, hgo', (bal B2 _).trans b3⟩
            case measure => simp [intOf]; omega
          | some next =>
            have hgo' : Hid (admGo 0 (ts.drop (k + 1)) (k + 1) next ref = R) := hg
            have Hn := Lib.hid (admL_some hnx)
            have hnl : Hid (next.length = out.length + 1) := admL_len hnx
            clear hg hnx hgo
            go_wp2_with fail
            refine (spec_AdmitTask (some ad) out (tkAt ts k) c' 0 _ hOT.ts (by omega) (by simp)).mono ?_
            rw [Hn.out.1, Hn.out.2]
            rintro e w2 ⟨A2, c2', rfl, o2, b2⟩
            have hOI2 := OI_keep hOI b2
            have o2' : OT w.heap.size w2 A2 c2' next := own_base o2 hb.size
            clear c0 c1 c2 c3 c4 hOI hOT o2
            have B2 := bthru hb b2
            obtain ⟨b3, rfl, _, _⟩ := OT_addr o2' (by rw [hnl.out]; omega)
            go_wp2_with fail
            go_roundw
            case rel => exact ⟨k + 1, B, d, ref, ⟨b3, 0, none⟩, c2', next, by go_num, rfl, rfl, by omega, hOI2, o2', by omega, by rw [hnl.out]; omega, hgo', B2⟩
            case measure => simp [intOf]; omega
        · obtain rfl : k = ts.length := by omega
          have e : Hid (R = (out, ref)) := by
            have := hgo.out
            rw [List.drop_length] at this
            rw [Hid, ← this]
            rfl
          clear hgo
          go_wp2_with fail
          go_ret3
          rw [e.out]
          exact ⟨_, c', _, d, rfl, hOT, hOI, hb⟩
    · go_enter Try.func26, Try.ntmps26
      go_wp2_with fail
      go_loopw [7, 8, 9] (fun r v i wr => ∃ (k : Nat) (B : Option Addr) (d : Nat) (ref : List Int) (ad : Addr) (c' : Nat) (out : List Tk), i = .int .i64 (k : Int) ∧ r = .slice B ref.length d ∧ v = .slice (some ad) out.length c' ∧ k ≤ ts.length ∧ OI w.heap.size wr B d ref ∧ OT w.heap.size wr (some ad) c' out ∧ ref.length ≤ k ∧ out.length ≤ k ∧ Hid (admGo 1 (ts.drop k) k out ref = R) ∧ Below w.heap.size w wr) (fun _ _ i _ => ts.length - (intOf i).toNat)
      case atStart => exact ⟨0, _, 0, [], _, 0, [], rfl, rfl, rfl, by omega, OI_alloc (OI_blank w _ (Nat.le_refl _)) _, OT_blank_at _ _ _ (by simp) (by omega), by simp, by simp, HR.out, bal (bal (Below.refl _ _) _) _⟩
      case round =>
        obtain ⟨k, B, d, ref, ad, c', out, rfl, rfl, rfl, hk, hOI, hOT, hrl, hol, hgo, hb⟩ := hrel
        by_cases hlt : k < ts.length
        · obtain ⟨b, off, rfl, hbl, hc⟩ := h.keep hb (by omega)
          obtain ⟨c0, c1, c2, c3, c4⟩ := cells_tk hc k hlt
          clear hc
          have hg := hgo.out
          rw [drop_tk ts k hlt, admGo] at hg
          obtain ⟨nx, hnx⟩ : ∃ nx, admitT out (tkAt ts k) 1 = nx := ⟨_, rfl⟩
          rw [hnx] at hg
          cases nx with
          | none =>
            have hgo' : Hid (admGo 1 (ts.drop (k + 1)) (k + 1) out (ref ++ [(k : Int)]) = R) := hg
            have Hn := Lib.hid (admL_none hnx)
            clear hg hnx hgo
            go_wp2_with fail
            refine (spec_AdmitTask (some ad) out (tkAt ts k) c' 1 _ hOT.ts (by omega) (by simp)).mono ?_
            rw [Hn.out.1, Hn.out.2]
            rintro e w2 ⟨A2, c2', rfl, o2, b2⟩
            have hOI2 := OI_keep hOI b2
            have hOT2 := OT_keep hOT b2
            clear c0 c1 c2 c3 c4 hOI hOT o2
            have B2 := bthru hb b2
            go_wp2_with (at_builtin; refine wpList_app_int _ rfl _ _ rfl w.heap.size B ref d rfl (OI_alloc hOI2 _) w2.heap.size 1 (k : Int) 3 rfl (heap_alloc_new w2 _) (by omega) (by have := B2.size; simp; omega) ?_; intro B3 d3 w3 o3 g3 b3)
            have hOT3 := OT_keepI (OT_alloc hOT2 _) (OI_alloc hOI2 _) g3
            go_roundw
            case rel => exact ⟨k + 1, B3, d3, ref ++ [(k : Int)], ad, c', out, by go_num, by simp, rfl, by omega, o3, hOT3, by simp; omega, by omega, hgo', (bal B2 _).trans b3⟩
            case measure => simp [intOf]; omega
          | some next =>
            have hgo' : Hid (admGo 1 (ts.drop (k + 1)) (k + 1) next ref = R) := hg
            have Hn := Lib.hid (admL_some hnx)
            have hnl : Hid (next.length = out.length + 1) := admL_len hnx
            clear hg hnx hgo
            go_wp2_with fail
            refine (spec_AdmitTask (some ad) out (tkAt ts k) c' 1 _ hOT.ts (by omega) (by simp)).mono ?_
            rw [Hn.out.1, Hn.out.2]
            rintro e w2 ⟨A2, c2', rfl, o2, b2⟩
            have hOI2 := OI_keep hOI b2
            have o2' : OT w.heap.size w2 A2 c2' next := own_base o2 hb.size
            clear c0 c1 c2 c3 c4 hOI hOT o2
            have B2 := bthru hb b2
            obtain ⟨b3, rfl, _, _⟩ := OT_addr o2' (by rw [hnl.out]; omega)
            go_wp2_with fail
            go_roundw
            case rel => exact ⟨k + 1, B, d, ref, ⟨b3, 0, none⟩, c2', next, by go_num, rfl, rfl, by omega, hOI2, o2', by omega, by rw [hnl.out]; omega, hgo', B2⟩
            case measure => simp [intOf]; omega
        · obtain rfl : k = ts.length := by omega
          have e : Hid (R = (out, ref)) := by
            have := hgo.out
            rw [List.drop_length] at this
            rw [Hid, ← this]
            rfl
          clear hgo
          go_wp2_with fail
          go_ret3
          rw [e.out]
          exact ⟨_, c', _, d, rfl, hOT, hOI, hb⟩
end Go.Proofs.Ytmkjmancmiphfaa
