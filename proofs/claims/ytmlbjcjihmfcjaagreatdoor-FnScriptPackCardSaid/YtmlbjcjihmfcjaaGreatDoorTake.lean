/-
  A region that draws its order, walked by hand: one operation taken first, one that is ready carried out; the frame is kept written out.
-/
import Derived.Test.YtmlbjcjihmfcjaaGreatDoorBase
import Derived.Deep.RegionLaw
namespace Go.Proofs.YtmlbjcjihmfcjaaGreatDoor
open Go.RowKit

theorem step_of_wp {P : Program} {ops : Array Oper} {o : Oper} {a : Act} {w : World} {K : Act → World → Prop} {Q : Exit → Act → World → Prop} {E : Prop}
    (hw : Region.wanted o (yielded ops a.tmps) = true) (h : Oper.wp P o a w K Q) : if Region.wanted o (yielded ops a.tmps) = true then Oper.wp P o a w K Q else E := by
  rw [if_pos hw]
  exact h
theorem wp_of_step {P : Program} {o : Oper} {a : Act} {w : World} {K : Act → World → Prop} {Q : Exit → Act → World → Prop}
    (h : if Region.wanted { o with guard := none } (yielded #[] a.tmps) = true then Oper.wp P { o with guard := none } a w K Q else False) : Oper.wp P o a w K Q := by
  rw [if_pos (by simp [Region.wanted])] at h
  exact h

theorem takeL {P : Program} {md : Region.Mode} {ops : Array Oper} {Q : Exit → Act → World → Prop} {i : Nat} (d : Tmp) (v : Value) {L : List Value} {df : List Deferred} {oi : Oper} {fuel : Nat} {listed : Array Bool} {w : World}
    (hi : ops[i]? = some oi) (hd : oi.dst = some d) (hs : Region.noSelect ops = true) (hf : Region.free md ops listed i = true) (hr : (Region.ready md ops listed).contains i = true)
    (hQ : ∀ c (a : Act) w, Q (.panic c) (a.put (some d) v) w → Q (.panic c) a w) (hy : Yields P ops oi v ⟨L.toArray, df⟩)
    (h : wpAny P md ops Q fuel (listed.setIfInBounds i true) ⟨(L.set d v).toArray, df⟩ w) : wpAny P md ops Q (fuel + 1) listed ⟨L.toArray, df⟩ w := by
  refine wpAny_take hi hs hf hr (by rw [hd]; exact hQ) hy ?_
  rw [hd]
  simpa [Act.put] using h
theorem wantL {P : Program} {md : Region.Mode} {ops : Array Oper} {Q : Exit → Act → World → Prop} {i : Nat} (d : Tmp) {L : List Value} {df : List Deferred} {o : Oper} {fuel : Nat} {listed : Array Bool} {w : World} {rs : List Nat}
    (hi : ops[i]? = some o) (_hd : o.dst = some d) (hw : Region.wanted o (yielded ops L.toArray) = true)
    (h : ∀ K' : Act → World → Prop, (∀ v w, wpAny P md ops Q fuel (listed.setIfInBounds i true) ⟨(L.set d v).toArray, df⟩ w → K' ((⟨L.toArray, df⟩ : Act).put (some d) v) w) → Oper.wp P { o with guard := none } ⟨L.toArray, df⟩ w K' Q)
    (hs : AllReady P md ops Q fuel listed ⟨L.toArray, df⟩ w rs) : AllReady P md ops Q fuel listed ⟨L.toArray, df⟩ w (i :: rs) := by
  refine AllReady.cons hi (fun K' hK => ?_) hs
  rw [if_pos hw]
  refine h K' fun v w2 hv => hK _ _ ?_
  simpa [Act.put] using hv
end Go.Proofs.YtmlbjcjihmfcjaaGreatDoor
