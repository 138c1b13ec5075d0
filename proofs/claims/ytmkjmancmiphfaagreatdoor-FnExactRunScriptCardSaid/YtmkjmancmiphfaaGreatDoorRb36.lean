/-
  PackHolds: the program's and the reference's.
  A region that draws its order, walked by hand: one operation taken first, one that is ready carried out; the frame is kept written out.
-/
import Derived.Test.YtmkjmancmiphfaaGreatDoorRb33
namespace Go.Proofs.YtmkjmancmiphfaaGreatDoor
open Go.RowKit
theorem qqr(A B:ZA)(l:List Tk)(ws:List Int)(c d:Nat)(m p:Int)(w:World)(h:TS w A l)(g:IS w B ws):
  Calls Tryz.prog 230 #[.slice A l.length c,.slice B ws.length d,.int .i64 m,.int .i64 p] w fun e w'=>e=.returned (.bool (pkH l ws m p))∧Below w.heap.size w w':=by
 cases hP:qce l ws m with
 |false=>
  have Hf:Hid (pkH l ws m p=false):=by simp[Hid,pkH,hP]
  go_enter Tryz.func230,Tryz.ntmps230;go_wp2_with fail;refine(qfw A B l ws c d m _ h g).mono ?_;rw[hP];rintro e w1 ⟨rfl,b1⟩;go_wp2_with fail;go_ret;exact⟨by rw[Hf.out];rfl,b1⟩
 |true=>
  obtain⟨hs,m1,m3,hlen,_⟩:=(qo9 _ _ _).1 hP;have hl5:=(qaj hs).1;have HP:=zhi hP;have Hlen:=zhi hlen;clear hs hlen hP;go_enter Tryz.func230,Tryz.ntmps230;go_wp2_with fail;refine(qfw A B l ws c d m _ h g).mono ?_;rw[HP.out];rintro e w1 ⟨rfl,b1⟩;go_wp2_with fail;go_loopw [16] (fun i wr=> ∃k:Nat,(k:Int)≤m∧i=.int .i64 (k:Int)∧Hid (∀q:Nat,q<k→qnm (grp l ws (q:Int)) p=true)∧Below w.heap.size w wr) (fun i _=>(m-intOf i).toNat)
  case atStart=>exact⟨0,by omega,rfl,fun q hq=>by omega,b1⟩
  case round=>
   obtain⟨k,hk,rfl,hall,hb⟩:=hrel;by_cases hlt:(k:Int)<m
   ·have hgl:(grp l ws (k:Int)).length≤5:=zll (qh7 l ws _) hl5;cases hc:qnm (grp l ws (k:Int)) p with
    |true=>
     have hnext:Hid (∀q:Nat,q<k+1→qnm (grp l ws (q:Int)) p=true):=fun q hq=>by
      by_cases e:q=k
      ·subst e;exact hc
      ·exact hall.out q (by omega)
     go_wp2_with fail;refine(qkg A B l ws c d (k:Int) _ (h.keep hb) (g.keep hb) Hlen.out (by omega)).mono ?_;rintro e w2 ⟨A2,c2,rfl,o2,b2⟩;go_wp2_with fail;refine(qch A2 (grp l ws (k:Int)) c2 p _ o2.ts (by unfold maxLen;omega) (qao o2).1).mono ?_;rw[hc];clear hc;rintro e w3 ⟨rfl,b3⟩;go_wp2_with fail;go_roundw
     case rel=>exact⟨k+1,by omega,by go_num,hnext,qaa hb (qaa b2 b3)⟩
     case measure=>simp[intOf];omega
    |false=>
     have Hf:Hid (pkH l ws m p=false):=by
      rw[Hid];cases e:pkH l ws m p with
      |false=>rfl
      |true=>
       have:=((qsy _ _ _ _).1 e).2 k (by omega);rw[hc] at this;cases this
     go_wp2_with fail;refine(qkg A B l ws c d (k:Int) _ (h.keep hb) (g.keep hb) Hlen.out (by omega)).mono ?_;rintro e w2 ⟨A2,c2,rfl,o2,b2⟩;go_wp2_with fail;refine(qch A2 (grp l ws (k:Int)) c2 p _ o2.ts (by unfold maxLen;omega) (qao o2).1).mono ?_;rw[hc];clear hc;rintro e w3 ⟨rfl,b3⟩;go_wp2_with fail;go_ret;exact⟨by rw[Hf.out];rfl,qaa hb (qaa b2 b3)⟩
   ·have Hf:Hid (pkH l ws m p=true):=by
     rw[Hid,qsy];exact⟨HP.out,fun q hq=>hall.out q (by omega)⟩
    go_wp2_with fail;go_ret;exact⟨by rw[Hf.out];rfl,hb⟩
theorem qqs(A B:ZA)(l:List Tk)(ws:List Int)(c d:Nat)(m p:Int)(w:World)(h:TS w A l)(g:IS w B ws)(hm:l.length≤9223372036854775807):
  Calls Tryz.prog 205 #[.slice A l.length c,.slice B ws.length d,.int .i64 m,.int .i64 p] w fun e w'=>e=.returned (.bool (pkH l ws m p))∧Below w.heap.size w w':=by
 cases hP:qce l ws m with
 |false=>
  have Hf:Hid (pkH l ws m p=false):=by simp[Hid,pkH,hP]
  go_enter Tryz.func205,Tryz.ntmps205;go_wp2_with fail;refine(qfx A B l ws c d m _ h g hm).mono ?_;rw[hP];rintro e w1 ⟨rfl,b1⟩;go_wp2_with fail;go_ret;exact⟨by rw[Hf.out];rfl,b1⟩
 |true=>
  obtain⟨hs,m1,m3,hlen,_⟩:=(qo9 _ _ _).1 hP;have hl5:=(qaj hs).1;have HP:=zhi hP;have Hlen:=zhi hlen;clear hs hlen hP;go_enter Tryz.func205,Tryz.ntmps205;go_wp2_with fail;refine(qfx A B l ws c d m _ h g hm).mono ?_;rw[HP.out];rintro e w1 ⟨rfl,b1⟩;go_wp2_with fail;go_loopw [9] (fun i wr=> ∃k:Nat,(k:Int)≤m∧i=.int .i64 (k:Int)∧Hid (∀q:Nat,q<k→qnm (grp l ws (q:Int)) p=true)∧Below w.heap.size w wr) (fun i _=>(m-intOf i).toNat)
  case atStart=>exact⟨0,by omega,rfl,fun q hq=>by omega,b1⟩
  case round=>
   obtain⟨k,hk,rfl,hall,hb⟩:=hrel;by_cases hlt:(k:Int)<m
   ·have hgl:(grp l ws (k:Int)).length≤5:=zll (qh7 l ws _) hl5;cases hc:qnm (grp l ws (k:Int)) p with
    |true=>
     have hnext:Hid (∀q:Nat,q<k+1→qnm (grp l ws (q:Int)) p=true):=fun q hq=>by
      by_cases e:q=k
      ·subst e;exact hc
      ·exact hall.out q (by omega)
     go_wp2_with fail;refine(qhx A B l ws c d (k:Int) _ (h.keep hb) (g.keep hb) Hlen.out (by omega)).mono ?_;rintro e w2 ⟨A2,c2,rfl,o2,b2⟩;go_wp2_with fail;refine(qj3 A2 (grp l ws (k:Int)) c2 p _ o2.ts (by unfold maxLen;omega)).mono ?_;rw[hc];clear hc;rintro e w3 ⟨rfl,b3⟩;go_wp2_with fail;go_roundw
     case rel=>exact⟨k+1,by omega,by go_num,hnext,qaa hb (qaa b2 b3)⟩
     case measure=>simp[intOf];omega
    |false=>
     have Hf:Hid (pkH l ws m p=false):=by
      rw[Hid];cases e:pkH l ws m p with
      |false=>rfl
      |true=>
       have:=((qsy _ _ _ _).1 e).2 k (by omega);rw[hc] at this;cases this
     go_wp2_with fail;refine(qhx A B l ws c d (k:Int) _ (h.keep hb) (g.keep hb) Hlen.out (by omega)).mono ?_;rintro e w2 ⟨A2,c2,rfl,o2,b2⟩;go_wp2_with fail;refine(qj3 A2 (grp l ws (k:Int)) c2 p _ o2.ts (by unfold maxLen;omega)).mono ?_;rw[hc];clear hc;rintro e w3 ⟨rfl,b3⟩;go_wp2_with fail;go_ret;exact⟨by rw[Hf.out];rfl,qaa hb (qaa b2 b3)⟩
   ·have Hf:Hid (pkH l ws m p=true):=by
     rw[Hid,qsy];exact⟨HP.out,fun q hq=>hall.out q (by omega)⟩
    go_wp2_with fail;go_ret;exact⟨by rw[Hf.out];rfl,hb⟩
theorem qai{P:Program}{o:Oper}{a:Act}{w:World}{K:Act→World→Prop}{Q:Exit→Act→World→Prop}
  (h:if Region.wanted {o with guard:=none} (yielded #[] a.tmps)=true then Oper.wp P {o with guard:=none} a w K Q else False):Oper.wp P o a w K Q:=by
 rw[if_pos (by simp[Region.wanted])] at h;exact h
theorem qe1{P:Program}{md:Region.Mode}{ops:Array Oper}{Q:Exit→Act→World→Prop}{i:Nat}(d:Tmp)(v:Value){L:List Value}{df:List Deferred}{oi:Oper}{fuel:Nat}{listed:Array Bool}{w:World}
  (hi:ops[i]? =some oi) (hd:oi.dst=some d) (hs:Region.noSelect ops=true) (hf:Region.free md ops listed i=true) (hr:(Region.ready md ops listed).contains i=true)
  (hQ: ∀c (a:Act) w,Q (.panic c) (a.put (some d) v) w→Q (.panic c) a w) (hy:Yields P ops oi v ⟨L.toArray,df⟩)
  (h:wpAny P md ops Q fuel (listed.setIfInBounds i true) ⟨(L.set d v).toArray,df⟩ w):wpAny P md ops Q (fuel+1) listed ⟨L.toArray,df⟩ w:=by
 refine wpAny_take hi hs hf hr (by rw[hd];exact hQ) hy ?_;rw[hd];simpa [Act.put] using h
theorem lq{P:Program}{md:Region.Mode}{ops:Array Oper}{Q:Exit→Act→World→Prop}(i:Nat)(d:Tmp)(v:Value){L L':List Value}{df:List Deferred}{oi:Oper}{fuel:Nat}{listed:Array Bool}{w:World}
  (hi:ops[i]? =some oi) (hy: ∀w,(execOp (Act.eval ⟨L.toArray,df⟩) oi).run P w=.ok (.value v) w)
  (h:wpAny P md ops Q fuel (listed.setIfInBounds i true) ⟨L'.toArray,df⟩ w)
  (hL:L.set d v=L':=by first|(simp only[lsS,lsZ];done)|(simp only[lsS,lsZ];rfl)) (hd:oi.dst=some d:=by rfl)
  (hb:(Region.noSelect ops&&Region.free md ops listed i&&(Region.ready md ops listed).contains i)=true:=by kernel_rfl)
  (hQ: ∀c (a:Act) w,Q (.panic c) (a.put (some d) v) w→Q (.panic c) a w:=by exact fun _ _ _ h=>h) (hw:Region.wanted oi (yielded ops L.toArray)=true:=by rfl):wpAny P md ops Q (fuel+1) listed ⟨L.toArray,df⟩ w:=by
 subst hL;simp only[Bool.and_eq_true] at hb;exact qe1 d v hi hd hb.1.1 hb.1.2 hb.2 hQ (.inl ⟨hw,hy⟩) h
theorem ln{P:Program}{md:Region.Mode}{ops:Array Oper}{Q:Exit→Act→World→Prop}(i:Nat)(d:Tmp){L L':List Value}{df:List Deferred}{oi:Oper}{fuel:Nat}{listed:Array Bool}{w:World}
  (hi:ops[i]? =some oi)
  (h:wpAny P md ops Q fuel (listed.setIfInBounds i true) ⟨L'.toArray,df⟩ w)
  (hL:L.set d undef=L':=by first|(simp only[lsS,lsZ];done)|(simp only[lsS,lsZ];rfl)) (hd:oi.dst=some d:=by rfl)
  (hb:(Region.noSelect ops&&Region.free md ops listed i&&(Region.ready md ops listed).contains i)=true:=by kernel_rfl)
  (hQ: ∀c (a:Act) w,Q (.panic c) (a.put (some d) undef) w→Q (.panic c) a w:=by exact fun _ _ _ h=>h) (hw:Region.wanted oi (yielded ops L.toArray)=false:=by rfl):wpAny P md ops Q (fuel+1) listed ⟨L.toArray,df⟩ w:=by
 subst hL;simp only[Bool.and_eq_true] at hb;exact qe1 d undef hi hd hb.1.1 hb.1.2 hb.2 hQ (.inr ⟨hw,rfl⟩) h
theorem qbu{P:Program}{md:Region.Mode}{ops:Array Oper}{Q:Exit→Act→World→Prop}{i:Nat}(d:Tmp){L:List Value}{df:List Deferred}{o:Oper}{fuel:Nat}{listed:Array Bool}{w:World}{rs:List Nat}
  (hi:ops[i]? =some o) (_hd:o.dst=some d) (hw:Region.wanted o (yielded ops L.toArray)=true)
  (h: ∀K':Act→World→Prop,(∀v w,wpAny P md ops Q fuel (listed.setIfInBounds i true) ⟨(L.set d v).toArray,df⟩ w→K' ((⟨L.toArray,df⟩:Act).put (some d) v) w)→Oper.wp P {o with guard:=none} ⟨L.toArray,df⟩ w K' Q)
  (hs:AllReady P md ops Q fuel listed ⟨L.toArray,df⟩ w rs):AllReady P md ops Q fuel listed ⟨L.toArray,df⟩ w (i::rs):=by
 refine AllReady.cons hi (fun K' hK=>?_) hs;rw[if_pos hw];refine h K' fun v w2 hv=>hK _ _ ?_
 simpa [Act.put] using hv
end Go.Proofs.YtmkjmancmiphfaaGreatDoor
