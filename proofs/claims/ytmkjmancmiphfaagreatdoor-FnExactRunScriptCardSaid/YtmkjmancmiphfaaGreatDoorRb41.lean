/-
  RunScript of the reference, of any text.
  The program's numbers of any text: decimal.
-/
import Derived.Test.YtmkjmancmiphfaaGreatDoorRb40
namespace Go.Proofs.YtmkjmancmiphfaaGreatDoor
set_option maxHeartbeats 8000000
set_option maxRecDepth 1000000
open Go.RowKit
theorem qtd(r:List (List UInt8))(i:Nat)(s:Ss)(o:List UInt8):qp3 ([]::r) i s o=qp3 r (i+1) s o:=rfl
theorem qte{x:List UInt8}(hx:x≠[])(r:List (List UInt8)){i:Nat}(s:Ss){o:List UInt8}(h:200≤i∨40000<o.length):qp3 (x::r) i s o=o++q6t:=by rw[qp3,if_neg hx,if_pos h]
theorem qxp{x:List UInt8}(hx:x≠[])(r:List (List UInt8)){i:Nat}(s:Ss){o:List UInt8}(h: ¬(200≤i∨40000<o.length)):qp3 (x::r) i s o=qp3 r (i+1) (qhj s x).1 (o++(qhj s x).2):=by rw[qp3,if_neg hx,if_neg h]
theorem OS_row{base:Nat}{w:World}{A:ZA}{c:Nat}{xs:List (List UInt8)}(h:OS base w A c xs)(hl:0<xs.length): ∃b,A=some ⟨b,0,none⟩∧base≤b∧b<w.heap.size∧ ∀(k:Nat) (hk:k<xs.length),w.cell? ⟨b,k,none⟩=some (.string ⟨(xs[k]).toArray⟩):=by
 obtain⟨b,hA,hlt,hc⟩:=qi4 h hl;refine⟨b,hA,?_,hlt,hc⟩;rcases h.2 with⟨hv,_⟩|⟨g,cap,cur,hv,hg,_⟩
 ·injection hv with hv _ _
  rw[hA] at hv;cases hv
 ·injection hv with hv _ _
  rw[hA] at hv;injection hv with hv
  injection hv with hv _ _
  omega
theorem q64{x:List UInt8}(h: ∀(j:Nat) (hj:j<x.length),x[j]≠32)(s:Ss):qhj s x=qlf s (qld s x):=by
 have hx:(32:UInt8)∉x:=by
  intro hm;obtain⟨j,hj,e⟩:=List.getElem_of_mem hm;exact h j hj e
 have hC:=q1q 32 [] x hx;rw[qhj,hC];rfl
theorem q65{x:List UInt8}{m:Nat}(hm:m<x.length)(h: ∀(j:Nat) (hj:j<x.length),j<m→x[j]≠32)(he:x[m]=32)(s:Ss):qhj s x=qlg s (x.take m) (x.drop (m+1)):=by
 have hx:(32:UInt8)∉x.take m:=by
  intro hmem;obtain⟨j,hj,e⟩:=List.getElem_of_mem hmem;rw[List.getElem_take] at e;rw[List.length_take] at hj;exact h j (by omega) (by omega) e
 have e:x=x.take m++[32]++x.drop (m+1):=by
  have h1:x.drop m=x[m]::x.drop (m+1):=List.drop_eq_getElem_cons hm;rw[he] at h1;rw[List.append_assoc,List.singleton_append,←h1,List.take_append_drop]
 have hC:=qmy 32 [] (x.take m) (x.drop (m+1)) hx;rw[←e] at hC;rw[qhj,hC];rfl
theorem qpu(text:List UInt8)(hl:text.length≤9000000000000000000)(w:World):
  Calls Tryz.prog 18 #[.string ⟨text.toArray⟩] w fun e w'=>e=.returned (.string ⟨(q4r text).toArray⟩)∧Below w.heap.size w w':=by
 by_cases hlong:20000<text.length
 ·have hlI:(20000:Int)<(text.length:Int):=by omega
  have hS:q4r text=[108,111,110,103,10]:=if_pos hlong;rw[hS];clear hS;go_enter Tryz.func18,Tryz.ntmps18;go_wp2_with fail;go_ret;exact⟨rfl,br⟩
 ·obtain⟨R,hR⟩: ∃R,q4r text=R:=⟨_,rfl⟩;have hS:qp3 (qar [10] text) 0 ss0 []=R:=by rw[←hR,q4r,if_neg hlong]
  rw[hR];clear hR;have hC0:=fun w=>qev text 10 w (by omega)
  obtain⟨L,hL⟩: ∃L,qar [10] text=L:=⟨_,rfl⟩;have hLm:Hid (∀x∈L,x.length≤text.length):=by rw[←hL];exact fun x hx=>qhh 10 text.length text (zlr _) x hx
  have hLn:L.length≤text.length+1:=by rw[←hL];exact qf6 10 text
  have hL0:0<L.length:=by rw[←hL];exact List.length_pos_iff.2 (qu2 10 text)
  rw[hL] at hS;simp only[hL] at hC0;have HS:=zhi hS;have hlI: ¬(20000:Int)<(text.length:Int):=by omega
  clear hS;go_enter Tryz.func18,Tryz.ntmps18;go_upto_region 5 with fail;have hst0:=zha ((w.alloc (.cells #[] 58)).alloc (.cells #[] 60)) (ssC (some ⟨w.heap.size,0,none⟩) 0 0 (some ⟨w.heap.size+1,0,none⟩) 0 0 0);have B0:=bal (bal (bal (Below.refl w.heap.size w) (.cells #[] 58)) (.cells #[] 60)) (ssC (some ⟨w.heap.size,0,none⟩) 0 0 (some ⟨w.heap.size+1,0,none⟩) 0 0 0);obtain⟨sb,hsb⟩: ∃sb,w.heap.size+1+1=sb:=⟨_,rfl⟩;have hsz2:((w.alloc (.cells #[] 58)).alloc (.cells #[] 60)).heap.size=sb:=by rw[←hsb];simp
  rw[hsz2] at hst0;have hsz3:sb<(((w.alloc (.cells #[] 58)).alloc (.cells #[] 60)).alloc (ssC (some ⟨w.heap.size,0,none⟩) 0 0 (some ⟨w.heap.size+1,0,none⟩) 0 0 0)).heap.size:=(bl hst0);rw[hsb];generalize World.alloc (World.alloc (World.alloc w _) _) _=w3 at hst0 B0 hsz3⊢;have hsw:w.heap.size≤sb:=by omega
  clear hsz2;generalize some (⟨w.heap.size,0,none⟩:Addr)=A0 at hst0;generalize some (⟨w.heap.size+1,0,none⟩:Addr)=J0 at hst0;clear hsb;go_wp2_with fail;refine(hC0 w3).mono ?_;rintro e wl ⟨AL,cL,rfl,oL,bL0⟩;obtain⟨bL,rfl,hbg,hbl0,hrow⟩:=OS_row oL hL0;have hbs:bL≠sb:=by omega
  have hst1:=(bL0.block sb hsz3).trans hst0;have B1:=qaa B0 bL0;have hROW:=zhi hrow;clear hC0 oL bL0 hst0 B0 hsz3 hbg hrow;go_wp2_with fail;go_loopw [4,6,7,8] (fun v i _ _ wr=> ∃(k:Nat) (s:Ss) (o:List UInt8) (A:ZA) (c:Nat) (J:ZA) (d:Nat),v=.string ⟨o.toArray⟩∧i=.int .i64 (k:Int)∧k≤L.length∧Hid (qp3 (L.drop k) k s o=R)∧Good s∧o.length≤50000∧Hid ((A=none→c=0)∧s.l.length≤c)∧TS wr A s.l∧JS wr J s.js∧wr.heap[sb]? =some (ssC A s.l.length c J s.js.length d s.pol)∧Hid (wr.heap[bL]? =wl.heap[bL]?)∧bL<wr.heap.size∧Below w.heap.size w wr) (fun _ i _ _ _=>L.length-(intOf i).toNat)
  case atStart=>exact⟨0,ss0,[],A0,0,J0,0,rfl,rfl,by omega,by rw[List.drop_zero];exact HS,good0,by simp,⟨fun _=>rfl,zlr _⟩,fun h=>absurd h (by simp[ss0]),qph _ _,hst1,rfl,hbl0,B1⟩
  case round=>
   clear hst1 B1 HS;obtain⟨k,s,o,A,c,J,d,rfl,rfl,hk,hC,hG,hol,HA,hTS,hJS,hst,hP,hbl,hb⟩:=hrel;by_cases hlt:k<L.length
   ·have hx:wr.cell? ⟨bL,k,none⟩=some (.string ⟨(L[k]).toArray⟩):=by rw[World.cell?_of_block (w:=wl) hP.out];exact hROW.out k hlt
    have hd0:L.drop k=L[k]::L.drop (k+1):=List.drop_eq_getElem_cons hlt;have hC1:=hC.out;have hxl:=hLm.out L[k] (List.getElem_mem hlt);rw[hd0] at hC1;generalize L[k]=x at hx hC1 hxl;clear hd0 hC;have hkI:(k:Int)<(L.length:Int):=by omega
    by_cases hne:x=[]
    ·subst hne;rw[qtd] at hC1;have HC2:=zhi hC1;clear hC1;go_wp2_with fail;go_roundw
     case rel=>exact⟨k+1,s,o,A,c,J,d,rfl,by go_num,by omega,HC2,hG,hol,HA,hTS,hJS,hst,hP,hbl,hb⟩
     case measure=>simp[intOf];omega
    ·have hxe:x.isEmpty=false:=by simpa using hne
     have hxe2:((x==([]:List UInt8))=false):=by simpa using hne
     by_cases hfull:200≤k∨40000<o.length
     ·rw[qte hne _ _ hfull] at hC1;subst hC1;by_cases hk2:200≤k
      ·have hk200:(200:Int)≤(k:Int):=by omega
       go_wp2_with fail;go_ret;exact⟨by rw[←qan];rfl,hb⟩
      ·have hk200: ¬(200:Int)≤(k:Int):=by omega
       have hgo:(40000:Int)<(o.length:Int):=by omega
       go_wp2_with fail;go_ret;exact⟨by rw[←qan];rfl,hb⟩
     ·rw[qxp hne _ _ hfull] at hC1;have hk200: ¬(200:Int)≤(k:Int):=by omega
      have hgo: ¬(40000:Int)<(o.length:Int):=by omega
      have hlb:=qyu hG x;have hG2:=qrz hG x;obtain⟨Q,hQ⟩: ∃Q,qhj s x=Q:=⟨_,rfl⟩;rw[hQ] at hC1 hlb hG2;have HC2:=zhi hC1;obtain⟨_,hlb2⟩:=hlb;have hol2:(o++Q.2).length≤50000:=by rw[List.length_append];omega
      have hq2:Q.2.length≤9500:=hlb2;clear hC1 hlb2;go_wp2_with fail;go_loopw [8] (fun a wa=> ∃m:Nat,a=.int .i64 (m:Int)∧m≤x.length∧Hid (∀(j:Nat) (hj:j<x.length),j<m→x[j]≠32)∧wa=wr) (fun a _=>x.length-(intOf a).toNat)
      case atStart=>exact⟨0,rfl,by omega,fun j hj h=>absurd h (by omega),rfl⟩
      case round=>
       obtain⟨m,rfl,hmx,hno,rfl⟩:=hrel;by_cases hm:m<x.length
       ·have hmI:(m:Int)<(x.length:Int):=by omega
        have hsz:(ByteArray.mk x.toArray).size=x.length:=by rw[Go.Lib.size_eq]
        have hbx:=qi3 x m hm (by rw[hsz];exact hm);obtain⟨bc,hbE⟩: ∃bc,x[m]=bc:=⟨_,rfl⟩;rw[hbE] at hbx;by_cases he:bc=32
        ·have e1:((bc.toNat:Int) !=32)=false:=by rw[he];rfl
         rw[he] at hbE;have hQ1:qlg s (x.take m) (x.drop (m+1))=Q:=by rw[←q65 hm hno.out hbE s];exact hQ
         have KQ:=fun v h g=>qqv s hG A c J d (x.take m) (x.drop (m+1)) (by rw[List.length_drop];omega) v h g HA.out
         simp only[hQ1] at KQ;have hcA:(ByteArray.mk x.toArray).extract 0 m=ByteArray.mk (x.take m).toArray:=by rw[qj1];simp
         have hcR:(ByteArray.mk x.toArray).extract (m+1) x.length=ByteArray.mk (x.drop (m+1)).toArray:=by rw[qj1];congr 2;rw[List.take_of_length_le (by simp)]
         generalize x.take m=xa at KQ hcA;generalize x.drop (m+1)=xr at KQ hcR;have e2:((m:Int)==(x.length:Int))=false:=beq_eq_false_iff_ne.2 (by omega);have hwm:IntKind.i64.wrap ((m:Int)+1)=(m:Int)+1:=by rw[IntKind.wrap_i64];omega
         go_upto_region 18 with fail;refine wp_region_held (S:=fun w'=>w'.cell? ⟨bL,k,none⟩=some (.string ⟨x.toArray⟩)) (by kernel_rfl) ?_;change wpAnyH _ _ _ _ _ _ _ _ (World.drew _);have K0:Below w.heap.size w (World.drew wr):=zdr hb;have q0:(World.drew wr).heap[sb]? =some (ssC A s.l.length c J s.js.length d s.pol):=hst;have hP0:Hid ((World.drew wr).heap[bL]? =wl.heap[bL]?):=hP;have hS0:(World.drew wr).cell? ⟨bL,k,none⟩=some (.string ⟨x.toArray⟩):=hx;have h0:=hTS.keep (zdr (Below.refl wr.heap.size wr));have g0:=hJS.keep (zdr (Below.refl wr.heap.size wr));have hlt0:bL<(World.drew wr).heap.size:=hbl;generalize World.drew wr=v0 at K0 q0 hP0 hS0 h0 g0 hlt0⊢;refine tq 1 73 (.slice (some ⟨bL,0,none⟩) L.length cL) rfl (fun _ _=>rfl) hS0 ?_;refine tq 2 74 (.int .i64 (k:Int)) rfl (fun _ _=>rfl) hS0 ?_;refine tq 3 75 (.pointer (some ⟨bL,k,none⟩)) rfl (fun w _=>by go_simp<;>(first|omega|(simp;omega))) hS0 ?_;refine tq 4 76 (.string ⟨x.toArray⟩) rfl (fun w hS=>by have hS1:=hS;go_simp) hS0 ?_;refine tq 5 77 (.int .i64 (m:Int)) rfl (fun _ _=>rfl) hS0 ?_;refine tq 6 78 (.string ⟨xa.toArray⟩) rfl (fun w _=>by go_simp<;>(first|omega|exact hcA|exact hcR|(simp;omega))) hS0 ?_;refine tq 7 79 (.slice (some ⟨bL,0,none⟩) L.length cL) rfl (fun _ _=>rfl) hS0 ?_;refine tq 8 80 (.int .i64 (k:Int)) rfl (fun _ _=>rfl) hS0 ?_;refine tq 9 81 (.pointer (some ⟨bL,k,none⟩)) rfl (fun w _=>by go_simp<;>(first|omega|(simp;omega))) hS0 ?_;refine tq 10 82 (.string ⟨x.toArray⟩) rfl (fun w hS=>by have hS1:=hS;go_simp) hS0 ?_;refine tq 11 83 (.int .i64 (m:Int)) rfl (fun _ _=>rfl) hS0 ?_;refine tq 12 84 (.int .i64 ((m:Int)+1)) rfl (fun w _=>by go_simp<;>rw[hwm]) hS0 ?_;refine tq 13 85 (.string ⟨xr.toArray⟩) rfl (fun w _=>by go_simp<;>(first|omega|exact hcA|exact hcR|(simp;omega))) hS0 ?_;refine tw 0 ?_;refine qbs 0 72 rfl (by rfl) ?_;intro K hK;obtain⟨x0,x1,x2⟩:=qab q0;go_simp
         refine hK (ssV A s.l.length c J s.js.length d s.pol) _ hS0 ?_;clear hK;simp only[lsS,lsZ];refine tw 14 ?_;refine co 14 86 rfl 47 Tryz.func47 #[ssV A s.l.length c J s.js.length d s.pol,.string ⟨xa.toArray⟩,.string ⟨xr.toArray⟩] (KQ _ h0 g0) ?_;rintro e v1 ⟨A5,c5,J5,d5,rfl,hA5,h5,g5,b1⟩;have K1:=qaa K0 b1;have q1:=bh b1 q0;have hP1:Hid (v1.heap[bL]? =wl.heap[bL]?):=(b1.block bL hlt0).trans hP0.out;have hS1:v1.cell? ⟨bL,k,none⟩=some (.string ⟨x.toArray⟩):=(b1.cell (p:=⟨bL,k,none⟩) hlt0).trans hS0;have HA5:=zhi hA5;clear hA5;refine⟨_,rfl,hS1,?_⟩;simp only[lsS,lsZ];refine tq 15 71 (.tuple #[ssV A5 Q.1.l.length c5 J5 Q.1.js.length d5 Q.1.pol,.string ⟨Q.2.toArray⟩]) rfl (fun _ _=>rfl) hS1 ?_;refine tq 16 87 (ssV A5 Q.1.l.length c5 J5 Q.1.js.length d5 Q.1.pol) rfl (fun w _=>by go_simp) hS1 ?_;refine tq 17 88 (.string ⟨Q.2.toArray⟩) rfl (fun w _=>by go_simp) hS1 ?_;refine tw 18 ?_;refine qbp 18 rfl (by rfl) ?_;intro K hK;obtain⟨x0,x1,x2⟩:=qab q1;have xf:=fun i=>zfz q1 i
         have BF:=bst (bst (bst K1 (p:=⟨sb,0,none⟩) hsw (.slice A5 Q.1.l.length c5)) (p:=⟨sb,1,none⟩) hsw (.slice J5 Q.1.js.length d5)) (p:=⟨sb,2,none⟩) hsw (.int .i64 Q.1.pol);have q9:(((v1.setCell ⟨sb,0,none⟩ (.slice A5 Q.1.l.length c5)).setCell ⟨sb,1,none⟩ (.slice J5 Q.1.js.length d5)).setCell ⟨sb,2,none⟩ (.int .i64 Q.1.pol)).heap[sb]? =some (ssC A5 Q.1.l.length c5 J5 Q.1.js.length d5 Q.1.pol):=qc5 (i:=2) (qc5 (i:=1) (qc5 (i:=0) q1 _) _) _
         have hb3: ∀(b:Nat),b≠sb→(((v1.setCell ⟨sb,0,none⟩ (.slice A5 Q.1.l.length c5)).setCell ⟨sb,1,none⟩ (.slice J5 Q.1.js.length d5)).setCell ⟨sb,2,none⟩ (.int .i64 Q.1.pol)).heap[b]? =v1.heap[b]? :=by
          intro b hb;rw[heap_setCell_other _ _ _ _ hb,heap_setCell_other _ _ _ _ hb,heap_setCell_other _ _ _ _ hb]
         have hT9:=q2s h5 q1 (w':=((v1.setCell ⟨sb,0,none⟩ (.slice A5 Q.1.l.length c5)).setCell ⟨sb,1,none⟩ (.slice J5 Q.1.js.length d5)).setCell ⟨sb,2,none⟩ (.int .i64 Q.1.pol)) (by simp) hb3;have hJ9:=q2t g5 q1 (w':=((v1.setCell ⟨sb,0,none⟩ (.slice A5 Q.1.l.length c5)).setCell ⟨sb,1,none⟩ (.slice J5 Q.1.js.length d5)).setCell ⟨sb,2,none⟩ (.int .i64 Q.1.pol)) (by simp) hb3;have hP9:Hid ((((v1.setCell ⟨sb,0,none⟩ (.slice A5 Q.1.l.length c5)).setCell ⟨sb,1,none⟩ (.slice J5 Q.1.js.length d5)).setCell ⟨sb,2,none⟩ (.int .i64 Q.1.pol)).heap[bL]? =wl.heap[bL]?):=(hb3 bL hbs).trans hP1.out;have hS9:(((v1.setCell ⟨sb,0,none⟩ (.slice A5 Q.1.l.length c5)).setCell ⟨sb,1,none⟩ (.slice J5 Q.1.js.length d5)).setCell ⟨sb,2,none⟩ (.int .i64 Q.1.pol)).cell? ⟨bL,k,none⟩=some (.string ⟨x.toArray⟩):=by rw[World.cell?_of_block (w:=v1) (hb3 bL hbs)];exact hS1
         have hz9:bL<(((v1.setCell ⟨sb,0,none⟩ (.slice A5 Q.1.l.length c5)).setCell ⟨sb,1,none⟩ (.slice J5 Q.1.js.length d5)).setCell ⟨sb,2,none⟩ (.int .i64 Q.1.pol)).heap.size:=zlt (zlt hlt0 b1.size) (by simp);clear hb3;go_simp
         refine hK _ hS9 ?_;clear hK x0 x1 x2 xf;generalize World.setCell (World.setCell (World.setCell v1 _ _) _ _) _ _=v9 at BF q9 hT9 hJ9 hP9 hS9 hz9⊢;refine tq 19 7 (.string ⟨Q.2.toArray⟩) rfl (fun _ _=>rfl) hS9 ?_;refine wpAnyH_done (by kernel_rfl) ?_ _;go_wp2_with fail;go_roundw
         case rel=>exact⟨k+1,Q.1,o++Q.2,A5,c5,J5,d5,by simp only[←qan],by go_num,by omega,HC2,hG2,hol2,HA5,hT9,hJ9,q9,hP9,hz9,BF⟩
         case measure=>simp[intOf];omega
        ·have e1:((bc.toNat:Int) !=32)=true:=by
          rw[bne_iff_ne];intro e;exact he (UInt8.toNat_inj.1 (by have:(32:UInt8).toNat=32:=rfl;omega))
         have hno2:Hid (∀(j:Nat) (hj:j<x.length),j<m+1→x[j]≠32):=by
          intro j hj hjm;by_cases e:j=m
          ·subst e;rw[hbE];exact he
          ·exact hno.out j hj (by omega)
         go_wp2_with fail;go_roundw
         case rel=>exact⟨m+1,by go_num,by omega,hno2,by trivial⟩
         case measure=>simp[intOf];omega
       ·obtain rfl:m=x.length:=by omega
        have hQ1:qlf s (qld s x)=Q:=by rw[←q64 (fun j hj=>hno.out j hj hj) s];exact hQ
        have KQ:=fun v h g=>qvj s hG A c J d x v h g HA.out
        simp only[hQ1] at KQ;go_upto_region 17 with fail;refine wp_region_held (S:=fun w'=>w'.cell? ⟨bL,k,none⟩=some (.string ⟨x.toArray⟩)) (by kernel_rfl) ?_;change wpAnyH _ _ _ _ _ _ _ _ (World.drew _);have K0:Below w.heap.size w (World.drew wr):=zdr hb;have q0:(World.drew wr).heap[sb]? =some (ssC A s.l.length c J s.js.length d s.pol):=hst;have hP0:Hid ((World.drew wr).heap[bL]? =wl.heap[bL]?):=hP;have hS0:(World.drew wr).cell? ⟨bL,k,none⟩=some (.string ⟨x.toArray⟩):=hx;have h0:=hTS.keep (zdr (Below.refl wr.heap.size wr));have g0:=hJS.keep (zdr (Below.refl wr.heap.size wr));have hlt0:bL<(World.drew wr).heap.size:=hbl;generalize World.drew wr=v0 at K0 q0 hP0 hS0 h0 g0 hlt0⊢;refine tq 1 64 (.slice (some ⟨bL,0,none⟩) L.length cL) rfl (fun _ _=>rfl) hS0 ?_;refine tq 2 65 (.int .i64 (k:Int)) rfl (fun _ _=>rfl) hS0 ?_;refine tq 3 66 (.pointer (some ⟨bL,k,none⟩)) rfl (fun w _=>by go_simp<;>(first|omega|(simp;omega))) hS0 ?_;refine tq 4 67 (.string ⟨x.toArray⟩) rfl (fun w hS=>by have hS1:=hS;go_simp) hS0 ?_;refine tw 0 ?_;refine qbs 0 63 rfl (by rfl) ?_;intro K hK;obtain⟨x0,x1,x2⟩:=qab q0;go_simp
        refine hK (ssV A s.l.length c J s.js.length d s.pol) _ hS0 ?_;clear hK;simp only[lsS,lsZ];refine tw 5 ?_;refine co 5 68 rfl 46 Tryz.func46 #[ssV A s.l.length c J s.js.length d s.pol,.string ⟨x.toArray⟩] (KQ _ h0 g0) ?_;rintro e v1 ⟨A5,c5,J5,d5,rfl,hA5,h5,g5,b1⟩;have K1:=qaa K0 b1;have q1:=bh b1 q0;have hP1:Hid (v1.heap[bL]? =wl.heap[bL]?):=(b1.block bL hlt0).trans hP0.out;have hS1:v1.cell? ⟨bL,k,none⟩=some (.string ⟨x.toArray⟩):=(b1.cell (p:=⟨bL,k,none⟩) hlt0).trans hS0;have HA5:=zhi hA5;clear hA5;refine⟨_,rfl,hS1,?_⟩;simp only[lsS,lsZ];refine tq 6 62 (.tuple #[ssV A5 Q.1.l.length c5 J5 Q.1.js.length d5 Q.1.pol,.string ⟨Q.2.toArray⟩]) rfl (fun _ _=>rfl) hS1 ?_;refine tq 7 69 (ssV A5 Q.1.l.length c5 J5 Q.1.js.length d5 Q.1.pol) rfl (fun w _=>by go_simp) hS1 ?_;refine tq 8 70 (.string ⟨Q.2.toArray⟩) rfl (fun w _=>by go_simp) hS1 ?_;refine tw 9 ?_;refine qbp 9 rfl (by rfl) ?_;intro K hK;obtain⟨x0,x1,x2⟩:=qab q1;have xf:=fun i=>zfz q1 i
        have BF:=bst (bst (bst K1 (p:=⟨sb,0,none⟩) hsw (.slice A5 Q.1.l.length c5)) (p:=⟨sb,1,none⟩) hsw (.slice J5 Q.1.js.length d5)) (p:=⟨sb,2,none⟩) hsw (.int .i64 Q.1.pol);have q9:(((v1.setCell ⟨sb,0,none⟩ (.slice A5 Q.1.l.length c5)).setCell ⟨sb,1,none⟩ (.slice J5 Q.1.js.length d5)).setCell ⟨sb,2,none⟩ (.int .i64 Q.1.pol)).heap[sb]? =some (ssC A5 Q.1.l.length c5 J5 Q.1.js.length d5 Q.1.pol):=qc5 (i:=2) (qc5 (i:=1) (qc5 (i:=0) q1 _) _) _
        have hb3: ∀(b:Nat),b≠sb→(((v1.setCell ⟨sb,0,none⟩ (.slice A5 Q.1.l.length c5)).setCell ⟨sb,1,none⟩ (.slice J5 Q.1.js.length d5)).setCell ⟨sb,2,none⟩ (.int .i64 Q.1.pol)).heap[b]? =v1.heap[b]? :=by
         intro b hb;rw[heap_setCell_other _ _ _ _ hb,heap_setCell_other _ _ _ _ hb,heap_setCell_other _ _ _ _ hb]
        have hT9:=q2s h5 q1 (w':=((v1.setCell ⟨sb,0,none⟩ (.slice A5 Q.1.l.length c5)).setCell ⟨sb,1,none⟩ (.slice J5 Q.1.js.length d5)).setCell ⟨sb,2,none⟩ (.int .i64 Q.1.pol)) (by simp) hb3;have hJ9:=q2t g5 q1 (w':=((v1.setCell ⟨sb,0,none⟩ (.slice A5 Q.1.l.length c5)).setCell ⟨sb,1,none⟩ (.slice J5 Q.1.js.length d5)).setCell ⟨sb,2,none⟩ (.int .i64 Q.1.pol)) (by simp) hb3;have hP9:Hid ((((v1.setCell ⟨sb,0,none⟩ (.slice A5 Q.1.l.length c5)).setCell ⟨sb,1,none⟩ (.slice J5 Q.1.js.length d5)).setCell ⟨sb,2,none⟩ (.int .i64 Q.1.pol)).heap[bL]? =wl.heap[bL]?):=(hb3 bL hbs).trans hP1.out;have hS9:(((v1.setCell ⟨sb,0,none⟩ (.slice A5 Q.1.l.length c5)).setCell ⟨sb,1,none⟩ (.slice J5 Q.1.js.length d5)).setCell ⟨sb,2,none⟩ (.int .i64 Q.1.pol)).cell? ⟨bL,k,none⟩=some (.string ⟨x.toArray⟩):=by rw[World.cell?_of_block (w:=v1) (hb3 bL hbs)];exact hS1
        have hz9:bL<(((v1.setCell ⟨sb,0,none⟩ (.slice A5 Q.1.l.length c5)).setCell ⟨sb,1,none⟩ (.slice J5 Q.1.js.length d5)).setCell ⟨sb,2,none⟩ (.int .i64 Q.1.pol)).heap.size:=zlt (zlt hlt0 b1.size) (by simp);clear hb3;go_simp
        refine hK _ hS9 ?_;clear hK x0 x1 x2 xf;generalize World.setCell (World.setCell (World.setCell v1 _ _) _ _) _ _=v9 at BF q9 hT9 hJ9 hP9 hS9 hz9⊢;refine tq 10 7 (.string ⟨Q.2.toArray⟩) rfl (fun _ _=>rfl) hS9 ?_;refine wpAnyH_done (by kernel_rfl) ?_ _;go_wp2_with fail;go_roundw
        case rel=>exact⟨k+1,Q.1,o++Q.2,A5,c5,J5,d5,by simp only[←qan],by go_num,by omega,HC2,hG2,hol2,HA5,hT9,hJ9,q9,hP9,hz9,BF⟩
        case measure=>simp[intOf];omega
   ·obtain rfl:k=L.length:=by omega
    have hC1:=hC.out;rw[List.drop_length] at hC1;have hoR:o=R:=hC1;subst hoR;go_wp2_with fail;go_ret;exact⟨rfl,hb⟩
structure Mz (B:Nat) (w:World):Prop where
 mx:Mx B w
 err: ∃ev,w.cell? ⟨Tryz.laysC172_ren.g 15,0,none⟩=some ev∧(ev=.nilIface∨ ∃te pe,ev=.iface te pe)
 errLt:Tryz.laysC172_ren.g 15<B
 rng: ∃ev,w.cell? ⟨Tryz.laysC172_ren.g 16,0,none⟩=some ev∧(ev=.nilIface∨ ∃te pe,ev=.iface te pe)
 rngLt:Tryz.laysC172_ren.g 16<B
theorem Mz.keep{B:Nat}{w w':World}(h:Mz B w)(hb:Below B w w'):Mz B w':=by
 obtain⟨h1,⟨ev,h2,h3⟩,h4,⟨ev',h5,h6⟩,h7⟩:=h;exact⟨h1.keep hb,⟨ev,(hb.cell (p:=⟨Tryz.laysC172_ren.g 15,0,none⟩) h4).trans h2,h3⟩,h4,⟨ev',(hb.cell (p:=⟨Tryz.laysC172_ren.g 16,0,none⟩) h7).trans h5,h6⟩,h7⟩
theorem Mz.up{B B':Nat}{w:World}(h:Mz B w)(hB:B≤B'):Mz B' w:=⟨h.mx.up hB,h.err,zlt h.errLt hB,h.rng,zlt h.rngLt hB⟩
theorem q66{s:List UInt8}{n:Int}(hl:s.length≤18)(h:Lib.atoi s=some n): -9223372036854775808≤n∧n≤9223372036854775807:=by
 have h1:=Lib.atoiAll_short s hl;rw[h] at h1;exact Lib.atoiAll_bounds h1
theorem q47{s:List UInt8}{n:Int}(hl:s.length≤18)(h:Lib.atoi s=some n)(w:World):
  Calls Tryz.prog 136 #[.string ⟨s.toArray⟩] w fun e w'=>e=.returned (.tuple #[.int .i64 n,.nilIface])∧Below w.heap.size w w':=by
 refine(Tryz.strconv_Atoi ⟨s.toArray⟩ n (by rw[Lib.size_eq];exact hl) h w).mono ?_;rintro e w' ⟨rfl,t,rfl⟩;exact⟨rfl,Lib.bytesWorld_below w _ _⟩
theorem q67{B:Nat}{s:List UInt8}(hl:s.length≤18)(h:Lib.atoi s=none){w:World}(hM:Mz B w):
  Calls Tryz.prog 136 #[.string ⟨s.toArray⟩] w fun e w'=>(∃N,e=.returned (.tuple #[.int .i64 0,.iface (Tryz.laysC172_ren.t 168) (.pointer (some ⟨N,0,none⟩))]))∧Below w.heap.size w w':=by
 obtain⟨ev,h2,h3⟩:=hM.err;have h1:=Lib.atoiAll_short s hl;rw[h] at h1;refine(Go.Proofs.Any.strconv_Atoi_syntax Tryz.laysC172 ⟨s.toArray⟩ (by rw[Lib.size_eq];show s.length≤_;omega) h1 ev w h2 h3).mono ?_;rintro e w' ⟨N,rfl,_,_,hb⟩;exact⟨⟨N,rfl⟩,hb⟩
theorem qdi{B:Nat}(s:List UInt8)(hl:s.length≤2000000){w:World}(hM:Mz B w):
  Calls Tryz.prog 136 #[.string ⟨s.toArray⟩] w fun e w'=>(∃v er,e=.returned (.tuple #[.int .i64 v,er]))∧Below w.heap.size w w':=by
 obtain⟨ev,h2,h3⟩:=hM.err;obtain⟨ev',h2',h3'⟩:=hM.rng;have hz:(ByteArray.mk s.toArray).size≤2000000:=by rw[Lib.size_eq];exact hl
 cases h:Lib.atoiAll s
 ·refine(Go.Proofs.Any.strconv_Atoi_ok Tryz.laysC172 ⟨s.toArray⟩ (by omega) _ h w).mono ?_;rintro e w' ⟨rfl,hw⟩;refine⟨⟨_,_,rfl⟩,?_⟩;rcases hw with rfl|⟨t,rfl⟩
  ·exact br
  ·exact Lib.bytesWorld_below w _ _
 ·refine(Go.Proofs.Any.strconv_Atoi_syntax Tryz.laysC172 ⟨s.toArray⟩ (by omega) h ev w h2 h3).mono ?_;rintro e w' ⟨N,rfl,_,_,hb⟩;exact⟨⟨_,_,rfl⟩,hb⟩
 ·refine(Go.Proofs.Any.strconv_Atoi_range Tryz.laysC172 ⟨s.toArray⟩ (by omega) h ev' w h2' h3').mono ?_;rintro e w' ⟨N,rfl,_,_,hb⟩;exact⟨⟨_,_,rfl⟩,hb⟩
theorem q48{B:Nat}{w:World}(hM:Mx B w)(n:Int)(h0: -9223372036854775808≤n)(h1:n≤9223372036854775807):
  Calls Tryz.prog 38 #[.int .i64 n] w fun e w'=>e=.returned (.string ⟨(Lib.itoa n).toArray⟩)∧Below w.heap.size w w':=by
 refine(Tryz.strconv_Itoa n h0 h1 w hM.tab).mono ?_;rintro e w' ⟨rfl,k,os,rfl⟩;exact⟨rfl,Lib.below_grow _ w (zlr _) k os⟩
theorem qz2(s:List UInt8):s.length≤(Lib.trimPrefix s [45]).length+1:=by
 by_cases h:s.head?=some 45
 ·cases s with
  |nil=>simp at h
  |cons a r=>
   obtain rfl:a=45:=by simpa using h
   rw[qiz];simp
 ·rw[qf5 h];omega
def q68(s:List UInt8)(w:World)(e:Ending)(w':World):Prop:= ∃n,e=.returned (.tuple #[.int .i64 n,.bool (qez s).isSome])∧(∀m,qez s=some m→n=m)∧Below w.heap.size w w'
theorem qi7{B:Nat}{w:World}(hM:Mz B w)(hB:B≤w.heap.size)(s:List UInt8)(hl:s.length≤1000000):
  Calls Tryz.prog 79 #[.string ⟨s.toArray⟩] w (q68 s w):=by
 have hT:(Lib.trimPrefix s [45]).length≤s.length:=by
  by_cases h:s.head?=some 45
  ·cases s with
   |nil=>simp at h
   |cons a r=>
    obtain rfl:a=45:=by simpa using h
    rw[qiz];simp
  ·rw[qf5 h];omega
 have hT1:=qz2 s;have HY:=zhi (fun n (h:qez s=some n)=>qoj h);have HO:=zhi (fun n (h:Lib.itoa n=s)=>q15 h);go_enter Tryz.func79,Tryz.ntmps79;go_wp2_with fail;refine(Tryz.strings_TrimPrefix ⟨s.toArray⟩ ⟨#[45]⟩ _).mono ?_;rintro e w1 ⟨rfl,rfl⟩;have e45:Lib.trimPrefix (ByteArray.mk s.toArray).data.toList (ByteArray.mk #[45]).data.toList=Lib.trimPrefix s [45]:=rfl;rw[e45];generalize Lib.trimPrefix s [45]=T at*;by_cases h17:T.length≤17
 case neg=>
  have HN:Hid (qez s=none):=by
   cases h:qez s with
   |none=>rfl
   |some n=>exact absurd (HY.out n h).2.2.1 h17
  have e1:decide ((T.length:Int)>17)=true:=decide_eq_true (by omega);have e2:(17:Int)<(T.length:Int):=by omega
  clear h17;go_wp2_with fail;go_ret2;exact⟨0,by rw[HN.out];rfl,(fun m hm=>by rw[HN.out] at hm;cases hm),br⟩
 have h18:s.length≤18:=by omega
 have e1:decide ((T.length:Int)>17)=false:=decide_eq_false (by omega);have e2: ¬(17:Int)<(T.length:Int):=by omega
 have H17:=zhi h17;cases ha:Lib.atoi s with
 |none=>
  have HN:Hid (qez s=none):=by
   cases h:qez s with
   |none=>rfl
   |some n=>exact absurd (HY.out n h).2.1 (by rw[ha];simp)
  have K:=q67 h18 ha hM;clear h17 ha h18;go_wp2_with fail;refine K.mono ?_;rintro e w2 ⟨⟨N,rfl⟩,b2⟩;go_wp2_with fail;go_ret2;exact⟨0,by rw[HN.out];rfl,(fun m hm=>by rw[HN.out] at hm;cases hm),b2⟩
 |some n=>
  have K:=q47 h18 ha w1;obtain⟨n0,n1⟩:=q66 h18 ha;have HA:=zhi ha;clear h17 ha h18;go_wp2_with fail;refine K.mono ?_;rintro e w2 ⟨rfl,b2⟩;go_wp2_with fail;refine(q48 (hM.mx.keep (b2.mono hB)) n n0 n1).mono ?_;rintro e w3 ⟨rfl,b3⟩;by_cases hq:Lib.itoa n=s
  ·have HN:=zhi (HO.out n hq H17.out);rw[hq];have eqF:((ByteArray.mk s.toArray).toList==(ByteArray.mk s.toArray).toList)=true:=beq_self_eq_true _;clear hq;go_wp2_with fail;go_ret2;exact⟨n,by rw[HN.out];rfl,(fun m hm=>by rw[HN.out] at hm;injection hm),qaa b2 b3⟩
  ·have HN:Hid (qez s=none):=by
    cases h:qez s with
    |none=>rfl
    |some m=>
     obtain⟨y1,y2,_,_⟩:=HY.out m h;rw[HA.out] at y2;injection y2 with y2
     rw[←y2] at y1;exact absurd y1 hq
   have eqF:(Lib.itoa n==s)=false:=beq_eq_false_iff_ne.2 hq;generalize Lib.itoa n=F at eqF⊢;clear hq;go_wp2_with fail;go_ret2;exact⟨n,by rw[HN.out];rfl,(fun m hm=>by rw[HN.out] at hm;cases hm),qaa b2 b3⟩
end Go.Proofs.YtmkjmancmiphfaaGreatDoor
