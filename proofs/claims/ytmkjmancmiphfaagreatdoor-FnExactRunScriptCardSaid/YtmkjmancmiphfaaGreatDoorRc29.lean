/-
  What the reference tells of a run: the late jobs.
  What the reference tells of a run: its trace.
  What the reference tells of a run: the dropped jobs.
  Which texts are numbers, tasks, sets of tasks, jobs: in plain Lean.
  Texts cut and numbers read: the reference's.
  Tasks read: the reference's l1Need, ParseTask.
  Jobs read and told by the reference.
  Texts of shares: the program's.
  Shares and numbers told by the reference.
  The word run of the reference.
-/
import Derived.Test.YtmkjmancmiphfaaGreatDoorRc28
namespace Go.Proofs.YtmkjmancmiphfaaGreatDoor
set_option maxHeartbeats 8000000
set_option maxRecDepth 1000000
open Go.RowKit
theorem qrs(A:ZA)(l:List Tk)(c:Nat)(B:ZA)(js:List Jb)(d:Nat)(E:ZA)(en:List Int)(ce:Nat)(Tr:ZA)(T ct:Nat)(Sw:ZA)(ns cs:Nat)(hi:Bool)(w:World)
  (h:TS w A l) (g:JS w B js) (hE:IS w E en) (hen:en.length=js.length) (hV:Q9 l js=true):
  Calls Tryz.prog 208 #[.slice A l.length c,.slice B js.length d,.agg #[.slice E js.length ce,.slice Tr T ct,.slice Sw ns cs,.bool hi]] w (qzj w (Vv (qbg l js en T js.length))):=by
 have hV2:=hV;simp only[Q9,Yac,Yaz,Ybu,Yae] at hV2;obtain⟨⟨hS,h60⟩,hall⟩:=hV2
 have hjob: ∀i,i<js.length→Vy l (Qt js i)=true:=fun i hi=>by
  have:=hall i hi;simp only[qco,Yac] at this;exact this.1.1
 have hl5:=(Qj hS).1;have HV:=zhi hV;have HJ:=zhi hjob;have Hen:=zhi hen;have HS:=zhi hS;clear hV hall hjob hen hS;have hT0:=zha w (.cells #[.slice E js.length ce,.slice Tr T ct,.slice Sw ns cs,.bool hi] 29 (0,0));have hba:=bal (Below.refl w.heap.size w) (.cells #[.slice E js.length ce,.slice Tr T ct,.slice Sw ns cs,.bool hi] 29 (0,0));go_enter Tryz.func208,Tryz.ntmps208;go_upto_region 1 with fail;generalize World.alloc w _=w0 at hT0 hba⊢;have hgl:w.heap.size<w0.heap.size:=(bl hT0);obtain⟨nR,hnR⟩: ∃nR,w.heap.size=nR:=⟨_,rfl⟩;rw[hnR] at hT0 hgl⊢;have HNR:=zhi hnR;clear hnR;have OB:=Vh w0 w0.heap.size (zlr _);have bB:=bal (Below.refl w0.heap.size w0) (.cells #[] 3);have hT1:=(bB.block _ hgl).trans hT0;go_upto_region 2 with fail;obtain⟨nB,hnB⟩: ∃nB,w0.heap.size=nB:=⟨_,rfl⟩;generalize World.alloc w0 _=w1 at OB bB hT1⊢;rw[hnB] at OB hgl⊢;have HNB:=zhi hnB;clear hnB hT0;obtain⟨r0,r1,_,_⟩:=qdq hT1;go_wp2_with fail;refine(qd9 A l c B js d _ (h.keep (Qa hba bB)) (g.keep (Qa hba bB)) (by unfold maxLen;omega) (by unfold maxLen;omega)).mono ?_;rw[HV.out];rintro e w2 ⟨rfl,b2⟩;have hT2:=bh b2 hT1;have O2:=Q3 OB b2;have B0:Below w0.heap.size w0 w2:=Qa bB b2;clear r0 r1 hT1 OB bB b2;obtain⟨r0,r1,_,_⟩:=qdq hT2;have e0:((js.length:Int) !=(js.length:Int))=false:=by simp
 go_wp2_with fail;clear e0;go_loopg [7,8,9] js.length (fun gg v i x9 wr=> ∃(k bo c':Nat) (xs:List Nat),gg+k=js.length∧i=.int .i64 (k:Int)∧v=.slice (some ⟨bo,0,none⟩) xs.length c'∧Hid (qbg l js en T k=xs)∧xs.length≤k∧OI nB wr (some ⟨bo,0,none⟩) c' (Vv xs)∧Below w0.heap.size w0 wr∧wr.heap[nR]? =some (.cells #[.slice E js.length ce,.slice Tr T ct,.slice Sw ns cs,.bool hi] 29 (0,0)))
 case atStart=>exact⟨0,_,0,[],by omega,rfl,rfl,rfl,by simp,O2,B0,hT2⟩
 case round=>
  clear r0 r1 O2 B0 hT2;obtain⟨k,bo,c',xs,hgk,rfl,rfl,hxs,hxl,hO,hb,hTr⟩:=hrel;have B2:=Qa hba hb;obtain⟨r0,r1,_,_⟩:=qdq hTr;by_cases hlt:k<js.length
  ·obtain⟨b,off,rfl,hbl,hc⟩:=g.keep B2 (by omega);obtain⟨k0,k1,k2⟩:=Vi hc k hlt;have hJk:=HJ.out k hlt;have hjk:=Vx js k hlt;rw[hjk] at hJk;have hstep:qbg l js en T (k+1)=xs++(if qrb l js en T k then [k] else []):=by rw[←hxs.out];rfl
   have hlate:qrb l js en T k=(decide (js[k].at_+(Qg l js[k].task.toNat).due<en.getD k 0)||(decide (en.getD k 0= -1)&&decide (js[k].at_+(Qg l js[k].task.toNat).due≤(T:Int)))):=by
    simp only[qrb,jA,jK,hjk]
   have hek:k<en.length:=by rw[Hen.out];exact hlt
   obtain⟨eb,eo,hEe,hel,hec⟩:=hE.keep B2 (by omega);have ek:=hec k (en.getD k 0) (by simp[hek]);clear hec hek hjk hc;generalize en.getD k 0=e at ek hlate;generalize js[k]=J at k0 k1 k2 hJk hlate;obtain⟨q,a,n⟩:=J;have hJ2:=hJk;simp only[Vy,Yac,Yae] at hJ2;obtain⟨⟨⟨⟨hp,ha0⟩,ha1⟩,_⟩,_⟩:=hJ2;obtain⟨_,_,hx,hq⟩:=qbk hp;generalize q.toNat=x at hx hq hlate;subst hq;obtain⟨tb,toff,hAe,htl,htc⟩:=h.keep B2 (by omega);obtain⟨_,_,q2,_,_⟩:=Qv htc x hx;have hev:=qao (Qs HS.out hx);have hlate:qrb l js en T k=(decide (a+(Qg l x).due<e)||(decide (e= -1)&&decide (a+(Qg l x).due≤(T:Int)))):=hlate;generalize(Qg l x).due=D at q2 hlate hev;have hD0:0≤D∧D≤20:=by omega
   have HL:=zhi hlate;have HSt:=zhi hstep;have qw:IntKind.i64.wrap (a+D)=a+D:=Yai _ (by omega);have ha300:a≤280:=by omega
   clear hJk hp hev hlate hstep htc ha1;subst hEe hAe;have hkI:(k:Int)<(js.length:Int):=by omega
   have hxI:(x:Int)<(l.length:Int):=by omega
   have hw0:nB≤wr.heap.size:=by rw[←HNB.out];exact hb.size
   go_wp2_with fail;go_quiet (fail)
   have hbz:Below wr.heap.size wr (wr.drewN nq):=bdr br nq;generalize World.drewN wr nq=wz at hbz⊢;have hO2:=Q3 hO hbz;have hb2:=Qa hb hbz;have hT3:=bh hbz hTr;replace ek:=(hbz.cell (p:=⟨eb,eo+k,none⟩) hel).trans ek;have hzs:nB≤wz.heap.size:=zll hw0 hbz.size;clear k0 k1 k2 q2 qw r0 r1 hO hb hTr hbz hbl htl hel hw0;obtain⟨r0,r1,_,_⟩:=qdq hT3
   have HBK:Hid (∀{v v3:World},Below w0.heap.size w0 v→Below nB v v3→Below w0.heap.size w0 v3):=by
    intro v v3 h1 h2;rw[HNB.out] at h1⊢;exact h1.trans h2
   have HTK:Hid (∀(v:World) {v3:World},Below wz.heap.size wz v→Below nB v v3→v3.heap[nR]? =some (.cells #[.slice (some ⟨eb,eo,none⟩) js.length ce,.slice Tr T ct,.slice Sw ns cs,.bool hi] 29 (0,0))):=by
    intro v v3 h1 h2;exact(h2.block _ hgl).trans (bh h1 hT3)
   generalize hDD:a+D=DD at HL⊢;clear hDD;by_cases c1:DD<e
   ·have d1:decide (e>DD)=true:=Yag c1;have HS1:Hid (qbg l js en T (k+1)=xs++[k]):=by rw[Hid,HSt.out,HL.out];simp[c1]
    go_wp2_with (at_builtin;refine Q6 _ rfl _ _ rfl nB bo (Vv xs) xs.length c' (Qh xs) rfl (Q4 hO2 _) wz.heap.size 1 (k:Int) 3 rfl (zha wz _) (by rw[Qh];omega) (by simp;omega) _ rfl ?_;intro g3 c3 w3 o3 gb3 hat3 b3)
    rw[←qbl] at o3;go_roundg (gk-1)
    case measure=>omega
    case rel=>exact⟨k+1,g3,c3,xs++[k],by omega,by go_num,by rw[Yaa];rfl,HS1,by simp;omega,o3,(HBK.out (bal hb2 _) b3),(HTK.out _ (bal (Below.refl wz.heap.size wz) _) b3)⟩
   ·have d1:decide (e>DD)=false:=Yaf c1;by_cases c2:e= -1
    ·subst c2;have d2:((-1:Int)== -1)=true:=rfl;by_cases c3':DD≤(T:Int)
     ·have d3:decide (DD≤(T:Int))=true:=Yag c3';have HS1:Hid (qbg l js en T (k+1)=xs++[k]):=by rw[Hid,HSt.out,HL.out];simp[c3']
      go_wp2_with (at_builtin;refine Q6 _ rfl _ _ rfl nB bo (Vv xs) xs.length c' (Qh xs) rfl (Q4 hO2 _) wz.heap.size 1 (k:Int) 3 rfl (zha wz _) (by rw[Qh];omega) (by simp;omega) _ rfl ?_;intro g3 c3 w3 o3 gb3 hat3 b3)
      rw[←qbl] at o3;go_roundg (gk-1)
      case measure=>omega
      case rel=>exact⟨k+1,g3,c3,xs++[k],by omega,by go_num,by rw[Yaa];rfl,HS1,by simp;omega,o3,(HBK.out (bal hb2 _) b3),(HTK.out _ (bal (Below.refl wz.heap.size wz) _) b3)⟩
     ·have d3:decide (DD≤(T:Int))=false:=Yaf c3';have HS1:Hid (qbg l js en T (k+1)=xs):=by rw[Hid,HSt.out,HL.out];simp[c1,c3']
      go_wp2_with fail;go_roundg (gk-1)
      case measure=>omega
      case rel=>exact⟨k+1,bo,c',xs,by omega,by go_num,rfl,HS1,by omega,hO2,hb2,hT3⟩
    ·have d2:(e== -1)=false:=beq_eq_false_iff_ne.2 c2;have HS1:Hid (qbg l js en T (k+1)=xs):=by rw[Hid,HSt.out,HL.out];simp[c1,c2]
     go_wp2_with fail;go_roundg (gk-1)
     case measure=>omega
     case rel=>exact⟨k+1,bo,c',xs,by omega,by go_num,rfl,HS1,by omega,hO2,hb2,hT3⟩
  ·obtain rfl:k=js.length:=by omega
   go_wp2_with fail;go_ret;unfold qzj;rw[hxs.out];refine⟨_,c',by rw[Qh];rfl,Ql hO (by rw[←HNB.out];exact hba.size),B2⟩
theorem q1d:(Tryz.prog.info? 5).map (fun i=>(i.zero,i.size,i.bytes))=some (some (.int .u8 0),1,1):=by kernel_rfl
def qqn(l:List UInt8):List Value:=l.map (fun(b:UInt8)=>Value.int .u8 (b.toNat:Int))
def OB(base:Nat)(w:World)(A:ZA)(c:Nat)(l:List UInt8):Prop:=w.ownsRow base 5 1 (.slice A l.length c) l.length (qqn l)
theorem q3w(w:World)(base:Nat)(hb:base≤w.heap.size):OB base (w.alloc (.cells #[] 5)) (some ⟨w.heap.size,0,none⟩) 0 []:=qef w _ 1 base hb
theorem qxn{base:Nat}{w:World}{A:ZA}{c:Nat}{l:List UInt8}(h:OB base w A c l)(o:Obj):OB base (w.alloc o) A c l:=World.ownsRow.alloc h o
theorem qig(w:World){ops:Array Oper}{rest:List Oper}{o:Oper}{a:Act}{Q:Exit→Act→World→Prop}(hgd:o.guard=none)(s x:Operand)
  (ho:o.op=.call {callee:=.builtin .append,args:=#[s,x],argTypes:=#[22,22]})
  (base b0:Nat) (l:List UInt8) (c:Nat) (hs:a.eval s=.slice (some ⟨b0,0,none⟩) l.length c) (hown:OB base w (some ⟨b0,0,none⟩) c l)
  (b c1:Nat) (y:UInt8) (v:Int) (hv:v=(y.toNat:Int)) (ty:TypeId) (hx:a.eval x=.slice (some ⟨b,0,none⟩) 1 c1) (hb:w.heap[b]? =some (.cells #[.int .u8 v] ty (0,0)))
  (hl:l.length≤2000000) (hbase:base≤w.heap.size)
  (h: ∀g c' w',OB base w' (some ⟨g,0,none⟩) c' (l++[y])→Below base w w'→wpList Tryz.prog ops Q rest (a.put o.dst (.slice (some ⟨g,0,none⟩) (l.length+1) c')) w'):wpList Tryz.prog ops Q (o::rest) a w:=by
 obtain⟨i0,hi,hz0,hz1,hz2⟩:=Ybv q1d
 refine wpList_append_lies w hgd s x 22 ho base 5 i0 _ 1 1 Tryz.underlying22 hi hz0 hz1 hz2 rfl (by decide) (.slice (some ⟨b0,0,none⟩) l.length c) l.length (qqn l) hs hown
  ⟨b,0,none⟩ 1 c1 [.int .u8 v] hx rfl ?_ ?_ (by omega) (by unfold maxLen;omega) (by omega) hbase _ rfl ?_
 ·intro j u hj;rw[qai,Ybf w b j _ ty (0,0) hb,←Ybk];exact hj
 ·intro u hu;simp at hu;rw[hu];rfl
 ·intro g c' w' hown' hg hat _;refine h g c' w' ?_ (qad hown hg hbase);unfold OB;rw[Yaa,Yat];have e:qqn (l++[y])=qqn l++[.int .u8 v]:=by simp[qqn,hv]
  rw[e];exact hown'
theorem q3x{base:Nat}{w:World}{b c:Nat}{l:List UInt8}(h:OB base w (some ⟨b,0,none⟩) c l):
  (convert 22 9 (.slice (some ⟨b,0,none⟩) l.length c)).run Tryz.prog w=.ok (.string ⟨l.toArray⟩) w:=by
 refine run_convert_bytes_back _ 22 9 5 _ c l Tryz.underlying22 Tryz.underlying5 Tryz.underlying9 ?_;intro j hj;exact World.ownsRow.cells h (g:=b) rfl j _ (by simp[qqn,hj])
theorem qmv(E T S:ZA)(ne c nt d ns f:Nat)(tr:List Int)(hi:Bool)(w:World)(hnt:tr.length=nt)(ht:IS w T tr)(hl:nt≤200)(hok: ∀t∈tr,t= -1∨(0≤t∧t≤4)):
  Calls Tryz.prog 206 #[.agg #[.slice E ne c,.slice T nt d,.slice S ns f,.bool hi]] w fun e w'=>e=.returned (.string ⟨(trT tr).toArray⟩)∧Below w.heap.size w w':=by
 have hA:=zha w (qln (.slice E ne c) (.slice T nt d) (.slice S ns f) hi);have hb:=bal (Below.refl w.heap.size w) (qln (.slice E ne c) (.slice T nt d) (.slice S ns f) hi);go_enter Tryz.func206,Tryz.ntmps206;go_upto_region 1 with fail;generalize World.alloc w _=w1 at hA hb⊢;have hgl:w.heap.size<w1.heap.size:=(bl hA);obtain⟨gB,hgB⟩: ∃gB,w.heap.size=gB:=⟨_,rfl⟩;rw[hgB] at hA hgl⊢;have O0:=q3w w1 w1.heap.size (zlr _);have b0:=bal (Below.refl w1.heap.size w1) (.cells #[] 5);clear hgB;have e200:decide ((nt:Int)≤200)=true:=Yag (by omega);go_wp2_with fail;go_loopg [3,4,19,29] nt (fun gg v i x19 x29 wr=> ∃(k bo c':Nat) (P:List UInt8),gg+k=nt∧i=.int .i64 (k:Int)∧v=.slice (some ⟨bo,0,none⟩) P.length c'∧Hid (P=trT (tr.take k))∧OB w1.heap.size wr (some ⟨bo,0,none⟩) c' P∧Below w1.heap.size w1 wr)
 case atStart=>exact⟨0,_,0,[],by omega,rfl,rfl,rfl,O0,b0⟩
 case round=>
  clear O0 b0;obtain⟨k,bo,c',P,hgk,rfl,rfl,hP,hO,hbr⟩:=hrel;have hB2:=Qa hb hbr;have hA2:=(hbr.block _ hgl).trans hA;obtain⟨a0,a1,a2,a3⟩:=qdq hA2;have hPl:P.length≤200:=by rw[hP.out,qnl,Yap];omega
  by_cases hkl:k<nt
  ·have e0:decide ((k:Int)<(nt:Int))=true:=Yag (by omega);have hkI:(k:Int)<(nt:Int):=by omega
   have hkl2:k<tr.length:=by omega
   obtain⟨b,off,rfl,hbl,hc⟩:=(ht.keep hB2) (by omega);have hc0:=hc k tr[k] (by simp[hkl2]);have ho:=hok tr[k] (Yao hkl2);have hst:tr.take (k+1)=tr.take k++[tr[k]]:=by rw[Yad hkl2]
   have hTS:=qxd (tr.take k) tr[k];rw[←hst] at hTS;clear hst hc;generalize tr[k]=t at hc0 ho hTS;by_cases h1:t= -1
   ·subst h1;have HT:Hid (P++[46]=trT (tr.take (k+1))):=by rw[Hid,hTS,hP.out];rfl
    clear hTS ho;go_wp2_with (at_builtin;go_loud (refine qig _ rfl _ _ rfl w1.heap.size bo P c' rfl (qxn hO _) wr.heap.size 1 46 46 rfl 5 rfl (zha wr _) (by omega) (by have:=hbr.size;simp;omega) ?_);intro g3 c3 w3 o3 b3)
    go_roundg (gk-1)
    case measure=>omega
    case rel=>exact⟨k+1,g3,c3,P++[46],by omega,by go_num,by rw[Yaa];rfl,HT,o3,(bal hbr _).trans b3⟩
   ·have d1:(t== -1)=false:=by simpa using h1
    have d2:decide (t≥0)=true:=Yag (by omega);have d3:decide (t<5)=true:=Yag (by omega);have ht0:0≤t:=by omega
    have ht5:t≤4:=by omega
    have HT:Hid (P++[UInt8.ofNat (48+t.toNat)]=trT (tr.take (k+1))):=by rw[Hid,hTS,hP.out,Yaq h1]
    have HV:Hid (48+t=((UInt8.ofNat (48+t.toNat)).toNat:Int)):=by
     rw[Hid,Ycz];omega
    clear hTS h1 ho;go_wp2_with (at_builtin;go_loud (refine qig _ rfl _ _ rfl w1.heap.size bo P c' rfl (qxn hO _) wr.heap.size 1 (UInt8.ofNat (48+t.toNat)) (48+t) HV.out 5 rfl (zha wr _) (by omega) (by have:=hbr.size;simp;omega) ?_);intro g3 c3 w3 o3 b3)
    go_roundg (gk-1)
    case measure=>omega
    case rel=>exact⟨k+1,g3,c3,P++[UInt8.ofNat (48+t.toNat)],by omega,by go_num,by rw[Yaa];rfl,HT,o3,(bal hbr _).trans b3⟩
  ·obtain rfl:k=nt:=by omega
   have e0:decide ((k:Int)<(k:Int))=false:=Yaf (by omega);have htk:tr.take k=tr:=Yar (by omega);rw[htk] at hP;have hcv:=q3x hO;go_wp2_with fail;go_ret;exact⟨by rw[←hP.out];rfl,hB2⟩
theorem qpb(E T S:ZA)(ne c nt d ns f:Nat)(en:List Int)(hi:Bool)(w:World)(hne:en.length=ne)(he:IS w E en)(hl:ne≤100000):
  Calls Tryz.prog 209 #[.agg #[.slice E ne c,.slice T nt d,.slice S ns f,.bool hi]] w (qzj w (Vv (qfr en ne))):=by
 have hA:=zha w (qln (.slice E ne c) (.slice T nt d) (.slice S ns f) hi);have hb:=bal (Below.refl w.heap.size w) (qln (.slice E ne c) (.slice T nt d) (.slice S ns f) hi);go_enter Tryz.func209,Tryz.ntmps209;go_upto_region 1 with fail;generalize World.alloc w _=w1 at hA hb⊢;have hgl:w.heap.size<w1.heap.size:=(bl hA);obtain⟨gB,hgB⟩: ∃gB,w.heap.size=gB:=⟨_,rfl⟩;rw[hgB] at hA hgl⊢;have O0:=Vh w1 w1.heap.size (zlr _);have b0:=bal (Below.refl w1.heap.size w1) (.cells #[] 3);have HGB:=zhi hgB;clear hgB;go_wp2_with fail;go_loopg [3,4] ne (fun gg v i wr=> ∃(k bo c':Nat) (xs:List Nat),gg+k=ne∧i=.int .i64 (k:Int)∧v=.slice (some ⟨bo,0,none⟩) xs.length c'∧Hid (qfr en k=xs)∧xs.length≤k∧OI w1.heap.size wr (some ⟨bo,0,none⟩) c' (Vv xs)∧Below w1.heap.size w1 wr)
 case atStart=>exact⟨0,_,0,[],by omega,rfl,rfl,rfl,by simp,O0,b0⟩
 case round=>
  clear O0 b0;obtain⟨k,bo,c',xs,hgk,rfl,rfl,hxs,hxl,hO,hbr⟩:=hrel;have hB2:=Qa hb hbr;have hA2:=(hbr.block _ hgl).trans hA;obtain⟨a0,a1,a2,a3⟩:=qdq hA2;by_cases hkl:k<ne
  ·have e0:decide ((k:Int)<(ne:Int))=true:=Yag (by omega);have hkI:(k:Int)<(ne:Int):=by omega
   have hkl2:k<en.length:=by omega
   obtain⟨b,off,rfl,hbl,hc⟩:=(he.keep hB2) (by omega);have hc0:=hc k (en.getD k 0) (by simp[hkl2]);have hst:qfr en (k+1)=xs++(if en.getD k 0= -2 then [k] else []):=by rw[←hxs.out];rfl
   clear hc;generalize en.getD k 0=t at hc0 hst;by_cases h1:t= -2
   ·subst h1;have HT:Hid (qfr en (k+1)=xs++[k]):=hst;clear hst;go_wp2_with (at_builtin;refine Q6 _ rfl _ _ rfl w1.heap.size bo (Vv xs) xs.length c' (Qh xs) rfl (Q4 hO _) wr.heap.size 1 (k:Int) 3 rfl (zha wr _) (by rw[Qh];omega) (by have:=hbr.size;simp;omega) _ rfl ?_;intro g3 c3 w3 o3 gb3 hat3 b3)
    rw[←qbl] at o3;go_roundg (gk-1)
    case measure=>omega
    case rel=>exact⟨k+1,g3,c3,xs++[k],by omega,by go_num,by rw[Yaa];rfl,HT,by simp;omega,o3,(bal hbr _).trans b3⟩
   ·have d1:(t== -2)=false:=by simpa using h1
    have HT:Hid (qfr en (k+1)=xs):=by rw[Hid,hst,Yaq h1,Ybx]
    clear hst h1;go_wp2_with fail;go_roundg (gk-1)
    case measure=>omega
    case rel=>exact⟨k+1,bo,c',xs,by omega,by go_num,rfl,HT,by omega,hO,hbr⟩
  ·obtain rfl:k=ne:=by omega
   have e0:decide ((k:Int)<(k:Int))=false:=Yaf (by omega);go_wp2_with fail;go_ret;unfold qzj;rw[hxs.out];exact⟨_,c',by rw[Qh];rfl,Ql hO hb.size,hB2⟩
theorem qvz(l:List UInt8)(b:UInt8)(acc n:Nat)(h:Lib.decFrom acc (l++[b])=some n): ∃m d,Lib.decFrom acc l=some m∧Lib.digitVal b=some d∧n=m*10+d:=by
 induction l generalizing acc with
 |nil=>
  simp only[Ycj,Lib.decFrom] at h;cases hd:Lib.digitVal b with
  |none=>simp[hd] at h
  |some d=>
   simp only[hd,Option.some.injEq] at h;exact⟨acc,d,rfl,rfl,h.symm⟩
 |cons a t ih=>
  rw[Ybw] at h;simp only[Lib.decFrom] at h⊢;cases ha:Lib.digitVal a with
  |none=>simp[ha] at h
  |some e=>
   simp only[ha] at h⊢;exact ih _ h
theorem qyy{b:UInt8}{d:Nat}(h:Lib.digitVal b=some d):d<10∧UInt8.ofNat (48+d)=b:=by
 obtain⟨d0,d1,hd⟩:=Lib.digitVal_eq h;refine⟨by omega,?_⟩;apply UInt8.toNat_inj.1
 rw[Ycz];omega
theorem q1e(r:List UInt8): ∀m,Lib.decFrom 0 r=some m→r≠[]→r.head?≠some 48→0<m∧Lib.decDigits m=r:=by
 refine quy (P:=fun r=> ∀m,Lib.decFrom 0 r=some m→r≠[]→r.head?≠some 48→0<m∧Lib.decDigits m=r) ?_ ?_ r
 ·intro m _ h;exact absurd rfl h
 ·intro l b ih m h _ hh;obtain⟨m',d,h1,h2,rfl⟩:=qvz l b 0 m h;obtain⟨hd,hb⟩:=qyy h2;cases l with
  |nil=>
   simp only[Lib.decFrom,Option.some.injEq] at h1;subst h1
   have hd0:d≠0:=by
    rintro rfl;exact hh (by rw[←hb];rfl)
   refine⟨by omega,?_⟩;rw[Nat.zero_mul,Ybj,qbm d hd,hb];rfl
  |cons a t=>
   obtain⟨p,q⟩:=ih m' h1 (by simp) (by simpa using hh);refine⟨by omega,?_⟩;have e1:(m'*10+d)/10=m':=by omega
   have e2:(m'*10+d) % 10=d:=by omega
   rw[qh7 _ (by omega),e1,e2,q,hb]
theorem q3y(n:Nat)(h:0<n):(Lib.decDigits n).head?≠some 48:=by
 induction n using Nat.strongRecOn with
 |_ n ih=>
  by_cases h10:n<10
  ·rw[qbm n h10];intro e;simp only[List.head?_cons,Option.some.injEq] at e;have:=congrArg UInt8.toNat e;rw[Ycz] at this;have e48:(48:UInt8).toNat=48:=rfl;omega
  ·rw[qh7 n h10];have hne:=qtp (n/10);cases hl:Lib.decDigits (n/10) with
   |nil=>exact absurd hl hne
   |cons a t=>
    have:=ih (n/10) (by omega) (by omega);rw[hl] at this;simpa using this
def qv0(neg:Bool)(r:List UInt8):Option Nat:=if r.length=0∨17<r.length∨(r.head?=some 48∧(1<r.length∨neg=true)) then none else Lib.decFrom 0 r
def qdf(s:List UInt8):Option Int:=if s.head?=some 45 then(qv0 true s.tail).map (fun(n:Nat)=> -(n:Int)) else(qv0 false s).map (fun(n:Nat)=>(n:Int))
theorem qtv{neg:Bool}{r:List UInt8}{m:Nat}(h:qv0 neg r=some m):r≠[]∧r.length≤17∧Lib.decFrom 0 r=some m∧Lib.decDigits m=r∧(neg=true→0<m):=by
 unfold qv0 at h;split at h
 ·cases h
 ·rename_i hc
  have hc:=fun x=>hc x
  have h0:r≠[]:=by
   rintro rfl;exact hc (.inl rfl)
  have h17:r.length≤17:=by
   apply Ybp
   intro hn;exact hc (.inr (.inl (by omega)))
  by_cases hh:r.head?=some 48
  ·cases r with
   |nil=>exact absurd rfl h0
   |cons a t=>
    obtain rfl:a=48:=by simpa using hh
    cases t with
    |nil=>
     have hm:m=0:=by
      simp only[Lib.decFrom] at h;have:Lib.digitVal 48=some 0:=rfl;rw[this] at h;simpa using h.symm
     subst hm;refine⟨h0,h17,h,by rw[qbm 0 (by decide)];rfl,fun hn=>absurd (.inr (.inr ⟨hh,.inr hn⟩)) hc⟩
    |cons b t=>exact absurd (.inr (.inr ⟨hh,.inl (by simp)⟩)) hc
  ·obtain⟨p,q⟩:=q1e r m h h0 hh;exact⟨h0,h17,h,q,fun _=>p⟩
theorem q1f{neg:Bool}{m:Nat}(h17:(Lib.decDigits m).length≤17)(hn:neg=true→0<m):qv0 neg (Lib.decDigits m)=some m:=by
 have hne:=qtp m;unfold qv0;rw[Yaq,qnt];rintro(h|h|⟨h1,h2⟩)
 ·exact hne (List.length_eq_zero_iff.1 h)
 ·omega
 ·by_cases h0:0<m
  ·exact q3y m h0 h1
  ·obtain rfl:m=0:=by omega
   rw[qbm 0 (by decide)] at h2;rcases h2 with h2|h2
   ·simp at h2
   ·exact h0 (hn h2)
theorem qlp(m:Nat):(Lib.decDigits m).head?≠some 45:=by
 have hm:=qvo m;cases hl:Lib.decDigits m with
 |nil=>simp
 |cons a t=>
  intro e;obtain rfl:a=45:=by simpa using e
  have:=hm 45 (by rw[hl];simp);have e45:(45:UInt8).toNat=45:=rfl;omega
theorem qhh(r:List UInt8):Lib.trimPrefix (45::r) [45]=r:=by simp[Lib.trimPrefix,Lib.hasPrefix,List.isPrefixOf]
theorem qem{s:List UInt8}(h:s.head?≠some 45):Lib.trimPrefix s [45]=s:=by
 cases s with
 |nil=>rfl
 |cons a t=>
  have ha: ¬(45:UInt8)=a:=fun e=>h (by simp[←e])
  simp[Lib.trimPrefix,Lib.hasPrefix,List.isPrefixOf,ha]
theorem q1g{r:List UInt8}{m:Nat}(h0:r≠[])(h:Lib.decFrom 0 r=some m):Lib.decNat r=some m:=by
 unfold Lib.decNat;rw[Yaq (by simpa using h0)];exact h
theorem qna{s:List UInt8}{n:Int}(h:qdf s=some n):Lib.itoa n=s∧Lib.atoi s=some n∧(Lib.trimPrefix s [45]).length≤17∧s.length≤18:=by
 unfold qdf at h;split at h
 ·rename_i hh
  cases hm:qv0 true s.tail with
  |none=>rw[hm] at h;cases h
  |some m=>
   rw[hm] at h;simp only[Yde,Option.some.injEq] at h;subst h;obtain⟨h0,h17,hd,hc,hp⟩:=qtv hm;have hp:=hp rfl;cases s with
   |nil=>simp at hh
   |cons a t=>
    obtain rfl:a=45:=by simpa using hh
    rw[List.tail_cons] at h0 h17 hd hc;refine⟨?_,?_,?_,by simpa using h17⟩
    ·unfold Lib.itoa;rw[Yav (by omega)];have e:(-(m:Int)).natAbs=m:=by omega
     rw[e,hc]
    ·have:=q1g h0 hd;simp[Lib.atoi,this]
    ·rw[qhh];exact h17
 ·rename_i hh
  cases hm:qv0 false s with
  |none=>rw[hm] at h;cases h
  |some m=>
   rw[hm] at h;simp only[Yde,Option.some.injEq] at h;subst h;obtain⟨h0,h17,hd,hc,_⟩:=qtv hm;refine⟨?_,?_,?_,by omega⟩
   ·unfold Lib.itoa;rw[Yaq (by omega),Yam,hc]
   ·have hn:=qm6 (m:Int) (by omega);unfold num at hn;rw[Yam,hc] at hn;exact hn
   ·rw[qem hh];exact h17
theorem q1h{s:List UInt8}{n:Int}(h:Lib.itoa n=s)(hl:(Lib.trimPrefix s [45]).length≤17):qdf s=some n:=by
 subst h;unfold Lib.itoa at hl⊢;split
 ·rename_i hn
  rw[Yav hn,qhh] at hl;unfold qdf;rw[Yav (by simp),List.tail_cons,q1f hl (fun _=>by omega)];simp only[Yde,Option.some.injEq];omega
 ·rename_i hn
  rw[Yaq hn,qem (qlp _)] at hl;unfold qdf;rw[Yaq (qlp _),q1f hl (fun e=>by cases e)];simp only[Yde,Option.some.injEq];omega
theorem q3z(k n:Nat)(h:n<10^(k+1)):(Lib.decDigits n).length≤k+1:=by
 induction k generalizing n with
 |zero=>rw[qbm n (by simpa using h)];simp
 |succ k ih=>
  by_cases h10:n<10
  ·rw[qbm n h10];simp
  ·rw[qh7 n h10,Yaa,Yat];have:=ih (n/10) (by rw[Ydt] at h;omega);omega
theorem qgb{n:Int}(h0:0≤n)(h1:n≤100000):qdf (num n)=some n:=by
 have e:Lib.itoa n=num n:=by
  unfold Lib.itoa num;rw[Yaq (by omega)]
 refine q1h e ?_;rw[qem (by unfold num;exact qlp _)];have:=q3z 5 n.toNat (by omega);unfold num;omega
theorem qv1{s:List UInt8}{sep:List UInt8}(h:Lib.index s sep= -1):Qq sep s=[s]:=by
 have hi:Go.Lib.indexB ⟨s.toArray⟩ ⟨sep.toArray⟩= -1:=h;unfold Qq;rw[Go.Lib.splitB_miss _ _ _ _ hi];rfl
theorem qyz{s:List UInt8}{c:UInt8}{sep:List UInt8}{i:Nat}(h:Lib.index s (c::sep)=i):Qq (c::sep) s=s.take i::Qq (c::sep) (s.drop (i+(c::sep).length)):=by
 have hi:Go.Lib.indexB ⟨s.toArray⟩ ⟨(c::sep).toArray⟩=i:=h;have h1:1≤(⟨(c::sep).toArray⟩:ByteArray).size:=by rw[Go.Lib.size_eq];show 1≤(c::sep).length;simp
 have e1:(⟨s.toArray⟩:ByteArray).extract (i+(⟨(c::sep).toArray⟩:ByteArray).size) (⟨s.toArray⟩:ByteArray).size=⟨(s.drop (i+(c::sep).length)).toArray⟩:=by
  rw[Go.Lib.extract_eq,Go.Lib.size_eq,Go.Lib.size_eq];show(⟨((s.drop (i+(c::sep).length)).take (s.length-(i+(c::sep).length))).toArray⟩:ByteArray)=_;rw[Yar (by simp)]
 have e0:(⟨s.toArray⟩:ByteArray).extract 0 (i+0)=⟨(s.take i).toArray⟩:=by
  rw[Go.Lib.extract_eq];show(⟨((s.drop 0).take (i+0-0)).toArray⟩:ByteArray)=_;rw[List.drop_zero,Nat.add_zero,Yds]
 unfold Qq;rw[Go.Lib.countB_hit _ _ _ h1 hi,e1,Nat.add_comm 1,Go.Lib.splitB_hit _ _ _ _ _ hi,e0,e1];rfl
theorem qd1(c:UInt8)(sep:List UInt8): ∀(k:Nat) (s:List UInt8),s.length≤k→Lib.join (Qq (c::sep) s) (c::sep)=s:=by
 intro k;induction k with
 |zero=>
  intro s hs;obtain rfl:s=[]:=List.length_eq_zero_iff.1 (by omega);rw[qat c sep [] (by simp),Lib.join_one]
 |succ k ih=>
  intro s hs;rcases Lib.index_spec s (c::sep) with⟨hi,_⟩|⟨i,hi,hil,ho,_⟩
  ·rw[qv1 hi,Lib.join_one]
  ·unfold Lib.occAt at ho;obtain⟨r,hr⟩:=List.isPrefixOf_iff_prefix.1 ho
   have hs2:s=s.take i++(c::sep)++r:=by
    rw[Yax,hr,Yco]
   have hil2:(s.take i).length=i:=by rw[Yap];omega
   have hd:s.drop (i+(c::sep).length)=r:=by
    conv=>lhs;rw[hs2]
    rw[←hil2,←Yaa,hil2,List.drop_left'];rw[Yaa,hil2]
   have hrl:r.length≤k:=by
    have:=congrArg List.length hs2;simp only[Yaa,Yau] at this;omega
   rw[qyz hi,hd]
   have hne:Qq (c::sep) r≠[]:=by
    have:=qg3 (c::sep) r (by simp);intro e;rw[e] at this;simp at this
   have:=ih r hrl;cases hp:Qq (c::sep) r with
   |nil=>exact absurd hp hne
   |cons a t=>
    rw[hp] at this;have e:Lib.join (s.take i::a::t) (c::sep)=s.take i++(c::sep)++Lib.join (a::t) (c::sep):=by simp[Lib.join_cons,Lib.joinTail]
    rw[e,this];exact hs2.symm
theorem qhi{m n:Int}(h0:0≤m)(h1:0≤n)(h:num m=num n):m=n:=by
 have a:=qm6 m h0;rw[h,qm6 n h1] at a;exact(Option.some.inj a).symm
theorem q1i{t u:Tk}(ht:vld t=true)(hu:vld u=true)(h:Vp t=Vp u):t=u:=by
 have c:=qnu t;rw[h,qnu u] at c;injection c with cn cr
 injection cr with cr _
 obtain⟨a1,a2,a3,a4,a5⟩:=qao ht;obtain⟨b1,b2,b3,b4,b5⟩:=qao hu
 have low:t.low=u.low∧t.high=u.high∧t.crit=u.crit:=by
  cases hc:t.crit with
  |true=>
   have x:=qiz hc;cases hd:u.crit with
   |true=>
    rw[←cn,qiz hd] at x;injection x with x1 x2
    injection x2 with x2 _
    exact⟨(qhi (by omega) (by omega) x1).symm,(qhi (by omega) (by omega) x2).symm,rfl⟩
   |false=>
    rw[←cn,qks hd] at x;injection x with _ x2
    injection x2 with _ x3
    cases x3
  |false=>
   have x:=qks hc;cases hd:u.crit with
   |true=>
    rw[←cn,qiz hd] at x;injection x with _ x2
    injection x2 with _ x3
    cases x3
   |false=>
    rw[←cn,qks hd] at x;injection x with x1 _
    have e:=(qhi (by omega) (by omega) x1).symm;exact⟨e,by rw[←qu4 ht hc,←qu4 hu hd];exact e,rfl⟩
 have due:t.every=u.every∧t.due=u.due:=by
  by_cases hc:t.due<t.every
  ·have x:=qib hc;by_cases hd:u.due<u.every
   ·rw[←cr,qib hd] at x;injection x with x1 x2
    injection x2 with x2 _
    exact⟨(qhi (by omega) (by omega) x1).symm,(qhi (by omega) (by omega) x2).symm⟩
   ·rw[←cr,qic hd] at x;injection x with _ x2
    injection x2 with _ x3
    cases x3
  ·have x:=qic hc;by_cases hd:u.due<u.every
   ·rw[←cr,qib hd] at x;injection x with _ x2
    injection x2 with _ x3
    cases x3
   ·rw[←cr,qic hd] at x;injection x with x1 _
    have e:=(qhi (by omega) (by omega) x1).symm;exact⟨e,by omega⟩
 obtain⟨l1,l2,l3⟩:=low;obtain⟨d1,d2⟩:=due;cases t
 cases u
 simp only at l1 l2 l3 d1 d2;subst l1 l2 l3 d1 d2;rfl
def q59:List Tk:=(List.range 21).flatMap fun(a:Nat)=>(List.range 21).flatMap fun(b:Nat)=>(List.range 21).flatMap fun(c:Nat)=>(List.range 21).flatMap fun(d:Nat)=>[⟨(a:Int),(b:Int),(c:Int),(d:Int),true⟩,⟨(a:Int),(b:Int),(c:Int),(d:Int),false⟩]
theorem q1k{t:Tk}(h:vld t=true):t∈q59:=by
 obtain⟨a1,a2,a3,a4,a5⟩:=qao h;unfold q59;simp only[Yed,Ybu];refine⟨t.low.toNat,by omega,t.high.toNat,by omega,t.due.toNat,by omega,t.every.toNat,by omega,?_⟩;have e1:(t.low.toNat:Int)=t.low:=by omega
 have e2:(t.high.toNat:Int)=t.high:=by omega
 have e3:(t.due.toNat:Int)=t.due:=by omega
 have e4:(t.every.toNat:Int)=t.every:=by omega
 rw[e1,e2,e3,e4];obtain⟨a,b,c,d,e⟩:=t;cases e<;>simp
def tkO(s:List UInt8):Option Tk:=q59.find? (fun t=>vld t&&(Vp t==s))
theorem qhj{s:List UInt8}{t:Tk}(h:tkO s=some t):vld t=true∧Vp t=s:=by
 have:=List.find?_some h;simpa using this
theorem qhk{s:List UInt8}(h:tkO s=none)(t:Tk)(ht:vld t=true):Vp t≠s:=by
 intro e;have:=List.find?_eq_none.1 h t (q1k ht);simp[ht,e] at this
theorem q47{t:Tk}(ht:vld t=true):tkO (Vp t)=some t:=by
 cases h:tkO (Vp t) with
 |none=>exact absurd rfl (qhk h t ht)
 |some u=>
  obtain⟨hu,e⟩:=qhj h;rw[q1i hu ht e]
def qj8{α:Type}(f:List UInt8→Option α):List (List UInt8)→Option (List α)
 |[]=>some []
 |x::r=>match f x,qj8 f r with
  |some a,some l=>some (a::l)
  |_,_=>none
theorem qxo{α:Type}{f:List UInt8→Option α}{ps:List (List UInt8)}{l:List α}(h:qj8 f ps=some l):l.length=ps.length:=by
 induction ps generalizing l with
 |nil=>
  simp only[qj8,Option.some.injEq] at h;subst h;rfl
 |cons x r ih=>
  simp only[qj8] at h;split at h
  ·rename_i a l' _ hl
   injection h with h
   subst h;simp[ih hl]
  ·cases h
theorem qtw{α:Type}(f:List UInt8→Option α)(ps:List (List UInt8))(x:List UInt8):qj8 f (ps++[x])=match qj8 f ps,f x with
  |some l,some a=>some (l++[a])
  |_,_=>none:=by
 induction ps with
 |nil=>
  simp only[Ycj,qj8];cases f x<;>rfl
 |cons y r ih=>
  rw[Ybw];simp only[qj8,ih];cases f y<;>cases qj8 f r<;>cases f x<;>rfl
theorem q30{α:Type}{f:List UInt8→Option α}{ps qs:List (List UInt8)}(h:qj8 f ps=none):qj8 f (ps++qs)=none:=by
 induction ps with
 |nil=>cases h
 |cons y r ih=>
  rw[Ybw];simp only[qj8] at h⊢;cases hy:f y with
  |none=>rfl
  |some a=>
   rw[hy] at h;cases hr:qj8 f r with
   |none=>rw[ih hr]
   |some l=>rw[hr] at h;cases h
theorem qxp{α:Type}{f:List UInt8→Option α}{g:α→List UInt8}{l:List α}(h: ∀a∈l,f (g a)=some a):qj8 f (l.map g)=some l:=by
 induction l with
 |nil=>rfl
 |cons a r ih=>
  rw[List.map_cons];simp only[qj8];rw[h a (by simp),ih (fun b hb=>h b (Ybn _ hb))]
theorem qtx{α:Type}{f:List UInt8→Option α}{g:α→List UInt8}{q:α→Bool}(hf: ∀s a,f s=some a→q a=true∧g a=s){ps:List (List UInt8)}{l:List α}(h:qj8 f ps=some l):(∀a∈l,q a=true)∧l.map g=ps:=by
 induction ps generalizing l with
 |nil=>
  simp only[qj8,Option.some.injEq] at h;subst h;exact⟨fun a ha=>by simp at ha,rfl⟩
 |cons x r ih=>
  simp only[qj8] at h;split at h
  ·rename_i a l' ha hl
   injection h with h
   subst h;obtain⟨h1,h2⟩:=ih hl;obtain⟨h3,h4⟩:=hf x a ha;refine⟨fun b hb=>?_,by rw[List.map_cons,h4,h2]⟩;rcases Ybz.1 hb with rfl|hb
   ·exact h3
   ·exact h1 b hb
  ·cases h
def qhs(s:List UInt8):Option (List Tk):=if s=[] then some [] else if(Qq [59,32] s).length≤5 then qj8 tkO (Qq [59,32] s) else none
theorem qbf{t:Tk}(h:vld t=true):Qr t=Vp t:=by simp[Qr,h]
theorem qa7{l:List Tk}(h:Qe l=true):l.length≤5∧ ∀t∈l,vld t=true:=by
 have h5:=Vl h;refine⟨h5,fun t ht=>?_⟩;obtain⟨k,hk,rfl⟩:=Ycw ht;have:=Qs h (k:=k) hk;rwa [qbi l k hk] at this
theorem qih{l:List Tk}(h5:l.length≤5)(h: ∀t∈l,vld t=true):Qe l=true:=by
 simp only[Qe,Yac,Yae,Yaz];exact⟨h5,h⟩
theorem q31(t:Tk):Vp t≠[]:=by
 have hn:=qtp t.low.toNat;simp[Vp,num,hn]
theorem q6a{l:List Tk}(h:Qe l=true):qhs (qqd l)=some l:=by
 obtain⟨h5,hv⟩:=qa7 h;by_cases h0:l=[]
 ·subst h0;rfl
 ·have hp:=qvp h0
  have hne:qqd l≠[]:=by
   cases l with
   |nil=>exact absurd rfl h0
   |cons a r=>
    have:=q31 a;simp[qqd,Lib.join_cons,qbf (hv a (by simp)),this]
  unfold qhs;rw[Yaq hne,hp,Yav (by simpa using h5)];refine qxp (fun t ht=>?_);rw[qbf (hv t ht)];exact q47 (hv t ht)
theorem qkv{s:List UInt8}{l:List Tk}(h:qhs s=some l):Qe l=true∧qqd l=s:=by
 unfold qhs at h;split at h
 ·rename_i h0
  injection h with h
  subst h h0;exact⟨rfl,rfl⟩
 ·split at h
  ·rename_i h0 h5
   obtain⟨hv,hm⟩:=qtx (g:=Vp) (q:=vld) (fun s a ha=>qhj ha) h;have hl:=qxo h;refine⟨qih (by omega) hv,?_⟩;have e:l.map Qr=l.map Vp:=Yee (fun t ht=>qbf (hv t ht));unfold qqd;rw[e,hm];exact qd1 59 [32] _ s (zlr _)
  ·cases h
def q6b:List Jb:=(List.range 5).flatMap fun(a:Nat)=>(List.range 201).flatMap fun(b:Nat)=>(List.range 21).map fun(c:Nat)=>⟨(a:Int),(b:Int),(c:Int)⟩
theorem q1l{j:Jb}(h:qbv j=true):j∈q6b:=by
 rw[qbo] at h;unfold q6b;simp only[Yed,Ybu,List.mem_map];refine⟨j.task.toNat,by omega,j.at_.toNat,by omega,j.need.toNat,by omega,?_⟩;have e1:(j.task.toNat:Int)=j.task:=by omega
 have e2:(j.at_.toNat:Int)=j.at_:=by omega
 have e3:(j.need.toNat:Int)=j.need:=by omega
 rw[e1,e2,e3]
theorem q32{t u:Jb}(ht:qbv t=true)(hu:qbv u=true)(h:qfb t=qfb u):t=u:=by
 rw[qbo] at ht hu;have c:=qro t;rw[h,qro u] at c;injection c with c1 c2
 injection c2 with c2 _
 have d:=qnw t;rw[←c2,qnw u] at d;injection d with d1 d2
 injection d2 with d2 _
 have e1:=qhi (by omega) (by omega) c1;have e2:=qhi (by omega) (by omega) d1;have e3:=qhi (by omega) (by omega) d2;cases t
 cases u
 simp only at e1 e2 e3;subst e1 e2 e3;rfl
def jbO(s:List UInt8):Option Jb:=q6b.find? (fun j=>qbv j&&(qfb j==s))
theorem qkw{s:List UInt8}{t:Jb}(h:jbO s=some t):qbv t=true∧qfb t=s:=by
 have:=List.find?_some h;simpa using this
theorem q33{s:List UInt8}(h:jbO s=none)(t:Jb)(ht:qbv t=true):qfb t≠s:=by
 intro e;have:=List.find?_eq_none.1 h t (q1l ht);simp[ht,e] at this
theorem q48{t:Jb}(ht:qbv t=true):jbO (qfb t)=some t:=by
 cases h:jbO (qfb t) with
 |none=>exact absurd rfl (q33 h t ht)
 |some u=>
  obtain⟨hu,e⟩:=qkw h;rw[q32 hu ht e]
def qdr(s:List UInt8):Option (List Jb):=if s=[] then some [] else if(Qq [32] s).length≤60 then qj8 jbO (Qq [32] s) else none
theorem q34{js:List Jb}(h:qdg js=true):qdr (qfu js)=some js:=by
 simp only[qdg,Yac,Yae,Yaz] at h;obtain⟨hv,h60⟩:=h;by_cases h0:js=[]
 ·subst h0;rfl
 ·unfold qdr;rw[Yaq (qxk h0),qmi h0,Yav (by simpa using h60)];exact qxp (fun t ht=>q48 (hv t ht))
theorem qi1{s:List UInt8}{js:List Jb}(h:qdr s=some js):qdg js=true∧qfu js=s:=by
 unfold qdr at h;split at h
 ·rename_i h0
  injection h with h
  subst h h0;exact⟨rfl,rfl⟩
 ·split at h
  ·obtain⟨hv,hm⟩:=qtx (g:=qfb) (q:=qbv) (fun s a ha=>qkw ha) h;have hl:=qxo h;refine⟨?_,?_⟩
   ·simp only[qdg,Yac,Yae,Yaz];exact⟨hv,by omega⟩
   ·unfold qfu;rw[hm];exact qd1 32 [] _ s (zlr _)
  ·cases h
theorem q1m{s:List UInt8}(h:qdr s=none)(js:List Jb):Vf js≠s:=by
 intro e;unfold Vf at e;split at e
 ·rename_i ht
  rw[←e,q34 ht] at h;cases h
 ·subst e;simp[qdr] at h
theorem qgc(s:List UInt8)(k:Nat)(_h:k<s.length)(hq:k<(ByteArray.mk s.toArray).size):(ByteArray.mk s.toArray)[k]'hq=s[k]:=rfl
theorem qcu(s:List UInt8)(m k:Nat):(ByteArray.mk s.toArray).extract m k=ByteArray.mk ((s.drop m).take (k-m)).toArray:=by
 rw[Go.Lib.extract_eq]
theorem qhl{base:Nat}{w:World}{A:ZA}{c:Nat}{xs:List (List UInt8)}(h:OS base w A c xs)(hl:0<xs.length): ∃b,A=some ⟨b,0,none⟩∧b<w.heap.size∧ ∀(k:Nat) (hk:k<xs.length),w.cell? ⟨b,k,none⟩=some (.string ⟨(xs[k]).toArray⟩):=by
 obtain⟨b,rfl,_,hb⟩:=qve h hl;refine⟨b,rfl,hb,fun k hk=>?_⟩;have:=World.ownsRow.cells h (g:=b) rfl k (.string ⟨(xs[k]).toArray⟩) (by simp[qzl,hk]);rwa [qai] at this
theorem qdb(s:List UInt8)(c:UInt8)(w:World)(hl:s.length≤1000000):
  Calls Tryz.prog 45 #[.string ⟨s.toArray⟩,.int .u8 (c.toNat:Int)] w fun e w'=> ∃A cap,e=.returned (.slice A (Qq [c] s).length cap)∧OS w.heap.size w' A cap (Qq [c] s)∧Below w.heap.size w w':=by
 have hsz:(ByteArray.mk s.toArray).size=s.length:=by rw[Go.Lib.size_eq]
 go_enter Tryz.func45,Tryz.ntmps45;go_wp2_with fail;go_loopg [5,6,7] (s.length+1) (fun gg v f i wr=> ∃(k m:Nat) (A:ZA) (cap:Nat) (done:List (List UInt8)),gg+k=s.length+1∧i=.int .i64 (k:Int)∧f=.int .i64 (m:Int)∧v=.slice A done.length cap∧done.length≤k∧OS w.heap.size wr A cap done∧Below w.heap.size w wr∧Hid ((k≤s.length→m≤k∧done++Qq [c] (s.drop m)=Qq [c] s∧c∉(s.drop m).take (k-m))∧(k=s.length+1→done=Qq [c] s)))
 case atStart=>exact⟨0,0,_,0,[],by omega,rfl,rfl,rfl,by simp,qre w _ (zlr _),bal br _,⟨fun _=>⟨by omega,by simp,by simp⟩,fun h=>by omega⟩⟩
 case round=>
  obtain⟨k,m,A,cap,done,hgk,rfl,rfl,rfl,hdk,hO,hb,hI⟩:=hrel;by_cases hk:k≤s.length
  ·have e0:decide ((k:Int)≤(s.length:Int))=true:=Yag (by omega);obtain⟨hmk,hdone,hno⟩:=hI.out.1 hk;have hcut:=qcu s m k;have hmI:(m:Int)≤(k:Int):=by omega
   have hkI:(k:Int)≤(s.length:Int):=by omega
   have hm0:(0:Int)≤(m:Int):=by omega
   by_cases hkl:k<s.length
   ·have e2:((k:Int)==(s.length:Int))=false:=beq_eq_false_iff_ne.2 (by omega);have hidx:=qgc s k hkl (by rw[hsz];exact hkl)
    have hdr:s.drop m=(s.drop m).take (k-m)++(s[k]::[])++s.drop (k+1):=by
     have h1:(s.drop m).drop (k-m)=s[k]::s.drop (k+1):=by
      rw[List.drop_drop,show m+(k-m)=k by omega];exact Ybo hkl
     conv=>lhs;rw[←Yco (k-m) (s.drop m),h1]
     simp
    have htk:(s.drop m).take (k+1-m)=(s.drop m).take (k-m)++[s[k]]:=by
     have hlt:k-m<(s.drop m).length:=by rw[Ybm];omega
     rw[show k+1-m=k-m+1 by omega,Yad hlt];congr 1
     simp only[List.getElem_drop];congr 2
     omega
    have hkl2:(k:Int)<(s.length:Int):=by omega
    generalize s[k]=b at hidx hdr htk;by_cases hbc:b=c
    ·subst hbc;have e1:((b.toNat:Int)==(b.toNat:Int))=true:=by simp
     have hnx:Hid (done++[(s.drop m).take (k-m)]++Qq [b] (s.drop (k+1))=Qq [b] s):=by
      rw[Hid,←hdone];conv=>rhs;rw[hdr,qab b [] _ _ hno]
      simp
     generalize(s.drop m).take (k-m)=seg at hcut hnx;clear hdr htk hdone hno hI;go_wp2_with (at_builtin;refine qgk _ rfl _ _ rfl w.heap.size A done done.length cap rfl ?a1 ?a2 wr.heap.size 1 seg 9 ?a3 ?a4 ?a5 ?a6 ?_;(case a1=>exact rfl);(case a2=>exact qf9 hO _);(case a3=>exact rfl);(case a4=>exact zha wr _);(case a5=>omega);(case a6=>have:=hb.size;simp;omega);intro A3 c3 w3 o3 g3 b3)
     go_roundg (gk-1)
     case measure=>omega
     case rel=>exact⟨k+1,k+1,A3,c3,done++[seg],by omega,by go_num,by go_num,by rw[Yaa];rfl,by simp;omega,o3,(bal hb _).trans b3,⟨fun h=>⟨zlr _,hnx.out,by simp⟩,fun h=>by omega⟩⟩
    ·have e1:((b.toNat:Int)==(c.toNat:Int))=false:=beq_eq_false_iff_ne.2 (fun e=>hbc (UInt8.toNat_inj.1 (by omega)))
     have hno2:Hid (c∉(s.drop m).take (k+1-m)):=by
      rw[Hid,htk,Ybq,Yaw];rintro(h|h)
      ·exact hno h
      ·exact hbc h.symm
     have HD:=zhi hdone;clear hdr htk hdone hno hI hcut hbc;go_wp2_with fail;go_roundg (gk-1)
     case measure=>omega
     case rel=>exact⟨k+1,m,A,cap,done,by omega,by go_num,rfl,rfl,by omega,hO,hb,⟨fun h=>⟨by omega,HD.out,hno2.out⟩,fun h=>by omega⟩⟩
   ·obtain rfl:k=s.length:=by omega
    have e2:((s.length:Int)==(s.length:Int))=true:=by simp
    have hall:(s.drop m).take (s.length-m)=s.drop m:=Yar (by simp);rw[hall] at hno hcut
    have hnx:Hid (done++[s.drop m]=Qq [c] s):=by
     rw[Hid,←hdone,qat c [] _ hno]
    generalize s.drop m=seg at hcut hnx;clear hdone hno hI hall;go_wp2_with (at_builtin;refine qgk _ rfl _ _ rfl w.heap.size A done done.length cap rfl ?a1 ?a2 wr.heap.size 1 seg 9 ?a3 ?a4 ?a5 ?a6 ?_;(case a1=>exact rfl);(case a2=>exact qf9 hO _);(case a3=>exact rfl);(case a4=>exact zha wr _);(case a5=>omega);(case a6=>have:=hb.size;simp;omega);intro A3 c3 w3 o3 g3 b3)
    go_roundg (gk-1)
    case measure=>omega
    case rel=>exact⟨s.length+1,s.length+1,A3,c3,done++[seg],by omega,by go_num,by go_num,by rw[Yaa];rfl,by simp;omega,o3,(bal hb _).trans b3,⟨fun h=>by omega,fun h=>hnx.out⟩⟩
  ·obtain rfl:k=s.length+1:=by omega
   have e0:decide (((s.length+1:Nat):Int)≤(s.length:Int))=false:=Yaf (by omega);have hP:=zhi (hI.out.2 rfl);go_wp2_with fail;go_ret;rw[←hP.out];exact⟨A,cap,rfl,hO,hb⟩
theorem q1n(a:UInt8)(r:List UInt8)(h:a=45):qdf (a::r)=(qv0 true r).map (fun(n:Nat)=> -(n:Int)):=by
 subst h;rfl
theorem qy0{s:List UInt8}(h:s.head?≠some 45):qdf s=(qv0 false s).map (fun(n:Nat)=>(n:Int)):=by
 unfold qdf;rw[Yaq h]
def sgn(neg:Bool)(n:Nat):Int:=if neg then-(n:Int) else n
theorem qch(s:List UInt8)(w:World)(hl:s.length≤1000000):
  Calls Tryz.prog 96 #[.string ⟨s.toArray⟩] w fun e w'=> ∃n,e=.returned (.tuple #[.int .i64 n,.bool (qdf s).isSome])∧(∀m,qdf s=some m→n=m)∧Below w.heap.size w w':=by
 have hsz:(ByteArray.mk s.toArray).size=s.length:=by rw[Go.Lib.size_eq]
 go_enter Tryz.func96,Tryz.ntmps96;go_upto_region 1 with fail;go_cut [4] from 7 to 15 (fun g wc=>g=.bool (decide (s.head?=some 45))∧w=wc)
 case first=>
  cases s with
  |nil=>
   go_wp2_with fail;go_meet
   exact⟨rfl,rfl⟩
  |cons a r=>
   have h0:decide (((a::r).length:Int)>0)=true:=Yag (by simp);have h0':(0:Int)<(((a::r).length:Nat):Int):=by simp
   have hidx:=qgc (a::r) 0 (by simp) (by rw[hsz];simp);simp only[Ycb] at hidx;by_cases ha:a=45
   ·have e1:((a.toNat:Int)==45)=true:=by rw[ha];rfl
    have HA:=zhi ha;clear ha;go_wp2_with fail;go_meet
    exact⟨by simp[HA.out],rfl⟩
   ·have e1:((a.toNat:Int)==45)=false:=beq_eq_false_iff_ne.2 (fun e=>ha (UInt8.toNat_inj.1 (by
     have:(45:UInt8).toNat=45:=rfl;omega)))
    have HA:=zhi ha;clear ha;go_wp2_with fail;go_meet
    exact⟨by simp[HA.out],rfl⟩
 case rest=>
  obtain⟨rfl,rfl⟩:=hcut;obtain⟨neg,hneg⟩: ∃neg,decide (s.head?=some 45)=neg:=⟨_,rfl⟩;rw[hneg];have HNEG:=zhi hneg;clear hneg;go_upto_if 15 with fail
  go_cut [0] from 16 to 18 (fun t wc=> ∃r:List UInt8,t=.string ⟨r.toArray⟩∧r.length≤1000000∧Hid (qdf s=(qv0 neg r).map (sgn neg))∧w=wc)
  case first=>
   cases neg with
   |true=>
    have hh:s.head?=some 45:=of_decide_eq_true HNEG.out;cases s with
    |nil=>cases hh
    |cons a r=>
     obtain rfl:a=45:=by simpa using hh
     have hcut:=qcu (45::r) 1 (r.length+1);have hr:((45::r).drop 1).take (r.length+1-1)=r:=by simp
     rw[hr] at hcut;have hrl:r.length≤1000000:=by simp at hl;omega
     have h1I:(1:Int)≤(r.length:Int)+1:=by omega
     have HN:Hid (qdf (45::r)=(qv0 true r).map (sgn true)):=q1n 45 r rfl;clear hr hh;go_wp2_with fail;go_meet
     exact⟨r,rfl,hrl,HN,rfl⟩
   |false=>
    have hh: ¬s.head?=some 45:=of_decide_eq_false HNEG.out;have HN:Hid (qdf s=(qv0 false s).map (sgn false)):=qy0 hh;clear hh;go_wp2_with fail;go_meet
    exact⟨s,rfl,hl,HN,rfl⟩
  case rest=>
   obtain⟨r,rfl,hrl,HN,rfl⟩:=hcut;clear hsz hl;have hsz:(ByteArray.mk r.toArray).size=r.length:=by rw[Go.Lib.size_eq]
   clear HNEG;by_cases hC:r.length=0∨17<r.length∨(r.head?=some 48∧(1<r.length∨neg=true))
   ·have HM:Hid (qdf s=none):=by
     rw[Hid,HN.out];unfold qv0;rw[Yav hC];rfl
    have fin: ∀w',Below w.heap.size w w'→ ∃n,Ending.returned (.tuple #[.int .i64 0,.bool false])=.returned (.tuple #[.int .i64 n,.bool (qdf s).isSome])∧(∀m,qdf s=some m→n=m)∧Below w.heap.size w w':=by
     intro w' hb;rw[HM.out];exact⟨0,rfl,fun m hm=>(by cases hm),hb⟩
    rcases hC with h0|h17|⟨hh,h1⟩
    ·have e1:((r.length:Int)==0)=true:=by simp[h0]
     go_wp2_with fail;go_ret2;exact fin _ br
    ·have e1:((r.length:Int)==0)=false:=beq_eq_false_iff_ne.2 (by omega);have e2:decide ((r.length:Int)>17)=true:=Yag (by omega);have e3:(17:Int)<(r.length:Int):=by omega
     go_wp2_with fail;go_ret2;exact fin _ br
    ·by_cases h17:17<r.length
     ·have e1:((r.length:Int)==0)=false:=beq_eq_false_iff_ne.2 (by omega);have e3:(17:Int)<(r.length:Int):=by omega
      go_wp2_with fail;go_ret2;exact fin _ br
     ·have hr0:0<r.length:=by
       cases r with
       |nil=>cases hh
       |cons a t=>simp
      have e1:((r.length:Int)==0)=false:=beq_eq_false_iff_ne.2 (by omega);have e3: ¬(17:Int)<(r.length:Int):=by omega
      have hidx:=qgc r 0 hr0 (by rw[hsz];exact hr0)
      have hr48:r[0]=48:=by
       cases r with
       |nil=>cases hh
       |cons a t=>simpa using hh
      rw[hr48] at hidx;have hr0I:(0:Int)<(r.length:Int):=by omega
      clear hr48 hh;rcases h1 with h1|h1
      ·have e4:(1:Int)<(r.length:Int):=by omega
       go_wp2_with fail;go_ret2;exact fin _ br
      ·subst h1;go_wp2_with fail
       all_goals
        go_ret2;exact fin _ br
   ·have hC0:r.length≠0:=fun h=>hC (.inl h)
    have hC1: ¬17<r.length:=fun h=>hC (.inr (.inl h))
    have HM:Hid (qdf s=(Lib.decFrom 0 r).map (sgn neg)):=by
     rw[Hid,HN.out];unfold qv0;rw[Yaq hC]
    have hr0:0<r.length:=by omega
    have e1:((r.length:Int)==0)=false:=beq_eq_false_iff_ne.2 (by omega);have e3: ¬(17:Int)<(r.length:Int):=by omega
    have hidx0:=qgc r 0 hr0 (by rw[hsz];exact hr0);have hr0I:(0:Int)<(r.length:Int):=by omega
    have hcs:Hid (((r[0].toNat:Int)==48)=false∨(((r[0].toNat:Int)==48)=true∧ ¬(1:Int)<(r.length:Int)∧neg=false)):=by
     by_cases hh:r[0]=48
     ·refine .inr ⟨by rw[hh];rfl,?_,?_⟩
      ·intro h
       exact hC (.inr (.inr ⟨by cases r with
        |nil=>simp at hr0
        |cons a t=>simpa using hh,.inl (by omega)⟩))
      ·cases neg with
       |false=>rfl
       |true=>exact absurd (.inr (.inr ⟨by cases r with
        |nil=>simp at hr0
        |cons a t=>simpa using hh,.inr rfl⟩)) hC
     ·exact .inl (beq_eq_false_iff_ne.2 (fun e=>hh (UInt8.toNat_inj.1 (by
       have:(48:UInt8).toNat=48:=rfl;omega))))
    generalize r[0]=b0 at hidx0 hcs;clear hC hC0;go_upto_region 4 with fail;go_cut [38] from 18 to 39 (fun g wc=>g=.bool false∧w=wc)
    case first=>
     rcases hcs.out with h8|⟨h8,h9,h10⟩
     ·go_wp2_with fail;go_meet
      exact⟨rfl,rfl⟩
     ·subst h10;go_wp2_with fail;go_meet
      exact⟨rfl,rfl⟩
    case rest=>
     obtain⟨rfl,rfl⟩:=hcut;clear hcs hidx0 hr0I e3 e1;go_wp2_with fail;go_loopg [5,6] r.length (fun gg v i wr=> ∃(k acc:Nat),gg+k=r.length∧i=.int .i64 (k:Int)∧v=.int .i64 (acc:Int)∧acc<100000000000000000∧Hid (Lib.decFrom 0 (r.take k)=some acc)∧Below w.heap.size w wr)
     case atStart=>exact⟨0,0,by omega,rfl,rfl,by omega,rfl,br⟩
     case round=>
      obtain⟨k,acc,hgk,rfl,rfl,hacc,hD,hb⟩:=hrel;by_cases hkl:k<r.length
      ·have e0:decide ((k:Int)<(r.length:Int))=true:=Yag (by omega);have hkI:(k:Int)<(r.length:Int):=by omega
       have hidx:=qgc r k hkl (by rw[hsz];exact hkl);have hget:r[k]? =some r[k]:=by simp[hkl]
       generalize r[k]=b at hidx hget;have hb256:=b.toNat_lt;by_cases h48:(b.toNat:Int)<48
       ·have HF:Hid (qdf s=none):=by
         rw[Hid,HM.out];cases hf:Lib.decFrom 0 r with
         |none=>rfl
         |some n=>
          obtain⟨d,hd⟩:=Lib.digit_of_decFrom r 0 n hf k b hget;have:=Lib.digitVal_eq hd;omega
        go_wp2_with fail;go_ret2;rw[HF.out];exact⟨0,rfl,fun m hm=>(by cases hm),hb⟩
       ·by_cases h57:57<(b.toNat:Int)
        ·have HF:Hid (qdf s=none):=by
          rw[Hid,HM.out];cases hf:Lib.decFrom 0 r with
          |none=>rfl
          |some n=>
           obtain⟨d,hd⟩:=Lib.digit_of_decFrom r 0 n hf k b hget;have:=Lib.digitVal_eq hd;omega
         go_wp2_with fail;go_ret2;rw[HF.out];exact⟨0,rfl,fun m hm=>(by cases hm),hb⟩
        ·have hdv:Lib.digitVal b=some (b.toNat-48):=by
          unfold Lib.digitVal;rw[Yav (by omega)]
         have hst:=Lib.decFrom_take r k 0 acc b (b.toNat-48) hD.out hget hdv;have hlt:=Lib.decFrom_take_lt (l:=r) (k:=k+1) hst (by omega);have HS:=zhi hst;have qw1:IntKind.u8.wrap ((b.toNat:Int)-48)=(b.toNat:Int)-48:=IntWalk.u8_in _ ⟨by omega,by omega⟩;have qw2:IntKind.i64.wrap ((acc:Int)*10)=(acc:Int)*10:=Yai _ (by omega);have qw3:IntKind.i64.wrap ((acc:Int)*10+((b.toNat:Int)-48))=(acc:Int)*10+((b.toNat:Int)-48):=Yai _ (by omega);have qw4:IntKind.i64.wrap ((b.toNat:Int)-48)=(b.toNat:Int)-48:=Yai _ (by omega);clear hst hdv hget;go_wp2_with fail;go_roundg (gk-1)
         case measure=>omega
         case rel=>exact⟨k+1,acc*10+(b.toNat-48),by omega,by go_num,by congr 1;omega,hlt,HS,hb⟩
      ·obtain rfl:k=r.length:=by omega
       have e0:decide ((r.length:Int)<(r.length:Int))=false:=Yaf (by omega);have hD2:=hD.out;rw[Ybi] at hD2;have HF:Hid (qdf s=some (sgn neg acc)):=by rw[Hid,HM.out,hD2];rfl
       have qn:IntKind.i64.wrap (-(acc:Int))= -(acc:Int):=Yai _ (by omega);clear hD2 hD;cases neg with
       |true=>
        go_wp2_with fail;go_ret2;rw[HF.out];exact⟨_,rfl,fun m hm=>(by injection hm),hb⟩
       |false=>
        go_wp2_with fail;go_ret2;rw[HF.out];exact⟨_,rfl,fun m hm=>(by injection hm),hb⟩
theorem qv2(u:Tk):Qq [47] (qcm u)=if u.crit then [num u.low,num u.high] else [num u.low]:=by
 unfold qcm qhd;cases u.crit with
 |true=>
  have e:num u.low++(if true=true then 47::num u.high else [])=num u.low++(47::[])++num u.high:=by simp
  rw[e,qab 47 [] _ _ (qcg 47 _ (by decide)),qat 47 [] _ (qcg 47 _ (by decide))];rfl
 |false=>
  have e:num u.low++(if false=true then 47::num u.high else [])=num u.low:=by simp
  rw[e,qat 47 [] _ (qcg 47 _ (by decide))];rfl
theorem qqo(u:Tk):(32:UInt8)∉qcm u:=by
 unfold qcm qhd;intro h;rw[Ybq] at h;rcases h with h|h
 ·exact qcg 32 _ (by decide) h
 ·split at h
  ·simp only[Ybz] at h;rcases h with h|h
   ·revert h;decide
   ·exact qcg 32 _ (by decide) h
  ·simp at h
theorem qv3(u:Tk):Qq [32] (Vp u)=if u.due<u.every then [qcm u,[101,118,101,114,121],num u.every,[98,121],num u.due] else [qcm u,[101,118,101,114,121],num u.every]:=by
 by_cases h:u.due<u.every
 ·have e:Vp u=qcm u++(32::[])++([101,118,101,114,121]++(32::[])++(num u.every++(32::[])++([98,121]++(32::[])++num u.due))):=by simp[Vp,qcm,qsj,h]
  rw[e,Yav h,qab 32 [] _ _ (qqo u),qab 32 [] _ _ (by decide),qab 32 [] _ _ (qcg 32 _ (by decide)),qab 32 [] _ _ (by decide),qat 32 [] _ (qcg 32 _ (by decide))]
 ·have e:Vp u=qcm u++(32::[])++([101,118,101,114,121]++(32::[])++num u.every):=by simp[Vp,qcm,qsj,h]
  rw[e,Yaq h,qab 32 [] _ _ (qqo u),qab 32 [] _ _ (by decide),qat 32 [] _ (qcg 32 _ (by decide))]
theorem qty(c:UInt8)(s:List UInt8):Qq [c] s≠[]:=by
 have:=qg3 [c] s (by simp);intro e;rw[e] at this;simp at this
theorem q1o(c:UInt8)(x:List UInt8)(h:c∈x): ∃a b,x=a++(c::[])++b∧c∉a:=by
 induction x with
 |nil=>cases h
 |cons d x ih=>
  by_cases e:d=c
  ·exact⟨[],x,by rw[e];rfl,by simp⟩
  ·obtain⟨a,b,hx,ha⟩:=ih (by
    rcases Ybz.1 h with h|h
    ·exact absurd h.symm e
    ·exact h)
   refine⟨d::a,b,by rw[hx];rfl,?_⟩;rintro h;rcases Ybz.1 h with h|h
   ·exact e h.symm
   ·exact ha h
theorem qfx(c:UInt8): ∀(k:Nat) (s:List UInt8),s.length≤k→ ∀x∈Qq [c] s,x.length≤s.length:=by
 intro k;induction k with
 |zero=>
  intro s hs x hx;obtain rfl:s=[]:=List.length_eq_zero_iff.1 (by omega);rw[qat c [] [] (by simp)] at hx;simp at hx;rw[hx];exact zlr _
 |succ k ih=>
  intro s hs x hx;by_cases hc:c∈s
  ·obtain⟨a,b,rfl,ha⟩:=q1o c s hc;rw[qab c [] a b ha] at hx;simp at hs⊢;rcases Ybz.1 hx with rfl|hx
   ·omega
   ·have:=ih b (by omega) x hx;omega
  ·rw[qat c [] s hc] at hx;simp at hx;rw[hx];exact zlr _
theorem qen(c:UInt8)(s:List UInt8):(Qq [c] s).length≤s.length+1:=by
 have h:=qg3 [c] s (by simp);have h1:=Go.Lib.countB_le ⟨[c].toArray⟩ (by rw[Go.Lib.size_eq];simp) _ ⟨s.toArray⟩ (zlr _);rw[Go.Lib.size_eq] at h1;have h1:Go.Lib.countB ⟨s.toArray⟩ ⟨[c].toArray⟩≤s.length:=h1;omega
def q35(s:List UInt8)(w:World)(e:Ending)(w':World):Prop:= ∃(lo hi:Int) (cr ok:Bool),e=.returned (.tuple #[Tk.val ⟨lo,hi,0,0,cr⟩,.bool ok])∧(∀u,vld u=true→qcm u=s→ok=true∧lo=u.low∧hi=u.high∧cr=u.crit)∧Below w.heap.size w w'
theorem qv4(s:List UInt8)(w:World)(hl:s.length≤1000000):
  Calls Tryz.prog 154 #[.string ⟨s.toArray⟩] w (q35 s w):=by
 have hle:=qfx 47 _ s (zlr _);have hpn:=fun(u:Tk) (h:qcm u=s)=>(by rw[←h];exact qv2 u:Qq [47] s=if u.crit then [num u.low,num u.high] else [num u.low])
 have hne:=qty 47 s;go_enter Tryz.func154,Tryz.ntmps154;go_wp2_with fail;refine(qdb s 47 _ hl).mono ?_;rintro e w1 ⟨A,cap,rfl,hO,b1⟩;have r1:=(b1.block _ (by simp)).trans (zha w (.cells #[.int .i64 0,.int .i64 0,.int .i64 0,.int .i64 0,.bool false] 58 (0,0)));have B1:=Qa (bal (Below.refl w.heap.size w) _) b1;have hg:w.heap.size<w1.heap.size:=zlt (by simp) b1.size;clear b1;obtain⟨g,hgE⟩: ∃g,w.heap.size=g:=⟨_,rfl⟩;rw[hgE] at r1 hg⊢;generalize Qq [47] s=ps at*;cases ps with
 |nil=>exact absurd rfl hne
 |cons a q=>
  obtain⟨b,rfl,hbl,hc⟩:=qhl hO (by simp);have ca:=hc 0 (by simp);simp only[Ycb] at ca;have hal:=hle a (by simp);have hlq:(0:Int)<(((a::q).length:Nat):Int):=by simp
  go_wp2_with fail;refine(qch a _ (by omega)).mono ?_;rintro e w2 ⟨lo,rfl,hlo,b2⟩;have r2:=bh b2 r1;have B2:=Qa B1 b2;cases q with
  |nil=>
   have t3:=zha w2 (.cells #[.int .i64 lo,.int .i64 lo,.int .i64 0,.int .i64 0,.bool false] 58 (0,0));have b3:=bal (Below.refl w2.heap.size w2) (.cells #[.int .i64 lo,.int .i64 lo,.int .i64 0,.int .i64 0,.bool false] 58 (0,0));have r3:=bh b3 r2;have B3:=Qa B2 b3;go_upto_region 4 with fail;obtain⟨t,htE⟩: ∃t,w2.heap.size=t:=⟨_,rfl⟩;rw[htE] at t3⊢;generalize World.alloc w2 _=w3 at t3 r3 B3⊢;obtain⟨t0,t1,t2,t3',t4,tf⟩:=Qc t3;obtain⟨z0,z1,z2,z3,z4,zf⟩:=Qc r3;have HB:=zhi (show Below w.heap.size w _ from bst (bst (bst (bst (bst B3 (p:=⟨g,0,none⟩) (by rw[←hgE];exact zlr _) (.int .i64 lo)) (p:=⟨g,1,none⟩) (by rw[←hgE];exact zlr _) (.int .i64 lo)) (p:=⟨g,2,none⟩) (by rw[←hgE];exact zlr _) (.int .i64 0)) (p:=⟨g,3,none⟩) (by rw[←hgE];exact zlr _) (.int .i64 0)) (p:=⟨g,4,none⟩) (by rw[←hgE];exact zlr _) (.bool false))
   have HY:Hid (∀u,vld u=true→qcm u=s→(qdf a).isSome=true∧lo=u.low∧lo=u.high∧false=u.crit):=by
    intro u hu hs;have hb:=qao hu;have hp:=hpn u hs;cases hcr:u.crit with
    |true=>rw[hcr] at hp;simp at hp
    |false=>
     rw[hcr] at hp;simp at hp;have hn:=qgb (n:=u.low) (by omega) (by omega);rw[←hp] at hn;have h1:=hlo _ hn;exact⟨by rw[hn];rfl,h1,by rw[←qu4 hu hcr];exact h1,rfl⟩
   clear hpn hlo hle hgE htE;go_wp2_with fail;refine bodyPost_ret (v:=.tuple #[Tk.val ⟨lo,lo,0,0,false⟩,.bool (qdf a).isSome]) (by simp[results,Tryz.results154,go_sem,z0,z1,z2,z3,z4]) rfl ⟨lo,lo,false,_,rfl,HY.out,HB.out⟩
  |cons b' q'=>
   have t3:=zha w2 (.cells #[.int .i64 lo,.int .i64 lo,.int .i64 0,.int .i64 0,.bool false] 58 (0,0));have b3:=bal (Below.refl w2.heap.size w2) (.cells #[.int .i64 lo,.int .i64 lo,.int .i64 0,.int .i64 0,.bool false] 58 (0,0));have r3:=bh b3 r2;have B3:=Qa B2 b3;have htg:g<w2.heap.size:=(bl r2);have cb:=hc 1 (by simp);have hb12:=(b2.trans (b3.mono b2.size)).cell (p:=⟨b,1,none⟩) hbl;rw[cb] at hb12;simp only[Ycx,Ycb] at hb12;have hbl':=hle b' (by simp);have hlq1:(1:Int)<(((a::b'::q').length:Nat):Int):=by simp;omega
   have e0:((((a::b'::q').length:Nat):Int)==1)=false:=beq_eq_false_iff_ne.2 (by simp;omega);go_upto_region 4 with fail;obtain⟨t,htE⟩: ∃t,w2.heap.size=t:=⟨_,rfl⟩;rw[htE] at t3 htg⊢;generalize World.alloc w2 _=w3 at t3 r3 B3 hb12⊢;clear ca cb hc b2 b3 r2 B2 B1 r1 htE;go_wp2_with fail;refine(qch b' _ (by omega)).mono ?_;rintro e w4 ⟨hi,rfl,hhi,b4⟩;have t4:=bh b4 t3;have r4:=bh b4 r3;have B4:=Qa B3 b4;clear t3 r3 b4 B3 hb12;obtain⟨t0,t1,t2,t3',t4',tf⟩:=Qc t4;have t5:=qa5 t4 (i:=1) (.int .i64 hi);have t6:=qa5 t5 (i:=4) (.bool true);have r5:=(Yal (w4.setCell ⟨t,1,none⟩ (.int .i64 hi)) ⟨t,4,none⟩ (.bool true) g (by simp;omega)).trans ((Yal w4 ⟨t,1,none⟩ (.int .i64 hi) g (by simp;omega)).trans r4);have hwt:w.heap.size≤t:=by omega
   have B5:=bst (bst B4 (p:=⟨t,1,none⟩) hwt (.int .i64 hi)) (p:=⟨t,4,none⟩) hwt (.bool true);go_upto_region 9 with fail;generalize World.setCell (World.setCell w4 _ _) _ _=w5 at t6 r5 B5⊢;clear t0 t1 t2 t3' t4' tf t4 t5 r4 B4;obtain⟨t0,t1,t2,t3',t4',tf⟩:=Qc t6;obtain⟨z0,z1,z2,z3,z4,zf⟩:=Qc r5;have HB:=zhi (show Below w.heap.size w _ from bst (bst (bst (bst (bst B5 (p:=⟨g,0,none⟩) (by rw[←hgE];exact zlr _) (.int .i64 lo)) (p:=⟨g,1,none⟩) (by rw[←hgE];exact zlr _) (.int .i64 hi)) (p:=⟨g,2,none⟩) (by rw[←hgE];exact zlr _) (.int .i64 0)) (p:=⟨g,3,none⟩) (by rw[←hgE];exact zlr _) (.int .i64 0)) (p:=⟨g,4,none⟩) (by rw[←hgE];exact zlr _) (.bool true));obtain⟨ok,hok⟩: ∃ok,((qdf a).isSome&&(qdf b').isSome&&decide (q'=[]))=ok:=⟨_,rfl⟩
   have HY:Hid (∀u,vld u=true→qcm u=s→ok=true∧lo=u.low∧hi=u.high∧true=u.crit):=by
    intro u hu hs;have hb:=qao hu;have hp:=hpn u hs;cases hcr:u.crit with
    |false=>rw[hcr] at hp;simp at hp
    |true=>
     rw[hcr] at hp;simp at hp;obtain⟨p1,p2,p3⟩:=hp;have hn:=qgb (n:=u.low) (by omega) (by omega);rw[←p1] at hn;have hn2:=qgb (n:=u.high) (by omega) (by omega);rw[←p2] at hn2;exact⟨by rw[←hok,hn,hn2,p3];rfl,hlo _ hn,hhi _ hn2,rfl⟩
   have HK:=zhi hok;clear hpn hlo hhi hle hgE hok;cases h1:(qdf a).isSome with
   |false=>
    have HO:Hid (ok=false):=by rw[Hid,←HK.out,h1];rfl
    go_wp2_with fail;refine bodyPost_ret (v:=.tuple #[Tk.val ⟨lo,hi,0,0,true⟩,.bool false]) (by simp[results,Tryz.results154,go_sem,z0,z1,z2,z3,z4]) rfl ⟨lo,hi,true,ok,by rw[HO.out],HY.out,HB.out⟩
   |true=>
    cases h2:(qdf b').isSome with
    |false=>
     have HO:Hid (ok=false):=by rw[Hid,←HK.out,h1,h2];rfl
     go_wp2_with fail;refine bodyPost_ret (v:=.tuple #[Tk.val ⟨lo,hi,0,0,true⟩,.bool false]) (by simp[results,Tryz.results154,go_sem,z0,z1,z2,z3,z4]) rfl ⟨lo,hi,true,ok,by rw[HO.out],HY.out,HB.out⟩
    |true=>
     cases q' with
     |nil=>
      have HO:Hid (ok=true):=by rw[Hid,←HK.out,h1,h2];rfl
      go_wp2_with fail;refine bodyPost_ret (v:=.tuple #[Tk.val ⟨lo,hi,0,0,true⟩,.bool true]) (by simp[results,Tryz.results154,go_sem,z0,z1,z2,z3,z4]) rfl ⟨lo,hi,true,ok,by rw[HO.out],HY.out,HB.out⟩
     |cons x y=>
      have HO:Hid (ok=false):=by rw[Hid,←HK.out,h1,h2];rfl
      have e2:(((y.length:Int)+1+1+1)==2)=false:=beq_eq_false_iff_ne.2 (by omega);go_wp2_with fail;refine bodyPost_ret (v:=.tuple #[Tk.val ⟨lo,hi,0,0,true⟩,.bool false]) (by simp[results,Tryz.results154,go_sem,z0,z1,z2,z3,z4]) rfl ⟨lo,hi,true,ok,by rw[HO.out],HY.out,HB.out⟩
def qla(o:Option Tk):Value:=.tuple #[(o.getD ⟨0,0,0,0,false⟩).val,.bool o.isSome]
theorem qxq{s:List UInt8}(h: ∀u,vld u=true→Vp u=s→False):tkO s=none:=by
 cases ht:tkO s with
 |none=>rfl
 |some u=>exact absurd (qhj ht).2 (fun e=>h u (qhj ht).1 e)
theorem qgn(s:List UInt8)(w:World)(hl:s.length≤1000000):
  Calls Tryz.prog 93 #[.string ⟨s.toArray⟩] w fun e w'=>e=.returned (qla (tkO s))∧Below w.heap.size w w':=by
 have hle:=qfx 32 _ s (zlr _);have hpn:=fun(u:Tk) (h:Vp u=s)=>(by rw[←h];exact qv3 u:Qq [32] s=if u.due<u.every then [qcm u,[101,118,101,114,121],num u.every,[98,121],num u.due] else [qcm u,[101,118,101,114,121],num u.every])
 have hs0:Qq [32] s=[]∨(Qq [32] s).length=1∨s≠[]:=by
  by_cases h:s=[]
  ·subst h;rw[qat 32 [] [] (by simp)];exact .inr (.inl rfl)
  ·exact .inr (.inr h)
 go_enter Tryz.func93,Tryz.ntmps93;go_wp2_with fail;refine(qdb s 32 _ hl).mono ?_;rintro e w1 ⟨A,cap,rfl,hO,b1⟩;have r1:=(b1.block _ (by simp)).trans (zha w (.cells #[.int .i64 0,.int .i64 0,.int .i64 0,.int .i64 0,.bool false] 58 (0,0)));have B1:=Qa (bal (Below.refl w.heap.size w) _) b1;have hg:w.heap.size<w1.heap.size:=zlt (by simp) b1.size;clear b1;obtain⟨g,hgE⟩: ∃g,w.heap.size=g:=⟨_,rfl⟩;rw[hgE] at r1 hg⊢;have hgw:w.heap.size≤g:=by omega
 clear hgE;obtain⟨z0,z1,z2,z3,z4,zf⟩:=Qc r1;generalize Qq [32] s=ps at*;by_cases h35:ps.length=3∨ps.length=5
 case neg=>
  have HN:Hid (tkO s=none):=by
   refine qxq (fun u hu hs=>h35 ?_);rw[hpn u hs];split
   ·exact .inr rfl
   ·exact .inl rfl
  have e1:((ps.length:Int) !=3)=true:=by simp;omega
  have e2:((ps.length:Int) !=5)=true:=by simp;omega
  have HB:=zhi (show Below w.heap.size w _ from bst (bst (bst (bst (bst B1 (p:=⟨g,0,none⟩) hgw (.int .i64 0)) (p:=⟨g,1,none⟩) hgw (.int .i64 0)) (p:=⟨g,2,none⟩) hgw (.int .i64 0)) (p:=⟨g,3,none⟩) hgw (.int .i64 0)) (p:=⟨g,4,none⟩) hgw (.bool false));clear hpn hle hs0 h35;go_wp2_with fail;refine bodyPost_ret (v:=qla none) (by simp[results,Tryz.results93,go_sem,z0,z1,z2,z3,z4];rfl) rfl ⟨by rw[HN.out],HB.out⟩
 have hp3:3≤ps.length:=by omega
 have hsn:s≠[]:=by
  rcases hs0 with h|h|h
  ·rw[h] at hp3;simp at hp3
  ·omega
  ·exact h
 obtain⟨b,rfl,hbl,hc⟩:=qhl hO (by omega);have c0:=hc 0 (by omega);have c2:=hc 2 (by omega);have h0l:=hle ps[0] (Yao _);have h2l:=hle ps[2] (Yao _)
 have g3:((ps.length:Int) !=3)=false∨(((ps.length:Int) !=3)=true∧((ps.length:Int) !=5)=false):=by
  rcases h35 with h|h
  ·exact .inl (by simp[h])
  ·exact .inr ⟨by simp[h],by simp[h]⟩
 have hI0:(0:Int)<(ps.length:Int):=by omega
 have hI2:(2:Int)<(ps.length:Int):=by omega
 have HU:Hid (∀u,vld u=true→Vp u=s→qcm u=ps[0]∧qdf ps[2]=some u.every∧(ps.length=3→u.due=u.every)∧(∀h5:ps.length=5,qdf ps[4]=some u.due)):=by
  intro u hu hs;have hb:=qao hu;have hp:=hpn u hs;have n1:=qgb (n:=u.every) (by omega) (by omega);have n2:=qgb (n:=u.due) (by omega) (by omega);by_cases hd:u.due<u.every
  ·rw[Yav hd] at hp;subst hp;exact⟨rfl,n1,fun h=>by simp at h,fun _=>n2⟩
  ·rw[Yaq hd] at hp;subst hp;exact⟨rfl,n1,fun _=>by omega,fun h=>by simp at h⟩
 have hc4:=fun(h5:ps.length=5)=>hc 4 (by omega)
 have h4l:=fun(h5:ps.length=5)=>hle ps[4] (Yao _)
 clear hpn hle hs0 hc hO;obtain⟨x0,hx0⟩: ∃x,ps[0]=x:=⟨_,rfl⟩;obtain⟨x2,hx2⟩: ∃x,ps[2]=x:=⟨_,rfl⟩;rw[hx0] at c0 h0l;rw[hx2] at c2 h2l;rw[hx0,hx2] at HU;clear hx0 hx2;go_upto_region 2 with fail;go_cut [20] from 13 to 21 (fun v wc=>v=.bool false∧w1=wc)
 case first=>
  rcases g3 with h|⟨h,h'⟩
  ·go_wp2_with fail;go_meet
   exact⟨rfl,rfl⟩
  ·go_wp2_with fail;go_meet
   exact⟨rfl,rfl⟩
 case rest=>
  obtain⟨rfl,rfl⟩:=hcut;clear g3;go_wp2_with fail;refine(qv4 x0 _ (by omega)).mono ?_;rintro e w2 ⟨lo,hi,cr,ok,rfl,hY,b2⟩;have r2:=bh b2 r1;have B2:=Qa B1 b2;have k2:=(b2.cell (p:=⟨b,2,none⟩) hbl).trans c2;have k4:=fun h5=>(b2.cell (p:=⟨b,4,none⟩) hbl).trans (hc4 h5)
  have t3:=zha w2 (.cells #[.int .i64 lo,.int .i64 hi,.int .i64 0,.int .i64 0,.bool cr] 58 (0,0));have b3:=bal (Below.refl w2.heap.size w2) (.cells #[.int .i64 lo,.int .i64 hi,.int .i64 0,.int .i64 0,.bool cr] 58 (0,0));have r3:=bh b3 r2;have hb2:b<w2.heap.size:=zlt hbl b2.size;have k2:=(b3.cell (p:=⟨b,2,none⟩) hb2).trans k2;have k4:=fun h5=>(b3.cell (p:=⟨b,4,none⟩) hb2).trans (k4 h5)
  have B3:=Qa B2 b3;have hgt:g<w2.heap.size:=(bl r2);clear c0 c2 hc4 r1 r2 B1 B2 b3 b2 z0 z1 z2 z3 z4 zf hbl;go_upto_region 5 with fail;obtain⟨t,htE⟩: ∃t,w2.heap.size=t:=⟨_,rfl⟩;rw[htE] at t3 hgt hb2⊢;generalize World.alloc w2 _=w3 at t3 r3 B3 k2 k4⊢;clear htE;go_wp2_with fail;refine(qch x2 _ (by omega)).mono ?_;rintro e w4 ⟨ev,rfl,hev,b4⟩;have hb3:b<w3.heap.size:=Nat.lt_trans hb2 (bl t3);have t4:=bh b4 t3;have r4:=bh b4 r3;have B4:=Qa B3 b4;have k4:=fun h5=>(b4.cell (p:=⟨b,4,none⟩) hb3).trans (k4 h5)
  obtain⟨t0,t1,t2,t3',t4',tf⟩:=Qc t4;have t5:=qa5 t4 (i:=3) (.int .i64 ev);have t6:=qa5 t5 (i:=2) (.int .i64 ev);have r6:=(Yal (w4.setCell ⟨t,3,none⟩ (.int .i64 ev)) ⟨t,2,none⟩ (.int .i64 ev) g (by simp;omega)).trans ((Yal w4 ⟨t,3,none⟩ (.int .i64 ev) g (by simp;omega)).trans r4);have hwt:w.heap.size≤t:=by omega
  have B6:=bst (bst B4 (p:=⟨t,3,none⟩) hwt (.int .i64 ev)) (p:=⟨t,2,none⟩) hwt (.int .i64 ev)
  have k6: ∀h5,((w4.setCell ⟨t,3,none⟩ (.int .i64 ev)).setCell ⟨t,2,none⟩ (.int .i64 ev)).cell? ⟨b,4,none⟩=some (.string ⟨(ps[4]'(by have:ps.length=5:=h5;omega)).toArray⟩):=fun h5=>by
   have h1:=((Below.refl t w4).setCell (p:=⟨t,3,none⟩) (zlr _) (.int .i64 ev)).setCell (p:=⟨t,2,none⟩) (zlr _) (.int .i64 ev);exact(h1.cell (p:=⟨b,4,none⟩) hb2).trans (k4 h5)
  go_upto_region 8 with fail;generalize World.setCell (World.setCell w4 _ _) _ _=w6 at t6 r6 B6 k6⊢;clear t0 t1 t2 t3' t4' tf t3 t4 t5 r3 r4 B3 B4 k2 k4 b4
  have hokk: ∀u,vld u=true→Vp u=s→ok=true∧lo=u.low∧hi=u.high∧cr=u.crit∧(qdf x2).isSome=true∧ev=u.every:=by
   intro u hu hs;obtain⟨a1,a2,_,_⟩:=HU.out u hu hs;obtain⟨y1,y2,y3,y4⟩:=hY u hu a1;exact⟨y1,y2,y3,y4,by rw[a2];rfl,hev _ a2⟩
  have HOK:=zhi hokk;clear hokk hY hev;generalize(qdf x2).isSome=fi at HOK⊢;go_upto_if 42 with fail
  obtain⟨b5,hb5⟩: ∃b5,((ps.length:Int)==5)=b5:=⟨_,rfl⟩;rw[hb5];have HB5:=zhi hb5;clear hb5;go_cut [8,9,10] from 43 to 56 (fun f d9 d10 wc=> ∃(du:Int) (fine:Bool),f=.bool fine∧wc.heap[t]? =some (.cells #[.int .i64 lo,.int .i64 hi,.int .i64 du,.int .i64 ev,.bool cr] 58 (0,0))∧wc.heap[g]? =some (.cells #[.int .i64 0,.int .i64 0,.int .i64 0,.int .i64 0,.bool false] 58 (0,0))∧Hid (∀u,vld u=true→Vp u=s→ok=true∧fine=true∧(⟨lo,hi,du,ev,cr⟩:Tk)=u)∧Below w.heap.size w wc)
  case first=>
   obtain⟨t0,t1,t2,t3',t4',tf⟩:=Qc t6;cases b5 with
   |true=>
    have h5:ps.length=5:=by
     have:=HB5.out;simp at this;omega
    have hI4:(4:Int)<(ps.length:Int):=by omega
    have k4:=k6 h5;have hx4l:=h4l h5;have hd4:=fun u hu hs=>(HU.out u hu hs).2.2.2 h5
    have hlt4:4<ps.length:=by omega
    obtain⟨x4,hx4⟩: ∃x,ps[4]=x:=⟨_,rfl⟩;rw[hx4] at k4 hx4l hd4;have HD4:=zhi hd4;clear hx4 hd4 h5 k6 h4l;go_wp2_with fail;refine(qch x4 _ (by omega)).mono ?_;rintro e w7 ⟨dv,rfl,hdv,b7⟩;have t7:=bh b7 t6;have r7:=bh b7 r6;have B7:=Qa B6 b7;clear t0 t1 t2 t3' t4' tf;obtain⟨t0,t1,t2,t3',t4',tf⟩:=Qc t7;have t8:=qa5 t7 (i:=2) (.int .i64 dv);have r8:=(Yal w7 ⟨t,2,none⟩ (.int .i64 dv) g (by simp;omega)).trans r7;have B8:=bst B7 (p:=⟨t,2,none⟩) hwt (.int .i64 dv);obtain⟨gd,hgd⟩: ∃gd,(qdf x4).isSome=gd:=⟨_,rfl⟩;rw[hgd]
    have HF:Hid (∀u,vld u=true→Vp u=s→ok=true∧(fi&&gd)=true∧(⟨lo,hi,dv,ev,cr⟩:Tk)=u):=by
     intro u hu hs;obtain⟨y1,y2,y3,y4,y5,y6⟩:=HOK.out u hu hs;have h4:=HD4.out u hu hs;refine⟨y1,by rw[y5,←hgd,h4];rfl,?_⟩;rw[y2,y3,y4,y6,hdv _ h4]
    clear hgd hdv;cases fi with
    |true=>
     go_wp2_with fail;go_meet
     exact⟨dv,gd,rfl,t8,r8,HF,B8⟩
    |false=>
     go_wp2_with fail;go_meet
     exact⟨dv,false,rfl,t8,r8,HF,B8⟩
   |false=>
    have h5:ps.length≠5:=by
     have:=HB5.out;simp at this;omega
    have HF:Hid (∀u,vld u=true→Vp u=s→ok=true∧fi=true∧(⟨lo,hi,ev,ev,cr⟩:Tk)=u):=by
     intro u hu hs;obtain⟨y1,y2,y3,y4,y5,y6⟩:=HOK.out u hu hs;have h3:=(HU.out u hu hs).2.2.1 (by omega);refine⟨y1,y5,?_⟩;rw[y2,y3,y4,y6];cases u
     simp only at h3;rw[h3]
    clear k6 h4l h5;go_wp2_with fail;go_meet
    exact⟨ev,fi,rfl,t6,r6,HF,B6⟩
  case rest=>
   obtain⟨du,fine,rfl,t7,r7,HF,B7⟩:=hcut;clear t6 r6 B6 k6 h4l HOK HU h35;obtain⟨t0,t1,t2,t3',t4',tf⟩:=Qc t7;obtain⟨z0,z1,z2,z3,z4,zf⟩:=Qc r7;have fin0:Hid (∀w',Below w.heap.size w w'→Below w.heap.size w (((((w'.setCell ⟨g,0,none⟩ (.int .i64 0)).setCell ⟨g,1,none⟩ (.int .i64 0)).setCell ⟨g,2,none⟩ (.int .i64 0)).setCell ⟨g,3,none⟩ (.int .i64 0)).setCell ⟨g,4,none⟩ (.bool false))):=fun w' h=>bst (bst (bst (bst (bst h (p:=⟨g,0,none⟩) hgw (.int .i64 0)) (p:=⟨g,1,none⟩) hgw (.int .i64 0)) (p:=⟨g,2,none⟩) hgw (.int .i64 0)) (p:=⟨g,3,none⟩) hgw (.int .i64 0)) (p:=⟨g,4,none⟩) hgw (.bool false)
   cases ok with
   |false=>
    have HN:Hid (tkO s=none):=qxq (fun u hu hs=>by have:=(HF.out u hu hs).1;cases this);go_wp2_with fail;refine bodyPost_ret (v:=qla none) (by simp[results,Tryz.results93,go_sem,z0,z1,z2,z3,z4];rfl) rfl ⟨by rw[HN.out],fin0.out _ B7⟩
   |true=>
    cases fine with
    |false=>
     have HN:Hid (tkO s=none):=qxq (fun u hu hs=>by have:=(HF.out u hu hs).2.1;cases this);go_wp2_with fail;refine bodyPost_ret (v:=qla none) (by simp[results,Tryz.results93,go_sem,z0,z1,z2,z3,z4];rfl) rfl ⟨by rw[HN.out],fin0.out _ B7⟩
    |true=>
     go_wp2_with fail;refine(qdn ⟨lo,hi,du,ev,cr⟩ _).mono ?_;rintro e w8 ⟨rfl,b8⟩;have t8:=bh b8 t7;have r8:=bh b8 r7;have B8:=Qa B7 b8;clear t0 t1 t2 t3' t4' tf z0 z1 z2 z3 z4 zf t7 r7 B7 b8;obtain⟨t0,t1,t2,t3',t4',tf⟩:=Qc t8;obtain⟨z0,z1,z2,z3,z4,zf⟩:=Qc r8;by_cases hf:Qr ⟨lo,hi,du,ev,cr⟩=s
     ·have HT:Hid (tkO s=some ⟨lo,hi,du,ev,cr⟩):=by
       have hv:vld ⟨lo,hi,du,ev,cr⟩=true:=by
        unfold Qr at hf;split at hf
        ·assumption
        ·exact absurd hf.symm hsn
       rw[qbf hv] at hf;rw[Hid,←hf];exact q47 hv
      rw[hf];have hq:((ByteArray.mk s.toArray).toList==(ByteArray.mk s.toArray).toList)=true:=Yec _;clear hf;go_wp2_with fail;refine bodyPost_ret (v:=qla (some ⟨lo,hi,du,ev,cr⟩)) (by simp[results,Tryz.results93,go_sem,z0,z1,z2,z3,z4];rfl) rfl ⟨by rw[HT.out],bst (bst (bst (bst (bst B8 (p:=⟨g,0,none⟩) hgw _) (p:=⟨g,1,none⟩) hgw _) (p:=⟨g,2,none⟩) hgw _) (p:=⟨g,3,none⟩) hgw _) (p:=⟨g,4,none⟩) hgw _⟩
     ·have HN:Hid (tkO s=none):=qxq (fun u hu hs=>by
       have h3:=(HF.out u hu hs).2.2;rw[h3,qbf hu] at hf;exact hf hs)
      have hq:(Qr ⟨lo,hi,du,ev,cr⟩==s)=false:=beq_eq_false_iff_ne.2 hf;generalize Qr ⟨lo,hi,du,ev,cr⟩=F at hq⊢;clear hf;go_wp2_with fail;refine bodyPost_ret (v:=qla none) (by simp[results,Tryz.results93,go_sem,z0,z1,z2,z3,z4];rfl) rfl ⟨by rw[HN.out],fin0.out _ B8⟩
theorem qgd(n:Int)(h0:0≤n)(h1:n≤1000000)(w:World):
  Calls Tryz.prog 91 #[.int .i64 n] w fun e w'=>e=.returned (.string ⟨(num n).toArray⟩)∧Below w.heap.size w w':=by
 have K:=qjt n.toNat (by omega) w;rw[Yay h0] at K;exact K
theorem qny(t:Jb)(w:World):
  Calls Tryz.prog 145 #[t.val] w fun e w'=>e=.returned (.bool (qbv t))∧Below w.heap.size w w':=by
 obtain⟨q,m,n⟩:=t;go_enter Tryz.func145,Tryz.ntmps145;go_wp2
 all_goals go_ret
 all_goals refine⟨?_,(Below.refl _ _).alloc (zlr _) _⟩
 all_goals(simp[qbv, *];try omega)
theorem qy1(js:List Jb)(k:Nat)(hk:k<js.length)(h0:k≠0):qfu (js.take (k+1))=qfu (js.take k)++[32]++qfb js[k]:=by
 unfold qfu;rw[Yad hk,Ybg];exact qtg _ _ _ (by simp;omega)
theorem qv5(js:List Jb)(hk:0<js.length):qfu (js.take (0+1))=qfb js[0]:=by
 unfold qfu;rw[Yad hk];simp[Lib.join_one]
theorem qv6{js:List Jb}{k:Nat}(h60:k≤60)(h:(js.take k).all qbv=true):(qfu (js.take k)).length≤3960:=by
 have ht:qdg (js.take k)=true:=by
  simp only[qdg,Yac,Yae];exact⟨h,by rw[Yap];omega⟩
 have:=qfc (js.take k);rwa [Vf,Yav ht] at this
theorem qii(A:ZA)(js:List Jb)(c:Nat)(w:World)(h:JS w A js)(hm:js.length≤1000000):
  Calls Tryz.prog 81 #[.slice A js.length c] w fun e w'=>e=.returned (.string ⟨(Vf js).toArray⟩)∧Below w.heap.size w w':=by
 go_enter Tryz.func81,Tryz.ntmps81;go_wp2_with fail;go_loopw [3,4] (fun v i wr=> ∃(k:Nat) (TX:List UInt8),i=.int .i64 (k:Int)∧v=.string ⟨TX.toArray⟩∧k≤js.length∧(k=0∨js.length≤60)∧Hid (TX=qfu (js.take k))∧Hid ((js.take k).all qbv=true)∧Below w.heap.size w wr) (fun _ i _=>js.length-(intOf i).toNat)
 case atStart=>exact⟨0,[],rfl,rfl,by omega,.inl rfl,rfl,rfl,br⟩
 case round=>
  obtain⟨k,TX,rfl,rfl,hk,hk60,hT,hA,hb⟩:=hrel
  have hTl:TX.length≤3960:=by
   rw[hT.out];exact qv6 (by omega) hA.out
  by_cases h60:js.length≤60
  ·by_cases hlt:k<js.length
   ·have e0:decide ((k:Int)<(js.length:Int))=true:=Yag (by omega);have e1:decide ((js.length:Int)≤60)=true:=Yag (by omega);have hkI:(k:Int)<(js.length:Int):=by omega
    obtain⟨b,off,rfl,hbl,hc⟩:=h.keep hb (by omega);obtain⟨c0,c1,c2⟩:=Vi hc k hlt;clear hc;have hnx0:=zhi (fun h0:k=0=>(by subst h0;exact qv5 js hlt:qfu (js.take (k+1))=qfb js[k]));have hnx1:=zhi (fun h0:k≠0=>qy1 js k hlt h0)
    have hall:Hid ((js.take (k+1)).all qbv=((js.take k).all qbv&&qbv js[k])):=by
     rw[Hid,Yad hlt,List.all_append];simp
    have hin:Hid (js[k]∈js):=Yao hlt;generalize js[k]=t at c0 c1 c2 hnx0 hnx1 hall hin;go_wp2_with fail;refine(qny t _).mono ?_;cases ht:qbv t with
    |false=>
     have HF:Hid (Vf js=[]):=by
      have:qdg js=false:=by
       simp only[qdg,Ydx];exact .inl (List.all_eq_false.2 ⟨t,hin.out,by simp[ht]⟩)
      simp[Hid,Vf,this]
     rintro e w1 ⟨rfl,b1⟩;clear ht;go_wp2_with fail;go_ret;exact⟨by rw[HF.out];rfl,Qa hb b1⟩
    |true=>
     rintro e w1 ⟨rfl,b1⟩;have hA2:Hid ((js.take (k+1)).all qbv=true):=by rw[Hid,hall.out,hA.out,ht];rfl
     obtain⟨v1,v2,v3,v4,v5,v6⟩:=(qbo _).1 ht;have l1:=Qp t.task (by omega);have l2:=Qp t.at_ (by omega);have l3:=Qp t.need (by omega);replace c0:=(b1.cell (p:=⟨b,off+k*3,none⟩) hbl).trans c0;replace c1:=(b1.cell (p:=⟨b,off+k*3+1,none⟩) hbl).trans c1;replace c2:=(b1.cell (p:=⟨b,off+k*3+2,none⟩) hbl).trans c2;have hbl1:b<w1.heap.size:=zlt hbl b1.size;have B1:=Qa hb b1;clear ht b1 hin hall hbl hb;by_cases h0:k=0
     ·subst h0
      have hX:Hid (((((TX++num t.task)++[64])++num t.at_)++[58])++num t.need=qfu (js.take (0+1))):=by
       rw[Hid,hnx0.out rfl,hT.out];simp[qfu,qfb,Lib.join_nil]
      simp only[Nat.zero_mul,Nat.add_zero] at c0 c1 c2;go_upto_region 9 with fail;refine wp_region_held (S:=fun w'=>w'.cell? ⟨b,off,none⟩=some (.int .i64 t.task)∧w'.cell? ⟨b,off+1,none⟩=some (.int .i64 t.at_)∧w'.cell? ⟨b,off+2,none⟩=some (.int .i64 t.need)) (by kernel_rfl) ?_;change wpAnyH _ _ _ _ _ _ _ _ (World.drew _);have K0:Below w1.heap.size w1 (World.drew w1):=zdr br;have hSk: ∀{v:World},Below w1.heap.size w1 v→v.cell? ⟨b,off,none⟩=some (.int .i64 t.task)∧v.cell? ⟨b,off+1,none⟩=some (.int .i64 t.at_)∧v.cell? ⟨b,off+2,none⟩=some (.int .i64 t.need):=fun h=>⟨(h.cell (p:=⟨b,off,none⟩) hbl1).trans c0,(h.cell (p:=⟨b,off+1,none⟩) hbl1).trans c1,(h.cell (p:=⟨b,off+2,none⟩) hbl1).trans c2⟩
      have hS0:=hSk K0;clear c0 c1 c2;refine tq 0 26 (.string ⟨TX.toArray⟩) rfl (fun _ _=>rfl) hS0 ?_;refine tq 1 27 (.slice (some ⟨b,off,none⟩) (js.length) c) rfl (fun _ _=>rfl) hS0 ?_;refine tq 2 28 (.int .i64 (0)) rfl (fun _ _=>rfl) hS0 ?_;refine tq 3 29 (.pointer (some ⟨b,off,none⟩)) rfl (fun w _=>by go_simp<;>(first|omega|(simp;omega))) hS0 ?_;refine tq 4 30 (.pointer (some ⟨b,off,none⟩)) rfl (fun w _=>by go_simp) hS0 ?_;refine tq 5 31 (.int .i64 (t.task)) rfl (fun w hS=>by obtain⟨x0,x1,x2⟩:=hS;go_simp) hS0 ?_;refine tq 9 35 (.slice (some ⟨b,off,none⟩) (js.length) c) rfl (fun _ _=>rfl) hS0 ?_;refine tq 10 36 (.int .i64 (0)) rfl (fun _ _=>rfl) hS0 ?_;refine tq 11 37 (.pointer (some ⟨b,off,none⟩)) rfl (fun w _=>by go_simp<;>(first|omega|(simp;omega))) hS0 ?_;refine tq 12 38 (.pointer (some ⟨b,off+1,none⟩)) rfl (fun w _=>by go_simp) hS0 ?_;refine tq 13 39 (.int .i64 (t.at_)) rfl (fun w hS=>by obtain⟨x0,x1,x2⟩:=hS;go_simp) hS0 ?_;refine tq 17 43 (.slice (some ⟨b,off,none⟩) (js.length) c) rfl (fun _ _=>rfl) hS0 ?_;refine tq 18 44 (.int .i64 (0)) rfl (fun _ _=>rfl) hS0 ?_;refine tq 19 45 (.pointer (some ⟨b,off,none⟩)) rfl (fun w _=>by go_simp<;>(first|omega|(simp;omega))) hS0 ?_;refine tq 20 46 (.pointer (some ⟨b,off+2,none⟩)) rfl (fun w _=>by go_simp) hS0 ?_;refine tq 21 47 (.int .i64 (t.need)) rfl (fun w hS=>by obtain⟨x0,x1,x2⟩:=hS;go_simp) hS0 ?_;refine ch 6 32 rfl 91 Tryz.func91 #[.int .i64 t.task] (qgd t.task (by omega) (by omega) _) ?_;rintro e v1 ⟨rfl,bz1⟩;have K1:=Qa K0 bz1;have hS1:=hSk K1;refine⟨_,rfl,hS1,?_⟩;simp only[lsS,lsZ];refine tq 7 33 (.string ⟨(TX++num t.task).toArray⟩) rfl (fun w _=>by go_simp<;>(first|(rw[Yaq (by omega)];simp[Qn])|omega)) hS1 ?_;refine tq 8 34 (.string ⟨((TX++num t.task)++[64]).toArray⟩) rfl (fun w _=>by go_simp<;>(first|(rw[Yaq (by omega)];simp[Qn])|omega)) hS1 ?_;refine ch 14 40 rfl 91 Tryz.func91 #[.int .i64 t.at_] (qgd t.at_ (by omega) (by omega) _) ?_;rintro e v2 ⟨rfl,bz2⟩;have K2:=Qa K1 bz2;have hS2:=hSk K2;refine⟨_,rfl,hS2,?_⟩;simp only[lsS,lsZ];refine tq 15 41 (.string ⟨(((TX++num t.task)++[64])++num t.at_).toArray⟩) rfl (fun w _=>by go_simp<;>(first|(rw[Yaq (by omega)];simp[Qn])|omega)) hS2 ?_;refine tq 16 42 (.string ⟨((((TX++num t.task)++[64])++num t.at_)++[58]).toArray⟩) rfl (fun w _=>by go_simp<;>(first|(rw[Yaq (by omega)];simp[Qn])|omega)) hS2 ?_;refine ch 22 48 rfl 91 Tryz.func91 #[.int .i64 t.need] (qgd t.need (by omega) (by omega) _) ?_;rintro e v3 ⟨rfl,bz3⟩;have K3:=Qa K2 bz3;have hS3:=hSk K3;refine⟨_,rfl,hS3,?_⟩;simp only[lsS,lsZ];refine tq 23 49 (.string ⟨(((((TX++num t.task)++[64])++num t.at_)++[58])++num t.need).toArray⟩) rfl (fun w _=>by go_simp<;>(first|(rw[Yaq (by omega)];simp[Qn])|omega)) hS3 ?_;refine tq 24 3 (.string ⟨(((((TX++num t.task)++[64])++num t.at_)++[58])++num t.need).toArray⟩) rfl (fun _ _=>rfl) hS3 ?_;refine wpAnyH_done (by kernel_rfl) ?_ _;go_wp2_with fail;go_roundw
      case rel=>exact⟨0+1,_,by go_num,rfl,by omega,.inr h60,hX,hA2,Qa B1 K3⟩
      case measure=>simp[intOf];omega
     ·have hX:Hid ((((((TX++[32])++num t.task)++[64])++num t.at_)++[58])++num t.need=qfu (js.take (k+1))):=by
       rw[Hid,hnx1.out h0,hT.out];simp[qfb]
      have e2:decide ((k:Int)>0)=true:=Yag (by omega);have e3:(0:Int)<(k:Int):=by omega
      go_upto_region 9 with fail;refine wp_region_held (S:=fun w'=>w'.cell? ⟨b,off+k*3,none⟩=some (.int .i64 t.task)∧w'.cell? ⟨b,off+k*3+1,none⟩=some (.int .i64 t.at_)∧w'.cell? ⟨b,off+k*3+2,none⟩=some (.int .i64 t.need)) (by kernel_rfl) ?_;change wpAnyH _ _ _ _ _ _ _ _ (World.drew _);have K0:Below w1.heap.size w1 (World.drew w1):=zdr br;have hSk: ∀{v:World},Below w1.heap.size w1 v→v.cell? ⟨b,off+k*3,none⟩=some (.int .i64 t.task)∧v.cell? ⟨b,off+k*3+1,none⟩=some (.int .i64 t.at_)∧v.cell? ⟨b,off+k*3+2,none⟩=some (.int .i64 t.need):=fun h=>⟨(h.cell (p:=⟨b,off+k*3,none⟩) hbl1).trans c0,(h.cell (p:=⟨b,off+k*3+1,none⟩) hbl1).trans c1,(h.cell (p:=⟨b,off+k*3+2,none⟩) hbl1).trans c2⟩
      have hS0:=hSk K0;clear c0 c1 c2;refine tq 0 26 (.string ⟨(TX++[32]).toArray⟩) rfl (fun _ _=>rfl) hS0 ?_;refine tq 1 27 (.slice (some ⟨b,off,none⟩) (js.length) c) rfl (fun _ _=>rfl) hS0 ?_;refine tq 2 28 (.int .i64 ((k:Int))) rfl (fun _ _=>rfl) hS0 ?_;refine tq 3 29 (.pointer (some ⟨b,off+k*3,none⟩)) rfl (fun w _=>by go_simp<;>(first|omega|(simp;omega))) hS0 ?_;refine tq 4 30 (.pointer (some ⟨b,off+k*3,none⟩)) rfl (fun w _=>by go_simp) hS0 ?_;refine tq 5 31 (.int .i64 (t.task)) rfl (fun w hS=>by obtain⟨x0,x1,x2⟩:=hS;go_simp) hS0 ?_;refine tq 9 35 (.slice (some ⟨b,off,none⟩) (js.length) c) rfl (fun _ _=>rfl) hS0 ?_;refine tq 10 36 (.int .i64 ((k:Int))) rfl (fun _ _=>rfl) hS0 ?_;refine tq 11 37 (.pointer (some ⟨b,off+k*3,none⟩)) rfl (fun w _=>by go_simp<;>(first|omega|(simp;omega))) hS0 ?_;refine tq 12 38 (.pointer (some ⟨b,off+k*3+1,none⟩)) rfl (fun w _=>by go_simp) hS0 ?_;refine tq 13 39 (.int .i64 (t.at_)) rfl (fun w hS=>by obtain⟨x0,x1,x2⟩:=hS;go_simp) hS0 ?_;refine tq 17 43 (.slice (some ⟨b,off,none⟩) (js.length) c) rfl (fun _ _=>rfl) hS0 ?_;refine tq 18 44 (.int .i64 ((k:Int))) rfl (fun _ _=>rfl) hS0 ?_;refine tq 19 45 (.pointer (some ⟨b,off+k*3,none⟩)) rfl (fun w _=>by go_simp<;>(first|omega|(simp;omega))) hS0 ?_;refine tq 20 46 (.pointer (some ⟨b,off+k*3+2,none⟩)) rfl (fun w _=>by go_simp) hS0 ?_;refine tq 21 47 (.int .i64 (t.need)) rfl (fun w hS=>by obtain⟨x0,x1,x2⟩:=hS;go_simp) hS0 ?_;refine ch 6 32 rfl 91 Tryz.func91 #[.int .i64 t.task] (qgd t.task (by omega) (by omega) _) ?_;rintro e v1 ⟨rfl,bz1⟩;have K1:=Qa K0 bz1;have hS1:=hSk K1;refine⟨_,rfl,hS1,?_⟩;simp only[lsS,lsZ];refine tq 7 33 (.string ⟨((TX++[32])++num t.task).toArray⟩) rfl (fun w _=>by go_simp<;>(first|(rw[Yaq (by omega)];simp[Qn])|omega)) hS1 ?_;refine tq 8 34 (.string ⟨(((TX++[32])++num t.task)++[64]).toArray⟩) rfl (fun w _=>by go_simp<;>(first|(rw[Yaq (by omega)];simp[Qn])|omega)) hS1 ?_;refine ch 14 40 rfl 91 Tryz.func91 #[.int .i64 t.at_] (qgd t.at_ (by omega) (by omega) _) ?_;rintro e v2 ⟨rfl,bz2⟩;have K2:=Qa K1 bz2;have hS2:=hSk K2;refine⟨_,rfl,hS2,?_⟩;simp only[lsS,lsZ];refine tq 15 41 (.string ⟨((((TX++[32])++num t.task)++[64])++num t.at_).toArray⟩) rfl (fun w _=>by go_simp<;>(first|(rw[Yaq (by omega)];simp[Qn])|omega)) hS2 ?_;refine tq 16 42 (.string ⟨(((((TX++[32])++num t.task)++[64])++num t.at_)++[58]).toArray⟩) rfl (fun w _=>by go_simp<;>(first|(rw[Yaq (by omega)];simp[Qn])|omega)) hS2 ?_;refine ch 22 48 rfl 91 Tryz.func91 #[.int .i64 t.need] (qgd t.need (by omega) (by omega) _) ?_;rintro e v3 ⟨rfl,bz3⟩;have K3:=Qa K2 bz3;have hS3:=hSk K3;refine⟨_,rfl,hS3,?_⟩;simp only[lsS,lsZ];refine tq 23 49 (.string ⟨((((((TX++[32])++num t.task)++[64])++num t.at_)++[58])++num t.need).toArray⟩) rfl (fun w _=>by go_simp<;>(first|(rw[Yaq (by omega)];simp[Qn])|omega)) hS3 ?_;refine tq 24 3 (.string ⟨((((((TX++[32])++num t.task)++[64])++num t.at_)++[58])++num t.need).toArray⟩) rfl (fun _ _=>rfl) hS3 ?_;refine wpAnyH_done (by kernel_rfl) ?_ _;go_wp2_with fail;go_roundw
      case rel=>exact⟨k+1,_,by go_num,rfl,by omega,.inr h60,hX,hA2,Qa B1 K3⟩
      case measure=>simp[intOf];omega
   ·obtain rfl:k=js.length:=by omega
    have HF:Hid (Vf js=TX):=by
     have h1:=hA.out;rw[Ybi] at h1
     have h2:qdg js=true:=by
      simp only[qdg,Yac,Yae];exact⟨h1,h60⟩
     rw[Hid,Vf,Yav h2,hT.out,Ybi]
    go_wp2_with fail;go_ret;exact⟨by rw[HF.out];rfl,hb⟩
  ·have hk0:k=0:=by omega
   subst hk0
   have HF:Hid (Vf js=TX):=by
    have:qdg js=false:=by
     simp only[qdg,Ydx];exact .inr (Yaf h60)
    rw[Hid,hT.out,Vf,this];rfl
   have e1:decide ((js.length:Int)≤60)=false:=Yaf (by omega);have e4: ¬(js.length:Int)≤60:=by omega
   go_wp2_with fail;all_goals go_ret
   all_goals exact⟨by rw[HF.out];rfl,hb⟩
def Vk(r:Rat):List UInt8:=num r.num++(if r.den=1 then [] else 47::num (r.den:Int))
theorem qa8(r:Rat)(h:RIn r):(Vk r).length≤43:=by
 unfold RIn at h;have h1:=Qp r.num (by omega);have h2:=Qp (r.den:Int) (by omega);unfold Vk;split<;>simp<;>omega
theorem qc4{B:Nat}(r:Rat)(h:RIn r)(w:World)(hM:Mx B w)(hB:B≤w.heap.size):
  Calls Tryz.prog 128 #[rv r] w fun e w'=>e=.returned (.string ⟨(Vk r).toArray⟩)∧Below w.heap.size w w':=by
 obtain⟨a0,a1,a2⟩:=id h;have l1:=Qp r.num (by omega);have l2:=Qp (r.den:Int) (by omega);by_cases hd:r.den=1
 ·have hT:Hid (Vk r=num r.num):=by simp[Hid,Vk,hd]
  have HD:=zhi hd;clear hd;go_enter Tryz.func128,Tryz.ntmps128;go_wp2_with fail;refine(qfg r _ h).mono ?_;rintro e w1 ⟨rfl,b1⟩;have hN:w1.heap[w.heap.size]? =some (.cells #[.int .i64 r.num,.int .i64 (r.den:Int)] 54 (0,0)):=(b1.block w.heap.size (by simp)).trans (zha w _);obtain⟨k0,k1,_⟩:=Qk hN;have b:=Qa (bal (Below.refl w.heap.size w) _) b1;have hlt:w.heap.size<w1.heap.size:=zlt (by simp) b1.size;clear hN b1;go_wp2_with fail;refine(qbu (hM.keep (b.mono hB)) r.num a0 a1).mono ?_;rintro e w2 ⟨rfl,b2⟩;have k1:=(b2.cell (p:=⟨w.heap.size,1,none⟩) hlt).trans k1;rw[HD.out] at k1;clear k0;go_wp2_with fail;go_ret;exact⟨by rw[hT.out];rfl,Qa b b2⟩
 ·have hT:Hid (Vk r=num r.num++([47]++num (r.den:Int))):=by simp[Hid,Vk,hd]
  have hne:((r.den:Int) !=1)=true:=by rw[Ydm];omega
  go_enter Tryz.func128,Tryz.ntmps128;go_wp2_with fail;refine(qfg r _ h).mono ?_;rintro e w1 ⟨rfl,b1⟩;have hN:w1.heap[w.heap.size]? =some (.cells #[.int .i64 r.num,.int .i64 (r.den:Int)] 54 (0,0)):=(b1.block w.heap.size (by simp)).trans (zha w _);obtain⟨k0,k1,_⟩:=Qk hN;have b:=Qa (bal (Below.refl w.heap.size w) _) b1;have hlt:w.heap.size<w1.heap.size:=zlt (by simp) b1.size;clear hN b1;go_wp2_with fail;refine(qbu (hM.keep (b.mono hB)) r.num a0 a1).mono ?_;rintro e w2 ⟨rfl,b2⟩;have k1:=(b2.cell (p:=⟨w.heap.size,1,none⟩) hlt).trans k1;have hlt2:w.heap.size<w2.heap.size:=zlt hlt b2.size;have B2:=Qa b b2;clear k0;go_wp2_with fail;refine(qbu (hM.keep (B2.mono hB)) (r.den:Int) (by omega) (by omega)).mono ?_;rintro e w3 ⟨rfl,b3⟩;go_wp2_with fail;go_ret;refine⟨?_,Qa B2 b3⟩;rw[hT.out];simp only[←Qn];rfl
theorem qc5(n:Int)(h0:0≤n)(h1:n≤9223372036854775807)(w:World):
  Calls Tryz.prog 91 #[.int .i64 n] w fun e w'=>e=.returned (.string ⟨(num n).toArray⟩)∧Below w.heap.size w w':=by
 have K:=qjt n.toNat (by omega) w;rw[Yay h0] at K;exact K
theorem qc6(r:Rat)(hR:RIn r)(w:World):
  Calls Tryz.prog 89 #[rv r] w fun e w'=>e=.returned (.string ⟨(Vk r).toArray⟩)∧Below w.heap.size w w':=by
 obtain⟨r0,r1,r2⟩:=hR;have r3:=r.den_pos;have l1:=Qp r.num (by omega);have l2:=Qp (r.den:Int) (by omega);have a1:=zha w (.cells #[.int .i64 r.num,.int .i64 (r.den:Int)] 54 (0,0));have ba:=bal (Below.refl w.heap.size w) (.cells #[.int .i64 r.num,.int .i64 (r.den:Int)] 54 (0,0));go_enter Tryz.func89,Tryz.ntmps89;go_wp2_with fail;refine(qc8 r _ ⟨r0,r1,r2⟩).mono ?_;rintro e w1 ⟨rfl,b1⟩;have h1:=(b1.block w.heap.size (by simp)).trans a1;have B1:=Qa ba b1;generalize w.heap.size=g at h1⊢;obtain⟨z0,z1,zf⟩:=Qk h1;have hg:g<w1.heap.size:=(bl h1);clear a1 ba b1;by_cases hd:r.den=1
 ·have HX:Hid (Vk r=num r.num):=by simp[Hid,Vk,hd]
  have e1:((r.den:Int)==1)=true:=by simp[hd]
  have e2:(r.den:Int)=1:=by omega
  clear hd;go_wp2_with fail;refine(qc5 r.num (by omega) (by omega) _).mono ?_;rintro e w2 ⟨rfl,b2⟩;go_wp2_with fail;go_ret;rw[HX.out];exact⟨rfl,Qa B1 b2⟩
 ·have HX:Hid (Vk r=(num r.num++[47])++num (r.den:Int)):=by simp[Hid,Vk,hd]
  have e1:((r.den:Int)==1)=false:=by simp;omega
  clear hd;go_upto_region 5 with fail;refine wp_region_held (S:=fun w'=>w'.heap[g]? =some (.cells #[.int .i64 r.num,.int .i64 (r.den:Int)] 54 (0,0))) (by kernel_rfl) ?_;change wpAnyH _ _ _ _ _ _ _ _ (World.drew _);have K0:Below w1.heap.size w1 (World.drew w1):=zdr br;have hSk: ∀{v:World},Below w1.heap.size w1 v→v.heap[g]? =some (.cells #[.int .i64 r.num,.int .i64 (r.den:Int)] 54 (0,0)):=fun h=>(h.block g hg).trans h1
  have hS0:=hSk K0;clear z0 z1 zf;refine tq 0 12 (.pointer (some ⟨g,0,none⟩)) rfl (fun w _=>by go_simp) hS0 ?_;refine tq 1 13 (.int .i64 (r.num)) rfl (fun w hS=>by obtain⟨x0,x1,xf⟩:=Qk hS;go_simp) hS0 ?_;refine tq 4 16 (.pointer (some ⟨g,1,none⟩)) rfl (fun w _=>by go_simp) hS0 ?_;refine tq 5 17 (.int .i64 ((r.den:Int))) rfl (fun w hS=>by obtain⟨x0,x1,xf⟩:=Qk hS;go_simp) hS0 ?_;refine ch 2 14 rfl 91 Tryz.func91 #[.int .i64 (r.num)] (qc5 (r.num) (by omega) (by omega) _) ?_;rintro e v1 ⟨rfl,bz1⟩;have K1:=Qa K0 bz1;have hS1:=hSk K1;refine⟨_,rfl,hS1,?_⟩;simp only[lsS,lsZ];refine tq 3 15 (.string ⟨(num (r.num)++[47]).toArray⟩) rfl (fun w _=>by go_simp<;>(first|(rw[Yaq (by omega)];simp[Qn])|omega)) hS1 ?_;refine ch 6 18 rfl 91 Tryz.func91 #[.int .i64 ((r.den:Int))] (qc5 ((r.den:Int)) (by omega) (by omega) _) ?_;rintro e v2 ⟨rfl,bz2⟩;have K2:=Qa K1 bz2;have hS2:=hSk K2;refine⟨_,rfl,hS2,?_⟩;simp only[lsS,lsZ];refine tq 7 19 (.string ⟨((num (r.num)++[47])++num ((r.den:Int))).toArray⟩) rfl (fun w _=>by go_simp<;>(first|(rw[Yaq (by omega)];simp[Qn])|omega)) hS2 ?_;refine tq 8 2 (.string ⟨((num (r.num)++[47])++num ((r.den:Int))).toArray⟩) rfl (fun _ _=>rfl) hS2 ?_;refine wpAnyH_done (by kernel_rfl) ?_ _;go_wp2_with fail;go_ret;rw[HX.out];exact⟨rfl,Qa B1 K2⟩
theorem qfy(hd:List UInt8)(T:ZA)(n d:Nat)(xs:List Int)(w:World)(hn:xs.length=n)(ht:IS w T xs)(hl:n≤300)(hh:hd.length≤1000)(hok: ∀t∈xs,0≤t∧t≤1000000000):
  Calls Tryz.prog 207 #[.string ⟨hd.toArray⟩,.slice T n d] w fun e w'=>e=.returned (.string ⟨((hd++qbn xs)++[10]).toArray⟩)∧Below w.heap.size w w':=by
 go_enter Tryz.func207,Tryz.ntmps207;go_wp2_with fail;go_loopg [5,6] n (fun gg v i wr=> ∃(k:Nat) (P:List UInt8),gg+k=n∧i=.int .i64 (k:Int)∧v=.string ⟨P.toArray⟩∧P.length≤10000∧Hid (P=hd++qbn (xs.take k))∧Below w.heap.size w wr)
 case atStart=>exact⟨0,hd,by omega,rfl,rfl,by omega,by simp[Hid,qbn],br⟩
 case round=>
  obtain⟨k,P,hgk,rfl,rfl,hPl,hP,hbr⟩:=hrel;by_cases hkl:k<n
  ·have e0:decide ((k:Int)<(n:Int))=true:=Yag (by omega);have hkI:(k:Int)<(n:Int):=by omega
   have hkl2:k<xs.length:=by omega
   obtain⟨b,off,rfl,hbl,hc⟩:=(ht.keep hbr) (by omega);have hc0:=hc k xs[k] (by simp[hkl2]);have ho:=hok xs[k] (Yao hkl2);have hst:xs.take (k+1)=xs.take k++[xs[k]]:=by rw[Yad hkl2]
   have htl:(hd++qbn (xs.take (k+1))).length≤10000:=by
    have:=qcf (xs.take (k+1)) (fun n hn=>(hok n (Ydd hn)).2);rw[Yap] at this;rw[Yaa];omega
   have hTS:=qqe (xs.take k) xs[k];rw[←hst] at hTS;clear hst hc;generalize xs[k]=t at hc0 ho hTS
   have HT:Hid ((P++[32])++num t=hd++qbn (xs.take (k+1))):=by
    rw[Hid,hTS,hP.out];simp
   have HTl:Hid (((P++[32])++num t).length≤10000):=by rw[Hid,HT.out];exact htl
   have hnl:=Qp t (by omega);clear hTS htl;go_wp2_with fail;refine(qc5 t (by omega) (by omega) _).mono ?_;rintro e w4 ⟨rfl,b4⟩;go_wp2_with fail;go_roundg (gk-1)
   case measure=>omega
   case rel=>exact⟨k+1,(P++[32])++num t,by omega,by go_num,by rw[←Qn,←Qn],HTl.out,HT,Qa hbr b4⟩
  ·obtain rfl:k=n:=by omega
   have e0:decide ((k:Int)<(k:Int))=false:=Yaf (by omega);have htk:xs.take k=xs:=Yar (by omega);rw[htk] at hP;go_wp2_with fail;go_ret;exact⟨by rw[←hP.out,←Qn];rfl,hbr⟩
abbrev ssV(A:ZA)(n c:Nat)(J:ZA)(m d:Nat)(pol:Int):Value:=.agg #[.slice A n c,.slice J m d,.int .i64 pol]
abbrev ssC(A:ZA)(n c:Nat)(J:ZA)(m d:Nat)(pol:Int):Obj:=.cells #[.slice A n c,.slice J m d,.int .i64 pol] 86 (0,0)
theorem qv7{base:Nat}{w:World}{A:ZA}{c:Nat}{l:List Int}(h:OI base w A c l):IS w A l:=h.is
theorem qnz(w:World)(X Z:Obj): ∃gb r,w.heap.size=gb∧gb+1=r∧((w.alloc X).alloc Z).heap[r]? =some Z∧((w.alloc X).alloc Z).heap[gb]? =some X∧Below w.heap.size w ((w.alloc X).alloc Z)∧w.heap.size≤r∧w.heap.size≤gb∧gb≠r:=by
 have hr0:=zha (w.alloc X) Z;rw[Yah] at hr0;exact⟨_,_,rfl,rfl,hr0,((bal (Below.refl (w.alloc X).heap.size (w.alloc X)) Z).block w.heap.size (by simp)).trans (zha w X),bal (bal br X) Z,by omega,by omega,by omega⟩
theorem qpc{l:List Tk}{js:List Jb}(pol tk:Int)(hno:qrg l js pol tk=false)(A:ZA)(c:Nat)(J:ZA)(d:Nat)(w:World)(h:TS w A l)(g:JS w J js)(hlm:l.length≤maxLen)(hjm:js.length≤maxLen):
  Calls Tryz.prog 158 #[ssV A l.length c J js.length d pol,.int .i64 tk] w fun e w'=>e=.returned (.string ⟨([119,104,97,116,10]:List UInt8).toArray⟩)∧Below w.heap.size w w':=by
 have HNo:=zhi hno;have hba:=bal (Below.refl w.heap.size w) (ssC A l.length c J js.length d pol);go_enter Tryz.func158,Tryz.ntmps158;go_wp2_with fail;refine(qnr pol tk HNo.out A c J d _ (h.keep hba) (g.keep hba) hlm hjm).mono ?_;rintro e w1 ⟨rfl,b1⟩;have B1:=bal (Qa hba b1) (qln (.slice none 0 0) (.slice none 0 0) (.slice none 0 0) false);go_upto_region 2 with fail;generalize World.alloc w1 _=w2 at B1⊢;go_wp2_with fail;go_ret;exact⟨rfl,B1⟩
theorem qn0{l:List Tk}{js:List Jb}(hV:Q9 l js=true)(pol:Int)(hp:pol=0∨pol=1)(hf:pol=1→qsi l=true)(n:Nat)(hn:n≤200)(A:ZA)(c:Nat)(J:ZA)(d:Nat)(w:World)(h:TS w A l)(g:JS w J js):
  Calls Tryz.prog 158 #[ssV A l.length c J js.length d pol,.int .i64 (n:Int)] w fun e w'=>e=.returned (.string ⟨(q0n l js pol n).toArray⟩)∧Below w.heap.size w w':=by
 have h60:js.length≤60∧Qe l=true:=by
  simp only[Q9,Yac,Yae] at hV;exact⟨hV.1.2,hV.1.1⟩
 obtain⟨h60,hS⟩:=h60;have hl5:=Vl hS;have hlm:l.length≤maxLen:=by unfold maxLen;omega
 have hjm:js.length≤maxLen:=by unfold maxLen;omega
 have hLen:=qiw (l:=l) (js:=js) (num:=qgp l) (den:=qgq l) (pol:=pol) h60 n;have hok:(∀x∈(mR l js pol n).tr,x= -1∨(0≤x∧x≤4))∧(∀x∈(mR l js pol n).sw,0≤x∧x≤(n:Int)):=qvj hV (qgp l) (qgq l) pol n;have hEn:(mR l js pol n).en.length=js.length:=(q68 (num:=qgp l) (den:=qgq l) (pol:=pol) (qd8 hV) (fun k hk=>Qs hS hk) n).enL;have HT:Hid (q0n l js pol n=(([116,114,97,99,101,32]++trT (mR l js pol n).tr)++[10])++(([115,119,105,116,99,104,101,115]++qbn (mR l js pol n).sw)++[10])++(([108,97,116,101]++qbn (Vv (qbg l js (mR l js pol n).en n js.length)))++[10])++(([100,114,111,112,112,101,100]++qbn (Vv (qfr (mR l js pol n).en js.length)))++[10])):=rfl;have hba:=bal (Below.refl w.heap.size w) (ssC A l.length c J js.length d pol);have hA0:=zha w (ssC A l.length c J js.length d pol);have KR:=fun w h g=>qmr hV pol hp hf n hn A c J d w h g hlm hjm
 have HVh:=zhi hV;go_enter Tryz.func158,Tryz.ntmps158;go_wp2_with fail;refine(KR _ (h.keep hba) (g.keep hba)).mono ?_;rintro e w1 ⟨Ae,ce,At,ct,As,cs,rfl,oe0,ot0,os0,b1⟩;have hA1:=(b1.block _ (by simp)).trans hA0;have hgl:w.heap.size<w1.heap.size:=zlt (by simp) b1.size;have B1:=Qa hba b1;clear hA0 hba KR;obtain⟨M,hM⟩: ∃M,qce l js (qgp l) (qgq l) pol n=M:=⟨_,rfl⟩;have hM2:mR l js pol n=M:=hM;rw[hM] at hLen oe0 ot0 os0⊢;rw[hM2] at hok hEn HT;clear hM2;obtain⟨la,hla⟩: ∃la,qbg l js M.en (n:Int) js.length=la:=⟨_,rfl⟩;obtain⟨dr,hdr⟩: ∃dr,qfr M.en js.length=dr:=⟨_,rfl⟩;have hlaL:=qvi l js M.en (n:Int) js.length;have hlaB:=qvh l js M.en (n:Int) js.length;have hdrL:=qrh M.en js.length;have hdrB:=qri M.en js.length;rw[hla] at HT hlaL hlaB;rw[hdr] at HT hdrL hdrB;obtain⟨L1,L2,_⟩:=hLen
 have hib: ∀(o:List Nat),(∀i∈o,i<js.length)→ ∀t∈Vv o,0≤t∧t≤1000000000:=by
  intro o ho t ht;simp only[Vv,List.mem_map] at ht;obtain⟨i,hi,rfl⟩:=ht;have:=ho i hi;omega
 have HF1:=fun w' h=>qmv Ae At As M.en.length ce M.tr.length ct M.sw.length cs M.tr M.hi w' rfl h (by omega) hok.1
 have HF2:=fun w' h=>qfy [115,119,105,116,99,104,101,115] As M.sw.length cs M.sw w' rfl h (by omega) (by simp) (fun t ht=>by have:=hok.2 t ht;omega)
 have HF3: ∀w',TS w' A l→JS w' J js→IS w' Ae M.en→Calls Tryz.prog 208 #[.slice A l.length c,.slice J js.length d,.agg #[.slice Ae M.en.length ce,.slice At M.tr.length ct,.slice As M.sw.length cs,.bool M.hi]] w' (qzj w' (Vv la)):=by
  intro w' h1 h2 h3
  have K: ∀ne,ne=js.length→Calls Tryz.prog 208 #[.slice A l.length c,.slice J js.length d,.agg #[.slice Ae ne ce,.slice At M.tr.length ct,.slice As M.sw.length cs,.bool M.hi]] w' (qzj w' (Vv (qbg l js M.en (M.tr.length:Int) js.length))):=by
   rintro _ rfl;exact qrs A l c J js d Ae M.en ce At M.tr.length ct As M.sw.length cs M.hi w' h1 h2 h3 hEn hV
  have K2:=K M.en.length hEn;rw[show((M.tr.length:Nat):Int)=(n:Int) by rw[L1],hla] at K2;exact K2
 have HF4:=fun w' A3 c3 h=>qfy [108,97,116,101] A3 la.length c3 (Vv la) w' (Qh la) h (by omega) (by simp) (hib la hlaB)
 have HF5: ∀w',IS w' Ae M.en→Calls Tryz.prog 209 #[.agg #[.slice Ae M.en.length ce,.slice At M.tr.length ct,.slice As M.sw.length cs,.bool M.hi]] w' (qzj w' (Vv dr)):=by
  intro w' h3;have K:=qpb Ae At As M.en.length ce M.tr.length ct M.sw.length cs M.en M.hi w' rfl h3 (by omega);rw[hEn,hdr,←hEn] at K;exact K
 have HF6:=fun w' A3 c3 h=>qfy [100,114,111,112,112,101,100] A3 dr.length c3 (Vv dr) w' (Qh dr) h (by omega) (by simp) (hib dr hdrB)
 have t1:(trT M.tr).length≤200:=by rw[qnl];omega
 have t2:=qcf M.sw (fun t ht=>by have:=hok.2 t ht;omega);have t3:=qcf (Vv la) (fun t ht=>(hib la hlaB t ht).2);have t4:=qcf (Vv dr) (fun t ht=>(hib dr hdrB t ht).2);rw[Qh] at t3 t4;replace t2:(qbn M.sw).length≤22*200:=by omega
 replace t3:(qbn (Vv la)).length≤22*60:=by omega
 replace t4:(qbn (Vv dr)).length≤22*60:=by omega
 generalize trT M.tr=TT at t1 HF1 HT;clear hEn hla hdr hlaL hlaB hdrL hdrB L1 L2 hib hok hM hV hp hf;have N0:=zha w1 (qln (.slice Ae M.en.length ce) (.slice At M.tr.length ct) (.slice As M.sw.length cs) M.hi);have bN:=bal (Below.refl w1.heap.size w1) (qln (.slice Ae M.en.length ce) (.slice At M.tr.length ct) (.slice As M.sw.length cs) M.hi);have hA2:=(bN.block _ hgl).trans hA1;have oe:=Q3 oe0 bN;have ot:=Q3 ot0 bN;have os:=Q3 os0 bN;have B2:=Qa B1 bN;have h3:=h.keep B2;have g3:=g.keep B2;go_upto_region 2 with fail;generalize World.alloc w1 _=w2 at N0 hA2 oe ot os B2 h3 g3⊢;clear bN oe0 ot0 os0 B1 b1 hA1;obtain⟨r,hr⟩: ∃r,w1.heap.size=r:=⟨_,rfl⟩;obtain⟨g',hg'⟩: ∃g',w.heap.size=g':=⟨_,rfl⟩;rw[hr] at N0⊢;rw[hg'] at hA2⊢;clear hr hgl;have HG:=zhi hg';clear hg';have oe:=qv7 oe;have ot:=qv7 ot;have os:=qv7 os;go_upto_region 4 with fail;refine wp_region_held (S:=fun w'=>w'.heap[g']? =some (ssC A l.length c J js.length d pol)∧w'.heap[r]? =some (qln (.slice Ae M.en.length ce) (.slice At M.tr.length ct) (.slice As M.sw.length cs) M.hi)) (by kernel_rfl) ?_;change wpAnyH _ _ _ _ _ _ _ _ (World.drew _);have K0:Below w2.heap.size w2 (World.drew w2):=zdr br;have hSk: ∀{v:World},Below w2.heap.size w2 v→v.heap[g']? =some (ssC A l.length c J js.length d pol)∧v.heap[r]? =some (qln (.slice Ae M.en.length ce) (.slice At M.tr.length ct) (.slice As M.sw.length cs) M.hi):=fun h=>⟨bh h hA2,bh h N0⟩
 have hS0:=hSk K0;refine tq 0 20 (.agg #[.slice Ae M.en.length ce,.slice At M.tr.length ct,.slice As M.sw.length cs,.bool M.hi]) rfl (fun w hS=>by obtain⟨hSa,hSb⟩:=hS;obtain⟨x0,x1,x2⟩:=Qb hSa;obtain⟨y0,y1,y2,y3⟩:=qdq hSb;go_simp) hS0 ?_;refine tq 4 24 (.pointer (some ⟨r,2,none⟩)) rfl (fun w _=>by go_simp) hS0 ?_;refine tq 5 25 (.slice As M.sw.length cs) rfl (fun w hS=>by obtain⟨hSa,hSb⟩:=hS;obtain⟨x0,x1,x2⟩:=Qb hSa;obtain⟨y0,y1,y2,y3⟩:=qdq hSb;go_simp) hS0 ?_;refine tq 8 28 (.pointer (some ⟨g',0,none⟩)) rfl (fun w _=>by go_simp) hS0 ?_;refine tq 9 29 (.slice A l.length c) rfl (fun w hS=>by obtain⟨hSa,hSb⟩:=hS;obtain⟨x0,x1,x2⟩:=Qb hSa;obtain⟨y0,y1,y2,y3⟩:=qdq hSb;go_simp) hS0 ?_;refine tq 10 30 (.pointer (some ⟨g',1,none⟩)) rfl (fun w _=>by go_simp) hS0 ?_;refine tq 11 31 (.slice J js.length d) rfl (fun w hS=>by obtain⟨hSa,hSb⟩:=hS;obtain⟨x0,x1,x2⟩:=Qb hSa;obtain⟨y0,y1,y2,y3⟩:=qdq hSb;go_simp) hS0 ?_;refine tq 12 32 (.agg #[.slice Ae M.en.length ce,.slice At M.tr.length ct,.slice As M.sw.length cs,.bool M.hi]) rfl (fun w hS=>by obtain⟨hSa,hSb⟩:=hS;obtain⟨x0,x1,x2⟩:=Qb hSa;obtain⟨y0,y1,y2,y3⟩:=qdq hSb;go_simp) hS0 ?_;refine tq 16 36 (.agg #[.slice Ae M.en.length ce,.slice At M.tr.length ct,.slice As M.sw.length cs,.bool M.hi]) rfl (fun w hS=>by obtain⟨hSa,hSb⟩:=hS;obtain⟨x0,x1,x2⟩:=Qb hSa;obtain⟨y0,y1,y2,y3⟩:=qdq hSb;go_simp) hS0 ?_;refine ch 1 21 rfl 206 Tryz.func206 #[.agg #[.slice Ae M.en.length ce,.slice At M.tr.length ct,.slice As M.sw.length cs,.bool M.hi]] (HF1 _ (ot.keep K0)) ?_;rintro e v1 ⟨rfl,bz1⟩;have K1:=Qa K0 bz1;have hS1:=hSk K1;refine⟨_,rfl,hS1,?_⟩;simp only[lsS,lsZ];refine tq 2 22 (.string ⟨([116,114,97,99,101,32]++TT).toArray⟩) rfl (fun w _=>by go_simp<;>(first|(rw[Yaq (by omega)];simp[Qn])|omega)) hS1 ?_;refine tq 3 23 (.string ⟨(([116,114,97,99,101,32]++TT)++[10]).toArray⟩) rfl (fun w _=>by go_simp<;>(first|(rw[Yaq (by omega)];simp[Qn])|omega)) hS1 ?_;refine ch 6 26 rfl 207 Tryz.func207 #[.string ⟨([115,119,105,116,99,104,101,115]:List UInt8).toArray⟩,.slice As M.sw.length cs] (HF2 _ (os.keep K1)) ?_;rintro e v2 ⟨rfl,bz2⟩;have K2:=Qa K1 bz2;have hS2:=hSk K2;refine⟨_,rfl,hS2,?_⟩;simp only[lsS,lsZ];refine tq 7 27 (.string ⟨((([116,114,97,99,101,32]++TT)++[10])++(([115,119,105,116,99,104,101,115]++qbn M.sw)++[10])).toArray⟩) rfl (fun w _=>by go_simp<;>(first|(rw[Yaq (by omega)];simp[Qn])|omega)) hS2 ?_;refine ch 13 33 rfl 208 Tryz.func208 #[.slice A l.length c,.slice J js.length d,.agg #[.slice Ae M.en.length ce,.slice At M.tr.length ct,.slice As M.sw.length cs,.bool M.hi]] (HF3 _ (h3.keep K2) (g3.keep K2) (oe.keep K2)) ?_;rintro e v3 ⟨A3,c3,rfl,o3,bz3⟩;have K3:=Qa K2 bz3;have hS3:=hSk K3;rw[Qh];refine⟨_,rfl,hS3,?_⟩;simp only[lsS,lsZ];refine ch 14 34 rfl 207 Tryz.func207 #[.string ⟨([108,97,116,101]:List UInt8).toArray⟩,.slice A3 la.length c3] (HF4 _ _ _ (qv7 o3)) ?_;rintro e v4 ⟨rfl,bz4⟩;have K4:=Qa K3 bz4;have hS4:=hSk K4;refine⟨_,rfl,hS4,?_⟩;simp only[lsS,lsZ];refine tq 15 35 (.string ⟨(((([116,114,97,99,101,32]++TT)++[10])++(([115,119,105,116,99,104,101,115]++qbn M.sw)++[10]))++(([108,97,116,101]++qbn (Vv la))++[10])).toArray⟩) rfl (fun w _=>by go_simp<;>(first|(rw[Yaq (by omega)];simp[Qn])|omega)) hS4 ?_;refine ch 17 37 rfl 209 Tryz.func209 #[.agg #[.slice Ae M.en.length ce,.slice At M.tr.length ct,.slice As M.sw.length cs,.bool M.hi]] (HF5 _ (oe.keep K4)) ?_;rintro e v5 ⟨A5,c5,rfl,o5,bz5⟩;have K5:=Qa K4 bz5;have hS5:=hSk K5;rw[Qh];refine⟨_,rfl,hS5,?_⟩;simp only[lsS,lsZ];refine ch 18 38 rfl 207 Tryz.func207 #[.string ⟨([100,114,111,112,112,101,100]:List UInt8).toArray⟩,.slice A5 dr.length c5] (HF6 _ _ _ (qv7 o5)) ?_;rintro e v6 ⟨rfl,bz6⟩;have K6:=Qa K5 bz6;have hS6:=hSk K6;refine⟨_,rfl,hS6,?_⟩;simp only[lsS,lsZ];refine tq 19 39 (.string ⟨((((([116,114,97,99,101,32]++TT)++[10])++(([115,119,105,116,99,104,101,115]++qbn M.sw)++[10]))++(([108,97,116,101]++qbn (Vv la))++[10]))++(([100,114,111,112,112,101,100]++qbn (Vv dr))++[10])).toArray⟩) rfl (fun w _=>by go_simp<;>(first|(rw[Yaq (by omega)];simp[Qn])|omega)) hS6 ?_;refine tq 20 4 (.string ⟨((((([116,114,97,99,101,32]++TT)++[10])++(([115,119,105,116,99,104,101,115]++qbn M.sw)++[10]))++(([108,97,116,101]++qbn (Vv la))++[10]))++(([100,114,111,112,112,101,100]++qbn (Vv dr))++[10])).toArray⟩) rfl (fun _ _=>rfl) hS6 ?_;refine wpAnyH_done (by kernel_rfl) ?_ _;go_wp2_with fail;go_ret;have BF:=Qa B2 K6;rw[HG.out] at BF⊢;exact⟨by rw[HT.out];rfl,BF⟩
end Go.Proofs.YtmkjmancmiphfaaGreatDoor
