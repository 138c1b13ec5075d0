/-
  What the reference tells of a run: the late jobs.
  What the reference tells of a run: its trace.
  What the reference tells of a run: the dropped jobs.
  Which texts are numbers, tasks, sets of tasks, jobs: in plain Lean.
  Texts cut and numbers read: the reference's.
-/
import Derived.Test.YtmkjmancmiphfaaGreatDoorRb28
namespace Go.Proofs.YtmkjmancmiphfaaGreatDoor
set_option maxHeartbeats 8000000
set_option maxRecDepth 1000000
open Go.RowKit
theorem qsx(A:ZA)(l:List Tk)(c:Nat)(B:ZA)(js:List Jb)(d:Nat)(E:ZA)(en:List Int)(ce:Nat)(Tr:ZA)(T ct:Nat)(Sw:ZA)(ns cs:Nat)(hi:Bool)(w:World)
  (h:TS w A l) (g:JS w B js) (hE:IS w E en) (hen:en.length=js.length) (hV:qa6 l js=true):
  Calls Tryz.prog 208 #[.slice A l.length c,.slice B js.length d,.agg #[.slice E js.length ce,.slice Tr T ct,.slice Sw ns cs,.bool hi]] w (q0a w (qbr (qc0 l js en T js.length))):=by
 have hV2:=hV;simp only[qa6,Bool.and_eq_true,List.all_eq_true,List.mem_range,decide_eq_true_eq] at hV2;obtain⟨⟨hS,h60⟩,hall⟩:=hV2
 have hjob: ∀i,i<js.length→qbw l (qat js i)=true:=fun i hi=>by
  have:=hall i hi;simp only[qeb,Bool.and_eq_true] at this;exact this.1.1
 have hl5:=(qaj hS).1;have HV:=zhi hV;have HJ:=zhi hjob;have Hen:=zhi hen;have HS:=zhi hS;clear hV hall hjob hen hS;have hT0:=zha w (.cells #[.slice E js.length ce,.slice Tr T ct,.slice Sw ns cs,.bool hi] 29 (0,0));have hba:=bal (Below.refl w.heap.size w) (.cells #[.slice E js.length ce,.slice Tr T ct,.slice Sw ns cs,.bool hi] 29 (0,0));go_enter Tryz.func208,Tryz.ntmps208;go_upto_region 1 with fail;generalize World.alloc w _=w0 at hT0 hba⊢;have hgl:w.heap.size<w0.heap.size:=(bl hT0);obtain⟨nR,hnR⟩: ∃nR,w.heap.size=nR:=⟨_,rfl⟩;rw[hnR] at hT0 hgl⊢;have HNR:=zhi hnR;clear hnR;have OB:=qbe w0 w0.heap.size (zlr _);have bB:=bal (Below.refl w0.heap.size w0) (.cells #[] 3);have hT1:=(bB.block _ hgl).trans hT0;go_upto_region 2 with fail;obtain⟨nB,hnB⟩: ∃nB,w0.heap.size=nB:=⟨_,rfl⟩;generalize World.alloc w0 _=w1 at OB bB hT1⊢;rw[hnB] at OB hgl⊢;have HNB:=zhi hnB;clear hnB hT0;obtain⟨r0,r1,_,_⟩:=qe9 hT1;go_wp2_with fail;refine(qft A l c B js d _ (h.keep (qaa hba bB)) (g.keep (qaa hba bB)) (by unfold maxLen;omega) (by unfold maxLen;omega)).mono ?_;rw[HV.out];rintro e w2 ⟨rfl,b2⟩;have hT2:=bh b2 hT1;have O2:=qa1 OB b2;have B0:Below w0.heap.size w0 w2:=qaa bB b2;clear r0 r1 hT1 OB bB b2;obtain⟨r0,r1,_,_⟩:=qe9 hT2;have e0:((js.length:Int) !=(js.length:Int))=false:=by simp
 go_wp2_with fail;clear e0;go_loopg [7,8,9] js.length (fun gg v i x9 wr=> ∃(k bo c':Nat) (xs:List Nat),gg+k=js.length∧i=.int .i64 (k:Int)∧v=.slice (some ⟨bo,0,none⟩) xs.length c'∧Hid (qc0 l js en T k=xs)∧xs.length≤k∧OI nB wr (some ⟨bo,0,none⟩) c' (qbr xs)∧Below w0.heap.size w0 wr∧wr.heap[nR]? =some (.cells #[.slice E js.length ce,.slice Tr T ct,.slice Sw ns cs,.bool hi] 29 (0,0)))
 case atStart=>exact⟨0,_,0,[],by omega,rfl,rfl,rfl,by simp,O2,B0,hT2⟩
 case round=>
  clear r0 r1 O2 B0 hT2;obtain⟨k,bo,c',xs,hgk,rfl,rfl,hxs,hxl,hO,hb,hTr⟩:=hrel;have B2:=qaa hba hb;obtain⟨r0,r1,_,_⟩:=qe9 hTr;by_cases hlt:k<js.length
  ·obtain⟨b,off,rfl,hbl,hc⟩:=g.keep B2 (by omega);obtain⟨k0,k1,k2⟩:=qbg hc k hlt;have hJk:=HJ.out k hlt;have hjk:=qbv js k hlt;rw[hjk] at hJk;have hstep:qc0 l js en T (k+1)=xs++(if qsg l js en T k then [k] else []):=by rw[←hxs.out];rfl
   have hlate:qsg l js en T k=(decide (js[k].at_+(qag l js[k].task.toNat).due<en.getD k 0)||(decide (en.getD k 0= -1)&&decide (js[k].at_+(qag l js[k].task.toNat).due≤(T:Int)))):=by
    simp only[qsg,jA,jK,hjk]
   have hek:k<en.length:=by rw[Hen.out];exact hlt
   obtain⟨eb,eo,hEe,hel,hec⟩:=hE.keep B2 (by omega);have ek:=hec k (en.getD k 0) (by simp[hek]);clear hec hek hjk hc;generalize en.getD k 0=e at ek hlate;generalize js[k]=J at k0 k1 k2 hJk hlate;obtain⟨q,a,n⟩:=J;have hJ2:=hJk;simp only[qbw,Bool.and_eq_true,decide_eq_true_eq] at hJ2;obtain⟨⟨⟨⟨hp,ha0⟩,ha1⟩,_⟩,_⟩:=hJ2;obtain⟨_,_,hx,hq⟩:=qc6 hp;generalize q.toNat=x at hx hq hlate;subst hq;obtain⟨tb,toff,hAe,htl,htc⟩:=h.keep B2 (by omega);obtain⟨_,_,q2,_,_⟩:=qav htc x hx;have hev:=qcb (qaq HS.out hx);have hlate:qsg l js en T k=(decide (a+(qag l x).due<e)||(decide (e= -1)&&decide (a+(qag l x).due≤(T:Int)))):=hlate;generalize(qag l x).due=D at q2 hlate hev;have hD0:0≤D∧D≤20:=by omega
   have HL:=zhi hlate;have HSt:=zhi hstep;have qw:IntKind.i64.wrap (a+D)=a+D:=IntWalk.i64_in _ (by omega);have ha300:a≤280:=by omega
   clear hJk hp hev hlate hstep htc ha1;subst hEe hAe;have hkI:(k:Int)<(js.length:Int):=by omega
   have hxI:(x:Int)<(l.length:Int):=by omega
   have hw0:nB≤wr.heap.size:=by rw[←HNB.out];exact hb.size
   go_wp2_with fail;go_quiet (fail)
   have hbz:Below wr.heap.size wr (wr.drewN nq):=bdr br nq;generalize World.drewN wr nq=wz at hbz⊢;have hO2:=qa1 hO hbz;have hb2:=qaa hb hbz;have hT3:=bh hbz hTr;replace ek:=(hbz.cell (p:=⟨eb,eo+k,none⟩) hel).trans ek;have hzs:nB≤wz.heap.size:=zll hw0 hbz.size;clear k0 k1 k2 q2 qw r0 r1 hO hb hTr hbz hbl htl hel hw0;obtain⟨r0,r1,_,_⟩:=qe9 hT3
   have HBK:Hid (∀{v v3:World},Below w0.heap.size w0 v→Below nB v v3→Below w0.heap.size w0 v3):=by
    intro v v3 h1 h2;rw[HNB.out] at h1⊢;exact h1.trans h2
   have HTK:Hid (∀(v:World) {v3:World},Below wz.heap.size wz v→Below nB v v3→v3.heap[nR]? =some (.cells #[.slice (some ⟨eb,eo,none⟩) js.length ce,.slice Tr T ct,.slice Sw ns cs,.bool hi] 29 (0,0))):=by
    intro v v3 h1 h2;exact(h2.block _ hgl).trans (bh h1 hT3)
   generalize hDD:a+D=DD at HL⊢;clear hDD;by_cases c1:DD<e
   ·have d1:decide (e>DD)=true:=decide_eq_true c1;have HS1:Hid (qc0 l js en T (k+1)=xs++[k]):=by rw[Hid,HSt.out,HL.out];simp[c1]
    go_wp2_with (at_builtin;refine qa4 _ rfl _ _ rfl nB bo (qbr xs) xs.length c' (qah xs) rfl (qa2 hO2 _) wz.heap.size 1 (k:Int) 3 rfl (zha wz _) (by rw[qah];omega) (by simp;omega) _ rfl ?_;intro g3 c3 w3 o3 gb3 hat3 b3)
    rw[←qc7] at o3;go_roundg (gk-1)
    case measure=>omega
    case rel=>exact⟨k+1,g3,c3,xs++[k],by omega,by go_num,by rw[List.length_append];rfl,HS1,by simp;omega,o3,(HBK.out (bal hb2 _) b3),(HTK.out _ (bal (Below.refl wz.heap.size wz) _) b3)⟩
   ·have d1:decide (e>DD)=false:=decide_eq_false c1;by_cases c2:e= -1
    ·subst c2;have d2:((-1:Int)== -1)=true:=rfl;by_cases c3':DD≤(T:Int)
     ·have d3:decide (DD≤(T:Int))=true:=decide_eq_true c3';have HS1:Hid (qc0 l js en T (k+1)=xs++[k]):=by rw[Hid,HSt.out,HL.out];simp[c3']
      go_wp2_with (at_builtin;refine qa4 _ rfl _ _ rfl nB bo (qbr xs) xs.length c' (qah xs) rfl (qa2 hO2 _) wz.heap.size 1 (k:Int) 3 rfl (zha wz _) (by rw[qah];omega) (by simp;omega) _ rfl ?_;intro g3 c3 w3 o3 gb3 hat3 b3)
      rw[←qc7] at o3;go_roundg (gk-1)
      case measure=>omega
      case rel=>exact⟨k+1,g3,c3,xs++[k],by omega,by go_num,by rw[List.length_append];rfl,HS1,by simp;omega,o3,(HBK.out (bal hb2 _) b3),(HTK.out _ (bal (Below.refl wz.heap.size wz) _) b3)⟩
     ·have d3:decide (DD≤(T:Int))=false:=decide_eq_false c3';have HS1:Hid (qc0 l js en T (k+1)=xs):=by rw[Hid,HSt.out,HL.out];simp[c1,c3']
      go_wp2_with fail;go_roundg (gk-1)
      case measure=>omega
      case rel=>exact⟨k+1,bo,c',xs,by omega,by go_num,rfl,HS1,by omega,hO2,hb2,hT3⟩
    ·have d2:(e== -1)=false:=beq_eq_false_iff_ne.2 c2;have HS1:Hid (qc0 l js en T (k+1)=xs):=by rw[Hid,HSt.out,HL.out];simp[c1,c2]
     go_wp2_with fail;go_roundg (gk-1)
     case measure=>omega
     case rel=>exact⟨k+1,bo,c',xs,by omega,by go_num,rfl,HS1,by omega,hO2,hb2,hT3⟩
  ·obtain rfl:k=js.length:=by omega
   go_wp2_with fail;go_ret;unfold q0a;rw[hxs.out];refine⟨_,c',by rw[qah];rfl,qal hO (by rw[←HNB.out];exact hba.size),B2⟩
theorem q11:(Tryz.prog.info? 5).map (fun i=>(i.zero,i.size,i.bytes))=some (some (.int .u8 0),1,1):=by kernel_rfl
def qrv(l:List UInt8):List Value:=l.map (fun(b:UInt8)=>Value.int .u8 (b.toNat:Int))
def OB(base:Nat)(w:World)(A:ZA)(c:Nat)(l:List UInt8):Prop:=w.ownsRow base 5 1 (.slice A l.length c) l.length (qrv l)
theorem q4c(w:World)(base:Nat)(hb:base≤w.heap.size):OB base (w.alloc (.cells #[] 5)) (some ⟨w.heap.size,0,none⟩) 0 []:=qfz w _ 1 base hb
theorem qyn{base:Nat}{w:World}{A:ZA}{c:Nat}{l:List UInt8}(h:OB base w A c l)(o:Obj):OB base (w.alloc o) A c l:=World.ownsRow.alloc h o
theorem qjz(w:World){ops:Array Oper}{rest:List Oper}{o:Oper}{a:Act}{Q:Exit→Act→World→Prop}(hgd:o.guard=none)(s x:Operand)
  (ho:o.op=.call {callee:=.builtin .append,args:=#[s,x],argTypes:=#[22,22]})
  (base b0:Nat) (l:List UInt8) (c:Nat) (hs:a.eval s=.slice (some ⟨b0,0,none⟩) l.length c) (hown:OB base w (some ⟨b0,0,none⟩) c l)
  (b c1:Nat) (y:UInt8) (v:Int) (hv:v=(y.toNat:Int)) (ty:TypeId) (hx:a.eval x=.slice (some ⟨b,0,none⟩) 1 c1) (hb:w.heap[b]? =some (.cells #[.int .u8 v] ty (0,0)))
  (hl:l.length≤2000000) (hbase:base≤w.heap.size)
  (h: ∀g c' w',OB base w' (some ⟨g,0,none⟩) c' (l++[y])→Below base w w'→wpList Tryz.prog ops Q rest (a.put o.dst (.slice (some ⟨g,0,none⟩) (l.length+1) c')) w'):wpList Tryz.prog ops Q (o::rest) a w:=by
 obtain⟨i0,hi,hz0,hz1,hz2⟩:=info_parts q11
 refine wpList_append_lies w hgd s x 22 ho base 5 i0 _ 1 1 Tryz.underlying22 hi hz0 hz1 hz2 rfl (by decide) (.slice (some ⟨b0,0,none⟩) l.length c) l.length (qrv l) hs hown
  ⟨b,0,none⟩ 1 c1 [.int .u8 v] hx rfl ?_ ?_ (by omega) (by unfold maxLen;omega) (by omega) hbase _ rfl ?_
 ·intro j u hj;rw[qb5,cell_of_row w b j _ ty (0,0) hb,←Array.getElem?_toList];exact hj
 ·intro u hu;simp at hu;rw[hu];rfl
 ·intro g c' w' hown' hg hat _;refine h g c' w' ?_ (qb0 hown hg hbase);unfold OB;rw[List.length_append,List.length_singleton];have e:qrv (l++[y])=qrv l++[.int .u8 v]:=by simp[qrv,hv]
  rw[e];exact hown'
theorem q4d{base:Nat}{w:World}{b c:Nat}{l:List UInt8}(h:OB base w (some ⟨b,0,none⟩) c l):
  (convert 22 9 (.slice (some ⟨b,0,none⟩) l.length c)).run Tryz.prog w=.ok (.string ⟨l.toArray⟩) w:=by
 refine run_convert_bytes_back _ 22 9 5 _ c l Tryz.underlying22 Tryz.underlying5 Tryz.underlying9 ?_;intro j hj;exact World.ownsRow.cells h (g:=b) rfl j _ (by simp[qrv,hj])
theorem qn3(E T S:ZA)(ne c nt d ns f:Nat)(tr:List Int)(hi:Bool)(w:World)(hnt:tr.length=nt)(ht:IS w T tr)(hl:nt≤200)(hok: ∀t∈tr,t= -1∨(0≤t∧t≤4)):
  Calls Tryz.prog 206 #[.agg #[.slice E ne c,.slice T nt d,.slice S ns f,.bool hi]] w fun e w'=>e=.returned (.string ⟨(trT tr).toArray⟩)∧Below w.heap.size w w':=by
 have hA:=zha w (runC (.slice E ne c) (.slice T nt d) (.slice S ns f) hi);have hb:=bal (Below.refl w.heap.size w) (runC (.slice E ne c) (.slice T nt d) (.slice S ns f) hi);go_enter Tryz.func206,Tryz.ntmps206;go_upto_region 1 with fail;generalize World.alloc w _=w1 at hA hb⊢;have hgl:w.heap.size<w1.heap.size:=(bl hA);obtain⟨gB,hgB⟩: ∃gB,w.heap.size=gB:=⟨_,rfl⟩;rw[hgB] at hA hgl⊢;have O0:=q4c w1 w1.heap.size (zlr _);have b0:=bal (Below.refl w1.heap.size w1) (.cells #[] 5);clear hgB;have e200:decide ((nt:Int)≤200)=true:=decide_eq_true (by omega);go_wp2_with fail;go_loopg [3,4,19,29] nt (fun gg v i x19 x29 wr=> ∃(k bo c':Nat) (P:List UInt8),gg+k=nt∧i=.int .i64 (k:Int)∧v=.slice (some ⟨bo,0,none⟩) P.length c'∧Hid (P=trT (tr.take k))∧OB w1.heap.size wr (some ⟨bo,0,none⟩) c' P∧Below w1.heap.size w1 wr)
 case atStart=>exact⟨0,_,0,[],by omega,rfl,rfl,rfl,O0,b0⟩
 case round=>
  clear O0 b0;obtain⟨k,bo,c',P,hgk,rfl,rfl,hP,hO,hbr⟩:=hrel;have hB2:=qaa hb hbr;have hA2:=(hbr.block _ hgl).trans hA;obtain⟨a0,a1,a2,a3⟩:=qe9 hA2;have hPl:P.length≤200:=by rw[hP.out,qot,List.length_take];omega
  by_cases hkl:k<nt
  ·have e0:decide ((k:Int)<(nt:Int))=true:=decide_eq_true (by omega);have hkI:(k:Int)<(nt:Int):=by omega
   have hkl2:k<tr.length:=by omega
   obtain⟨b,off,rfl,hbl,hc⟩:=(ht.keep hB2) (by omega);have hc0:=hc k tr[k] (by simp[hkl2]);have ho:=hok tr[k] (List.getElem_mem hkl2);have hst:tr.take (k+1)=tr.take k++[tr[k]]:=by rw[List.take_succ_eq_append_getElem hkl2]
   have hTS:=qyd (tr.take k) tr[k];rw[←hst] at hTS;clear hst hc;generalize tr[k]=t at hc0 ho hTS;by_cases h1:t= -1
   ·subst h1;have HT:Hid (P++[46]=trT (tr.take (k+1))):=by rw[Hid,hTS,hP.out];rfl
    clear hTS ho;go_wp2_with (at_builtin;go_loud (refine qjz _ rfl _ _ rfl w1.heap.size bo P c' rfl (qyn hO _) wr.heap.size 1 46 46 rfl 5 rfl (zha wr _) (by omega) (by have:=hbr.size;simp;omega) ?_);intro g3 c3 w3 o3 b3)
    go_roundg (gk-1)
    case measure=>omega
    case rel=>exact⟨k+1,g3,c3,P++[46],by omega,by go_num,by rw[List.length_append];rfl,HT,o3,(bal hbr _).trans b3⟩
   ·have d1:(t== -1)=false:=by simpa using h1
    have d2:decide (t≥0)=true:=decide_eq_true (by omega);have d3:decide (t<5)=true:=decide_eq_true (by omega);have ht0:0≤t:=by omega
    have ht5:t≤4:=by omega
    have HT:Hid (P++[UInt8.ofNat (48+t.toNat)]=trT (tr.take (k+1))):=by rw[Hid,hTS,hP.out,if_neg h1]
    have HV:Hid (48+t=((UInt8.ofNat (48+t.toNat)).toNat:Int)):=by
     rw[Hid,UInt8.toNat_ofNat'];omega
    clear hTS h1 ho;go_wp2_with (at_builtin;go_loud (refine qjz _ rfl _ _ rfl w1.heap.size bo P c' rfl (qyn hO _) wr.heap.size 1 (UInt8.ofNat (48+t.toNat)) (48+t) HV.out 5 rfl (zha wr _) (by omega) (by have:=hbr.size;simp;omega) ?_);intro g3 c3 w3 o3 b3)
    go_roundg (gk-1)
    case measure=>omega
    case rel=>exact⟨k+1,g3,c3,P++[UInt8.ofNat (48+t.toNat)],by omega,by go_num,by rw[List.length_append];rfl,HT,o3,(bal hbr _).trans b3⟩
  ·obtain rfl:k=nt:=by omega
   have e0:decide ((k:Int)<(k:Int))=false:=decide_eq_false (by omega);have htk:tr.take k=tr:=List.take_of_length_le (by omega);rw[htk] at hP;have hcv:=q4d hO;go_wp2_with fail;go_ret;exact⟨by rw[←hP.out];rfl,hB2⟩
theorem qqj(E T S:ZA)(ne c nt d ns f:Nat)(en:List Int)(hi:Bool)(w:World)(hne:en.length=ne)(he:IS w E en)(hl:ne≤100000):
  Calls Tryz.prog 209 #[.agg #[.slice E ne c,.slice T nt d,.slice S ns f,.bool hi]] w (q0a w (qbr (qhb en ne))):=by
 have hA:=zha w (runC (.slice E ne c) (.slice T nt d) (.slice S ns f) hi);have hb:=bal (Below.refl w.heap.size w) (runC (.slice E ne c) (.slice T nt d) (.slice S ns f) hi);go_enter Tryz.func209,Tryz.ntmps209;go_upto_region 1 with fail;generalize World.alloc w _=w1 at hA hb⊢;have hgl:w.heap.size<w1.heap.size:=(bl hA);obtain⟨gB,hgB⟩: ∃gB,w.heap.size=gB:=⟨_,rfl⟩;rw[hgB] at hA hgl⊢;have O0:=qbe w1 w1.heap.size (zlr _);have b0:=bal (Below.refl w1.heap.size w1) (.cells #[] 3);have HGB:=zhi hgB;clear hgB;go_wp2_with fail;go_loopg [3,4] ne (fun gg v i wr=> ∃(k bo c':Nat) (xs:List Nat),gg+k=ne∧i=.int .i64 (k:Int)∧v=.slice (some ⟨bo,0,none⟩) xs.length c'∧Hid (qhb en k=xs)∧xs.length≤k∧OI w1.heap.size wr (some ⟨bo,0,none⟩) c' (qbr xs)∧Below w1.heap.size w1 wr)
 case atStart=>exact⟨0,_,0,[],by omega,rfl,rfl,rfl,by simp,O0,b0⟩
 case round=>
  clear O0 b0;obtain⟨k,bo,c',xs,hgk,rfl,rfl,hxs,hxl,hO,hbr⟩:=hrel;have hB2:=qaa hb hbr;have hA2:=(hbr.block _ hgl).trans hA;obtain⟨a0,a1,a2,a3⟩:=qe9 hA2;by_cases hkl:k<ne
  ·have e0:decide ((k:Int)<(ne:Int))=true:=decide_eq_true (by omega);have hkI:(k:Int)<(ne:Int):=by omega
   have hkl2:k<en.length:=by omega
   obtain⟨b,off,rfl,hbl,hc⟩:=(he.keep hB2) (by omega);have hc0:=hc k (en.getD k 0) (by simp[hkl2]);have hst:qhb en (k+1)=xs++(if en.getD k 0= -2 then [k] else []):=by rw[←hxs.out];rfl
   clear hc;generalize en.getD k 0=t at hc0 hst;by_cases h1:t= -2
   ·subst h1;have HT:Hid (qhb en (k+1)=xs++[k]):=hst;clear hst;go_wp2_with (at_builtin;refine qa4 _ rfl _ _ rfl w1.heap.size bo (qbr xs) xs.length c' (qah xs) rfl (qa2 hO _) wr.heap.size 1 (k:Int) 3 rfl (zha wr _) (by rw[qah];omega) (by have:=hbr.size;simp;omega) _ rfl ?_;intro g3 c3 w3 o3 gb3 hat3 b3)
    rw[←qc7] at o3;go_roundg (gk-1)
    case measure=>omega
    case rel=>exact⟨k+1,g3,c3,xs++[k],by omega,by go_num,by rw[List.length_append];rfl,HT,by simp;omega,o3,(bal hbr _).trans b3⟩
   ·have d1:(t== -2)=false:=by simpa using h1
    have HT:Hid (qhb en (k+1)=xs):=by rw[Hid,hst,if_neg h1,List.append_nil]
    clear hst h1;go_wp2_with fail;go_roundg (gk-1)
    case measure=>omega
    case rel=>exact⟨k+1,bo,c',xs,by omega,by go_num,rfl,HT,by omega,hO,hbr⟩
  ·obtain rfl:k=ne:=by omega
   have e0:decide ((k:Int)<(k:Int))=false:=decide_eq_false (by omega);go_wp2_with fail;go_ret;unfold q0a;rw[hxs.out];exact⟨_,c',by rw[qah];rfl,qal hO hb.size,hB2⟩
theorem qwz(l:List UInt8)(b:UInt8)(acc n:Nat)(h:Lib.decFrom acc (l++[b])=some n): ∃m d,Lib.decFrom acc l=some m∧Lib.digitVal b=some d∧n=m*10+d:=by
 induction l generalizing acc with
 |nil=>
  simp only[List.nil_append,Lib.decFrom] at h;cases hd:Lib.digitVal b with
  |none=>simp[hd] at h
  |some d=>
   simp only[hd,Option.some.injEq] at h;exact⟨acc,d,rfl,rfl,h.symm⟩
 |cons a t ih=>
  rw[List.cons_append] at h;simp only[Lib.decFrom] at h⊢;cases ha:Lib.digitVal a with
  |none=>simp[ha] at h
  |some e=>
   simp only[ha] at h⊢;exact ih _ h
theorem qzr{b:UInt8}{d:Nat}(h:Lib.digitVal b=some d):d<10∧UInt8.ofNat (48+d)=b:=by
 obtain⟨d0,d1,hd⟩:=Lib.digitVal_eq h;refine⟨by omega,?_⟩;apply UInt8.toNat_inj.1
 rw[UInt8.toNat_ofNat'];omega
theorem q12(r:List UInt8): ∀m,Lib.decFrom 0 r=some m→r≠[]→r.head?≠some 48→0<m∧Lib.decDigits m=r:=by
 refine qv1 (P:=fun r=> ∀m,Lib.decFrom 0 r=some m→r≠[]→r.head?≠some 48→0<m∧Lib.decDigits m=r) ?_ ?_ r
 ·intro m _ h;exact absurd rfl h
 ·intro l b ih m h _ hh;obtain⟨m',d,h1,h2,rfl⟩:=qwz l b 0 m h;obtain⟨hd,hb⟩:=qzr h2;cases l with
  |nil=>
   simp only[Lib.decFrom,Option.some.injEq] at h1;subst h1
   have hd0:d≠0:=by
    rintro rfl;exact hh (by rw[←hb];rfl)
   refine⟨by omega,?_⟩;rw[Nat.zero_mul,Nat.zero_add,qc8 d hd,hb];rfl
  |cons a t=>
   obtain⟨p,q⟩:=ih m' h1 (by simp) (by simpa using hh);refine⟨by omega,?_⟩;have e1:(m'*10+d)/10=m':=by omega
   have e2:(m'*10+d) % 10=d:=by omega
   rw[qjq _ (by omega),e1,e2,q,hb]
theorem q4e(n:Nat)(h:0<n):(Lib.decDigits n).head?≠some 48:=by
 induction n using Nat.strongRecOn with
 |_ n ih=>
  by_cases h10:n<10
  ·rw[qc8 n h10];intro e;simp only[List.head?_cons,Option.some.injEq] at e;have:=congrArg UInt8.toNat e;rw[UInt8.toNat_ofNat'] at this;have e48:(48:UInt8).toNat=48:=rfl;omega
  ·rw[qjq n h10];have hne:=qus (n/10);cases hl:Lib.decDigits (n/10) with
   |nil=>exact absurd hl hne
   |cons a t=>
    have:=ih (n/10) (by omega) (by omega);rw[hl] at this;simpa using this
def qw0(neg:Bool)(r:List UInt8):Option Nat:=if r.length=0∨17<r.length∨(r.head?=some 48∧(1<r.length∨neg=true)) then none else Lib.decFrom 0 r
def qez(s:List UInt8):Option Int:=if s.head?=some 45 then(qw0 true s.tail).map (fun(n:Nat)=> -(n:Int)) else(qw0 false s).map (fun(n:Nat)=>(n:Int))
theorem quz{neg:Bool}{r:List UInt8}{m:Nat}(h:qw0 neg r=some m):r≠[]∧r.length≤17∧Lib.decFrom 0 r=some m∧Lib.decDigits m=r∧(neg=true→0<m):=by
 unfold qw0 at h;split at h
 ·cases h
 ·rename_i hc
  have hc:=fun x=>hc x
  have h0:r≠[]:=by
   rintro rfl;exact hc (.inl rfl)
  have h17:r.length≤17:=by
   apply Classical.byContradiction
   intro hn;exact hc (.inr (.inl (by omega)))
  by_cases hh:r.head?=some 48
  ·cases r with
   |nil=>exact absurd rfl h0
   |cons a t=>
    obtain rfl:a=48:=by simpa using hh
    cases t with
    |nil=>
     have hm:m=0:=by
      simp only[Lib.decFrom] at h;have:Lib.digitVal 48=some 0:=rfl;rw[this] at h;simpa using h.symm
     subst hm;refine⟨h0,h17,h,by rw[qc8 0 (by decide)];rfl,fun hn=>absurd (.inr (.inr ⟨hh,.inr hn⟩)) hc⟩
    |cons b t=>exact absurd (.inr (.inr ⟨hh,.inl (by simp)⟩)) hc
  ·obtain⟨p,q⟩:=q12 r m h h0 hh;exact⟨h0,h17,h,q,fun _=>p⟩
theorem q13{neg:Bool}{m:Nat}(h17:(Lib.decDigits m).length≤17)(hn:neg=true→0<m):qw0 neg (Lib.decDigits m)=some m:=by
 have hne:=qus m;unfold qw0;rw[if_neg,qo1];rintro(h|h|⟨h1,h2⟩)
 ·exact hne (List.length_eq_zero_iff.1 h)
 ·omega
 ·by_cases h0:0<m
  ·exact q4e m h0 h1
  ·obtain rfl:m=0:=by omega
   rw[qc8 0 (by decide)] at h2;rcases h2 with h2|h2
   ·simp at h2
   ·exact h0 (hn h2)
theorem qmz(m:Nat):(Lib.decDigits m).head?≠some 45:=by
 have hm:=qwp m;cases hl:Lib.decDigits m with
 |nil=>simp
 |cons a t=>
  intro e;obtain rfl:a=45:=by simpa using e
  have:=hm 45 (by rw[hl];simp);have e45:(45:UInt8).toNat=45:=rfl;omega
theorem qiz(r:List UInt8):Lib.trimPrefix (45::r) [45]=r:=by simp[Lib.trimPrefix,Lib.hasPrefix,List.isPrefixOf]
theorem qf5{s:List UInt8}(h:s.head?≠some 45):Lib.trimPrefix s [45]=s:=by
 cases s with
 |nil=>rfl
 |cons a t=>
  have ha: ¬(45:UInt8)=a:=fun e=>h (by simp[←e])
  simp[Lib.trimPrefix,Lib.hasPrefix,List.isPrefixOf,ha]
theorem q14{r:List UInt8}{m:Nat}(h0:r≠[])(h:Lib.decFrom 0 r=some m):Lib.decNat r=some m:=by
 unfold Lib.decNat;rw[if_neg (by simpa using h0)];exact h
theorem qoj{s:List UInt8}{n:Int}(h:qez s=some n):Lib.itoa n=s∧Lib.atoi s=some n∧(Lib.trimPrefix s [45]).length≤17∧s.length≤18:=by
 unfold qez at h;split at h
 ·rename_i hh
  cases hm:qw0 true s.tail with
  |none=>rw[hm] at h;cases h
  |some m=>
   rw[hm] at h;simp only[Option.map_some,Option.some.injEq] at h;subst h;obtain⟨h0,h17,hd,hc,hp⟩:=quz hm;have hp:=hp rfl;cases s with
   |nil=>simp at hh
   |cons a t=>
    obtain rfl:a=45:=by simpa using hh
    rw[List.tail_cons] at h0 h17 hd hc;refine⟨?_,?_,?_,by simpa using h17⟩
    ·unfold Lib.itoa;rw[if_pos (by omega)];have e:(-(m:Int)).natAbs=m:=by omega
     rw[e,hc]
    ·have:=q14 h0 hd;simp[Lib.atoi,this]
    ·rw[qiz];exact h17
 ·rename_i hh
  cases hm:qw0 false s with
  |none=>rw[hm] at h;cases h
  |some m=>
   rw[hm] at h;simp only[Option.map_some,Option.some.injEq] at h;subst h;obtain⟨h0,h17,hd,hc,_⟩:=quz hm;refine⟨?_,?_,?_,by omega⟩
   ·unfold Lib.itoa;rw[if_neg (by omega),Int.toNat_natCast,hc]
   ·have hn:=qoe (m:Int) (by omega);unfold num at hn;rw[Int.toNat_natCast,hc] at hn;exact hn
   ·rw[qf5 hh];exact h17
theorem q15{s:List UInt8}{n:Int}(h:Lib.itoa n=s)(hl:(Lib.trimPrefix s [45]).length≤17):qez s=some n:=by
 subst h;unfold Lib.itoa at hl⊢;split
 ·rename_i hn
  rw[if_pos hn,qiz] at hl;unfold qez;rw[if_pos (by simp),List.tail_cons,q13 hl (fun _=>by omega)];simp only[Option.map_some,Option.some.injEq];omega
 ·rename_i hn
  rw[if_neg hn,qf5 (qmz _)] at hl;unfold qez;rw[if_neg (qmz _),q13 hl (fun e=>by cases e)];simp only[Option.map_some,Option.some.injEq];omega
theorem q4f(k n:Nat)(h:n<10^(k+1)):(Lib.decDigits n).length≤k+1:=by
 induction k generalizing n with
 |zero=>rw[qc8 n (by simpa using h)];simp
 |succ k ih=>
  by_cases h10:n<10
  ·rw[qc8 n h10];simp
  ·rw[qjq n h10,List.length_append,List.length_singleton];have:=ih (n/10) (by rw[Nat.pow_succ] at h;omega);omega
theorem qhv{n:Int}(h0:0≤n)(h1:n≤100000):qez (num n)=some n:=by
 have e:Lib.itoa n=num n:=by
  unfold Lib.itoa num;rw[if_neg (by omega)]
 refine q15 e ?_;rw[qf5 (by unfold num;exact qmz _)];have:=q4f 5 n.toNat (by omega);unfold num;omega
theorem qw5{s:List UInt8}{sep:List UInt8}(h:Lib.index s sep= -1):qar sep s=[s]:=by
 have hi:Go.Lib.indexB ⟨s.toArray⟩ ⟨sep.toArray⟩= -1:=h;unfold qar;rw[Go.Lib.splitB_miss _ _ _ _ hi];rfl
theorem qzs{s:List UInt8}{c:UInt8}{sep:List UInt8}{i:Nat}(h:Lib.index s (c::sep)=i):qar (c::sep) s=s.take i::qar (c::sep) (s.drop (i+(c::sep).length)):=by
 have hi:Go.Lib.indexB ⟨s.toArray⟩ ⟨(c::sep).toArray⟩=i:=h;have h1:1≤(⟨(c::sep).toArray⟩:ByteArray).size:=by rw[Go.Lib.size_eq];show 1≤(c::sep).length;simp
 have e1:(⟨s.toArray⟩:ByteArray).extract (i+(⟨(c::sep).toArray⟩:ByteArray).size) (⟨s.toArray⟩:ByteArray).size=⟨(s.drop (i+(c::sep).length)).toArray⟩:=by
  rw[Go.Lib.extract_eq,Go.Lib.size_eq,Go.Lib.size_eq];show(⟨((s.drop (i+(c::sep).length)).take (s.length-(i+(c::sep).length))).toArray⟩:ByteArray)=_;rw[List.take_of_length_le (by simp)]
 have e0:(⟨s.toArray⟩:ByteArray).extract 0 (i+0)=⟨(s.take i).toArray⟩:=by
  rw[Go.Lib.extract_eq];show(⟨((s.drop 0).take (i+0-0)).toArray⟩:ByteArray)=_;rw[List.drop_zero,Nat.add_zero,Nat.sub_zero]
 unfold qar;rw[Go.Lib.countB_hit _ _ _ h1 hi,e1,Nat.add_comm 1,Go.Lib.splitB_hit _ _ _ _ _ hi,e0,e1];rfl
theorem qfk(c:UInt8)(sep:List UInt8): ∀(k:Nat) (s:List UInt8),s.length≤k→Lib.join (qar (c::sep) s) (c::sep)=s:=by
 intro k;induction k with
 |zero=>
  intro s hs;obtain rfl:s=[]:=List.length_eq_zero_iff.1 (by omega);rw[qdm c sep [] (by simp),Lib.join_one]
 |succ k ih=>
  intro s hs;rcases Lib.index_spec s (c::sep) with⟨hi,_⟩|⟨i,hi,hil,ho,_⟩
  ·rw[qw5 hi,Lib.join_one]
  ·unfold Lib.occAt at ho;obtain⟨r,hr⟩:=List.isPrefixOf_iff_prefix.1 ho
   have hs2:s=s.take i++(c::sep)++r:=by
    rw[List.append_assoc,hr,List.take_append_drop]
   have hil2:(s.take i).length=i:=by rw[List.length_take];omega
   have hd:s.drop (i+(c::sep).length)=r:=by
    conv=>lhs;rw[hs2]
    rw[←hil2,←List.length_append,hil2,List.drop_left'];rw[List.length_append,hil2]
   have hrl:r.length≤k:=by
    have:=congrArg List.length hs2;simp only[List.length_append,List.length_cons] at this;omega
   rw[qzs hi,hd]
   have hne:qar (c::sep) r≠[]:=by
    have:=qim (c::sep) r (by simp);intro e;rw[e] at this;simp at this
   have:=ih r hrl;cases hp:qar (c::sep) r with
   |nil=>exact absurd hp hne
   |cons a t=>
    rw[hp] at this;have e:Lib.join (s.take i::a::t) (c::sep)=s.take i++(c::sep)++Lib.join (a::t) (c::sep):=by simp[Lib.join_cons,Lib.joinTail]
    rw[e,this];exact hs2.symm
theorem qi0{m n:Int}(h0:0≤m)(h1:0≤n)(h:num m=num n):m=n:=by
 have a:=qoe m h0;rw[h,qoe n h1] at a;exact(Option.some.inj a).symm
theorem q16{t u:Tk}(ht:vld t=true)(hu:vld u=true)(h:qbm t=qbm u):t=u:=by
 have c:=qo2 t;rw[h,qo2 u] at c;injection c with cn cr
 injection cr with cr _
 obtain⟨a1,a2,a3,a4,a5⟩:=qcb ht;obtain⟨b1,b2,b3,b4,b5⟩:=qcb hu
 have low:t.low=u.low∧t.high=u.high∧t.crit=u.crit:=by
  cases hc:t.crit with
  |true=>
   have x:=qkd hc;cases hd:u.crit with
   |true=>
    rw[←cn,qkd hd] at x;injection x with x1 x2
    injection x2 with x2 _
    exact⟨(qi0 (by omega) (by omega) x1).symm,(qi0 (by omega) (by omega) x2).symm,rfl⟩
   |false=>
    rw[←cn,ql4 hd] at x;injection x with _ x2
    injection x2 with _ x3
    cases x3
  |false=>
   have x:=ql4 hc;cases hd:u.crit with
   |true=>
    rw[←cn,qkd hd] at x;injection x with _ x2
    injection x2 with _ x3
    cases x3
   |false=>
    rw[←cn,ql4 hd] at x;injection x with x1 _
    have e:=(qi0 (by omega) (by omega) x1).symm;exact⟨e,by rw[←qv5 ht hc,←qv5 hu hd];exact e,rfl⟩
 have due:t.every=u.every∧t.due=u.due:=by
  by_cases hc:t.due<t.every
  ·have x:=qju hc;by_cases hd:u.due<u.every
   ·rw[←cr,qju hd] at x;injection x with x1 x2
    injection x2 with x2 _
    exact⟨(qi0 (by omega) (by omega) x1).symm,(qi0 (by omega) (by omega) x2).symm⟩
   ·rw[←cr,qjv hd] at x;injection x with _ x2
    injection x2 with _ x3
    cases x3
  ·have x:=qjv hc;by_cases hd:u.due<u.every
   ·rw[←cr,qju hd] at x;injection x with _ x2
    injection x2 with _ x3
    cases x3
   ·rw[←cr,qjv hd] at x;injection x with x1 _
    have e:=(qi0 (by omega) (by omega) x1).symm;exact⟨e,by omega⟩
 obtain⟨l1,l2,l3⟩:=low;obtain⟨d1,d2⟩:=due;cases t
 cases u
 simp only at l1 l2 l3 d1 d2;subst l1 l2 l3 d1 d2;rfl
def q6p:List Tk:=(List.range 21).flatMap fun(a:Nat)=>(List.range 21).flatMap fun(b:Nat)=>(List.range 21).flatMap fun(c:Nat)=>(List.range 21).flatMap fun(d:Nat)=>[⟨(a:Int),(b:Int),(c:Int),(d:Int),true⟩,⟨(a:Int),(b:Int),(c:Int),(d:Int),false⟩]
theorem q17{t:Tk}(h:vld t=true):t∈q6p:=by
 obtain⟨a1,a2,a3,a4,a5⟩:=qcb h;unfold q6p;simp only[List.mem_flatMap,List.mem_range];refine⟨t.low.toNat,by omega,t.high.toNat,by omega,t.due.toNat,by omega,t.every.toNat,by omega,?_⟩;have e1:(t.low.toNat:Int)=t.low:=by omega
 have e2:(t.high.toNat:Int)=t.high:=by omega
 have e3:(t.due.toNat:Int)=t.due:=by omega
 have e4:(t.every.toNat:Int)=t.every:=by omega
 rw[e1,e2,e3,e4];obtain⟨a,b,c,d,e⟩:=t;cases e<;>simp
def tkO(s:List UInt8):Option Tk:=q6p.find? (fun t=>vld t&&(qbm t==s))
theorem qi1{s:List UInt8}{t:Tk}(h:tkO s=some t):vld t=true∧qbm t=s:=by
 have:=List.find?_some h;simpa using this
theorem qi2{s:List UInt8}(h:tkO s=none)(t:Tk)(ht:vld t=true):qbm t≠s:=by
 intro e;have:=List.find?_eq_none.1 h t (q17 ht);simp[ht,e] at this
theorem q5p{t:Tk}(ht:vld t=true):tkO (qbm t)=some t:=by
 cases h:tkO (qbm t) with
 |none=>exact absurd rfl (qi2 h t ht)
 |some u=>
  obtain⟨hu,e⟩:=qi1 h;rw[q16 hu ht e]
def qlk{α:Type}(f:List UInt8→Option α):List (List UInt8)→Option (List α)
 |[]=>some []
 |x::r=>match f x,qlk f r with
  |some a,some l=>some (a::l)
  |_,_=>none
theorem qyo{α:Type}{f:List UInt8→Option α}{ps:List (List UInt8)}{l:List α}(h:qlk f ps=some l):l.length=ps.length:=by
 induction ps generalizing l with
 |nil=>
  simp only[qlk,Option.some.injEq] at h;subst h;rfl
 |cons x r ih=>
  simp only[qlk] at h;split at h
  ·rename_i a l' _ hl
   injection h with h
   subst h;simp[ih hl]
  ·cases h
theorem qu0{α:Type}(f:List UInt8→Option α)(ps:List (List UInt8))(x:List UInt8):qlk f (ps++[x])=match qlk f ps,f x with
  |some l,some a=>some (l++[a])
  |_,_=>none:=by
 induction ps with
 |nil=>
  simp only[List.nil_append,qlk];cases f x<;>rfl
 |cons y r ih=>
  rw[List.cons_append];simp only[qlk,ih];cases f y<;>cases qlk f r<;>cases f x<;>rfl
theorem q4g{α:Type}{f:List UInt8→Option α}{ps qs:List (List UInt8)}(h:qlk f ps=none):qlk f (ps++qs)=none:=by
 induction ps with
 |nil=>cases h
 |cons y r ih=>
  rw[List.cons_append];simp only[qlk] at h⊢;cases hy:f y with
  |none=>rfl
  |some a=>
   rw[hy] at h;cases hr:qlk f r with
   |none=>rw[ih hr]
   |some l=>rw[hr] at h;cases h
theorem qyp{α:Type}{f:List UInt8→Option α}{g:α→List UInt8}{l:List α}(h: ∀a∈l,f (g a)=some a):qlk f (l.map g)=some l:=by
 induction l with
 |nil=>rfl
 |cons a r ih=>
  rw[List.map_cons];simp only[qlk];rw[h a (by simp),ih (fun b hb=>h b (List.mem_cons_of_mem _ hb))]
theorem qu1{α:Type}{f:List UInt8→Option α}{g:α→List UInt8}{q:α→Bool}(hf: ∀s a,f s=some a→q a=true∧g a=s){ps:List (List UInt8)}{l:List α}(h:qlk f ps=some l):(∀a∈l,q a=true)∧l.map g=ps:=by
 induction ps generalizing l with
 |nil=>
  simp only[qlk,Option.some.injEq] at h;subst h;exact⟨fun a ha=>by simp at ha,rfl⟩
 |cons x r ih=>
  simp only[qlk] at h;split at h
  ·rename_i a l' ha hl
   injection h with h
   subst h;obtain⟨h1,h2⟩:=ih hl;obtain⟨h3,h4⟩:=hf x a ha;refine⟨fun b hb=>?_,by rw[List.map_cons,h4,h2]⟩;rcases List.mem_cons.1 hb with rfl|hb
   ·exact h3
   ·exact h1 b hb
  ·cases h
def qjb(s:List UInt8):Option (List Tk):=if s=[] then some [] else if(qar [59,32] s).length≤5 then qlk tkO (qar [59,32] s) else none
theorem qcz{t:Tk}(h:vld t=true):qas t=qbm t:=by simp[qas,h]
theorem qcs{l:List Tk}(h:qad l=true):l.length≤5∧ ∀t∈l,vld t=true:=by
 have h5:=qbj h;refine⟨h5,fun t ht=>?_⟩;obtain⟨k,hk,rfl⟩:=List.getElem_of_mem ht;have:=qaq h (k:=k) hk;rwa [qc3 l k hk] at this
theorem qj0{l:List Tk}(h5:l.length≤5)(h: ∀t∈l,vld t=true):qad l=true:=by
 simp only[qad,Bool.and_eq_true,decide_eq_true_eq,List.all_eq_true];exact⟨h5,h⟩
theorem q4h(t:Tk):qbm t≠[]:=by
 have hn:=qus t.low.toNat;simp[qbm,num,hn]
theorem q6q{l:List Tk}(h:qad l=true):qjb (qrl l)=some l:=by
 obtain⟨h5,hv⟩:=qcs h;by_cases h0:l=[]
 ·subst h0;rfl
 ·have hp:=qwq h0
  have hne:qrl l≠[]:=by
   cases l with
   |nil=>exact absurd rfl h0
   |cons a r=>
    have:=q4h a;simp[qrl,Lib.join_cons,qcz (hv a (by simp)),this]
  unfold qjb;rw[if_neg hne,hp,if_pos (by simpa using h5)];refine qyp (fun t ht=>?_);rw[qcz (hv t ht)];exact q5p (hv t ht)
theorem ql6{s:List UInt8}{l:List Tk}(h:qjb s=some l):qad l=true∧qrl l=s:=by
 unfold qjb at h;split at h
 ·rename_i h0
  injection h with h
  subst h h0;exact⟨rfl,rfl⟩
 ·split at h
  ·rename_i h0 h5
   obtain⟨hv,hm⟩:=qu1 (g:=qbm) (q:=vld) (fun s a ha=>qi1 ha) h;have hl:=qyo h;refine⟨qj0 (by omega) hv,?_⟩;have e:l.map qas=l.map qbm:=List.map_congr_left (fun t ht=>qcz (hv t ht));unfold qrl;rw[e,hm];exact qfk 59 [32] _ s (zlr _)
  ·cases h
def q6r:List Jb:=(List.range 5).flatMap fun(a:Nat)=>(List.range 201).flatMap fun(b:Nat)=>(List.range 21).map fun(c:Nat)=>⟨(a:Int),(b:Int),(c:Int)⟩
theorem q18{j:Jb}(h:qdh j=true):j∈q6r:=by
 rw[qda] at h;unfold q6r;simp only[List.mem_flatMap,List.mem_range,List.mem_map];refine⟨j.task.toNat,by omega,j.at_.toNat,by omega,j.need.toNat,by omega,?_⟩;have e1:(j.task.toNat:Int)=j.task:=by omega
 have e2:(j.at_.toNat:Int)=j.at_:=by omega
 have e3:(j.need.toNat:Int)=j.need:=by omega
 rw[e1,e2,e3]
theorem q4i{t u:Jb}(ht:qdh t=true)(hu:qdh u=true)(h:qgu t=qgu u):t=u:=by
 rw[qda] at ht hu;have c:=qst t;rw[h,qst u] at c;injection c with c1 c2
 injection c2 with c2 _
 have d:=qo4 t;rw[←c2,qo4 u] at d;injection d with d1 d2
 injection d2 with d2 _
 have e1:=qi0 (by omega) (by omega) c1;have e2:=qi0 (by omega) (by omega) d1;have e3:=qi0 (by omega) (by omega) d2;cases t
 cases u
 simp only at e1 e2 e3;subst e1 e2 e3;rfl
def jbO(s:List UInt8):Option Jb:=q6r.find? (fun j=>qdh j&&(qgu j==s))
theorem ql7{s:List UInt8}{t:Jb}(h:jbO s=some t):qdh t=true∧qgu t=s:=by
 have:=List.find?_some h;simpa using this
theorem q4j{s:List UInt8}(h:jbO s=none)(t:Jb)(ht:qdh t=true):qgu t≠s:=by
 intro e;have:=List.find?_eq_none.1 h t (q18 ht);simp[ht,e] at this
theorem q5q{t:Jb}(ht:qdh t=true):jbO (qgu t)=some t:=by
 cases h:jbO (qgu t) with
 |none=>exact absurd rfl (q4j h t ht)
 |some u=>
  obtain⟨hu,e⟩:=ql7 h;rw[q4i hu ht e]
def qfa(s:List UInt8):Option (List Jb):=if s=[] then some [] else if(qar [32] s).length≤60 then qlk jbO (qar [32] s) else none
theorem q4k{js:List Jb}(h:qe0 js=true):qfa (qhe js)=some js:=by
 simp only[qe0,Bool.and_eq_true,decide_eq_true_eq,List.all_eq_true] at h;obtain⟨hv,h60⟩:=h;by_cases h0:js=[]
 ·subst h0;rfl
 ·unfold qfa;rw[if_neg (qyk h0),qns h0,if_pos (by simpa using h60)];exact qyp (fun t ht=>q5q (hv t ht))
theorem qkf{s:List UInt8}{js:List Jb}(h:qfa s=some js):qe0 js=true∧qhe js=s:=by
 unfold qfa at h;split at h
 ·rename_i h0
  injection h with h
  subst h h0;exact⟨rfl,rfl⟩
 ·split at h
  ·obtain⟨hv,hm⟩:=qu1 (g:=qgu) (q:=qdh) (fun s a ha=>ql7 ha) h;have hl:=qyo h;refine⟨?_,?_⟩
   ·simp only[qe0,Bool.and_eq_true,decide_eq_true_eq,List.all_eq_true];exact⟨hv,by omega⟩
   ·unfold qhe;rw[hm];exact qfk 32 [] _ s (zlr _)
  ·cases h
theorem q19{s:List UInt8}(h:qfa s=none)(js:List Jb):qbc js≠s:=by
 intro e;unfold qbc at e;split at e
 ·rename_i ht
  rw[←e,q4k ht] at h;cases h
 ·subst e;simp[qfa] at h
theorem qi3(s:List UInt8)(k:Nat)(_h:k<s.length)(h':k<(ByteArray.mk s.toArray).size):(ByteArray.mk s.toArray)[k]'h'=s[k]:=rfl
theorem qj1(s:List UInt8)(m k:Nat):(ByteArray.mk s.toArray).extract m k=ByteArray.mk ((s.drop m).take (k-m)).toArray:=by
 rw[Go.Lib.extract_eq]
theorem qi4{base:Nat}{w:World}{A:ZA}{c:Nat}{xs:List (List UInt8)}(h:OS base w A c xs)(hl:0<xs.length): ∃b,A=some ⟨b,0,none⟩∧b<w.heap.size∧ ∀(k:Nat) (hk:k<xs.length),w.cell? ⟨b,k,none⟩=some (.string ⟨(xs[k]).toArray⟩):=by
 obtain⟨b,rfl,_,hb⟩:=qwf h hl;refine⟨b,rfl,hb,fun k hk=>?_⟩;have:=World.ownsRow.cells h (g:=b) rfl k (.string ⟨(xs[k]).toArray⟩) (by simp[q0c,hk]);rwa [qb5] at this
theorem qev(s:List UInt8)(c:UInt8)(w:World)(hl:s.length≤1000000):
  Calls Tryz.prog 45 #[.string ⟨s.toArray⟩,.int .u8 (c.toNat:Int)] w fun e w'=> ∃A cap,e=.returned (.slice A (qar [c] s).length cap)∧OS w.heap.size w' A cap (qar [c] s)∧Below w.heap.size w w':=by
 have hsz:(ByteArray.mk s.toArray).size=s.length:=by rw[Go.Lib.size_eq]
 go_enter Tryz.func45,Tryz.ntmps45;go_wp2_with fail;go_loopg [5,6,7] (s.length+1) (fun gg v f i wr=> ∃(k m:Nat) (A:ZA) (cap:Nat) (done:List (List UInt8)),gg+k=s.length+1∧i=.int .i64 (k:Int)∧f=.int .i64 (m:Int)∧v=.slice A done.length cap∧done.length≤k∧OS w.heap.size wr A cap done∧Below w.heap.size w wr∧Hid ((k≤s.length→m≤k∧done++qar [c] (s.drop m)=qar [c] s∧c∉(s.drop m).take (k-m))∧(k=s.length+1→done=qar [c] s)))
 case atStart=>exact⟨0,0,_,0,[],by omega,rfl,rfl,rfl,by simp,qsj w _ (zlr _),bal br _,⟨fun _=>⟨by omega,by simp,by simp⟩,fun h=>by omega⟩⟩
 case round=>
  obtain⟨k,m,A,cap,done,hgk,rfl,rfl,rfl,hdk,hO,hb,hI⟩:=hrel;by_cases hk:k≤s.length
  ·have e0:decide ((k:Int)≤(s.length:Int))=true:=decide_eq_true (by omega);obtain⟨hmk,hdone,hno⟩:=hI.out.1 hk;have hcut:=qj1 s m k;have hmI:(m:Int)≤(k:Int):=by omega
   have hkI:(k:Int)≤(s.length:Int):=by omega
   have hm0:(0:Int)≤(m:Int):=by omega
   by_cases hkl:k<s.length
   ·have e2:((k:Int)==(s.length:Int))=false:=beq_eq_false_iff_ne.2 (by omega);have hidx:=qi3 s k hkl (by rw[hsz];exact hkl)
    have hdr:s.drop m=(s.drop m).take (k-m)++(s[k]::[])++s.drop (k+1):=by
     have h1:(s.drop m).drop (k-m)=s[k]::s.drop (k+1):=by
      rw[List.drop_drop,show m+(k-m)=k by omega];exact List.drop_eq_getElem_cons hkl
     conv=>lhs;rw[←List.take_append_drop (k-m) (s.drop m),h1]
     simp
    have htk:(s.drop m).take (k+1-m)=(s.drop m).take (k-m)++[s[k]]:=by
     have hlt:k-m<(s.drop m).length:=by rw[List.length_drop];omega
     rw[show k+1-m=k-m+1 by omega,List.take_succ_eq_append_getElem hlt];congr 1
     simp only[List.getElem_drop];congr 2
     omega
    have hkl2:(k:Int)<(s.length:Int):=by omega
    generalize s[k]=b at hidx hdr htk;by_cases hbc:b=c
    ·subst hbc;have e1:((b.toNat:Int)==(b.toNat:Int))=true:=by simp
     have hnx:Hid (done++[(s.drop m).take (k-m)]++qar [b] (s.drop (k+1))=qar [b] s):=by
      rw[Hid,←hdone];conv=>rhs;rw[hdr,qcr b [] _ _ hno]
      simp
     generalize(s.drop m).take (k-m)=seg at hcut hnx;clear hdr htk hdone hno hI;go_wp2_with (at_builtin;refine qh3 _ rfl _ _ rfl w.heap.size A done done.length cap rfl ?a1 ?a2 wr.heap.size 1 seg 9 ?a3 ?a4 ?a5 ?a6 ?_;(case a1=>exact rfl);(case a2=>exact qht hO _);(case a3=>exact rfl);(case a4=>exact zha wr _);(case a5=>omega);(case a6=>have:=hb.size;simp;omega);intro A3 c3 w3 o3 g3 b3)
     go_roundg (gk-1)
     case measure=>omega
     case rel=>exact⟨k+1,k+1,A3,c3,done++[seg],by omega,by go_num,by go_num,by rw[List.length_append];rfl,by simp;omega,o3,(bal hb _).trans b3,⟨fun h=>⟨zlr _,hnx.out,by simp⟩,fun h=>by omega⟩⟩
    ·have e1:((b.toNat:Int)==(c.toNat:Int))=false:=beq_eq_false_iff_ne.2 (fun e=>hbc (UInt8.toNat_inj.1 (by omega)))
     have hno2:Hid (c∉(s.drop m).take (k+1-m)):=by
      rw[Hid,htk,List.mem_append,List.mem_singleton];rintro(h|h)
      ·exact hno h
      ·exact hbc h.symm
     have HD:=zhi hdone;clear hdr htk hdone hno hI hcut hbc;go_wp2_with fail;go_roundg (gk-1)
     case measure=>omega
     case rel=>exact⟨k+1,m,A,cap,done,by omega,by go_num,rfl,rfl,by omega,hO,hb,⟨fun h=>⟨by omega,HD.out,hno2.out⟩,fun h=>by omega⟩⟩
   ·obtain rfl:k=s.length:=by omega
    have e2:((s.length:Int)==(s.length:Int))=true:=by simp
    have hall:(s.drop m).take (s.length-m)=s.drop m:=List.take_of_length_le (by simp);rw[hall] at hno hcut
    have hnx:Hid (done++[s.drop m]=qar [c] s):=by
     rw[Hid,←hdone,qdm c [] _ hno]
    generalize s.drop m=seg at hcut hnx;clear hdone hno hI hall;go_wp2_with (at_builtin;refine qh3 _ rfl _ _ rfl w.heap.size A done done.length cap rfl ?a1 ?a2 wr.heap.size 1 seg 9 ?a3 ?a4 ?a5 ?a6 ?_;(case a1=>exact rfl);(case a2=>exact qht hO _);(case a3=>exact rfl);(case a4=>exact zha wr _);(case a5=>omega);(case a6=>have:=hb.size;simp;omega);intro A3 c3 w3 o3 g3 b3)
    go_roundg (gk-1)
    case measure=>omega
    case rel=>exact⟨s.length+1,s.length+1,A3,c3,done++[seg],by omega,by go_num,by go_num,by rw[List.length_append];rfl,by simp;omega,o3,(bal hb _).trans b3,⟨fun h=>by omega,fun h=>hnx.out⟩⟩
  ·obtain rfl:k=s.length+1:=by omega
   have e0:decide (((s.length+1:Nat):Int)≤(s.length:Int))=false:=decide_eq_false (by omega);have hP:=zhi (hI.out.2 rfl);go_wp2_with fail;go_ret;rw[←hP.out];exact⟨A,cap,rfl,hO,hb⟩
theorem q2a(a:UInt8)(r:List UInt8)(h:a=45):qez (a::r)=(qw0 true r).map (fun(n:Nat)=> -(n:Int)):=by
 subst h;rfl
theorem qzt{s:List UInt8}(h:s.head?≠some 45):qez s=(qw0 false s).map (fun(n:Nat)=>(n:Int)):=by
 unfold qez;rw[if_neg h]
def sgn(neg:Bool)(n:Nat):Int:=if neg then-(n:Int) else n
theorem qd4(s:List UInt8)(w:World)(hl:s.length≤1000000):
  Calls Tryz.prog 96 #[.string ⟨s.toArray⟩] w fun e w'=> ∃n,e=.returned (.tuple #[.int .i64 n,.bool (qez s).isSome])∧(∀m,qez s=some m→n=m)∧Below w.heap.size w w':=by
 have hsz:(ByteArray.mk s.toArray).size=s.length:=by rw[Go.Lib.size_eq]
 go_enter Tryz.func96,Tryz.ntmps96;go_upto_region 1 with fail;go_cut [4] from 7 to 15 (fun g wc=>g=.bool (decide (s.head?=some 45))∧w=wc)
 case first=>
  cases s with
  |nil=>
   go_wp2_with fail;go_meet
   exact⟨rfl,rfl⟩
  |cons a r=>
   have h0:decide (((a::r).length:Int)>0)=true:=decide_eq_true (by simp);have h0':(0:Int)<(((a::r).length:Nat):Int):=by simp
   have hidx:=qi3 (a::r) 0 (by simp) (by rw[hsz];simp);simp only[List.getElem_cons_zero] at hidx;by_cases ha:a=45
   ·have e1:((a.toNat:Int)==45)=true:=by rw[ha];rfl
    have HA:=zhi ha;clear ha;go_wp2_with fail;go_meet
    exact⟨by simp[HA.out],rfl⟩
   ·have e1:((a.toNat:Int)==45)=false:=beq_eq_false_iff_ne.2 (fun e=>ha (UInt8.toNat_inj.1 (by
     have:(45:UInt8).toNat=45:=rfl;omega)))
    have HA:=zhi ha;clear ha;go_wp2_with fail;go_meet
    exact⟨by simp[HA.out],rfl⟩
 case rest=>
  obtain⟨rfl,rfl⟩:=hcut;obtain⟨neg,hneg⟩: ∃neg,decide (s.head?=some 45)=neg:=⟨_,rfl⟩;rw[hneg];have HNEG:=zhi hneg;clear hneg;go_upto_if 15 with fail
  go_cut [0] from 16 to 18 (fun t wc=> ∃r:List UInt8,t=.string ⟨r.toArray⟩∧r.length≤1000000∧Hid (qez s=(qw0 neg r).map (sgn neg))∧w=wc)
  case first=>
   cases neg with
   |true=>
    have hh:s.head?=some 45:=of_decide_eq_true HNEG.out;cases s with
    |nil=>cases hh
    |cons a r=>
     obtain rfl:a=45:=by simpa using hh
     have hcut:=qj1 (45::r) 1 (r.length+1);have hr:((45::r).drop 1).take (r.length+1-1)=r:=by simp
     rw[hr] at hcut;have hrl:r.length≤1000000:=by simp at hl;omega
     have h1I:(1:Int)≤(r.length:Int)+1:=by omega
     have HN:Hid (qez (45::r)=(qw0 true r).map (sgn true)):=q2a 45 r rfl;clear hr hh;go_wp2_with fail;go_meet
     exact⟨r,rfl,hrl,HN,rfl⟩
   |false=>
    have hh: ¬s.head?=some 45:=of_decide_eq_false HNEG.out;have HN:Hid (qez s=(qw0 false s).map (sgn false)):=qzt hh;clear hh;go_wp2_with fail;go_meet
    exact⟨s,rfl,hl,HN,rfl⟩
  case rest=>
   obtain⟨r,rfl,hrl,HN,rfl⟩:=hcut;clear hsz hl;have hsz:(ByteArray.mk r.toArray).size=r.length:=by rw[Go.Lib.size_eq]
   clear HNEG;by_cases hC:r.length=0∨17<r.length∨(r.head?=some 48∧(1<r.length∨neg=true))
   ·have HM:Hid (qez s=none):=by
     rw[Hid,HN.out];unfold qw0;rw[if_pos hC];rfl
    have fin: ∀w',Below w.heap.size w w'→ ∃n,Ending.returned (.tuple #[.int .i64 0,.bool false])=.returned (.tuple #[.int .i64 n,.bool (qez s).isSome])∧(∀m,qez s=some m→n=m)∧Below w.heap.size w w':=by
     intro w' hb;rw[HM.out];exact⟨0,rfl,fun m hm=>(by cases hm),hb⟩
    rcases hC with h0|h17|⟨hh,h1⟩
    ·have e1:((r.length:Int)==0)=true:=by simp[h0]
     go_wp2_with fail;go_ret2;exact fin _ br
    ·have e1:((r.length:Int)==0)=false:=beq_eq_false_iff_ne.2 (by omega);have e2:decide ((r.length:Int)>17)=true:=decide_eq_true (by omega);have e3:(17:Int)<(r.length:Int):=by omega
     go_wp2_with fail;go_ret2;exact fin _ br
    ·by_cases h17:17<r.length
     ·have e1:((r.length:Int)==0)=false:=beq_eq_false_iff_ne.2 (by omega);have e3:(17:Int)<(r.length:Int):=by omega
      go_wp2_with fail;go_ret2;exact fin _ br
     ·have hr0:0<r.length:=by
       cases r with
       |nil=>cases hh
       |cons a t=>simp
      have e1:((r.length:Int)==0)=false:=beq_eq_false_iff_ne.2 (by omega);have e3: ¬(17:Int)<(r.length:Int):=by omega
      have hidx:=qi3 r 0 hr0 (by rw[hsz];exact hr0)
      have hr48:r[0]=48:=by
       cases r with
       |nil=>cases hh
       |cons a t=>simpa using hh
      rw[hr48] at hidx;have hr0I:(0:Int)<(r.length:Int):=by omega
      clear hr48 hh;rcases h1 with h1|h1
      ·have e4:(1:Int)<(r.length:Int):=by omega
       go_wp2_with fail;go_ret2;exact fin _ br
      ·subst h1;go_wp2_with fail
       all_goals
        go_ret2;exact fin _ br
   ·have hC0:r.length≠0:=fun h=>hC (.inl h)
    have hC1: ¬17<r.length:=fun h=>hC (.inr (.inl h))
    have HM:Hid (qez s=(Lib.decFrom 0 r).map (sgn neg)):=by
     rw[Hid,HN.out];unfold qw0;rw[if_neg hC]
    have hr0:0<r.length:=by omega
    have e1:((r.length:Int)==0)=false:=beq_eq_false_iff_ne.2 (by omega);have e3: ¬(17:Int)<(r.length:Int):=by omega
    have hidx0:=qi3 r 0 hr0 (by rw[hsz];exact hr0);have hr0I:(0:Int)<(r.length:Int):=by omega
    have hcs:Hid (((r[0].toNat:Int)==48)=false∨(((r[0].toNat:Int)==48)=true∧ ¬(1:Int)<(r.length:Int)∧neg=false)):=by
     by_cases hh:r[0]=48
     ·refine .inr ⟨by rw[hh];rfl,?_,?_⟩
      ·intro h
       exact hC (.inr (.inr ⟨by cases r with
        |nil=>simp at hr0
        |cons a t=>simpa using hh,.inl (by omega)⟩))
      ·cases neg with
       |false=>rfl
       |true=>exact absurd (.inr (.inr ⟨by cases r with
        |nil=>simp at hr0
        |cons a t=>simpa using hh,.inr rfl⟩)) hC
     ·exact .inl (beq_eq_false_iff_ne.2 (fun e=>hh (UInt8.toNat_inj.1 (by
       have:(48:UInt8).toNat=48:=rfl;omega))))
    generalize r[0]=b0 at hidx0 hcs;clear hC hC0;go_upto_region 4 with fail;go_cut [38] from 18 to 39 (fun g wc=>g=.bool false∧w=wc)
    case first=>
     rcases hcs.out with h8|⟨h8,h9,h10⟩
     ·go_wp2_with fail;go_meet
      exact⟨rfl,rfl⟩
     ·subst h10;go_wp2_with fail;go_meet
      exact⟨rfl,rfl⟩
    case rest=>
     obtain⟨rfl,rfl⟩:=hcut;clear hcs hidx0 hr0I e3 e1;go_wp2_with fail;go_loopg [5,6] r.length (fun gg v i wr=> ∃(k acc:Nat),gg+k=r.length∧i=.int .i64 (k:Int)∧v=.int .i64 (acc:Int)∧acc<100000000000000000∧Hid (Lib.decFrom 0 (r.take k)=some acc)∧Below w.heap.size w wr)
     case atStart=>exact⟨0,0,by omega,rfl,rfl,by omega,rfl,br⟩
     case round=>
      obtain⟨k,acc,hgk,rfl,rfl,hacc,hD,hb⟩:=hrel;by_cases hkl:k<r.length
      ·have e0:decide ((k:Int)<(r.length:Int))=true:=decide_eq_true (by omega);have hkI:(k:Int)<(r.length:Int):=by omega
       have hidx:=qi3 r k hkl (by rw[hsz];exact hkl);have hget:r[k]? =some r[k]:=by simp[hkl]
       generalize r[k]=b at hidx hget;have hb256:=b.toNat_lt;by_cases h48:(b.toNat:Int)<48
       ·have HF:Hid (qez s=none):=by
         rw[Hid,HM.out];cases hf:Lib.decFrom 0 r with
         |none=>rfl
         |some n=>
          obtain⟨d,hd⟩:=Lib.digit_of_decFrom r 0 n hf k b hget;have:=Lib.digitVal_eq hd;omega
        go_wp2_with fail;go_ret2;rw[HF.out];exact⟨0,rfl,fun m hm=>(by cases hm),hb⟩
       ·by_cases h57:57<(b.toNat:Int)
        ·have HF:Hid (qez s=none):=by
          rw[Hid,HM.out];cases hf:Lib.decFrom 0 r with
          |none=>rfl
          |some n=>
           obtain⟨d,hd⟩:=Lib.digit_of_decFrom r 0 n hf k b hget;have:=Lib.digitVal_eq hd;omega
         go_wp2_with fail;go_ret2;rw[HF.out];exact⟨0,rfl,fun m hm=>(by cases hm),hb⟩
        ·have hdv:Lib.digitVal b=some (b.toNat-48):=by
          unfold Lib.digitVal;rw[if_pos (by omega)]
         have hst:=Lib.decFrom_take r k 0 acc b (b.toNat-48) hD.out hget hdv;have hlt:=Lib.decFrom_take_lt (l:=r) (k:=k+1) hst (by omega);have HS:=zhi hst;have qw1:IntKind.u8.wrap ((b.toNat:Int)-48)=(b.toNat:Int)-48:=IntWalk.u8_in _ ⟨by omega,by omega⟩;have qw2:IntKind.i64.wrap ((acc:Int)*10)=(acc:Int)*10:=IntWalk.i64_in _ (by omega);have qw3:IntKind.i64.wrap ((acc:Int)*10+((b.toNat:Int)-48))=(acc:Int)*10+((b.toNat:Int)-48):=IntWalk.i64_in _ (by omega);have qw4:IntKind.i64.wrap ((b.toNat:Int)-48)=(b.toNat:Int)-48:=IntWalk.i64_in _ (by omega);clear hst hdv hget;go_wp2_with fail;go_roundg (gk-1)
         case measure=>omega
         case rel=>exact⟨k+1,acc*10+(b.toNat-48),by omega,by go_num,by congr 1;omega,hlt,HS,hb⟩
      ·obtain rfl:k=r.length:=by omega
       have e0:decide ((r.length:Int)<(r.length:Int))=false:=decide_eq_false (by omega);have hD2:=hD.out;rw[List.take_length] at hD2;have HF:Hid (qez s=some (sgn neg acc)):=by rw[Hid,HM.out,hD2];rfl
       have qn:IntKind.i64.wrap (-(acc:Int))= -(acc:Int):=IntWalk.i64_in _ (by omega);clear hD2 hD;cases neg with
       |true=>
        go_wp2_with fail;go_ret2;rw[HF.out];exact⟨_,rfl,fun m hm=>(by injection hm),hb⟩
       |false=>
        go_wp2_with fail;go_ret2;rw[HF.out];exact⟨_,rfl,fun m hm=>(by injection hm),hb⟩
end Go.Proofs.YtmkjmancmiphfaaGreatDoor
