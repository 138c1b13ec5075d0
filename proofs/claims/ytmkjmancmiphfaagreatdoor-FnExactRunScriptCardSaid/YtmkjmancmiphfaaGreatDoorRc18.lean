/-
  The reference's machine: deadlines, which of two jobs goes first, the policy's factor.
  The reference's machine: its rows in memory (three of integers, one of works), appended to and stored into.
  The reference's machine: the jobs of a tick come (l7Come).
-/
import Derived.Test.YtmkjmancmiphfaaGreatDoorRc14
import Derived.Test.YtmkjmancmiphfaaGreatDoorRc17
namespace Go.Proofs.YtmkjmancmiphfaaGreatDoor
set_option maxHeartbeats 8000000
set_option maxRecDepth 1000000
open Go.RowKit
abbrev stV(e t s wv:Value)(hi:Bool)(nx num den:Int):Value:=.agg #[e,t,s,.bool hi,wv,.int .i64 nx,.int .i64 num,.int .i64 den]
theorem qqf{A:ZA}{l:List Tk}{c:Nat}{js:List Jb}{num den:Int}(V:JobsIn l js num den)(i:Nat)(hil:i<js.length)(hi:Bool)(e t s wv:Value)(nx:Int)(w:World)(hTS:TS w A l):
  Calls Tryz.prog 113 #[.slice A l.length c,(Qt js i).val,stV e t s wv hi nx num den] w fun e w'=>e=.returned (.int .i64 (qk9 l js num den hi i))∧Below w.heap.size w w':=by
 obtain⟨a0,a1,ht,hk,_,_⟩:=V.job i hil;have hev:=qao (Qs V.v hk);obtain⟨v1,v2,v3,v4,v5⟩:=hev;obtain⟨tb,toff,rfl,htb,htc⟩:=hTS (by omega);obtain⟨c0,c1,c2,c3,c4⟩:=Qv htc (jK js i) hk;have hv:qk9 l js num den hi i=if(Qg l (jK js i)).crit&& !hi then(Qt js i).at_*den+(Qg l (jK js i)).due*num else((Qt js i).at_+(Qg l (jK js i)).due)*den:=rfl
 have HV:=zhi hv;have n0:=V.n0;have n1:=V.n1;have d0:=V.d0;have d1:=V.d1;clear hv htc V;generalize Qt js i=j at a0 a1 ht HV;generalize jK js i=x at hk v1 v2 v3 v4 v5 c0 c1 c2 c3 c4 ht HV;generalize Qg l x=t at v1 v2 v3 v4 v5 c0 c1 c2 c3 c4 HV;obtain⟨q,a,n⟩:=j;obtain⟨tl,th,td,te,tc⟩:=t;simp only at a0 a1 ht HV v1 v2 v3 v4 v5 c0 c1 c2 c3 c4;subst ht;have hxI:(x:Int)<(l.length:Int):=by omega
 have p1:=qbp a0 a1 d0 d1 (by omega);have p2:=qbp n0 n1 (show 0≤td by omega) (show td≤20 by omega) (by omega);have p3:=qbp (show 0≤a+td by omega) (show a+td≤220 by omega) d0 d1 (by omega);obtain⟨p10,p11⟩:=p1;obtain⟨p20,p21⟩:=p2;obtain⟨p30,p31⟩:=p3;cases tc with
 |true=>
  cases hi with
  |false=>
   have qw1:IntKind.i64.wrap (a*den)=a*den:=Yai _ (by omega);have qw2:IntKind.i64.wrap (num*td)=num*td:=Yai _ (by omega);have qw3:IntKind.i64.wrap (a*den+num*td)=a*den+num*td:=Yai _ (by omega);have HV2:Hid (qk9 l js num den false i=a*den+num*td):=by rw[Hid,HV.out,Int.mul_comm td num];rfl
   go_enter Tryz.func113,Tryz.ntmps113;go_wp2_with fail;go_ret;exact⟨by rw[HV2.out];rfl,bal (bal (bal br _) _) _⟩
  |true=>
   have qw1:IntKind.i64.wrap (a+td)=a+td:=Yai _ (by omega);have qw2:IntKind.i64.wrap ((a+td)*den)=(a+td)*den:=Yai _ (by omega);have HV2:Hid (qk9 l js num den true i=(a+td)*den):=HV.out;go_enter Tryz.func113,Tryz.ntmps113;go_wp2_with fail;go_ret;exact⟨by rw[HV2.out];rfl,bal (bal (bal br _) _) _⟩
 |false=>
  have qw1:IntKind.i64.wrap (a+td)=a+td:=Yai _ (by omega);have qw2:IntKind.i64.wrap ((a+td)*den)=(a+td)*den:=Yai _ (by omega);have HV2:Hid (qk9 l js num den hi i=(a+td)*den):=HV.out;go_enter Tryz.func113,Tryz.ntmps113;go_wp2_with fail;go_ret;exact⟨by rw[HV2.out];rfl,bal (bal (bal br _) _) _⟩
theorem qb9{w:World}{b:Nat}{v0 v1 v2 v3 v4 v5 v6 v7:Value}{t:TypeId}(h:w.heap[b]? =some (.cells #[v0,v1,v2,v3,v4,v5,v6,v7] t (0,0))):
  w.cell? ⟨b,0,none⟩=some v0∧w.cell? ⟨b,1,none⟩=some v1∧w.cell? ⟨b,2,none⟩=some v2∧w.cell? ⟨b,3,none⟩=some v3∧w.cell? ⟨b,4,none⟩=some v4∧w.cell? ⟨b,5,none⟩=some v5∧w.cell? ⟨b,6,none⟩=some v6∧w.cell? ⟨b,7,none⟩=some v7:=by
 refine⟨?_,?_,?_,?_,?_,?_,?_,?_⟩<;>(rw[Yak h];rfl)
theorem qtk{A:ZA}{l:List Tk}{c:Nat}{js:List Jb}{num den pol:Int}(V:JobsIn l js num den)(a b:Nat)(hal:a<js.length)(hbl:b<js.length)(hi:Bool)(e t s wv:Value)(nx:Int)(hp:pol=0∨pol=1)(w:World)(hTS:TS w A l):
  Calls Tryz.prog 69 #[.slice A l.length c,(Qt js a).val,(Qt js b).val,.int .i64 pol,stV e t s wv hi nx num den] w fun e w'=>e=.returned (.bool (qeu l js num den pol hi a b))∧Below w.heap.size w w':=by
 have K1:=fun w=>qqf (A:=A) (c:=c) V a hal hi e t s wv nx w
 have K2:=fun w=>qqf (A:=A) (c:=c) V b hbl hi e t s wv nx w
 have HG:Hid (qeu l js num den pol hi a b=if pol=1∧qk9 l js num den hi a≠qk9 l js num den hi b then decide (qk9 l js num den hi a<qk9 l js num den hi b) else if(Qt js a).task=(Qt js b).task then decide ((Qt js a).at_<(Qt js b).at_) else decide ((Qt js a).task<(Qt js b).task)):=rfl;generalize qeu l js num den pol hi a b=G at HG⊢;clear V hal hbl;generalize qk9 l js num den hi a=x at K1 HG;generalize qk9 l js num den hi b=y at K2 HG;generalize Qt js a=u at K1 HG⊢;generalize Qt js b=v at K2 HG⊢;obtain⟨q,m,n⟩:=u;obtain⟨q',m',n'⟩:=v;dsimp only at HG K1 K2;have bx:=bal (bal (bal (Below.refl w.heap.size w) (.cells #[.int .i64 q,.int .i64 m,.int .i64 n] 60)) (.cells #[.int .i64 q',.int .i64 m',.int .i64 n'] 60)) (.cells #[e,t,s,.bool hi,wv,.int .i64 nx,.int .i64 num,.int .i64 den] 65);rcases hp with rfl|rfl
 ·have HG0:G=if q=q' then decide (m<m') else decide (q<q'):=by
   rw[HG.out,Yaq (fun h=>by have:=h.1;omega)]
  clear HG K1 K2;by_cases hq:q=q'
  ·have e1:(q==q')=true:=by simpa using hq
   rw[Yav hq] at HG0;have HG1:=zhi HG0;clear hq HG0;go_enter Tryz.func69,Tryz.ntmps69;go_wp2_with fail;go_ret;exact⟨by rw[HG1.out];rfl,bx⟩
  ·have e1:(q==q')=false:=by simpa using hq
   rw[Yaq hq] at HG0;have HG1:=zhi HG0;clear hq HG0;go_enter Tryz.func69,Tryz.ntmps69;go_wp2_with fail;go_ret;exact⟨by rw[HG1.out];rfl,bx⟩
 ·have g1:(((w.alloc (.cells #[.int .i64 q,.int .i64 m,.int .i64 n] 60)).alloc (.cells #[.int .i64 q',.int .i64 m',.int .i64 n'] 60)).alloc (.cells #[e,t,s,.bool hi,wv,.int .i64 nx,.int .i64 num,.int .i64 den] 65)).heap[w.heap.size]? =some (.cells #[.int .i64 q,.int .i64 m,.int .i64 n] 60 (0,0)):=
   (Yaj _ _ _ (by simp;omega)).trans ((Yaj _ _ _ (by simp)).trans (zha w _))
  have g2:(((w.alloc (.cells #[.int .i64 q,.int .i64 m,.int .i64 n] 60)).alloc (.cells #[.int .i64 q',.int .i64 m',.int .i64 n'] 60)).alloc (.cells #[e,t,s,.bool hi,wv,.int .i64 nx,.int .i64 num,.int .i64 den] 65)).heap[w.heap.size+1]? =some (.cells #[.int .i64 q',.int .i64 m',.int .i64 n'] 60 (0,0)):=by
   have:=(Yaj ((w.alloc (.cells #[.int .i64 q,.int .i64 m,.int .i64 n] 60)).alloc (.cells #[.int .i64 q',.int .i64 m',.int .i64 n'] 60)) (.cells #[e,t,s,.bool hi,wv,.int .i64 nx,.int .i64 num,.int .i64 den] 65) _ (by simp)).trans (zha (w.alloc (.cells #[.int .i64 q,.int .i64 m,.int .i64 n] 60)) (.cells #[.int .i64 q',.int .i64 m',.int .i64 n'] 60 (0,0)));simpa using this
  have g3:=zha ((w.alloc (.cells #[.int .i64 q,.int .i64 m,.int .i64 n] 60)).alloc (.cells #[.int .i64 q',.int .i64 m',.int .i64 n'] 60)) (.cells #[e,t,s,.bool hi,wv,.int .i64 nx,.int .i64 num,.int .i64 den] 65 (0,0));have hsz:((w.alloc (.cells #[.int .i64 q,.int .i64 m,.int .i64 n] 60)).alloc (.cells #[.int .i64 q',.int .i64 m',.int .i64 n'] 60)).heap.size=w.heap.size+1+1:=by simp
  rw[hsz] at g3;go_enter Tryz.func69,Tryz.ntmps69;go_upto_region 2 with fail;generalize World.alloc (World.alloc (World.alloc w _) _) _=wa at bx g1 g2 g3⊢;have hTa:=hTS.keep bx;obtain⟨a0,a1,a2⟩:=qk8 g1;obtain⟨b0,b1,b2⟩:=qk8 g2;obtain⟨s0,s1,s2,s3,s4,s5,s6,s7⟩:=qb9 g3;go_wp2_with fail;refine(K1 _ hTa).mono ?_;rintro _ w1 ⟨rfl,b1'⟩;have h1:=bh b1' g1;have h2:=bh b1' g2;have h3:=bh b1' g3;have hT1:=hTa.keep b1';have B1:=Qa bx b1';clear a0 a1 a2 b0 b1 b2 s0 s1 s2 s3 s4 s5 s6 s7 g1 g2 g3;obtain⟨b0,b1,b2⟩:=qk8 h2;obtain⟨s0,s1,s2,s3,s4,s5,s6,s7⟩:=qb9 h3;go_wp2_with fail;refine(K2 _ hT1).mono ?_;rintro _ w2 ⟨rfl,b2'⟩;have k1:=bh b2' h1;have k2:=bh b2' h2;have B2:=Qa B1 b2';clear b0 b1 b2 s0 s1 s2 s3 s4 s5 s6 s7 h1 h2 h3;obtain⟨a0,a1,a2⟩:=qk8 k1;obtain⟨b0,b1,b2⟩:=qk8 k2;by_cases hxy:x=y
  ·have e0:(x==y)=true:=by simpa using hxy
   have HG0:G=if q=q' then decide (m<m') else decide (q<q'):=by
    rw[HG.out,Yaq (fun h=>h.2 hxy)]
   clear HG hxy;by_cases hq:q=q'
   ·have e1:(q==q')=true:=by simpa using hq
    rw[Yav hq] at HG0;have HG1:=zhi HG0;clear hq HG0;go_wp2_with fail;go_ret;exact⟨by rw[HG1.out];rfl,B2⟩
   ·have e1:(q==q')=false:=by simpa using hq
    rw[Yaq hq] at HG0;have HG1:=zhi HG0;clear hq HG0;go_wp2_with fail;go_ret;exact⟨by rw[HG1.out];rfl,B2⟩
  ·have e0:(x==y)=false:=by simpa using hxy
   have HG1:Hid (G=decide (x<y)):=by rw[Hid,HG.out,Yav (by simpa using hxy)]
   clear HG hxy;go_wp2_with fail;go_ret;exact⟨by rw[HG1.out];rfl,B2⟩
theorem qkq(A:ZA)(l:List Tk)(c:Nat)(pol:Int)(w:World)(h:TS w A l)(hm:l.length≤maxLen):
  Calls Tryz.prog 31 #[.slice A l.length c,.int .i64 pol] w fun e w'=>e=.returned (.tuple #[sv (q2u l pol) (q2v l pol),.bool (qi5 l pol)])∧Below w.heap.size w w':=by
 by_cases h0:pol=0
 ·have e0:(pol==0)=true:=by simpa using h0
  have HN:Hid (q2u l pol=1):=by simp[Hid,q2u,h0]
  have HD:Hid (q2v l pol=1):=by simp[Hid,q2v,h0]
  have HB:Hid (qi5 l pol=true):=by simp[Hid,qi5,h0]
  clear h0;go_enter Tryz.func31,Tryz.ntmps31;go_wp2_with fail;refine(qa6 _).mono ?_;rintro e w1 ⟨rfl,b1⟩;have r0:=(b1.block _ (by simp)).trans (zha w (.cells #[.int .i64 0,.int .i64 0] 54 (0,0)));have B1:=Qa (bal (Below.refl w.heap.size w) _) b1;obtain⟨x0,x1,xf⟩:=Qk r0;go_wp2_with fail;have y:=qcz r0 (.int .i64 1) (.int .i64 1);obtain⟨y0,y1,yf⟩:=Qk y;refine bodyPost_ret (v:=.tuple #[sv 1 1,.bool true]) (by simp[results,Tryz.results31,go_sem,y0,y1]) rfl ⟨by rw[HN.out,HD.out,HB.out],?_⟩;exact(B1.setCell (p:=⟨w.heap.size,0,none⟩) (zlr _) _).setCell (p:=⟨w.heap.size,1,none⟩) (zlr _) _
 ·have e0:(pol==0)=false:=by simpa using h0
  have HN:Hid (q2u l pol=qgp l):=by simp[Hid,q2u,h0]
  have HD:Hid (q2v l pol=qgq l):=by simp[Hid,q2v,h0]
  have HB:Hid (qi5 l pol=(qsi l&&decide (pol=1))):=by simp[Hid,qi5,h0]
  clear h0;go_enter Tryz.func31,Tryz.ntmps31;go_wp2_with fail;refine(qdo A l c _ (h.keep (bal br _)) hm).mono ?_;rw[qva];rintro e w1 ⟨rfl,b1⟩;have r0:=(b1.block _ (by simp)).trans (zha w (.cells #[.int .i64 0,.int .i64 0] 54 (0,0)));have B1:=Qa (bal (Below.refl w.heap.size w) _) b1;go_upto_region 4 with fail;have g6:=zha w1 (.cells #[.int .i64 (qgp l),.int .i64 (qgq l)] 54 (0,0));have g0:=(Yaj w1 (.cells #[.int .i64 (qgp l),.int .i64 (qgq l)] 54) _ (bl r0)).trans r0;have B2:=bal B1 (.cells #[.int .i64 (qgp l),.int .i64 (qgq l)] 54);generalize World.alloc w1 _=w2 at g6 g0 B2⊢;obtain⟨x0,x1,xf⟩:=Qk g0;obtain⟨z0,z1,zf⟩:=Qk g6;have e9:decide (pol=1)=(pol==1):=by by_cases h:pol=1<;>simp[h]
  cases hB:qsi l with
  |true=>
   go_wp2_with fail;have y:=qcz g0 (.int .i64 (qgp l)) (.int .i64 (qgq l));obtain⟨y0,y1,yf⟩:=Qk y;refine bodyPost_ret (v:=.tuple #[sv (qgp l) (qgq l),.bool (pol==1)]) (by simp[results,Tryz.results31,go_sem,y0,y1]) rfl ⟨by rw[HN.out,HD.out,HB.out,hB,e9];rfl,?_⟩;exact(B2.setCell (p:=⟨w.heap.size,0,none⟩) (zlr _) _).setCell (p:=⟨w.heap.size,1,none⟩) (zlr _) _
  |false=>
   go_wp2_with fail;have y:=qcz g0 (.int .i64 (qgp l)) (.int .i64 (qgq l));obtain⟨y0,y1,yf⟩:=Qk y;refine bodyPost_ret (v:=.tuple #[sv (qgp l) (qgq l),.bool false]) (by simp[results,Tryz.results31,go_sem,y0,y1]) rfl ⟨by rw[HN.out,HD.out,HB.out,hB];rfl,?_⟩;exact(B2.setCell (p:=⟨w.heap.size,0,none⟩) (zlr _) _).setCell (p:=⟨w.heap.size,1,none⟩) (zlr _) _
section
abbrev WT:TypeId:=109
abbrev ST:TypeId:=65
theorem wt1:WT≠3:=by decide
theorem st1:ST≠3:=by decide
theorem st2:ST≠WT:=by decide
def qag(wk:List (Nat×Int)):List Value:=wk.flatMap (fun p=>[.int .i64 (p.1:Int),.int .i64 p.2])
theorem qh9(l m:List (Nat×Int)):qag (l++m)=qag l++qag m:=by simp[qag]
theorem qxf(l:List (Nat×Int))(k:Nat)(hk:k<l.length):(qag l)[k*2]? =some (.int .i64 (l[k].1:Int))∧(qag l)[k*2+1]? =some (.int .i64 l[k].2):=by
 induction l generalizing k with
 |nil=>simp at hk
 |cons t l ih=>
  have e:qag (t::l)=(.int .i64 (t.1:Int))::(.int .i64 t.2)::qag l:=by simp[qag]
  rw[e];cases k with
  |zero=>exact⟨rfl,rfl⟩
  |succ k=>
   have h1:(k+1)*2=k*2+1+1:=by omega
   rw[h1];have:=ih k (by simpa using hk);simpa using this
def OW(base:Nat)(w:World)(A:ZA)(c:Nat)(wk:List (Nat×Int)):Prop:=w.ownsRow base WT 2 (.slice A wk.length c) wk.length (qag wk)
theorem q7f(base:Nat)(w:World):OW base w none 0 []:=Ydf _ _ _ _
theorem q0s{base:Nat}{w w':World}{A:ZA}{c:Nat}{l:List (Nat×Int)}(h:OW base w A c l)(hb:Below w.heap.size w w'):OW base w' A c l:=qdi h hb
theorem qrj:(Tryz.prog.info? WT).map (fun i=>(i.zero,i.size,i.bytes))=some (some (.agg #[.int .i64 0,.int .i64 0]),2,16):=by kernel_rfl
theorem qkr{base:Nat}{w:World}{A:ZA}{c:Nat}{l:List (Nat×Int)}(h:OW base w A c l)(k:Nat)(hk:k<l.length):
  ∃b,A=some ⟨b,0,none⟩∧base≤b∧b<w.heap.size∧w.cell? ⟨b,k*2,none⟩=some (.int .i64 (l[k].1:Int))∧w.cell? ⟨b,k*2+1,none⟩=some (.int .i64 l[k].2)∧ ∀i,w.frozen? ⟨b,i,none⟩=false:=by
 have hh:OW base w A c l:=h;rcases h.2 with⟨_,h0⟩|⟨g,cap,cur,hv,hg,hb,_⟩
 ·omega
 ·injection hv with hA hn hc
  subst hA
  have hc: ∀j u,(qag l)[j]? =some u→w.cell? ⟨g,j,none⟩=some u:=by
   intro j u hu;have:=World.ownsRow.cells hh (g:=g) rfl j u hu;have e:(⟨g,0,none⟩:Addr).add j=⟨g,0+j,none⟩:=by unfold Addr.add;split<;>simp_all
   rw[e,Ybj] at this;exact this
  exact⟨g,rfl,hg,(bl hb),hc _ _ (qxf l k hk).1,hc _ _ (qxf l k hk).2,fun i=>zfz hb i⟩
theorem qia(w:World){ops:Array Oper}{rest:List Oper}{o:Oper}{a:Act}{Q:Exit→Act→World→Prop}(hgd:o.guard=none)(s x:Operand)
  (ho:o.op=.call {callee:=.builtin .append,args:=#[s,x],argTypes:=#[63,63]})
  (base:Nat) (A:ZA) (l:List (Nat×Int)) (n c:Nat) (hn:l.length=n) (hs:a.eval s=.slice A n c) (hown:OW base w A c l)
  (b c1:Nat) (y:Nat×Int) (ty:TypeId) (hx:a.eval x=.slice (some ⟨b,0,none⟩) 1 c1) (hb:w.heap[b]? =some (.cells #[.int .i64 (y.1:Int),.int .i64 y.2] ty (0,0)))
  (hl:l.length≤2000000) (hbase:base≤w.heap.size)
  (h: ∀g c' w',OW base w' (some ⟨g,0,none⟩) c' (l++[y])→w.grownBy w' (Value.slice A n c).ownBlock→Below base w w'→wpList Tryz.prog ops Q rest (a.put o.dst (.slice (some ⟨g,0,none⟩) (n+1) c')) w'):wpList Tryz.prog ops Q (o::rest) a w:=by
 subst hn;obtain⟨i0,hi,hz0,hz1,hz2⟩:=Ybv qrj
 refine wpList_append_lies w hgd s x 63 ho base WT i0 _ 2 16 Tryz.underlying63 hi hz0 hz1 hz2 rfl (by decide) (.slice A l.length c) l.length (qag l) hs hown
  ⟨b,0,none⟩ 1 c1 [.int .i64 (y.1:Int),.int .i64 y.2] hx rfl ?_ ?_ (by omega) (by unfold maxLen;omega) (by omega) hbase _ rfl ?_
 ·intro j u hj;rw[qai,Ybf w b j _ ty (0,0) hb,←Ybk];exact hj
 ·intro u hu;simp at hu;rcases hu with rfl|rfl<;>rfl
 ·intro g c' w' hown' hg _ _;refine h g c' w' ?_ hg (qad hown hg hbase);unfold OW;rw[Yaa,Yat,qh9];have e:qag [y]=[.int .i64 (y.1:Int),.int .i64 y.2]:=by simp[qag]
  rw[e];exact hown'
theorem qdp(w:World){ops:Array Oper}{rest:List Oper}{o:Oper}{a:Act}{Q:Exit→Act→World→Prop}(hgd:o.guard=none)(s x:Operand)
  (ho:o.op=.call {callee:=.builtin .append,args:=#[s,x],argTypes:=#[27,27]})
  (base:Nat) (A:ZA) (l:List Int) (n c:Nat) (hn:l.length=n) (hs:a.eval s=.slice A n c) (hown:OI base w A c l)
  (b c1:Nat) (y:Int) (ty:TypeId) (hx:a.eval x=.slice (some ⟨b,0,none⟩) 1 c1) (hb:w.heap[b]? =some (.cells #[.int .i64 y] ty (0,0)))
  (hl:l.length≤2000000) (hbase:base≤w.heap.size) (H:Nat) (hH:w.heap.size=H)
  (h: ∀g c' w',OI base w' (some ⟨g,0,none⟩) c' (l++[y])→w.grownBy w' (Value.slice A n c).ownBlock→((Value.slice A n c).ownBlock=some g∨g=H)→Below base w w'→wpList Tryz.prog ops Q rest (a.put o.dst (.slice (some ⟨g,0,none⟩) (n+1) c')) w'):wpList Tryz.prog ops Q (o::rest) a w:=by
 subst hn;obtain⟨i0,hi,hz0,hz1,hz2⟩:=Ybv qd6
 refine wpList_append_lies w hgd s x 27 ho base 3 i0 _ 1 8 Tryz.underlying27 hi hz0 hz1 hz2 rfl (by decide) (.slice A l.length c) l.length (l.map (.int .i64)) hs hown
  ⟨b,0,none⟩ 1 c1 [.int .i64 y] hx rfl ?_ ?_ (by omega) (by unfold maxLen;omega) (by omega) hbase H hH ?_
 ·intro j u hj;rw[qai,Ybf w b j _ ty (0,0) hb,←Ybk];exact hj
 ·intro u hu;simp at hu;subst hu;rfl
 ·intro g c' w' hown' hg hat _;refine h g c' w' ?_ hg hat (qad hown hg hbase);unfold OI;rw[Yaa,Yat,Ybg];exact hown'
def bk(A:ZA):Option Nat:=(Value.slice A 0 0).ownBlock
theorem qnp(A:ZA)(n c:Nat):(Value.slice A n c).ownBlock=bk A:=by
 cases A<;>rfl
def far(A B:ZA):Prop:=bk A=none∨bk A≠bk B
theorem far.symm{A B:ZA}(h:far A B):far B A:=by
 unfold far at h⊢;cases hb:bk B with
 |none=>exact .inl rfl
 |some b=>
  rcases h with h|h
  ·exact .inr (by rw[h];simp)
  ·exact .inr (fun e=>h (by rw[←e,hb]))
theorem qm3(A:ZA):far none A:=.inl rfl
theorem qll{base:Nat}{w w':World}{A:ZA}{c:Nat}{l:List Int}(h:OI base w A c l){B:ZA}(hg:w.grownBy w' (bk B))(hf:far A B):OI base w' A c l:=
 World.ownsRow.kept h hg (by rw[qnp];exact hf)
theorem qqg{base:Nat}{w:World}{t:TypeId}{size:Nat}{A:ZA}{n c:Nat}{xs:List Value}(h:w.ownsRow base t size (.slice A n c) n xs){b:Nat}(hb:bk A=some b):base≤b∧ ∃cs,w.heap[b]? =some (.cells cs t (0,0)):=by
 rcases h.2 with⟨hv,_⟩|⟨g,cap,cur,hv,hg,hh,_⟩
 ·injection hv with hA
  subst hA;cases hb
 ·injection hv with hA
  subst hA;have:g=b:=by simpa [bk,Value.ownBlock] using hb
  subst this;exact⟨hg,_,hh⟩
theorem Qw{base base2:Nat}{w w':World}{t t2:TypeId}{size n:Nat}{v:Value}{xs:List Value}(h:w.ownsRow base t size v n xs){B:ZA}{size2 n2 c2:Nat}{ys:List Value}(h2:w.ownsRow base2 t2 size2 (.slice B n2 c2) n2 ys)(hg:w.grownBy w' (bk B))(hne:t≠t2):w'.ownsRow base t size v n xs:=by
 refine World.ownsRow.kept h hg ?_;rcases h.2 with⟨hv,_⟩|⟨g,cap,cur,hv,_,hh,_⟩
 ·exact .inl (by rw[hv];rfl)
 ·refine .inr ?_;intro e;have e2:bk B=some g:=by rw[←e,hv];rfl
  obtain⟨_,cs,h3⟩:=qqg h2 e2;rw[hh] at h3;injection h3 with h3
  injection h3 with _ h4 _
  exact hne h4
def Kp(w w':World):Prop:=w.heap.size≤w'.heap.size∧ ∀(k:Nat) (cs:Array Value) (ty:TypeId) (fz:Nat×Nat),w.heap[k]? =some (.cells cs ty fz)→ty≠3→ty≠WT→w'.heap[k]? =some (.cells cs ty fz)
theorem Kp.refl(w:World):Kp w w:=⟨zlr _,fun _ _ _ _ h _ _=>h⟩
theorem Kp.trans{a b c:World}(h:Kp a b)(g:Kp b c):Kp a c:=⟨zll h.1 g.1,fun k cs ty fz hk h1 h2=>g.2 k cs ty fz (h.2 k cs ty fz hk h1 h2) h1 h2⟩
theorem Kp.keep{w wr w':World}(h:Kp w wr)(hb:Below wr.heap.size wr w'):Kp w w':=⟨zll h.1 hb.size,fun k cs ty fz hk h1 h2=>(hb.block k (Array.getElem?_eq_some_iff.1 (h.2 k cs ty fz hk h1 h2)).1).trans (h.2 k cs ty fz hk h1 h2)⟩
theorem Kp.setX{w wr:World}(h:Kp w wr){b:Nat}(hb:w.heap.size≤b)(i:Nat)(v:Value):Kp w (wr.setCell ⟨b,i,none⟩ v):=
 ⟨by simpa [World.setCell] using h.1,fun k cs ty fz hk h1 h2=>(Yal wr ⟨b,i,none⟩ v k (by
  have:=(bl hk);simp;omega)).trans (h.2 k cs ty fz hk h1 h2)⟩
theorem Kp.row{w wr w':World}(h:Kp w wr){base:Nat}{t:TypeId}{size n c:Nat}{A:ZA}{xs:List Value}(ho:wr.ownsRow base t size (.slice A n c) n xs)(ht:t=3∨t=WT)(hg:wr.grownBy w' (bk A)):Kp w w':=by
 refine⟨zll h.1 hg.size,fun k cs ty fz hk h1 h2=>?_⟩;have hw:=h.2 k cs ty fz hk h1 h2;refine(hg.block k (bl hw) ?_).trans hw;intro e;obtain⟨_,cs',h3⟩:=qqg ho e.symm;rw[hw] at h3;injection h3 with h3
 injection h3 with _ h4 _
 rcases ht with rfl|rfl
 ·exact h1 h4
 ·exact h2 h4
structure SRows (base:Nat) (w:World) (Ae:ZA) (ce:Nat) (en:List Int) (At:ZA) (ct:Nat) (tr:List Int) (As:ZA) (cs:Nat) (sw:List Int) (Aw:ZA) (cw:Nat) (wk:List (Nat×Int)):Prop where
 e:OI base w Ae ce en
 t:OI base w At ct tr
 s:OI base w As cs sw
 k:OW base w Aw cw wk
 et:far Ae At
 es:far Ae As
 ts:far At As
section
variable {base:Nat} {w w':World} {Ae:ZA} {ce:Nat} {en:List Int} {At:ZA} {ct:Nat} {tr:List Int} {As:ZA} {cs:Nat} {sw:List Int} {Aw:ZA} {cw:Nat} {wk:List (Nat×Int)}
theorem SRows.keep(h:SRows base w Ae ce en At ct tr As cs sw Aw cw wk)(hb:Below w.heap.size w w'):SRows base w' Ae ce en At ct tr As cs sw Aw cw wk:=
 ⟨Q3 h.e hb,Q3 h.t hb,Q3 h.s hb,q0s h.k hb,h.et,h.es,h.ts⟩
theorem SRows.setX(h:SRows base w Ae ce en At ct tr As cs sw Aw cw wk){b:Nat}{xs:Array Value}{t:TypeId}(hk:w.heap[b]? =some (.cells xs t (0,0)))(h1:t≠3)(h2:t≠WT)(i:Nat)(v:Value):SRows base (w.setCell ⟨b,i,none⟩ v) Ae ce en At ct tr As cs sw Aw cw wk:=
 ⟨qau h.e (Qx w b i v) hk (fun e=>h1 e.symm),qau h.t (Qx w b i v) hk (fun e=>h1 e.symm),qau h.s (Qx w b i v) hk (fun e=>h1 e.symm),qau h.k (Qx w b i v) hk (fun e=>h2 e.symm),h.et,h.es,h.ts⟩
theorem SRows.appW(h:SRows base w Ae ce en At ct tr As cs sw Aw cw wk){Aw':ZA}{cw':Nat}{wk':List (Nat×Int)}(ho:OW base w' Aw' cw' wk')(hg:w.grownBy w' (bk Aw)):SRows base w' Ae ce en At ct tr As cs sw Aw' cw' wk':=
 ⟨Qw h.e h.k hg (fun e=>wt1 e.symm),Qw h.t h.k hg (fun e=>wt1 e.symm),Qw h.s h.k hg (fun e=>wt1 e.symm),ho,h.et,h.es,h.ts⟩
theorem SRows.appT(h:SRows base w Ae ce en At ct tr As cs sw Aw cw wk){g ct':Nat}{tr':List Int}(ho:OI base w' (some ⟨g,0,none⟩) ct' tr')(hg:w.grownBy w' (bk At))(hat:bk At=some g∨g=w.heap.size):SRows base w' Ae ce en (some ⟨g,0,none⟩) ct' tr' As cs sw Aw cw wk:=by
 have hn: ∀{A:ZA} {c:Nat} {l:List Int},OI base w A c l→far A At→far A (some ⟨g,0,none⟩):=by
  intro A c l hO hf;unfold far at hf⊢;rcases hf with hf|hf
  ·exact .inl hf
  ·rcases hat with hat|hat
   ·exact .inr (by rw[hat] at hf;exact hf)
   ·refine .inr (fun e=>?_);have e:bk A=some g:=e;obtain⟨_,cs,h3⟩:=qqg hO e;have:=(bl h3);omega
 exact⟨qll h.e hg h.et,ho,qll h.s hg h.ts.symm,Qw h.k h.t hg wt1,hn h.e h.et,h.es,(hn h.s h.ts.symm).symm⟩
theorem SRows.appS(h:SRows base w Ae ce en At ct tr As cs sw Aw cw wk){g cs':Nat}{sw':List Int}(ho:OI base w' (some ⟨g,0,none⟩) cs' sw')(hg:w.grownBy w' (bk As))(hat:bk As=some g∨g=w.heap.size):SRows base w' Ae ce en At ct tr (some ⟨g,0,none⟩) cs' sw' Aw cw wk:=by
 have hn: ∀{A:ZA} {c:Nat} {l:List Int},OI base w A c l→far A As→far A (some ⟨g,0,none⟩):=by
  intro A c l hO hf;unfold far at hf⊢;rcases hf with hf|hf
  ·exact .inl hf
  ·rcases hat with hat|hat
   ·exact .inr (by rw[hat] at hf;exact hf)
   ·refine .inr (fun e=>?_);have e:bk A=some g:=e;obtain⟨_,cs,h3⟩:=qqg hO e;have:=(bl h3);omega
 exact⟨qll h.e hg h.es,qll h.t hg h.ts,ho,Qw h.k h.s hg wt1,h.et,hn h.e h.es,hn h.t h.ts⟩
theorem SRows.setE(h:SRows base w Ae ce en At ct tr As cs sw Aw cw wk)(i:Nat)(hi:i<en.length)(x:Int): ∃b,Ae=some ⟨b,0,none⟩∧base≤b∧b<w.heap.size∧(∃u,w.cell? ⟨b,i,none⟩=some u)∧w.frozen? ⟨b,i,none⟩=false∧
  SRows base (w.setCell ⟨b,i,none⟩ (.int .i64 x)) Ae ce (en.set i x) At ct tr As cs sw Aw cw wk∧w.grownBy (w.setCell ⟨b,i,none⟩ (.int .i64 x)) (bk Ae):=by
 have he:=h.e;rcases h.e.2 with⟨_,h0⟩|⟨g,cap,cur,hv,hg,hh,_⟩
 ·omega
 ·injection hv with hA hn hc
  subst hA;have hgb:w.grownBy (w.setCell ⟨g,i,none⟩ (.int .i64 x)) (bk (some ⟨g,0,none⟩)):=Qx w g i (.int .i64 x);exact⟨g,rfl,hg,(bl hh),⟨_,(qdd he i hi).1⟩,(qdd he i hi).2,⟨q64 he i x,qll h.t hgb h.et.symm,qll h.s hgb h.es.symm,Qw h.k h.e hgb wt1,h.et,h.es,h.ts⟩,hgb⟩
end
end
theorem Qm{w w':World}{base:Nat}{t t':TypeId}{size n c g:Nat}{A:ZA}{xs:List Value}(ho:w.ownsRow base t size (.slice A n c) n xs)(hg:w.grownBy w' (bk A)){cs:Array Value}{fz:Nat×Nat}(hk:w.heap[g]? =some (.cells cs t' fz))(hne:t'≠t):w'.heap[g]? =some (.cells cs t' fz):=by
 refine(hg.block g (bl hk) ?_).trans hk;intro e;obtain⟨_,cs',h3⟩:=qqg ho e.symm;rw[hk] at h3;injection h3 with h3
 injection h3 with _ h4 _
 exact hne h4
abbrev stC(e t s wv:Value)(hi:Bool)(nx num den:Int):Obj:=.cells #[e,t,s,.bool hi,wv,.int .i64 nx,.int .i64 num,.int .i64 den] ST (0,0)
theorem qa2{v:World}{r:Nat}{x0 x1 x2 x3 x4 x5 x6 x7:Value}(h:v.heap[r]? =some (.cells #[x0,x1,x2,x3,x4,x5,x6,x7] ST (0,0)))(e t s wv:Value)(hi:Bool)(nx num den:Int):
  ((((((((v.setCell ⟨r,0,none⟩ e).setCell ⟨r,1,none⟩ t).setCell ⟨r,2,none⟩ s).setCell ⟨r,3,none⟩ (.bool hi)).setCell ⟨r,4,none⟩ wv).setCell ⟨r,5,none⟩ (.int .i64 nx)).setCell ⟨r,6,none⟩ (.int .i64 num)).setCell ⟨r,7,none⟩ (.int .i64 den)).heap[r]? =some (stC e t s wv hi nx num den)∧
   v.grownBy ((((((((v.setCell ⟨r,0,none⟩ e).setCell ⟨r,1,none⟩ t).setCell ⟨r,2,none⟩ s).setCell ⟨r,3,none⟩ (.bool hi)).setCell ⟨r,4,none⟩ wv).setCell ⟨r,5,none⟩ (.int .i64 nx)).setCell ⟨r,6,none⟩ (.int .i64 num)).setCell ⟨r,7,none⟩ (.int .i64 den)) (some r):=by
 have h1:(v.setCell ⟨r,0,none⟩ e).heap[r]? =some (.cells #[e,x1,x2,x3,x4,x5,x6,x7] ST (0,0)):=Yan v r 0 _ _ e h;have g1:=Qx v r 0 e;generalize v.setCell ⟨r,0,none⟩ e=v1 at h1 g1⊢;have h2:(v1.setCell ⟨r,1,none⟩ t).heap[r]? =some (.cells #[e,t,x2,x3,x4,x5,x6,x7] ST (0,0)):=Yan v1 r 1 _ _ t h1;have g2:=Qx v1 r 1 t;generalize v1.setCell ⟨r,1,none⟩ t=v2 at h2 g2⊢;have h3:(v2.setCell ⟨r,2,none⟩ s).heap[r]? =some (.cells #[e,t,s,x3,x4,x5,x6,x7] ST (0,0)):=Yan v2 r 2 _ _ s h2;have g3:=Qx v2 r 2 s;generalize v2.setCell ⟨r,2,none⟩ s=v3 at h3 g3⊢;have h4:(v3.setCell ⟨r,3,none⟩ (.bool hi)).heap[r]? =some (.cells #[e,t,s,.bool hi,x4,x5,x6,x7] ST (0,0)):=Yan v3 r 3 _ _ (.bool hi) h3;have g4:=Qx v3 r 3 (.bool hi);generalize v3.setCell ⟨r,3,none⟩ (.bool hi)=v4 at h4 g4⊢;have h5:(v4.setCell ⟨r,4,none⟩ wv).heap[r]? =some (.cells #[e,t,s,.bool hi,wv,x5,x6,x7] ST (0,0)):=Yan v4 r 4 _ _ wv h4;have g5:=Qx v4 r 4 wv;generalize v4.setCell ⟨r,4,none⟩ wv=v5 at h5 g5⊢;have h6:(v5.setCell ⟨r,5,none⟩ (.int .i64 nx)).heap[r]? =some (.cells #[e,t,s,.bool hi,wv,.int .i64 nx,x6,x7] ST (0,0)):=Yan v5 r 5 _ _ (.int .i64 nx) h5;have g6:=Qx v5 r 5 (.int .i64 nx);generalize v5.setCell ⟨r,5,none⟩ (.int .i64 nx)=v6 at h6 g6⊢;have h7:(v6.setCell ⟨r,6,none⟩ (.int .i64 num)).heap[r]? =some (.cells #[e,t,s,.bool hi,wv,.int .i64 nx,.int .i64 num,x7] ST (0,0)):=Yan v6 r 6 _ _ (.int .i64 num) h6;have g7:=Qx v6 r 6 (.int .i64 num);generalize v6.setCell ⟨r,6,none⟩ (.int .i64 num)=v7 at h7 g7⊢;have h8:(v7.setCell ⟨r,7,none⟩ (.int .i64 den)).heap[r]? =some (.cells #[e,t,s,.bool hi,wv,.int .i64 nx,.int .i64 num,.int .i64 den] ST (0,0)):=Yan v7 r 7 _ _ (.int .i64 den) h7;have g8:=Qx v7 r 7 (.int .i64 den);generalize v7.setCell ⟨r,7,none⟩ (.int .i64 den)=v8 at h8 g8⊢;exact⟨h8,Vo (Vo (Vo (Vo (Vo (Vo (Vo g1 g2) g3) g4) g5) g6) g7) g8⟩
theorem SRows.gbX{base:Nat}{w w':World}{Ae:ZA}{ce:Nat}{en:List Int}{At:ZA}{ct:Nat}{tr:List Int}{As:ZA}{cs:Nat}{sw:List Int}{Aw:ZA}{cw:Nat}{wk:List (Nat×Int)}(h:SRows base w Ae ce en At ct tr As cs sw Aw cw wk){r:Nat}(hg:w.grownBy w' (some r)){xs:Array Value}{t:TypeId}(hk:w.heap[r]? =some (.cells xs t (0,0)))(h1:t≠3)(h2:t≠WT):SRows base w' Ae ce en At ct tr As cs sw Aw cw wk:=
 ⟨qau h.e hg hk (fun e=>h1 e.symm),qau h.t hg hk (fun e=>h1 e.symm),qau h.s hg hk (fun e=>h1 e.symm),qau h.k hg hk (fun e=>h2 e.symm),h.et,h.es,h.ts⟩
theorem Kp.gbX{w wr w':World}(h:Kp w wr){r:Nat}(hg:wr.grownBy w' (some r))(hr:w.heap.size≤r):Kp w w':=
 ⟨zll h.1 hg.size,fun k cs ty fz hk h1 h2=>(hg.block k (Array.getElem?_eq_some_iff.1 (h.2 k cs ty fz hk h1 h2)).1 (by
  have:=(bl hk);intro e;have:k=r:=by simpa using e
  omega)).trans (h.2 k cs ty fz hk h1 h2)⟩
theorem qvk{l:List Tk}{js:List Jb}(hV:Q9 l js=true){num den:Int}(V:JobsIn l js num den)(A:ZA)(c:Nat)(B:ZA)(d:Nat)(W0:World)(hTS:TS W0 A l)(hJS:JS W0 B js)(t nx:Nat)(_ht:t≤1000)(hnx:NX js (t:Int) nx)(hi:Bool)(dn:List Int)
  (hdn: ∀i,i<js.length→(t:Int)≤jA js i→dn.getD i 0=0) (en:List Int) (lf:List Nat) (hen:en.length=js.length) (hlf:lf.length≤20000) {Ae:ZA} {ce:Nat} {At:ZA} {ct:Nat} {tr:List Int} {As:ZA} {cs:Nat} {sw:List Int} {Aw:ZA} {cw:Nat}
  (w:World) (hB0:Below W0.heap.size W0 w) (h:SRows W0.heap.size w Ae ce en At ct tr As cs sw Aw cw (qe7 dn lf)):
  Calls Tryz.prog 68 #[.slice A l.length c,.slice B js.length d,stV (.slice Ae en.length ce) (.slice At tr.length ct) (.slice As sw.length cs) (.slice Aw lf.length cw) hi (nx:Int) num den,.int .i64 (t:Int)] w fun e w'=> ∃Aw' cw' m,e=.returned (stV (.slice Ae en.length ce) (.slice At tr.length ct) (.slice As sw.length cs) (.slice Aw' (qby l js t hi (en,lf) js.length).2.length cw') hi (m:Nat) num den)∧NX js ((t:Int)+1) m∧SRows W0.heap.size w' Ae ce (qby l js t hi (en,lf) js.length).1 At ct tr As cs sw Aw' cw' (qe7 dn (qby l js t hi (en,lf) js.length).2)∧Kp w w'∧Below W0.heap.size w w':=by
 have h60:js.length≤60:=by
  simp only[Q9,Yac,Yae] at hV;exact hV.1.2
 have hW0:=hB0.size;obtain⟨ne,hne⟩: ∃x,en.length=x:=⟨_,rfl⟩;obtain⟨nt,hnt⟩: ∃x,tr.length=x:=⟨_,rfl⟩;obtain⟨ns,hns⟩: ∃x,sw.length=x:=⟨_,rfl⟩;rw[hne,hnt,hns];have Hne:=zhi (hne.symm.trans hen);clear hne hnt hns
 have hg1:((w.alloc (stC (.slice Ae ne ce) (.slice At nt ct) (.slice As ns cs) (.slice Aw lf.length cw) hi nx num den)).alloc (.cells #[.slice none 0 0,.slice none 0 0,.slice none 0 0,.bool false,.slice none 0 0,.int .i64 0,.int .i64 0,.int .i64 0] ST)).heap[w.heap.size]? =some (stC (.slice Ae ne ce) (.slice At nt ct) (.slice As ns cs) (.slice Aw lf.length cw) hi nx num den):=
  (Yaj _ _ _ (by simp)).trans (zha w _)
 have hg2:=zha (w.alloc (stC (.slice Ae ne ce) (.slice At nt ct) (.slice As ns cs) (.slice Aw lf.length cw) hi nx num den)) (.cells #[.slice none 0 0,.slice none 0 0,.slice none 0 0,.bool false,.slice none 0 0,.int .i64 0,.int .i64 0,.int .i64 0] ST (0,0));have hsz:(w.alloc (stC (.slice Ae ne ce) (.slice At nt ct) (.slice As ns cs) (.slice Aw lf.length cw) hi nx num den)).heap.size=w.heap.size+1:=by simp
 rw[hsz] at hg2;have bx:=bal (bal (Below.refl w.heap.size w) (stC (.slice Ae ne ce) (.slice At nt ct) (.slice As ns cs) (.slice Aw lf.length cw) hi nx num den)) (.cells #[.slice none 0 0,.slice none 0 0,.slice none 0 0,.bool false,.slice none 0 0,.int .i64 0,.int .i64 0,.int .i64 0] ST);go_enter Tryz.func68,Tryz.ntmps68;go_wp2_with fail;generalize World.alloc (World.alloc w _) _=w1 at hg1 hg2 bx⊢;obtain⟨g,hg⟩: ∃g,w.heap.size=g:=⟨_,rfl⟩;rw[hg] at hg1 hg2⊢;have h1:=h.keep bx;have k1:=(Kp.refl w).keep bx;have hb1:=bx.mono hW0;clear bx hsz h;go_loopg [] (js.length-nx) (fun gg wr=> ∃(m cw':Nat) (Aw':ZA) (en':List Int) (lf':List Nat),gg+m=js.length∧Hid (nx≤m∧ ∀i,nx≤i→i<m→jA js i=(t:Int))∧Hid (qby l js (t:Int) hi (en,lf) m=(en',lf'))∧lf'.length≤20000+m∧en'.length=js.length∧Hid (wr.heap[g]? =some (stC (.slice Ae ne ce) (.slice At nt ct) (.slice As ns cs) (.slice Aw' lf'.length cw') hi m num den))∧Hid (wr.heap[g+1]? =some (.cells #[.slice none 0 0,.slice none 0 0,.slice none 0 0,.bool false,.slice none 0 0,.int .i64 0,.int .i64 0,.int .i64 0] ST (0,0)))∧SRows W0.heap.size wr Ae ce en' At ct tr As cs sw Aw' cw' (qe7 dn lf')∧Kp w wr∧Below W0.heap.size w wr)
 case atStart=>exact⟨nx,cw,Aw,en,lf,by have:=hnx.le;omega,⟨zlr _,fun i h1 h2=>by omega⟩,q3j hnx,by omega,hen,hg1,hg2,h1,k1,hb1⟩
 case round=>
  clear hg1 hg2 h1 k1 hb1;obtain⟨m,cw',Aw',en',lf',hgm,hm,ha,hlf',hen',hg1,hg2,h1,k1,hb1⟩:=hrel;have hB1:=hB0.trans hb1;obtain⟨s0,s1,s2,s3,s4,s5,s6,s7⟩:=qb9 hg1.out;have sf:=fun i=>zfz hg1.out i
  by_cases hml:m<js.length
  case neg=>
   have e0:decide ((m:Int)<(js.length:Int))=false:=Yaf (by omega);obtain⟨z0,z1,z2,z3,z4,z5,z6,z7⟩:=qb9 hg2.out;have zf:=fun i=>zfz hg2.out i
   have hN:=hnx.step hV hm.out.1 (by omega) hm.out.2 (by omega);go_wp2_with fail;have hz:=qa2 hg2.out (.slice Ae ne ce) (.slice At nt ct) (.slice As ns cs) (.slice Aw' lf'.length cw') hi m num den;obtain⟨hzB,hzG⟩:=hz;obtain⟨y0,y1,y2,y3,y4,y5,y6,y7⟩:=qb9 hzB;refine bodyPost_ret (v:=stV (.slice Ae ne ce) (.slice At nt ct) (.slice As ns cs) (.slice Aw' lf'.length cw') hi m num den) (by simp[results,Tryz.results68,go_sem,y0,y1,y2,y3,y4,y5,y6,y7]) rfl ?_;have harr:=q0i (l:=l) (hi:=hi) (s:=(en,lf)) hN;rw[ha.out] at harr;rw[harr];exact⟨Aw',cw',m,rfl,hN,h1.gbX hzG hg2.out st1 st2,k1.gbX hzG (by omega),hb1.grown hzG (zll hW0 hb1.size) (fun k hk=>by cases hk;omega)⟩
  obtain⟨b,off,rfl,hbl,hc⟩:=(hJS.keep hB1) (by omega);obtain⟨q0,q1,q2⟩:=Vi hc m hml;rw[←Vx js m hml] at q0 q1 q2;obtain⟨a0,a1,hta,hk,_,_⟩:=V.job m hml;obtain⟨tb,toff,rfl,htb,htc⟩:=(hTS.keep hB1) (by omega);obtain⟨c0,c1,c2,c3,c4⟩:=Qv htc (jK js m) hk;rw[hta] at q0;clear hc htc c0 c1 c2 c3 q2;have hmI:(m:Int)<(js.length:Int):=by omega
  have hkI:(jK js m:Int)<(l.length:Int):=by omega
  have e0:decide ((m:Int)<(js.length:Int))=true:=Yag hmI;have hja:jA js m=(Qt js m).at_:=rfl;have HJ:=zhi hja;clear hja;generalize(Qt js m).at_=at_ at q1 HJ a0 a1;by_cases hat:at_=(t:Int)
  case neg=>
   have e1:(at_==(t:Int))=false:=beq_eq_false_iff_ne.2 hat;obtain⟨z0,z1,z2,z3,z4,z5,z6,z7⟩:=qb9 hg2.out;have zf:=fun i=>zfz hg2.out i
   have hN:=hnx.step hV hm.out.1 (by omega) hm.out.2 (fun _=>by rw[HJ.out];exact hat);go_wp2_with fail;have hz:=qa2 hg2.out (.slice Ae ne ce) (.slice At nt ct) (.slice As ns cs) (.slice Aw' lf'.length cw') hi m num den;obtain⟨hzB,hzG⟩:=hz;obtain⟨y0,y1,y2,y3,y4,y5,y6,y7⟩:=qb9 hzB;refine bodyPost_ret (v:=stV (.slice Ae ne ce) (.slice At nt ct) (.slice As ns cs) (.slice Aw' lf'.length cw') hi m num den) (by simp[results,Tryz.results68,go_sem,y0,y1,y2,y3,y4,y5,y6,y7]) rfl ?_;have harr:=q0i (l:=l) (hi:=hi) (s:=(en,lf)) hN;rw[ha.out] at harr;rw[harr];exact⟨Aw',cw',m,rfl,hN,h1.gbX hzG hg2.out st1 st2,k1.gbX hzG (by omega),hb1.grown hzG (zll hW0 hb1.size) (fun k hk=>by cases hk;omega)⟩
  have e1:(at_==(t:Int))=true:=by simpa using hat
  have hcr: ∃cr,(Qg l (jK js m)).crit=cr:=⟨_,rfl⟩;obtain⟨cr,hcr⟩:=hcr;rw[hcr] at c4;have HCR:=zhi hcr;clear hcr;cases hi with
  |true=>
   cases cr with
   |false=>
    have harr:Hid (qby l js (t:Int) true (en,lf) (m+1)=(en'.set m (-2),lf')):=by
     have:=qvc (l:=l) (hi:=true) (s:=(en,lf)) (HJ.out.trans hat);rw[ha.out] at this;rw[Hid,this,HCR.out];rfl
    obtain⟨be,rfl,hbe,hbel,⟨u,hu⟩,hfz,hR,hgE⟩:=h1.setE m (by omega) (-2);have q1':=Qm h1.e hgE hg1.out st1;have q2':=Qm h1.e hgE hg2.out st1;have kp':=k1.row h1.e (.inl rfl) hgE
    have bl':=hb1.grown hgE (zll hW0 hb1.size) (fun k hk=>by
     have:be=k:=by simpa [bk,Value.ownBlock] using hk
     omega)
    have hmE:(m:Int)<(ne:Int):=by have:=Hne.out;omega
    go_upto_region 5 with fail;generalize World.setCell wr _ _=w2 at hR hgE q1' q2' kp' bl'⊢;obtain⟨p0,p1,p2,p3,p4,p5,p6,p7⟩:=qb9 q1';have pf:=fun i=>zfz q1' i
    go_wp2_with fail;go_roundg (gk-1)
    case measure=>omega
    case rel=>
     have hn1:=Yan w2 g 5 _ _ (.int .i64 ((m:Int)+1)) q1';have hn2:=(Yal w2 ⟨g,5,none⟩ (.int .i64 ((m:Int)+1)) (g+1) (by simp)).trans q2'
     exact⟨m+1,cw',Aw',en'.set m (-2),lf',by omega,⟨by have:=hm.out.1;omega,fun i h1 h2=>by
      by_cases e:i=m
      ·rw[e,HJ.out];exact hat
      ·exact hm.out.2 i h1 (by omega)⟩,harr,by omega,by rw[Ybc];exact hen',hn1,hn2,hR.setX q1' st1 st2 5 _,kp'.setX (by omega) 5 _,bl'.setCell (p:=⟨g,5,none⟩) (by show W0.heap.size≤g;omega) _⟩
   |true=>
    have harr:Hid (qby l js (t:Int) true (en,lf) (m+1)=(en',lf'++[m])):=by
     have:=qvc (l:=l) (hi:=true) (s:=(en,lf)) (HJ.out.trans hat);rw[ha.out] at this;rw[Hid,this,HCR.out];rfl
    have bA:=Below.refl wr.heap.size wr;have hA:=zha wr (.cells #[.int .i64 (m:Int),.int .i64 0] WT (0,0));have bA:=bal bA (.cells #[.int .i64 (m:Int),.int .i64 0] WT);have hRa:=h1.keep bA;have kA:=k1.keep bA;have hWr:=zll hW0 hb1.size;have BA:=hb1.trans (bA.mono hWr);have hp1:=bh bA hg1.out;have hp2:=bh bA hg2.out;have HP1:=zhi hp1;have HP2:=zhi hp2;have pf:=fun i=>zfz hp1 i
    obtain⟨s0,s1,s2,s3,s4,s5,s6,s7⟩:=qb9 hg1.out;clear bA hp1 hp2;go_wp2_with (at_builtin;refine qia _ rfl _ _ rfl W0.heap.size Aw' (qe7 dn lf') lf'.length cw' (qfq _ _) ?a1 ?a2 wr.heap.size 1 (m,0) WT ?a3 ?a4 ?a5 ?a6 ?_;(case a1=>exact rfl);(case a2=>exact hRa.k);(case a3=>exact rfl);(case a4=>exact hA);(case a5=>rw[qfq];omega);(case a6=>simp;omega);intro g4 cc4 w4 o4 g4' b4;have gb4:=g4';rw[qnp] at gb4;have qq:=Qm hRa.k gb4 HP1.out st2;obtain⟨y0,y1,y2,y3,y4,y5,y6,y7⟩:=qb9 qq;have yf:=fun i=>zfz qq i;clear s0 s1 s2 s3 s4 s5 s6 s7)
    have q1':=Yan w4 g 4 _ _ (.slice (some ⟨g4,0,none⟩) (lf'.length+1) cc4) qq;have R4:=hRa.appW o4 gb4;have q2':=Qm hRa.k gb4 HP2.out st2;have q2'':=(Yal w4 ⟨g,4,none⟩ (.slice (some ⟨g4,0,none⟩) (lf'.length+1) cc4) (g+1) (by simp)).trans q2';have K4:=kA.row hRa.k (.inr rfl) gb4;have hdm:=hdn m hml (by rw[HJ.out,hat];exact Ycs _);rw[←qtd dn lf' m hdm] at R4;have hlen:(lf'++[m]).length=lf'.length+1:=by simp
    have R4a:=R4.setX qq st1 st2 4 (.slice (some ⟨g4,0,none⟩) (lf'.length+1) cc4);have R4b:=R4a.setX q1' st1 st2 5 (.int .i64 ((m:Int)+1));have hn1:=Yan _ g 5 _ _ (.int .i64 ((m:Int)+1)) q1';have hn2:=(Yal (w4.setCell ⟨g,4,none⟩ (.slice (some ⟨g4,0,none⟩) (lf'.length+1) cc4)) ⟨g,5,none⟩ (.int .i64 ((m:Int)+1)) (g+1) (by simp)).trans q2'';have hle:W0.heap.size≤g:=by omega
    have B4b:=((BA.trans b4).setCell (p:=⟨g,4,none⟩) hle (.slice (some ⟨g4,0,none⟩) (lf'.length+1) cc4)).setCell (p:=⟨g,5,none⟩) hle (.int .i64 ((m:Int)+1));go_roundg (gk-1)
    case measure=>omega
    case rel=>
     refine⟨m+1,cc4,some ⟨g4,0,none⟩,en',lf'++[m],by omega,⟨by have:=hm.out.1;omega,fun i h1 h2=>?_⟩,harr,by rw[hlen];omega,hen',?_,hn2,R4b,(K4.setX (by omega) 4 _).setX (by omega) 5 _,B4b⟩
     ·by_cases e:i=m
      ·rw[e,HJ.out];exact hat
      ·exact hm.out.2 i h1 (by omega)
     ·rw[Hid,hlen];exact hn1
  |false=>
   have harr:Hid (qby l js (t:Int) false (en,lf) (m+1)=(en',lf'++[m])):=by
    have:=qvc (l:=l) (hi:=false) (s:=(en,lf)) (HJ.out.trans hat);rw[ha.out] at this;rw[Hid,this];rfl
   have bA:=Below.refl wr.heap.size wr;have hA:=zha wr (.cells #[.int .i64 (m:Int),.int .i64 0] WT (0,0));have bA:=bal bA (.cells #[.int .i64 (m:Int),.int .i64 0] WT);have hRa:=h1.keep bA;have kA:=k1.keep bA;have hWr:=zll hW0 hb1.size;have BA:=hb1.trans (bA.mono hWr);have hp1:=bh bA hg1.out;have hp2:=bh bA hg2.out;have HP1:=zhi hp1;have HP2:=zhi hp2;have pf:=fun i=>zfz hp1 i
   obtain⟨s0,s1,s2,s3,s4,s5,s6,s7⟩:=qb9 hg1.out;clear bA hp1 hp2;go_wp2_with (at_builtin;refine qia _ rfl _ _ rfl W0.heap.size Aw' (qe7 dn lf') lf'.length cw' (qfq _ _) ?a1 ?a2 wr.heap.size 1 (m,0) WT ?a3 ?a4 ?a5 ?a6 ?_;(case a1=>exact rfl);(case a2=>exact hRa.k);(case a3=>exact rfl);(case a4=>exact hA);(case a5=>rw[qfq];omega);(case a6=>simp;omega);intro g4 cc4 w4 o4 g4' b4;have gb4:=g4';rw[qnp] at gb4;have qq:=Qm hRa.k gb4 HP1.out st2;obtain⟨y0,y1,y2,y3,y4,y5,y6,y7⟩:=qb9 qq;have yf:=fun i=>zfz qq i;clear s0 s1 s2 s3 s4 s5 s6 s7)
   have q1':=Yan w4 g 4 _ _ (.slice (some ⟨g4,0,none⟩) (lf'.length+1) cc4) qq;have R4:=hRa.appW o4 gb4;have q2':=Qm hRa.k gb4 HP2.out st2;have q2'':=(Yal w4 ⟨g,4,none⟩ (.slice (some ⟨g4,0,none⟩) (lf'.length+1) cc4) (g+1) (by simp)).trans q2';have K4:=kA.row hRa.k (.inr rfl) gb4;have hdm:=hdn m hml (by rw[HJ.out,hat];exact Ycs _);rw[←qtd dn lf' m hdm] at R4;have hlen:(lf'++[m]).length=lf'.length+1:=by simp
   have R4a:=R4.setX qq st1 st2 4 (.slice (some ⟨g4,0,none⟩) (lf'.length+1) cc4);have R4b:=R4a.setX q1' st1 st2 5 (.int .i64 ((m:Int)+1));have hn1:=Yan _ g 5 _ _ (.int .i64 ((m:Int)+1)) q1';have hn2:=(Yal (w4.setCell ⟨g,4,none⟩ (.slice (some ⟨g4,0,none⟩) (lf'.length+1) cc4)) ⟨g,5,none⟩ (.int .i64 ((m:Int)+1)) (g+1) (by simp)).trans q2'';have hle:W0.heap.size≤g:=by omega
   have B4b:=((BA.trans b4).setCell (p:=⟨g,4,none⟩) hle (.slice (some ⟨g4,0,none⟩) (lf'.length+1) cc4)).setCell (p:=⟨g,5,none⟩) hle (.int .i64 ((m:Int)+1));go_roundg (gk-1)
   case measure=>omega
   case rel=>
    refine⟨m+1,cc4,some ⟨g4,0,none⟩,en',lf'++[m],by omega,⟨by have:=hm.out.1;omega,fun i h1 h2=>?_⟩,harr,by rw[hlen];omega,hen',?_,hn2,R4b,(K4.setX (by omega) 4 _).setX (by omega) 5 _,B4b⟩
    ·by_cases e:i=m
     ·rw[e,HJ.out];exact hat
     ·exact hm.out.2 i h1 (by omega)
    ·rw[Hid,hlen];exact hn1
end Go.Proofs.YtmkjmancmiphfaaGreatDoor
