/-
  PackAny: the program's.
  l9Ways, PackAny: the reference's.
  FewestFor: the program's and the reference's.
  Words of the reference without a rest: show, places, deadlines, sort, assign.
  Words of the reference without a rest: holds, responses, shares, factor, fewest.
  The reference's words without a rest, whatever they are.
  RunScript of the reference, of any text.
  The program's numbers of any text: decimal.
  The program's ParseTask at any text.
-/
import Derived.Test.YtmkjmancmiphfaaGreatDoorRc35
namespace Go.Proofs.YtmkjmancmiphfaaGreatDoor
set_option maxHeartbeats 8000000
set_option maxRecDepth 1000000
open Go.RowKit
theorem q6k{m:Nat}(hm:0<m)(n k:Nat)(hk:k+1=m^n): ∀i,i<n→(way m n k)[i]? =some ((m:Int)-1):=by
 induction n generalizing k with
 |zero=>intro i hi;omega
 |succ n ih=>
  intro i hi;have hl:=qg7 m n (k/m);rw[Ydt] at hk;have hpos:0<m^n:=Nat.pow_pos hm
  have e0:k=m*(m^n-1)+(m-1):=by
   rw[Nat.mul_sub,Nat.mul_one,Yct m];have:m≤m^n*m:=Nat.le_mul_of_pos_left m hpos;omega
  have e1:k/m=m^n-1:=by rw[e0,Nat.mul_add_div hm,Nat.div_eq_of_lt (by omega)];omega
  have e2:k % m=m-1:=by rw[e0,Nat.mul_add_mod,Nat.mod_eq_of_lt (by omega)]
  simp only[way];by_cases e:i=n
  ·subst e;rw[Ybd (by omega),hl,Ycc,e2];simp;omega
  ·rw[Yba (by omega)];exact ih (k/m) (by omega) i (by omega)
theorem q19(n:Nat):(madeCells (Value.int .i64 0).cells (n*1)).toList=(List.replicate n (0:Int)).map (.int .i64):=by
 apply Yck
 intro j;have e:(Value.int .i64 0).cells= #[.int .i64 0]:=rfl;rw[e,Nat.mul_one];by_cases h:j<n
 ·simp[madeCells,h,Nat.mod_one]
 ·simp[madeCells,h]
def mid(W:List Int)(j n:Nat):List Int:=W.take j++List.replicate (n-j) 0
theorem q2a{W:List Int}{j n:Nat}(hW:W.length=n)(hj:j≤n):(mid W j n).length=n:=by simp[mid];omega
theorem q4o{W:List Int}{n:Nat}(hW:W.length=n):mid W n n=W:=by simp[mid,List.take_of_length_le (Nat.le_of_eq hW)]
theorem q7o{W:List Int}{j n:Nat}(hW:W.length=n)(hj:j<n):(mid W (j+1) n)[j]? =W[j]? :=by
 unfold mid;rw[Yba (by simp;omega),Ydp,Yav (by omega)]
theorem q2b{W:List Int}{j n:Nat}(hW:W.length=n)(hj:j<n)(x:Int):(mid W (j+1) n).set j x=W.take j++x::List.replicate (n-j-1) 0:=by
 unfold mid;rw[List.set_append_left _ _ (by simp;omega)]
 have e:(W.take (j+1)).set j x=W.take j++[x]:=by
  rw[Yad (by omega),Yda _ _ (by simp;omega)];have:(W.take j).length=j:=by simp;omega
  simp[this]
 rw[e,show n-(j+1)=n-j-1 by omega];simp
theorem q4p{W:List Int}{j n:Nat}(hW:W.length=n)(hj:j<n):(mid W (j+1) n).set j 0=mid W j n:=by
 rw[q2b hW hj]
 have e:List.replicate (n-j) (0:Int)=0::List.replicate (n-j-1) 0:=by
  have:n-j=(n-j-1)+1:=by omega
  rw[this,List.replicate_succ];simp
 rw[mid,e]
theorem qub(A:ZA)(l:List Tk)(c:Nat)(m p:Int)(w:World)(h:TS w A l)(_hm:l.length≤maxLen)(_hlc:l.length≤c):
  Calls Tryz.prog 187 #[.slice A l.length c,.int .i64 m,.int .i64 p] w (qx6 w (qqq l m p) (qhm l m p).isSome):=by
 cases hS:Qe l with
 |false=>
  have hv:qhm l m p=none:=by simp[qhm,hS]
  have hv2:qqq l m p=[]:=by simp[qqq,hv]
  rw[hv,hv2];clear hv hv2;go_enter Tryz.func187,Tryz.ntmps187;go_wp2_with fail;refine(Qf A l c _ h).mono ?_;rw[hS];rintro e w1 ⟨rfl,b1⟩;go_wp2_with fail;go_ret2;exact⟨none,0,rfl,qex _ _,b1⟩
 |true=>
  have hl5:=(Qj hS).1;have HS:=zhi hS;by_cases hn:1≤m∧m≤3
  ·obtain⟨h1m,h3m⟩:=hn;obtain⟨M,rfl⟩: ∃M:Nat,m=(M:Int):=⟨m.toNat,(Yay (by omega)).symm⟩;have hM:0<M:=by omega
   obtain⟨R,hR⟩: ∃R,qbc (fun k=>pkH l (way M l.length k) (M:Int) p) (M^l.length-0) 0=R:=⟨_,rfl⟩
   have hany:qhm l (M:Int) p=R.map (way M l.length):=by
    have:qg6 (M:Int)=true:=by simp[qg6];omega
    simp only[qhm,hS,this,Bool.and_self,if_true,q72,Yam];rw[Yds] at hR;rw[hR]
   have HA:=zhi hany;have HR:=zhi hR;have hpos:0<M^l.length:=Nat.pow_pos hM;obtain⟨i0,hi,hz0,hz1,hz2⟩:=Ybv qd6
   have hmk: ∀w:World,(Instr.makeSlice 27 (.int .i64 (l.length:Int)) (.int .i64 (l.length:Int))).run Tryz.prog w=.ok (.slice (some ⟨w.heap.size,0,none⟩) l.length l.length) (w.alloc (.cells (madeCells (Value.int .i64 0).cells (l.length*1)) 3)):=by
    intro w
    have hb:(i0.bytes:Int)*(l.length:Int)≤281474976710656:=by
     have h:i0.bytes*l.length≤256*16777216:=Ycu (by omega) (by omega);have h2:((i0.bytes*l.length:Nat):Int)≤281474976710656:=by omega
     rwa [Ybr] at h2
    have hr:=run_make (P:=Tryz.prog) w 27 3 i0 _ Tryz.underlying27 hi hz0 .i64 .i64 l.length l.length (by omega) (by omega) hb (by omega);simp only[Yam] at hr;rw[←hz1];exact hr
   have hown: ∀w:World,OI w.heap.size (w.alloc (.cells (madeCells (Value.int .i64 0).cells (l.length*1)) 3)) (some ⟨w.heap.size,0,none⟩) l.length (way M l.length 0):=by
    intro w;have:=qq1 (w:=w) (t:=3) (size:=1) (n:=l.length) (row:=madeCells (Value.int .i64 0).cells (l.length*1)) (by rw[size_madeCells]) (by omega);unfold OI;rw[q19] at this;rw[qg7,q39];exact this
   have HO:=zhi hown;have hwlen:Hid (∀k,(way M l.length k).length=l.length):=qg7 M l.length;clear hS hany hR hi hz0 hz1 hz2 hown;generalize madeCells (Value.int .i64 0).cells (l.length*1)=row at hmk HO;go_enter Tryz.func187,Tryz.ntmps187;go_wp2_with fail;refine(Qf A l c _ h).mono ?_;rw[HS.out];rintro e w1 ⟨rfl,b1⟩;go_wp2_with fail;have hO1:OI w.heap.size (w1.alloc (.cells row 3)) (some ⟨w1.heap.size,0,none⟩) l.length (way M l.length 0):=Ql (HO.out w1) b1.size;have hB1:=bal b1 (.cells row 3);clear hmk HO;generalize w1.heap.size=b1' at*;go_loopg [9] (M^l.length) (fun g a wr=> ∃k:Nat,g+k=M^l.length∧k<M^l.length∧OI w.heap.size wr (some ⟨b1',0,none⟩) l.length (way M l.length k)∧Hid (qbc (fun k=>pkH l (way M l.length k) (M:Int) p) (M^l.length-k) k=R)∧Below w.heap.size w wr)
   case atStart=>exact⟨0,by omega,hpos,hO1,HR.out,hB1⟩
   case round=>
    clear hO1 hB1;obtain⟨k,hgk,hkM,hO,hfk,hb⟩:=hrel;have hst:=qd3 (fun k=>pkH l (way M l.length k) (M:Int) p) (M^l.length) k hkM;obtain⟨W,hW⟩: ∃W,way M l.length k=W:=⟨_,rfl⟩;have hWl:W.length=l.length:=by rw[←hW];exact hwlen.out k
    have hWin: ∀x∈W,0≤x∧x<(M:Int):=by rw[←hW];exact q7j hM _ _
    rw[hW] at hO;have K:=qpj A (some ⟨b1',0,none⟩) l W c l.length (M:Int) p wr (h.keep hb) hO.is;rw[hWl] at K;have HW:=zhi hW;have HWl:=zhi hWl;have HWin:=zhi hWin;cases hk:pkH l W (M:Int) p with
    |true=>
     rw[hk] at K;have hRk:R=some k:=by rw[←hfk.out,hst,hW,hk];rfl
     have hr1:qhm l (M:Int) p=some W:=by rw[HA.out,hRk,←hW];rfl
     have hr2:Hid (qqq l (M:Int) p=W∧(qhm l (M:Int) p).isSome=true):=by simp[Hid,qqq,hr1]
     clear hst hk hRk hr1 hW hWl hWin;go_wp2_with fail;refine K.mono ?_;rintro e w2 ⟨rfl,b2⟩;go_wp2_with fail;go_ret2;rw[hr2.out.1,hr2.out.2];exact⟨some ⟨b1',0,none⟩,l.length,by rw[HWl.out];rfl,Q3 hO b2,Qa hb b2⟩
    |false=>
     rw[hk] at K
     have hnx:Hid (qbc (fun k=>pkH l (way M l.length k) (M:Int) p) (M^l.length-(k+1)) (k+1)=R):=by
      rw[Hid,←hfk.out,hst,hW,hk];rfl
     clear hst hk hW hWl hWin hfk;go_wp2_with fail;refine K.mono ?_;clear K;rintro e w2 ⟨rfl,b2⟩;have hO2:=Q3 hO b2;have B2:=Qa hb b2;clear hO;go_wp2_with fail;go_loopg [9] l.length (fun g a wy=> ∃j:Nat,g=j∧a=.int .i64 ((j:Int)-1)∧j≤l.length∧OI w.heap.size wy (some ⟨b1',0,none⟩) l.length (mid W j l.length)∧Hid (∀i,j≤i→i<l.length→W[i]? =some ((M:Int)-1))∧Below w.heap.size w wy)
     case atStart=>exact⟨l.length,rfl,rfl,zlr _,by rw[q4o HWl.out];exact hO2,fun i h1 h2=>by omega,B2⟩
     case round=>
      clear hO2 B2;obtain⟨j,hgj,rfl,hj,hOj,htop,hby⟩:=hrel;cases j with
      |zero=>
       have hlast:k+1=M^l.length:=q38 hM l.length k hkM (fun i hi=>by rw[HW.out];exact htop.out i (by omega) hi);have hRn:R=none:=by rw[←hnx.out,hlast,Ycc];rfl
       have hr2:Hid (qqq l (M:Int) p=[]∧(qhm l (M:Int) p).isSome=false):=by
        have e:qhm l (M:Int) p=none:=by rw[HA.out,hRn];rfl
        simp[Hid,qqq,e]
       clear hlast hRn;go_wp2_with fail;go_ret2;rw[hr2.out.1,hr2.out.2];exact⟨none,0,rfl,qex _ _,hby⟩
      |succ r=>
       have hcast:(((r+1:Nat):Int))-1=(r:Int):=by omega
       rw[hcast];have hrl:r<W.length:=by rw[HWl.out];omega
       have hat:(mid W (r+1) l.length)[r]? =some W[r]:=by rw[q7o HWl.out (by omega)];exact Ybb hrl
       obtain⟨kc,kf⟩:=qvn hOj r W[r] hat;have hin:=HWin.out W[r] (Yao hrl);have hWr:W[r]? =some W[r]:=Ybb hrl;have hz:=qtn hOj r 0;rw[q4p HWl.out (by omega)] at hz;have hs:=qtn hOj r (W[r]+1);rw[q2b HWl.out (by omega)] at hs;clear hcast hat;generalize W[r]=x at kc hin hWr hs;have hrc:(r:Int)<(l.length:Int):=by omega
       have hr0:(0:Int)≤(r:Int):=by omega
       by_cases hx:x=(M:Int)-1
       ·have hx':(x==(M:Int)-1)=true:=Yef.2 hx
        have ht2:Hid (∀i,r≤i→i<l.length→W[i]? =some ((M:Int)-1)):=by
         intro i h1 h2;by_cases e:i=r
         ·subst e;rw[hWr,hx]
         ·exact htop.out i (by omega) h2
        have HZ:=zhi hz;clear hz hs hx hWr;go_wp2_with fail;go_roundg r
        case measure=>omega
        case rel=>exact⟨r,rfl,by go_num,by omega,HZ.out.1,ht2,hby.trans (qkh HZ.out.2 (by
          obtain⟨q,hq,hq2,_⟩:=qdj hOj (by rw[q2a HWl.out (by omega)];omega);cases hq
          exact hq2) hby.size)⟩
       ·have hx':(x==(M:Int)-1)=false:=beq_eq_false_iff_ne.2 hx;have hsucc:=q37 hM l.length k r (by omega) (fun i h1 h2=>by rw[HW.out];exact htop.out i (by omega) h2) x (by rw[HW.out];exact hWr) hx;rw[HW.out] at hsucc;rw[←hsucc] at hs
        have hk1:k+1<M^l.length:=by
         rcases Nat.lt_or_ge (k+1) (M^l.length) with h1|h1
         ·exact h1
         ·exfalso;have e:=q6k hM l.length k (by omega) r (by omega);rw[HW.out,hWr] at e;injection e with e
          exact hx e
        have hbb:w.heap.size≤b1':=by
         obtain⟨q,hq,hq2,_⟩:=qdj hOj (by rw[q2a HWl.out (by omega)];omega);cases hq
         exact hq2
        have HS2:=zhi hs;have hw1:IntKind.i64.wrap (x+1)=x+1:=Yai _ (by omega);clear hz hs hx hWr hsucc;go_wp2_with fail;go_roundg (M^l.length-(k+1))
        case measure=>omega
        case rel=>exact⟨k+1,by omega,hk1,HS2.out.1,hnx,hby.trans (qkh HS2.out.2 hbb hby.size)⟩
  ·have hv:qhm l m p=none:=by
    have:qg6 m=false:=by simp[qg6];omega
    simp[qhm,this]
   have hv2:qqq l m p=[]:=by simp[qqq,hv]
   rw[hv,hv2];clear hv hv2 hS;by_cases h1m:1≤m
   ·have h3m: ¬m≤3:=fun e=>hn ⟨h1m,e⟩
    clear hn;go_enter Tryz.func187,Tryz.ntmps187;go_wp2_with fail;refine(Qf A l c _ h).mono ?_;rw[HS.out];rintro e w1 ⟨rfl,b1⟩;go_wp2_with fail;go_ret2;exact⟨none,0,rfl,qex _ _,b1⟩
   ·clear hn;go_enter Tryz.func187,Tryz.ntmps187;go_wp2_with fail;refine(Qf A l c _ h).mono ?_;rw[HS.out];rintro e w1 ⟨rfl,b1⟩;go_wp2_with fail;go_ret2;exact⟨none,0,rfl,qex _ _,b1⟩
def quc(m:Nat):Nat→List Int→List (List Int)
 |0,bs=>[bs]
 |k+1,bs=>(List.range m).flatMap (fun(p:Nat)=>quc m k (bs++[(p:Int)]))
theorem q4q: ∀m<4,∀n<6,quc m n []=(List.range (m^n)).map (way m n):=by decide+kernel
def qhu(m k:Nat)(bs:List Int)(q:Nat):List (List Int):=(List.range q).flatMap (fun(p:Nat)=>quc m k (bs++[(p:Int)]))
theorem qj5(m k:Nat)(bs:List Int)(q:Nat):qhu m k bs (q+1)=qhu m k bs q++quc m k (bs++[(q:Int)]):=by simp[qhu,List.range_succ]
theorem qy9(m k:Nat)(bs:List Int):quc m (k+1) bs=qhu m k bs m:=rfl
theorem qud(m k:Nat)(bs:List Int):(quc m k bs).length=m^k:=by
 induction k generalizing bs with
 |zero=>rfl
 |succ k ih=>
  rw[qy9];suffices hs: ∀q,(qhu m k bs q).length=q*m^k by rw[hs,Ydt,Yct]
  intro q;induction q with
  |zero=>simp[qhu]
  |succ q ihq=>rw[qj5,Yaa,ihq,ih,Nat.succ_mul]
theorem qza(m k:Nat)(bs:List Int)(q:Nat):(qhu m k bs q).length=q*m^k:=by
 induction q with
 |zero=>simp[qhu]
 |succ q ih=>rw[qj5,Yaa,ih,qud,Nat.succ_mul]
abbrev RwP:=ZA×List Int×Nat
def q5a(x:RwP):Value:=.slice x.1 x.2.1.length x.2.2
def OR(ob base:Nat)(w:World)(A:ZA)(c:Nat)(xs:List RwP):Prop:=
 w.ownsRow ob 27 1 (.slice A xs.length c) xs.length (xs.map q5a)∧ ∀x∈xs,OI base w x.1 x.2.2 x.2.1
theorem q6l:(Tryz.prog.info? 27).map (fun i=>(i.zero,i.size,i.bytes))=some (some (.slice none 0 0),1,24):=by kernel_rfl
theorem q6m{ob base:Nat}{w w':World}{A:ZA}{c:Nat}{xs:List RwP}(h:OR ob base w A c xs)(hb:Below w.heap.size w w'):OR ob base w' A c xs:=
 ⟨qdi h.1 hb,fun x hx=>Q3 (h.2 x hx) hb⟩
theorem qxw{base base2:Nat}{w w':World}{A B:ZA}{c d n:Nat}{vs:List Value}{r:List Int}(h:OI base w B d r)(k:w.ownsRow base2 27 1 (.slice A n c) n vs)(hg:w.grownBy w' (Value.slice A n c).ownBlock):OI base w' B d r:=by
 refine World.ownsRow.kept h hg ?_;rcases h.2 with⟨hv,_⟩|⟨g,cap,cur,hv,_,hh,_⟩
 ·exact .inl (by rw[hv];rfl)
 ·refine .inr ?_;rcases k.2 with⟨kv,_⟩|⟨g2,cap2,cur2,kv,_,kh,_⟩
  ·rw[hv,kv];simp[Value.ownBlock]
  ·rw[hv,kv];intro e;have:g=g2:=by simpa [Value.ownBlock] using e
   subst this;rw[hh] at kh;injection kh with kh
   injection kh with _ kt _
   revert kt
   decide
theorem q2c{ob base:Nat}{w:World}{A:ZA}{c:Nat}{xs:List RwP}(h:OR ob base w A c xs)(hl:0<xs.length): ∃b,A=some ⟨b,0,none⟩∧ob≤b∧b<w.heap.size:=by
 rcases h.1.2 with⟨_,h0⟩|⟨g,cap,cur,hv,hg,hh,_⟩
 ·omega
 ·injection hv with hA
  exact⟨g,hA,hg,(bl hh)⟩
theorem q2d{ob base:Nat}{w:World}{b c:Nat}{xs:List RwP}(h:OR ob base w (some ⟨b,0,none⟩) c xs)(k:Nat)(x:RwP)(hx:xs[k]? =some x):w.cell? ⟨b,k,none⟩=some (q5a x):=by
 have:=World.ownsRow.cells h.1 (g:=b) rfl k (q5a x) (by rw[Ycv,hx];rfl);rwa [qai] at this
theorem qoh(w:World){ops:Array Oper}{rest:List Oper}{o:Oper}{a:Act}{Q:Exit→Act→World→Prop}(hgd:o.guard=none)(s x:Operand)
  (ho:o.op=.call {callee:=.builtin .append,args:=#[s,x],argTypes:=#[195,195]})
  (ob ob2 base:Nat) (A:ZA) (l:List RwP) (c:Nat) (hs:a.eval s=.slice A l.length c) (hown:OR ob base w A c l)
  (b c1:Nat) (m:List RwP) (hx:a.eval x=.slice (some ⟨b,0,none⟩) m.length c1) (hm:OR ob2 base w (some ⟨b,0,none⟩) c1 m)
  (hl:l.length≤2000000) (hlm:m.length≤2000000) (hbase:ob≤w.heap.size)
  (h: ∀A' c' w',OR ob base w' A' c' (l++m)→Below ob w w'→wpList Tryz.prog ops Q rest (a.put o.dst (.slice A' (l.length+m.length) c')) w'):wpList Tryz.prog ops Q (o::rest) a w:=by
 obtain⟨i0,hi,hz0,hz1,hz2⟩:=Ybv q6l
 refine wpList_append_own w hgd s x 195 ho ob 27 i0 _ 1 24 Tryz.underlying195 hi hz0 hz1 hz2 rfl (by decide) (.slice A l.length c) l.length (l.map q5a) hs hown.1
  ⟨b,0,none⟩ m.length c1 (m.map q5a) hx (by simp) ?_ ?_ (by unfold maxLen;omega) (by omega) hbase ?_
 ·intro j u hj;rw[Ycv] at hj;obtain⟨y,hy,rfl⟩:=Option.map_eq_some_iff.1 hj;rw[qai];exact q2d hm j y hy
 ·intro u hu;obtain⟨y,_,rfl⟩:=List.mem_map.1 hu;rfl
 ·intro v' w' hown' hg _;obtain⟨A',c',rfl⟩:=qcx hown';refine h A' c' w' ⟨?_,fun y hy=>?_⟩ (qad hown.1 hg hbase)
  ·rw[Yaa,Ybg];exact hown'
  ·rcases Ybq.1 hy with hy|hy
   ·exact qxw (hown.2 y hy) hown.1 hg
   ·exact qxw (hm.2 y hy) hown.1 hg
theorem q4r(w:World)(ob base:Nat)(hb:ob≤w.heap.size):OR ob base (w.alloc (.cells #[] 27)) (some ⟨w.heap.size,0,none⟩) 0 []:=⟨qef w _ 1 ob hb,fun x hx=>by simp at hx⟩
theorem q7p(w:World)(ob base:Nat)(x:RwP)(hb:ob≤w.heap.size)(hx:OI base w x.1 x.2.2 x.2.1):OR ob base (w.alloc (.cells #[q5a x] 27)) (some ⟨w.heap.size,0,none⟩) 1 [x]:=
 ⟨⟨by simp,.inr ⟨w.heap.size,1,#[q5a x],rfl,hb,zha w _,zlr _,by unfold maxLen;simp,by simp,by simp⟩⟩,fun y hy=>by
  obtain rfl:y=x:=by simpa using hy
  exact Q4 hx _⟩
def q4s(base:Nat)(w:World)(ls:List (List Int))(e:Ending)(w':World):Prop:=
 ∃(A:ZA) (c:Nat) (xs:List RwP),e=.returned (.slice A xs.length c)∧OR w.heap.size base w' A c xs∧xs.map (fun x=>x.2.1)=ls∧Below w.heap.size w w'
theorem q5b{m k:Nat}(hm:m≤3)(hk:k≤5):m^k≤243:=zll (Nat.pow_le_pow_left hm k) (Nat.pow_le_pow_right (by omega) hk)
theorem qwi(m:Nat)(hm:m≤3): ∀(k:Nat),k≤5→ ∀(bs:List Int) (bb d n base:Nat) (w:World),bs.length+k=n→n≤5→OI base w (some ⟨bb,0,none⟩) d bs→base≤w.heap.size→
  Calls Tryz.prog 204 #[.slice (some ⟨bb,0,none⟩) bs.length d,.int .i64 (n:Int),.int .i64 (m:Int)] w (q4s base w (quc m k bs)):=by
 intro k;induction k with
 |zero=>
  intro hk bs bb d n base w hn hn5 h hb;have heq:((bs.length:Int)==(n:Int))=true:=by rw[Yef];omega
  have hO:=q7p w w.heap.size base (some ⟨bb,0,none⟩,bs,d) (zlr _) h;have HO:=zhi hO;clear hO;go_enter Tryz.func204,Tryz.ntmps204;go_wp2_with fail;go_ret;exact⟨_,1,[(some ⟨bb,0,none⟩,bs,d)],rfl,HO.out,rfl,bal br _⟩
 |succ k ih=>
  intro hk bs bb d n base w hn hn5 h hb;have heq:((bs.length:Int)==(n:Int))=false:=beq_eq_false_iff_ne.2 (by omega);have IH:=zhi (ih (by omega));have hpb:=q5b hm (show k≤5 by omega);have hbs5:bs.length≤5:=by omega
  clear ih;go_enter Tryz.func204,Tryz.ntmps204;go_wp2_with fail;go_loopw [7,8] (fun v i wr=> ∃(q:Nat) (A:ZA) (c:Nat) (xs:List RwP),i=.int .i64 (q:Int)∧v=.slice A xs.length c∧q≤m∧OR w.heap.size base wr A c xs∧Hid (xs.map (fun x=>x.2.1)=qhu m k bs q)∧Below w.heap.size w wr) (fun _ i _=>m-(intOf i).toNat)
  case atStart=>exact⟨0,_,0,[],rfl,rfl,by omega,q4r w w.heap.size base (zlr _),rfl,bal br _⟩
  case round=>
   obtain⟨q,A,c,xs,rfl,rfl,hq,hO,hxs,hbr⟩:=hrel
   have hxl:xs.length≤1000:=by
    have:=congrArg List.length hxs.out;rw[Ybh,qza] at this;rw[this];have:q*m^k≤3*243:=Ycu (by omega) hpb;omega
   by_cases hlt:(q:Int)<(m:Int)
   ·have hnx:Hid (qhu m k bs (q+1)=qhu m k bs q++quc m k (bs++[(q:Int)])):=qj5 m k bs q;have hbr0:base≤wr.heap.size:=zll hb hbr.size;have hI:=(Q3 h hbr).is
    go_wp2_with (first
     |(at_builtin;refine qhr _ rfl (.tmp 22) (.tmp 23) rfl wr.heap.size (some ⟨wr.heap.size,0,none⟩) [] 0 0 rfl rfl (Vh wr _ (zlr _)) ⟨bb,0,none⟩ bs.length d bs rfl rfl (hI.keep (bal br _)) (by simp) (by omega) (by simp) ?_;intro A1 c1 w1 o1 g1 b1;rw[Ycj] at o1;have B1:Below wr.heap.size wr w1:=(bal br _).trans b1)
     |(at_builtin;refine qfn _ rfl (.tmp 24) (.tmp 26) rfl wr.heap.size A1 bs _ c1 (by simp) rfl (Q4 o1 _) w1.heap.size 1 (q:Int) 3 rfl (zha w1 _) (by omega) (by have:=B1.size;simp;omega) ?_;intro A2 c2 w2 o2 g2 b2;have B2:Below wr.heap.size wr w2:=(bal B1 _).trans b2;obtain⟨b2',rfl,_,_⟩:=qdj o2 (by simp)))
    have hl1:(bs++[(q:Int)]).length=bs.length+1:=by simp
    have K:=IH.out (bs++[(q:Int)]) b2' c2 n base w2 (by rw[hl1];omega) hn5 (Ql o2 hbr0) (zll hbr0 B2.size);rw[hl1] at K;refine K.mono ?_;clear K;rintro e w3 ⟨A3,c3,ys,rfl,o3,hys,b3⟩;have B3:=Qa B2 b3;have hO3:=q6m hO B3
    have hyl:ys.length=m^k:=by
     have:=congrArg List.length hys;rwa [Ybh,qud] at this
    have hyp:0<m^k:=Nat.pow_pos (by omega);obtain⟨b3',rfl,_,_⟩:=q2c o3 (by rw[hyl];exact hyp);have hnx2:Hid ((xs++ys).map (fun x=>x.2.1)=qhu m k bs (q+1)):=by rw[Hid,Ybg,hxs.out,hys,hnx.out]
    have hyl2:ys.length≤243:=by omega
    clear hys hyl hyp hO o1 o2;go_wp2_with (at_builtin;refine qoh _ rfl _ _ rfl w.heap.size w2.heap.size base A xs c rfl hO3 b3' c3 ys rfl o3 (by omega) (by omega) (zll hbr.size B3.size) ?_;intro A4 c4 w4 o4 b4)
    go_roundw
    case rel=>exact⟨q+1,A4,c4,xs++ys,by go_num,by rw[Yaa],by omega,o4,hnx2,(Qa hbr B3).trans b4⟩
    case measure=>simp[intOf];omega
   ·obtain rfl:q=m:=by omega
    go_wp2_with fail;go_ret;exact⟨A,c,xs,rfl,hO,hxs.out,hbr⟩
theorem que(A:ZA)(l:List Tk)(c:Nat)(m p:Int)(w:World)(h:TS w A l)(hm:l.length≤maxLen)(_hlc:l.length≤c):
  Calls Tryz.prog 153 #[.slice A l.length c,.int .i64 m,.int .i64 p] w (qx6 w (qqq l m p) (qhm l m p).isSome):=by
 cases hS:Qe l with
 |false=>
  have hv:qhm l m p=none:=by simp[qhm,hS]
  have hv2:qqq l m p=[]:=by simp[qqq,hv]
  rw[hv,hv2];clear hv hv2;go_enter Tryz.func153,Tryz.ntmps153;go_wp2_with fail;refine(Qd A l c _ h hm).mono ?_;rw[hS];rintro e w1 ⟨rfl,b1⟩;go_wp2_with fail;go_ret2;exact⟨_,0,rfl,Vh _ _ b1.size,bal b1 _⟩
 |true=>
  have hl5:=(Qj hS).1;have HS:=zhi hS;cases hn:qzm m with
  |false=>
   have hv:qhm l m p=none:=by
    have:qg6 m=false:=hn;simp[qhm,this]
   have hv2:qqq l m p=[]:=by simp[qqq,hv]
   rw[hv,hv2];clear hv hv2 hS;go_enter Tryz.func153,Tryz.ntmps153;go_wp2_with fail;refine(Qd A l c _ h hm).mono ?_;rw[HS.out];rintro e w1 ⟨rfl,b1⟩;go_wp2_with fail;refine(qbb m _).mono ?_;rw[hn];rintro e w2 ⟨rfl,rfl⟩;go_wp2_with fail;go_ret2;exact⟨_,0,rfl,Vh _ _ b1.size,bal b1 _⟩
  |true=>
   have h13:1≤m∧m≤3:=by simpa [qzm] using hn
   obtain⟨h1m,h3m⟩:=h13;obtain⟨M,rfl⟩: ∃M:Nat,m=(M:Int):=⟨m.toNat,(Yay (by omega)).symm⟩;obtain⟨R,hR⟩: ∃R,qbc (fun k=>pkH l (way M l.length k) (M:Int) p) (M^l.length-0) 0=R:=⟨_,rfl⟩
   have hany:qhm l (M:Int) p=R.map (way M l.length):=by
    have:qg6 (M:Int)=true:=hn;simp only[qhm,hS,this,Bool.and_self,if_true,q72,Yam];rw[Yds] at hR;rw[hR]
   have HA:=zhi hany;have HR:=zhi hR;have HN:=zhi hn;have hwe:=zhi (q4q M (by omega) l.length (by omega));clear hS hany hR hn;go_enter Tryz.func153,Tryz.ntmps153;go_wp2_with fail;refine(Qd A l c _ h hm).mono ?_;rw[HS.out];rintro e w1 ⟨rfl,b1⟩;go_wp2_with fail;refine(qbb (M:Int) _).mono ?_;rw[HN.out];rintro e w2 ⟨rfl,rfl⟩;go_wp2_with fail;refine(qwi M (by omega) l.length (by omega) [] w1.heap.size 0 l.length w1.heap.size _ (by simp) (by omega) (Vh w1 _ (zlr _)) (by simp)).mono ?_;rintro e w3 ⟨A3,c3,xs,rfl,o3,hxs,b3⟩;rw[hwe.out] at hxs
   have hxl:xs.length=M^l.length:=by
    have:=congrArg List.length hxs;simpa using this
   have hpb:=q5b (show M≤3 by omega) (show l.length≤5 by omega);have B3:Below w.heap.size w w3:=Qa (bal b1 _) b3
   have hxk:Hid (∀k,(hk:k<xs.length)→xs[k].2.1=way M l.length k):=by
    intro k hk;have h1:(xs.map (fun x=>x.2.1))[k]? =some xs[k].2.1:=by simp[hk]
    rw[hxs] at h1;have hk2:k<M^l.length:=by omega
    simpa [hk2] using h1.symm
   have HXL:=zhi hxl;have hx243:xs.length≤243:=by omega
   clear hxs hxl hpb;go_wp2_with fail;go_loopw [9] (fun i wr=> ∃k:Nat,i=.int .i64 (k:Int)∧k≤xs.length∧Hid (qbc (fun k=>pkH l (way M l.length k) (M:Int) p) (M^l.length-k) k=R)∧Below w3.heap.size w3 wr) (fun i _=>xs.length-(intOf i).toNat)
   case atStart=>exact⟨0,rfl,by omega,HR.out,br⟩
   case round=>
    obtain⟨k,rfl,hk,hfk,hbr⟩:=hrel;have hB:=Qa B3 hbr;by_cases hlt:k<xs.length
    ·obtain⟨b,rfl,_,hbl⟩:=q2c o3 (by omega);have hst:=qd3 (fun k=>pkH l (way M l.length k) (M:Int) p) (M^l.length) k (by rw[←HXL.out];exact hlt);have kc:=q2d o3 k xs[k] (Ybb hlt);have hOk:=o3.2 xs[k] (Yao hlt);have hwk:=hxk.out k hlt;have kc:=(hbr.cell (p:=⟨b,k,none⟩) hbl).trans kc;have hOk:=Q3 hOk hbr;generalize xs[k]=x at kc hOk hwk;obtain⟨Bk,W,dk⟩:=x;simp only at hOk hwk;subst hwk;simp only[q5a] at kc;have K:=qpk A Bk l (way M l.length k) c dk (M:Int) p wr (h.keep hB) hOk.is hm;cases hp:pkH l (way M l.length k) (M:Int) p with
     |true=>
      rw[hp] at K;have hRk:R=some k:=by rw[←hfk.out,hst,hp];rfl
      have hr1:qhm l (M:Int) p=some (way M l.length k):=by rw[HA.out,hRk];rfl
      have hr2:Hid (qqq l (M:Int) p=way M l.length k∧(qhm l (M:Int) p).isSome=true):=by simp[Hid,qqq,hr1]
      clear hst hp hRk hr1;go_wp2_with fail;refine K.mono ?_;rintro e w4 ⟨rfl,b4⟩;have kc:=(b4.cell (p:=⟨b,k,none⟩) (zlt hbl hbr.size)).trans kc;go_wp2_with fail;go_ret2;rw[hr2.out.1,hr2.out.2];exact⟨Bk,dk,rfl,Ql (Q3 hOk b4) b1.size,Qa hB b4⟩
     |false=>
      rw[hp] at K
      have hnx:Hid (qbc (fun k=>pkH l (way M l.length k) (M:Int) p) (M^l.length-(k+1)) (k+1)=R):=by
       rw[Hid,←hfk.out,hst,hp];rfl
      clear hst hp hfk;go_wp2_with fail;refine K.mono ?_;rintro e w4 ⟨rfl,b4⟩;go_wp2_with fail;go_roundw
      case rel=>exact⟨k+1,by go_num,by omega,hnx,Qa hbr b4⟩
      case measure=>simp[intOf];omega
    ·have hRn:R=none:=by
      have:M^l.length-k=0:=by rw[←HXL.out];omega
      rw[←hfk.out,this];rfl
     have hr2:Hid (qqq l (M:Int) p=[]∧(qhm l (M:Int) p).isSome=false):=by
      have e:qhm l (M:Int) p=none:=by rw[HA.out,hRn];rfl
      simp[Hid,qqq,e]
     clear hRn;go_wp2_with fail;go_ret2;rw[hr2.out.1,hr2.out.2];exact⟨_,0,rfl,Vh _ _ hB.size,bal hB _⟩
theorem q2e{l:List Tk}{p k:Int}(h1:1≤k)(h3:k≤3)(h:(qhm l k p).isSome=true)(hb: ∀j:Int,1≤j→j<k→(qhm l j p).isSome=false):qru l p=some k:=by
 have hk:k=1∨k=2∨k=3:=by omega
 rcases hk with rfl|rfl|rfl
 ·simp[qru,h]
 ·simp[qru,h,hb 1 (by omega) (by omega)]
 ·simp[qru,h,hb 1 (by omega) (by omega),hb 2 (by omega) (by omega)]
theorem qxx{l:List Tk}{p:Int}(hb: ∀j:Int,1≤j→j≤3→(qhm l j p).isSome=false):qru l p=none:=by
 simp[qru,hb 1 (by omega) (by omega),hb 2 (by omega) (by omega),hb 3 (by omega) (by omega)]
theorem qjh(A:ZA)(l:List Tk)(c:Nat)(p:Int)(w:World)(h:TS w A l)(hm:l.length≤maxLen)(hlc:l.length≤c):
  Calls Tryz.prog 129 #[.slice A l.length c,.int .i64 p] w fun e w'=>e=.returned (qes (qru l p))∧Below w.heap.size w w':=by
 obtain⟨R,hR⟩: ∃R,qru l p=R:=⟨_,rfl⟩;rw[hR];have HR:=zhi hR;clear hR;go_enter Tryz.func129,Tryz.ntmps129;go_wp2_with fail;go_loopw [6] (fun i wr=> ∃k:Nat,i=.int .i64 (k:Int)∧1≤k∧k≤4∧Hid (∀j:Int,1≤j→j<(k:Int)→(qhm l j p).isSome=false)∧Below w.heap.size w wr) (fun i _=>4-(intOf i).toNat)
 case atStart=>exact⟨1,rfl,by omega,by omega,fun j h1 h2=>by omega,br⟩
 case round=>
  obtain⟨k,rfl,hk1,hk4,hall,hb⟩:=hrel;by_cases hlt:(k:Int)≤3
  ·have K:=qub A l c (k:Int) p wr (h.keep hb) hm hlc;obtain⟨wm,hwm⟩: ∃wm,qqq l (k:Int) p=wm:=⟨_,rfl⟩;cases hk:(qhm l (k:Int) p).isSome with
   |true=>
    have hf:Hid (R=some (k:Int)):=by rw[Hid,←HR.out];exact q2e (by omega) hlt hk (fun j h1 h2=>hall.out j h1 h2)
    rw[hk,hwm] at K;clear hk hwm;go_wp2_with fail;refine K.mono ?_;rintro e w2 ⟨A2,c2,rfl,o2,b2⟩;go_wp2_with fail;go_ret2;exact⟨by rw[hf.out];rfl,Qa hb b2⟩
   |false=>
    have hnx:Hid (∀j:Int,1≤j→j<((k+1:Nat):Int)→(qhm l j p).isSome=false):=by
     intro j h1 h2;by_cases e:j=(k:Int)
     ·subst e;exact hk
     ·exact hall.out j h1 (by omega)
    rw[hk,hwm] at K;clear hk hwm;go_wp2_with fail;refine K.mono ?_;rintro e w2 ⟨A2,c2,rfl,o2,b2⟩;go_wp2_with fail;go_roundw
    case rel=>exact⟨k+1,by go_num,by omega,by omega,hnx,Qa hb b2⟩
    case measure=>simp[intOf];omega
  ·have hf:Hid (R=none):=by rw[Hid,←HR.out];exact qxx (fun j h1 h2=>hall.out j h1 (by omega))
   go_wp2_with fail;go_ret2;exact⟨by rw[hf.out];rfl,hb⟩
theorem qpo(A:ZA)(l:List Tk)(c:Nat)(p:Int)(w:World)(h:TS w A l)(hm:l.length≤maxLen)(hlc:l.length≤c):
  Calls Tryz.prog 90 #[.slice A l.length c,.int .i64 p] w fun e w'=>e=.returned (qes (qru l p))∧Below w.heap.size w w':=by
 obtain⟨R,hR⟩: ∃R,qru l p=R:=⟨_,rfl⟩;rw[hR];have HR:=zhi hR;clear hR;go_enter Tryz.func90,Tryz.ntmps90;go_wp2_with fail;go_loopw [6] (fun i wr=> ∃k:Nat,i=.int .i64 (k:Int)∧1≤k∧k≤4∧Hid (∀j:Int,1≤j→j<(k:Int)→(qhm l j p).isSome=false)∧Below w.heap.size w wr) (fun i _=>4-(intOf i).toNat)
 case atStart=>exact⟨1,rfl,by omega,by omega,fun j h1 h2=>by omega,br⟩
 case round=>
  obtain⟨k,rfl,hk1,hk4,hall,hb⟩:=hrel;by_cases hlt:(k:Int)≤3
  ·have K:=que A l c (k:Int) p wr (h.keep hb) hm hlc;obtain⟨wm,hwm⟩: ∃wm,qqq l (k:Int) p=wm:=⟨_,rfl⟩;cases hk:(qhm l (k:Int) p).isSome with
   |true=>
    have hf:Hid (R=some (k:Int)):=by rw[Hid,←HR.out];exact q2e (by omega) hlt hk (fun j h1 h2=>hall.out j h1 h2)
    rw[hk,hwm] at K;clear hk hwm;go_wp2_with fail;refine K.mono ?_;rintro e w2 ⟨A2,c2,rfl,o2,b2⟩;go_wp2_with fail;go_ret2;exact⟨by rw[hf.out];rfl,Qa hb b2⟩
   |false=>
    have hnx:Hid (∀j:Int,1≤j→j<((k+1:Nat):Int)→(qhm l j p).isSome=false):=by
     intro j h1 h2;by_cases e:j=(k:Int)
     ·subst e;exact hk
     ·exact hall.out j h1 (by omega)
    rw[hk,hwm] at K;clear hk hwm;go_wp2_with fail;refine K.mono ?_;rintro e w2 ⟨A2,c2,rfl,o2,b2⟩;go_wp2_with fail;go_roundw
    case rel=>exact⟨k+1,by go_num,by omega,by omega,hnx,Qa hb b2⟩
    case measure=>simp[intOf];omega
  ·have hf:Hid (R=none):=by rw[Hid,←HR.out];exact qxx (fun j h1 h2=>hall.out j h1 (by omega))
   go_wp2_with fail;go_ret2;exact⟨by rw[hf.out];rfl,hb⟩
def q4t(s:Ss):Ss×List UInt8:=(s,(Va s.l++[10])++(Vf s.js++[10]))
theorem qr6(s:Ss)(A:ZA)(c:Nat)(J:ZA)(d:Nat)(w:World)(h:TS w A s.l)(g:JS w J s.js)(hA:(A=none→c=0)∧s.l.length≤c)(hlm:s.l.length≤5)(hjm:s.js.length≤60):
  Calls Tryz.prog 46 #[sV s A c J d,.string ⟨([115,104,111,119]:List UInt8).toArray⟩] w (qbr (q4t s) w):=by
 have HA:=zhi hA;clear hA;obtain⟨gb,r,hgb,hrE,hr0,hg1,B0,hgw,hgw0,hgr⟩:=qnz w (sC s A c J d) (ssC none 0 0 none 0 0 0);go_enter Tryz.func46,Tryz.ntmps46;go_upto_region 1 with fail;generalize World.alloc (World.alloc w _) _=w0 at hr0 hg1 B0⊢;try simp only[hgb,hrE]
 clear hgb hrE;have HE:Hid (q4t s=(s,Va s.l++10::(Vf s.js++[10]))):=by simp[Hid,q4t]
 have hfl:=qcq s.l;have hjl:=qfc s.js;obtain⟨x0,x1,x2⟩:=Qb hg1;go_upto_region 3 with fail;clear x0 x1 x2;refine wp_region_held (S:=fun w'=>w'.heap[gb]? =some (sC s A c J d)) (by kernel_rfl) ?_;change wpAnyH _ _ _ _ _ _ _ _ (World.drew _);have K0:Below w.heap.size w (World.drew w0):=zdr B0;have hS0:(World.drew w0).heap[gb]? =some (sC s A c J d):=hg1;have hR0:(World.drew w0).heap[r]? =some (ssC none 0 0 none 0 0 0):=hr0;generalize World.drew w0=v0 at K0 hS0 hR0⊢;refine tq 0 15 (sV s A c J d) rfl (fun w hS=>by obtain⟨x0,x1,x2⟩:=Qb hS;go_simp) hS0 ?_;refine tq 1 16 (.pointer (some ⟨gb,0,none⟩)) rfl (fun w _=>by go_simp) hS0 ?_;refine tq 2 17 (.slice A s.l.length c) rfl (fun w hS=>by obtain⟨x0,x1,x2⟩:=Qb hS;go_simp) hS0 ?_;refine tq 5 20 (.pointer (some ⟨gb,1,none⟩)) rfl (fun w _=>by go_simp) hS0 ?_;refine tq 6 21 (.slice J s.js.length d) rfl (fun w hS=>by obtain⟨x0,x1,x2⟩:=Qb hS;go_simp) hS0 ?_;refine tw 3 ?_;refine co 3 18 rfl 48 Tryz.func48 #[.slice A s.l.length c] (qcr A s.l c _ (h.keep K0) (by omega)) ?_;rintro e v1 ⟨rfl,bz1⟩;have K1:=Qa K0 bz1;have hS1:=bh bz1 hS0;have hR1:=bh bz1 hR0;refine⟨_,rfl,hS1,?_⟩;simp only[lsS,lsZ];refine tq 4 19 (.string ⟨(Va s.l++[10]).toArray⟩) rfl (fun w _=>by go_simp;rw[Yaq (by simp;omega)];simp[Qn]) hS1 ?_;refine tw 7 ?_;refine co 7 22 rfl 81 Tryz.func81 #[.slice J s.js.length d] (qii J s.js d _ (g.keep K1) (by omega)) ?_;rintro e v2 ⟨rfl,bz2⟩;have K2:=Qa K1 bz2;have hS2:=bh bz2 hS1;have hR2:=bh bz2 hR1;refine⟨_,rfl,hS2,?_⟩;simp only[lsS,lsZ];refine tq 8 23 (.string ⟨(Va s.l++10::Vf s.js).toArray⟩) rfl (fun w _=>by go_simp;rw[Yaq (by simp;omega)];simp[Qn]) hS2 ?_;refine tq 9 24 (.string ⟨(Va s.l++10::(Vf s.js++[10])).toArray⟩) rfl (fun w _=>by go_simp;rw[Yaq (by simp;omega)];simp[Qn]) hS2 ?_;refine tw 10 ?_;refine Vt 10 rfl (by rfl) ?_;intro K hK;obtain⟨z0,z1,z2⟩:=Qb hR2;have zf:=fun i=>zfz hR2 i
 have BF:=bst (bst (bst K2 (p:=⟨r,0,none⟩) hgw (.slice A s.l.length c)) (p:=⟨r,1,none⟩) hgw (.slice J s.js.length d)) (p:=⟨r,2,none⟩) hgw (.int .i64 s.pol);have hS9:=hS2;rw[←Yab _ ⟨r,0,none⟩ gb (.slice A s.l.length c) hgr,←Yab _ ⟨r,1,none⟩ gb (.slice J s.js.length d) hgr,←Yab _ ⟨r,2,none⟩ gb (.int .i64 s.pol) hgr] at hS9;go_simp
 refine hK _ hS9 ?_;clear hK;refine tq 11 5 (.string ⟨(Va s.l++10::(Vf s.js++[10])).toArray⟩) rfl (fun _ _=>rfl) hS9 ?_;refine wpAnyH_done (by kernel_rfl) ?_ _;have hF:=h.keep BF;have gF:=g.keep BF;go_wp2_with fail;refine bodyPost_ret (v:=.tuple #[sV s A c J d,.string ⟨(Va s.l++10::(Vf s.js++[10])).toArray⟩]) (by simp[results,Tryz.results46,go_sem,z0,z1,z2]) rfl (by rw[HE.out];exact⟨A,c,J,d,rfl,HA.out,hF,gF,BF⟩)
def qwj(s:Ss):Ss×List UInt8:=(⟨s.l,s.js,0⟩,okT)
theorem qoi(s:Ss)(A:ZA)(c:Nat)(J:ZA)(d:Nat)(w:World)(h:TS w A s.l)(g:JS w J s.js)(hA:(A=none→c=0)∧s.l.length≤c):
  Calls Tryz.prog 46 #[sV s A c J d,.string ⟨([112,108,97,99,101,115]:List UInt8).toArray⟩] w (qbr (qwj s) w):=by
 have HA:=zhi hA;clear hA;obtain⟨gb,r,hgb,hrE,hr0,hg1,B0,hgw,hgw0,hgr⟩:=qnz w (sC s A c J d) (ssC none 0 0 none 0 0 0);go_enter Tryz.func46,Tryz.ntmps46;go_upto_region 1 with fail;generalize World.alloc (World.alloc w _) _=w0 at hr0 hg1 B0⊢;try simp only[hgb,hrE]
 clear hgb hrE;have HE:Hid (qwj s=(⟨s.l,s.js,0⟩,okT)):=rfl;obtain⟨x0,x1,x2⟩:=Qb hg1;have xf:=fun i=>zfz hg1 i
 have gS:(w0.setCell ⟨gb,2,none⟩ (.int .i64 0)).heap[gb]? =some (ssC A s.l.length c J s.js.length d 0):=qa5 hg1 (i:=2) _;have rS:(w0.setCell ⟨gb,2,none⟩ (.int .i64 0)).heap[r]? =some (ssC none 0 0 none 0 0 0):=by rw[Yab _ _ _ _ hgr.symm];exact hr0
 have BS:=bst B0 (p:=⟨gb,2,none⟩) hgw0 (.int .i64 0);go_upto_region 6 with fail;generalize World.setCell w0 _ _=w4 at gS rS BS⊢;clear x0 x1 x2 xf;obtain⟨x0,x1,x2⟩:=Qb gS;obtain⟨z0,z1,z2⟩:=Qb rS;have zf:=fun i=>zfz rS i
 have BF:=bst (bst (bst BS (p:=⟨r,0,none⟩) hgw (.slice A s.l.length c)) (p:=⟨r,1,none⟩) hgw (.slice J s.js.length d)) (p:=⟨r,2,none⟩) hgw (.int .i64 0);have hF:=h.keep BF;have gF:=g.keep BF;go_wp2_with fail;refine bodyPost_ret (v:=.tuple #[ssV A s.l.length c J s.js.length d 0,.string ⟨okT.toArray⟩]) (by simp[results,Tryz.results46,go_sem,z0,z1,z2];rfl) rfl (by rw[HE.out];exact⟨A,c,J,d,rfl,HA.out,hF,gF,BF⟩)
def qlw(s:Ss):Ss×List UInt8:=(⟨s.l,s.js,1⟩,okT)
theorem qk3(s:Ss)(A:ZA)(c:Nat)(J:ZA)(d:Nat)(w:World)(h:TS w A s.l)(g:JS w J s.js)(hA:(A=none→c=0)∧s.l.length≤c):
  Calls Tryz.prog 46 #[sV s A c J d,.string ⟨([100,101,97,100,108,105,110,101,115]:List UInt8).toArray⟩] w (qbr (qlw s) w):=by
 have HA:=zhi hA;clear hA;obtain⟨gb,r,hgb,hrE,hr0,hg1,B0,hgw,hgw0,hgr⟩:=qnz w (sC s A c J d) (ssC none 0 0 none 0 0 0);go_enter Tryz.func46,Tryz.ntmps46;go_upto_region 1 with fail;generalize World.alloc (World.alloc w _) _=w0 at hr0 hg1 B0⊢;try simp only[hgb,hrE]
 clear hgb hrE;have HE:Hid (qlw s=(⟨s.l,s.js,1⟩,okT)):=rfl;obtain⟨x0,x1,x2⟩:=Qb hg1;have xf:=fun i=>zfz hg1 i
 have gS:(w0.setCell ⟨gb,2,none⟩ (.int .i64 1)).heap[gb]? =some (ssC A s.l.length c J s.js.length d 1):=qa5 hg1 (i:=2) _;have rS:(w0.setCell ⟨gb,2,none⟩ (.int .i64 1)).heap[r]? =some (ssC none 0 0 none 0 0 0):=by rw[Yab _ _ _ _ hgr.symm];exact hr0
 have BS:=bst B0 (p:=⟨gb,2,none⟩) hgw0 (.int .i64 1);go_upto_region 9 with fail;generalize World.setCell w0 _ _=w4 at gS rS BS⊢;clear x0 x1 x2 xf;obtain⟨x0,x1,x2⟩:=Qb gS;obtain⟨z0,z1,z2⟩:=Qb rS;have zf:=fun i=>zfz rS i
 have BF:=bst (bst (bst BS (p:=⟨r,0,none⟩) hgw (.slice A s.l.length c)) (p:=⟨r,1,none⟩) hgw (.slice J s.js.length d)) (p:=⟨r,2,none⟩) hgw (.int .i64 1);have hF:=h.keep BF;have gF:=g.keep BF;go_wp2_with fail;refine bodyPost_ret (v:=.tuple #[ssV A s.l.length c J s.js.length d 1,.string ⟨okT.toArray⟩]) (by simp[results,Tryz.results46,go_sem,z0,z1,z2];rfl) rfl (by rw[HE.out];exact⟨A,c,J,d,rfl,HA.out,hF,gF,BF⟩)
def q6n(s:Ss):Ss×List UInt8:=qdc s (qfv s.l)
theorem qr7(s:Ss)(A:ZA)(c:Nat)(J:ZA)(d:Nat)(w:World)(h:TS w A s.l)(_g:JS w J s.js)(hA:(A=none→c=0)∧s.l.length≤c)(hlm:s.l.length≤5):
  Calls Tryz.prog 46 #[sV s A c J d,.string ⟨([115,111,114,116]:List UInt8).toArray⟩] w (qbr (q6n s) w):=by
 have HA:=zhi hA;clear hA;obtain⟨gb,r,hgb,hrE,hr0,hg1,B0,hgw,hgw0,hgr⟩:=qnz w (sC s A c J d) (ssC none 0 0 none 0 0 0);go_enter Tryz.func46,Tryz.ntmps46;go_upto_region 1 with fail;generalize World.alloc (World.alloc w _) _=w0 at hr0 hg1 B0⊢;try simp only[hgb,hrE]
 clear hgb hrE
 have hl3:(qfv s.l).length≤1000000:=by
  unfold qfv;split
  ·rw[qel];omega
  ·simp
 have HE:Hid (q6n s=qdc s (qfv s.l)):=rfl;have KS:=fun v h=>qmj A s.l c v h (by unfold maxLen;omega)
 generalize qfv s.l=L3 at hl3 HE KS;obtain⟨x0,x1,x2⟩:=Qb hg1;go_upto_region 11 with fail;clear x0 x1 x2;have hrl:=(bl hr0);refine wp_region_held (S:=fun w'=>w'.heap[gb]? =some (sC s A c J d)) (by kernel_rfl) ?_;change wpAnyH _ _ _ _ _ _ _ _ (World.drew _);have K0:Below w.heap.size w (World.drew w0):=zdr B0;have hS0:(World.drew w0).heap[gb]? =some (sC s A c J d):=hg1;have hR0:(World.drew w0).heap[r]? =some (ssC none 0 0 none 0 0 0):=hr0;generalize World.drew w0=v0 at K0 hS0 hR0⊢;have hv0:r<v0.heap.size:=(bl hR0);refine tq 0 35 (sV s A c J d) rfl (fun w hS=>by obtain⟨x0,x1,x2⟩:=Qb hS;go_simp) hS0 ?_;refine tq 1 36 (.pointer (some ⟨gb,0,none⟩)) rfl (fun w _=>by go_simp) hS0 ?_;refine tq 2 37 (.slice A s.l.length c) rfl (fun w hS=>by obtain⟨x0,x1,x2⟩:=Qb hS;go_simp) hS0 ?_;refine tw 3 ?_;refine co 3 38 rfl 49 Tryz.func49 #[.slice A s.l.length c] (KS _ (h.keep K0)) ?_;rintro e v1 ⟨A3,c3,rfl,o1,bz1⟩;have K1:=Qa K0 bz1;have hS1:=bh bz1 hS0;have hR1:=bh bz1 hR0;refine⟨_,rfl,hS1,?_⟩;simp only[lsS,lsZ];refine tw 4 ?_;refine co 4 39 rfl 82 Tryz.func82 #[sV s A c J d,.slice A3 L3.length c3,.bool true] (qa0 A s.l.length c J s.js.length d s.pol A3 L3 c3 _ o1.ts hl3) ?_;rintro e v2 ⟨J',rfl,bz2⟩;have O4:=Q5 o1 bz2;have HC:=zhi (qqw O4);have K2:=Qa K1 bz2;have hS2:=bh bz2 hS1;have hR2:=bh bz2 hR1;refine⟨_,rfl,hS2,?_⟩;simp only[lsS,lsZ];refine tq 5 40 (ssV A3 L3.length c3 J' 0 0 s.pol) rfl (fun w _=>by go_simp) hS2 ?_;refine tq 6 41 (.string ⟨(Va L3++[10]).toArray⟩) rfl (fun w _=>by go_simp) hS2 ?_;refine tw 7 ?_;refine Vt 7 rfl (by rfl) ?_;intro K hK;obtain⟨z0,z1,z2⟩:=Qb hR2;have zf:=fun i=>zfz hR2 i
 have BF:=bst (bst (bst K2 (p:=⟨r,0,none⟩) hgw (.slice A3 (L3).length c3)) (p:=⟨r,1,none⟩) hgw (.slice J' 0 0)) (p:=⟨r,2,none⟩) hgw (.int .i64 s.pol);have hS9:=hS2;rw[←Yab _ ⟨r,0,none⟩ gb (.slice A3 (L3).length c3) hgr,←Yab _ ⟨r,1,none⟩ gb (.slice J' 0 0) hgr,←Yab _ ⟨r,2,none⟩ gb (.int .i64 s.pol) hgr] at hS9;go_simp
 refine hK _ hS9 ?_;clear hK;refine tq 8 5 (.string ⟨(Va (L3)++[10]).toArray⟩) rfl (fun _ _=>rfl) hS9 ?_;refine wpAnyH_done (by kernel_rfl) ?_ _
 have hT:=qoc O4 (w':=((v2.setCell ⟨r,0,none⟩ (.slice A3 (L3).length c3)).setCell ⟨r,1,none⟩ (.slice J' 0 0)).setCell ⟨r,2,none⟩ (.int .i64 s.pol)) (by simp) (by
  intro b hb;rw[Yab _ _ _ _ (by show b≠r;omega),Yab _ _ _ _ (by show b≠r;omega),Yab _ _ _ _ (by show b≠r;omega)])
 go_wp2_with fail;refine bodyPost_ret (v:=.tuple #[ssV A3 (L3).length c3 J' 0 0 s.pol,.string ⟨(Va (L3)++[10]).toArray⟩]) (by simp[results,Tryz.results46,go_sem,z0,z1,z2]) rfl (by rw[HE.out];exact⟨A3,c3,J',0,rfl,HC.out,hT,qoa _ _,BF⟩)
def qlx(s:Ss):Ss×List UInt8:=match Ve s.l with
 |some o=>qdc s (qb5 s.l o)
 |none=>(s,noT)
theorem qoj(s:Ss)(A:ZA)(c:Nat)(J:ZA)(d:Nat)(w:World)(h:TS w A s.l)(g:JS w J s.js)(hA:(A=none→c=0)∧s.l.length≤c)(hlm:s.l.length≤5):
  Calls Tryz.prog 46 #[sV s A c J d,.string ⟨([97,115,115,105,103,110]:List UInt8).toArray⟩] w (qbr (qlx s) w):=by
 have HA:=zhi hA;clear hA;obtain⟨gb,r,hgb,hrE,hr0,hg1,B0,hgw,hgw0,hgr⟩:=qnz w (sC s A c J d) (ssC none 0 0 none 0 0 0);go_enter Tryz.func46,Tryz.ntmps46;go_upto_region 1 with fail;generalize World.alloc (World.alloc w _) _=w0 at hr0 hg1 B0⊢;try simp only[hgb,hrE]
 clear hgb hrE;obtain⟨x0,x1,x2⟩:=Qb hg1;have K:Calls Tryz.prog _ _ w0 _:=qc3 A s.l c w0 (h.keep B0) (by unfold maxLen;omega);cases ho:Ve s.l with
 |none=>
  have HE:Hid (qlx s=(s,noT)):=by simp[Hid,qlx,ho]
  have e1:(Ve s.l).isSome=false:=by simp[ho]
  rw[e1] at K;go_wp2_with fail;refine K.mono ?_;rintro e w3 ⟨A3,c3,rfl,o3,b3⟩;clear ho K e1;have rM:=bh b3 hr0;have gM:=bh b3 hg1;have B2:=Qa B0 b3;clear x0 x1 x2;obtain⟨x0,x1,x2⟩:=Qb gM;obtain⟨z0,z1,z2⟩:=Qb rM;have zf:=fun i=>zfz rM i
  have BF:=bst (bst (bst B2 (p:=⟨r,0,none⟩) hgw (.slice A s.l.length c)) (p:=⟨r,1,none⟩) hgw (.slice J s.js.length d)) (p:=⟨r,2,none⟩) hgw (.int .i64 s.pol);have hF:=h.keep BF;have gF:=g.keep BF;go_wp2_with fail;refine bodyPost_ret (v:=.tuple #[sV s A c J d,.string ⟨(noT).toArray⟩]) (by simp[results,Tryz.results46,go_sem,z0,z1,z2];rfl) rfl (by rw[HE.out];exact⟨A,c,J,d,rfl,HA.out,hF,gF,BF⟩)
 |some o=>
  have HE:Hid (qlx s=qdc s (qb5 s.l o)):=by simp[Hid,qlx,ho]
  have e1:(Ve s.l).isSome=true:=by simp[ho]
  have e2:qmd s.l=Vv o:=by simp[qmd,ho]
  obtain⟨g1,g2,_⟩:=qdw ho;have hol:o.length=s.l.length:=by have:=g2.length_eq;simpa using this
  have ho5:o.length≤5:=by omega
  have hx: ∀x∈o,x<s.l.length:=fun x hx=>Ybu.1 ((g2.mem_iff).1 hx)
  have hpl:(qb5 s.l o).length≤1000000:=by unfold qb5;rw[Ybh];omega
  rw[e1,e2] at K;clear hol;go_wp2_with fail;refine K.mono ?_;rintro e w3 ⟨A2,c2,he,o2,b3⟩;rw[Qh] at he;subst he;have KP:=fun v h g=>qlh A A2 s.l o c c2 v h g hx (by omega) (by omega)
  clear ho K e1 e2 g1 g2 hx;generalize qb5 s.l o=L3 at hpl HE KP;have rM:=bh b3 hr0;have gM:=bh b3 hg1;have B2:=Qa B0 b3;clear x0 x1 x2;obtain⟨x0,x1,x2⟩:=Qb gM;go_upto_region 16 with fail;clear x0 x1 x2;have hrl:=(bl rM);refine wp_region_held (S:=fun w'=>w'.heap[gb]? =some (sC s A c J d)) (by kernel_rfl) ?_;change wpAnyH _ _ _ _ _ _ _ _ (World.drew _);have K0:Below w.heap.size w (World.drew w3):=zdr B2;have hS0:(World.drew w3).heap[gb]? =some (sC s A c J d):=gM;have hR0:(World.drew w3).heap[r]? =some (ssC none 0 0 none 0 0 0):=rM;have o4:=(qv7 o2).keep (zdr (Below.refl w3.heap.size w3));generalize World.drew w3=v0 at K0 hS0 hR0 o4⊢;have hv0:r<v0.heap.size:=(bl hR0);refine tq 0 53 (sV s A c J d) rfl (fun w hS=>by obtain⟨x0,x1,x2⟩:=Qb hS;go_simp) hS0 ?_;refine tq 1 54 (.pointer (some ⟨gb,0,none⟩)) rfl (fun w _=>by go_simp) hS0 ?_;refine tq 2 55 (.slice A s.l.length c) rfl (fun w hS=>by obtain⟨x0,x1,x2⟩:=Qb hS;go_simp) hS0 ?_;refine tq 3 56 (.slice A2 o.length c2) rfl (fun _ _=>rfl) hS0 ?_;refine tw 4 ?_;refine co 4 57 rfl 84 Tryz.func84 #[.slice A s.l.length c,.slice A2 o.length c2] (KP _ (h.keep K0) o4) ?_;rintro e v1 ⟨A3,c3,rfl,o1,bz1⟩;have K1:=Qa K0 bz1;have hS1:=bh bz1 hS0;have hR1:=bh bz1 hR0;refine⟨_,rfl,hS1,?_⟩;simp only[lsS,lsZ];refine tw 5 ?_;refine co 5 58 rfl 82 Tryz.func82 #[sV s A c J d,.slice A3 L3.length c3,.bool true] (qa0 A s.l.length c J s.js.length d s.pol A3 L3 c3 _ o1.ts hpl) ?_;rintro e v2 ⟨J',rfl,bz2⟩;have O4:=Q5 o1 bz2;have HC:=zhi (qqw O4);have K2:=Qa K1 bz2;have hS2:=bh bz2 hS1;have hR2:=bh bz2 hR1;refine⟨_,rfl,hS2,?_⟩;simp only[lsS,lsZ];refine tq 6 59 (ssV A3 L3.length c3 J' 0 0 s.pol) rfl (fun w _=>by go_simp) hS2 ?_;refine tq 7 60 (.string ⟨(Va L3++[10]).toArray⟩) rfl (fun w _=>by go_simp) hS2 ?_;refine tw 8 ?_;refine Vt 8 rfl (by rfl) ?_;intro K hK;obtain⟨z0,z1,z2⟩:=Qb hR2;have zf:=fun i=>zfz hR2 i
  have BF:=bst (bst (bst K2 (p:=⟨r,0,none⟩) hgw (.slice A3 (L3).length c3)) (p:=⟨r,1,none⟩) hgw (.slice J' 0 0)) (p:=⟨r,2,none⟩) hgw (.int .i64 s.pol);have hS9:=hS2;rw[←Yab _ ⟨r,0,none⟩ gb (.slice A3 (L3).length c3) hgr,←Yab _ ⟨r,1,none⟩ gb (.slice J' 0 0) hgr,←Yab _ ⟨r,2,none⟩ gb (.int .i64 s.pol) hgr] at hS9;go_simp
  refine hK _ hS9 ?_;clear hK;refine tq 9 5 (.string ⟨(Va (L3)++[10]).toArray⟩) rfl (fun _ _=>rfl) hS9 ?_;refine wpAnyH_done (by kernel_rfl) ?_ _
  have hT:=qoc O4 (w':=((v2.setCell ⟨r,0,none⟩ (.slice A3 (L3).length c3)).setCell ⟨r,1,none⟩ (.slice J' 0 0)).setCell ⟨r,2,none⟩ (.int .i64 s.pol)) (by simp) (by
   intro b hb;rw[Yab _ _ _ _ (by show b≠r;omega),Yab _ _ _ _ (by show b≠r;omega),Yab _ _ _ _ (by show b≠r;omega)])
  go_wp2_with fail;refine bodyPost_ret (v:=.tuple #[ssV A3 (L3).length c3 J' 0 0 s.pol,.string ⟨(Va (L3)++[10]).toArray⟩]) (by simp[results,Tryz.results46,go_sem,z0,z1,z2]) rfl (by rw[HE.out];exact⟨A3,c3,J',0,rfl,HC.out,hT,qoa _ _,BF⟩)
def qxy(s:Ss):Ss×List UInt8:=(s,if qaf s.l s.pol then [104,111,108,100,115,32,121,101,115,10] else [104,111,108,100,115,32,110,111,10])
theorem qpp(s:Ss)(A:ZA)(c:Nat)(J:ZA)(d:Nat)(w:World)(h:TS w A s.l)(g:JS w J s.js)(hA:(A=none→c=0)∧s.l.length≤c)(hlm:s.l.length≤5):
  Calls Tryz.prog 46 #[sV s A c J d,.string ⟨([104,111,108,100,115]:List UInt8).toArray⟩] w (qbr (qxy s) w):=by
 have HA:=zhi hA;clear hA;obtain⟨gb,r,hgb,hrE,hr0,hg1,B0,hgw,hgw0,hgr⟩:=qnz w (sC s A c J d) (ssC none 0 0 none 0 0 0);go_enter Tryz.func46,Tryz.ntmps46;go_upto_region 1 with fail;generalize World.alloc (World.alloc w _) _=w0 at hr0 hg1 B0⊢;try simp only[hgb,hrE]
 clear hgb hrE;have HE0:Hid (qxy s=(s,[104,111,108,100,115]++(if qaf s.l s.pol then [32,121,101,115,10] else [32,110,111,10]))):=by unfold Hid qxy;cases qaf s.l s.pol<;>rfl
 have KH:=fun v h=>qak A s.l c s.pol v h (by unfold maxLen;omega)
 generalize qaf s.l s.pol=hb at HE0 KH;have KY:=fun v=>qwd [104,111,108,100,115] hb v (by simp)
 obtain⟨X,hX⟩: ∃X,([104,111,108,100,115]:List UInt8)++(if hb then [32,121,101,115,10] else [32,110,111,10])=X:=⟨_,rfl⟩;rw[hX] at KY HE0;have HE:=HE0;clear hX HE0;obtain⟨x0,x1,x2⟩:=Qb hg1;go_upto_region 18 with fail;clear x0 x1 x2;refine wp_region_held (S:=fun w'=>w'.heap[gb]? =some (sC s A c J d)) (by kernel_rfl) ?_;change wpAnyH _ _ _ _ _ _ _ _ (World.drew _);have K0:Below w.heap.size w (World.drew w0):=zdr B0;have hS0:(World.drew w0).heap[gb]? =some (sC s A c J d):=hg1;have hR0:(World.drew w0).heap[r]? =some (ssC none 0 0 none 0 0 0):=hr0;generalize World.drew w0=v0 at K0 hS0 hR0⊢;refine tq 0 63 (sV s A c J d) rfl (fun w hS=>by obtain⟨x0,x1,x2⟩:=Qb hS;go_simp) hS0 ?_;refine tq 1 64 (.pointer (some ⟨gb,0,none⟩)) rfl (fun w _=>by go_simp) hS0 ?_;refine tq 2 65 (.slice A s.l.length c) rfl (fun w hS=>by obtain⟨x0,x1,x2⟩:=Qb hS;go_simp) hS0 ?_;refine tq 3 66 (.pointer (some ⟨gb,2,none⟩)) rfl (fun w _=>by go_simp) hS0 ?_;refine tq 4 67 (.int .i64 s.pol) rfl (fun w hS=>by obtain⟨x0,x1,x2⟩:=Qb hS;go_simp) hS0 ?_;refine tw 5 ?_;refine co 5 68 rfl 86 Tryz.func86 #[.slice A s.l.length c,.int .i64 s.pol] (KH _ (h.keep K0)) ?_;rintro e v1 ⟨rfl,bz1⟩;have K1:=Qa K0 bz1;have hS1:=bh bz1 hS0;have hR1:=bh bz1 hR0;refine⟨_,rfl,hS1,?_⟩;simp only[lsS,lsZ];refine tw 6 ?_;refine co 6 69 rfl 85 Tryz.func85 #[.string ⟨([104,111,108,100,115]:List UInt8).toArray⟩,.bool hb] (KY _) ?_;rintro e v2 ⟨rfl,bz2⟩;have K2:=Qa K1 bz2;have hS2:=bh bz2 hS1;have hR2:=bh bz2 hR1;refine⟨_,rfl,hS2,?_⟩;simp only[lsS,lsZ];refine tw 7 ?_;refine Vt 7 rfl (by rfl) ?_;intro K hK;obtain⟨z0,z1,z2⟩:=Qb hR2;have zf:=fun i=>zfz hR2 i
 have BF:=bst (bst (bst K2 (p:=⟨r,0,none⟩) hgw (.slice A s.l.length c)) (p:=⟨r,1,none⟩) hgw (.slice J s.js.length d)) (p:=⟨r,2,none⟩) hgw (.int .i64 s.pol);have hS9:=hS2;rw[←Yab _ ⟨r,0,none⟩ gb (.slice A s.l.length c) hgr,←Yab _ ⟨r,1,none⟩ gb (.slice J s.js.length d) hgr,←Yab _ ⟨r,2,none⟩ gb (.int .i64 s.pol) hgr] at hS9;go_simp
 refine hK _ hS9 ?_;clear hK;refine tq 8 5 (.string ⟨(X).toArray⟩) rfl (fun _ _=>rfl) hS9 ?_;refine wpAnyH_done (by kernel_rfl) ?_ _;have hF:=h.keep BF;have gF:=g.keep BF;go_wp2_with fail;refine bodyPost_ret (v:=.tuple #[sV s A c J d,.string ⟨(X).toArray⟩]) (by simp[results,Tryz.results46,go_sem,z0,z1,z2]) rfl (by rw[HE.out];exact⟨A,c,J,d,rfl,HA.out,hF,gF,BF⟩)
def qly(s:Ss):Ss×List UInt8:=(s,Vq s.l s.l.length++[101,110,100,10])
theorem qk4(s:Ss)(A:ZA)(c:Nat)(J:ZA)(d:Nat)(w:World)(h:TS w A s.l)(g:JS w J s.js)(hA:(A=none→c=0)∧s.l.length≤c)(hs:Qe s.l=true):
  Calls Tryz.prog 46 #[sV s A c J d,.string ⟨([114,101,115,112,111,110,115,101,115]:List UInt8).toArray⟩] w (qbr (qly s) w):=by
 have HA:=zhi hA;clear hA;obtain⟨gb,r,hgb,hrE,hr0,hg1,B0,hgw,hgw0,hgr⟩:=qnz w (sC s A c J d) (ssC none 0 0 none 0 0 0);go_enter Tryz.func46,Tryz.ntmps46;go_upto_region 1 with fail;generalize World.alloc (World.alloc w _) _=w0 at hr0 hg1 B0⊢;try simp only[hgb,hrE]
 clear hgb hrE;have HE0:Hid (qly s=(s,Vq s.l s.l.length++[101,110,100,10])):=rfl;have KH:=fun v h=>qls A s.l c v h hs
 generalize Vq s.l s.l.length++[101,110,100,10]=X at HE0 KH;have HE:=HE0;clear HE0;obtain⟨x0,x1,x2⟩:=Qb hg1;go_upto_region 20 with fail;clear x0 x1 x2;refine wp_region_held (S:=fun w'=>w'.heap[gb]? =some (sC s A c J d)) (by kernel_rfl) ?_;change wpAnyH _ _ _ _ _ _ _ _ (World.drew _);have K0:Below w.heap.size w (World.drew w0):=zdr B0;have hS0:(World.drew w0).heap[gb]? =some (sC s A c J d):=hg1;have hR0:(World.drew w0).heap[r]? =some (ssC none 0 0 none 0 0 0):=hr0;generalize World.drew w0=v0 at K0 hS0 hR0⊢;refine tq 0 72 (sV s A c J d) rfl (fun w hS=>by obtain⟨x0,x1,x2⟩:=Qb hS;go_simp) hS0 ?_;refine tq 1 73 (.pointer (some ⟨gb,0,none⟩)) rfl (fun w _=>by go_simp) hS0 ?_;refine tq 2 74 (.slice A s.l.length c) rfl (fun w hS=>by obtain⟨x0,x1,x2⟩:=Qb hS;go_simp) hS0 ?_;refine tw 3 ?_;refine co 3 75 rfl 87 Tryz.func87 #[.slice A s.l.length c] (KH _ (h.keep K0)) ?_;rintro e v1 ⟨rfl,bz1⟩;have K1:=Qa K0 bz1;have hS1:=bh bz1 hS0;have hR1:=bh bz1 hR0;refine⟨_,rfl,hS1,?_⟩;simp only[lsS,lsZ];refine tw 4 ?_;refine Vt 4 rfl (by rfl) ?_;intro K hK;obtain⟨z0,z1,z2⟩:=Qb hR1;have zf:=fun i=>zfz hR1 i
 have BF:=bst (bst (bst K1 (p:=⟨r,0,none⟩) hgw (.slice A s.l.length c)) (p:=⟨r,1,none⟩) hgw (.slice J s.js.length d)) (p:=⟨r,2,none⟩) hgw (.int .i64 s.pol);have hS9:=hS1;rw[←Yab _ ⟨r,0,none⟩ gb (.slice A s.l.length c) hgr,←Yab _ ⟨r,1,none⟩ gb (.slice J s.js.length d) hgr,←Yab _ ⟨r,2,none⟩ gb (.int .i64 s.pol) hgr] at hS9;go_simp
 refine hK _ hS9 ?_;clear hK;refine tq 5 5 (.string ⟨(X).toArray⟩) rfl (fun _ _=>rfl) hS9 ?_;refine wpAnyH_done (by kernel_rfl) ?_ _;have hF:=h.keep BF;have gF:=g.keep BF;go_wp2_with fail;refine bodyPost_ret (v:=.tuple #[sV s A c J d,.string ⟨(X).toArray⟩]) (by simp[results,Tryz.results46,go_sem,z0,z1,z2]) rfl (by rw[HE.out];exact⟨A,c,J,d,rfl,HA.out,hF,gF,BF⟩)
def qwk(s:Ss):Ss×List UInt8:=(s,qj0 s.l++[10])
theorem qok(s:Ss)(A:ZA)(c:Nat)(J:ZA)(d:Nat)(w:World)(h:TS w A s.l)(g:JS w J s.js)(hA:(A=none→c=0)∧s.l.length≤c)(hs:Qe s.l=true):
  Calls Tryz.prog 46 #[sV s A c J d,.string ⟨([115,104,97,114,101,115]:List UInt8).toArray⟩] w (qbr (qwk s) w):=by
 have HA:=zhi hA;clear hA;obtain⟨gb,r,hgb,hrE,hr0,hg1,B0,hgw,hgw0,hgr⟩:=qnz w (sC s A c J d) (ssC none 0 0 none 0 0 0);go_enter Tryz.func46,Tryz.ntmps46;go_upto_region 1 with fail;generalize World.alloc (World.alloc w _) _=w0 at hr0 hg1 B0⊢;try simp only[hgb,hrE]
 clear hgb hrE;have HE0:Hid (qwk s=(s,qj0 s.l++[10])):=rfl;have KH:=fun v h=>qph A s.l c v h hs
 generalize qj0 s.l++[10]=X at HE0 KH;have HE:=HE0;clear HE0;obtain⟨x0,x1,x2⟩:=Qb hg1;go_upto_region 22 with fail;clear x0 x1 x2;refine wp_region_held (S:=fun w'=>w'.heap[gb]? =some (sC s A c J d)) (by kernel_rfl) ?_;change wpAnyH _ _ _ _ _ _ _ _ (World.drew _);have K0:Below w.heap.size w (World.drew w0):=zdr B0;have hS0:(World.drew w0).heap[gb]? =some (sC s A c J d):=hg1;have hR0:(World.drew w0).heap[r]? =some (ssC none 0 0 none 0 0 0):=hr0;generalize World.drew w0=v0 at K0 hS0 hR0⊢;refine tq 0 78 (sV s A c J d) rfl (fun w hS=>by obtain⟨x0,x1,x2⟩:=Qb hS;go_simp) hS0 ?_;refine tq 1 79 (.pointer (some ⟨gb,0,none⟩)) rfl (fun w _=>by go_simp) hS0 ?_;refine tq 2 80 (.slice A s.l.length c) rfl (fun w hS=>by obtain⟨x0,x1,x2⟩:=Qb hS;go_simp) hS0 ?_;refine tw 3 ?_;refine co 3 81 rfl 88 Tryz.func88 #[.slice A s.l.length c] (KH _ (h.keep K0)) ?_;rintro e v1 ⟨rfl,bz1⟩;have K1:=Qa K0 bz1;have hS1:=bh bz1 hS0;have hR1:=bh bz1 hR0;refine⟨_,rfl,hS1,?_⟩;simp only[lsS,lsZ];refine tw 4 ?_;refine Vt 4 rfl (by rfl) ?_;intro K hK;obtain⟨z0,z1,z2⟩:=Qb hR1;have zf:=fun i=>zfz hR1 i
 have BF:=bst (bst (bst K1 (p:=⟨r,0,none⟩) hgw (.slice A s.l.length c)) (p:=⟨r,1,none⟩) hgw (.slice J s.js.length d)) (p:=⟨r,2,none⟩) hgw (.int .i64 s.pol);have hS9:=hS1;rw[←Yab _ ⟨r,0,none⟩ gb (.slice A s.l.length c) hgr,←Yab _ ⟨r,1,none⟩ gb (.slice J s.js.length d) hgr,←Yab _ ⟨r,2,none⟩ gb (.int .i64 s.pol) hgr] at hS9;go_simp
 refine hK _ hS9 ?_;clear hK;refine tq 5 5 (.string ⟨(X).toArray⟩) rfl (fun _ _=>rfl) hS9 ?_;refine wpAnyH_done (by kernel_rfl) ?_ _;have hF:=h.keep BF;have gF:=g.keep BF;go_wp2_with fail;refine bodyPost_ret (v:=.tuple #[sV s A c J d,.string ⟨(X).toArray⟩]) (by simp[results,Tryz.results46,go_sem,z0,z1,z2]) rfl (by rw[HE.out];exact⟨A,c,J,d,rfl,HA.out,hF,gF,BF⟩)
def qlz(s:Ss):Ss×List UInt8:=(s,match q1q s.l with
 |some k=>([102,97,99,116,111,114,32]++Vk k)++[10]
 |none=>qf1)
theorem qol(s:Ss)(A:ZA)(c:Nat)(J:ZA)(d:Nat)(w:World)(h:TS w A s.l)(g:JS w J s.js)(hA:(A=none→c=0)∧s.l.length≤c)(hs:Qe s.l=true):
  Calls Tryz.prog 46 #[sV s A c J d,.string ⟨([102,97,99,116,111,114]:List UInt8).toArray⟩] w (qbr (qlz s) w):=by
 have hlm:=(qa7 hs).1;have HA:=zhi hA;clear hA;obtain⟨gb,r,hgb,hrE,hr0,hg1,B0,hgw,hgw0,hgr⟩:=qnz w (sC s A c J d) (ssC none 0 0 none 0 0 0);go_enter Tryz.func46,Tryz.ntmps46;go_upto_region 1 with fail;generalize World.alloc (World.alloc w _) _=w0 at hr0 hg1 B0⊢;try simp only[hgb,hrE]
 clear hgb hrE;obtain⟨x0,x1,x2⟩:=Qb hg1;have K:Calls Tryz.prog _ _ w0 _:=qdo A s.l c w0 (h.keep B0) (by unfold maxLen;omega);cases ho:q1q s.l with
 |none=>
  have HE:Hid (qlz s=(s,qf1)):=by simp[Hid,qlz,ho]
  rw[qt7 ho] at K;go_wp2_with fail;refine K.mono ?_;rintro e w2 ⟨rfl,b2⟩;have b3:=bal b2 (.cells #[.int .i64 0,.int .i64 0] 54 (0,0));clear ho K;go_upto_region 25 with fail;generalize World.alloc w2 _=w3 at b3⊢;have rM:=bh b3 hr0;have gM:=bh b3 hg1;have B2:=Qa B0 b3;clear x0 x1 x2;obtain⟨x0,x1,x2⟩:=Qb gM;obtain⟨z0,z1,z2⟩:=Qb rM;have zf:=fun i=>zfz rM i
  have BF:=bst (bst (bst B2 (p:=⟨r,0,none⟩) hgw (.slice A s.l.length c)) (p:=⟨r,1,none⟩) hgw (.slice J s.js.length d)) (p:=⟨r,2,none⟩) hgw (.int .i64 s.pol);have hF:=h.keep BF;have gF:=g.keep BF;go_wp2_with fail;refine bodyPost_ret (v:=.tuple #[sV s A c J d,.string ⟨(qf1).toArray⟩]) (by simp[results,Tryz.results46,go_sem,z0,z1,z2];rfl) rfl (by rw[HE.out];exact⟨A,c,J,d,rfl,HA.out,hF,gF,BF⟩)
 |some k=>
  have HE:Hid (qlz s=(s,([102,97,99,116,111,114,32]++Vk k)++[10])):=by simp[Hid,qlz,ho]
  have hR:=qwg hs ho;have hkl:=qa8 k hR;rw[qxv ho] at K;go_wp2_with fail;refine K.mono ?_;rintro e w2 ⟨rfl,b2⟩;have b3:=bal b2 (.cells #[.int .i64 k.num,.int .i64 (k.den:Int)] 54 (0,0));have qN:=zha w2 (.cells #[.int .i64 k.num,.int .i64 (k.den:Int)] 54 (0,0));clear ho K;go_upto_region 25 with fail;obtain⟨q,hq⟩: ∃q,w2.heap.size=q:=⟨_,rfl⟩;rw[hq] at qN⊢;generalize World.alloc w2 _=w3 at b3 qN⊢;clear hq;have rM:=bh b3 hr0;have gM:=bh b3 hg1;have B2:=Qa B0 b3;clear x0 x1 x2;obtain⟨x0,x1,x2⟩:=Qb gM;go_upto_region 27 with fail;clear x0 x1 x2;refine wp_region_held (S:=fun w'=>w'.heap[gb]? =some (sC s A c J d)∧w'.heap[q]? =some (.cells #[.int .i64 k.num,.int .i64 (k.den:Int)] 54 (0,0))) (by kernel_rfl) ?_;change wpAnyH _ _ _ _ _ _ _ _ (World.drew _);have K0:Below w.heap.size w (World.drew w3):=zdr B2;have hS0:(World.drew w3).heap[gb]? =some (sC s A c J d):=gM;have hR0:(World.drew w3).heap[r]? =some (ssC none 0 0 none 0 0 0):=rM;have hQ0:=(zdr (Below.refl w3.heap.size w3)).block q (bl qN)|>.trans qN
  generalize World.drew w3=v0 at K0 hS0 hR0 hQ0⊢;have hS7:=And.intro hS0 hQ0;refine tq 0 93 (sV s A c J d) rfl (fun w hS=>by obtain⟨x0,x1,x2⟩:=Qb hS.1;go_simp) hS7 ?_;refine tq 1 94 (rv k) rfl (fun w hS=>by obtain⟨y0,y1⟩:=Qk hS.2;go_simp) hS7 ?_;refine tw 2 ?_;refine co 2 95 rfl 89 Tryz.func89 #[rv k] (qc6 k hR _) ?_;rintro e v1 ⟨rfl,bz1⟩;have K1:=Qa K0 bz1;have hS1:=bh bz1 hS0;have hR1:=bh bz1 hR0;have hQ1:=bh bz1 hQ0;have hS8:=And.intro hS1 hQ1;refine⟨_,rfl,hS8,?_⟩;simp only[lsS,lsZ];refine tq 3 96 (.string ⟨([102,97,99,116,111,114,32]++Vk k).toArray⟩) rfl (fun w _=>by go_simp;rw[Yaq (by simp;omega)];simp[Qn]) hS8 ?_;refine tq 4 97 (.string ⟨(([102,97,99,116,111,114,32]++Vk k)++[10]).toArray⟩) rfl (fun w _=>by go_simp;rw[Yaq (by simp;omega)];simp[Qn]) hS8 ?_;refine tw 5 ?_;refine Vt 5 rfl (by rfl) ?_;intro K hK;obtain⟨z0,z1,z2⟩:=Qb hR1;have zf:=fun i=>zfz hR1 i
  have BF:=bst (bst (bst K1 (p:=⟨r,0,none⟩) hgw (.slice A s.l.length c)) (p:=⟨r,1,none⟩) hgw (.slice J s.js.length d)) (p:=⟨r,2,none⟩) hgw (.int .i64 s.pol);have hS9:=hS1;rw[←Yab _ ⟨r,0,none⟩ gb (.slice A s.l.length c) hgr,←Yab _ ⟨r,1,none⟩ gb (.slice J s.js.length d) hgr,←Yab _ ⟨r,2,none⟩ gb (.int .i64 s.pol) hgr] at hS9;go_simp
  have hqr:q≠r:=by
   intro e;rw[e,hR1] at hQ1;injection hQ1 with hQ1
   injection hQ1 with h1 h2 h3
   revert h2
   decide
  have hQ9:=hQ1;rw[←Yab _ ⟨r,0,none⟩ q (.slice A s.l.length c) hqr,←Yab _ ⟨r,1,none⟩ q (.slice J s.js.length d) hqr,←Yab _ ⟨r,2,none⟩ q (.int .i64 s.pol) hqr] at hQ9;replace hS9:=And.intro hS9 hQ9;refine hK _ hS9 ?_;clear hK;refine tq 6 5 (.string ⟨(([102,97,99,116,111,114,32]++Vk k)++[10]).toArray⟩) rfl (fun _ _=>rfl) hS9 ?_;refine wpAnyH_done (by kernel_rfl) ?_ _;have hF:=h.keep BF;have gF:=g.keep BF;go_wp2_with fail;refine bodyPost_ret (v:=.tuple #[sV s A c J d,.string ⟨(([102,97,99,116,111,114,32]++Vk k)++[10]).toArray⟩]) (by simp[results,Tryz.results46,go_sem,z0,z1,z2]) rfl (by rw[HE.out];exact⟨A,c,J,d,rfl,HA.out,hF,gF,BF⟩)
def ql0(s:Ss):Ss×List UInt8:=(s,match qru s.l s.pol with
 |some k=>([102,101,119,101,115,116,32]++num k)++[10]
 |none=>qf1)
theorem qom(s:Ss)(A:ZA)(c:Nat)(J:ZA)(d:Nat)(w:World)(h:TS w A s.l)(g:JS w J s.js)(hA:(A=none→c=0)∧s.l.length≤c)(hlm:s.l.length≤5):
  Calls Tryz.prog 46 #[sV s A c J d,.string ⟨([102,101,119,101,115,116]:List UInt8).toArray⟩] w (qbr (ql0 s) w):=by
 have HA:=zhi hA;clear hA;obtain⟨gb,r,hgb,hrE,hr0,hg1,B0,hgw,hgw0,hgr⟩:=qnz w (sC s A c J d) (ssC none 0 0 none 0 0 0);go_enter Tryz.func46,Tryz.ntmps46;go_upto_region 1 with fail;generalize World.alloc (World.alloc w _) _=w0 at hr0 hg1 B0⊢;try simp only[hgb,hrE]
 clear hgb hrE;obtain⟨x0,x1,x2⟩:=Qb hg1;have K:Calls Tryz.prog _ _ w0 _:=qpo A s.l c s.pol w0 (h.keep B0) (by unfold maxLen;omega) HA.out.2;cases ho:qru s.l s.pol with
 |none=>
  have HE:Hid (ql0 s=(s,qf1)):=by simp[Hid,ql0,ho]
  rw[ho,show qes none=.tuple #[.int .i64 0,.bool false] from rfl] at K;go_wp2_with fail;refine K.mono ?_;rintro e w3 ⟨rfl,b3⟩;clear ho K;have rM:=bh b3 hr0;have gM:=bh b3 hg1;have B2:=Qa B0 b3;clear x0 x1 x2;obtain⟨x0,x1,x2⟩:=Qb gM;obtain⟨z0,z1,z2⟩:=Qb rM;have zf:=fun i=>zfz rM i
  have BF:=bst (bst (bst B2 (p:=⟨r,0,none⟩) hgw (.slice A s.l.length c)) (p:=⟨r,1,none⟩) hgw (.slice J s.js.length d)) (p:=⟨r,2,none⟩) hgw (.int .i64 s.pol);have hF:=h.keep BF;have gF:=g.keep BF;go_wp2_with fail;refine bodyPost_ret (v:=.tuple #[sV s A c J d,.string ⟨(qf1).toArray⟩]) (by simp[results,Tryz.results46,go_sem,z0,z1,z2];rfl) rfl (by rw[HE.out];exact⟨A,c,J,d,rfl,HA.out,hF,gF,BF⟩)
 |some k=>
  have HE:Hid (ql0 s=(s,([102,101,119,101,115,116,32]++num k)++[10])):=by simp[Hid,ql0,ho]
  have hk0:=(qik ho).1;have hk1:=(qik ho).2.1;rw[ho,show qes (some k)=.tuple #[.int .i64 k,.bool true] from rfl] at K;have hkl:=Qp k (by omega);go_wp2_with fail;refine K.mono ?_;rintro e w3 ⟨rfl,b3⟩;clear ho K;have rM:=bh b3 hr0;have gM:=bh b3 hg1;have B2:=Qa B0 b3;clear x0 x1 x2;obtain⟨x0,x1,x2⟩:=Qb gM;go_upto_region 32 with fail;clear x0 x1 x2;refine wp_region_held (S:=fun w'=>w'.heap[gb]? =some (sC s A c J d)) (by kernel_rfl) ?_;change wpAnyH _ _ _ _ _ _ _ _ (World.drew _);have K0:Below w.heap.size w (World.drew w3):=zdr B2;have hS0:(World.drew w3).heap[gb]? =some (sC s A c J d):=gM;have hR0:(World.drew w3).heap[r]? =some (ssC none 0 0 none 0 0 0):=rM;generalize World.drew w3=v0 at K0 hS0 hR0⊢;refine tq 0 111 (sV s A c J d) rfl (fun w hS=>by obtain⟨x0,x1,x2⟩:=Qb hS;go_simp) hS0 ?_;refine tq 1 112 (.int .i64 k) rfl (fun _ _=>rfl) hS0 ?_;refine tw 2 ?_;refine co 2 113 rfl 91 Tryz.func91 #[.int .i64 k] (qgd k (by omega) (by omega) _) ?_;rintro e v1 ⟨rfl,bz1⟩;have K1:=Qa K0 bz1;have hS1:=bh bz1 hS0;have hR1:=bh bz1 hR0;refine⟨_,rfl,hS1,?_⟩;simp only[lsS,lsZ];refine tq 3 114 (.string ⟨([102,101,119,101,115,116,32]++num k).toArray⟩) rfl (fun w _=>by go_simp;rw[Yaq (by simp;omega)];simp[Qn]) hS1 ?_;refine tq 4 115 (.string ⟨(([102,101,119,101,115,116,32]++num k)++[10]).toArray⟩) rfl (fun w _=>by go_simp;rw[Yaq (by simp;omega)];simp[Qn]) hS1 ?_;refine tw 5 ?_;refine Vt 5 rfl (by rfl) ?_;intro K hK;obtain⟨z0,z1,z2⟩:=Qb hR1;have zf:=fun i=>zfz hR1 i
  have BF:=bst (bst (bst K1 (p:=⟨r,0,none⟩) hgw (.slice A s.l.length c)) (p:=⟨r,1,none⟩) hgw (.slice J s.js.length d)) (p:=⟨r,2,none⟩) hgw (.int .i64 s.pol);have hS9:=hS1;rw[←Yab _ ⟨r,0,none⟩ gb (.slice A s.l.length c) hgr,←Yab _ ⟨r,1,none⟩ gb (.slice J s.js.length d) hgr,←Yab _ ⟨r,2,none⟩ gb (.int .i64 s.pol) hgr] at hS9;go_simp
  refine hK _ hS9 ?_;clear hK;refine tq 6 5 (.string ⟨(([102,101,119,101,115,116,32]++num k)++[10]).toArray⟩) rfl (fun _ _=>rfl) hS9 ?_;refine wpAnyH_done (by kernel_rfl) ?_ _;have hF:=h.keep BF;have gF:=g.keep BF;go_wp2_with fail;refine bodyPost_ret (v:=.tuple #[sV s A c J d,.string ⟨(([102,101,119,101,115,116,32]++num k)++[10]).toArray⟩]) (by simp[results,Tryz.results46,go_sem,z0,z1,z2]) rfl (by rw[HE.out];exact⟨A,c,J,d,rfl,HA.out,hF,gF,BF⟩)
theorem quf(s:Ss)(hG:Good s)(A:ZA)(c:Nat)(J:ZA)(d:Nat)(x:List UInt8)(w:World)(h:TS w A s.l)(g:JS w J s.js)(hA:(A=none→c=0)∧s.l.length≤c):
  Calls Tryz.prog 46 #[sV s A c J d,.string ⟨x.toArray⟩] w (qbr (qj3 s (qj1 s x)) w):=by
 have hlm:=Vl hG.v;have hjm:=(qeb hG.t).1;by_cases h0:x=[115,104,111,119]
 ·subst h0;have E:qj3 s (qj1 s [115,104,111,119])=q4t s:=rfl;rw[E];exact qr6 s A c J d w h g hA hlm hjm
 by_cases h1:x=[112,108,97,99,101,115]
 ·subst h1;have E:qj3 s (qj1 s [112,108,97,99,101,115])=qwj s:=rfl;rw[E];exact qoi s A c J d w h g hA
 by_cases h2:x=[100,101,97,100,108,105,110,101,115]
 ·subst h2;have E:qj3 s (qj1 s [100,101,97,100,108,105,110,101,115])=qlw s:=rfl;rw[E];exact qk3 s A c J d w h g hA
 by_cases h3:x=[115,111,114,116]
 ·subst h3;have E:qj3 s (qj1 s [115,111,114,116])=q6n s:=rfl;rw[E];exact qr7 s A c J d w h g hA hlm
 by_cases h4:x=[97,115,115,105,103,110]
 ·subst h4;have E:qj3 s (qj1 s [97,115,115,105,103,110])=qlx s:=rfl;rw[E];exact qoj s A c J d w h g hA hlm
 by_cases h5:x=[104,111,108,100,115]
 ·subst h5;have E:qj3 s (qj1 s [104,111,108,100,115])=qxy s:=rfl;rw[E];exact qpp s A c J d w h g hA hlm
 by_cases h6:x=[114,101,115,112,111,110,115,101,115]
 ·subst h6;have E:qj3 s (qj1 s [114,101,115,112,111,110,115,101,115])=qly s:=rfl;rw[E];exact qk4 s A c J d w h g hA hG.v
 by_cases h7:x=[115,104,97,114,101,115]
 ·subst h7;have E:qj3 s (qj1 s [115,104,97,114,101,115])=qwk s:=rfl;rw[E];exact qok s A c J d w h g hA hG.v
 by_cases h8:x=[102,97,99,116,111,114]
 ·subst h8;have E:qj3 s (qj1 s [102,97,99,116,111,114])=qlz s:=rfl;rw[E];exact qol s A c J d w h g hA hG.v
 by_cases h9:x=[102,101,119,101,115,116]
 ·subst h9;have E:qj3 s (qj1 s [102,101,119,101,115,116])=ql0 s:=rfl;rw[E];exact qom s A c J d w h g hA hlm
 have E:qj1 s x=none:=by simp[qj1,h0,h1,h2,h3,h4,h5,h6,h7,h8,h9]
 rw[E];exact qr5 s A c J d x w h g hA (by simpa using h0) (by simpa using h1) (by simpa using h2) (by simpa using h3) (by simpa using h4) (by simpa using h5) (by simpa using h6) (by simpa using h7) (by simpa using h8) (by simpa using h9)
theorem qr8(r:List (List UInt8))(i:Nat)(s:Ss)(o:List UInt8):qje ([]::r) i s o=qje r (i+1) s o:=rfl
theorem qr9{x:List UInt8}(hx:x≠[])(r:List (List UInt8)){i:Nat}(s:Ss){o:List UInt8}(h:200≤i∨40000<o.length):qje (x::r) i s o=o++q6d:=by rw[qje,Yaq hx,Yav h]
theorem qwl{x:List UInt8}(hx:x≠[])(r:List (List UInt8)){i:Nat}(s:Ss){o:List UInt8}(h: ¬(200≤i∨40000<o.length)):qje (x::r) i s o=qje r (i+1) (qfz s x).1 (o++(qfz s x).2):=by rw[qje,Yaq hx,Yaq h]
theorem q7q{base:Nat}{w:World}{A:ZA}{c:Nat}{xs:List (List UInt8)}(h:OS base w A c xs)(hl:0<xs.length): ∃b,A=some ⟨b,0,none⟩∧base≤b∧b<w.heap.size∧ ∀(k:Nat) (hk:k<xs.length),w.cell? ⟨b,k,none⟩=some (.string ⟨(xs[k]).toArray⟩):=by
 obtain⟨b,hA,hlt,hc⟩:=qhl h hl;refine⟨b,hA,?_,hlt,hc⟩;rcases h.2 with⟨hv,_⟩|⟨g,cap,cur,hv,hg,_⟩
 ·injection hv with hv _ _
  rw[hA] at hv;cases hv
 ·injection hv with hv _ _
  rw[hA] at hv;injection hv with hv
  injection hv with hv _ _
  omega
theorem q6o{x:List UInt8}(h: ∀(j:Nat) (hj:j<x.length),x[j]≠32)(s:Ss):qfz s x=qj3 s (qj1 s x):=by
 have hx:(32:UInt8)∉x:=by
  intro hm;obtain⟨j,hj,e⟩:=Ycw hm;exact h j hj e
 have hC:=q01 32 [] x hx;rw[qfz,hC];rfl
theorem q6p{x:List UInt8}{m:Nat}(hm:m<x.length)(h: ∀(j:Nat) (hj:j<x.length),j<m→x[j]≠32)(he:x[m]=32)(s:Ss):qfz s x=qj4 s (x.take m) (x.drop (m+1)):=by
 have hx:(32:UInt8)∉x.take m:=by
  intro hmem;obtain⟨j,hj,e⟩:=Ycw hmem;rw[List.getElem_take] at e;rw[Yap] at hj;exact h j (by omega) (by omega) e
 have e:x=x.take m++[32]++x.drop (m+1):=by
  have h1:x.drop m=x[m]::x.drop (m+1):=Ybo hm;rw[he] at h1;rw[Yax,List.singleton_append,←h1,Yco]
 have hC:=qlo 32 [] (x.take m) (x.drop (m+1)) hx;rw[←e] at hC;rw[qfz,hC];rfl
theorem qim(text:List UInt8)(hl:text.length≤9000000000000000000)(w:World):
  Calls Tryz.prog 18 #[.string ⟨text.toArray⟩] w fun e w'=>e=.returned (.string ⟨(qqr text).toArray⟩)∧Below w.heap.size w w':=by
 by_cases hlong:20000<text.length
 ·have hlI:(20000:Int)<(text.length:Int):=by omega
  have hS:qqr text=[108,111,110,103,10]:=Yav hlong;rw[hS];clear hS;go_enter Tryz.func18,Tryz.ntmps18;go_wp2_with fail;go_ret;exact⟨rfl,br⟩
 ·obtain⟨R,hR⟩: ∃R,qqr text=R:=⟨_,rfl⟩;have hS:qje (Qq [10] text) 0 ss0 []=R:=by rw[←hR,qqr,Yaq hlong]
  rw[hR];clear hR;have hC0:=fun w=>qdb text 10 w (by omega)
  obtain⟨L,hL⟩: ∃L,Qq [10] text=L:=⟨_,rfl⟩;have hLm:Hid (∀x∈L,x.length≤text.length):=by rw[←hL];exact fun x hx=>qfx 10 text.length text (zlr _) x hx
  have hLn:L.length≤text.length+1:=by rw[←hL];exact qen 10 text
  have hL0:0<L.length:=by rw[←hL];exact List.length_pos_iff.2 (qty 10 text)
  rw[hL] at hS;simp only[hL] at hC0;have HS:=zhi hS;have hlI: ¬(20000:Int)<(text.length:Int):=by omega
  clear hS;go_enter Tryz.func18,Tryz.ntmps18;go_upto_region 5 with fail;have hst0:=zha ((w.alloc (.cells #[] 58)).alloc (.cells #[] 60)) (ssC (some ⟨w.heap.size,0,none⟩) 0 0 (some ⟨w.heap.size+1,0,none⟩) 0 0 0);have B0:=bal (bal (bal (Below.refl w.heap.size w) (.cells #[] 58)) (.cells #[] 60)) (ssC (some ⟨w.heap.size,0,none⟩) 0 0 (some ⟨w.heap.size+1,0,none⟩) 0 0 0);obtain⟨sb,hsb⟩: ∃sb,w.heap.size+1+1=sb:=⟨_,rfl⟩;have hsz2:((w.alloc (.cells #[] 58)).alloc (.cells #[] 60)).heap.size=sb:=by rw[←hsb];simp
  rw[hsz2] at hst0;have hsz3:sb<(((w.alloc (.cells #[] 58)).alloc (.cells #[] 60)).alloc (ssC (some ⟨w.heap.size,0,none⟩) 0 0 (some ⟨w.heap.size+1,0,none⟩) 0 0 0)).heap.size:=(bl hst0);rw[hsb];generalize World.alloc (World.alloc (World.alloc w _) _) _=w3 at hst0 B0 hsz3⊢;have hsw:w.heap.size≤sb:=by omega
  clear hsz2;generalize some (⟨w.heap.size,0,none⟩:Addr)=A0 at hst0;generalize some (⟨w.heap.size+1,0,none⟩:Addr)=J0 at hst0;clear hsb;go_wp2_with fail;refine(hC0 w3).mono ?_;rintro e wl ⟨AL,cL,rfl,oL,bL0⟩;obtain⟨bL,rfl,hbg,hbl0,hrow⟩:=q7q oL hL0;have hbs:bL≠sb:=by omega
  have hst1:=(bL0.block sb hsz3).trans hst0;have B1:=Qa B0 bL0;have hROW:=zhi hrow;clear hC0 oL bL0 hst0 B0 hsz3 hbg hrow;go_wp2_with fail;go_loopw [4,6,7,8] (fun v i _ _ wr=> ∃(k:Nat) (s:Ss) (o:List UInt8) (A:ZA) (c:Nat) (J:ZA) (d:Nat),v=.string ⟨o.toArray⟩∧i=.int .i64 (k:Int)∧k≤L.length∧Hid (qje (L.drop k) k s o=R)∧Good s∧o.length≤50000∧Hid ((A=none→c=0)∧s.l.length≤c)∧TS wr A s.l∧JS wr J s.js∧wr.heap[sb]? =some (sC s A c J d)∧Hid (wr.heap[bL]? =wl.heap[bL]?)∧bL<wr.heap.size∧Below w.heap.size w wr) (fun _ i _ _ _=>L.length-(intOf i).toNat)
  case atStart=>exact⟨0,ss0,[],A0,0,J0,0,rfl,rfl,by omega,by rw[List.drop_zero];exact HS,q7k,by simp,⟨fun _=>rfl,zlr _⟩,fun h=>absurd h (by simp[ss0]),qoa _ _,hst1,rfl,hbl0,B1⟩
  case round=>
   clear hst1 B1 HS;obtain⟨k,s,o,A,c,J,d,rfl,rfl,hk,hC,hG,hol,HA,hTS,hJS,hst,hP,hbl,hb⟩:=hrel;by_cases hlt:k<L.length
   ·have hx:wr.cell? ⟨bL,k,none⟩=some (.string ⟨(L[k]).toArray⟩):=by rw[Ych (w:=wl) hP.out];exact hROW.out k hlt
    have hd0:L.drop k=L[k]::L.drop (k+1):=Ybo hlt;have hC1:=hC.out;have hxl:=hLm.out L[k] (Yao hlt);rw[hd0] at hC1;generalize L[k]=x at hx hC1 hxl;clear hd0 hC;have hkI:(k:Int)<(L.length:Int):=by omega
    by_cases hne:x=[]
    ·subst hne;rw[qr8] at hC1;have HC2:=zhi hC1;clear hC1;go_wp2_with fail;go_roundw
     case rel=>exact⟨k+1,s,o,A,c,J,d,rfl,by go_num,by omega,HC2,hG,hol,HA,hTS,hJS,hst,hP,hbl,hb⟩
     case measure=>simp[intOf];omega
    ·have hxe:x.isEmpty=false:=by simpa using hne
     have hxe2:((x==([]:List UInt8))=false):=by simpa using hne
     by_cases hfull:200≤k∨40000<o.length
     ·rw[qr9 hne _ _ hfull] at hC1;subst hC1;by_cases hk2:200≤k
      ·have hk200:(200:Int)≤(k:Int):=by omega
       go_wp2_with fail;go_ret;exact⟨by rw[←Qn];rfl,hb⟩
      ·have hk200: ¬(200:Int)≤(k:Int):=by omega
       have hgo:(40000:Int)<(o.length:Int):=by omega
       go_wp2_with fail;go_ret;exact⟨by rw[←Qn];rfl,hb⟩
     ·rw[qwl hne _ _ hfull] at hC1;have hk200: ¬(200:Int)≤(k:Int):=by omega
      have hgo: ¬(40000:Int)<(o.length:Int):=by omega
      have hlb:=qxu hG x;have hG2:=qqs hG x;obtain⟨Q,hQ⟩: ∃Q,qfz s x=Q:=⟨_,rfl⟩;rw[hQ] at hC1 hlb hG2;have HC2:=zhi hC1;obtain⟨_,hlb2⟩:=hlb;have hol2:(o++Q.2).length≤50000:=by rw[Yaa];omega
      have hq2:Q.2.length≤9500:=hlb2;clear hC1 hlb2;go_wp2_with fail;go_loopw [8] (fun a wa=> ∃m:Nat,a=.int .i64 (m:Int)∧m≤x.length∧Hid (∀(j:Nat) (hj:j<x.length),j<m→x[j]≠32)∧wa=wr) (fun a _=>x.length-(intOf a).toNat)
      case atStart=>exact⟨0,rfl,by omega,fun j hj h=>absurd h (by omega),rfl⟩
      case round=>
       obtain⟨m,rfl,hmx,hno,rfl⟩:=hrel;by_cases hm:m<x.length
       ·have hmI:(m:Int)<(x.length:Int):=by omega
        have hsz:(ByteArray.mk x.toArray).size=x.length:=by rw[Go.Lib.size_eq]
        have hbx:=qgc x m hm (by rw[hsz];exact hm);obtain⟨bc,hbE⟩: ∃bc,x[m]=bc:=⟨_,rfl⟩;rw[hbE] at hbx;by_cases he:bc=32
        ·have e1:((bc.toNat:Int) !=32)=false:=by rw[he];rfl
         rw[he] at hbE;have hQ1:qj4 s (x.take m) (x.drop (m+1))=Q:=by rw[←q6p hm hno.out hbE s];exact hQ
         have KQ:=fun v h g=>qpn s hG A c J d (x.take m) (x.drop (m+1)) (by rw[Ybm];omega) v h g HA.out
         simp only[hQ1] at KQ;have hcA:(ByteArray.mk x.toArray).extract 0 m=ByteArray.mk (x.take m).toArray:=by rw[qcu];simp
         have hcR:(ByteArray.mk x.toArray).extract (m+1) x.length=ByteArray.mk (x.drop (m+1)).toArray:=by rw[qcu];congr 2;rw[Yar (by simp)]
         generalize x.take m=xa at KQ hcA;generalize x.drop (m+1)=xr at KQ hcR;have e2:((m:Int)==(x.length:Int))=false:=beq_eq_false_iff_ne.2 (by omega);have hwm:IntKind.i64.wrap ((m:Int)+1)=(m:Int)+1:=by rw[IntKind.wrap_i64];omega
         go_upto_region 18 with fail;refine wp_region_held (S:=fun w'=>w'.cell? ⟨bL,k,none⟩=some (.string ⟨x.toArray⟩)) (by kernel_rfl) ?_;change wpAnyH _ _ _ _ _ _ _ _ (World.drew _);have K0:Below w.heap.size w (World.drew wr):=zdr hb;have q0:(World.drew wr).heap[sb]? =some (sC s A c J d):=hst;have hP0:Hid ((World.drew wr).heap[bL]? =wl.heap[bL]?):=hP;have hS0:(World.drew wr).cell? ⟨bL,k,none⟩=some (.string ⟨x.toArray⟩):=hx;have h0:=hTS.keep (zdr (Below.refl wr.heap.size wr));have g0:=hJS.keep (zdr (Below.refl wr.heap.size wr));have hlt0:bL<(World.drew wr).heap.size:=hbl;generalize World.drew wr=v0 at K0 q0 hP0 hS0 h0 g0 hlt0⊢;refine tq 1 73 (.slice (some ⟨bL,0,none⟩) L.length cL) rfl (fun _ _=>rfl) hS0 ?_;refine tq 2 74 (.int .i64 (k:Int)) rfl (fun _ _=>rfl) hS0 ?_;refine tq 3 75 (.pointer (some ⟨bL,k,none⟩)) rfl (fun w _=>by go_simp<;>(first|omega|(simp;omega))) hS0 ?_;refine tq 4 76 (.string ⟨x.toArray⟩) rfl (fun w hS=>by have hS1:=hS;go_simp) hS0 ?_;refine tq 5 77 (.int .i64 (m:Int)) rfl (fun _ _=>rfl) hS0 ?_;refine tq 6 78 (.string ⟨xa.toArray⟩) rfl (fun w _=>by go_simp<;>(first|omega|exact hcA|exact hcR|(simp;omega))) hS0 ?_;refine tq 7 79 (.slice (some ⟨bL,0,none⟩) L.length cL) rfl (fun _ _=>rfl) hS0 ?_;refine tq 8 80 (.int .i64 (k:Int)) rfl (fun _ _=>rfl) hS0 ?_;refine tq 9 81 (.pointer (some ⟨bL,k,none⟩)) rfl (fun w _=>by go_simp<;>(first|omega|(simp;omega))) hS0 ?_;refine tq 10 82 (.string ⟨x.toArray⟩) rfl (fun w hS=>by have hS1:=hS;go_simp) hS0 ?_;refine tq 11 83 (.int .i64 (m:Int)) rfl (fun _ _=>rfl) hS0 ?_;refine tq 12 84 (.int .i64 ((m:Int)+1)) rfl (fun w _=>by go_simp<;>rw[hwm]) hS0 ?_;refine tq 13 85 (.string ⟨xr.toArray⟩) rfl (fun w _=>by go_simp<;>(first|omega|exact hcA|exact hcR|(simp;omega))) hS0 ?_;refine tw 0 ?_;refine Vr 0 72 rfl (by rfl) ?_;intro K hK;obtain⟨x0,x1,x2⟩:=Qb q0;go_simp
         refine hK (sV s A c J d) _ hS0 ?_;clear hK;simp only[lsS,lsZ];refine tw 14 ?_;refine co 14 86 rfl 47 Tryz.func47 #[sV s A c J d,.string ⟨xa.toArray⟩,.string ⟨xr.toArray⟩] (KQ _ h0 g0) ?_;rintro e v1 ⟨A5,c5,J5,d5,rfl,hA5,h5,g5,b1⟩;have K1:=Qa K0 b1;have q1:=bh b1 q0;have hP1:Hid (v1.heap[bL]? =wl.heap[bL]?):=(b1.block bL hlt0).trans hP0.out;have hS1:v1.cell? ⟨bL,k,none⟩=some (.string ⟨x.toArray⟩):=(b1.cell (p:=⟨bL,k,none⟩) hlt0).trans hS0;have HA5:=zhi hA5;clear hA5;refine⟨_,rfl,hS1,?_⟩;simp only[lsS,lsZ];refine tq 15 71 (.tuple #[ssV A5 Q.1.l.length c5 J5 Q.1.js.length d5 Q.1.pol,.string ⟨Q.2.toArray⟩]) rfl (fun _ _=>rfl) hS1 ?_;refine tq 16 87 (ssV A5 Q.1.l.length c5 J5 Q.1.js.length d5 Q.1.pol) rfl (fun w _=>by go_simp) hS1 ?_;refine tq 17 88 (.string ⟨Q.2.toArray⟩) rfl (fun w _=>by go_simp) hS1 ?_;refine tw 18 ?_;refine Vt 18 rfl (by rfl) ?_;intro K hK;obtain⟨x0,x1,x2⟩:=Qb q1;have xf:=fun i=>zfz q1 i
         have BF:=bst (bst (bst K1 (p:=⟨sb,0,none⟩) hsw (.slice A5 Q.1.l.length c5)) (p:=⟨sb,1,none⟩) hsw (.slice J5 Q.1.js.length d5)) (p:=⟨sb,2,none⟩) hsw (.int .i64 Q.1.pol);have q9:(((v1.setCell ⟨sb,0,none⟩ (.slice A5 Q.1.l.length c5)).setCell ⟨sb,1,none⟩ (.slice J5 Q.1.js.length d5)).setCell ⟨sb,2,none⟩ (.int .i64 Q.1.pol)).heap[sb]? =some (ssC A5 Q.1.l.length c5 J5 Q.1.js.length d5 Q.1.pol):=qa5 (i:=2) (qa5 (i:=1) (qa5 (i:=0) q1 _) _) _
         have hb3: ∀(b:Nat),b≠sb→(((v1.setCell ⟨sb,0,none⟩ (.slice A5 Q.1.l.length c5)).setCell ⟨sb,1,none⟩ (.slice J5 Q.1.js.length d5)).setCell ⟨sb,2,none⟩ (.int .i64 Q.1.pol)).heap[b]? =v1.heap[b]? :=by
          intro b hb;rw[Yab _ _ _ _ hb,Yab _ _ _ _ hb,Yab _ _ _ _ hb]
         have hT9:=q13 h5 q1 (w':=((v1.setCell ⟨sb,0,none⟩ (.slice A5 Q.1.l.length c5)).setCell ⟨sb,1,none⟩ (.slice J5 Q.1.js.length d5)).setCell ⟨sb,2,none⟩ (.int .i64 Q.1.pol)) (by simp) hb3;have hJ9:=q14 g5 q1 (w':=((v1.setCell ⟨sb,0,none⟩ (.slice A5 Q.1.l.length c5)).setCell ⟨sb,1,none⟩ (.slice J5 Q.1.js.length d5)).setCell ⟨sb,2,none⟩ (.int .i64 Q.1.pol)) (by simp) hb3;have hP9:Hid ((((v1.setCell ⟨sb,0,none⟩ (.slice A5 Q.1.l.length c5)).setCell ⟨sb,1,none⟩ (.slice J5 Q.1.js.length d5)).setCell ⟨sb,2,none⟩ (.int .i64 Q.1.pol)).heap[bL]? =wl.heap[bL]?):=(hb3 bL hbs).trans hP1.out;have hS9:(((v1.setCell ⟨sb,0,none⟩ (.slice A5 Q.1.l.length c5)).setCell ⟨sb,1,none⟩ (.slice J5 Q.1.js.length d5)).setCell ⟨sb,2,none⟩ (.int .i64 Q.1.pol)).cell? ⟨bL,k,none⟩=some (.string ⟨x.toArray⟩):=by rw[Ych (w:=v1) (hb3 bL hbs)];exact hS1
         have hz9:bL<(((v1.setCell ⟨sb,0,none⟩ (.slice A5 Q.1.l.length c5)).setCell ⟨sb,1,none⟩ (.slice J5 Q.1.js.length d5)).setCell ⟨sb,2,none⟩ (.int .i64 Q.1.pol)).heap.size:=zlt (zlt hlt0 b1.size) (by simp);clear hb3;go_simp
         refine hK _ hS9 ?_;clear hK x0 x1 x2 xf;generalize World.setCell (World.setCell (World.setCell v1 _ _) _ _) _ _=v9 at BF q9 hT9 hJ9 hP9 hS9 hz9⊢;refine tq 19 7 (.string ⟨Q.2.toArray⟩) rfl (fun _ _=>rfl) hS9 ?_;refine wpAnyH_done (by kernel_rfl) ?_ _;go_wp2_with fail;go_roundw
         case rel=>exact⟨k+1,Q.1,o++Q.2,A5,c5,J5,d5,by simp only[←Qn],by go_num,by omega,HC2,hG2,hol2,HA5,hT9,hJ9,q9,hP9,hz9,BF⟩
         case measure=>simp[intOf];omega
        ·have e1:((bc.toNat:Int) !=32)=true:=by
          rw[Ydm];intro e;exact he (UInt8.toNat_inj.1 (by have:(32:UInt8).toNat=32:=rfl;omega))
         have hno2:Hid (∀(j:Nat) (hj:j<x.length),j<m+1→x[j]≠32):=by
          intro j hj hjm;by_cases e:j=m
          ·subst e;rw[hbE];exact he
          ·exact hno.out j hj (by omega)
         go_wp2_with fail;go_roundw
         case rel=>exact⟨m+1,by go_num,by omega,hno2,by trivial⟩
         case measure=>simp[intOf];omega
       ·obtain rfl:m=x.length:=by omega
        have hQ1:qj3 s (qj1 s x)=Q:=by rw[←q6o (fun j hj=>hno.out j hj hj) s];exact hQ
        have KQ:=fun v h g=>quf s hG A c J d x v h g HA.out
        simp only[hQ1] at KQ;go_upto_region 17 with fail;refine wp_region_held (S:=fun w'=>w'.cell? ⟨bL,k,none⟩=some (.string ⟨x.toArray⟩)) (by kernel_rfl) ?_;change wpAnyH _ _ _ _ _ _ _ _ (World.drew _);have K0:Below w.heap.size w (World.drew wr):=zdr hb;have q0:(World.drew wr).heap[sb]? =some (sC s A c J d):=hst;have hP0:Hid ((World.drew wr).heap[bL]? =wl.heap[bL]?):=hP;have hS0:(World.drew wr).cell? ⟨bL,k,none⟩=some (.string ⟨x.toArray⟩):=hx;have h0:=hTS.keep (zdr (Below.refl wr.heap.size wr));have g0:=hJS.keep (zdr (Below.refl wr.heap.size wr));have hlt0:bL<(World.drew wr).heap.size:=hbl;generalize World.drew wr=v0 at K0 q0 hP0 hS0 h0 g0 hlt0⊢;refine tq 1 64 (.slice (some ⟨bL,0,none⟩) L.length cL) rfl (fun _ _=>rfl) hS0 ?_;refine tq 2 65 (.int .i64 (k:Int)) rfl (fun _ _=>rfl) hS0 ?_;refine tq 3 66 (.pointer (some ⟨bL,k,none⟩)) rfl (fun w _=>by go_simp<;>(first|omega|(simp;omega))) hS0 ?_;refine tq 4 67 (.string ⟨x.toArray⟩) rfl (fun w hS=>by have hS1:=hS;go_simp) hS0 ?_;refine tw 0 ?_;refine Vr 0 63 rfl (by rfl) ?_;intro K hK;obtain⟨x0,x1,x2⟩:=Qb q0;go_simp
        refine hK (sV s A c J d) _ hS0 ?_;clear hK;simp only[lsS,lsZ];refine tw 5 ?_;refine co 5 68 rfl 46 Tryz.func46 #[sV s A c J d,.string ⟨x.toArray⟩] (KQ _ h0 g0) ?_;rintro e v1 ⟨A5,c5,J5,d5,rfl,hA5,h5,g5,b1⟩;have K1:=Qa K0 b1;have q1:=bh b1 q0;have hP1:Hid (v1.heap[bL]? =wl.heap[bL]?):=(b1.block bL hlt0).trans hP0.out;have hS1:v1.cell? ⟨bL,k,none⟩=some (.string ⟨x.toArray⟩):=(b1.cell (p:=⟨bL,k,none⟩) hlt0).trans hS0;have HA5:=zhi hA5;clear hA5;refine⟨_,rfl,hS1,?_⟩;simp only[lsS,lsZ];refine tq 6 62 (.tuple #[ssV A5 Q.1.l.length c5 J5 Q.1.js.length d5 Q.1.pol,.string ⟨Q.2.toArray⟩]) rfl (fun _ _=>rfl) hS1 ?_;refine tq 7 69 (ssV A5 Q.1.l.length c5 J5 Q.1.js.length d5 Q.1.pol) rfl (fun w _=>by go_simp) hS1 ?_;refine tq 8 70 (.string ⟨Q.2.toArray⟩) rfl (fun w _=>by go_simp) hS1 ?_;refine tw 9 ?_;refine Vt 9 rfl (by rfl) ?_;intro K hK;obtain⟨x0,x1,x2⟩:=Qb q1;have xf:=fun i=>zfz q1 i
        have BF:=bst (bst (bst K1 (p:=⟨sb,0,none⟩) hsw (.slice A5 Q.1.l.length c5)) (p:=⟨sb,1,none⟩) hsw (.slice J5 Q.1.js.length d5)) (p:=⟨sb,2,none⟩) hsw (.int .i64 Q.1.pol);have q9:(((v1.setCell ⟨sb,0,none⟩ (.slice A5 Q.1.l.length c5)).setCell ⟨sb,1,none⟩ (.slice J5 Q.1.js.length d5)).setCell ⟨sb,2,none⟩ (.int .i64 Q.1.pol)).heap[sb]? =some (ssC A5 Q.1.l.length c5 J5 Q.1.js.length d5 Q.1.pol):=qa5 (i:=2) (qa5 (i:=1) (qa5 (i:=0) q1 _) _) _
        have hb3: ∀(b:Nat),b≠sb→(((v1.setCell ⟨sb,0,none⟩ (.slice A5 Q.1.l.length c5)).setCell ⟨sb,1,none⟩ (.slice J5 Q.1.js.length d5)).setCell ⟨sb,2,none⟩ (.int .i64 Q.1.pol)).heap[b]? =v1.heap[b]? :=by
         intro b hb;rw[Yab _ _ _ _ hb,Yab _ _ _ _ hb,Yab _ _ _ _ hb]
        have hT9:=q13 h5 q1 (w':=((v1.setCell ⟨sb,0,none⟩ (.slice A5 Q.1.l.length c5)).setCell ⟨sb,1,none⟩ (.slice J5 Q.1.js.length d5)).setCell ⟨sb,2,none⟩ (.int .i64 Q.1.pol)) (by simp) hb3;have hJ9:=q14 g5 q1 (w':=((v1.setCell ⟨sb,0,none⟩ (.slice A5 Q.1.l.length c5)).setCell ⟨sb,1,none⟩ (.slice J5 Q.1.js.length d5)).setCell ⟨sb,2,none⟩ (.int .i64 Q.1.pol)) (by simp) hb3;have hP9:Hid ((((v1.setCell ⟨sb,0,none⟩ (.slice A5 Q.1.l.length c5)).setCell ⟨sb,1,none⟩ (.slice J5 Q.1.js.length d5)).setCell ⟨sb,2,none⟩ (.int .i64 Q.1.pol)).heap[bL]? =wl.heap[bL]?):=(hb3 bL hbs).trans hP1.out;have hS9:(((v1.setCell ⟨sb,0,none⟩ (.slice A5 Q.1.l.length c5)).setCell ⟨sb,1,none⟩ (.slice J5 Q.1.js.length d5)).setCell ⟨sb,2,none⟩ (.int .i64 Q.1.pol)).cell? ⟨bL,k,none⟩=some (.string ⟨x.toArray⟩):=by rw[Ych (w:=v1) (hb3 bL hbs)];exact hS1
        have hz9:bL<(((v1.setCell ⟨sb,0,none⟩ (.slice A5 Q.1.l.length c5)).setCell ⟨sb,1,none⟩ (.slice J5 Q.1.js.length d5)).setCell ⟨sb,2,none⟩ (.int .i64 Q.1.pol)).heap.size:=zlt (zlt hlt0 b1.size) (by simp);clear hb3;go_simp
        refine hK _ hS9 ?_;clear hK x0 x1 x2 xf;generalize World.setCell (World.setCell (World.setCell v1 _ _) _ _) _ _=v9 at BF q9 hT9 hJ9 hP9 hS9 hz9⊢;refine tq 10 7 (.string ⟨Q.2.toArray⟩) rfl (fun _ _=>rfl) hS9 ?_;refine wpAnyH_done (by kernel_rfl) ?_ _;go_wp2_with fail;go_roundw
        case rel=>exact⟨k+1,Q.1,o++Q.2,A5,c5,J5,d5,by simp only[←Qn],by go_num,by omega,HC2,hG2,hol2,HA5,hT9,hJ9,q9,hP9,hz9,BF⟩
        case measure=>simp[intOf];omega
   ·obtain rfl:k=L.length:=by omega
    have hC1:=hC.out;rw[List.drop_length] at hC1;have hoR:o=R:=hC1;subst hoR;go_wp2_with fail;go_ret;exact⟨rfl,hb⟩
structure Mz (B:Nat) (w:World):Prop where
 mx:Mx B w
 err: ∃ev,w.cell? ⟨Tryz.laysC172_ren.g 15,0,none⟩=some ev∧(ev=.nilIface∨ ∃te pe,ev=.iface te pe)
 errLt:Tryz.laysC172_ren.g 15<B
 rng: ∃ev,w.cell? ⟨Tryz.laysC172_ren.g 16,0,none⟩=some ev∧(ev=.nilIface∨ ∃te pe,ev=.iface te pe)
 rngLt:Tryz.laysC172_ren.g 16<B
theorem Mz.keep{B:Nat}{w w':World}(h:Mz B w)(hb:Below B w w'):Mz B w':=by
 obtain⟨h1,⟨ev,h2,h3⟩,h4,⟨ev',h5,h6⟩,h7⟩:=h;exact⟨h1.keep hb,⟨ev,(hb.cell (p:=⟨Tryz.laysC172_ren.g 15,0,none⟩) h4).trans h2,h3⟩,h4,⟨ev',(hb.cell (p:=⟨Tryz.laysC172_ren.g 16,0,none⟩) h7).trans h5,h6⟩,h7⟩
theorem Mz.up{B B':Nat}{w:World}(h:Mz B w)(hB:B≤B'):Mz B' w:=⟨h.mx.up hB,h.err,zlt h.errLt hB,h.rng,zlt h.rngLt hB⟩
theorem q6q{s:List UInt8}{n:Int}(hl:s.length≤18)(h:Lib.atoi s=some n): -9223372036854775808≤n∧n≤9223372036854775807:=by
 have h1:=Lib.atoiAll_short s hl;rw[h] at h1;exact Lib.atoiAll_bounds h1
theorem q4u{s:List UInt8}{n:Int}(hl:s.length≤18)(h:Lib.atoi s=some n)(w:World):
  Calls Tryz.prog 136 #[.string ⟨s.toArray⟩] w fun e w'=>e=.returned (.tuple #[.int .i64 n,.nilIface])∧Below w.heap.size w w':=by
 refine(Tryz.strconv_Atoi ⟨s.toArray⟩ n (by rw[Lib.size_eq];exact hl) h w).mono ?_;rintro e w' ⟨rfl,t,rfl⟩;exact⟨rfl,Lib.bytesWorld_below w _ _⟩
theorem q6r{B:Nat}{s:List UInt8}(hl:s.length≤18)(h:Lib.atoi s=none){w:World}(hM:Mz B w):
  Calls Tryz.prog 136 #[.string ⟨s.toArray⟩] w fun e w'=>(∃N,e=.returned (.tuple #[.int .i64 0,.iface (Tryz.laysC172_ren.t 168) (.pointer (some ⟨N,0,none⟩))]))∧Below w.heap.size w w':=by
 obtain⟨ev,h2,h3⟩:=hM.err;have h1:=Lib.atoiAll_short s hl;rw[h] at h1;refine(Go.Proofs.Any.strconv_Atoi_syntax Tryz.laysC172 ⟨s.toArray⟩ (by rw[Lib.size_eq];show s.length≤_;omega) h1 ev w h2 h3).mono ?_;rintro e w' ⟨N,rfl,_,_,hb⟩;exact⟨⟨N,rfl⟩,hb⟩
theorem qbw{B:Nat}(s:List UInt8)(hl:s.length≤2000000){w:World}(hM:Mz B w):
  Calls Tryz.prog 136 #[.string ⟨s.toArray⟩] w fun e w'=>(∃v er,e=.returned (.tuple #[.int .i64 v,er]))∧Below w.heap.size w w':=by
 obtain⟨ev,h2,h3⟩:=hM.err;obtain⟨ev',h2',h3'⟩:=hM.rng;have hz:(ByteArray.mk s.toArray).size≤2000000:=by rw[Lib.size_eq];exact hl
 cases h:Lib.atoiAll s
 ·refine(Go.Proofs.Any.strconv_Atoi_ok Tryz.laysC172 ⟨s.toArray⟩ (by omega) _ h w).mono ?_;rintro e w' ⟨rfl,hw⟩;refine⟨⟨_,_,rfl⟩,?_⟩;rcases hw with rfl|⟨t,rfl⟩
  ·exact br
  ·exact Lib.bytesWorld_below w _ _
 ·refine(Go.Proofs.Any.strconv_Atoi_syntax Tryz.laysC172 ⟨s.toArray⟩ (by omega) h ev w h2 h3).mono ?_;rintro e w' ⟨N,rfl,_,_,hb⟩;exact⟨⟨_,_,rfl⟩,hb⟩
 ·refine(Go.Proofs.Any.strconv_Atoi_range Tryz.laysC172 ⟨s.toArray⟩ (by omega) h ev' w h2' h3').mono ?_;rintro e w' ⟨N,rfl,_,_,hb⟩;exact⟨⟨_,_,rfl⟩,hb⟩
theorem q4v{B:Nat}{w:World}(hM:Mx B w)(n:Int)(h0: -9223372036854775808≤n)(h1:n≤9223372036854775807):
  Calls Tryz.prog 38 #[.int .i64 n] w fun e w'=>e=.returned (.string ⟨(Lib.itoa n).toArray⟩)∧Below w.heap.size w w':=by
 refine(Tryz.strconv_Itoa n h0 h1 w hM.tab).mono ?_;rintro e w' ⟨rfl,k,os,rfl⟩;exact⟨rfl,Lib.below_grow _ w (zlr _) k os⟩
theorem qzb(s:List UInt8):s.length≤(Lib.trimPrefix s [45]).length+1:=by
 by_cases h:s.head?=some 45
 ·cases s with
  |nil=>simp at h
  |cons a r=>
   obtain rfl:a=45:=by simpa using h
   rw[qhh];simp
 ·rw[qem h];omega
def q6s(s:List UInt8)(w:World)(e:Ending)(w':World):Prop:= ∃n,e=.returned (.tuple #[.int .i64 n,.bool (qdf s).isSome])∧(∀m,qdf s=some m→n=m)∧Below w.heap.size w w'
theorem qho{B:Nat}{w:World}(hM:Mz B w)(hB:B≤w.heap.size)(s:List UInt8)(hl:s.length≤1000000):
  Calls Tryz.prog 79 #[.string ⟨s.toArray⟩] w (q6s s w):=by
 have hT:(Lib.trimPrefix s [45]).length≤s.length:=by
  by_cases h:s.head?=some 45
  ·cases s with
   |nil=>simp at h
   |cons a r=>
    obtain rfl:a=45:=by simpa using h
    rw[qhh];simp
  ·rw[qem h];omega
 have hT1:=qzb s;have HY:=zhi (fun n (h:qdf s=some n)=>qna h);have HO:=zhi (fun n (h:Lib.itoa n=s)=>q1h h);go_enter Tryz.func79,Tryz.ntmps79;go_wp2_with fail;refine(Tryz.strings_TrimPrefix ⟨s.toArray⟩ ⟨#[45]⟩ _).mono ?_;rintro e w1 ⟨rfl,rfl⟩;have e45:Lib.trimPrefix (ByteArray.mk s.toArray).data.toList (ByteArray.mk #[45]).data.toList=Lib.trimPrefix s [45]:=rfl;rw[e45];generalize Lib.trimPrefix s [45]=T at*;by_cases h17:T.length≤17
 case neg=>
  have HN:Hid (qdf s=none):=by
   cases h:qdf s with
   |none=>rfl
   |some n=>exact absurd (HY.out n h).2.2.1 h17
  have e1:decide ((T.length:Int)>17)=true:=Yag (by omega);have e2:(17:Int)<(T.length:Int):=by omega
  clear h17;go_wp2_with fail;go_ret2;exact⟨0,by rw[HN.out];rfl,(fun m hm=>by rw[HN.out] at hm;cases hm),br⟩
 have h18:s.length≤18:=by omega
 have e1:decide ((T.length:Int)>17)=false:=Yaf (by omega);have e2: ¬(17:Int)<(T.length:Int):=by omega
 have H17:=zhi h17;cases ha:Lib.atoi s with
 |none=>
  have HN:Hid (qdf s=none):=by
   cases h:qdf s with
   |none=>rfl
   |some n=>exact absurd (HY.out n h).2.1 (by rw[ha];simp)
  have K:=q6r h18 ha hM;clear h17 ha h18;go_wp2_with fail;refine K.mono ?_;rintro e w2 ⟨⟨N,rfl⟩,b2⟩;go_wp2_with fail;go_ret2;exact⟨0,by rw[HN.out];rfl,(fun m hm=>by rw[HN.out] at hm;cases hm),b2⟩
 |some n=>
  have K:=q4u h18 ha w1;obtain⟨n0,n1⟩:=q6q h18 ha;have HA:=zhi ha;clear h17 ha h18;go_wp2_with fail;refine K.mono ?_;rintro e w2 ⟨rfl,b2⟩;go_wp2_with fail;refine(q4v (hM.mx.keep (b2.mono hB)) n n0 n1).mono ?_;rintro e w3 ⟨rfl,b3⟩;by_cases hq:Lib.itoa n=s
  ·have HN:=zhi (HO.out n hq H17.out);rw[hq];have eqF:((ByteArray.mk s.toArray).toList==(ByteArray.mk s.toArray).toList)=true:=Yec _;clear hq;go_wp2_with fail;go_ret2;exact⟨n,by rw[HN.out];rfl,(fun m hm=>by rw[HN.out] at hm;injection hm),Qa b2 b3⟩
  ·have HN:Hid (qdf s=none):=by
    cases h:qdf s with
    |none=>rfl
    |some m=>
     obtain⟨y1,y2,_,_⟩:=HY.out m h;rw[HA.out] at y2;injection y2 with y2
     rw[←y2] at y1;exact absurd y1 hq
   have eqF:(Lib.itoa n==s)=false:=beq_eq_false_iff_ne.2 hq;generalize Lib.itoa n=F at eqF⊢;clear hq;go_wp2_with fail;go_ret2;exact⟨n,by rw[HN.out];rfl,(fun m hm=>by rw[HN.out] at hm;cases hm),Qa b2 b3⟩
theorem qq0(s sep:List UInt8):(Lib.cut s sep).1.length≤s.length∧(Lib.cut s sep).2.1.length≤s.length:=by
 unfold Lib.cut;split
 ·simp;exact Nat.min_le_right _ _
 ·simp
theorem ql1(s:List UInt8)(hl:s.length≤1000000)(w:World)(hM:Mz w.heap.size w)(hN:tkO s=none):
  Calls Tryz.prog 131 #[.string ⟨s.toArray⟩] w fun e w'=>e=.returned (qla none)∧Below w.heap.size w w':=by
 have HN:=zhi hN;obtain⟨a,b,f1,hC1⟩: ∃a b f1,Lib.cut s [32,101,118,101,114,121,32]=(a,b,f1):=⟨_,_,_,rfl⟩;obtain⟨a1,a2,f2,hC2⟩: ∃a1 a2 f2,Lib.cut a [47]=(a1,a2,f2):=⟨_,_,_,rfl⟩;obtain⟨b1',b2',f3,hC3⟩: ∃b1 b2 f3,Lib.cut b [32,98,121,32]=(b1,b2,f3):=⟨_,_,_,rfl⟩;have l1:=qq0 s [32,101,118,101,114,121,32];have l2:=qq0 a [47];have l3:=qq0 b [32,98,121,32];rw[hC1] at l1;rw[hC2] at l2;rw[hC3] at l3;dsimp only at l1 l2 l3;obtain⟨l11,l12⟩:=l1;obtain⟨l21,l22⟩:=l2;obtain⟨l31,l32⟩:=l3;have HC1:=zhi hC1;have HC2:=zhi hC2;have HC3:=zhi hC3;clear hC1 hC2 hC3 hN;go_enter Tryz.func131,Tryz.ntmps131;go_wp2_with fail;refine(qb0 HC1.out (hM.mx.keep (bal br _)) (by omega)).mono ?_;rintro e w1 ⟨rfl,b1⟩;cases f1 with
 |false=>
  have B1:=Qa (bal (Below.refl w.heap.size w) _) b1;have r1:=(b1.block w.heap.size (by simp)).trans (zha w (.cells #[.int .i64 0,.int .i64 0,.int .i64 0,.int .i64 0,.bool false] 58 (0,0)));obtain⟨r0,r1,r2,r3,r4,rf⟩:=Qc r1;clear b1;go_wp2_with fail;refine bodyPost_ret (v:=qla none) (by simp[results,Tryz.results131,go_sem,r0,r1,r2,r3,r4];rfl) rfl ⟨rfl,?_⟩;exact bst (bst (bst (bst (bst B1 (p:=⟨w.heap.size,0,none⟩) (zlr _) _) (p:=⟨w.heap.size,1,none⟩) (zlr _) _) (p:=⟨w.heap.size,2,none⟩) (zlr _) _) (p:=⟨w.heap.size,3,none⟩) (zlr _) _) (p:=⟨w.heap.size,4,none⟩) (zlr _) _
 |true=>
  have X:Bx w w1.heap.size (w1.alloc (.cells #[.int .i64 0,.int .i64 0,.int .i64 0,.int .i64 0,.bool false] 58 (0,0))) ⟨0,0,0,0,false⟩:=⟨zha _ _,(Yaj w1 _ w.heap.size (zlt (by simp) b1.size)).trans ((b1.block w.heap.size (by simp)).trans (zha w _)),bal (Qa (bal br _) b1) _,zlt (by simp) b1.size⟩;clear b1;go_wp2_with fail;refine(qb0 HC2.out (hM.mx.keep X.b) (by omega)).mono ?_;rintro e w2 ⟨rfl,b2⟩;replace X:=X.keep b2;clear b2;go_wp2_with fail;refine(qb0 HC3.out (hM.mx.keep X.b) (by omega)).mono ?_;rintro e w3 ⟨rfl,b3⟩;replace X:=X.keep b3;clear b3;generalize w1.heap.size=g at X⊢;cases f2 with
  |true=>
   cases f3 with
   |true=>
    go_wp2_with fail;refine(qbw a1 (by omega) (hM.keep X.b)).mono ?_;rintro e w4 ⟨⟨lo,er4,rfl⟩,b4⟩;replace X:=X.keep b4;clear b4;obtain⟨t0,t1,t2,t3,t4,tf⟩:=Qc X.t;go_wp2_with fail;clear t0 t1 t2 t3 t4 tf;replace X:=X.st (t':=⟨lo,0,0,0,false⟩) 0 (.int .i64 lo) rfl;replace X:=X.st (t':=⟨lo,lo,0,0,false⟩) 1 (.int .i64 lo) rfl;refine(qbw a2 (by omega) (hM.keep X.b)).mono ?_;rintro e w5 ⟨⟨hi,er5,rfl⟩,b5⟩;replace X:=X.keep b5;clear b5;obtain⟨t0,t1,t2,t3,t4,tf⟩:=Qc X.t;go_wp2_with fail;clear t0 t1 t2 t3 t4 tf;replace X:=X.st (t':=⟨lo,hi,0,0,false⟩) 1 (.int .i64 hi) rfl;replace X:=X.st (t':=⟨lo,hi,0,0,true⟩) 4 (.bool true) rfl;refine(qbw b1' (by omega) (hM.keep X.b)).mono ?_;rintro e w6 ⟨⟨ev,er6,rfl⟩,b6⟩;replace X:=X.keep b6;clear b6;obtain⟨t0,t1,t2,t3,t4,tf⟩:=Qc X.t;go_wp2_with fail;clear t0 t1 t2 t3 t4 tf;replace X:=X.st (t':=⟨lo,hi,0,ev,true⟩) 3 (.int .i64 ev) rfl;replace X:=X.st (t':=⟨lo,hi,ev,ev,true⟩) 2 (.int .i64 ev) rfl;refine(qbw b2' (by omega) (hM.keep X.b)).mono ?_;rintro e w7 ⟨⟨du,er7,rfl⟩,b7⟩;replace X:=X.keep b7;clear b7;obtain⟨t0,t1,t2,t3,t4,tf⟩:=Qc X.t;go_wp2_with fail;clear t0 t1 t2 t3 t4 tf;replace X:=X.st (t':=⟨lo,hi,du,ev,true⟩) 2 (.int .i64 du) rfl;refine(Vc ⟨lo,hi,du,ev,true⟩ _).mono ?_
    have HN2:Hid (vld ⟨lo,hi,du,ev,true⟩=true→Qr ⟨lo,hi,du,ev,true⟩≠s):=by
     intro hv;rw[qbf hv];exact qhk HN.out _ hv
    generalize(⟨lo,hi,du,ev,true⟩:Tk)=u at X HN2⊢;cases hv:vld u with
    |false=>
     rintro e w8 ⟨rfl,b8⟩;replace X:=X.keep b8;clear b8 hv;obtain⟨t0,t1,t2,t3,t4,tf⟩:=Qc X.t;obtain⟨r0,r1,r2,r3,r4,rf⟩:=Qc X.r;go_wp2_with fail;refine bodyPost_ret (v:=qla none) (by simp[results,Tryz.results131,go_sem,r0,r1,r2,r3,r4];rfl) rfl ⟨rfl,?_⟩;exact bst (bst (bst (bst (bst X.b (p:=⟨w.heap.size,0,none⟩) (zlr _) _) (p:=⟨w.heap.size,1,none⟩) (zlr _) _) (p:=⟨w.heap.size,2,none⟩) (zlr _) _) (p:=⟨w.heap.size,3,none⟩) (zlr _) _) (p:=⟨w.heap.size,4,none⟩) (zlr _) _
    |true=>
     rintro e w8 ⟨rfl,b8⟩;replace X:=X.keep b8;have hF:=HN2.out hv;clear b8 hv;obtain⟨t0,t1,t2,t3,t4,tf⟩:=Qc X.t;go_wp2_with fail;clear t0 t1 t2 t3 t4 tf;refine(Vz u _).mono ?_;rintro e w9 ⟨rfl,b9⟩;have hq:(Qr u==s)=false:=beq_eq_false_iff_ne.2 hF;generalize Qr u=F at hq⊢;clear hF;replace X:=X.keep b9;clear b9;obtain⟨t0,t1,t2,t3,t4,tf⟩:=Qc X.t;obtain⟨r0,r1,r2,r3,r4,rf⟩:=Qc X.r;go_wp2_with fail;refine bodyPost_ret (v:=qla none) (by simp[results,Tryz.results131,go_sem,r0,r1,r2,r3,r4];rfl) rfl ⟨rfl,?_⟩;exact bst (bst (bst (bst (bst X.b (p:=⟨w.heap.size,0,none⟩) (zlr _) _) (p:=⟨w.heap.size,1,none⟩) (zlr _) _) (p:=⟨w.heap.size,2,none⟩) (zlr _) _) (p:=⟨w.heap.size,3,none⟩) (zlr _) _) (p:=⟨w.heap.size,4,none⟩) (zlr _) _
   |false=>
    go_wp2_with fail;refine(qbw a1 (by omega) (hM.keep X.b)).mono ?_;rintro e w4 ⟨⟨lo,er4,rfl⟩,b4⟩;replace X:=X.keep b4;clear b4;obtain⟨t0,t1,t2,t3,t4,tf⟩:=Qc X.t;go_wp2_with fail;clear t0 t1 t2 t3 t4 tf;replace X:=X.st (t':=⟨lo,0,0,0,false⟩) 0 (.int .i64 lo) rfl;replace X:=X.st (t':=⟨lo,lo,0,0,false⟩) 1 (.int .i64 lo) rfl;refine(qbw a2 (by omega) (hM.keep X.b)).mono ?_;rintro e w5 ⟨⟨hi,er5,rfl⟩,b5⟩;replace X:=X.keep b5;clear b5;obtain⟨t0,t1,t2,t3,t4,tf⟩:=Qc X.t;go_wp2_with fail;clear t0 t1 t2 t3 t4 tf;replace X:=X.st (t':=⟨lo,hi,0,0,false⟩) 1 (.int .i64 hi) rfl;replace X:=X.st (t':=⟨lo,hi,0,0,true⟩) 4 (.bool true) rfl;refine(qbw b1' (by omega) (hM.keep X.b)).mono ?_;rintro e w6 ⟨⟨ev,er6,rfl⟩,b6⟩;replace X:=X.keep b6;clear b6;obtain⟨t0,t1,t2,t3,t4,tf⟩:=Qc X.t;go_wp2_with fail;clear t0 t1 t2 t3 t4 tf;replace X:=X.st (t':=⟨lo,hi,0,ev,true⟩) 3 (.int .i64 ev) rfl;replace X:=X.st (t':=⟨lo,hi,ev,ev,true⟩) 2 (.int .i64 ev) rfl;refine(Vc ⟨lo,hi,ev,ev,true⟩ _).mono ?_
    have HN2:Hid (vld ⟨lo,hi,ev,ev,true⟩=true→Qr ⟨lo,hi,ev,ev,true⟩≠s):=by
     intro hv;rw[qbf hv];exact qhk HN.out _ hv
    generalize(⟨lo,hi,ev,ev,true⟩:Tk)=u at X HN2⊢;cases hv:vld u with
    |false=>
     rintro e w8 ⟨rfl,b8⟩;replace X:=X.keep b8;clear b8 hv;obtain⟨t0,t1,t2,t3,t4,tf⟩:=Qc X.t;obtain⟨r0,r1,r2,r3,r4,rf⟩:=Qc X.r;go_wp2_with fail;refine bodyPost_ret (v:=qla none) (by simp[results,Tryz.results131,go_sem,r0,r1,r2,r3,r4];rfl) rfl ⟨rfl,?_⟩;exact bst (bst (bst (bst (bst X.b (p:=⟨w.heap.size,0,none⟩) (zlr _) _) (p:=⟨w.heap.size,1,none⟩) (zlr _) _) (p:=⟨w.heap.size,2,none⟩) (zlr _) _) (p:=⟨w.heap.size,3,none⟩) (zlr _) _) (p:=⟨w.heap.size,4,none⟩) (zlr _) _
    |true=>
     rintro e w8 ⟨rfl,b8⟩;replace X:=X.keep b8;have hF:=HN2.out hv;clear b8 hv;obtain⟨t0,t1,t2,t3,t4,tf⟩:=Qc X.t;go_wp2_with fail;clear t0 t1 t2 t3 t4 tf;refine(Vz u _).mono ?_;rintro e w9 ⟨rfl,b9⟩;have hq:(Qr u==s)=false:=beq_eq_false_iff_ne.2 hF;generalize Qr u=F at hq⊢;clear hF;replace X:=X.keep b9;clear b9;obtain⟨t0,t1,t2,t3,t4,tf⟩:=Qc X.t;obtain⟨r0,r1,r2,r3,r4,rf⟩:=Qc X.r;go_wp2_with fail;refine bodyPost_ret (v:=qla none) (by simp[results,Tryz.results131,go_sem,r0,r1,r2,r3,r4];rfl) rfl ⟨rfl,?_⟩;exact bst (bst (bst (bst (bst X.b (p:=⟨w.heap.size,0,none⟩) (zlr _) _) (p:=⟨w.heap.size,1,none⟩) (zlr _) _) (p:=⟨w.heap.size,2,none⟩) (zlr _) _) (p:=⟨w.heap.size,3,none⟩) (zlr _) _) (p:=⟨w.heap.size,4,none⟩) (zlr _) _
  |false=>
   cases f3 with
   |true=>
    go_wp2_with fail;refine(qbw a1 (by omega) (hM.keep X.b)).mono ?_;rintro e w4 ⟨⟨lo,er4,rfl⟩,b4⟩;replace X:=X.keep b4;clear b4;obtain⟨t0,t1,t2,t3,t4,tf⟩:=Qc X.t;go_wp2_with fail;clear t0 t1 t2 t3 t4 tf;replace X:=X.st (t':=⟨lo,0,0,0,false⟩) 0 (.int .i64 lo) rfl;replace X:=X.st (t':=⟨lo,lo,0,0,false⟩) 1 (.int .i64 lo) rfl;replace X:=X.st (t':=⟨lo,lo,0,0,false⟩) 4 (.bool false) rfl;refine(qbw b1' (by omega) (hM.keep X.b)).mono ?_;rintro e w6 ⟨⟨ev,er6,rfl⟩,b6⟩;replace X:=X.keep b6;clear b6;obtain⟨t0,t1,t2,t3,t4,tf⟩:=Qc X.t;go_wp2_with fail;clear t0 t1 t2 t3 t4 tf;replace X:=X.st (t':=⟨lo,lo,0,ev,false⟩) 3 (.int .i64 ev) rfl;replace X:=X.st (t':=⟨lo,lo,ev,ev,false⟩) 2 (.int .i64 ev) rfl;refine(qbw b2' (by omega) (hM.keep X.b)).mono ?_;rintro e w7 ⟨⟨du,er7,rfl⟩,b7⟩;replace X:=X.keep b7;clear b7;obtain⟨t0,t1,t2,t3,t4,tf⟩:=Qc X.t;go_wp2_with fail;clear t0 t1 t2 t3 t4 tf;replace X:=X.st (t':=⟨lo,lo,du,ev,false⟩) 2 (.int .i64 du) rfl;refine(Vc ⟨lo,lo,du,ev,false⟩ _).mono ?_
    have HN2:Hid (vld ⟨lo,lo,du,ev,false⟩=true→Qr ⟨lo,lo,du,ev,false⟩≠s):=by
     intro hv;rw[qbf hv];exact qhk HN.out _ hv
    generalize(⟨lo,lo,du,ev,false⟩:Tk)=u at X HN2⊢;cases hv:vld u with
    |false=>
     rintro e w8 ⟨rfl,b8⟩;replace X:=X.keep b8;clear b8 hv;obtain⟨t0,t1,t2,t3,t4,tf⟩:=Qc X.t;obtain⟨r0,r1,r2,r3,r4,rf⟩:=Qc X.r;go_wp2_with fail;refine bodyPost_ret (v:=qla none) (by simp[results,Tryz.results131,go_sem,r0,r1,r2,r3,r4];rfl) rfl ⟨rfl,?_⟩;exact bst (bst (bst (bst (bst X.b (p:=⟨w.heap.size,0,none⟩) (zlr _) _) (p:=⟨w.heap.size,1,none⟩) (zlr _) _) (p:=⟨w.heap.size,2,none⟩) (zlr _) _) (p:=⟨w.heap.size,3,none⟩) (zlr _) _) (p:=⟨w.heap.size,4,none⟩) (zlr _) _
    |true=>
     rintro e w8 ⟨rfl,b8⟩;replace X:=X.keep b8;have hF:=HN2.out hv;clear b8 hv;obtain⟨t0,t1,t2,t3,t4,tf⟩:=Qc X.t;go_wp2_with fail;clear t0 t1 t2 t3 t4 tf;refine(Vz u _).mono ?_;rintro e w9 ⟨rfl,b9⟩;have hq:(Qr u==s)=false:=beq_eq_false_iff_ne.2 hF;generalize Qr u=F at hq⊢;clear hF;replace X:=X.keep b9;clear b9;obtain⟨t0,t1,t2,t3,t4,tf⟩:=Qc X.t;obtain⟨r0,r1,r2,r3,r4,rf⟩:=Qc X.r;go_wp2_with fail;refine bodyPost_ret (v:=qla none) (by simp[results,Tryz.results131,go_sem,r0,r1,r2,r3,r4];rfl) rfl ⟨rfl,?_⟩;exact bst (bst (bst (bst (bst X.b (p:=⟨w.heap.size,0,none⟩) (zlr _) _) (p:=⟨w.heap.size,1,none⟩) (zlr _) _) (p:=⟨w.heap.size,2,none⟩) (zlr _) _) (p:=⟨w.heap.size,3,none⟩) (zlr _) _) (p:=⟨w.heap.size,4,none⟩) (zlr _) _
   |false=>
    go_wp2_with fail;refine(qbw a1 (by omega) (hM.keep X.b)).mono ?_;rintro e w4 ⟨⟨lo,er4,rfl⟩,b4⟩;replace X:=X.keep b4;clear b4;obtain⟨t0,t1,t2,t3,t4,tf⟩:=Qc X.t;go_wp2_with fail;clear t0 t1 t2 t3 t4 tf;replace X:=X.st (t':=⟨lo,0,0,0,false⟩) 0 (.int .i64 lo) rfl;replace X:=X.st (t':=⟨lo,lo,0,0,false⟩) 1 (.int .i64 lo) rfl;replace X:=X.st (t':=⟨lo,lo,0,0,false⟩) 4 (.bool false) rfl;refine(qbw b1' (by omega) (hM.keep X.b)).mono ?_;rintro e w6 ⟨⟨ev,er6,rfl⟩,b6⟩;replace X:=X.keep b6;clear b6;obtain⟨t0,t1,t2,t3,t4,tf⟩:=Qc X.t;go_wp2_with fail;clear t0 t1 t2 t3 t4 tf;replace X:=X.st (t':=⟨lo,lo,0,ev,false⟩) 3 (.int .i64 ev) rfl;replace X:=X.st (t':=⟨lo,lo,ev,ev,false⟩) 2 (.int .i64 ev) rfl;refine(Vc ⟨lo,lo,ev,ev,false⟩ _).mono ?_
    have HN2:Hid (vld ⟨lo,lo,ev,ev,false⟩=true→Qr ⟨lo,lo,ev,ev,false⟩≠s):=by
     intro hv;rw[qbf hv];exact qhk HN.out _ hv
    generalize(⟨lo,lo,ev,ev,false⟩:Tk)=u at X HN2⊢;cases hv:vld u with
    |false=>
     rintro e w8 ⟨rfl,b8⟩;replace X:=X.keep b8;clear b8 hv;obtain⟨t0,t1,t2,t3,t4,tf⟩:=Qc X.t;obtain⟨r0,r1,r2,r3,r4,rf⟩:=Qc X.r;go_wp2_with fail;refine bodyPost_ret (v:=qla none) (by simp[results,Tryz.results131,go_sem,r0,r1,r2,r3,r4];rfl) rfl ⟨rfl,?_⟩;exact bst (bst (bst (bst (bst X.b (p:=⟨w.heap.size,0,none⟩) (zlr _) _) (p:=⟨w.heap.size,1,none⟩) (zlr _) _) (p:=⟨w.heap.size,2,none⟩) (zlr _) _) (p:=⟨w.heap.size,3,none⟩) (zlr _) _) (p:=⟨w.heap.size,4,none⟩) (zlr _) _
    |true=>
     rintro e w8 ⟨rfl,b8⟩;replace X:=X.keep b8;have hF:=HN2.out hv;clear b8 hv;obtain⟨t0,t1,t2,t3,t4,tf⟩:=Qc X.t;go_wp2_with fail;clear t0 t1 t2 t3 t4 tf;refine(Vz u _).mono ?_;rintro e w9 ⟨rfl,b9⟩;have hq:(Qr u==s)=false:=beq_eq_false_iff_ne.2 hF;generalize Qr u=F at hq⊢;clear hF;replace X:=X.keep b9;clear b9;obtain⟨t0,t1,t2,t3,t4,tf⟩:=Qc X.t;obtain⟨r0,r1,r2,r3,r4,rf⟩:=Qc X.r;go_wp2_with fail;refine bodyPost_ret (v:=qla none) (by simp[results,Tryz.results131,go_sem,r0,r1,r2,r3,r4];rfl) rfl ⟨rfl,?_⟩;exact bst (bst (bst (bst (bst X.b (p:=⟨w.heap.size,0,none⟩) (zlr _) _) (p:=⟨w.heap.size,1,none⟩) (zlr _) _) (p:=⟨w.heap.size,2,none⟩) (zlr _) _) (p:=⟨w.heap.size,3,none⟩) (zlr _) _) (p:=⟨w.heap.size,4,none⟩) (zlr _) _
theorem qdt(s:List UInt8)(hl:s.length≤1000000)(w:World)(hM:Mz w.heap.size w):
  Calls Tryz.prog 131 #[.string ⟨s.toArray⟩] w fun e w'=>e=.returned (qla (tkO s))∧Below w.heap.size w w':=by
 cases h:tkO s with
 |none=>exact ql1 s hl w hM h
 |some t=>
  obtain⟨hv,hs⟩:=qhj h;rw[←hs];exact qo9 t hv w hM.mx
end Go.Proofs.YtmkjmancmiphfaaGreatDoor
