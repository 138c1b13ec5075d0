/-
  l9Ways, PackAny: the reference's.
  FewestFor: the program's and the reference's.
  Words of the reference without a rest: show, places, deadlines, sort, assign.
  Words of the reference without a rest: holds, responses, shares, factor, fewest.
  The reference's words without a rest, whatever they are.
-/
import Derived.Test.YtmkjmancmiphfaaGreatDoorRb39
namespace Go.Proofs.YtmkjmancmiphfaaGreatDoor
set_option maxHeartbeats 8000000
set_option maxRecDepth 1000000
open Go.RowKit
def qvg(m:Nat):Nat→List Int→List (List Int)
 |0,bs=>[bs]
 |k+1,bs=>(List.range m).flatMap (fun(p:Nat)=>qvg m k (bs++[(p:Int)]))
theorem q43: ∀m<4,∀n<6,qvg m n []=(List.range (m^n)).map (way m n):=by decide+kernel
def qjd(m k:Nat)(bs:List Int)(q:Nat):List (List Int):=(List.range q).flatMap (fun(p:Nat)=>qvg m k (bs++[(p:Int)]))
theorem qlh(m k:Nat)(bs:List Int)(q:Nat):qjd m k bs (q+1)=qjd m k bs q++qvg m k (bs++[(q:Int)]):=by simp[qjd,List.range_succ]
theorem qz0(m k:Nat)(bs:List Int):qvg m (k+1) bs=qjd m k bs m:=rfl
theorem qvh(m k:Nat)(bs:List Int):(qvg m k bs).length=m^k:=by
 induction k generalizing bs with
 |zero=>rfl
 |succ k ih=>
  rw[qz0];suffices hs: ∀q,(qjd m k bs q).length=q*m^k by rw[hs,Nat.pow_succ,Nat.mul_comm]
  intro q;induction q with
  |zero=>simp[qjd]
  |succ q ihq=>rw[qlh,List.length_append,ihq,ih,Nat.succ_mul]
theorem qz1(m k:Nat)(bs:List Int)(q:Nat):(qjd m k bs q).length=q*m^k:=by
 induction q with
 |zero=>simp[qjd]
 |succ q ih=>rw[qlh,List.length_append,ih,qvh,Nat.succ_mul]
abbrev RwP:=ZA×List Int×Nat
def q5s(x:RwP):Value:=.slice x.1 x.2.1.length x.2.2
def OR(ob base:Nat)(w:World)(A:ZA)(c:Nat)(xs:List RwP):Prop:=
 w.ownsRow ob 27 1 (.slice A xs.length c) xs.length (xs.map q5s)∧ ∀x∈xs,OI base w x.1 x.2.2 x.2.1
theorem q61:(Tryz.prog.info? 27).map (fun i=>(i.zero,i.size,i.bytes))=some (some (.slice none 0 0),1,24):=by kernel_rfl
theorem q62{ob base:Nat}{w w':World}{A:ZA}{c:Nat}{xs:List RwP}(h:OR ob base w A c xs)(hb:Below w.heap.size w w'):OR ob base w' A c xs:=
 ⟨qe2 h.1 hb,fun x hx=>qa1 (h.2 x hx) hb⟩
theorem qyw{base base2:Nat}{w w':World}{A B:ZA}{c d n:Nat}{vs:List Value}{r:List Int}(h:OI base w B d r)(k:w.ownsRow base2 27 1 (.slice A n c) n vs)(hg:w.grownBy w' (Value.slice A n c).ownBlock):OI base w' B d r:=by
 refine World.ownsRow.kept h hg ?_;rcases h.2 with⟨hv,_⟩|⟨g,cap,cur,hv,_,hh,_⟩
 ·exact .inl (by rw[hv];rfl)
 ·refine .inr ?_;rcases k.2 with⟨kv,_⟩|⟨g2,cap2,cur2,kv,_,kh,_⟩
  ·rw[hv,kv];simp[Value.ownBlock]
  ·rw[hv,kv];intro e;have:g=g2:=by simpa [Value.ownBlock] using e
   subst this;rw[hh] at kh;injection kh with kh
   injection kh with _ kt _
   revert kt
   decide
theorem q21{ob base:Nat}{w:World}{A:ZA}{c:Nat}{xs:List RwP}(h:OR ob base w A c xs)(hl:0<xs.length): ∃b,A=some ⟨b,0,none⟩∧ob≤b∧b<w.heap.size:=by
 rcases h.1.2 with⟨_,h0⟩|⟨g,cap,cur,hv,hg,hh,_⟩
 ·omega
 ·injection hv with hA
  exact⟨g,hA,hg,(bl hh)⟩
theorem q22{ob base:Nat}{w:World}{b c:Nat}{xs:List RwP}(h:OR ob base w (some ⟨b,0,none⟩) c xs)(k:Nat)(x:RwP)(hx:xs[k]? =some x):w.cell? ⟨b,k,none⟩=some (q5s x):=by
 have:=World.ownsRow.cells h.1 (g:=b) rfl k (q5s x) (by rw[List.getElem?_map,hx];rfl);rwa [qb5] at this
theorem qpo(w:World){ops:Array Oper}{rest:List Oper}{o:Oper}{a:Act}{Q:Exit→Act→World→Prop}(hgd:o.guard=none)(s x:Operand)
  (ho:o.op=.call {callee:=.builtin .append,args:=#[s,x],argTypes:=#[195,195]})
  (ob ob2 base:Nat) (A:ZA) (l:List RwP) (c:Nat) (hs:a.eval s=.slice A l.length c) (hown:OR ob base w A c l)
  (b c1:Nat) (m:List RwP) (hx:a.eval x=.slice (some ⟨b,0,none⟩) m.length c1) (hm:OR ob2 base w (some ⟨b,0,none⟩) c1 m)
  (hl:l.length≤2000000) (hlm:m.length≤2000000) (hbase:ob≤w.heap.size)
  (h: ∀A' c' w',OR ob base w' A' c' (l++m)→Below ob w w'→wpList Tryz.prog ops Q rest (a.put o.dst (.slice A' (l.length+m.length) c')) w'):wpList Tryz.prog ops Q (o::rest) a w:=by
 obtain⟨i0,hi,hz0,hz1,hz2⟩:=info_parts q61
 refine wpList_append_own w hgd s x 195 ho ob 27 i0 _ 1 24 Tryz.underlying195 hi hz0 hz1 hz2 rfl (by decide) (.slice A l.length c) l.length (l.map q5s) hs hown.1
  ⟨b,0,none⟩ m.length c1 (m.map q5s) hx (by simp) ?_ ?_ (by unfold maxLen;omega) (by omega) hbase ?_
 ·intro j u hj;rw[List.getElem?_map] at hj;obtain⟨y,hy,rfl⟩:=Option.map_eq_some_iff.1 hj;rw[qb5];exact q22 hm j y hy
 ·intro u hu;obtain⟨y,_,rfl⟩:=List.mem_map.1 hu;rfl
 ·intro v' w' hown' hg _;obtain⟨A',c',rfl⟩:=qeh hown';refine h A' c' w' ⟨?_,fun y hy=>?_⟩ (qb0 hown.1 hg hbase)
  ·rw[List.length_append,List.map_append];exact hown'
  ·rcases List.mem_append.1 hy with hy|hy
   ·exact qyw (hown.2 y hy) hown.1 hg
   ·exact qyw (hm.2 y hy) hown.1 hg
theorem q44(w:World)(ob base:Nat)(hb:ob≤w.heap.size):OR ob base (w.alloc (.cells #[] 27)) (some ⟨w.heap.size,0,none⟩) 0 []:=⟨qfz w _ 1 ob hb,fun x hx=>by simp at hx⟩
theorem OR_one(w:World)(ob base:Nat)(x:RwP)(hb:ob≤w.heap.size)(hx:OI base w x.1 x.2.2 x.2.1):OR ob base (w.alloc (.cells #[q5s x] 27)) (some ⟨w.heap.size,0,none⟩) 1 [x]:=
 ⟨⟨by simp,.inr ⟨w.heap.size,1,#[q5s x],rfl,hb,zha w _,zlr _,by unfold maxLen;simp,by simp,by simp⟩⟩,fun y hy=>by
  obtain rfl:y=x:=by simpa using hy
  exact qa2 hx _⟩
def q45(base:Nat)(w:World)(ls:List (List Int))(e:Ending)(w':World):Prop:=
 ∃(A:ZA) (c:Nat) (xs:List RwP),e=.returned (.slice A xs.length c)∧OR w.heap.size base w' A c xs∧xs.map (fun x=>x.2.1)=ls∧Below w.heap.size w w'
theorem q5t{m k:Nat}(hm:m≤3)(hk:k≤5):m^k≤243:=zll (Nat.pow_le_pow_left hm k) (Nat.pow_le_pow_right (by omega) hk)
theorem qxm(m:Nat)(hm:m≤3): ∀(k:Nat),k≤5→ ∀(bs:List Int) (bb d n base:Nat) (w:World),bs.length+k=n→n≤5→OI base w (some ⟨bb,0,none⟩) d bs→base≤w.heap.size→
  Calls Tryz.prog 204 #[.slice (some ⟨bb,0,none⟩) bs.length d,.int .i64 (n:Int),.int .i64 (m:Int)] w (q45 base w (qvg m k bs)):=by
 intro k;induction k with
 |zero=>
  intro hk bs bb d n base w hn hn5 h hb;have heq:((bs.length:Int)==(n:Int))=true:=by rw[beq_iff_eq];omega
  have hO:=OR_one w w.heap.size base (some ⟨bb,0,none⟩,bs,d) (zlr _) h;have HO:=zhi hO;clear hO;go_enter Tryz.func204,Tryz.ntmps204;go_wp2_with fail;go_ret;exact⟨_,1,[(some ⟨bb,0,none⟩,bs,d)],rfl,HO.out,rfl,bal br _⟩
 |succ k ih=>
  intro hk bs bb d n base w hn hn5 h hb;have heq:((bs.length:Int)==(n:Int))=false:=beq_eq_false_iff_ne.2 (by omega);have IH:=zhi (ih (by omega));have hpb:=q5t hm (show k≤5 by omega);have hbs5:bs.length≤5:=by omega
  clear ih;go_enter Tryz.func204,Tryz.ntmps204;go_wp2_with fail;go_loopw [7,8] (fun v i wr=> ∃(q:Nat) (A:ZA) (c:Nat) (xs:List RwP),i=.int .i64 (q:Int)∧v=.slice A xs.length c∧q≤m∧OR w.heap.size base wr A c xs∧Hid (xs.map (fun x=>x.2.1)=qjd m k bs q)∧Below w.heap.size w wr) (fun _ i _=>m-(intOf i).toNat)
  case atStart=>exact⟨0,_,0,[],rfl,rfl,by omega,q44 w w.heap.size base (zlr _),rfl,bal br _⟩
  case round=>
   obtain⟨q,A,c,xs,rfl,rfl,hq,hO,hxs,hbr⟩:=hrel
   have hxl:xs.length≤1000:=by
    have:=congrArg List.length hxs.out;rw[List.length_map,qz1] at this;rw[this];have:q*m^k≤3*243:=Nat.mul_le_mul (by omega) hpb;omega
   by_cases hlt:(q:Int)<(m:Int)
   ·have hnx:Hid (qjd m k bs (q+1)=qjd m k bs q++qvg m k (bs++[(q:Int)])):=qlh m k bs q;have hbr0:base≤wr.heap.size:=zll hb hbr.size;have hI:=(qa1 h hbr).is
    go_wp2_with (first
     |(at_builtin;refine qja _ rfl (.tmp 22) (.tmp 23) rfl wr.heap.size (some ⟨wr.heap.size,0,none⟩) [] 0 0 rfl rfl (qbe wr _ (zlr _)) ⟨bb,0,none⟩ bs.length d bs rfl rfl (hI.keep (bal br _)) (by simp) (by omega) (by simp) ?_;intro A1 c1 w1 o1 g1 b1;rw[List.nil_append] at o1;have B1:Below wr.heap.size wr w1:=(bal br _).trans b1)
     |(at_builtin;refine qg6 _ rfl (.tmp 24) (.tmp 26) rfl wr.heap.size A1 bs _ c1 (by simp) rfl (qa2 o1 _) w1.heap.size 1 (q:Int) 3 rfl (zha w1 _) (by omega) (by have:=B1.size;simp;omega) ?_;intro A2 c2 w2 o2 g2 b2;have B2:Below wr.heap.size wr w2:=(bal B1 _).trans b2;obtain⟨b2',rfl,_,_⟩:=qe3 o2 (by simp)))
    have hl1:(bs++[(q:Int)]).length=bs.length+1:=by simp
    have K:=IH.out (bs++[(q:Int)]) b2' c2 n base w2 (by rw[hl1];omega) hn5 (qal o2 hbr0) (zll hbr0 B2.size);rw[hl1] at K;refine K.mono ?_;clear K;rintro e w3 ⟨A3,c3,ys,rfl,o3,hys,b3⟩;have B3:=qaa B2 b3;have hO3:=q62 hO B3
    have hyl:ys.length=m^k:=by
     have:=congrArg List.length hys;rwa [List.length_map,qvh] at this
    have hyp:0<m^k:=Nat.pow_pos (by omega);obtain⟨b3',rfl,_,_⟩:=q21 o3 (by rw[hyl];exact hyp);have hnx2:Hid ((xs++ys).map (fun x=>x.2.1)=qjd m k bs (q+1)):=by rw[Hid,List.map_append,hxs.out,hys,hnx.out]
    have hyl2:ys.length≤243:=by omega
    clear hys hyl hyp hO o1 o2;go_wp2_with (at_builtin;refine qpo _ rfl _ _ rfl w.heap.size w2.heap.size base A xs c rfl hO3 b3' c3 ys rfl o3 (by omega) (by omega) (zll hbr.size B3.size) ?_;intro A4 c4 w4 o4 b4)
    go_roundw
    case rel=>exact⟨q+1,A4,c4,xs++ys,by go_num,by rw[List.length_append],by omega,o4,hnx2,(qaa hbr B3).trans b4⟩
    case measure=>simp[intOf];omega
   ·obtain rfl:q=m:=by omega
    go_wp2_with fail;go_ret;exact⟨A,c,xs,rfl,hO,hxs.out,hbr⟩
theorem qvi(A:ZA)(l:List Tk)(c:Nat)(m p:Int)(w:World)(h:TS w A l)(hm:l.length≤maxLen)(_hlc:l.length≤c):
  Calls Tryz.prog 153 #[.slice A l.length c,.int .i64 m,.int .i64 p] w (qy1 w (qry l m p) (qi5 l m p).isSome):=by
 cases hS:qad l with
 |false=>
  have hv:qi5 l m p=none:=by simp[qi5,hS]
  have hv2:qry l m p=[]:=by simp[qry,hv]
  rw[hv,hv2];clear hv hv2;go_enter Tryz.func153,Tryz.ntmps153;go_wp2_with fail;refine(qac A l c _ h hm).mono ?_;rw[hS];rintro e w1 ⟨rfl,b1⟩;go_wp2_with fail;go_ret2;exact⟨_,0,rfl,qbe _ _ b1.size,bal b1 _⟩
 |true=>
  have hl5:=(qaj hS).1;have HS:=zhi hS;cases hn:q0d m with
  |false=>
   have hv:qi5 l m p=none:=by
    have:qip m=false:=hn;simp[qi5,this]
   have hv2:qry l m p=[]:=by simp[qry,hv]
   rw[hv,hv2];clear hv hv2 hS;go_enter Tryz.func153,Tryz.ntmps153;go_wp2_with fail;refine(qac A l c _ h hm).mono ?_;rw[HS.out];rintro e w1 ⟨rfl,b1⟩;go_wp2_with fail;refine(qcv m _).mono ?_;rw[hn];rintro e w2 ⟨rfl,rfl⟩;go_wp2_with fail;go_ret2;exact⟨_,0,rfl,qbe _ _ b1.size,bal b1 _⟩
  |true=>
   have h13:1≤m∧m≤3:=by simpa [q0d] using hn
   obtain⟨h1m,h3m⟩:=h13;obtain⟨M,rfl⟩: ∃M:Nat,m=(M:Int):=⟨m.toNat,(Int.toNat_of_nonneg (by omega)).symm⟩;obtain⟨R,hR⟩: ∃R,qcw (fun k=>pkH l (way M l.length k) (M:Int) p) (M^l.length-0) 0=R:=⟨_,rfl⟩
   have hany:qi5 l (M:Int) p=R.map (way M l.length):=by
    have:qip (M:Int)=true:=hn;simp only[qi5,hS,this,Bool.and_self,if_true,anyK,Int.toNat_natCast];rw[Nat.sub_zero] at hR;rw[hR]
   have HA:=zhi hany;have HR:=zhi hR;have HN:=zhi hn;have hwe:=zhi (q43 M (by omega) l.length (by omega));clear hS hany hR hn;go_enter Tryz.func153,Tryz.ntmps153;go_wp2_with fail;refine(qac A l c _ h hm).mono ?_;rw[HS.out];rintro e w1 ⟨rfl,b1⟩;go_wp2_with fail;refine(qcv (M:Int) _).mono ?_;rw[HN.out];rintro e w2 ⟨rfl,rfl⟩;go_wp2_with fail;refine(qxm M (by omega) l.length (by omega) [] w1.heap.size 0 l.length w1.heap.size _ (by simp) (by omega) (qbe w1 _ (zlr _)) (by simp)).mono ?_;rintro e w3 ⟨A3,c3,xs,rfl,o3,hxs,b3⟩;rw[hwe.out] at hxs
   have hxl:xs.length=M^l.length:=by
    have:=congrArg List.length hxs;simpa using this
   have hpb:=q5t (show M≤3 by omega) (show l.length≤5 by omega);have B3:Below w.heap.size w w3:=qaa (bal b1 _) b3
   have hxk:Hid (∀k,(hk:k<xs.length)→xs[k].2.1=way M l.length k):=by
    intro k hk;have h1:(xs.map (fun x=>x.2.1))[k]? =some xs[k].2.1:=by simp[hk]
    rw[hxs] at h1;have hk2:k<M^l.length:=by omega
    simpa [hk2] using h1.symm
   have HXL:=zhi hxl;have hx243:xs.length≤243:=by omega
   clear hxs hxl hpb;go_wp2_with fail;go_loopw [9] (fun i wr=> ∃k:Nat,i=.int .i64 (k:Int)∧k≤xs.length∧Hid (qcw (fun k=>pkH l (way M l.length k) (M:Int) p) (M^l.length-k) k=R)∧Below w3.heap.size w3 wr) (fun i _=>xs.length-(intOf i).toNat)
   case atStart=>exact⟨0,rfl,by omega,HR.out,br⟩
   case round=>
    obtain⟨k,rfl,hk,hfk,hbr⟩:=hrel;have hB:=qaa B3 hbr;by_cases hlt:k<xs.length
    ·obtain⟨b,rfl,_,hbl⟩:=q21 o3 (by omega);have hst:=qfm (fun k=>pkH l (way M l.length k) (M:Int) p) (M^l.length) k (by rw[←HXL.out];exact hlt);have kc:=q22 o3 k xs[k] (List.getElem?_eq_getElem hlt);have hOk:=o3.2 xs[k] (List.getElem_mem hlt);have hwk:=hxk.out k hlt;have kc:=(hbr.cell (p:=⟨b,k,none⟩) hbl).trans kc;have hOk:=qa1 hOk hbr;generalize xs[k]=x at kc hOk hwk;obtain⟨Bk,W,dk⟩:=x;simp only at hOk hwk;subst hwk;simp only[q5s] at kc;have K:=qqs A Bk l (way M l.length k) c dk (M:Int) p wr (h.keep hB) hOk.is hm;cases hp:pkH l (way M l.length k) (M:Int) p with
     |true=>
      rw[hp] at K;have hRk:R=some k:=by rw[←hfk.out,hst,hp];rfl
      have hr1:qi5 l (M:Int) p=some (way M l.length k):=by rw[HA.out,hRk];rfl
      have hr2:Hid (qry l (M:Int) p=way M l.length k∧(qi5 l (M:Int) p).isSome=true):=by simp[Hid,qry,hr1]
      clear hst hp hRk hr1;go_wp2_with fail;refine K.mono ?_;rintro e w4 ⟨rfl,b4⟩;have kc:=(b4.cell (p:=⟨b,k,none⟩) (zlt hbl hbr.size)).trans kc;go_wp2_with fail;go_ret2;rw[hr2.out.1,hr2.out.2];exact⟨Bk,dk,rfl,qal (qa1 hOk b4) b1.size,qaa hB b4⟩
     |false=>
      rw[hp] at K
      have hnx:Hid (qcw (fun k=>pkH l (way M l.length k) (M:Int) p) (M^l.length-(k+1)) (k+1)=R):=by
       rw[Hid,←hfk.out,hst,hp];rfl
      clear hst hp hfk;go_wp2_with fail;refine K.mono ?_;rintro e w4 ⟨rfl,b4⟩;go_wp2_with fail;go_roundw
      case rel=>exact⟨k+1,by go_num,by omega,hnx,qaa hbr b4⟩
      case measure=>simp[intOf];omega
    ·have hRn:R=none:=by
      have:M^l.length-k=0:=by rw[←HXL.out];omega
      rw[←hfk.out,this];rfl
     have hr2:Hid (qry l (M:Int) p=[]∧(qi5 l (M:Int) p).isSome=false):=by
      have e:qi5 l (M:Int) p=none:=by rw[HA.out,hRn];rfl
      simp[Hid,qry,e]
     clear hRn;go_wp2_with fail;go_ret2;rw[hr2.out.1,hr2.out.2];exact⟨_,0,rfl,qbe _ _ hB.size,bal hB _⟩
theorem q23{l:List Tk}{p k:Int}(h1:1≤k)(h3:k≤3)(h:(qi5 l k p).isSome=true)(hb: ∀j:Int,1≤j→j<k→(qi5 l j p).isSome=false):qsz l p=some k:=by
 have hk:k=1∨k=2∨k=3:=by omega
 rcases hk with rfl|rfl|rfl
 ·simp[qsz,h]
 ·simp[qsz,h,hb 1 (by omega) (by omega)]
 ·simp[qsz,h,hb 1 (by omega) (by omega),hb 2 (by omega) (by omega)]
theorem qyx{l:List Tk}{p:Int}(hb: ∀j:Int,1≤j→j≤3→(qi5 l j p).isSome=false):qsz l p=none:=by
 simp[qsz,hb 1 (by omega) (by omega),hb 2 (by omega) (by omega),hb 3 (by omega) (by omega)]
theorem qkt(A:ZA)(l:List Tk)(c:Nat)(p:Int)(w:World)(h:TS w A l)(hm:l.length≤maxLen)(hlc:l.length≤c):
  Calls Tryz.prog 129 #[.slice A l.length c,.int .i64 p] w fun e w'=>e=.returned (qgb (qsz l p))∧Below w.heap.size w w':=by
 obtain⟨R,hR⟩: ∃R,qsz l p=R:=⟨_,rfl⟩;rw[hR];have HR:=zhi hR;clear hR;go_enter Tryz.func129,Tryz.ntmps129;go_wp2_with fail;go_loopw [6] (fun i wr=> ∃k:Nat,i=.int .i64 (k:Int)∧1≤k∧k≤4∧Hid (∀j:Int,1≤j→j<(k:Int)→(qi5 l j p).isSome=false)∧Below w.heap.size w wr) (fun i _=>4-(intOf i).toNat)
 case atStart=>exact⟨1,rfl,by omega,by omega,fun j h1 h2=>by omega,br⟩
 case round=>
  obtain⟨k,rfl,hk1,hk4,hall,hb⟩:=hrel;by_cases hlt:(k:Int)≤3
  ·have K:=qvf A l c (k:Int) p wr (h.keep hb) hm hlc;obtain⟨wm,hwm⟩: ∃wm,qry l (k:Int) p=wm:=⟨_,rfl⟩;cases hk:(qi5 l (k:Int) p).isSome with
   |true=>
    have hf:Hid (R=some (k:Int)):=by rw[Hid,←HR.out];exact q23 (by omega) hlt hk (fun j h1 h2=>hall.out j h1 h2)
    rw[hk,hwm] at K;clear hk hwm;go_wp2_with fail;refine K.mono ?_;rintro e w2 ⟨A2,c2,rfl,o2,b2⟩;go_wp2_with fail;go_ret2;exact⟨by rw[hf.out];rfl,qaa hb b2⟩
   |false=>
    have hnx:Hid (∀j:Int,1≤j→j<((k+1:Nat):Int)→(qi5 l j p).isSome=false):=by
     intro j h1 h2;by_cases e:j=(k:Int)
     ·subst e;exact hk
     ·exact hall.out j h1 (by omega)
    rw[hk,hwm] at K;clear hk hwm;go_wp2_with fail;refine K.mono ?_;rintro e w2 ⟨A2,c2,rfl,o2,b2⟩;go_wp2_with fail;go_roundw
    case rel=>exact⟨k+1,by go_num,by omega,by omega,hnx,qaa hb b2⟩
    case measure=>simp[intOf];omega
  ·have hf:Hid (R=none):=by rw[Hid,←HR.out];exact qyx (fun j h1 h2=>hall.out j h1 (by omega))
   go_wp2_with fail;go_ret2;exact⟨by rw[hf.out];rfl,hb⟩
theorem qqw(A:ZA)(l:List Tk)(c:Nat)(p:Int)(w:World)(h:TS w A l)(hm:l.length≤maxLen)(hlc:l.length≤c):
  Calls Tryz.prog 90 #[.slice A l.length c,.int .i64 p] w fun e w'=>e=.returned (qgb (qsz l p))∧Below w.heap.size w w':=by
 obtain⟨R,hR⟩: ∃R,qsz l p=R:=⟨_,rfl⟩;rw[hR];have HR:=zhi hR;clear hR;go_enter Tryz.func90,Tryz.ntmps90;go_wp2_with fail;go_loopw [6] (fun i wr=> ∃k:Nat,i=.int .i64 (k:Int)∧1≤k∧k≤4∧Hid (∀j:Int,1≤j→j<(k:Int)→(qi5 l j p).isSome=false)∧Below w.heap.size w wr) (fun i _=>4-(intOf i).toNat)
 case atStart=>exact⟨1,rfl,by omega,by omega,fun j h1 h2=>by omega,br⟩
 case round=>
  obtain⟨k,rfl,hk1,hk4,hall,hb⟩:=hrel;by_cases hlt:(k:Int)≤3
  ·have K:=qvi A l c (k:Int) p wr (h.keep hb) hm hlc;obtain⟨wm,hwm⟩: ∃wm,qry l (k:Int) p=wm:=⟨_,rfl⟩;cases hk:(qi5 l (k:Int) p).isSome with
   |true=>
    have hf:Hid (R=some (k:Int)):=by rw[Hid,←HR.out];exact q23 (by omega) hlt hk (fun j h1 h2=>hall.out j h1 h2)
    rw[hk,hwm] at K;clear hk hwm;go_wp2_with fail;refine K.mono ?_;rintro e w2 ⟨A2,c2,rfl,o2,b2⟩;go_wp2_with fail;go_ret2;exact⟨by rw[hf.out];rfl,qaa hb b2⟩
   |false=>
    have hnx:Hid (∀j:Int,1≤j→j<((k+1:Nat):Int)→(qi5 l j p).isSome=false):=by
     intro j h1 h2;by_cases e:j=(k:Int)
     ·subst e;exact hk
     ·exact hall.out j h1 (by omega)
    rw[hk,hwm] at K;clear hk hwm;go_wp2_with fail;refine K.mono ?_;rintro e w2 ⟨A2,c2,rfl,o2,b2⟩;go_wp2_with fail;go_roundw
    case rel=>exact⟨k+1,by go_num,by omega,by omega,hnx,qaa hb b2⟩
    case measure=>simp[intOf];omega
  ·have hf:Hid (R=none):=by rw[Hid,←HR.out];exact qyx (fun j h1 h2=>hall.out j h1 (by omega))
   go_wp2_with fail;go_ret2;exact⟨by rw[hf.out];rfl,hb⟩
def q46(s:Ss):Ss×List UInt8:=(s,(qa9 s.l++[10])++(qbc s.js++[10]))
theorem qtb(s:Ss)(A:ZA)(c:Nat)(J:ZA)(d:Nat)(w:World)(h:TS w A s.l)(g:JS w J s.js)(hA:(A=none→c=0)∧s.l.length≤c)(hlm:s.l.length≤5)(hjm:s.js.length≤60):
  Calls Tryz.prog 46 #[ssV A s.l.length c J s.js.length d s.pol,.string ⟨([115,104,111,119]:List UInt8).toArray⟩] w (qdd (q46 s) w):=by
 have HA:=zhi hA;clear hA;obtain⟨gb,r,hgb,hrE,hr0,hg1,B0,hgw,hgw0,hgr⟩:=qo7 w (ssC A s.l.length c J s.js.length d s.pol) (ssC none 0 0 none 0 0 0);go_enter Tryz.func46,Tryz.ntmps46;go_upto_region 1 with fail;generalize World.alloc (World.alloc w _) _=w0 at hr0 hg1 B0⊢;try simp only[hgb,hrE]
 clear hgb hrE;have HE:Hid (q46 s=(s,qa9 s.l++10::(qbc s.js++[10]))):=by simp[Hid,q46]
 have hfl:=qe6 s.l;have hjl:=qgv s.js;obtain⟨x0,x1,x2⟩:=qab hg1;go_upto_region 3 with fail;clear x0 x1 x2;refine wp_region_held (S:=fun w'=>w'.heap[gb]? =some (ssC A s.l.length c J s.js.length d s.pol)) (by kernel_rfl) ?_;change wpAnyH _ _ _ _ _ _ _ _ (World.drew _);have K0:Below w.heap.size w (World.drew w0):=zdr B0;have hS0:(World.drew w0).heap[gb]? =some (ssC A s.l.length c J s.js.length d s.pol):=hg1;have hR0:(World.drew w0).heap[r]? =some (ssC none 0 0 none 0 0 0):=hr0;generalize World.drew w0=v0 at K0 hS0 hR0⊢;refine tq 0 15 (ssV A s.l.length c J s.js.length d s.pol) rfl (fun w hS=>by obtain⟨x0,x1,x2⟩:=qab hS;go_simp) hS0 ?_;refine tq 1 16 (.pointer (some ⟨gb,0,none⟩)) rfl (fun w _=>by go_simp) hS0 ?_;refine tq 2 17 (.slice A s.l.length c) rfl (fun w hS=>by obtain⟨x0,x1,x2⟩:=qab hS;go_simp) hS0 ?_;refine tq 5 20 (.pointer (some ⟨gb,1,none⟩)) rfl (fun w _=>by go_simp) hS0 ?_;refine tq 6 21 (.slice J s.js.length d) rfl (fun w hS=>by obtain⟨x0,x1,x2⟩:=qab hS;go_simp) hS0 ?_;refine tw 3 ?_;refine co 3 18 rfl 48 Tryz.func48 #[.slice A s.l.length c] (qfs A s.l c _ (h.keep K0) (by omega)) ?_;rintro e v1 ⟨rfl,bz1⟩;have K1:=qaa K0 bz1;have hS1:=bh bz1 hS0;have hR1:=bh bz1 hR0;refine⟨_,rfl,hS1,?_⟩;simp only[lsS,lsZ];refine tq 4 19 (.string ⟨(qa9 s.l++[10]).toArray⟩) rfl (fun w _=>by go_simp;rw[if_neg (by simp;omega)];simp[qan]) hS1 ?_;refine tw 7 ?_;refine co 7 22 rfl 81 Tryz.func81 #[.slice J s.js.length d] (qj2 J s.js d _ (g.keep K1) (by omega)) ?_;rintro e v2 ⟨rfl,bz2⟩;have K2:=qaa K1 bz2;have hS2:=bh bz2 hS1;have hR2:=bh bz2 hR1;refine⟨_,rfl,hS2,?_⟩;simp only[lsS,lsZ];refine tq 8 23 (.string ⟨(qa9 s.l++10::qbc s.js).toArray⟩) rfl (fun w _=>by go_simp;rw[if_neg (by simp;omega)];simp[qan]) hS2 ?_;refine tq 9 24 (.string ⟨(qa9 s.l++10::(qbc s.js++[10])).toArray⟩) rfl (fun w _=>by go_simp;rw[if_neg (by simp;omega)];simp[qan]) hS2 ?_;refine tw 10 ?_;refine qbp 10 rfl (by rfl) ?_;intro K hK;obtain⟨z0,z1,z2⟩:=qab hR2;have zf:=fun i=>zfz hR2 i
 have BF:=bst (bst (bst K2 (p:=⟨r,0,none⟩) hgw (.slice A s.l.length c)) (p:=⟨r,1,none⟩) hgw (.slice J s.js.length d)) (p:=⟨r,2,none⟩) hgw (.int .i64 s.pol);have hS9:=hS2;rw[←heap_setCell_other _ ⟨r,0,none⟩ gb (.slice A s.l.length c) hgr,←heap_setCell_other _ ⟨r,1,none⟩ gb (.slice J s.js.length d) hgr,←heap_setCell_other _ ⟨r,2,none⟩ gb (.int .i64 s.pol) hgr] at hS9;go_simp
 refine hK _ hS9 ?_;clear hK;refine tq 11 5 (.string ⟨(qa9 s.l++10::(qbc s.js++[10])).toArray⟩) rfl (fun _ _=>rfl) hS9 ?_;refine wpAnyH_done (by kernel_rfl) ?_ _;have hF:=h.keep BF;have gF:=g.keep BF;go_wp2_with fail;refine bodyPost_ret (v:=.tuple #[ssV A s.l.length c J s.js.length d s.pol,.string ⟨(qa9 s.l++10::(qbc s.js++[10])).toArray⟩]) (by simp[results,Tryz.results46,go_sem,z0,z1,z2]) rfl (by rw[HE.out];exact⟨A,c,J,d,rfl,HA.out,hF,gF,BF⟩)
def qxn(s:Ss):Ss×List UInt8:=(⟨s.l,s.js,0⟩,okT)
theorem qpp(s:Ss)(A:ZA)(c:Nat)(J:ZA)(d:Nat)(w:World)(h:TS w A s.l)(g:JS w J s.js)(hA:(A=none→c=0)∧s.l.length≤c):
  Calls Tryz.prog 46 #[ssV A s.l.length c J s.js.length d s.pol,.string ⟨([112,108,97,99,101,115]:List UInt8).toArray⟩] w (qdd (qxn s) w):=by
 have HA:=zhi hA;clear hA;obtain⟨gb,r,hgb,hrE,hr0,hg1,B0,hgw,hgw0,hgr⟩:=qo7 w (ssC A s.l.length c J s.js.length d s.pol) (ssC none 0 0 none 0 0 0);go_enter Tryz.func46,Tryz.ntmps46;go_upto_region 1 with fail;generalize World.alloc (World.alloc w _) _=w0 at hr0 hg1 B0⊢;try simp only[hgb,hrE]
 clear hgb hrE;have HE:Hid (qxn s=(⟨s.l,s.js,0⟩,okT)):=rfl;obtain⟨x0,x1,x2⟩:=qab hg1;have xf:=fun i=>zfz hg1 i
 have gS:(w0.setCell ⟨gb,2,none⟩ (.int .i64 0)).heap[gb]? =some (ssC A s.l.length c J s.js.length d 0):=qc5 hg1 (i:=2) _;have rS:(w0.setCell ⟨gb,2,none⟩ (.int .i64 0)).heap[r]? =some (ssC none 0 0 none 0 0 0):=by rw[heap_setCell_other _ _ _ _ hgr.symm];exact hr0
 have BS:=bst B0 (p:=⟨gb,2,none⟩) hgw0 (.int .i64 0);go_upto_region 6 with fail;generalize World.setCell w0 _ _=w4 at gS rS BS⊢;clear x0 x1 x2 xf;obtain⟨x0,x1,x2⟩:=qab gS;obtain⟨z0,z1,z2⟩:=qab rS;have zf:=fun i=>zfz rS i
 have BF:=bst (bst (bst BS (p:=⟨r,0,none⟩) hgw (.slice A s.l.length c)) (p:=⟨r,1,none⟩) hgw (.slice J s.js.length d)) (p:=⟨r,2,none⟩) hgw (.int .i64 0);have hF:=h.keep BF;have gF:=g.keep BF;go_wp2_with fail;refine bodyPost_ret (v:=.tuple #[ssV A s.l.length c J s.js.length d 0,.string ⟨okT.toArray⟩]) (by simp[results,Tryz.results46,go_sem,z0,z1,z2];rfl) rfl (by rw[HE.out];exact⟨A,c,J,d,rfl,HA.out,hF,gF,BF⟩)
def qm6(s:Ss):Ss×List UInt8:=(⟨s.l,s.js,1⟩,okT)
theorem qme(s:Ss)(A:ZA)(c:Nat)(J:ZA)(d:Nat)(w:World)(h:TS w A s.l)(g:JS w J s.js)(hA:(A=none→c=0)∧s.l.length≤c):
  Calls Tryz.prog 46 #[ssV A s.l.length c J s.js.length d s.pol,.string ⟨([100,101,97,100,108,105,110,101,115]:List UInt8).toArray⟩] w (qdd (qm6 s) w):=by
 have HA:=zhi hA;clear hA;obtain⟨gb,r,hgb,hrE,hr0,hg1,B0,hgw,hgw0,hgr⟩:=qo7 w (ssC A s.l.length c J s.js.length d s.pol) (ssC none 0 0 none 0 0 0);go_enter Tryz.func46,Tryz.ntmps46;go_upto_region 1 with fail;generalize World.alloc (World.alloc w _) _=w0 at hr0 hg1 B0⊢;try simp only[hgb,hrE]
 clear hgb hrE;have HE:Hid (qm6 s=(⟨s.l,s.js,1⟩,okT)):=rfl;obtain⟨x0,x1,x2⟩:=qab hg1;have xf:=fun i=>zfz hg1 i
 have gS:(w0.setCell ⟨gb,2,none⟩ (.int .i64 1)).heap[gb]? =some (ssC A s.l.length c J s.js.length d 1):=qc5 hg1 (i:=2) _;have rS:(w0.setCell ⟨gb,2,none⟩ (.int .i64 1)).heap[r]? =some (ssC none 0 0 none 0 0 0):=by rw[heap_setCell_other _ _ _ _ hgr.symm];exact hr0
 have BS:=bst B0 (p:=⟨gb,2,none⟩) hgw0 (.int .i64 1);go_upto_region 9 with fail;generalize World.setCell w0 _ _=w4 at gS rS BS⊢;clear x0 x1 x2 xf;obtain⟨x0,x1,x2⟩:=qab gS;obtain⟨z0,z1,z2⟩:=qab rS;have zf:=fun i=>zfz rS i
 have BF:=bst (bst (bst BS (p:=⟨r,0,none⟩) hgw (.slice A s.l.length c)) (p:=⟨r,1,none⟩) hgw (.slice J s.js.length d)) (p:=⟨r,2,none⟩) hgw (.int .i64 1);have hF:=h.keep BF;have gF:=g.keep BF;go_wp2_with fail;refine bodyPost_ret (v:=.tuple #[ssV A s.l.length c J s.js.length d 1,.string ⟨okT.toArray⟩]) (by simp[results,Tryz.results46,go_sem,z0,z1,z2];rfl) rfl (by rw[HE.out];exact⟨A,c,J,d,rfl,HA.out,hF,gF,BF⟩)
def q63(s:Ss):Ss×List UInt8:=qew s (qin s.l)
theorem qtc(s:Ss)(A:ZA)(c:Nat)(J:ZA)(d:Nat)(w:World)(h:TS w A s.l)(_g:JS w J s.js)(hA:(A=none→c=0)∧s.l.length≤c)(hlm:s.l.length≤5):
  Calls Tryz.prog 46 #[ssV A s.l.length c J s.js.length d s.pol,.string ⟨([115,111,114,116]:List UInt8).toArray⟩] w (qdd (q63 s) w):=by
 have HA:=zhi hA;clear hA;obtain⟨gb,r,hgb,hrE,hr0,hg1,B0,hgw,hgw0,hgr⟩:=qo7 w (ssC A s.l.length c J s.js.length d s.pol) (ssC none 0 0 none 0 0 0);go_enter Tryz.func46,Tryz.ntmps46;go_upto_region 1 with fail;generalize World.alloc (World.alloc w _) _=w0 at hr0 hg1 B0⊢;try simp only[hgb,hrE]
 clear hgb hrE
 have hl3:(qin s.l).length≤1000000:=by
  unfold qin;split
  ·rw[qhf];omega
  ·simp
 have HE:Hid (q63 s=qew s (qin s.l)):=rfl;have KS:=fun v h=>quv A s.l c v h (by unfold maxLen;omega)
 generalize qin s.l=L3 at hl3 HE KS;obtain⟨x0,x1,x2⟩:=qab hg1;go_upto_region 11 with fail;clear x0 x1 x2;have hrl:=(bl hr0);refine wp_region_held (S:=fun w'=>w'.heap[gb]? =some (ssC A s.l.length c J s.js.length d s.pol)) (by kernel_rfl) ?_;change wpAnyH _ _ _ _ _ _ _ _ (World.drew _);have K0:Below w.heap.size w (World.drew w0):=zdr B0;have hS0:(World.drew w0).heap[gb]? =some (ssC A s.l.length c J s.js.length d s.pol):=hg1;have hR0:(World.drew w0).heap[r]? =some (ssC none 0 0 none 0 0 0):=hr0;generalize World.drew w0=v0 at K0 hS0 hR0⊢;have hv0:r<v0.heap.size:=(bl hR0);refine tq 0 35 (ssV A s.l.length c J s.js.length d s.pol) rfl (fun w hS=>by obtain⟨x0,x1,x2⟩:=qab hS;go_simp) hS0 ?_;refine tq 1 36 (.pointer (some ⟨gb,0,none⟩)) rfl (fun w _=>by go_simp) hS0 ?_;refine tq 2 37 (.slice A s.l.length c) rfl (fun w hS=>by obtain⟨x0,x1,x2⟩:=qab hS;go_simp) hS0 ?_;refine tw 3 ?_;refine co 3 38 rfl 49 Tryz.func49 #[.slice A s.l.length c] (KS _ (h.keep K0)) ?_;rintro e v1 ⟨A3,c3,rfl,o1,bz1⟩;have K1:=qaa K0 bz1;have hS1:=bh bz1 hS0;have hR1:=bh bz1 hR0;refine⟨_,rfl,hS1,?_⟩;simp only[lsS,lsZ];refine tw 4 ?_;refine co 4 39 rfl 82 Tryz.func82 #[ssV A s.l.length c J s.js.length d s.pol,.slice A3 L3.length c3,.bool true] (qcl A s.l.length c J s.js.length d s.pol A3 L3 c3 _ o1.ts hl3) ?_;rintro e v2 ⟨J',rfl,bz2⟩;have O4:=qa3 o1 bz2;have HC:=zhi (qr3 O4);have K2:=qaa K1 bz2;have hS2:=bh bz2 hS1;have hR2:=bh bz2 hR1;refine⟨_,rfl,hS2,?_⟩;simp only[lsS,lsZ];refine tq 5 40 (ssV A3 L3.length c3 J' 0 0 s.pol) rfl (fun w _=>by go_simp) hS2 ?_;refine tq 6 41 (.string ⟨(qa9 L3++[10]).toArray⟩) rfl (fun w _=>by go_simp) hS2 ?_;refine tw 7 ?_;refine qbp 7 rfl (by rfl) ?_;intro K hK;obtain⟨z0,z1,z2⟩:=qab hR2;have zf:=fun i=>zfz hR2 i
 have BF:=bst (bst (bst K2 (p:=⟨r,0,none⟩) hgw (.slice A3 (L3).length c3)) (p:=⟨r,1,none⟩) hgw (.slice J' 0 0)) (p:=⟨r,2,none⟩) hgw (.int .i64 s.pol);have hS9:=hS2;rw[←heap_setCell_other _ ⟨r,0,none⟩ gb (.slice A3 (L3).length c3) hgr,←heap_setCell_other _ ⟨r,1,none⟩ gb (.slice J' 0 0) hgr,←heap_setCell_other _ ⟨r,2,none⟩ gb (.int .i64 s.pol) hgr] at hS9;go_simp
 refine hK _ hS9 ?_;clear hK;refine tq 8 5 (.string ⟨(qa9 (L3)++[10]).toArray⟩) rfl (fun _ _=>rfl) hS9 ?_;refine wpAnyH_done (by kernel_rfl) ?_ _
 have hT:=qpj O4 (w':=((v2.setCell ⟨r,0,none⟩ (.slice A3 (L3).length c3)).setCell ⟨r,1,none⟩ (.slice J' 0 0)).setCell ⟨r,2,none⟩ (.int .i64 s.pol)) (by simp) (by
  intro b hb;rw[heap_setCell_other _ _ _ _ (by show b≠r;omega),heap_setCell_other _ _ _ _ (by show b≠r;omega),heap_setCell_other _ _ _ _ (by show b≠r;omega)])
 go_wp2_with fail;refine bodyPost_ret (v:=.tuple #[ssV A3 (L3).length c3 J' 0 0 s.pol,.string ⟨(qa9 (L3)++[10]).toArray⟩]) (by simp[results,Tryz.results46,go_sem,z0,z1,z2]) rfl (by rw[HE.out];exact⟨A3,c3,J',0,rfl,HC.out,hT,qph _ _,BF⟩)
def qm7(s:Ss):Ss×List UInt8:=match qbb s.l with
 |some o=>qew s (qds s.l o)
 |none=>(s,noT)
theorem qpq(s:Ss)(A:ZA)(c:Nat)(J:ZA)(d:Nat)(w:World)(h:TS w A s.l)(g:JS w J s.js)(hA:(A=none→c=0)∧s.l.length≤c)(hlm:s.l.length≤5):
  Calls Tryz.prog 46 #[ssV A s.l.length c J s.js.length d s.pol,.string ⟨([97,115,115,105,103,110]:List UInt8).toArray⟩] w (qdd (qm7 s) w):=by
 have HA:=zhi hA;clear hA;obtain⟨gb,r,hgb,hrE,hr0,hg1,B0,hgw,hgw0,hgr⟩:=qo7 w (ssC A s.l.length c J s.js.length d s.pol) (ssC none 0 0 none 0 0 0);go_enter Tryz.func46,Tryz.ntmps46;go_upto_region 1 with fail;generalize World.alloc (World.alloc w _) _=w0 at hr0 hg1 B0⊢;try simp only[hgb,hrE]
 clear hgb hrE;obtain⟨x0,x1,x2⟩:=qab hg1;have K:Calls Tryz.prog _ _ w0 _:=qen A s.l c w0 (h.keep B0) (by unfold maxLen;omega);cases ho:qbb s.l with
 |none=>
  have HE:Hid (qm7 s=(s,noT)):=by simp[Hid,qm7,ho]
  have e1:(qbb s.l).isSome=false:=by simp[ho]
  rw[e1] at K;go_wp2_with fail;refine K.mono ?_;rintro e w3 ⟨A3,c3,rfl,o3,b3⟩;clear ho K e1;have rM:=bh b3 hr0;have gM:=bh b3 hg1;have B2:=qaa B0 b3;clear x0 x1 x2;obtain⟨x0,x1,x2⟩:=qab gM;obtain⟨z0,z1,z2⟩:=qab rM;have zf:=fun i=>zfz rM i
  have BF:=bst (bst (bst B2 (p:=⟨r,0,none⟩) hgw (.slice A s.l.length c)) (p:=⟨r,1,none⟩) hgw (.slice J s.js.length d)) (p:=⟨r,2,none⟩) hgw (.int .i64 s.pol);have hF:=h.keep BF;have gF:=g.keep BF;go_wp2_with fail;refine bodyPost_ret (v:=.tuple #[ssV A s.l.length c J s.js.length d s.pol,.string ⟨(noT).toArray⟩]) (by simp[results,Tryz.results46,go_sem,z0,z1,z2];rfl) rfl (by rw[HE.out];exact⟨A,c,J,d,rfl,HA.out,hF,gF,BF⟩)
 |some o=>
  have HE:Hid (qm7 s=qew s (qds s.l o)):=by simp[Hid,qm7,ho]
  have e1:(qbb s.l).isSome=true:=by simp[ho]
  have e2:qnn s.l=qbr o:=by simp[qnn,ho]
  obtain⟨g1,g2,_⟩:=qff ho;have hol:o.length=s.l.length:=by have:=g2.length_eq;simpa using this
  have ho5:o.length≤5:=by omega
  have hx: ∀x∈o,x<s.l.length:=fun x hx=>List.mem_range.1 ((g2.mem_iff).1 hx)
  have hpl:(qds s.l o).length≤1000000:=by unfold qds;rw[List.length_map];omega
  rw[e1,e2] at K;clear hol;go_wp2_with fail;refine K.mono ?_;rintro e w3 ⟨A2,c2,he,o2,b3⟩;rw[qah] at he;subst he;have KP:=fun v h g=>qms A A2 s.l o c c2 v h g hx (by omega) (by omega)
  clear ho K e1 e2 g1 g2 hx;generalize qds s.l o=L3 at hpl HE KP;have rM:=bh b3 hr0;have gM:=bh b3 hg1;have B2:=qaa B0 b3;clear x0 x1 x2;obtain⟨x0,x1,x2⟩:=qab gM;go_upto_region 16 with fail;clear x0 x1 x2;have hrl:=(bl rM);refine wp_region_held (S:=fun w'=>w'.heap[gb]? =some (ssC A s.l.length c J s.js.length d s.pol)) (by kernel_rfl) ?_;change wpAnyH _ _ _ _ _ _ _ _ (World.drew _);have K0:Below w.heap.size w (World.drew w3):=zdr B2;have hS0:(World.drew w3).heap[gb]? =some (ssC A s.l.length c J s.js.length d s.pol):=gM;have hR0:(World.drew w3).heap[r]? =some (ssC none 0 0 none 0 0 0):=rM;have o4:=(qxb o2).keep (zdr (Below.refl w3.heap.size w3));generalize World.drew w3=v0 at K0 hS0 hR0 o4⊢;have hv0:r<v0.heap.size:=(bl hR0);refine tq 0 53 (ssV A s.l.length c J s.js.length d s.pol) rfl (fun w hS=>by obtain⟨x0,x1,x2⟩:=qab hS;go_simp) hS0 ?_;refine tq 1 54 (.pointer (some ⟨gb,0,none⟩)) rfl (fun w _=>by go_simp) hS0 ?_;refine tq 2 55 (.slice A s.l.length c) rfl (fun w hS=>by obtain⟨x0,x1,x2⟩:=qab hS;go_simp) hS0 ?_;refine tq 3 56 (.slice A2 o.length c2) rfl (fun _ _=>rfl) hS0 ?_;refine tw 4 ?_;refine co 4 57 rfl 84 Tryz.func84 #[.slice A s.l.length c,.slice A2 o.length c2] (KP _ (h.keep K0) o4) ?_;rintro e v1 ⟨A3,c3,rfl,o1,bz1⟩;have K1:=qaa K0 bz1;have hS1:=bh bz1 hS0;have hR1:=bh bz1 hR0;refine⟨_,rfl,hS1,?_⟩;simp only[lsS,lsZ];refine tw 5 ?_;refine co 5 58 rfl 82 Tryz.func82 #[ssV A s.l.length c J s.js.length d s.pol,.slice A3 L3.length c3,.bool true] (qcl A s.l.length c J s.js.length d s.pol A3 L3 c3 _ o1.ts hpl) ?_;rintro e v2 ⟨J',rfl,bz2⟩;have O4:=qa3 o1 bz2;have HC:=zhi (qr3 O4);have K2:=qaa K1 bz2;have hS2:=bh bz2 hS1;have hR2:=bh bz2 hR1;refine⟨_,rfl,hS2,?_⟩;simp only[lsS,lsZ];refine tq 6 59 (ssV A3 L3.length c3 J' 0 0 s.pol) rfl (fun w _=>by go_simp) hS2 ?_;refine tq 7 60 (.string ⟨(qa9 L3++[10]).toArray⟩) rfl (fun w _=>by go_simp) hS2 ?_;refine tw 8 ?_;refine qbp 8 rfl (by rfl) ?_;intro K hK;obtain⟨z0,z1,z2⟩:=qab hR2;have zf:=fun i=>zfz hR2 i
  have BF:=bst (bst (bst K2 (p:=⟨r,0,none⟩) hgw (.slice A3 (L3).length c3)) (p:=⟨r,1,none⟩) hgw (.slice J' 0 0)) (p:=⟨r,2,none⟩) hgw (.int .i64 s.pol);have hS9:=hS2;rw[←heap_setCell_other _ ⟨r,0,none⟩ gb (.slice A3 (L3).length c3) hgr,←heap_setCell_other _ ⟨r,1,none⟩ gb (.slice J' 0 0) hgr,←heap_setCell_other _ ⟨r,2,none⟩ gb (.int .i64 s.pol) hgr] at hS9;go_simp
  refine hK _ hS9 ?_;clear hK;refine tq 9 5 (.string ⟨(qa9 (L3)++[10]).toArray⟩) rfl (fun _ _=>rfl) hS9 ?_;refine wpAnyH_done (by kernel_rfl) ?_ _
  have hT:=qpj O4 (w':=((v2.setCell ⟨r,0,none⟩ (.slice A3 (L3).length c3)).setCell ⟨r,1,none⟩ (.slice J' 0 0)).setCell ⟨r,2,none⟩ (.int .i64 s.pol)) (by simp) (by
   intro b hb;rw[heap_setCell_other _ _ _ _ (by show b≠r;omega),heap_setCell_other _ _ _ _ (by show b≠r;omega),heap_setCell_other _ _ _ _ (by show b≠r;omega)])
  go_wp2_with fail;refine bodyPost_ret (v:=.tuple #[ssV A3 (L3).length c3 J' 0 0 s.pol,.string ⟨(qa9 (L3)++[10]).toArray⟩]) (by simp[results,Tryz.results46,go_sem,z0,z1,z2]) rfl (by rw[HE.out];exact⟨A3,c3,J',0,rfl,HC.out,hT,qph _ _,BF⟩)
def qyy(s:Ss):Ss×List UInt8:=(s,if qb2 s.l s.pol then [104,111,108,100,115,32,121,101,115,10] else [104,111,108,100,115,32,110,111,10])
theorem qqx(s:Ss)(A:ZA)(c:Nat)(J:ZA)(d:Nat)(w:World)(h:TS w A s.l)(g:JS w J s.js)(hA:(A=none→c=0)∧s.l.length≤c)(hlm:s.l.length≤5):
  Calls Tryz.prog 46 #[ssV A s.l.length c J s.js.length d s.pol,.string ⟨([104,111,108,100,115]:List UInt8).toArray⟩] w (qdd (qyy s) w):=by
 have HA:=zhi hA;clear hA;obtain⟨gb,r,hgb,hrE,hr0,hg1,B0,hgw,hgw0,hgr⟩:=qo7 w (ssC A s.l.length c J s.js.length d s.pol) (ssC none 0 0 none 0 0 0);go_enter Tryz.func46,Tryz.ntmps46;go_upto_region 1 with fail;generalize World.alloc (World.alloc w _) _=w0 at hr0 hg1 B0⊢;try simp only[hgb,hrE]
 clear hgb hrE;have HE0:Hid (qyy s=(s,[104,111,108,100,115]++(if qb2 s.l s.pol then [32,121,101,115,10] else [32,110,111,10]))):=by unfold Hid qyy;cases qb2 s.l s.pol<;>rfl
 have KH:=fun v h=>qb7 A s.l c s.pol v h (by unfold maxLen;omega)
 generalize qb2 s.l s.pol=hb at HE0 KH;have KY:=fun v=>qxh [104,111,108,100,115] hb v (by simp)
 obtain⟨X,hX⟩: ∃X,([104,111,108,100,115]:List UInt8)++(if hb then [32,121,101,115,10] else [32,110,111,10])=X:=⟨_,rfl⟩;rw[hX] at KY HE0;have HE:=HE0;clear hX HE0;obtain⟨x0,x1,x2⟩:=qab hg1;go_upto_region 18 with fail;clear x0 x1 x2;refine wp_region_held (S:=fun w'=>w'.heap[gb]? =some (ssC A s.l.length c J s.js.length d s.pol)) (by kernel_rfl) ?_;change wpAnyH _ _ _ _ _ _ _ _ (World.drew _);have K0:Below w.heap.size w (World.drew w0):=zdr B0;have hS0:(World.drew w0).heap[gb]? =some (ssC A s.l.length c J s.js.length d s.pol):=hg1;have hR0:(World.drew w0).heap[r]? =some (ssC none 0 0 none 0 0 0):=hr0;generalize World.drew w0=v0 at K0 hS0 hR0⊢;refine tq 0 63 (ssV A s.l.length c J s.js.length d s.pol) rfl (fun w hS=>by obtain⟨x0,x1,x2⟩:=qab hS;go_simp) hS0 ?_;refine tq 1 64 (.pointer (some ⟨gb,0,none⟩)) rfl (fun w _=>by go_simp) hS0 ?_;refine tq 2 65 (.slice A s.l.length c) rfl (fun w hS=>by obtain⟨x0,x1,x2⟩:=qab hS;go_simp) hS0 ?_;refine tq 3 66 (.pointer (some ⟨gb,2,none⟩)) rfl (fun w _=>by go_simp) hS0 ?_;refine tq 4 67 (.int .i64 s.pol) rfl (fun w hS=>by obtain⟨x0,x1,x2⟩:=qab hS;go_simp) hS0 ?_;refine tw 5 ?_;refine co 5 68 rfl 86 Tryz.func86 #[.slice A s.l.length c,.int .i64 s.pol] (KH _ (h.keep K0)) ?_;rintro e v1 ⟨rfl,bz1⟩;have K1:=qaa K0 bz1;have hS1:=bh bz1 hS0;have hR1:=bh bz1 hR0;refine⟨_,rfl,hS1,?_⟩;simp only[lsS,lsZ];refine tw 6 ?_;refine co 6 69 rfl 85 Tryz.func85 #[.string ⟨([104,111,108,100,115]:List UInt8).toArray⟩,.bool hb] (KY _) ?_;rintro e v2 ⟨rfl,bz2⟩;have K2:=qaa K1 bz2;have hS2:=bh bz2 hS1;have hR2:=bh bz2 hR1;refine⟨_,rfl,hS2,?_⟩;simp only[lsS,lsZ];refine tw 7 ?_;refine qbp 7 rfl (by rfl) ?_;intro K hK;obtain⟨z0,z1,z2⟩:=qab hR2;have zf:=fun i=>zfz hR2 i
 have BF:=bst (bst (bst K2 (p:=⟨r,0,none⟩) hgw (.slice A s.l.length c)) (p:=⟨r,1,none⟩) hgw (.slice J s.js.length d)) (p:=⟨r,2,none⟩) hgw (.int .i64 s.pol);have hS9:=hS2;rw[←heap_setCell_other _ ⟨r,0,none⟩ gb (.slice A s.l.length c) hgr,←heap_setCell_other _ ⟨r,1,none⟩ gb (.slice J s.js.length d) hgr,←heap_setCell_other _ ⟨r,2,none⟩ gb (.int .i64 s.pol) hgr] at hS9;go_simp
 refine hK _ hS9 ?_;clear hK;refine tq 8 5 (.string ⟨(X).toArray⟩) rfl (fun _ _=>rfl) hS9 ?_;refine wpAnyH_done (by kernel_rfl) ?_ _;have hF:=h.keep BF;have gF:=g.keep BF;go_wp2_with fail;refine bodyPost_ret (v:=.tuple #[ssV A s.l.length c J s.js.length d s.pol,.string ⟨(X).toArray⟩]) (by simp[results,Tryz.results46,go_sem,z0,z1,z2]) rfl (by rw[HE.out];exact⟨A,c,J,d,rfl,HA.out,hF,gF,BF⟩)
def qm8(s:Ss):Ss×List UInt8:=(s,qbn s.l s.l.length++[101,110,100,10])
theorem qmf(s:Ss)(A:ZA)(c:Nat)(J:ZA)(d:Nat)(w:World)(h:TS w A s.l)(g:JS w J s.js)(hA:(A=none→c=0)∧s.l.length≤c)(hs:qad s.l=true):
  Calls Tryz.prog 46 #[ssV A s.l.length c J s.js.length d s.pol,.string ⟨([114,101,115,112,111,110,115,101,115]:List UInt8).toArray⟩] w (qdd (qm8 s) w):=by
 have HA:=zhi hA;clear hA;obtain⟨gb,r,hgb,hrE,hr0,hg1,B0,hgw,hgw0,hgr⟩:=qo7 w (ssC A s.l.length c J s.js.length d s.pol) (ssC none 0 0 none 0 0 0);go_enter Tryz.func46,Tryz.ntmps46;go_upto_region 1 with fail;generalize World.alloc (World.alloc w _) _=w0 at hr0 hg1 B0⊢;try simp only[hgb,hrE]
 clear hgb hrE;have HE0:Hid (qm8 s=(s,qbn s.l s.l.length++[101,110,100,10])):=rfl;have KH:=fun v h=>qm2 A s.l c v h hs
 generalize qbn s.l s.l.length++[101,110,100,10]=X at HE0 KH;have HE:=HE0;clear HE0;obtain⟨x0,x1,x2⟩:=qab hg1;go_upto_region 20 with fail;clear x0 x1 x2;refine wp_region_held (S:=fun w'=>w'.heap[gb]? =some (ssC A s.l.length c J s.js.length d s.pol)) (by kernel_rfl) ?_;change wpAnyH _ _ _ _ _ _ _ _ (World.drew _);have K0:Below w.heap.size w (World.drew w0):=zdr B0;have hS0:(World.drew w0).heap[gb]? =some (ssC A s.l.length c J s.js.length d s.pol):=hg1;have hR0:(World.drew w0).heap[r]? =some (ssC none 0 0 none 0 0 0):=hr0;generalize World.drew w0=v0 at K0 hS0 hR0⊢;refine tq 0 72 (ssV A s.l.length c J s.js.length d s.pol) rfl (fun w hS=>by obtain⟨x0,x1,x2⟩:=qab hS;go_simp) hS0 ?_;refine tq 1 73 (.pointer (some ⟨gb,0,none⟩)) rfl (fun w _=>by go_simp) hS0 ?_;refine tq 2 74 (.slice A s.l.length c) rfl (fun w hS=>by obtain⟨x0,x1,x2⟩:=qab hS;go_simp) hS0 ?_;refine tw 3 ?_;refine co 3 75 rfl 87 Tryz.func87 #[.slice A s.l.length c] (KH _ (h.keep K0)) ?_;rintro e v1 ⟨rfl,bz1⟩;have K1:=qaa K0 bz1;have hS1:=bh bz1 hS0;have hR1:=bh bz1 hR0;refine⟨_,rfl,hS1,?_⟩;simp only[lsS,lsZ];refine tw 4 ?_;refine qbp 4 rfl (by rfl) ?_;intro K hK;obtain⟨z0,z1,z2⟩:=qab hR1;have zf:=fun i=>zfz hR1 i
 have BF:=bst (bst (bst K1 (p:=⟨r,0,none⟩) hgw (.slice A s.l.length c)) (p:=⟨r,1,none⟩) hgw (.slice J s.js.length d)) (p:=⟨r,2,none⟩) hgw (.int .i64 s.pol);have hS9:=hS1;rw[←heap_setCell_other _ ⟨r,0,none⟩ gb (.slice A s.l.length c) hgr,←heap_setCell_other _ ⟨r,1,none⟩ gb (.slice J s.js.length d) hgr,←heap_setCell_other _ ⟨r,2,none⟩ gb (.int .i64 s.pol) hgr] at hS9;go_simp
 refine hK _ hS9 ?_;clear hK;refine tq 5 5 (.string ⟨(X).toArray⟩) rfl (fun _ _=>rfl) hS9 ?_;refine wpAnyH_done (by kernel_rfl) ?_ _;have hF:=h.keep BF;have gF:=g.keep BF;go_wp2_with fail;refine bodyPost_ret (v:=.tuple #[ssV A s.l.length c J s.js.length d s.pol,.string ⟨(X).toArray⟩]) (by simp[results,Tryz.results46,go_sem,z0,z1,z2]) rfl (by rw[HE.out];exact⟨A,c,J,d,rfl,HA.out,hF,gF,BF⟩)
def qxo(s:Ss):Ss×List UInt8:=(s,qlc s.l++[10])
theorem qpr(s:Ss)(A:ZA)(c:Nat)(J:ZA)(d:Nat)(w:World)(h:TS w A s.l)(g:JS w J s.js)(hA:(A=none→c=0)∧s.l.length≤c)(hs:qad s.l=true):
  Calls Tryz.prog 46 #[ssV A s.l.length c J s.js.length d s.pol,.string ⟨([115,104,97,114,101,115]:List UInt8).toArray⟩] w (qdd (qxo s) w):=by
 have HA:=zhi hA;clear hA;obtain⟨gb,r,hgb,hrE,hr0,hg1,B0,hgw,hgw0,hgr⟩:=qo7 w (ssC A s.l.length c J s.js.length d s.pol) (ssC none 0 0 none 0 0 0);go_enter Tryz.func46,Tryz.ntmps46;go_upto_region 1 with fail;generalize World.alloc (World.alloc w _) _=w0 at hr0 hg1 B0⊢;try simp only[hgb,hrE]
 clear hgb hrE;have HE0:Hid (qxo s=(s,qlc s.l++[10])):=rfl;have KH:=fun v h=>qqp A s.l c v h hs
 generalize qlc s.l++[10]=X at HE0 KH;have HE:=HE0;clear HE0;obtain⟨x0,x1,x2⟩:=qab hg1;go_upto_region 22 with fail;clear x0 x1 x2;refine wp_region_held (S:=fun w'=>w'.heap[gb]? =some (ssC A s.l.length c J s.js.length d s.pol)) (by kernel_rfl) ?_;change wpAnyH _ _ _ _ _ _ _ _ (World.drew _);have K0:Below w.heap.size w (World.drew w0):=zdr B0;have hS0:(World.drew w0).heap[gb]? =some (ssC A s.l.length c J s.js.length d s.pol):=hg1;have hR0:(World.drew w0).heap[r]? =some (ssC none 0 0 none 0 0 0):=hr0;generalize World.drew w0=v0 at K0 hS0 hR0⊢;refine tq 0 78 (ssV A s.l.length c J s.js.length d s.pol) rfl (fun w hS=>by obtain⟨x0,x1,x2⟩:=qab hS;go_simp) hS0 ?_;refine tq 1 79 (.pointer (some ⟨gb,0,none⟩)) rfl (fun w _=>by go_simp) hS0 ?_;refine tq 2 80 (.slice A s.l.length c) rfl (fun w hS=>by obtain⟨x0,x1,x2⟩:=qab hS;go_simp) hS0 ?_;refine tw 3 ?_;refine co 3 81 rfl 88 Tryz.func88 #[.slice A s.l.length c] (KH _ (h.keep K0)) ?_;rintro e v1 ⟨rfl,bz1⟩;have K1:=qaa K0 bz1;have hS1:=bh bz1 hS0;have hR1:=bh bz1 hR0;refine⟨_,rfl,hS1,?_⟩;simp only[lsS,lsZ];refine tw 4 ?_;refine qbp 4 rfl (by rfl) ?_;intro K hK;obtain⟨z0,z1,z2⟩:=qab hR1;have zf:=fun i=>zfz hR1 i
 have BF:=bst (bst (bst K1 (p:=⟨r,0,none⟩) hgw (.slice A s.l.length c)) (p:=⟨r,1,none⟩) hgw (.slice J s.js.length d)) (p:=⟨r,2,none⟩) hgw (.int .i64 s.pol);have hS9:=hS1;rw[←heap_setCell_other _ ⟨r,0,none⟩ gb (.slice A s.l.length c) hgr,←heap_setCell_other _ ⟨r,1,none⟩ gb (.slice J s.js.length d) hgr,←heap_setCell_other _ ⟨r,2,none⟩ gb (.int .i64 s.pol) hgr] at hS9;go_simp
 refine hK _ hS9 ?_;clear hK;refine tq 5 5 (.string ⟨(X).toArray⟩) rfl (fun _ _=>rfl) hS9 ?_;refine wpAnyH_done (by kernel_rfl) ?_ _;have hF:=h.keep BF;have gF:=g.keep BF;go_wp2_with fail;refine bodyPost_ret (v:=.tuple #[ssV A s.l.length c J s.js.length d s.pol,.string ⟨(X).toArray⟩]) (by simp[results,Tryz.results46,go_sem,z0,z1,z2]) rfl (by rw[HE.out];exact⟨A,c,J,d,rfl,HA.out,hF,gF,BF⟩)
def qm9(s:Ss):Ss×List UInt8:=(s,match q2d s.l with
 |some k=>([102,97,99,116,111,114,32]++qbi k)++[10]
 |none=>qhl)
theorem qps(s:Ss)(A:ZA)(c:Nat)(J:ZA)(d:Nat)(w:World)(h:TS w A s.l)(g:JS w J s.js)(hA:(A=none→c=0)∧s.l.length≤c)(hs:qad s.l=true):
  Calls Tryz.prog 46 #[ssV A s.l.length c J s.js.length d s.pol,.string ⟨([102,97,99,116,111,114]:List UInt8).toArray⟩] w (qdd (qm9 s) w):=by
 have hlm:=(qcs hs).1;have HA:=zhi hA;clear hA;obtain⟨gb,r,hgb,hrE,hr0,hg1,B0,hgw,hgw0,hgr⟩:=qo7 w (ssC A s.l.length c J s.js.length d s.pol) (ssC none 0 0 none 0 0 0);go_enter Tryz.func46,Tryz.ntmps46;go_upto_region 1 with fail;generalize World.alloc (World.alloc w _) _=w0 at hr0 hg1 B0⊢;try simp only[hgb,hrE]
 clear hgb hrE;obtain⟨x0,x1,x2⟩:=qab hg1;have K:Calls Tryz.prog _ _ w0 _:=qe7 A s.l c w0 (h.keep B0) (by unfold maxLen;omega);cases ho:q2d s.l with
 |none=>
  have HE:Hid (qm9 s=(s,qhl)):=by simp[Hid,qm9,ho]
  rw[qvb ho] at K;go_wp2_with fail;refine K.mono ?_;rintro e w2 ⟨rfl,b2⟩;have b3:=bal b2 (.cells #[.int .i64 0,.int .i64 0] 54 (0,0));clear ho K;go_upto_region 25 with fail;generalize World.alloc w2 _=w3 at b3⊢;have rM:=bh b3 hr0;have gM:=bh b3 hg1;have B2:=qaa B0 b3;clear x0 x1 x2;obtain⟨x0,x1,x2⟩:=qab gM;obtain⟨z0,z1,z2⟩:=qab rM;have zf:=fun i=>zfz rM i
  have BF:=bst (bst (bst B2 (p:=⟨r,0,none⟩) hgw (.slice A s.l.length c)) (p:=⟨r,1,none⟩) hgw (.slice J s.js.length d)) (p:=⟨r,2,none⟩) hgw (.int .i64 s.pol);have hF:=h.keep BF;have gF:=g.keep BF;go_wp2_with fail;refine bodyPost_ret (v:=.tuple #[ssV A s.l.length c J s.js.length d s.pol,.string ⟨(qhl).toArray⟩]) (by simp[results,Tryz.results46,go_sem,z0,z1,z2];rfl) rfl (by rw[HE.out];exact⟨A,c,J,d,rfl,HA.out,hF,gF,BF⟩)
 |some k=>
  have HE:Hid (qm9 s=(s,([102,97,99,116,111,114,32]++qbi k)++[10])):=by simp[Hid,qm9,ho]
  have hR:=qxk hs ho;have hkl:=qct k hR;rw[qyv ho] at K;go_wp2_with fail;refine K.mono ?_;rintro e w2 ⟨rfl,b2⟩;have b3:=bal b2 (.cells #[.int .i64 k.num,.int .i64 (k.den:Int)] 54 (0,0));have qN:=zha w2 (.cells #[.int .i64 k.num,.int .i64 (k.den:Int)] 54 (0,0));clear ho K;go_upto_region 25 with fail;obtain⟨q,hq⟩: ∃q,w2.heap.size=q:=⟨_,rfl⟩;rw[hq] at qN⊢;generalize World.alloc w2 _=w3 at b3 qN⊢;clear hq;have rM:=bh b3 hr0;have gM:=bh b3 hg1;have B2:=qaa B0 b3;clear x0 x1 x2;obtain⟨x0,x1,x2⟩:=qab gM;go_upto_region 27 with fail;clear x0 x1 x2;refine wp_region_held (S:=fun w'=>w'.heap[gb]? =some (ssC A s.l.length c J s.js.length d s.pol)∧w'.heap[q]? =some (.cells #[.int .i64 k.num,.int .i64 (k.den:Int)] 54 (0,0))) (by kernel_rfl) ?_;change wpAnyH _ _ _ _ _ _ _ _ (World.drew _);have K0:Below w.heap.size w (World.drew w3):=zdr B2;have hS0:(World.drew w3).heap[gb]? =some (ssC A s.l.length c J s.js.length d s.pol):=gM;have hR0:(World.drew w3).heap[r]? =some (ssC none 0 0 none 0 0 0):=rM;have hQ0:=(zdr (Below.refl w3.heap.size w3)).block q (bl qN)|>.trans qN
  generalize World.drew w3=v0 at K0 hS0 hR0 hQ0⊢;have hS7:=And.intro hS0 hQ0;refine tq 0 93 (ssV A s.l.length c J s.js.length d s.pol) rfl (fun w hS=>by obtain⟨x0,x1,x2⟩:=qab hS.1;go_simp) hS7 ?_;refine tq 1 94 (rv k) rfl (fun w hS=>by obtain⟨y0,y1⟩:=qak hS.2;go_simp) hS7 ?_;refine tw 2 ?_;refine co 2 95 rfl 89 Tryz.func89 #[rv k] (qeq k hR _) ?_;rintro e v1 ⟨rfl,bz1⟩;have K1:=qaa K0 bz1;have hS1:=bh bz1 hS0;have hR1:=bh bz1 hR0;have hQ1:=bh bz1 hQ0;have hS8:=And.intro hS1 hQ1;refine⟨_,rfl,hS8,?_⟩;simp only[lsS,lsZ];refine tq 3 96 (.string ⟨([102,97,99,116,111,114,32]++qbi k).toArray⟩) rfl (fun w _=>by go_simp;rw[if_neg (by simp;omega)];simp[qan]) hS8 ?_;refine tq 4 97 (.string ⟨(([102,97,99,116,111,114,32]++qbi k)++[10]).toArray⟩) rfl (fun w _=>by go_simp;rw[if_neg (by simp;omega)];simp[qan]) hS8 ?_;refine tw 5 ?_;refine qbp 5 rfl (by rfl) ?_;intro K hK;obtain⟨z0,z1,z2⟩:=qab hR1;have zf:=fun i=>zfz hR1 i
  have BF:=bst (bst (bst K1 (p:=⟨r,0,none⟩) hgw (.slice A s.l.length c)) (p:=⟨r,1,none⟩) hgw (.slice J s.js.length d)) (p:=⟨r,2,none⟩) hgw (.int .i64 s.pol);have hS9:=hS1;rw[←heap_setCell_other _ ⟨r,0,none⟩ gb (.slice A s.l.length c) hgr,←heap_setCell_other _ ⟨r,1,none⟩ gb (.slice J s.js.length d) hgr,←heap_setCell_other _ ⟨r,2,none⟩ gb (.int .i64 s.pol) hgr] at hS9;go_simp
  have hqr:q≠r:=by
   intro e;rw[e,hR1] at hQ1;injection hQ1 with hQ1
   injection hQ1 with h1 h2 h3
   revert h2
   decide
  have hQ9:=hQ1;rw[←heap_setCell_other _ ⟨r,0,none⟩ q (.slice A s.l.length c) hqr,←heap_setCell_other _ ⟨r,1,none⟩ q (.slice J s.js.length d) hqr,←heap_setCell_other _ ⟨r,2,none⟩ q (.int .i64 s.pol) hqr] at hQ9;replace hS9:=And.intro hS9 hQ9;refine hK _ hS9 ?_;clear hK;refine tq 6 5 (.string ⟨(([102,97,99,116,111,114,32]++qbi k)++[10]).toArray⟩) rfl (fun _ _=>rfl) hS9 ?_;refine wpAnyH_done (by kernel_rfl) ?_ _;have hF:=h.keep BF;have gF:=g.keep BF;go_wp2_with fail;refine bodyPost_ret (v:=.tuple #[ssV A s.l.length c J s.js.length d s.pol,.string ⟨(([102,97,99,116,111,114,32]++qbi k)++[10]).toArray⟩]) (by simp[results,Tryz.results46,go_sem,z0,z1,z2]) rfl (by rw[HE.out];exact⟨A,c,J,d,rfl,HA.out,hF,gF,BF⟩)
def qna(s:Ss):Ss×List UInt8:=(s,match qsz s.l s.pol with
 |some k=>([102,101,119,101,115,116,32]++num k)++[10]
 |none=>qhl)
theorem qpt(s:Ss)(A:ZA)(c:Nat)(J:ZA)(d:Nat)(w:World)(h:TS w A s.l)(g:JS w J s.js)(hA:(A=none→c=0)∧s.l.length≤c)(hlm:s.l.length≤5):
  Calls Tryz.prog 46 #[ssV A s.l.length c J s.js.length d s.pol,.string ⟨([102,101,119,101,115,116]:List UInt8).toArray⟩] w (qdd (qna s) w):=by
 have HA:=zhi hA;clear hA;obtain⟨gb,r,hgb,hrE,hr0,hg1,B0,hgw,hgw0,hgr⟩:=qo7 w (ssC A s.l.length c J s.js.length d s.pol) (ssC none 0 0 none 0 0 0);go_enter Tryz.func46,Tryz.ntmps46;go_upto_region 1 with fail;generalize World.alloc (World.alloc w _) _=w0 at hr0 hg1 B0⊢;try simp only[hgb,hrE]
 clear hgb hrE;obtain⟨x0,x1,x2⟩:=qab hg1;have K:Calls Tryz.prog _ _ w0 _:=qqw A s.l c s.pol w0 (h.keep B0) (by unfold maxLen;omega) HA.out.2;cases ho:qsz s.l s.pol with
 |none=>
  have HE:Hid (qna s=(s,qhl)):=by simp[Hid,qna,ho]
  rw[ho,show qgb none=.tuple #[.int .i64 0,.bool false] from rfl] at K;go_wp2_with fail;refine K.mono ?_;rintro e w3 ⟨rfl,b3⟩;clear ho K;have rM:=bh b3 hr0;have gM:=bh b3 hg1;have B2:=qaa B0 b3;clear x0 x1 x2;obtain⟨x0,x1,x2⟩:=qab gM;obtain⟨z0,z1,z2⟩:=qab rM;have zf:=fun i=>zfz rM i
  have BF:=bst (bst (bst B2 (p:=⟨r,0,none⟩) hgw (.slice A s.l.length c)) (p:=⟨r,1,none⟩) hgw (.slice J s.js.length d)) (p:=⟨r,2,none⟩) hgw (.int .i64 s.pol);have hF:=h.keep BF;have gF:=g.keep BF;go_wp2_with fail;refine bodyPost_ret (v:=.tuple #[ssV A s.l.length c J s.js.length d s.pol,.string ⟨(qhl).toArray⟩]) (by simp[results,Tryz.results46,go_sem,z0,z1,z2];rfl) rfl (by rw[HE.out];exact⟨A,c,J,d,rfl,HA.out,hF,gF,BF⟩)
 |some k=>
  have HE:Hid (qna s=(s,([102,101,119,101,115,116,32]++num k)++[10])):=by simp[Hid,qna,ho]
  have hk0:=(qj4 ho).1;have hk1:=(qj4 ho).2.1;rw[ho,show qgb (some k)=.tuple #[.int .i64 k,.bool true] from rfl] at K;have hkl:=qap k (by omega);go_wp2_with fail;refine K.mono ?_;rintro e w3 ⟨rfl,b3⟩;clear ho K;have rM:=bh b3 hr0;have gM:=bh b3 hg1;have B2:=qaa B0 b3;clear x0 x1 x2;obtain⟨x0,x1,x2⟩:=qab gM;go_upto_region 32 with fail;clear x0 x1 x2;refine wp_region_held (S:=fun w'=>w'.heap[gb]? =some (ssC A s.l.length c J s.js.length d s.pol)) (by kernel_rfl) ?_;change wpAnyH _ _ _ _ _ _ _ _ (World.drew _);have K0:Below w.heap.size w (World.drew w3):=zdr B2;have hS0:(World.drew w3).heap[gb]? =some (ssC A s.l.length c J s.js.length d s.pol):=gM;have hR0:(World.drew w3).heap[r]? =some (ssC none 0 0 none 0 0 0):=rM;generalize World.drew w3=v0 at K0 hS0 hR0⊢;refine tq 0 111 (ssV A s.l.length c J s.js.length d s.pol) rfl (fun w hS=>by obtain⟨x0,x1,x2⟩:=qab hS;go_simp) hS0 ?_;refine tq 1 112 (.int .i64 k) rfl (fun _ _=>rfl) hS0 ?_;refine tw 2 ?_;refine co 2 113 rfl 91 Tryz.func91 #[.int .i64 k] (qhw k (by omega) (by omega) _) ?_;rintro e v1 ⟨rfl,bz1⟩;have K1:=qaa K0 bz1;have hS1:=bh bz1 hS0;have hR1:=bh bz1 hR0;refine⟨_,rfl,hS1,?_⟩;simp only[lsS,lsZ];refine tq 3 114 (.string ⟨([102,101,119,101,115,116,32]++num k).toArray⟩) rfl (fun w _=>by go_simp;rw[if_neg (by simp;omega)];simp[qan]) hS1 ?_;refine tq 4 115 (.string ⟨(([102,101,119,101,115,116,32]++num k)++[10]).toArray⟩) rfl (fun w _=>by go_simp;rw[if_neg (by simp;omega)];simp[qan]) hS1 ?_;refine tw 5 ?_;refine qbp 5 rfl (by rfl) ?_;intro K hK;obtain⟨z0,z1,z2⟩:=qab hR1;have zf:=fun i=>zfz hR1 i
  have BF:=bst (bst (bst K1 (p:=⟨r,0,none⟩) hgw (.slice A s.l.length c)) (p:=⟨r,1,none⟩) hgw (.slice J s.js.length d)) (p:=⟨r,2,none⟩) hgw (.int .i64 s.pol);have hS9:=hS1;rw[←heap_setCell_other _ ⟨r,0,none⟩ gb (.slice A s.l.length c) hgr,←heap_setCell_other _ ⟨r,1,none⟩ gb (.slice J s.js.length d) hgr,←heap_setCell_other _ ⟨r,2,none⟩ gb (.int .i64 s.pol) hgr] at hS9;go_simp
  refine hK _ hS9 ?_;clear hK;refine tq 6 5 (.string ⟨(([102,101,119,101,115,116,32]++num k)++[10]).toArray⟩) rfl (fun _ _=>rfl) hS9 ?_;refine wpAnyH_done (by kernel_rfl) ?_ _;have hF:=h.keep BF;have gF:=g.keep BF;go_wp2_with fail;refine bodyPost_ret (v:=.tuple #[ssV A s.l.length c J s.js.length d s.pol,.string ⟨(([102,101,119,101,115,116,32]++num k)++[10]).toArray⟩]) (by simp[results,Tryz.results46,go_sem,z0,z1,z2]) rfl (by rw[HE.out];exact⟨A,c,J,d,rfl,HA.out,hF,gF,BF⟩)
theorem qvj(s:Ss)(hG:Good s)(A:ZA)(c:Nat)(J:ZA)(d:Nat)(x:List UInt8)(w:World)(h:TS w A s.l)(g:JS w J s.js)(hA:(A=none→c=0)∧s.l.length≤c):
  Calls Tryz.prog 46 #[ssV A s.l.length c J s.js.length d s.pol,.string ⟨x.toArray⟩] w (qdd (qlf s (qld s x)) w):=by
 have hlm:=qbj hG.v;have hjm:=(qfv hG.t).1;by_cases h0:x=[115,104,111,119]
 ·subst h0;have E:qlf s (qld s [115,104,111,119])=q46 s:=rfl;rw[E];exact qtb s A c J d w h g hA hlm hjm
 by_cases h1:x=[112,108,97,99,101,115]
 ·subst h1;have E:qlf s (qld s [112,108,97,99,101,115])=qxn s:=rfl;rw[E];exact qpp s A c J d w h g hA
 by_cases h2:x=[100,101,97,100,108,105,110,101,115]
 ·subst h2;have E:qlf s (qld s [100,101,97,100,108,105,110,101,115])=qm6 s:=rfl;rw[E];exact qme s A c J d w h g hA
 by_cases h3:x=[115,111,114,116]
 ·subst h3;have E:qlf s (qld s [115,111,114,116])=q63 s:=rfl;rw[E];exact qtc s A c J d w h g hA hlm
 by_cases h4:x=[97,115,115,105,103,110]
 ·subst h4;have E:qlf s (qld s [97,115,115,105,103,110])=qm7 s:=rfl;rw[E];exact qpq s A c J d w h g hA hlm
 by_cases h5:x=[104,111,108,100,115]
 ·subst h5;have E:qlf s (qld s [104,111,108,100,115])=qyy s:=rfl;rw[E];exact qqx s A c J d w h g hA hlm
 by_cases h6:x=[114,101,115,112,111,110,115,101,115]
 ·subst h6;have E:qlf s (qld s [114,101,115,112,111,110,115,101,115])=qm8 s:=rfl;rw[E];exact qmf s A c J d w h g hA hG.v
 by_cases h7:x=[115,104,97,114,101,115]
 ·subst h7;have E:qlf s (qld s [115,104,97,114,101,115])=qxo s:=rfl;rw[E];exact qpr s A c J d w h g hA hG.v
 by_cases h8:x=[102,97,99,116,111,114]
 ·subst h8;have E:qlf s (qld s [102,97,99,116,111,114])=qm9 s:=rfl;rw[E];exact qps s A c J d w h g hA hG.v
 by_cases h9:x=[102,101,119,101,115,116]
 ·subst h9;have E:qlf s (qld s [102,101,119,101,115,116])=qna s:=rfl;rw[E];exact qpt s A c J d w h g hA hlm
 have E:qld s x=none:=by simp[qld,h0,h1,h2,h3,h4,h5,h6,h7,h8,h9]
 rw[E];exact qta s A c J d x w h g hA (by simpa using h0) (by simpa using h1) (by simpa using h2) (by simpa using h3) (by simpa using h4) (by simpa using h5) (by simpa using h6) (by simpa using h7) (by simpa using h8) (by simpa using h9)
end Go.Proofs.YtmkjmancmiphfaaGreatDoor
