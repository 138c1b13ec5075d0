/-
  Words of the reference with a number: one that is none.
  What the reference's words tell: yes and no, responses, shares.
  What a line tells is neither empty nor long.
  most, MostHigh, MostLow: the program's.
  l8Most, MostHigh, MostLow: the reference's.
  PackHolds: the program's and the reference's.
  A region that draws its order, walked by hand: one operation taken first, one that is ready carried out; the frame is kept written out.
-/
import Derived.Test.YtmkjmancmiphfaaGreatDoorRc32
namespace Go.Proofs.YtmkjmancmiphfaaGreatDoor
set_option maxHeartbeats 8000000
set_option maxRecDepth 1000000
open Go.RowKit
theorem qry(s:Ss)(A:ZA)(c:Nat)(J:ZA)(d:Nat)(x:List UInt8)(n:Int)(w:World)(h:TS w A s.l)(g:JS w J s.js)(hA:(A=none→c=0)∧s.l.length≤c)(n0:(x==([108,101,97,118,101]:List UInt8))=false)(n1:(x==([114,97,105,115,101]:List UInt8))=false)(n2:(x==([114,117,110]:List UInt8))=false)(n3:(x==([114,117,108,101]:List UInt8))=false)(n4:(x==([119,111,114,115,116]:List UInt8))=false)(n5:(x==([104,105,103,104]:List UInt8))=false)(n6:(x==([112,97,99,107]:List UInt8))=false):
  Calls Tryz.prog 97 #[sV s A c J d,.string ⟨x.toArray⟩,.int .i64 n] w (qbr (s,qcv) w):=by
 have HA:=zhi hA;clear hA;obtain⟨gb,r,hgb,hrE,hr0,hg1,B0,hgw,hgw0,hgr⟩:=qnz w (sC s A c J d) (ssC none 0 0 none 0 0 0);go_enter Tryz.func97,Tryz.ntmps97;go_upto_region 1 with fail;generalize World.alloc (World.alloc w _) _=w0 at hr0 hg1 B0⊢;try simp only[hgb,hrE]
 clear hgb hrE;obtain⟨x0,x1,x2⟩:=Qb hg1;obtain⟨z0,z1,z2⟩:=Qb hr0;have zf:=fun i=>zfz hr0 i
 have BF:=bst (bst (bst B0 (p:=⟨r,0,none⟩) hgw (.slice A s.l.length c)) (p:=⟨r,1,none⟩) hgw (.slice J s.js.length d)) (p:=⟨r,2,none⟩) hgw (.int .i64 s.pol);have hF:=h.keep BF;have gF:=g.keep BF;go_wp2_with fail;refine bodyPost_ret (v:=.tuple #[sV s A c J d,.string ⟨qcv.toArray⟩]) (by simp[results,Tryz.results97,go_sem,z0,z1,z2];rfl) rfl ⟨A,c,J,d,rfl,HA.out,hF,gF,BF⟩
theorem qwd(x:List UInt8)(b:Bool)(w:World)(hl:x.length≤1000):
  Calls Tryz.prog 85 #[.string ⟨x.toArray⟩,.bool b] w fun e w'=>e=.returned (.string ⟨(x++(if b then [32,121,101,115,10] else [32,110,111,10])).toArray⟩)∧Below w.heap.size w w':=by
 cases b with
 |true=>
  go_enter Tryz.func85,Tryz.ntmps85;go_wp2_with fail;go_ret;exact⟨by show _=Ending.returned (.string ⟨(x++[32,121,101,115,10]).toArray⟩);rw[←Qn];rfl,br⟩
 |false=>
  go_enter Tryz.func85,Tryz.ntmps85;go_wp2_with fail;go_ret;exact⟨by show _=Ending.returned (.string ⟨(x++[32,110,111,10]).toArray⟩);rw[←Qn];rfl,br⟩
theorem qod{l:List Tk}(hs:Qe l=true){k:Nat}(hk:k<l.length){r:Int}(h:qk7 l (k:Int)=some r):0≤r∧r≤20:=by
 have h1:=qlc hs (n:=k) hk (qkg h).2;have h2:=qao (Qs hs hk);omega
theorem qxt{l:List Tk}(hs:Qe l=true){k:Nat}(hk:k<l.length){r:Int}(h:rSw l (k:Int)=some r):0≤r∧r≤20:=by
 cases hl:qk7 l (k:Int) with
 |none=>rw[qq8 hl] at h;cases h
 |some low=>
  rw[qq9 hl] at h;have h2:=qao (Qs hs hk);split at h
  ·rw[show((k:Int)).toNat=k from Yam k] at h;have h4:=qod hs hk hl;have hv:=qac (Qs hs hk);have h0:=(qiq hs h4.1 h4.2 (show k≤l.length by omega) (show 0≤(Qg l k).high by omega) (by omega)).1;have h3:=(qpx (fun a b hab=>qfi hs low (show k≤l.length by omega) hab) (by simp only[Vu];omega) r).1 h;omega
  ·cases h
theorem q15{l:List Tk}(hs:Qe l=true){k:Nat}(hk:k<l.length):(qv9 l k).length≤100:=by
 unfold qv9;have h0:=Qp (k:Int) (by have:=(qa7 hs).1;omega);rcases h1:qk7 l (k:Int) with _|v1<;>rcases h2:rSw l (k:Int) with _|v2<;>simp only[Yaa,Yau,Ybl]
 ·omega
 ·have:=Qp v2 (by have:=(qxt hs hk h2).2;omega);omega
 ·have:=Qp v1 (by have:=(qod hs hk h1).2;omega);omega
 ·have:=Qp v1 (by have:=(qod hs hk h1).2;omega);have:=Qp v2 (by have:=(qxt hs hk h2).2;omega);omega
theorem qlr{l:List Tk}(hs:Qe l=true): ∀{k:Nat},k≤l.length→(Vq l k).length≤100*k:=by
 intro k;induction k with
 |zero=>intro _;simp[Vq]
 |succ k ih=>
  intro hk;rw[Vq,Yaa];have h1:=ih (by omega);have h2:=q15 hs (k:=k) (by omega);omega
theorem qls(A:ZA)(l:List Tk)(c:Nat)(w:World)(h:TS w A l)(hs:Qe l=true):
  Calls Tryz.prog 87 #[.slice A l.length c] w fun e w'=>e=.returned (.string ⟨(Vq l l.length++[101,110,100,10]).toArray⟩)∧Below w.heap.size w w':=by
 have hl5:=(qa7 hs).1;have HS:=zhi hs;clear hs;go_enter Tryz.func87,Tryz.ntmps87;go_wp2_with fail;go_loopg [3,4,5,6,7,8] l.length (fun gg v i x5 x6 x7 x8 wr=> ∃(k:Nat) (P:List UInt8),gg+k=l.length∧i=.int .i64 (k:Int)∧v=.string ⟨P.toArray⟩∧P.length≤1000∧Hid (P=Vq l k)∧Below w.heap.size w wr)
 case atStart=>exact⟨0,[],by omega,rfl,rfl,by simp,rfl,br⟩
 case round=>
  obtain⟨k,P,hgk,rfl,rfl,hPl,hP,hb⟩:=hrel;by_cases hlt:k<l.length
  ·have e0:decide ((k:Int)<(l.length:Int))=true:=Yag (by omega);have hkI:(k:Int)<(l.length:Int):=by omega
   have HT:Hid (Vq l (k+1)=Vq l k++qv9 l k):=rfl;have HL:=zhi (qlr HS.out (k:=k+1) (by omega));have HR:Hid (qv9 l k=num (k:Int)++((match qk7 l (k:Int) with|some v=>[32,108,111,119,32]++num v|none=>[])++((match rSw l (k:Int) with|some v=>[32,115,119,105,116,99,104,32]++num v|none=>[])++[10]))):=rfl;have hb1:=fun v=>qod HS.out hlt (r:=v)
   have hb2:=fun v=>qxt HS.out hlt (r:=v)
   have hk21:=Qp (k:Int) (by omega);have K1:=fun w h=>qc0 A l c (k:Int) w h (by unfold maxLen;omega)
   have K2:=fun w h=>qfj A l c (k:Int) w h (by unfold maxLen;omega)
   generalize qk7 l (k:Int)=o1 at HR hb1 K1;generalize rSw l (k:Int)=o2 at HR hb2 K2;go_wp2_with fail;refine(K1 _ (h.keep hb)).mono ?_;rintro e w1 ⟨rfl,b1⟩;have B1:=Qa hb b1;cases o1 with
   |none=>
    cases o2 with
    |none=>
     clear hb1 hb2
     have HX:Hid ((P++num (k:Int))++[10]=Vq l (k+1)):=by
      rw[Hid,HT.out,HR.out,hP.out];simp
     have HXl:Hid (((P++num (k:Int))++[10]).length≤1000):=by rw[Hid,HX.out];have:=HL.out;omega
     have d1:qes (none)=.tuple #[.int .i64 0,.bool false]:=rfl;rw[d1];clear d1 K1;go_wp2_with fail;refine(K2 _ (h.keep B1)).mono ?_;rintro e w2 ⟨rfl,b2⟩;have B2:=Qa B1 b2;have d2:qes (none)=.tuple #[.int .i64 0,.bool false]:=rfl;rw[d2];clear d2 K2;go_wp2_with fail;refine(qc5 (k:Int) (by omega) (by omega) _).mono ?_;rintro e w3 ⟨rfl,b3⟩;go_wp2_with fail;go_roundg (gk-1)
     case measure=>omega
     case rel=>exact⟨k+1,(P++num (k:Int))++[10],by omega,by go_num,by simp only[←Qn],HXl.out,HX,Qa B2 b3⟩
    |some v2=>
     have n2:=hb2 v2 rfl;have m2:=Qp v2 (by omega);clear hb1 hb2
     have HX:Hid ((((P++num (k:Int))++[32,115,119,105,116,99,104,32])++num v2)++[10]=Vq l (k+1)):=by
      rw[Hid,HT.out,HR.out,hP.out];simp
     have HXl:Hid (((((P++num (k:Int))++[32,115,119,105,116,99,104,32])++num v2)++[10]).length≤1000):=by rw[Hid,HX.out];have:=HL.out;omega
     have d1:qes (none)=.tuple #[.int .i64 0,.bool false]:=rfl;rw[d1];clear d1 K1;go_wp2_with fail;refine(K2 _ (h.keep B1)).mono ?_;rintro e w2 ⟨rfl,b2⟩;have B2:=Qa B1 b2;have d2:qes (some v2)=.tuple #[.int .i64 v2,.bool true]:=rfl;rw[d2];clear d2 K2;go_wp2_with fail;refine(qc5 (k:Int) (by omega) (by omega) _).mono ?_;rintro e w3 ⟨rfl,b3⟩;go_wp2_with fail;refine(qc5 v2 (by omega) (by omega) _).mono ?_;rintro e w5 ⟨rfl,b5⟩;go_wp2_with fail;go_roundg (gk-1)
     case measure=>omega
     case rel=>exact⟨k+1,(((P++num (k:Int))++[32,115,119,105,116,99,104,32])++num v2)++[10],by omega,by go_num,by simp only[←Qn],HXl.out,HX,Qa (Qa B2 b3) b5⟩
   |some v1=>
    cases o2 with
    |none=>
     have n1:=hb1 v1 rfl;have m1:=Qp v1 (by omega);clear hb1 hb2
     have HX:Hid ((((P++num (k:Int))++[32,108,111,119,32])++num v1)++[10]=Vq l (k+1)):=by
      rw[Hid,HT.out,HR.out,hP.out];simp
     have HXl:Hid (((((P++num (k:Int))++[32,108,111,119,32])++num v1)++[10]).length≤1000):=by rw[Hid,HX.out];have:=HL.out;omega
     have d1:qes (some v1)=.tuple #[.int .i64 v1,.bool true]:=rfl;rw[d1];clear d1 K1;go_wp2_with fail;refine(K2 _ (h.keep B1)).mono ?_;rintro e w2 ⟨rfl,b2⟩;have B2:=Qa B1 b2;have d2:qes (none)=.tuple #[.int .i64 0,.bool false]:=rfl;rw[d2];clear d2 K2;go_wp2_with fail;refine(qc5 (k:Int) (by omega) (by omega) _).mono ?_;rintro e w3 ⟨rfl,b3⟩;go_wp2_with fail;refine(qc5 v1 (by omega) (by omega) _).mono ?_;rintro e w4 ⟨rfl,b4⟩;go_wp2_with fail;go_roundg (gk-1)
     case measure=>omega
     case rel=>exact⟨k+1,(((P++num (k:Int))++[32,108,111,119,32])++num v1)++[10],by omega,by go_num,by simp only[←Qn],HXl.out,HX,Qa (Qa B2 b3) b4⟩
    |some v2=>
     have n1:=hb1 v1 rfl;have m1:=Qp v1 (by omega);have n2:=hb2 v2 rfl;have m2:=Qp v2 (by omega);clear hb1 hb2
     have HX:Hid ((((((P++num (k:Int))++[32,108,111,119,32])++num v1)++[32,115,119,105,116,99,104,32])++num v2)++[10]=Vq l (k+1)):=by
      rw[Hid,HT.out,HR.out,hP.out];simp
     have HXl:Hid (((((((P++num (k:Int))++[32,108,111,119,32])++num v1)++[32,115,119,105,116,99,104,32])++num v2)++[10]).length≤1000):=by rw[Hid,HX.out];have:=HL.out;omega
     have d1:qes (some v1)=.tuple #[.int .i64 v1,.bool true]:=rfl;rw[d1];clear d1 K1;go_wp2_with fail;refine(K2 _ (h.keep B1)).mono ?_;rintro e w2 ⟨rfl,b2⟩;have B2:=Qa B1 b2;have d2:qes (some v2)=.tuple #[.int .i64 v2,.bool true]:=rfl;rw[d2];clear d2 K2;go_wp2_with fail;refine(qc5 (k:Int) (by omega) (by omega) _).mono ?_;rintro e w3 ⟨rfl,b3⟩;go_wp2_with fail;refine(qc5 v1 (by omega) (by omega) _).mono ?_;rintro e w4 ⟨rfl,b4⟩;go_wp2_with fail;refine(qc5 v2 (by omega) (by omega) _).mono ?_;rintro e w5 ⟨rfl,b5⟩;go_wp2_with fail;go_roundg (gk-1)
     case measure=>omega
     case rel=>exact⟨k+1,(((((P++num (k:Int))++[32,108,111,119,32])++num v1)++[32,115,119,105,116,99,104,32])++num v2)++[10],by omega,by go_num,by simp only[←Qn],HXl.out,HX,Qa (Qa (Qa B2 b3) b4) b5⟩
  ·obtain rfl:k=l.length:=by omega
   have e0:decide ((l.length:Int)<(l.length:Int))=false:=Yaf (by omega);go_wp2_with fail;go_ret;exact⟨by rw[←hP.out,←Qn];rfl,hb⟩
theorem qph(A:ZA)(l:List Tk)(c:Nat)(w:World)(h:TS w A l)(hs:Qe l=true):
  Calls Tryz.prog 88 #[.slice A l.length c] w fun e w'=>e=.returned (.string ⟨(qj0 l++[10]).toArray⟩)∧Below w.heap.size w w':=by
 have hm:l.length≤maxLen:=by
  have:=(qa7 hs).1;unfold maxLen;omega
 have r1:=Vd hs false false;have r2:=Vd hs true false;have r3:=Vd hs true true;have l1:=qa8 _ r1;have l2:=qa8 _ r2;have l3:=qa8 _ r3;have K1:=fun w h=>qbt A l c false w h hm
 have K2:=fun w h=>qbt A l c true w h hm
 have K3:=fun w h=>qb4 A l c w h hm
 rw[qbh hs] at K1 K2 K3;have F1:=fun w=>qc6 _ r1 w
 have F2:=fun w=>qc6 _ r2 w
 have F3:=fun w=>qc6 _ r3 w
 have HX:Hid (qj0 l=(((([115,104,97,114,101,115,32]++Vk (Qu false false l))++[32])++Vk (Qu true false l))++[32])++Vk (Qu true true l)):=rfl;generalize Vk (Qu false false l)=t1 at l1 F1 HX;generalize Vk (Qu true false l)=t2 at l2 F2 HX;generalize Vk (Qu true true l)=t3 at l3 F3 HX;generalize Qu false false l=q1 at K1 F1 r1;generalize Qu true false l=q2 at K2 F2 r2;generalize Qu true true l=q3 at K3 F3 r3;clear r1 r2 r3 hs hm;go_enter Tryz.func88,Tryz.ntmps88;go_wp2_with fail;refine(K1 _ h).mono ?_;rintro e w1 ⟨rfl,b1⟩;go_wp2_with fail;refine(F1 _).mono ?_;rintro e w2 ⟨rfl,b2⟩;have B2:=Qa b1 b2;clear K1 F1 b1 b2;go_wp2_with fail;refine(K2 _ (h.keep B2)).mono ?_;rintro e w3 ⟨rfl,b3⟩;go_wp2_with fail;refine(F2 _).mono ?_;rintro e w4 ⟨rfl,b4⟩;have B4:=Qa (Qa B2 b3) b4;clear K2 F2 b3 b4;go_wp2_with fail;refine(K3 _ (h.keep B4)).mono ?_;rintro e w5 ⟨rfl,b5⟩;go_wp2_with fail;refine(F3 _).mono ?_;rintro e w6 ⟨rfl,b6⟩;go_wp2_with fail;go_ret;refine⟨?_,Qa (Qa B4 b5) b6⟩;rw[HX.out];simp only[←Qn];rfl
theorem qlt(l:List Tk)(ws:List Int):(qas l ws).length≤1800:=by
 unfold qas;split
 ·exact qn4 l ws 3 (by omega)
 ·simp
theorem q4m{l:List Tk}{js:List Jb}(hV:Q9 l js=true)(pol:Int)(n:Nat)(hn:n≤200):(q0n l js pol n).length≤9000:=by
 have h60:js.length≤60∧Qe l=true:=by
  simp only[Q9,Yac,Yae] at hV;exact⟨hV.1.2,hV.1.1⟩
 obtain⟨h60,hS⟩:=h60;have hLen:=qiw (l:=l) (js:=js) (num:=qgp l) (den:=qgq l) (pol:=pol) h60 n;have hok:(∀x∈(mR l js pol n).tr,x= -1∨(0≤x∧x≤4))∧(∀x∈(mR l js pol n).sw,0≤x∧x≤(n:Int)):=qvj hV (qgp l) (qgq l) pol n
 have hib: ∀(o:List Nat),(∀i∈o,i<js.length)→ ∀t∈Vv o,t≤1000000000:=by
  intro o ho t ht;simp only[Vv,List.mem_map] at ht;obtain⟨i,hi,rfl⟩:=ht;have:=ho i hi;omega
 have hlaL:=qvi l js (mR l js pol n).en (n:Int) js.length;have hlaB:=qvh l js (mR l js pol n).en (n:Int) js.length;have hdrL:=qrh (mR l js pol n).en js.length;have hdrB:=qri (mR l js pol n).en js.length;have t1:=qnl (mR l js pol n).tr;have t2:=qcf (mR l js pol n).sw (fun t ht=>by have:=hok.2 t ht;omega);have t3:=qcf _ (hib _ hlaB);have t4:=qcf _ (hib _ hdrB);rw[Qh] at t3 t4;have L1:(mR l js pol n).tr.length=n:=hLen.1;have L2:(mR l js pol n).sw.length≤n:=hLen.2.1;unfold q0n;simp only[Yaa,Yau,Ybl];omega
theorem qml{l:List Tk}{x p n:Int}(h:Vm l x p=some n):0≤n:=by
 have hk:=qe6 h;have hp:=qbk hk.1;have hv:=qac (Qs hp.1 hp.2.2.1);omega
theorem qt6{l:List Tk}{p:Int}(h:qi5 l p=true):p=1→qsi l=true:=by
 rintro rfl;simpa [qi5] using h
def LB(x:List UInt8):Prop:=1≤x.length∧x.length≤9500
theorem qlu(s:Ss)(l:List Tk):LB (qdc s l).2:=by
 have:=qcq l;simp only[LB,qdc,Yaa,Yau,Ybl];omega
theorem q16:LB noT:=by simp[LB,noT]
theorem q6f:LB okT:=by simp[LB,okT]
theorem qwe:LB qcv:=by simp[LB,qcv]
theorem qrz:LB qf1:=by simp[LB,qf1]
theorem qwf(s:Ss)(o:Option (List Jb)):LB (qpe s o).2:=by
 cases o with
 |none=>exact qwe
 |some js=>exact q6f
theorem qwg{l:List Tk}(hs:Qe l=true){r:Rat}(h:q1q l=some r):RIn r:=by
 unfold q1q at h;split at h
 ·injection h with h
  subst h;simp[RIn]
 ·split at h
  ·rename_i hf
   simp only[Yac,Ycn] at hf;injection h with h
   subst h;exact(qyg hs hf.2).facIn
  ·cases h
theorem q6g{s:Ss}(h:Good s){x:List UInt8}{q:Ss×List UInt8}(hq:qj1 s x=some q):LB q.2:=by
 have hl5:=Vl h.v;unfold qj1 at hq;rcases Q7 hq with rfl|hq
 ·exact qlu ..
 rcases Q7 hq with rfl|hq
 ·cases ha:Ve s.l with
  |none=>exact q16
  |some o=>exact qlu ..
 rcases Q7 hq with rfl|hq
 ·exact q6f
 rcases Q7 hq with rfl|hq
 ·exact q6f
 rcases Q7 hq with rfl|hq
 ·have:=qcq s.l;have:=qfc s.js;simp only[LB,Yaa,Yau,Ybl];omega
 rcases Q7 hq with rfl|hq
 ·dsimp only;split<;>simp[LB]
 rcases Q7 hq with rfl|hq
 ·have:=qlr h.v (zlr s.l.length);simp only[LB,Yaa,Yau,Ybl];omega
 rcases Q7 hq with rfl|hq
 ·have h1:=qa8 _ (Vd h.v false false);have h2:=qa8 _ (Vd h.v true false);have h3:=qa8 _ (Vd h.v true true);simp only[LB,qj0,Yaa,Yau,Ybl];omega
 rcases Q7 hq with rfl|hq
 ·dsimp only;split
  ·rename_i r hr
   have h1:=qa8 r (qwg h.v hr);simp only[LB,Yaa,Yau,Ybl];omega
  ·exact qrz
 rcases Q7 hq with rfl|hq
 ·dsimp only;split
  ·rename_i n hn
   have h1:=Qp n (by have:=(qik hn).2.1;omega);simp only[LB,Yaa,Yau,Ybl];omega
  ·exact qrz
 cases hq
theorem q6h{s:Ss}(_h:Good s){x:List UInt8}{n:Int}{q:Ss×List UInt8}(hq:qj2 s x n=some q):LB q.2:=by
 unfold qj2 at hq;rcases Q7 hq with rfl|hq
 ·split
  ·exact qlu ..
  ·exact q16
 rcases Q7 hq with rfl|hq
 ·cases hr:qal s.l n with
  |none=>exact q16
  |some l=>exact qlu ..
 rcases Q7 hq with rfl|hq
 ·exact qwf ..
 rcases Q7 hq with rfl|hq
 ·exact qwf ..
 rcases qlq hq with hq|hq
 ·by_cases hr:qrg s.l s.js s.pol n=true
  ·rw[Yav hr] at hq;injection hq with hq
   subst hq;simp only[qrg,Yac,Yae] at hr;have:=q4m hr.1.1.1 s.pol n.toNat (by omega);refine⟨?_,by dsimp only;omega⟩;unfold q0n;simp only[Yaa,Yau,Ybl];omega
  ·rw[Yaq hr] at hq;cases hq
 rcases Q7 hq with rfl|hq
 ·dsimp only;split
  ·rename_i k hk
   have h1:=Qp k (by have:=(qe6 hk).2.2.2.2.2.2.2;omega);simp only[LB,Yaa,Yau,Ybl];omega
  ·exact qrz
 rcases Q7 hq with rfl|hq
 ·dsimp only;split
  ·rename_i ws hk
   have h1:=qlt s.l ws;simp only[LB,Yaa,Yau,Ybl];omega
  ·exact qrz
 cases hq
theorem q6i{s:Ss}{x r:List UInt8}{q:Ss×List UInt8}(hq:qrv s x r=some q):LB q.2:=by
 unfold qrv at hq;rcases qlq hq with hq|hq
 ·cases hl:qhs r with
  |none=>rw[hl] at hq;cases hq
  |some l=>
   rw[hl] at hq;injection hq with hq
   subst hq;exact qlu ..
 rcases qlq hq with hq|hq
 ·cases hl:tkO r with
  |none=>rw[hl] at hq;cases hq
  |some t=>
   rw[hl] at hq;injection hq with hq
   subst hq;dsimp only;cases ha:qax s.l t s.pol with
   |none=>exact q16
   |some l=>exact qlu ..
 rcases Q7 hq with rfl|hq
 ·exact qwf ..
 cases hq
theorem q17{s:Ss}{o:Option (Ss×List UInt8)}(ho: ∀q,o=some q→LB q.2):LB (qj3 s o).2:=by
 cases o with
 |none=>exact qwe
 |some q=>exact ho q rfl
theorem qxu{s:Ss}(h:Good s)(x:List UInt8):LB (qfz s x).2:=by
 unfold qfz;split
 ·unfold qj4;cases ht:qrv s (Lib.cut x [32]).1 (Lib.cut x [32]).2.1 with
  |some q=>exact q6i ht
  |none=>
   dsimp only;cases hn:qdf (Lib.cut x [32]).2.1 with
   |some n=>exact q17 (fun q hq=>q6h h hq)
   |none=>exact qwe
 ·exact q17 (fun q hq=>q6g h hq)
theorem qxv{l:List Tk}{r:Rat}(h:q1q l=some r):qkn l=.tuple #[rv r,.bool true]:=by
 unfold q1q at h;unfold qkn;split at h
 ·rename_i hp
  injection h with h
  subst h;rw[Yav hp];rfl
 ·rename_i hp
  rw[Yaq hp];split at h
  ·rename_i hq
   injection h with h
   subst h;rw[Yav hq]
  ·cases h
theorem qt7{l:List Tk}(h:q1q l=none):qkn l=.tuple #[sv 0 0,.bool false]:=by
 unfold q1q at h;unfold qkn;split at h
 ·cases h
 ·rename_i hp
  rw[Yaq hp];split at h
  ·cases h
  ·rename_i hq
   rw[Yaq hq]
theorem q6j(w:World)(b i:Nat)(u:Value):w.grownBy (w.setCell ⟨b,i,none⟩ u) (some b):=
 ⟨rfl,rfl,rfl,by simp[World.setCell],fun k _ hne=>Yal w _ u k (fun e=>hne (by rw[e]))⟩
theorem qt8{base:Nat}{w:World}{b c:Nat}{l:List Tk}(h:OT base w (some ⟨b,0,none⟩) c l)(k:Nat)(hk:k<l.length):
  w.cell? ⟨b,k*5,none⟩=some (.int .i64 l[k].low)∧w.cell? ⟨b,k*5+1,none⟩=some (.int .i64 l[k].high)∧w.cell? ⟨b,k*5+2,none⟩=some (.int .i64 l[k].due)∧
  w.cell? ⟨b,k*5+3,none⟩=some (.int .i64 l[k].every)∧w.cell? ⟨b,k*5+4,none⟩=some (.bool l[k].crit)∧ ∀j,w.frozen? ⟨b,j,none⟩=false:=by
 obtain⟨b',off,hA,_,hc⟩:=h.ts (by omega);cases hA
 obtain⟨c0,c1,c2,c3,c4⟩:=qaa hc k hk;simp only[Ybj] at c0 c1 c2 c3 c4;exact⟨c0,c1,c2,c3,c4,fun j=>World.ownsRow.frozenAt h j⟩
theorem qwh{l:List Tk}{k:Nat}(hk:k<l.length)(n:Int):(qkk (Qg l k) n).cells=l[k].cells.set 1 (.int .i64 n):=by rw[qbi l k hk];rfl
theorem qoe(base b c k:Nat)(l:List Tk)(n:Int)(w:World)(h:OT base w (some ⟨b,0,none⟩) c l)(hk:k<l.length):
  Calls Tryz.prog 193 #[.pointer (some ⟨b,k*5,none⟩),.int .i64 n] w fun e w'=>e=.returned (.tuple #[])∧OT base w' (some ⟨b,0,none⟩) c (qap l k n)∧w.grownBy w' (some b):=by
 obtain⟨k0,k1,k2,k3,k4,kf⟩:=qt8 h k hk;have hO:=(qq3 h k 1 hk (by omega) (.int .i64 n) (qkk (Qg l k) n) (qwh hk n)).1;have hG:w.grownBy (w.setCell ⟨b,k*5+1,none⟩ (.int .i64 n)) (some b):=q6j w b (k*5+1) _;have HO:=zhi hO;have HG:=zhi hG;clear hO hG;go_enter Tryz.func193,Tryz.ntmps193;go_wp2_with fail;go_end0
 exact⟨rfl,HO.out,HG.out⟩
theorem qpi(A:ZA)(l:List Tk)(c k:Nat)(p:Int)(w:World)(h:TS w A l)(hk:k<l.length)(hl:l.length≤5):
  Calls Tryz.prog 192 #[.slice A l.length c,.int .i64 (k:Int),.int .i64 p,.func (.func 193) #[] #[]] w fun e w'=>e=.returned (qes (qmp l k p))∧Below w.heap.size w w':=by
 obtain⟨R,hR⟩: ∃R,qmp l k p=R:=⟨_,rfl⟩;have h20:Hid (qiv (fun n=>qaf (qap l k n) p) 20=R):=hR;rw[hR];clear hR;go_enter Tryz.func192,Tryz.ntmps192;go_wp2_with fail;go_loopw [10] (fun i wr=> ∃n:Nat,i=.int .i64 (n:Int)∧n≤20∧Hid (qiv (fun n=>qaf (qap l k n) p) n=R)∧Below w.heap.size w wr) (fun i _=>(intOf i).toNat)
 case atStart=>exact⟨20,rfl,by omega,h20,br⟩
 case round=>
  clear h20;obtain⟨n,rfl,hn,htop,hb⟩:=hrel;cases n with
  |zero=>
   have hf:=zhi htop.out.symm;go_wp2_with fail;go_ret2;exact⟨by rw[hf.out];rfl,hb⟩
  |succ m=>
   have hcast:(((m+1:Nat):Int))=(m:Int)+1:=by omega
   rw[hcast];have hlen:Hid ((qap l k ((m:Int)+1)).length=l.length):=by simp[Hid,qap]
   go_wp2_with fail;refine(qba A l c _ (h.keep hb) (by omega)).mono ?_;rintro e w2 ⟨A2,c2,rfl,o2,b2⟩;have B2:=Qa hb b2;obtain⟨b,rfl,hb1,hb2⟩:=qep o2 (by omega);go_wp2_with fail;refine(qoe _ b c2 k l ((m:Int)+1) _ o2 hk).mono ?_;rintro e w3 ⟨rfl,o3,g3⟩;have hz2:=b2.size;have B3:Below w.heap.size w w3:=B2.trans (qkh g3 (zll hb.size hb1) B2.size);have hs3:=Qo o3;rw[hlen.out] at hs3;have hc2:=hs3.1;have K:=Vw (some ⟨b,0,none⟩) (qap l k ((m:Int)+1)) c2 p w3 o3.ts (by rw[hlen.out];unfold maxLen;omega) (by rw[hlen.out];exact hc2);rw[hlen.out] at K;clear hs3;cases hh:qaf (qap l k ((m:Int)+1)) p with
   |true=>
    rw[hh] at K
    have hf:Hid (R=some ((m:Int)+1)):=by
     have:=htop.out;rw[Hid,←this];simp only[qiv,hh,if_true]
    clear hh;go_wp2_with fail;refine K.mono ?_;rintro e w4 ⟨rfl,b4⟩;go_wp2_with fail;go_ret2;exact⟨by rw[hf.out];rfl,Qa B3 b4⟩
   |false=>
    rw[hh] at K
    have hf:Hid (qiv (fun n=>qaf (qap l k n) p) m=R):=by
     have:=htop.out;rw[Hid,←this];simp only[qiv,hh,Yci,Ydh]
    clear hh;go_wp2_with fail;refine K.mono ?_;rintro e w4 ⟨rfl,b4⟩;go_wp2_with fail;go_roundw
    case rel=>exact⟨m,by go_num,by omega,hf,Qa B3 b4⟩
    case measure=>simp[intOf]
theorem qk1(A:ZA)(l:List Tk)(c:Nat)(x p:Int)(w:World)(h:TS w A l)(hm:l.length≤maxLen)(hlc:l.length≤c):
  Calls Tryz.prog 142 #[.slice A l.length c,.int .i64 x,.int .i64 p] w fun e w'=>e=.returned (qes (Vm l x p))∧Below w.heap.size w w':=by
 cases hB:qaf l p with
 |false=>
  have hf:Hid (Vm l x p=none):=by simp[Hid,Vm,hB]
  go_enter Tryz.func142,Tryz.ntmps142;go_wp2_with fail;refine(Vw A l c p _ h hm hlc).mono ?_;rw[hB];rintro e w1 ⟨rfl,b1⟩;go_wp2_with fail;go_ret2;exact⟨by rw[hf.out];rfl,b1⟩
 |true=>
  cases hP:plc l x with
  |false=>
   have hf:Hid (Vm l x p=none):=by simp[Hid,Vm,hP]
   go_enter Tryz.func142,Tryz.ntmps142;go_wp2_with fail;refine(Vw A l c p _ h hm hlc).mono ?_;rw[hB];rintro e w1 ⟨rfl,b1⟩;go_wp2_with fail;refine(Vs A l c x _ (h.keep b1)).mono ?_;rw[hP];rintro e w2 ⟨rfl,b2⟩;go_wp2_with fail;go_ret2;exact⟨by rw[hf.out];rfl,Qa b1 b2⟩
  |true=>
   obtain⟨hs,hl5,hlt,hx⟩:=qbk hP;obtain⟨n,rfl⟩: ∃n:Nat,x=(n:Int):=⟨_,hx⟩;rw[Yam] at hlt;clear hx hs;go_enter Tryz.func142,Tryz.ntmps142;go_wp2_with fail;refine(Vw A l c p _ h hm hlc).mono ?_;rw[hB];rintro e w1 ⟨rfl,b1⟩;go_wp2_with fail;refine(Vs A l c n _ (h.keep b1)).mono ?_;rw[hP];rintro e w2 ⟨rfl,b2⟩;have B2:=Qa b1 b2;obtain⟨b,off,rfl,hbl,hc⟩:=h.keep B2 (by omega);obtain⟨c0,c1,c2,c3,c4⟩:=Qv hc n hlt;clear hc;cases hcr:(Qg l n).crit with
   |false=>
    have hf:Hid (Vm l (n:Int) p=none):=by simp[Hid,Vm,hcr]
    rw[hcr] at c4;clear hcr hB hP;go_wp2_with fail;go_ret2;exact⟨by rw[hf.out];rfl,B2⟩
   |true=>
    have hf:Hid (Vm l (n:Int) p=qmp l n p):=by simp[Hid,Vm,hcr,hB,hP]
    rw[hcr] at c4;clear hcr hB hP;obtain⟨p1,p2,hv⟩: ∃p1 p2,qes (qmp l n p)=.tuple #[.int .i64 p1,.bool p2]:=by cases qmp l n p<;>exact⟨_,_,rfl⟩
    have Hv:=zhi hv;go_wp2_with fail;refine(qpi (some ⟨b,off,none⟩) l c n p _ (h.keep B2) hlt hl5).mono ?_;rw[hv];clear hv;rintro e w3 ⟨rfl,b3⟩;go_wp2_with fail;go_ret2;exact⟨by rw[hf.out,Hv.out];rfl,Qa B2 b3⟩
def qof(r:Option Int):Int:=match r with|none=>0|some x=>x
theorem q4n(g:Int→Bool)(n:Nat):0≤qof (qiv g n)∧qof (qiv g n)≤n:=by
 cases h:qiv g n with
 |none=>simp[qof]
 |some k=>
  have:=qu7 h;simp only[qof];omega
theorem q18(g:Int→Bool)(n:Nat):qes (qiv g n)=.tuple #[.int .i64 (qof (qiv g n)),.bool (decide (0<qof (qiv g n)))]:=by
 cases h:qiv g n with
 |none=>rfl
 |some k=>
  have:=qu7 h;have e:decide (0<k)=true:=by simp;omega
  show Value.tuple #[.int .i64 k,.bool true]=Value.tuple #[.int .i64 k,.bool (decide (0<k))];rw[e]
theorem qmy(A:ZA)(l:List Tk)(c:Nat)(x p:Int)(w:World)(h:TS w A l)(hm:l.length≤maxLen):
  Calls Tryz.prog 210 #[.slice A l.length c,.int .i64 x,.int .i64 p,.bool true] w fun e w'=>e=.returned (qes (if plc l x&&qaf l p then qmp l x.toNat p else none))∧Below w.heap.size w w':=by
 cases hP:plc l x with
 |false=>
  simp only[Bool.false_and,Yci,Ydh];go_enter Tryz.func210,Tryz.ntmps210;go_wp2_with fail;refine(qca A l c x _ h hm).mono ?_;rw[hP];rintro e w1 ⟨rfl,b1⟩;go_wp2_with fail;go_ret2;exact⟨rfl,b1⟩
 |true=>
  obtain⟨hs,hl5,hlt,hx⟩:=qbk hP;obtain⟨k,rfl⟩: ∃n:Nat,x=(n:Int):=⟨_,hx⟩;rw[Yam] at*;have HP:=zhi hP;clear hx hP;cases hB:qaf l p with
  |false=>
   simp only[Bool.and_false,Yci,Ydh];clear hs;go_enter Tryz.func210,Tryz.ntmps210;go_wp2_with fail;refine(qca A l c k _ h hm).mono ?_;rw[HP.out];rintro e w1 ⟨rfl,b1⟩;go_wp2_with fail;refine(qak A l c p _ (h.keep b1) hm).mono ?_;rw[hB];rintro e w2 ⟨rfl,b2⟩;go_wp2_with fail;go_ret2;exact⟨rfl,Qa b1 b2⟩
  |true=>
   simp only[Bool.and_self,if_true];have hv:=qac (Qs hs hlt);obtain⟨n1,n2,n3,n4,n5⟩:=hv;have hfin:=zhi (qz2 hlt hs p);have HB:=zhi hB;clear hs hB;obtain⟨g,hg⟩: ∃g:Int→Bool,g=fun n=>qaf (qap l k n) p:=⟨_,rfl⟩
   have hgs: ∀n,g n=qaf (qap l k n) p:=fun n=>by rw[hg]
   have Hgs:=zhi hgs;have hfin2:Hid (qmp l k p=qiv g (Qg l k).due.toNat):=by rw[Hid,hfin.out,hg]
   clear hg hgs hfin;go_enter Tryz.func210,Tryz.ntmps210;go_wp2_with fail;refine(qca A l c k _ h hm).mono ?_;rw[HP.out];rintro e w1 ⟨rfl,b1⟩;go_wp2_with fail;refine(qak A l c p _ (h.keep b1) hm).mono ?_;rw[HB.out];rintro e w2 ⟨rfl,b2⟩;have B2:=Qa b1 b2;go_wp2_with fail;go_loopw [10,11] (fun v i wr=> ∃n:Nat,i=.int .i64 ((n:Int)+1)∧v=.int .i64 (qof (qiv g n))∧(n:Int)≤(Qg l k).due∧Below w.heap.size w wr) (fun _ i _=>((Qg l k).due+1-intOf i).toNat)
   case atStart=>exact⟨0,rfl,rfl,by omega,B2⟩
   case round=>
    obtain⟨n,rfl,rfl,hn,hb⟩:=hrel;obtain⟨b,off,rfl,hbl,hc⟩:=h.keep hb (by omega);obtain⟨c0,c1,c2,c3,c4⟩:=Qv hc k hlt;clear hc c0 c1 c3 c4;have hlen:Hid ((qap l k ((n:Int)+1)).length=l.length):=by simp[Hid,qap]
    by_cases hle:(n:Int)+1≤(Qg l k).due
    ·have hstep:Hid (qiv g (n+1)=if g ((n:Int)+1) then some ((n:Int)+1) else qiv g n):=rfl;go_wp2_with (at_builtin;refine qet _ rfl _ _ rfl wr.heap.size (some ⟨wr.heap.size,0,none⟩) [] 0 rfl (Q8 wr _ (zlr _)) ⟨b,off,none⟩ c l rfl (h.keep (bal hb _)) (by simp) (by omega) (by simp) ?_;intro A3 c3' w3 o3 g3 b3;rw[Ycj] at o3;have B3:Below wr.heap.size wr w3:=(bal br _).trans b3;obtain⟨b5,rfl,hb5,hl5'⟩:=qep o3 (by omega);obtain⟨k0,k1,k2,k3,k4,kf⟩:=qt8 o3 k hlt;rw[←qbi l k hlt] at k0 k1 k2 k3 k4;clear c2;have hne5:b5≠w3.heap.size:=Nat.ne_of_lt hl5')
     have HTK:Hid (qap l k ((n:Int)+1)=l.set k (⟨(Qg l k).low,(n:Int)+1,(Qg l k).due,(Qg l k).every,(Qg l k).crit⟩:Tk)):=rfl;have hO5:=q2y o3 k hlt (⟨(Qg l k).low,(n:Int)+1,(Qg l k).due,(Qg l k).every,(Qg l k).crit⟩:Tk);rw[←HTK.out] at hO5;simp only at hO5;have hO6:=Vb hO5 (.cells #[.int .i64 (Qg l k).low,.int .i64 ((n:Int)+1),.int .i64 (Qg l k).due,.int .i64 (Qg l k).every,.bool (Qg l k).crit] 58);have HO6:=zhi hO6;have hG6:=qyv (w:=w3) (b:=b5) (i0:=k*5) (i1:=k*5+1) (i2:=k*5+2) (i3:=k*5+3) (i4:=k*5+4) (.int .i64 ((⟨(Qg l k).low,(n:Int)+1,(Qg l k).due,(Qg l k).every,(Qg l k).crit⟩:Tk)).low) (.int .i64 ((⟨(Qg l k).low,(n:Int)+1,(Qg l k).due,(Qg l k).every,(Qg l k).crit⟩:Tk)).high) (.int .i64 ((⟨(Qg l k).low,(n:Int)+1,(Qg l k).due,(Qg l k).every,(Qg l k).crit⟩:Tk)).due) (.int .i64 ((⟨(Qg l k).low,(n:Int)+1,(Qg l k).due,(Qg l k).every,(Qg l k).crit⟩:Tk)).every) (.bool ((⟨(Qg l k).low,(n:Int)+1,(Qg l k).due,(Qg l k).every,(Qg l k).crit⟩:Tk)).crit);have B6:=bal (B3.trans (qkh hG6 hb5 B3.size)) (.cells #[.int .i64 (Qg l k).low,.int .i64 ((n:Int)+1),.int .i64 (Qg l k).due,.int .i64 (Qg l k).every,.bool (Qg l k).crit] 58);have K:=qak (some ⟨b5,0,none⟩) (qap l k ((n:Int)+1)) c3' p _ HO6.out.ts (by rw[hlen.out];unfold maxLen;omega);rw[hlen.out,←Hgs.out] at K;clear hO5 hO6 hG6 k0 k1 k2 k3 k4 kf;with_reducible refine K.mono ?_
     cases hgn:g ((n:Int)+1) with
     |true=>
      have hst2:Hid (qiv g (n+1)=some ((n:Int)+1)):=by rw[Hid,hstep.out,hgn];rfl
      clear hgn K;rintro e w7 ⟨rfl,b7⟩;go_wp2_with fail;go_roundw
      case rel=>exact⟨n+1,by go_num,by rw[hst2.out];rfl,by omega,Qa hb (Qa B6 b7)⟩
      case measure=>simp[intOf];omega
     |false=>
      have hst2:Hid (qiv g (n+1)=qiv g n):=by rw[Hid,hstep.out,hgn];rfl
      clear hgn K;rintro e w7 ⟨rfl,b7⟩;go_wp2_with fail;go_roundw
      case rel=>exact⟨n+1,by go_num,by rw[hst2.out],by omega,Qa hb (Qa B6 b7)⟩
      case measure=>simp[intOf];omega
    ·have hnd:Hid (n=(Qg l k).due.toNat):=by rw[Hid];omega
     have hbd:0≤qof (qiv g n)∧qof (qiv g n)≤n:=q4n g n;obtain⟨bd0,bd1⟩:=hbd
     have hres:Hid (qes (qmp l k p)=.tuple #[.int .i64 (qof (qiv g n)),.bool (decide (0<qof (qiv g n)))]):=by
      rw[Hid,hfin2.out,←hnd.out];exact q18 g n
     go_wp2_with fail;go_ret2;exact⟨by rw[hres.out];rfl,hb⟩
theorem qr0(A:ZA)(l:List Tk)(c:Nat)(x p:Int)(w:World)(h:TS w A l)(hm:l.length≤maxLen)(_hlc:l.length≤c):
  Calls Tryz.prog 159 #[.slice A l.length c,.int .i64 x,.int .i64 p] w fun e w'=>e=.returned (qes (Vm l x p))∧Below w.heap.size w w':=by
 cases hP:plc l x with
 |false=>
  have hf:Hid (Vm l x p=none):=by simp[Hid,Vm,hP]
  go_enter Tryz.func159,Tryz.ntmps159;go_wp2_with fail;refine(qca A l c x _ h hm).mono ?_;rw[hP];rintro e w1 ⟨rfl,b1⟩;go_wp2_with fail;go_ret2;exact⟨by rw[hf.out];rfl,b1⟩
 |true=>
  obtain⟨hs,hl5,hlt,hx⟩:=qbk hP;obtain⟨n,rfl⟩: ∃n:Nat,x=(n:Int):=⟨_,hx⟩;rw[Yam] at hlt;have HP:=zhi hP;clear hx hs hP;go_enter Tryz.func159,Tryz.ntmps159;go_wp2_with fail;refine(qca A l c n _ h hm).mono ?_;rw[HP.out];rintro e w1 ⟨rfl,b1⟩;obtain⟨b,off,rfl,hbl,hc⟩:=h.keep b1 (by omega);obtain⟨c0,c1,c2,c3,c4⟩:=Qv hc n hlt;clear hc;cases hcr:(Qg l n).crit with
  |false=>
   have hf:Hid (Vm l (n:Int) p=none):=by simp[Hid,Vm,hcr]
   rw[hcr] at c4;clear hcr;go_wp2_with fail;go_ret2;exact⟨by rw[hf.out];rfl,b1⟩
  |true=>
   have hf:Hid (Vm l (n:Int) p=if plc l (n:Int)&&qaf l p then qmp l (n:Int).toNat p else none):=by simp[Hid,Vm,hcr]
   rw[hcr] at c4;clear hcr;have K:=fun w' hk=>qmy (some ⟨b,off,none⟩) l c n p w' hk hm
   rw[←hf.out] at K;obtain⟨p1,p2,hv⟩: ∃p1 p2,qes (Vm l n p)=.tuple #[.int .i64 p1,.bool p2]:=by cases Vm l n p<;>exact⟨_,_,rfl⟩
   rw[hv] at K;have HK:=zhi K;have Hv:=zhi hv;clear K hv;go_wp2_with fail;refine(HK.out _ (h.keep b1)).mono ?_;rintro e w2 ⟨rfl,b2⟩;go_wp2_with fail;go_ret2;exact⟨by rw[Hv.out];rfl,Qa b1 b2⟩
theorem qpj(A B:ZA)(l:List Tk)(ws:List Int)(c d:Nat)(m p:Int)(w:World)(h:TS w A l)(g:IS w B ws):
  Calls Tryz.prog 230 #[.slice A l.length c,.slice B ws.length d,.int .i64 m,.int .i64 p] w fun e w'=>e=.returned (.bool (pkH l ws m p))∧Below w.heap.size w w':=by
 cases hP:qar l ws m with
 |false=>
  have Hf:Hid (pkH l ws m p=false):=by simp[Hid,pkH,hP]
  go_enter Tryz.func230,Tryz.ntmps230;go_wp2_with fail;refine(qec A B l ws c d m _ h g).mono ?_;rw[hP];rintro e w1 ⟨rfl,b1⟩;go_wp2_with fail;go_ret;exact⟨by rw[Hf.out];rfl,b1⟩
 |true=>
  obtain⟨hs,m1,m3,hlen,_⟩:=(qn1 _ _ _).1 hP;have hl5:=(Qj hs).1;have HP:=zhi hP;have Hlen:=zhi hlen;clear hs hlen hP;go_enter Tryz.func230,Tryz.ntmps230;go_wp2_with fail;refine(qec A B l ws c d m _ h g).mono ?_;rw[HP.out];rintro e w1 ⟨rfl,b1⟩;go_wp2_with fail;go_loopw [16] (fun i wr=> ∃k:Nat,(k:Int)≤m∧i=.int .i64 (k:Int)∧Hid (∀q:Nat,q<k→qmc (grp l ws (q:Int)) p=true)∧Below w.heap.size w wr) (fun i _=>(m-intOf i).toNat)
  case atStart=>exact⟨0,by omega,rfl,fun q hq=>by omega,b1⟩
  case round=>
   obtain⟨k,hk,rfl,hall,hb⟩:=hrel;by_cases hlt:(k:Int)<m
   ·have hgl:(grp l ws (k:Int)).length≤5:=zll (qgo l ws _) hl5;cases hc:qmc (grp l ws (k:Int)) p with
    |true=>
     have hnext:Hid (∀q:Nat,q<k+1→qmc (grp l ws (q:Int)) p=true):=fun q hq=>by
      by_cases e:q=k
      ·subst e;exact hc
      ·exact hall.out q (by omega)
     go_wp2_with fail;refine(qi2 A B l ws c d (k:Int) _ (h.keep hb) (g.keep hb) Hlen.out (by omega)).mono ?_;rintro e w2 ⟨A2,c2,rfl,o2,b2⟩;go_wp2_with fail;refine(qaw A2 (grp l ws (k:Int)) c2 p _ o2.ts (by unfold maxLen;omega) (Qo o2).1).mono ?_;rw[hc];clear hc;rintro e w3 ⟨rfl,b3⟩;go_wp2_with fail;go_roundw
     case rel=>exact⟨k+1,by omega,by go_num,hnext,Qa hb (Qa b2 b3)⟩
     case measure=>simp[intOf];omega
    |false=>
     have Hf:Hid (pkH l ws m p=false):=by
      rw[Hid];cases e:pkH l ws m p with
      |false=>rfl
      |true=>
       have:=((qrt _ _ _ _).1 e).2 k (by omega);rw[hc] at this;cases this
     go_wp2_with fail;refine(qi2 A B l ws c d (k:Int) _ (h.keep hb) (g.keep hb) Hlen.out (by omega)).mono ?_;rintro e w2 ⟨A2,c2,rfl,o2,b2⟩;go_wp2_with fail;refine(qaw A2 (grp l ws (k:Int)) c2 p _ o2.ts (by unfold maxLen;omega) (Qo o2).1).mono ?_;rw[hc];clear hc;rintro e w3 ⟨rfl,b3⟩;go_wp2_with fail;go_ret;exact⟨by rw[Hf.out];rfl,Qa hb (Qa b2 b3)⟩
   ·have Hf:Hid (pkH l ws m p=true):=by
     rw[Hid,qrt];exact⟨HP.out,fun q hq=>hall.out q (by omega)⟩
    go_wp2_with fail;go_ret;exact⟨by rw[Hf.out];rfl,hb⟩
theorem qpk(A B:ZA)(l:List Tk)(ws:List Int)(c d:Nat)(m p:Int)(w:World)(h:TS w A l)(g:IS w B ws)(hm:l.length≤9223372036854775807):
  Calls Tryz.prog 205 #[.slice A l.length c,.slice B ws.length d,.int .i64 m,.int .i64 p] w fun e w'=>e=.returned (.bool (pkH l ws m p))∧Below w.heap.size w w':=by
 cases hP:qar l ws m with
 |false=>
  have Hf:Hid (pkH l ws m p=false):=by simp[Hid,pkH,hP]
  go_enter Tryz.func205,Tryz.ntmps205;go_wp2_with fail;refine(qed A B l ws c d m _ h g hm).mono ?_;rw[hP];rintro e w1 ⟨rfl,b1⟩;go_wp2_with fail;go_ret;exact⟨by rw[Hf.out];rfl,b1⟩
 |true=>
  obtain⟨hs,m1,m3,hlen,_⟩:=(qn1 _ _ _).1 hP;have hl5:=(Qj hs).1;have HP:=zhi hP;have Hlen:=zhi hlen;clear hs hlen hP;go_enter Tryz.func205,Tryz.ntmps205;go_wp2_with fail;refine(qed A B l ws c d m _ h g hm).mono ?_;rw[HP.out];rintro e w1 ⟨rfl,b1⟩;go_wp2_with fail;go_loopw [9] (fun i wr=> ∃k:Nat,(k:Int)≤m∧i=.int .i64 (k:Int)∧Hid (∀q:Nat,q<k→qmc (grp l ws (q:Int)) p=true)∧Below w.heap.size w wr) (fun i _=>(m-intOf i).toNat)
  case atStart=>exact⟨0,by omega,rfl,fun q hq=>by omega,b1⟩
  case round=>
   obtain⟨k,hk,rfl,hall,hb⟩:=hrel;by_cases hlt:(k:Int)<m
   ·have hgl:(grp l ws (k:Int)).length≤5:=zll (qgo l ws _) hl5;cases hc:qmc (grp l ws (k:Int)) p with
    |true=>
     have hnext:Hid (∀q:Nat,q<k+1→qmc (grp l ws (q:Int)) p=true):=fun q hq=>by
      by_cases e:q=k
      ·subst e;exact hc
      ·exact hall.out q (by omega)
     go_wp2_with fail;refine(qge A B l ws c d (k:Int) _ (h.keep hb) (g.keep hb) Hlen.out (by omega)).mono ?_;rintro e w2 ⟨A2,c2,rfl,o2,b2⟩;go_wp2_with fail;refine(qij A2 (grp l ws (k:Int)) c2 p _ o2.ts (by unfold maxLen;omega)).mono ?_;rw[hc];clear hc;rintro e w3 ⟨rfl,b3⟩;go_wp2_with fail;go_roundw
     case rel=>exact⟨k+1,by omega,by go_num,hnext,Qa hb (Qa b2 b3)⟩
     case measure=>simp[intOf];omega
    |false=>
     have Hf:Hid (pkH l ws m p=false):=by
      rw[Hid];cases e:pkH l ws m p with
      |false=>rfl
      |true=>
       have:=((qrt _ _ _ _).1 e).2 k (by omega);rw[hc] at this;cases this
     go_wp2_with fail;refine(qge A B l ws c d (k:Int) _ (h.keep hb) (g.keep hb) Hlen.out (by omega)).mono ?_;rintro e w2 ⟨A2,c2,rfl,o2,b2⟩;go_wp2_with fail;refine(qij A2 (grp l ws (k:Int)) c2 p _ o2.ts (by unfold maxLen;omega)).mono ?_;rw[hc];clear hc;rintro e w3 ⟨rfl,b3⟩;go_wp2_with fail;go_ret;exact⟨by rw[Hf.out];rfl,Qa hb (Qa b2 b3)⟩
   ·have Hf:Hid (pkH l ws m p=true):=by
     rw[Hid,qrt];exact⟨HP.out,fun q hq=>hall.out q (by omega)⟩
    go_wp2_with fail;go_ret;exact⟨by rw[Hf.out];rfl,hb⟩
theorem Qi{P:Program}{o:Oper}{a:Act}{w:World}{K:Act→World→Prop}{Q:Exit→Act→World→Prop}
  (h:if Region.wanted {o with guard:=none} (yielded #[] a.tmps)=true then Oper.wp P {o with guard:=none} a w K Q else False):Oper.wp P o a w K Q:=by
 rw[Yav (by simp[Region.wanted])] at h;exact h
theorem qdh{P:Program}{md:Region.Mode}{ops:Array Oper}{Q:Exit→Act→World→Prop}{i:Nat}(d:Tmp)(v:Value){L:List Value}{df:List Deferred}{oi:Oper}{fuel:Nat}{listed:Array Bool}{w:World}
  (hi:ops[i]? =some oi) (hd:oi.dst=some d) (hs:Region.noSelect ops=true) (hf:Region.free md ops listed i=true) (hr:(Region.ready md ops listed).contains i=true)
  (hQ: ∀c (a:Act) w,Q (.panic c) (a.put (some d) v) w→Q (.panic c) a w) (hy:Yields P ops oi v ⟨L.toArray,df⟩)
  (h:wpAny P md ops Q fuel (listed.setIfInBounds i true) ⟨(L.set d v).toArray,df⟩ w):wpAny P md ops Q (fuel+1) listed ⟨L.toArray,df⟩ w:=by
 refine wpAny_take hi hs hf hr (by rw[hd];exact hQ) hy ?_;rw[hd];simpa [Act.put] using h
theorem lq{P:Program}{md:Region.Mode}{ops:Array Oper}{Q:Exit→Act→World→Prop}(i:Nat)(d:Tmp)(v:Value){L L':List Value}{df:List Deferred}{oi:Oper}{fuel:Nat}{listed:Array Bool}{w:World}
  (hi:ops[i]? =some oi) (hy: ∀w,(execOp (Act.eval ⟨L.toArray,df⟩) oi).run P w=.ok (.value v) w)
  (h:wpAny P md ops Q fuel (listed.setIfInBounds i true) ⟨L'.toArray,df⟩ w)
  (hL:L.set d v=L':=by first|(simp only[lsS,lsZ];done)|(simp only[lsS,lsZ];rfl)) (hd:oi.dst=some d:=by rfl)
  (hb:(Region.noSelect ops&&Region.free md ops listed i&&(Region.ready md ops listed).contains i)=true:=by kernel_rfl)
  (hQ: ∀c (a:Act) w,Q (.panic c) (a.put (some d) v) w→Q (.panic c) a w:=by exact fun _ _ _ h=>h) (hw:Region.wanted oi (yielded ops L.toArray)=true:=by rfl):wpAny P md ops Q (fuel+1) listed ⟨L.toArray,df⟩ w:=by
 subst hL;simp only[Yac] at hb;exact qdh d v hi hd hb.1.1 hb.1.2 hb.2 hQ (.inl ⟨hw,hy⟩) h
theorem ln{P:Program}{md:Region.Mode}{ops:Array Oper}{Q:Exit→Act→World→Prop}(i:Nat)(d:Tmp){L L':List Value}{df:List Deferred}{oi:Oper}{fuel:Nat}{listed:Array Bool}{w:World}
  (hi:ops[i]? =some oi)
  (h:wpAny P md ops Q fuel (listed.setIfInBounds i true) ⟨L'.toArray,df⟩ w)
  (hL:L.set d undef=L':=by first|(simp only[lsS,lsZ];done)|(simp only[lsS,lsZ];rfl)) (hd:oi.dst=some d:=by rfl)
  (hb:(Region.noSelect ops&&Region.free md ops listed i&&(Region.ready md ops listed).contains i)=true:=by kernel_rfl)
  (hQ: ∀c (a:Act) w,Q (.panic c) (a.put (some d) undef) w→Q (.panic c) a w:=by exact fun _ _ _ h=>h) (hw:Region.wanted oi (yielded ops L.toArray)=false:=by rfl):wpAny P md ops Q (fuel+1) listed ⟨L.toArray,df⟩ w:=by
 subst hL;simp only[Yac] at hb;exact qdh d undef hi hd hb.1.1 hb.1.2 hb.2 hQ (.inr ⟨hw,rfl⟩) h
theorem qil{P:Program}{md:Region.Mode}{ops:Array Oper}{Q:Exit→Act→World→Prop}{i:Nat}(d:Tmp){L:List Value}{df:List Deferred}{o:Oper}{fuel:Nat}{listed:Array Bool}{w:World}{rs:List Nat}
  (hi:ops[i]? =some o) (_hd:o.dst=some d) (hw:Region.wanted o (yielded ops L.toArray)=true)
  (h: ∀K':Act→World→Prop,(∀v w,wpAny P md ops Q fuel (listed.setIfInBounds i true) ⟨(L.set d v).toArray,df⟩ w→K' ((⟨L.toArray,df⟩:Act).put (some d) v) w)→Oper.wp P {o with guard:=none} ⟨L.toArray,df⟩ w K' Q)
  (hs:AllReady P md ops Q fuel listed ⟨L.toArray,df⟩ w rs):AllReady P md ops Q fuel listed ⟨L.toArray,df⟩ w (i::rs):=by
 refine AllReady.cons hi (fun K' hK=>?_) hs;rw[Yav hw];refine h K' fun v w2 hv=>hK _ _ ?_
 simpa [Act.put] using hv
theorem wr{P:Program}{md:Region.Mode}{ops:Array Oper}{Q:Exit→Act→World→Prop}(i:Nat)(d:Tmp){L:List Value}{df:List Deferred}{o:Oper}{fuel:Nat}{listed:Array Bool}{w:World}
  (hi:ops[i]? =some o)
  (h: ∀K':Act→World→Prop,(∀v w,wpAny P md ops Q fuel (listed.setIfInBounds i true) ⟨(L.set d v).toArray,df⟩ w→K' ((⟨L.toArray,df⟩:Act).put (some d) v) w)→Oper.wp P {o with guard:=none} ⟨L.toArray,df⟩ w K' Q)
  (hd:o.dst=some d:=by rfl) (hw:Region.wanted o (yielded ops L.toArray)=true:=by rfl) (hr:Region.ready md ops listed=[i]:=by kernel_rfl):wpAny P md ops Q (fuel+1) listed ⟨L.toArray,df⟩ w:=
 wpAny_ready hr (by simp) (qil d hi hd hw h Yas)
end Go.Proofs.YtmkjmancmiphfaaGreatDoor
