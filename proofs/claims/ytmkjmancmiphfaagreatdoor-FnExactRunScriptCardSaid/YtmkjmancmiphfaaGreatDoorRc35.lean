/-
  PackFirst: the reference's. (Printed by gen_packs.py.)
  Words of the reference with a number: run, rule, worst, high, pack.
  The reference's words with a number or a text, whatever they are.
  Words of the reference without a rest: one without a rest that is none.
-/
import Derived.Test.YtmkjmancmiphfaaGreatDoorRc34
namespace Go.Proofs.YtmkjmancmiphfaaGreatDoor
set_option maxHeartbeats 8000000
set_option maxRecDepth 1000000
open Go.RowKit
theorem qd4(A B:ZA)(l:List Tk)(ws:List Int)(n c d:Nat)(p:Int)(w:World)(h:TS w A l)(g:IS w B ws)(h1:l.length=n)(h2:ws.length=n)(hl:n≤100000):
  Calls Tryz.prog 211 #[.slice A n c,.slice B n d,.int .i64 p] w (q2t w (grp l ws p)):=by
 have K:=qge A B l ws c d p w h g (by omega) (by omega);rw[h1,h2] at K;exact K
theorem qd5(A:ZA)(l:List Tk)(n c:Nat)(p:Int)(w:World)(h:TS w A l)(hn:l.length=n)(hm:n≤maxLen):
  Calls Tryz.prog 212 #[.slice A n c,.int .i64 p] w fun e w'=>e=.returned (.bool (qmc l p))∧Below w.heap.size w w':=by
 subst hn;exact qij A l c p w h hm
theorem qpl(A:ZA)(l:List Tk)(c:Nat)(m p:Int)(w:World)(h:TS w A l)(hm:l.length≤maxLen)(hlc:l.length≤c):
  Calls Tryz.prog 160 #[.slice A l.length c,.int .i64 m,.int .i64 p] w (qx6 w (ffL l m p) (qht l m p).isSome):=by
 by_cases hall:Qe l=true∧1≤m∧m≤3∧(p=0∨p=1)
 case neg=>
  have hv:qht l m p=none:=by
   have hf:(Qe l&&qg6 m&&q36 p)=false:=by
    cases hc:(Qe l&&qg6 m&&q36 p) with
    |false=>rfl
    |true=>
     exfalso;apply hall
     simp only[Yac,qg6,q36,Yae,Ydw,Yef] at hc;exact⟨hc.1.1,hc.1.2.1,hc.1.2.2,hc.2⟩
   simp[qht,hf]
  have hv2:ffL l m p=[]:=by simp[ffL,hv]
  rw[hv,hv2];clear hv hv2;have HA:=zhi hall;clear hall;cases hS:Qe l with
  |false=>
   go_enter Tryz.func160,Tryz.ntmps160;go_wp2_with fail;refine(Qd A l c _ h hm).mono ?_;rw[hS];rintro e w1 ⟨rfl,b1⟩;go_wp2_with fail;go_ret2;exact⟨_,0,rfl,Vh _ _ b1.size,bal b1 _⟩
  |true=>
   have H2:Hid (¬(1≤m∧m≤3∧(p=0∨p=1))):=fun e=>HA.out ⟨hS,e⟩
   have HS:=zhi hS;clear HA hS;cases hn:qzm m with
   |false=>
    go_enter Tryz.func160,Tryz.ntmps160;go_wp2_with fail;refine(Qd A l c _ h hm).mono ?_;rw[HS.out];rintro e w1 ⟨rfl,b1⟩;go_wp2_with fail;refine(qbb m _).mono ?_;rw[hn];rintro e w2 ⟨rfl,rfl⟩;go_wp2_with fail;go_ret2;exact⟨_,0,rfl,Vh _ _ b1.size,bal b1 _⟩
   |true=>
    have h13:1≤m∧m≤3:=by simpa [qzm] using hn
    have hp0:(p !=0)=true:=by
     simp only[Ydm];intro e;exact H2.out ⟨h13.1,h13.2,.inl e⟩
    have hp1:(p !=1)=true:=by
     simp only[Ydm];intro e;exact H2.out ⟨h13.1,h13.2,.inr e⟩
    go_enter Tryz.func160,Tryz.ntmps160;go_wp2_with fail;refine(Qd A l c _ h hm).mono ?_;rw[HS.out];rintro e w1 ⟨rfl,b1⟩;go_wp2_with fail;refine(qbb m _).mono ?_;rw[hn];rintro e w2 ⟨rfl,rfl⟩;go_wp2_with fail;go_ret2;exact⟨_,0,rfl,Vh _ _ b1.size,bal b1 _⟩
 case pos=>
  obtain⟨hS,h1m,h3m,hp⟩:=hall;have hl5:=(Qj hS).1;obtain⟨M,rfl⟩: ∃M:Nat,m=(M:Int):=⟨m.toNat,(Yay (by omega)).symm⟩;have hM:0<M:=by omega
  obtain⟨R,hR⟩: ∃R,qtz l M p (l.length-0) []=R:=⟨_,rfl⟩;have h1:qg6 (M:Int)=true:=by simp[qg6];omega
  have hany:qht l (M:Int) p=R:=by
   have h2:q36 p=true:=by rcases hp with rfl|rfl<;>rfl
   simp only[qht,hS,h1,h2,Bool.and_self,if_true,Yam];exact hR
  have HA:=zhi hany;have HR:=zhi hR;have HS:=zhi hS;have HN:Hid (qzm (M:Int)=true):=h1;clear hS hany hR h1
  have hp0:(p !=0)=false∨(p !=0)=true∧(p !=1)=false:=by
   rcases hp with rfl|rfl
   ·exact .inl rfl
   ·exact .inr ⟨rfl,rfl⟩
  clear hp;rcases hp0 with hq0|⟨hq0,hq1⟩
  ·go_enter Tryz.func160,Tryz.ntmps160;go_wp2_with fail;refine(Qd A l c _ h hm).mono ?_;rw[HS.out];rintro e w1 ⟨rfl,b1⟩;go_wp2_with fail;refine(qbb (M:Int) _).mono ?_;rw[HN.out];rintro e w2 ⟨rfl,rfl⟩;go_wp2_with fail;go_loopg [8,9] l.length (fun g v i wr=> ∃(ws:List Int) (bo d:Nat),g+ws.length=l.length∧i=.int .i64 (ws.length:Int)∧v=.slice (some ⟨bo,0,none⟩) ws.length d∧OI w.heap.size wr (some ⟨bo,0,none⟩) d ws∧Hid (qtz l M p (l.length-ws.length) ws=R)∧Below w.heap.size w wr)
   case atStart=>exact⟨[],w1.heap.size,0,by simp,rfl,rfl,Vh w1 _ b1.size,HR.out,bal b1 _⟩
   case round=>
    obtain⟨ws,bo,d,hg,rfl,rfl,hO,hfk,hb⟩:=hrel;obtain⟨wo,rfl⟩: ∃wo:World,wo=wr:=⟨_,rfl⟩;obtain⟨k,hk⟩: ∃k,ws.length=k:=⟨_,rfl⟩;have HK:=zhi hk;rw[hk] at hg hfk⊢;clear hk;have hd:k≤d:=by have:=(Qo hO).1;rw[HK.out] at this;exact this
    by_cases hlt:k<l.length
    ·obtain⟨ab,aoff,rfl,habl,hc⟩:=h (by omega);have hcel:=Qv hc k hlt;have Hcel:=zhi hcel;clear hc hcel;have hfk2:=hfk.out;rw[show l.length-k=(l.length-(k+1))+1 by omega,qk2] at hfk2;obtain⟨F,hF⟩: ∃F,qbc (qhn l ws p) (M-0) 0=F:=⟨_,rfl⟩;have hF0:=hF;rw[Yds] at hF0;rw[hF0] at hfk2;have HF2:=zhi hfk2;have HF0:=zhi hF;clear hF hF0 hfk2 hfk;have q0:(0:Int)≤(k:Int):=by omega
     have q1:(k:Int)<(l.length:Int):=by omega
     have q5:(k:Int)≤(c:Int):=by omega
     go_wp2_with fail;go_loopg [10,11] (M+1) (fun g a q wy=>(∃y:Nat,g+y=M+1∧y≤M∧a=.int .i64 (-1)∧q=.int .i64 (y:Int)∧Hid (qbc (qhn l ws p) (M-y) y=F)∧Below wo.heap.size wo wy)∨(∃y z:Nat,g=0∧a=.int .i64 (y:Int)∧q=.int .i64 (z:Int)∧y<M∧z≤M∧Hid (F=some y)∧Below wo.heap.size wo wy))
     case atStart=>exact .inl ⟨0,by omega,by omega,rfl,rfl,HF0.out,br⟩
     case round=>
      rcases hrel with⟨y,hgy,hyM,rfl,rfl,hfy,hby⟩|⟨y,z,rfl,rfl,rfl,hyM,hzM,hFy,hby⟩
      ·obtain⟨wy,rfl⟩: ∃wy:World,wy=wr:=⟨_,rfl⟩;have hOy:=Q3 hO hby;have hBy:=Qa hb hby;clear HF0;by_cases hy:y<M
       ·have Hst:=zhi (qd3 (qhn l ws p) M y hy);have hT:TS wy (some ⟨ab,aoff,none⟩) (l.take k):=qld (h.keep hBy) k;have hIS:IS wy (some ⟨bo,0,none⟩) ws:=hOy.is;have hablw:ab<wy.heap.size:=zlt habl hBy.size
        have hcells: ∀w':World,Below wy.heap.size wy w'→w'.cell? ⟨ab,aoff+k*5,none⟩=some (.int .i64 (Qg l k).low)∧w'.cell? ⟨ab,aoff+k*5+1,none⟩=some (.int .i64 (Qg l k).high)∧w'.cell? ⟨ab,aoff+k*5+2,none⟩=some (.int .i64 (Qg l k).due)∧w'.cell? ⟨ab,aoff+k*5+3,none⟩=some (.int .i64 (Qg l k).every)∧w'.cell? ⟨ab,aoff+k*5+4,none⟩=some (.bool (Qg l k).crit):=by
         intro w' hw';have f: ∀j,w'.cell? ⟨ab,j,none⟩=w.cell? ⟨ab,j,none⟩:=fun j=>(hw'.cell (p:=⟨ab,j,none⟩) hablw).trans (hBy.cell (p:=⟨ab,j,none⟩) habl)
         obtain⟨x0,x1,x2,x3,x4⟩:=Hcel.out;exact⟨(f _).trans x0,(f _).trans x1,(f _).trans x2,(f _).trans x3,(f _).trans x4⟩
        have hfit:qhn l ws p y=qmc (grp (l.take k) ws (y:Int)++[Qg l k]) p:=by rw[qhn,HK.out]
        have hGl:(grp (l.take k) ws (y:Int)).length≤5:=by
         refine zll (qgo _ _ _) ?_;rw[Yap];omega
        have Hlen1:Hid ((l.take k).length=k):=by rw[Hid,Yap];omega
        have Hlen2:Hid ((ws++[(y:Int)]).length=k+1):=by rw[Hid,Yaa,HK.out];rfl
        obtain⟨G,hG⟩: ∃G,grp (l.take k) ws (y:Int)=G:=⟨_,rfl⟩;rw[hG] at hGl hfit;have HG:=zhi hG;have Hfit:=zhi hfit;clear hfit hG;have hyMi:(y:Int)<(M:Int):=by omega
        have Hcells:=zhi hcells;go_wp2_with fail;refine Ydi (by kernel_rfl) ?_;refine lq 0 46 (.slice (some ⟨ab,aoff,none⟩) l.length c) rfl (fun _=>rfl) ?_;refine lq 1 47 (.int .i64 (k:Int)) rfl (fun _=>rfl) ?_;refine lq 2 48 (.slice (some ⟨ab,aoff,none⟩) k c) rfl (fun w=>by go_simp) ?_;refine lq 3 49 (.slice (some ⟨bo,0,none⟩) k d) rfl (fun _=>rfl) ?_;refine lq 4 50 (.int .i64 (y:Int)) rfl (fun _=>rfl) ?_;refine lq 6 52 (.slice (some ⟨ab,aoff,none⟩) l.length c) rfl (fun _=>rfl) ?_;refine lq 7 53 (.int .i64 (k:Int)) rfl (fun _=>rfl) ?_;refine lq 8 54 (.pointer (some ⟨ab,aoff+k*5,none⟩)) rfl (fun w=>by go_simp) ?_;refine wpAny_ready (rs:=[5,9]) (by kernel_rfl) (by simp) (qil (i:=5) 51 rfl rfl (by rfl) (fun K hK=>?_) (qil (i:=9) 55 rfl rfl (by rfl) (fun K hK=>?_) Yas))
        ·refine Qi (Qz rfl 211 Tryz.func211 (by kernel_rfl) rfl _ _ rfl #[.slice (some ⟨ab,aoff,none⟩) k c,.slice (some ⟨bo,0,none⟩) k d,.int .i64 (y:Int)] (by simp[Act.eval]) (qd4 (some ⟨ab,aoff,none⟩) (some ⟨bo,0,none⟩) (l.take k) ws k c d (y:Int) _ (hT.keep (zdr br)) (hIS.keep (zdr br)) Hlen1.out HK.out (by omega)) ?_);rintro e w7 ⟨A7,c7,rfl,o7,b7⟩;rw[HG.out] at o7⊢;have B7:Below wy.heap.size wy w7:=Qa (zdr br) b7;have O7:OT wy.heap.size w7 A7 c7 G:=Ql o7 (by first|exact zlr _|simp);have s7:=(Qo o7).1;refine⟨_,rfl,hK _ _ ?_⟩;simp only[lsS,lsZ];refine wr 9 55 rfl (fun K hK=>?_);have e:=hcells _ B7;obtain⟨e0,e1,e2,e3,e4⟩:=e;go_simp
         refine hK _ _ ?_;simp only[lsS,lsZ];clear e0 e1 e2 e3 e4;refine wr 10 56 rfl (fun K hK=>?_);go_simp
         refine hK _ _ ?_;simp only[lsS,lsZ];refine wr 11 57 rfl (fun K hK=>?_);refine Qi (Qy rfl (.tmp 51) (.tmp 56) rfl wy.heap.size A7 G G.length c7 rfl rfl (Vb O7 _) ⟨w7.heap.size,0,none⟩ 1 1 [Qg l k] rfl rfl (qf7 (zha w7 _) rfl) (by omega) (by simp) (by have:=B7.size;simp;omega) ?_);intro A8 c8 w8 o8 g8 b8;have B8:Below wy.heap.size wy w8:=(bal B7 _).trans b8;refine hK _ _ ?_;simp only[lsS,lsZ];refine lq 12 12 (.slice A8 (G.length+1) c8) rfl (fun _=>rfl) ?_;refine wpAny_done (by kernel_rfl) ?_ _;have hO8:=Q3 hOy B8;have s8:=(Qo o8).1;rw[Yaa,Yat] at s8;have K:=qd5 A8 (G++[Qg l k]) (G.length+1) c8 p w8 o8.ts (by rw[Yaa];rfl) (by unfold maxLen;omega);rw[←Hfit.out] at K;have hB8:=Qa hBy B8;cases hq:qhn l ws p y with
         |false=>
          rw[hq] at K;have hst2:Hid (qbc (qhn l ws p) (M-(y+1)) (y+1)=F):=by rw[Hid,←hfy.out,Hst.out,hq];rfl
          clear hq;go_wp2_with fail;refine K.mono ?_;rintro e w9 ⟨rfl,b9⟩;go_wp2_with fail;go_roundg (M-(y+1)+1)
          case measure=>omega
          case rel=>exact .inl ⟨y+1,by omega,by omega,rfl,by go_num,hst2,Qa (Qa hby B8) b9⟩
         |true=>
          rw[hq] at K;have hst2:Hid (F=some y):=by rw[Hid,←hfy.out,Hst.out,hq];rfl
          clear hq;go_wp2_with fail;refine K.mono ?_;rintro e w9 ⟨rfl,b9⟩;go_wp2_with fail;go_roundg 0
          case measure=>omega
          case rel=>exact .inr ⟨y,y+1,by omega,rfl,by go_num,by omega,by omega,hst2,Qa (Qa hby B8) b9⟩
        ·have e:=hcells _ (zdr br);obtain⟨e0,e1,e2,e3,e4⟩:=e;go_simp
         refine hK _ _ ?_;simp only[lsS,lsZ];clear e0 e1 e2 e3 e4;refine wpAny_ready (rs:=[5,10]) (by kernel_rfl) (by simp) (qil (i:=5) 51 rfl rfl (by rfl) (fun K hK=>?_) (qil (i:=10) 56 rfl rfl (by rfl) (fun K hK=>?_) Yas))
         ·refine Qi (Qz rfl 211 Tryz.func211 (by kernel_rfl) rfl _ _ rfl #[.slice (some ⟨ab,aoff,none⟩) k c,.slice (some ⟨bo,0,none⟩) k d,.int .i64 (y:Int)] (by simp[Act.eval]) (qd4 (some ⟨ab,aoff,none⟩) (some ⟨bo,0,none⟩) (l.take k) ws k c d (y:Int) _ (hT.keep (zdr br)) (hIS.keep (zdr br)) Hlen1.out HK.out (by omega)) ?_);rintro e w7 ⟨A7,c7,rfl,o7,b7⟩;rw[HG.out] at o7⊢;have B7:Below wy.heap.size wy w7:=Qa (zdr br) b7;have O7:OT wy.heap.size w7 A7 c7 G:=Ql o7 (by first|exact zlr _|simp);have s7:=(Qo o7).1;refine⟨_,rfl,hK _ _ ?_⟩;simp only[lsS,lsZ];refine wr 10 56 rfl (fun K hK=>?_);go_simp
          refine hK _ _ ?_;simp only[lsS,lsZ];refine wr 11 57 rfl (fun K hK=>?_);refine Qi (Qy rfl (.tmp 51) (.tmp 56) rfl wy.heap.size A7 G G.length c7 rfl rfl (Vb O7 _) ⟨w7.heap.size,0,none⟩ 1 1 [Qg l k] rfl rfl (qf7 (zha w7 _) rfl) (by omega) (by simp) (by have:=B7.size;simp;omega) ?_);intro A8 c8 w8 o8 g8 b8;have B8:Below wy.heap.size wy w8:=(bal B7 _).trans b8;refine hK _ _ ?_;simp only[lsS,lsZ];refine lq 12 12 (.slice A8 (G.length+1) c8) rfl (fun _=>rfl) ?_;refine wpAny_done (by kernel_rfl) ?_ _;have hO8:=Q3 hOy B8;have s8:=(Qo o8).1;rw[Yaa,Yat] at s8;have K:=qd5 A8 (G++[Qg l k]) (G.length+1) c8 p w8 o8.ts (by rw[Yaa];rfl) (by unfold maxLen;omega);rw[←Hfit.out] at K;have hB8:=Qa hBy B8;cases hq:qhn l ws p y with
          |false=>
           rw[hq] at K;have hst2:Hid (qbc (qhn l ws p) (M-(y+1)) (y+1)=F):=by rw[Hid,←hfy.out,Hst.out,hq];rfl
           clear hq;go_wp2_with fail;refine K.mono ?_;rintro e w9 ⟨rfl,b9⟩;go_wp2_with fail;go_roundg (M-(y+1)+1)
           case measure=>omega
           case rel=>exact .inl ⟨y+1,by omega,by omega,rfl,by go_num,hst2,Qa (Qa hby B8) b9⟩
          |true=>
           rw[hq] at K;have hst2:Hid (F=some y):=by rw[Hid,←hfy.out,Hst.out,hq];rfl
           clear hq;go_wp2_with fail;refine K.mono ?_;rintro e w9 ⟨rfl,b9⟩;go_wp2_with fail;go_roundg 0
           case measure=>omega
           case rel=>exact .inr ⟨y,y+1,by omega,rfl,by go_num,by omega,by omega,hst2,Qa (Qa hby B8) b9⟩
         ·go_simp
          refine hK _ _ ?_;simp only[lsS,lsZ];refine wr 5 51 rfl (fun K hK=>?_);refine Qi (Qz rfl 211 Tryz.func211 (by kernel_rfl) rfl _ _ rfl #[.slice (some ⟨ab,aoff,none⟩) k c,.slice (some ⟨bo,0,none⟩) k d,.int .i64 (y:Int)] (by simp[Act.eval]) (qd4 (some ⟨ab,aoff,none⟩) (some ⟨bo,0,none⟩) (l.take k) ws k c d (y:Int) _ (hT.keep (bal (zdr br) _)) (hIS.keep (bal (zdr br) _)) Hlen1.out HK.out (by omega)) ?_);rintro e w7 ⟨A7,c7,rfl,o7,b7⟩;rw[HG.out] at o7⊢;have B7:Below wy.heap.size wy w7:=Qa (bal (zdr br) _) b7;have O7:OT wy.heap.size w7 A7 c7 G:=Ql o7 (by first|exact zlr _|simp);have s7:=(Qo o7).1;refine⟨_,rfl,hK _ _ ?_⟩;simp only[lsS,lsZ];refine wr 11 57 rfl (fun K hK=>?_);refine Qi (Qy rfl (.tmp 51) (.tmp 56) rfl wy.heap.size A7 G G.length c7 rfl rfl (O7) ⟨wy.heap.size,0,none⟩ 1 1 [Qg l k] rfl rfl (qf7 ((b7.block _ (by simp)).trans (zha _ _)) rfl) (by omega) (by simp) (by have:=B7.size;simp;omega) ?_);intro A8 c8 w8 o8 g8 b8;have B8:Below wy.heap.size wy w8:=B7.trans b8;refine hK _ _ ?_;simp only[lsS,lsZ];refine lq 12 12 (.slice A8 (G.length+1) c8) rfl (fun _=>rfl) ?_;refine wpAny_done (by kernel_rfl) ?_ _;have hO8:=Q3 hOy B8;have s8:=(Qo o8).1;rw[Yaa,Yat] at s8;have K:=qd5 A8 (G++[Qg l k]) (G.length+1) c8 p w8 o8.ts (by rw[Yaa];rfl) (by unfold maxLen;omega);rw[←Hfit.out] at K;have hB8:=Qa hBy B8;cases hq:qhn l ws p y with
          |false=>
           rw[hq] at K;have hst2:Hid (qbc (qhn l ws p) (M-(y+1)) (y+1)=F):=by rw[Hid,←hfy.out,Hst.out,hq];rfl
           clear hq;go_wp2_with fail;refine K.mono ?_;rintro e w9 ⟨rfl,b9⟩;go_wp2_with fail;go_roundg (M-(y+1)+1)
           case measure=>omega
           case rel=>exact .inl ⟨y+1,by omega,by omega,rfl,by go_num,hst2,Qa (Qa hby B8) b9⟩
          |true=>
           rw[hq] at K;have hst2:Hid (F=some y):=by rw[Hid,←hfy.out,Hst.out,hq];rfl
           clear hq;go_wp2_with fail;refine K.mono ?_;rintro e w9 ⟨rfl,b9⟩;go_wp2_with fail;go_roundg 0
           case measure=>omega
           case rel=>exact .inr ⟨y,y+1,by omega,rfl,by go_num,by omega,by omega,hst2,Qa (Qa hby B8) b9⟩
       ·obtain rfl:y=M:=by omega
        have hFn:F=none:=by rw[←hfy.out,Ycc];rfl
        have hRn:R=none:=by
         have e:=HF2.out;rw[hFn] at e;exact e.symm
        have hr2:Hid (ffL l (y:Int) p=[]∧(qht l (y:Int) p).isSome=false):=by
         have e:qht l (y:Int) p=none:=by rw[HA.out,hRn]
         simp[Hid,ffL,e]
        clear hFn hRn;go_wp2_with fail;go_ret2;rw[hr2.out.1,hr2.out.2];exact⟨_,0,rfl,Vh _ _ hBy.size,bal hBy _⟩
      ·have hOy:=Q3 hO hby;have hBy:=Qa hb hby
       have HF3:Hid (qtz l M p (l.length-(k+1)) (ws++[(y:Int)])=R):=by
        have e:=HF2.out;rw[hFy.out] at e;exact e
       have Hlen2:Hid ((ws++[(y:Int)]).length=k+1):=by rw[Hid,Yaa,HK.out];rfl
       clear HF0;have y0:(0:Int)≤(y:Int):=by omega
       by_cases hz:z<M
       ·have hzi:(z:Int)<(M:Int):=by omega
        go_wp2_with (at_builtin;refine qam _ rfl (.tmp 65) (.tmp 67) rfl w.heap.size (some ⟨bo,0,none⟩) ws k d HK.out rfl (Q4 hOy _) wr.heap.size 1 (y:Int) _ rfl (zha wr _) (by omega) (by have:=hBy.size;simp;omega) ?_;intro A11 c11 w11 o11 b11)
        obtain⟨bo2,rfl,_,_⟩:=qdj o11 (by rw[Hlen2.out];omega);go_roundg (l.length-(k+1))
        case measure=>omega
        case rel=>exact⟨ws++[(y:Int)],bo2,c11,by rw[Hlen2.out];omega,by rw[Hlen2.out];go_num,by rw[Hlen2.out],o11,by rw[Hlen2.out];exact HF3,(bal hBy _).trans b11⟩
       ·have hzi: ¬(z:Int)<(M:Int):=by omega
        go_wp2_with (at_builtin;refine qam _ rfl (.tmp 65) (.tmp 67) rfl w.heap.size (some ⟨bo,0,none⟩) ws k d HK.out rfl (Q4 hOy _) wr.heap.size 1 (y:Int) _ rfl (zha wr _) (by omega) (by have:=hBy.size;simp;omega) ?_;intro A11 c11 w11 o11 b11)
        obtain⟨bo2,rfl,_,_⟩:=qdj o11 (by rw[Hlen2.out];omega);go_roundg (l.length-(k+1))
        case measure=>omega
        case rel=>exact⟨ws++[(y:Int)],bo2,c11,by rw[Hlen2.out];omega,by rw[Hlen2.out];go_num,by rw[Hlen2.out],o11,by rw[Hlen2.out];exact HF3,(bal hBy _).trans b11⟩
    ·obtain rfl:k=l.length:=by omega
     have hr:qht l (M:Int) p=some ws:=by rw[HA.out,←hfk.out,Ycc];rfl
     have hr2:Hid (ffL l (M:Int) p=ws∧(qht l (M:Int) p).isSome=true):=by simp[Hid,ffL,hr]
     clear hr;go_wp2_with fail;go_ret2;rw[hr2.out.1,hr2.out.2];exact⟨some ⟨bo,0,none⟩,d,by rw[HK.out];rfl,hO,hb⟩
  ·go_enter Tryz.func160,Tryz.ntmps160;go_wp2_with fail;refine(Qd A l c _ h hm).mono ?_;rw[HS.out];rintro e w1 ⟨rfl,b1⟩;go_wp2_with fail;refine(qbb (M:Int) _).mono ?_;rw[HN.out];rintro e w2 ⟨rfl,rfl⟩;go_wp2_with fail;go_loopg [8,9] l.length (fun g v i wr=> ∃(ws:List Int) (bo d:Nat),g+ws.length=l.length∧i=.int .i64 (ws.length:Int)∧v=.slice (some ⟨bo,0,none⟩) ws.length d∧OI w.heap.size wr (some ⟨bo,0,none⟩) d ws∧Hid (qtz l M p (l.length-ws.length) ws=R)∧Below w.heap.size w wr)
   case atStart=>exact⟨[],w1.heap.size,0,by simp,rfl,rfl,Vh w1 _ b1.size,HR.out,bal b1 _⟩
   case round=>
    obtain⟨ws,bo,d,hg,rfl,rfl,hO,hfk,hb⟩:=hrel;obtain⟨wo,rfl⟩: ∃wo:World,wo=wr:=⟨_,rfl⟩;obtain⟨k,hk⟩: ∃k,ws.length=k:=⟨_,rfl⟩;have HK:=zhi hk;rw[hk] at hg hfk⊢;clear hk;have hd:k≤d:=by have:=(Qo hO).1;rw[HK.out] at this;exact this
    by_cases hlt:k<l.length
    ·obtain⟨ab,aoff,rfl,habl,hc⟩:=h (by omega);have hcel:=Qv hc k hlt;have Hcel:=zhi hcel;clear hc hcel;have hfk2:=hfk.out;rw[show l.length-k=(l.length-(k+1))+1 by omega,qk2] at hfk2;obtain⟨F,hF⟩: ∃F,qbc (qhn l ws p) (M-0) 0=F:=⟨_,rfl⟩;have hF0:=hF;rw[Yds] at hF0;rw[hF0] at hfk2;have HF2:=zhi hfk2;have HF0:=zhi hF;clear hF hF0 hfk2 hfk;have q0:(0:Int)≤(k:Int):=by omega
     have q1:(k:Int)<(l.length:Int):=by omega
     have q5:(k:Int)≤(c:Int):=by omega
     go_wp2_with fail;go_loopg [10,11] (M+1) (fun g a q wy=>(∃y:Nat,g+y=M+1∧y≤M∧a=.int .i64 (-1)∧q=.int .i64 (y:Int)∧Hid (qbc (qhn l ws p) (M-y) y=F)∧Below wo.heap.size wo wy)∨(∃y z:Nat,g=0∧a=.int .i64 (y:Int)∧q=.int .i64 (z:Int)∧y<M∧z≤M∧Hid (F=some y)∧Below wo.heap.size wo wy))
     case atStart=>exact .inl ⟨0,by omega,by omega,rfl,rfl,HF0.out,br⟩
     case round=>
      rcases hrel with⟨y,hgy,hyM,rfl,rfl,hfy,hby⟩|⟨y,z,rfl,rfl,rfl,hyM,hzM,hFy,hby⟩
      ·obtain⟨wy,rfl⟩: ∃wy:World,wy=wr:=⟨_,rfl⟩;have hOy:=Q3 hO hby;have hBy:=Qa hb hby;clear HF0;by_cases hy:y<M
       ·have Hst:=zhi (qd3 (qhn l ws p) M y hy);have hT:TS wy (some ⟨ab,aoff,none⟩) (l.take k):=qld (h.keep hBy) k;have hIS:IS wy (some ⟨bo,0,none⟩) ws:=hOy.is;have hablw:ab<wy.heap.size:=zlt habl hBy.size
        have hcells: ∀w':World,Below wy.heap.size wy w'→w'.cell? ⟨ab,aoff+k*5,none⟩=some (.int .i64 (Qg l k).low)∧w'.cell? ⟨ab,aoff+k*5+1,none⟩=some (.int .i64 (Qg l k).high)∧w'.cell? ⟨ab,aoff+k*5+2,none⟩=some (.int .i64 (Qg l k).due)∧w'.cell? ⟨ab,aoff+k*5+3,none⟩=some (.int .i64 (Qg l k).every)∧w'.cell? ⟨ab,aoff+k*5+4,none⟩=some (.bool (Qg l k).crit):=by
         intro w' hw';have f: ∀j,w'.cell? ⟨ab,j,none⟩=w.cell? ⟨ab,j,none⟩:=fun j=>(hw'.cell (p:=⟨ab,j,none⟩) hablw).trans (hBy.cell (p:=⟨ab,j,none⟩) habl)
         obtain⟨x0,x1,x2,x3,x4⟩:=Hcel.out;exact⟨(f _).trans x0,(f _).trans x1,(f _).trans x2,(f _).trans x3,(f _).trans x4⟩
        have hfit:qhn l ws p y=qmc (grp (l.take k) ws (y:Int)++[Qg l k]) p:=by rw[qhn,HK.out]
        have hGl:(grp (l.take k) ws (y:Int)).length≤5:=by
         refine zll (qgo _ _ _) ?_;rw[Yap];omega
        have Hlen1:Hid ((l.take k).length=k):=by rw[Hid,Yap];omega
        have Hlen2:Hid ((ws++[(y:Int)]).length=k+1):=by rw[Hid,Yaa,HK.out];rfl
        obtain⟨G,hG⟩: ∃G,grp (l.take k) ws (y:Int)=G:=⟨_,rfl⟩;rw[hG] at hGl hfit;have HG:=zhi hG;have Hfit:=zhi hfit;clear hfit hG;have hyMi:(y:Int)<(M:Int):=by omega
        have Hcells:=zhi hcells;go_wp2_with fail;refine Ydi (by kernel_rfl) ?_;refine lq 0 46 (.slice (some ⟨ab,aoff,none⟩) l.length c) rfl (fun _=>rfl) ?_;refine lq 1 47 (.int .i64 (k:Int)) rfl (fun _=>rfl) ?_;refine lq 2 48 (.slice (some ⟨ab,aoff,none⟩) k c) rfl (fun w=>by go_simp) ?_;refine lq 3 49 (.slice (some ⟨bo,0,none⟩) k d) rfl (fun _=>rfl) ?_;refine lq 4 50 (.int .i64 (y:Int)) rfl (fun _=>rfl) ?_;refine lq 6 52 (.slice (some ⟨ab,aoff,none⟩) l.length c) rfl (fun _=>rfl) ?_;refine lq 7 53 (.int .i64 (k:Int)) rfl (fun _=>rfl) ?_;refine lq 8 54 (.pointer (some ⟨ab,aoff+k*5,none⟩)) rfl (fun w=>by go_simp) ?_;refine wpAny_ready (rs:=[5,9]) (by kernel_rfl) (by simp) (qil (i:=5) 51 rfl rfl (by rfl) (fun K hK=>?_) (qil (i:=9) 55 rfl rfl (by rfl) (fun K hK=>?_) Yas))
        ·refine Qi (Qz rfl 211 Tryz.func211 (by kernel_rfl) rfl _ _ rfl #[.slice (some ⟨ab,aoff,none⟩) k c,.slice (some ⟨bo,0,none⟩) k d,.int .i64 (y:Int)] (by simp[Act.eval]) (qd4 (some ⟨ab,aoff,none⟩) (some ⟨bo,0,none⟩) (l.take k) ws k c d (y:Int) _ (hT.keep (zdr br)) (hIS.keep (zdr br)) Hlen1.out HK.out (by omega)) ?_);rintro e w7 ⟨A7,c7,rfl,o7,b7⟩;rw[HG.out] at o7⊢;have B7:Below wy.heap.size wy w7:=Qa (zdr br) b7;have O7:OT wy.heap.size w7 A7 c7 G:=Ql o7 (by first|exact zlr _|simp);have s7:=(Qo o7).1;refine⟨_,rfl,hK _ _ ?_⟩;simp only[lsS,lsZ];refine wr 9 55 rfl (fun K hK=>?_);have e:=hcells _ B7;obtain⟨e0,e1,e2,e3,e4⟩:=e;go_simp
         refine hK _ _ ?_;simp only[lsS,lsZ];clear e0 e1 e2 e3 e4;refine wr 10 56 rfl (fun K hK=>?_);go_simp
         refine hK _ _ ?_;simp only[lsS,lsZ];refine wr 11 57 rfl (fun K hK=>?_);refine Qi (Qy rfl (.tmp 51) (.tmp 56) rfl wy.heap.size A7 G G.length c7 rfl rfl (Vb O7 _) ⟨w7.heap.size,0,none⟩ 1 1 [Qg l k] rfl rfl (qf7 (zha w7 _) rfl) (by omega) (by simp) (by have:=B7.size;simp;omega) ?_);intro A8 c8 w8 o8 g8 b8;have B8:Below wy.heap.size wy w8:=(bal B7 _).trans b8;refine hK _ _ ?_;simp only[lsS,lsZ];refine lq 12 12 (.slice A8 (G.length+1) c8) rfl (fun _=>rfl) ?_;refine wpAny_done (by kernel_rfl) ?_ _;have hO8:=Q3 hOy B8;have s8:=(Qo o8).1;rw[Yaa,Yat] at s8;have K:=qd5 A8 (G++[Qg l k]) (G.length+1) c8 p w8 o8.ts (by rw[Yaa];rfl) (by unfold maxLen;omega);rw[←Hfit.out] at K;have hB8:=Qa hBy B8;cases hq:qhn l ws p y with
         |false=>
          rw[hq] at K;have hst2:Hid (qbc (qhn l ws p) (M-(y+1)) (y+1)=F):=by rw[Hid,←hfy.out,Hst.out,hq];rfl
          clear hq;go_wp2_with fail;refine K.mono ?_;rintro e w9 ⟨rfl,b9⟩;go_wp2_with fail;go_roundg (M-(y+1)+1)
          case measure=>omega
          case rel=>exact .inl ⟨y+1,by omega,by omega,rfl,by go_num,hst2,Qa (Qa hby B8) b9⟩
         |true=>
          rw[hq] at K;have hst2:Hid (F=some y):=by rw[Hid,←hfy.out,Hst.out,hq];rfl
          clear hq;go_wp2_with fail;refine K.mono ?_;rintro e w9 ⟨rfl,b9⟩;go_wp2_with fail;go_roundg 0
          case measure=>omega
          case rel=>exact .inr ⟨y,y+1,by omega,rfl,by go_num,by omega,by omega,hst2,Qa (Qa hby B8) b9⟩
        ·have e:=hcells _ (zdr br);obtain⟨e0,e1,e2,e3,e4⟩:=e;go_simp
         refine hK _ _ ?_;simp only[lsS,lsZ];clear e0 e1 e2 e3 e4;refine wpAny_ready (rs:=[5,10]) (by kernel_rfl) (by simp) (qil (i:=5) 51 rfl rfl (by rfl) (fun K hK=>?_) (qil (i:=10) 56 rfl rfl (by rfl) (fun K hK=>?_) Yas))
         ·refine Qi (Qz rfl 211 Tryz.func211 (by kernel_rfl) rfl _ _ rfl #[.slice (some ⟨ab,aoff,none⟩) k c,.slice (some ⟨bo,0,none⟩) k d,.int .i64 (y:Int)] (by simp[Act.eval]) (qd4 (some ⟨ab,aoff,none⟩) (some ⟨bo,0,none⟩) (l.take k) ws k c d (y:Int) _ (hT.keep (zdr br)) (hIS.keep (zdr br)) Hlen1.out HK.out (by omega)) ?_);rintro e w7 ⟨A7,c7,rfl,o7,b7⟩;rw[HG.out] at o7⊢;have B7:Below wy.heap.size wy w7:=Qa (zdr br) b7;have O7:OT wy.heap.size w7 A7 c7 G:=Ql o7 (by first|exact zlr _|simp);have s7:=(Qo o7).1;refine⟨_,rfl,hK _ _ ?_⟩;simp only[lsS,lsZ];refine wr 10 56 rfl (fun K hK=>?_);go_simp
          refine hK _ _ ?_;simp only[lsS,lsZ];refine wr 11 57 rfl (fun K hK=>?_);refine Qi (Qy rfl (.tmp 51) (.tmp 56) rfl wy.heap.size A7 G G.length c7 rfl rfl (Vb O7 _) ⟨w7.heap.size,0,none⟩ 1 1 [Qg l k] rfl rfl (qf7 (zha w7 _) rfl) (by omega) (by simp) (by have:=B7.size;simp;omega) ?_);intro A8 c8 w8 o8 g8 b8;have B8:Below wy.heap.size wy w8:=(bal B7 _).trans b8;refine hK _ _ ?_;simp only[lsS,lsZ];refine lq 12 12 (.slice A8 (G.length+1) c8) rfl (fun _=>rfl) ?_;refine wpAny_done (by kernel_rfl) ?_ _;have hO8:=Q3 hOy B8;have s8:=(Qo o8).1;rw[Yaa,Yat] at s8;have K:=qd5 A8 (G++[Qg l k]) (G.length+1) c8 p w8 o8.ts (by rw[Yaa];rfl) (by unfold maxLen;omega);rw[←Hfit.out] at K;have hB8:=Qa hBy B8;cases hq:qhn l ws p y with
          |false=>
           rw[hq] at K;have hst2:Hid (qbc (qhn l ws p) (M-(y+1)) (y+1)=F):=by rw[Hid,←hfy.out,Hst.out,hq];rfl
           clear hq;go_wp2_with fail;refine K.mono ?_;rintro e w9 ⟨rfl,b9⟩;go_wp2_with fail;go_roundg (M-(y+1)+1)
           case measure=>omega
           case rel=>exact .inl ⟨y+1,by omega,by omega,rfl,by go_num,hst2,Qa (Qa hby B8) b9⟩
          |true=>
           rw[hq] at K;have hst2:Hid (F=some y):=by rw[Hid,←hfy.out,Hst.out,hq];rfl
           clear hq;go_wp2_with fail;refine K.mono ?_;rintro e w9 ⟨rfl,b9⟩;go_wp2_with fail;go_roundg 0
           case measure=>omega
           case rel=>exact .inr ⟨y,y+1,by omega,rfl,by go_num,by omega,by omega,hst2,Qa (Qa hby B8) b9⟩
         ·go_simp
          refine hK _ _ ?_;simp only[lsS,lsZ];refine wr 5 51 rfl (fun K hK=>?_);refine Qi (Qz rfl 211 Tryz.func211 (by kernel_rfl) rfl _ _ rfl #[.slice (some ⟨ab,aoff,none⟩) k c,.slice (some ⟨bo,0,none⟩) k d,.int .i64 (y:Int)] (by simp[Act.eval]) (qd4 (some ⟨ab,aoff,none⟩) (some ⟨bo,0,none⟩) (l.take k) ws k c d (y:Int) _ (hT.keep (bal (zdr br) _)) (hIS.keep (bal (zdr br) _)) Hlen1.out HK.out (by omega)) ?_);rintro e w7 ⟨A7,c7,rfl,o7,b7⟩;rw[HG.out] at o7⊢;have B7:Below wy.heap.size wy w7:=Qa (bal (zdr br) _) b7;have O7:OT wy.heap.size w7 A7 c7 G:=Ql o7 (by first|exact zlr _|simp);have s7:=(Qo o7).1;refine⟨_,rfl,hK _ _ ?_⟩;simp only[lsS,lsZ];refine wr 11 57 rfl (fun K hK=>?_);refine Qi (Qy rfl (.tmp 51) (.tmp 56) rfl wy.heap.size A7 G G.length c7 rfl rfl (O7) ⟨wy.heap.size,0,none⟩ 1 1 [Qg l k] rfl rfl (qf7 ((b7.block _ (by simp)).trans (zha _ _)) rfl) (by omega) (by simp) (by have:=B7.size;simp;omega) ?_);intro A8 c8 w8 o8 g8 b8;have B8:Below wy.heap.size wy w8:=B7.trans b8;refine hK _ _ ?_;simp only[lsS,lsZ];refine lq 12 12 (.slice A8 (G.length+1) c8) rfl (fun _=>rfl) ?_;refine wpAny_done (by kernel_rfl) ?_ _;have hO8:=Q3 hOy B8;have s8:=(Qo o8).1;rw[Yaa,Yat] at s8;have K:=qd5 A8 (G++[Qg l k]) (G.length+1) c8 p w8 o8.ts (by rw[Yaa];rfl) (by unfold maxLen;omega);rw[←Hfit.out] at K;have hB8:=Qa hBy B8;cases hq:qhn l ws p y with
          |false=>
           rw[hq] at K;have hst2:Hid (qbc (qhn l ws p) (M-(y+1)) (y+1)=F):=by rw[Hid,←hfy.out,Hst.out,hq];rfl
           clear hq;go_wp2_with fail;refine K.mono ?_;rintro e w9 ⟨rfl,b9⟩;go_wp2_with fail;go_roundg (M-(y+1)+1)
           case measure=>omega
           case rel=>exact .inl ⟨y+1,by omega,by omega,rfl,by go_num,hst2,Qa (Qa hby B8) b9⟩
          |true=>
           rw[hq] at K;have hst2:Hid (F=some y):=by rw[Hid,←hfy.out,Hst.out,hq];rfl
           clear hq;go_wp2_with fail;refine K.mono ?_;rintro e w9 ⟨rfl,b9⟩;go_wp2_with fail;go_roundg 0
           case measure=>omega
           case rel=>exact .inr ⟨y,y+1,by omega,rfl,by go_num,by omega,by omega,hst2,Qa (Qa hby B8) b9⟩
       ·obtain rfl:y=M:=by omega
        have hFn:F=none:=by rw[←hfy.out,Ycc];rfl
        have hRn:R=none:=by
         have e:=HF2.out;rw[hFn] at e;exact e.symm
        have hr2:Hid (ffL l (y:Int) p=[]∧(qht l (y:Int) p).isSome=false):=by
         have e:qht l (y:Int) p=none:=by rw[HA.out,hRn]
         simp[Hid,ffL,e]
        clear hFn hRn;go_wp2_with fail;go_ret2;rw[hr2.out.1,hr2.out.2];exact⟨_,0,rfl,Vh _ _ hBy.size,bal hBy _⟩
      ·have hOy:=Q3 hO hby;have hBy:=Qa hb hby
       have HF3:Hid (qtz l M p (l.length-(k+1)) (ws++[(y:Int)])=R):=by
        have e:=HF2.out;rw[hFy.out] at e;exact e
       have Hlen2:Hid ((ws++[(y:Int)]).length=k+1):=by rw[Hid,Yaa,HK.out];rfl
       clear HF0;have y0:(0:Int)≤(y:Int):=by omega
       by_cases hz:z<M
       ·have hzi:(z:Int)<(M:Int):=by omega
        go_wp2_with (at_builtin;refine qam _ rfl (.tmp 65) (.tmp 67) rfl w.heap.size (some ⟨bo,0,none⟩) ws k d HK.out rfl (Q4 hOy _) wr.heap.size 1 (y:Int) _ rfl (zha wr _) (by omega) (by have:=hBy.size;simp;omega) ?_;intro A11 c11 w11 o11 b11)
        obtain⟨bo2,rfl,_,_⟩:=qdj o11 (by rw[Hlen2.out];omega);go_roundg (l.length-(k+1))
        case measure=>omega
        case rel=>exact⟨ws++[(y:Int)],bo2,c11,by rw[Hlen2.out];omega,by rw[Hlen2.out];go_num,by rw[Hlen2.out],o11,by rw[Hlen2.out];exact HF3,(bal hBy _).trans b11⟩
       ·have hzi: ¬(z:Int)<(M:Int):=by omega
        go_wp2_with (at_builtin;refine qam _ rfl (.tmp 65) (.tmp 67) rfl w.heap.size (some ⟨bo,0,none⟩) ws k d HK.out rfl (Q4 hOy _) wr.heap.size 1 (y:Int) _ rfl (zha wr _) (by omega) (by have:=hBy.size;simp;omega) ?_;intro A11 c11 w11 o11 b11)
        obtain⟨bo2,rfl,_,_⟩:=qdj o11 (by rw[Hlen2.out];omega);go_roundg (l.length-(k+1))
        case measure=>omega
        case rel=>exact⟨ws++[(y:Int)],bo2,c11,by rw[Hlen2.out];omega,by rw[Hlen2.out];go_num,by rw[Hlen2.out],o11,by rw[Hlen2.out];exact HF3,(bal hBy _).trans b11⟩
    ·obtain rfl:k=l.length:=by omega
     have hr:qht l (M:Int) p=some ws:=by rw[HA.out,←hfk.out,Ycc];rfl
     have hr2:Hid (ffL l (M:Int) p=ws∧(qht l (M:Int) p).isSome=true):=by simp[Hid,ffL,hr]
     clear hr;go_wp2_with fail;go_ret2;rw[hr2.out.1,hr2.out.2];exact⟨some ⟨bo,0,none⟩,d,by rw[HK.out];rfl,hO,hb⟩
def q49(s:Ss)(n:Int):Ss×List UInt8:=(s,if qrg s.l s.js s.pol n then q0n s.l s.js s.pol n.toNat else qcv)
theorem qt9(s:Ss)(A:ZA)(c:Nat)(J:ZA)(d:Nat)(n:Int)(w:World)(h:TS w A s.l)(g:JS w J s.js)(hlm:s.l.length≤5)(hjm:s.js.length≤60)(hp:s.pol=0∨s.pol=1):
  Calls Tryz.prog 158 #[sV s A c J d,.int .i64 n] w fun e w'=>e=.returned (.string ⟨(q49 s n).2.toArray⟩)∧Below w.heap.size w w':=by
 unfold q49;cases hr:qrg s.l s.js s.pol n with
 |false=>exact qpc s.pol n hr A c J d w h g (by unfold maxLen;omega) (by unfold maxLen;omega)
 |true=>
  have h1:=hr;simp only[qrg,Yac,Yae] at h1;have hn:((n.toNat:Nat):Int)=n:=by omega
  have K:=qn0 h1.1.1.1 s.pol hp (qt6 h1.1.1.2) n.toNat (by omega) A c J d w h g;rw[hn] at K;exact K
theorem qua(s:Ss)(A:ZA)(c:Nat)(J:ZA)(d:Nat)(n:Int)(w:World)(h:TS w A s.l)(g:JS w J s.js)(hA:(A=none→c=0)∧s.l.length≤c)(hlm:s.l.length≤5)(hjm:s.js.length≤60)(hp:s.pol=0∨s.pol=1):
  Calls Tryz.prog 97 #[sV s A c J d,.string ⟨([114,117,110]:List UInt8).toArray⟩,.int .i64 n] w (qbr (q49 s n) w):=by
 have KR:=fun w h g=>qt9 s A c J d n w h g hlm hjm hp
 have HE0:Hid (q49 s n=(s,(q49 s n).2)):=rfl;obtain⟨X,hX⟩: ∃X,(q49 s n).2=X:=⟨_,rfl⟩;rw[hX] at KR HE0;have HE:=HE0;clear hX HE0;have HA:=zhi hA;clear hA;obtain⟨gb,r,hgb,hrE,hr0,hg1,B0,hgw,hgw0,hgr⟩:=qnz w (sC s A c J d) (ssC none 0 0 none 0 0 0);go_enter Tryz.func97,Tryz.ntmps97;go_upto_region 1 with fail;generalize World.alloc (World.alloc w _) _=w0 at hr0 hg1 B0⊢;try simp only[hgb,hrE]
 clear hgb hrE;obtain⟨x0,x1,x2⟩:=Qb hg1;go_upto_region 9 with fail;clear x0 x1 x2;refine wp_region_held (S:=fun w'=>w'.heap[gb]? =some (sC s A c J d)) (by kernel_rfl) ?_;change wpAnyH _ _ _ _ _ _ _ _ (World.drew _);have K0:Below w.heap.size w (World.drew w0):=zdr B0;have hS0:(World.drew w0).heap[gb]? =some (sC s A c J d):=hg1;have hR0:(World.drew w0).heap[r]? =some (ssC none 0 0 none 0 0 0):=hr0;generalize World.drew w0=v0 at K0 hS0 hR0⊢;refine tq 0 51 (sV s A c J d) rfl (fun w hS=>by obtain⟨x0,x1,x2⟩:=Qb hS;go_simp) hS0 ?_;refine tq 1 52 (sV s A c J d) rfl (fun w hS=>by obtain⟨x0,x1,x2⟩:=Qb hS;go_simp) hS0 ?_;refine tq 2 53 (.int .i64 n) rfl (fun _ _=>rfl) hS0 ?_;refine tw 3 ?_;refine co 3 54 rfl 158 Tryz.func158 #[sV s A c J d,.int .i64 n] (KR _ (h.keep K0) (g.keep K0)) ?_;rintro e v1 ⟨rfl,bz1⟩;have K1:=Qa K0 bz1;have hS1:=bh bz1 hS0;have hR1:=bh bz1 hR0;refine⟨_,rfl,hS1,?_⟩;simp only[lsS,lsZ];refine tw 4 ?_;refine Vt 4 rfl (by rfl) ?_;intro K hK;obtain⟨z0,z1,z2⟩:=Qb hR1;have zf:=fun i=>zfz hR1 i
 have BF:=bst (bst (bst K1 (p:=⟨r,0,none⟩) hgw (.slice A s.l.length c)) (p:=⟨r,1,none⟩) hgw (.slice J s.js.length d)) (p:=⟨r,2,none⟩) hgw (.int .i64 s.pol);have hS9:=hS1;rw[←Yab _ ⟨r,0,none⟩ gb (.slice A s.l.length c) hgr,←Yab _ ⟨r,1,none⟩ gb (.slice J s.js.length d) hgr,←Yab _ ⟨r,2,none⟩ gb (.int .i64 s.pol) hgr] at hS9;go_simp
 refine hK _ hS9 ?_;clear hK;refine tq 5 7 (.string ⟨(X).toArray⟩) rfl (fun _ _=>rfl) hS9 ?_;refine wpAnyH_done (by kernel_rfl) ?_ _;have hF:=h.keep BF;have gF:=g.keep BF;go_wp2_with fail;refine bodyPost_ret (v:=.tuple #[sV s A c J d,.string ⟨(X).toArray⟩]) (by simp[results,Tryz.results97,go_sem,z0,z1,z2]) rfl (by rw[HE.out];exact⟨A,c,J,d,rfl,HA.out,hF,gF,BF⟩)
def qy6(s:Ss)(n:Int):Ss×List UInt8:=qpe s (qay s.l n false)
theorem qr2(s:Ss)(A:ZA)(c:Nat)(J:ZA)(d:Nat)(n:Int)(w:World)(h:TS w A s.l)(g:JS w J s.js)(hA:(A=none→c=0)∧s.l.length≤c)(hlm:s.l.length≤5):
  Calls Tryz.prog 97 #[sV s A c J d,.string ⟨([114,117,108,101]:List UInt8).toArray⟩,.int .i64 n] w (qbr (qy6 s n) w):=by
 have HA:=zhi hA;clear hA;obtain⟨gb,r,hgb,hrE,hr0,hg1,B0,hgw,hgw0,hgr⟩:=qnz w (sC s A c J d) (ssC none 0 0 none 0 0 0);go_enter Tryz.func97,Tryz.ntmps97;go_upto_region 1 with fail;generalize World.alloc (World.alloc w _) _=w0 at hr0 hg1 B0⊢;try simp only[hgb,hrE]
 clear hgb hrE;obtain⟨x0,x1,x2⟩:=Qb hg1;have K:Calls Tryz.prog _ _ w0 _:=qjc A s.l c n false w0 (h.keep B0) (by unfold maxLen;omega);cases ho:qay s.l n false with
 |none=>
  have HE:Hid (qy6 s n=(s,qcv)):=by simp[Hid,qy6,ho,qpe]
  have e1:(qay s.l n false).isSome=false:=by simp[ho]
  rw[e1] at K;go_wp2_with fail;refine K.mono ?_;rintro e w3 ⟨A3,c3,rfl,o3,b3⟩;clear ho K e1;have rM:=bh b3 hr0;have gM:=bh b3 hg1;have B2:=Qa B0 b3;clear x0 x1 x2;obtain⟨x0,x1,x2⟩:=Qb gM;obtain⟨z0,z1,z2⟩:=Qb rM;have zf:=fun i=>zfz rM i
  have BF:=bst (bst (bst B2 (p:=⟨r,0,none⟩) hgw (.slice A s.l.length c)) (p:=⟨r,1,none⟩) hgw (.slice J s.js.length d)) (p:=⟨r,2,none⟩) hgw (.int .i64 s.pol);have hF:=h.keep BF;have gF:=g.keep BF;go_wp2_with fail;refine bodyPost_ret (v:=.tuple #[sV s A c J d,.string ⟨(qcv).toArray⟩]) (by simp[results,Tryz.results97,go_sem,z0,z1,z2];rfl) rfl (by rw[HE.out];exact⟨A,c,J,d,rfl,HA.out,hF,gF,BF⟩)
 |some js=>
  have HE:Hid (qy6 s n=(⟨s.l,js,s.pol⟩,okT)):=by simp[Hid,qy6,ho,qpe]
  have e1:(qay s.l n false).isSome=true:=by simp[ho]
  have e2:qcl s.l n false=js:=by simp[qcl,ho]
  rw[e1,e2] at K;go_wp2_with fail;refine K.mono ?_;rintro e w3 ⟨A3,c3,rfl,o3,b3⟩;clear ho K e1 e2;have rM:=bh b3 hr0;have gM:=bh b3 hg1;have B2:=Qa B0 b3;clear x0 x1 x2;obtain⟨x0,x1,x2⟩:=Qb gM;have xf:=fun i=>zfz gM i
  have gS:(w3.setCell ⟨gb,1,none⟩ (.slice A3 js.length c3)).heap[gb]? =some (ssC A s.l.length c A3 js.length c3 s.pol):=qa5 gM (i:=1) _;have rS:(w3.setCell ⟨gb,1,none⟩ (.slice A3 js.length c3)).heap[r]? =some (ssC none 0 0 none 0 0 0):=by rw[Yab _ _ _ _ hgr.symm];exact rM
  have BS:=bst B2 (p:=⟨gb,1,none⟩) hgw0 (.slice A3 js.length c3);have hr1:=(bl hr0);have hg1':=(bl hg1)
  have OS3:=qwc o3 (w':=(((w3.setCell ⟨gb,1,none⟩ (.slice A3 js.length c3)).setCell ⟨r,0,none⟩ (.slice A s.l.length c)).setCell ⟨r,1,none⟩ (.slice A3 js.length c3)).setCell ⟨r,2,none⟩ (.int .i64 s.pol)) (by simp) (by
   intro b hb;rw[Yab _ _ _ _ (by show b≠r;omega),Yab _ _ _ _ (by show b≠r;omega),Yab _ _ _ _ (by show b≠r;omega),Yab _ _ _ _ (by show b≠gb;omega)])
  go_upto_region 16 with fail;generalize World.setCell w3 _ _=w4 at gS rS BS OS3⊢;clear x0 x1 x2 xf;obtain⟨x0,x1,x2⟩:=Qb gS;obtain⟨z0,z1,z2⟩:=Qb rS;have zf:=fun i=>zfz rS i
  have BF:=bst (bst (bst BS (p:=⟨r,0,none⟩) hgw (.slice A s.l.length c)) (p:=⟨r,1,none⟩) hgw (.slice A3 js.length c3)) (p:=⟨r,2,none⟩) hgw (.int .i64 s.pol);have hF:=h.keep BF;go_wp2_with fail;refine bodyPost_ret (v:=.tuple #[ssV A s.l.length c A3 js.length c3 s.pol,.string ⟨okT.toArray⟩]) (by simp[results,Tryz.results97,go_sem,z0,z1,z2];rfl) rfl (by rw[HE.out];exact⟨A,c,A3,c3,rfl,HA.out,hF,OS3,BF⟩)
def qqz(s:Ss)(n:Int):Ss×List UInt8:=qpe s (qay s.l n true)
theorem qpm(s:Ss)(A:ZA)(c:Nat)(J:ZA)(d:Nat)(n:Int)(w:World)(h:TS w A s.l)(g:JS w J s.js)(hA:(A=none→c=0)∧s.l.length≤c)(hlm:s.l.length≤5):
  Calls Tryz.prog 97 #[sV s A c J d,.string ⟨([119,111,114,115,116]:List UInt8).toArray⟩,.int .i64 n] w (qbr (qqz s n) w):=by
 have HA:=zhi hA;clear hA;obtain⟨gb,r,hgb,hrE,hr0,hg1,B0,hgw,hgw0,hgr⟩:=qnz w (sC s A c J d) (ssC none 0 0 none 0 0 0);go_enter Tryz.func97,Tryz.ntmps97;go_upto_region 1 with fail;generalize World.alloc (World.alloc w _) _=w0 at hr0 hg1 B0⊢;try simp only[hgb,hrE]
 clear hgb hrE;obtain⟨x0,x1,x2⟩:=Qb hg1;have K:Calls Tryz.prog _ _ w0 _:=qjc A s.l c n true w0 (h.keep B0) (by unfold maxLen;omega);cases ho:qay s.l n true with
 |none=>
  have HE:Hid (qqz s n=(s,qcv)):=by simp[Hid,qqz,ho,qpe]
  have e1:(qay s.l n true).isSome=false:=by simp[ho]
  rw[e1] at K;go_wp2_with fail;refine K.mono ?_;rintro e w3 ⟨A3,c3,rfl,o3,b3⟩;clear ho K e1;have rM:=bh b3 hr0;have gM:=bh b3 hg1;have B2:=Qa B0 b3;clear x0 x1 x2;obtain⟨x0,x1,x2⟩:=Qb gM;obtain⟨z0,z1,z2⟩:=Qb rM;have zf:=fun i=>zfz rM i
  have BF:=bst (bst (bst B2 (p:=⟨r,0,none⟩) hgw (.slice A s.l.length c)) (p:=⟨r,1,none⟩) hgw (.slice J s.js.length d)) (p:=⟨r,2,none⟩) hgw (.int .i64 s.pol);have hF:=h.keep BF;have gF:=g.keep BF;go_wp2_with fail;refine bodyPost_ret (v:=.tuple #[sV s A c J d,.string ⟨(qcv).toArray⟩]) (by simp[results,Tryz.results97,go_sem,z0,z1,z2];rfl) rfl (by rw[HE.out];exact⟨A,c,J,d,rfl,HA.out,hF,gF,BF⟩)
 |some js=>
  have HE:Hid (qqz s n=(⟨s.l,js,s.pol⟩,okT)):=by simp[Hid,qqz,ho,qpe]
  have e1:(qay s.l n true).isSome=true:=by simp[ho]
  have e2:qcl s.l n true=js:=by simp[qcl,ho]
  rw[e1,e2] at K;go_wp2_with fail;refine K.mono ?_;rintro e w3 ⟨A3,c3,rfl,o3,b3⟩;clear ho K e1 e2;have rM:=bh b3 hr0;have gM:=bh b3 hg1;have B2:=Qa B0 b3;clear x0 x1 x2;obtain⟨x0,x1,x2⟩:=Qb gM;have xf:=fun i=>zfz gM i
  have gS:(w3.setCell ⟨gb,1,none⟩ (.slice A3 js.length c3)).heap[gb]? =some (ssC A s.l.length c A3 js.length c3 s.pol):=qa5 gM (i:=1) _;have rS:(w3.setCell ⟨gb,1,none⟩ (.slice A3 js.length c3)).heap[r]? =some (ssC none 0 0 none 0 0 0):=by rw[Yab _ _ _ _ hgr.symm];exact rM
  have BS:=bst B2 (p:=⟨gb,1,none⟩) hgw0 (.slice A3 js.length c3);have hr1:=(bl hr0);have hg1':=(bl hg1)
  have OS3:=qwc o3 (w':=(((w3.setCell ⟨gb,1,none⟩ (.slice A3 js.length c3)).setCell ⟨r,0,none⟩ (.slice A s.l.length c)).setCell ⟨r,1,none⟩ (.slice A3 js.length c3)).setCell ⟨r,2,none⟩ (.int .i64 s.pol)) (by simp) (by
   intro b hb;rw[Yab _ _ _ _ (by show b≠r;omega),Yab _ _ _ _ (by show b≠r;omega),Yab _ _ _ _ (by show b≠r;omega),Yab _ _ _ _ (by show b≠gb;omega)])
  go_upto_region 16 with fail;generalize World.setCell w3 _ _=w4 at gS rS BS OS3⊢;clear x0 x1 x2 xf;obtain⟨x0,x1,x2⟩:=Qb gS;obtain⟨z0,z1,z2⟩:=Qb rS;have zf:=fun i=>zfz rS i
  have BF:=bst (bst (bst BS (p:=⟨r,0,none⟩) hgw (.slice A s.l.length c)) (p:=⟨r,1,none⟩) hgw (.slice A3 js.length c3)) (p:=⟨r,2,none⟩) hgw (.int .i64 s.pol);have hF:=h.keep BF;go_wp2_with fail;refine bodyPost_ret (v:=.tuple #[ssV A s.l.length c A3 js.length c3 s.pol,.string ⟨okT.toArray⟩]) (by simp[results,Tryz.results97,go_sem,z0,z1,z2];rfl) rfl (by rw[HE.out];exact⟨A,c,A3,c3,rfl,HA.out,hF,OS3,BF⟩)
def qy7(s:Ss)(n:Int):Ss×List UInt8:=(s,match Vm s.l n s.pol with
 |some k=>([104,105,103,104,32]++num k)++[10]
 |none=>qf1)
theorem qr3(s:Ss)(A:ZA)(c:Nat)(J:ZA)(d:Nat)(n:Int)(w:World)(h:TS w A s.l)(g:JS w J s.js)(hA:(A=none→c=0)∧s.l.length≤c)(hlm:s.l.length≤5):
  Calls Tryz.prog 97 #[sV s A c J d,.string ⟨([104,105,103,104]:List UInt8).toArray⟩,.int .i64 n] w (qbr (qy7 s n) w):=by
 have HA:=zhi hA;clear hA;obtain⟨gb,r,hgb,hrE,hr0,hg1,B0,hgw,hgw0,hgr⟩:=qnz w (sC s A c J d) (ssC none 0 0 none 0 0 0);go_enter Tryz.func97,Tryz.ntmps97;go_upto_region 1 with fail;generalize World.alloc (World.alloc w _) _=w0 at hr0 hg1 B0⊢;try simp only[hgb,hrE]
 clear hgb hrE;obtain⟨x0,x1,x2⟩:=Qb hg1;have K:Calls Tryz.prog _ _ w0 _:=qr0 A s.l c n s.pol w0 (h.keep B0) (by unfold maxLen;omega) HA.out.2;cases ho:Vm s.l n s.pol with
 |none=>
  have HE:Hid (qy7 s n=(s,qf1)):=by simp[Hid,qy7,ho]
  rw[ho,show qes none=.tuple #[.int .i64 0,.bool false] from rfl] at K;go_wp2_with fail;refine K.mono ?_;rintro e w3 ⟨rfl,b3⟩;clear ho K;have rM:=bh b3 hr0;have gM:=bh b3 hg1;have B2:=Qa B0 b3;clear x0 x1 x2;obtain⟨x0,x1,x2⟩:=Qb gM;obtain⟨z0,z1,z2⟩:=Qb rM;have zf:=fun i=>zfz rM i
  have BF:=bst (bst (bst B2 (p:=⟨r,0,none⟩) hgw (.slice A s.l.length c)) (p:=⟨r,1,none⟩) hgw (.slice J s.js.length d)) (p:=⟨r,2,none⟩) hgw (.int .i64 s.pol);have hF:=h.keep BF;have gF:=g.keep BF;go_wp2_with fail;refine bodyPost_ret (v:=.tuple #[sV s A c J d,.string ⟨(qf1).toArray⟩]) (by simp[results,Tryz.results97,go_sem,z0,z1,z2];rfl) rfl (by rw[HE.out];exact⟨A,c,J,d,rfl,HA.out,hF,gF,BF⟩)
 |some k=>
  have HE:Hid (qy7 s n=(s,([104,105,103,104,32]++num k)++[10])):=by simp[Hid,qy7,ho]
  have hk0:=qml ho;have hk1:=(qe6 ho).2.2.2.2.2.2.2;rw[ho,show qes (some k)=.tuple #[.int .i64 k,.bool true] from rfl] at K;have hkl:=Qp k (by omega);go_wp2_with fail;refine K.mono ?_;rintro e w3 ⟨rfl,b3⟩;clear ho K;have rM:=bh b3 hr0;have gM:=bh b3 hg1;have B2:=Qa B0 b3;clear x0 x1 x2;obtain⟨x0,x1,x2⟩:=Qb gM;go_upto_region 21 with fail;clear x0 x1 x2;refine wp_region_held (S:=fun w'=>w'.heap[gb]? =some (sC s A c J d)) (by kernel_rfl) ?_;change wpAnyH _ _ _ _ _ _ _ _ (World.drew _);have K0:Below w.heap.size w (World.drew w3):=zdr B2;have hS0:(World.drew w3).heap[gb]? =some (sC s A c J d):=gM;have hR0:(World.drew w3).heap[r]? =some (ssC none 0 0 none 0 0 0):=rM;generalize World.drew w3=v0 at K0 hS0 hR0⊢;refine tq 0 87 (sV s A c J d) rfl (fun w hS=>by obtain⟨x0,x1,x2⟩:=Qb hS;go_simp) hS0 ?_;refine tq 1 88 (.int .i64 k) rfl (fun _ _=>rfl) hS0 ?_;refine tw 2 ?_;refine co 2 89 rfl 91 Tryz.func91 #[.int .i64 k] (qgd k (by omega) (by omega) _) ?_;rintro e v1 ⟨rfl,bz1⟩;have K1:=Qa K0 bz1;have hS1:=bh bz1 hS0;have hR1:=bh bz1 hR0;refine⟨_,rfl,hS1,?_⟩;simp only[lsS,lsZ];refine tq 3 90 (.string ⟨([104,105,103,104,32]++num k).toArray⟩) rfl (fun w _=>by go_simp;rw[Yaq (by simp;omega)];simp[Qn]) hS1 ?_;refine tq 4 91 (.string ⟨(([104,105,103,104,32]++num k)++[10]).toArray⟩) rfl (fun w _=>by go_simp;rw[Yaq (by simp;omega)];simp[Qn]) hS1 ?_;refine tw 5 ?_;refine Vt 5 rfl (by rfl) ?_;intro K hK;obtain⟨z0,z1,z2⟩:=Qb hR1;have zf:=fun i=>zfz hR1 i
  have BF:=bst (bst (bst K1 (p:=⟨r,0,none⟩) hgw (.slice A s.l.length c)) (p:=⟨r,1,none⟩) hgw (.slice J s.js.length d)) (p:=⟨r,2,none⟩) hgw (.int .i64 s.pol);have hS9:=hS1;rw[←Yab _ ⟨r,0,none⟩ gb (.slice A s.l.length c) hgr,←Yab _ ⟨r,1,none⟩ gb (.slice J s.js.length d) hgr,←Yab _ ⟨r,2,none⟩ gb (.int .i64 s.pol) hgr] at hS9;go_simp
  refine hK _ hS9 ?_;clear hK;refine tq 6 7 (.string ⟨(([104,105,103,104,32]++num k)++[10]).toArray⟩) rfl (fun _ _=>rfl) hS9 ?_;refine wpAnyH_done (by kernel_rfl) ?_ _;have hF:=h.keep BF;have gF:=g.keep BF;go_wp2_with fail;refine bodyPost_ret (v:=.tuple #[sV s A c J d,.string ⟨(([104,105,103,104,32]++num k)++[10]).toArray⟩]) (by simp[results,Tryz.results97,go_sem,z0,z1,z2]) rfl (by rw[HE.out];exact⟨A,c,J,d,rfl,HA.out,hF,gF,BF⟩)
def qy8(s:Ss)(n:Int):Ss×List UInt8:=(s,match qht s.l n s.pol with
 |some ws=>qas s.l ws++[101,110,100,10]
 |none=>qf1)
theorem qr4(s:Ss)(A:ZA)(c:Nat)(J:ZA)(d:Nat)(n:Int)(w:World)(h:TS w A s.l)(g:JS w J s.js)(hA:(A=none→c=0)∧s.l.length≤c)(hlm:s.l.length≤5):
  Calls Tryz.prog 97 #[sV s A c J d,.string ⟨([112,97,99,107]:List UInt8).toArray⟩,.int .i64 n] w (qbr (qy8 s n) w):=by
 have HA:=zhi hA;clear hA;obtain⟨gb,r,hgb,hrE,hr0,hg1,B0,hgw,hgw0,hgr⟩:=qnz w (sC s A c J d) (ssC none 0 0 none 0 0 0);go_enter Tryz.func97,Tryz.ntmps97;go_upto_region 1 with fail;generalize World.alloc (World.alloc w _) _=w0 at hr0 hg1 B0⊢;try simp only[hgb,hrE]
 clear hgb hrE;obtain⟨x0,x1,x2⟩:=Qb hg1;have K:Calls Tryz.prog _ _ w0 _:=qpl A s.l c n s.pol w0 (h.keep B0) (by unfold maxLen;omega) HA.out.2;cases ho:qht s.l n s.pol with
 |none=>
  have HE:Hid (qy8 s n=(s,qf1)):=by simp[Hid,qy8,ho]
  have e1:(qht s.l n s.pol).isSome=false:=by simp[ho]
  rw[e1] at K;go_wp2_with fail;refine K.mono ?_;rintro e w3 ⟨A3,c3,rfl,o3,b3⟩;clear ho K e1;have rM:=bh b3 hr0;have gM:=bh b3 hg1;have B2:=Qa B0 b3;clear x0 x1 x2;obtain⟨x0,x1,x2⟩:=Qb gM;obtain⟨z0,z1,z2⟩:=Qb rM;have zf:=fun i=>zfz rM i
  have BF:=bst (bst (bst B2 (p:=⟨r,0,none⟩) hgw (.slice A s.l.length c)) (p:=⟨r,1,none⟩) hgw (.slice J s.js.length d)) (p:=⟨r,2,none⟩) hgw (.int .i64 s.pol);have hF:=h.keep BF;have gF:=g.keep BF;go_wp2_with fail;refine bodyPost_ret (v:=.tuple #[sV s A c J d,.string ⟨(qf1).toArray⟩]) (by simp[results,Tryz.results97,go_sem,z0,z1,z2];rfl) rfl (by rw[HE.out];exact⟨A,c,J,d,rfl,HA.out,hF,gF,BF⟩)
 |some ws=>
  have HE:Hid (qy8 s n=(s,qas s.l ws++[101,110,100,10])):=by simp[Hid,qy8,ho]
  have e1:(qht s.l n s.pol).isSome=true:=by simp[ho]
  have e2:ffL s.l n s.pol=ws:=by simp[ffL,ho]
  have hpl:=qlt s.l ws;rw[e1,e2] at K;go_wp2_with fail;refine K.mono ?_;rintro e w3 ⟨A3,c3,rfl,o3,b3⟩;clear ho K e1 e2;have rM:=bh b3 hr0;have gM:=bh b3 hg1;have B2:=Qa B0 b3;clear x0 x1 x2;obtain⟨x0,x1,x2⟩:=Qb gM;go_upto_region 26 with fail;clear x0 x1 x2;refine wp_region_held (S:=fun w'=>w'.heap[gb]? =some (sC s A c J d)) (by kernel_rfl) ?_;change wpAnyH _ _ _ _ _ _ _ _ (World.drew _);have K0:Below w.heap.size w (World.drew w3):=zdr B2;have hS0:(World.drew w3).heap[gb]? =some (sC s A c J d):=gM;have hR0:(World.drew w3).heap[r]? =some (ssC none 0 0 none 0 0 0):=rM;have o4:=(qv7 o3).keep (zdr (Below.refl w3.heap.size w3));generalize World.drew w3=v0 at K0 hS0 hR0 o4⊢;refine tq 0 106 (sV s A c J d) rfl (fun w hS=>by obtain⟨x0,x1,x2⟩:=Qb hS;go_simp) hS0 ?_;refine tq 1 107 (.pointer (some ⟨gb,0,none⟩)) rfl (fun w _=>by go_simp) hS0 ?_;refine tq 2 108 (.slice A s.l.length c) rfl (fun w hS=>by obtain⟨x0,x1,x2⟩:=Qb hS;go_simp) hS0 ?_;refine tq 3 109 (.slice A3 ws.length c3) rfl (fun _ _=>rfl) hS0 ?_;refine tw 4 ?_;refine co 4 110 rfl 161 Tryz.func161 #[.slice A s.l.length c,.slice A3 ws.length c3] (qn6 A A3 s.l ws c c3 _ (h.keep K0) o4 (by omega)) ?_;rintro e v1 ⟨rfl,bz1⟩;have K1:=Qa K0 bz1;have hS1:=bh bz1 hS0;have hR1:=bh bz1 hR0;refine⟨_,rfl,hS1,?_⟩;simp only[lsS,lsZ];refine tq 5 111 (.string ⟨(qas s.l ws++[101,110,100,10]).toArray⟩) rfl (fun w _=>by go_simp;rw[Yaq (by simp;omega)];simp[Qn]) hS1 ?_;refine tw 6 ?_;refine Vt 6 rfl (by rfl) ?_;intro K hK;obtain⟨z0,z1,z2⟩:=Qb hR1;have zf:=fun i=>zfz hR1 i
  have BF:=bst (bst (bst K1 (p:=⟨r,0,none⟩) hgw (.slice A s.l.length c)) (p:=⟨r,1,none⟩) hgw (.slice J s.js.length d)) (p:=⟨r,2,none⟩) hgw (.int .i64 s.pol);have hS9:=hS1;rw[←Yab _ ⟨r,0,none⟩ gb (.slice A s.l.length c) hgr,←Yab _ ⟨r,1,none⟩ gb (.slice J s.js.length d) hgr,←Yab _ ⟨r,2,none⟩ gb (.int .i64 s.pol) hgr] at hS9;go_simp
  refine hK _ hS9 ?_;clear hK;refine tq 7 7 (.string ⟨(qas s.l ws++[101,110,100,10]).toArray⟩) rfl (fun _ _=>rfl) hS9 ?_;refine wpAnyH_done (by kernel_rfl) ?_ _;have hF:=h.keep BF;have gF:=g.keep BF;go_wp2_with fail;refine bodyPost_ret (v:=.tuple #[sV s A c J d,.string ⟨(qas s.l ws++[101,110,100,10]).toArray⟩]) (by simp[results,Tryz.results97,go_sem,z0,z1,z2]) rfl (by rw[HE.out];exact⟨A,c,J,d,rfl,HA.out,hF,gF,BF⟩)
theorem qog(s:Ss)(hG:Good s)(A:ZA)(c:Nat)(J:ZA)(d:Nat)(x:List UInt8)(n:Int)(w:World)(h:TS w A s.l)(g:JS w J s.js)(hA:(A=none→c=0)∧s.l.length≤c):
  Calls Tryz.prog 97 #[sV s A c J d,.string ⟨x.toArray⟩,.int .i64 n] w (qbr (qj3 s (qj2 s x n)) w):=by
 have hlm:=Vl hG.v;have hjm:=(qeb hG.t).1;by_cases h0:x=[108,101,97,118,101]
 ·subst h0;have E:qj3 s (qj2 s [108,101,97,118,101] n)=qqx s n:=rfl;rw[E];exact qpf s A c J d n w h g hlm hA
 by_cases h1:x=[114,97,105,115,101]
 ·subst h1;have E:qj3 s (qj2 s [114,97,105,115,101] n)=qqy s n:=rfl;rw[E];exact qpg s A c J d n w h g hlm hA
 by_cases h2:x=[114,117,110]
 ·subst h2
  have E:qj3 s (qj2 s [114,117,110] n)=q49 s n:=by
   show qj3 s (if qrg s.l s.js s.pol n then some (s,q0n s.l s.js s.pol n.toNat) else none)=_;unfold q49;cases qrg s.l s.js s.pol n<;>rfl
  rw[E];exact qua s A c J d n w h g hA hlm hjm hG.p
 by_cases h3:x=[114,117,108,101]
 ·subst h3;have E:qj3 s (qj2 s [114,117,108,101] n)=qy6 s n:=rfl;rw[E];exact qr2 s A c J d n w h g hA hlm
 by_cases h4:x=[119,111,114,115,116]
 ·subst h4;have E:qj3 s (qj2 s [119,111,114,115,116] n)=qqz s n:=rfl;rw[E];exact qpm s A c J d n w h g hA hlm
 by_cases h5:x=[104,105,103,104]
 ·subst h5;have E:qj3 s (qj2 s [104,105,103,104] n)=qy7 s n:=rfl;rw[E];exact qr3 s A c J d n w h g hA hlm
 by_cases h6:x=[112,97,99,107]
 ·subst h6;have E:qj3 s (qj2 s [112,97,99,107] n)=qy8 s n:=rfl;rw[E];exact qr4 s A c J d n w h g hA hlm
 have E:qj2 s x n=none:=by simp[qj2,h0,h1,h2,h3,h4,h5,h6]
 rw[E];exact qry s A c J d x n w h g hA (by simpa using h0) (by simpa using h1) (by simpa using h2) (by simpa using h3) (by simpa using h4) (by simpa using h5) (by simpa using h6)
theorem qlv(s:Ss)(hG:Good s)(A:ZA)(c:Nat)(J:ZA)(d:Nat)(x t:List UInt8)(w:World)(h:TS w A s.l)(g:JS w J s.js)(hl:t.length≤1000000)(hA:(A=none→c=0)∧s.l.length≤c)(n0:(x==([116,97,115,107,115]:List UInt8))=false)(n1:(x==([97,100,109,105,116]:List UInt8))=false)(n2:(x==([106,111,98,115]:List UInt8))=false):
  Calls Tryz.prog 47 #[sV s A c J d,.string ⟨x.toArray⟩,.string ⟨t.toArray⟩] w (qbr (match qdf t with
   |some n=>qj3 s (qj2 s x n)
   |none=>(s,qcv)) w):=by
 have KN:=fun n v h g=>qog s hG A c J d x n v h g hA
 obtain⟨Q,hQ⟩: ∃Q,(match qdf t with
  |some n=>qj3 s (qj2 s x n)
  |none=>(s,qcv))=Q:=⟨_,rfl⟩
 rw[hQ];have HA:=zhi hA;clear hA hG;obtain⟨gb,r,hgb,hrE,hr0,hg1,B0,hgw,hgw0,hgr⟩:=qnz w (sC s A c J d) (ssC none 0 0 none 0 0 0);go_enter Tryz.func47,Tryz.ntmps47;go_upto_region 1 with fail;generalize World.alloc (World.alloc w _) _=w0 at hr0 hg1 B0⊢;try simp only[hgb,hrE]
 clear hgb hrE;go_wp2_with fail;have K:=qch t w0 hl;cases ho:qdf t with
 |none=>
  have HE:Hid (Q=(s,qcv)):=by rw[Hid,←hQ,ho]
  rw[ho] at K;refine K.mono ?_;rintro e w3 ⟨m2,rfl,_,b3⟩;simp only[Option.isSome_none];clear hQ K ho KN;have rM:=bh b3 hr0;have gM:=bh b3 hg1;have B2:=Qa B0 b3;obtain⟨x0,x1,x2⟩:=Qb gM;obtain⟨z0,z1,z2⟩:=Qb rM;have zf:=fun i=>zfz rM i
  have BF:=bst (bst (bst B2 (p:=⟨r,0,none⟩) hgw (.slice A s.l.length c)) (p:=⟨r,1,none⟩) hgw (.slice J s.js.length d)) (p:=⟨r,2,none⟩) hgw (.int .i64 s.pol);have hF:=h.keep BF;have gF:=g.keep BF;go_wp2_with fail;refine bodyPost_ret (v:=.tuple #[sV s A c J d,.string ⟨(qcv).toArray⟩]) (by simp[results,Tryz.results47,go_sem,z0,z1,z2];rfl) rfl (by rw[HE.out];exact⟨A,c,J,d,rfl,HA.out,hF,gF,BF⟩)
 |some n=>
  have hQ2:qj3 s (qj2 s x n)=Q:=by rw[←hQ,ho]
  rw[ho] at K;refine K.mono ?_;rintro e w3 ⟨m2,rfl,hm2,b3⟩;have hm3:m2=n:=hm2 n rfl;subst m2;clear hm2;simp only[Ydo];clear hQ K ho;have rM:=bh b3 hr0;have gM:=bh b3 hg1;have B2:=Qa B0 b3;obtain⟨x0,x1,x2⟩:=Qb gM;have KM:=KN n _ (h.keep B2) (g.keep B2);rw[hQ2] at KM;clear KN hQ2;go_wp2_with fail;refine KM.mono ?_;rintro e w4 ⟨A5,c5,J5,d5,rfl,hA5,h5,g5,b4⟩;have HA5:=zhi hA5;have rP:=bh b4 rM;have B3:=Qa B2 b4;clear x0 x1 x2 hA5;obtain⟨z0,z1,z2⟩:=Qb rP;have zf:=fun i=>zfz rP i
  have BF:=bst (bst (bst B3 (p:=⟨r,0,none⟩) hgw (.slice A5 Q.1.l.length c5)) (p:=⟨r,1,none⟩) hgw (.slice J5 Q.1.js.length d5)) (p:=⟨r,2,none⟩) hgw (.int .i64 Q.1.pol)
  have hb3: ∀(u v y:Value) (b:Nat),b≠r→(((w4.setCell ⟨r,0,none⟩ u).setCell ⟨r,1,none⟩ v).setCell ⟨r,2,none⟩ y).heap[b]? =w4.heap[b]? :=by
   intro u v y b hb;rw[Yab _ _ _ _ hb,Yab _ _ _ _ hb,Yab _ _ _ _ hb]
  have hT:=q13 h5 rP (w':=((w4.setCell ⟨r,0,none⟩ (.slice A5 Q.1.l.length c5)).setCell ⟨r,1,none⟩ (.slice J5 Q.1.js.length d5)).setCell ⟨r,2,none⟩ (.int .i64 Q.1.pol)) (by simp) (hb3 _ _ _);have hJ:=q14 g5 rP (w':=((w4.setCell ⟨r,0,none⟩ (.slice A5 Q.1.l.length c5)).setCell ⟨r,1,none⟩ (.slice J5 Q.1.js.length d5)).setCell ⟨r,2,none⟩ (.int .i64 Q.1.pol)) (by simp) (hb3 _ _ _);clear hb3;go_wp2_with fail;refine bodyPost_ret (v:=.tuple #[ssV A5 Q.1.l.length c5 J5 Q.1.js.length d5 Q.1.pol,.string ⟨Q.2.toArray⟩]) (by simp[results,Tryz.results47,go_sem,z0,z1,z2]) rfl ⟨A5,c5,J5,d5,rfl,HA5.out,hT,hJ,BF⟩
theorem qpn(s:Ss)(hG:Good s)(A:ZA)(c:Nat)(J:ZA)(d:Nat)(x:List UInt8)(t:List UInt8)(hl:t.length≤1000000)(w:World)(h:TS w A s.l)(g:JS w J s.js)(hA:(A=none→c=0)∧s.l.length≤c):
  Calls Tryz.prog 47 #[sV s A c J d,.string ⟨x.toArray⟩,.string ⟨t.toArray⟩] w (qbr (qj4 s x t) w):=by
 have hlm:=Vl hG.v;have hjm:=(qeb hG.t).1;by_cases h0:x=[116,97,115,107,115]
 ·subst h0
  have E:qj4 s [116,97,115,107,115] t=((qhs t).map (fun l=>qdc s l)).getD (s,qcv):=by
   have E1:qrv s [116,97,115,107,115] t=(qhs t).map (fun l=>qdc s l):=rfl;unfold qj4;rw[E1];cases qhs t with
   |some l=>rfl
   |none=>
    cases qdf t with
    |some n=>rfl
    |none=>rfl
  rw[E];exact qmw s A c J d t w h g hl hA
 by_cases h1:x=[97,100,109,105,116]
 ·subst h1
  have E:qj4 s [97,100,109,105,116] t=q4l s t:=by
   have E1:qrv s [97,100,109,105,116] t=(tkO t).map (fun t=>match qax s.l t s.pol with
    |some l=>qdc s l
    |none=>(s,noT)):=rfl
   unfold qj4 q4l;rw[E1];cases tkO t with
   |some l=>rfl
   |none=>
    cases qdf t with
    |some n=>rfl
    |none=>rfl
  rw[E];exact qmx s A c J d t w h g hl hlm hA
 by_cases h2:x=[106,111,98,115]
 ·subst h2;have E:qj4 s [106,111,98,115] t=qpe s (qt5 s t):=rfl;rw[E];exact qob s A c J d t w h g hl hlm hA
 have E1:qrv s x t=none:=by simp[qrv,h0,h1,h2]
 have E:qj4 s x t=(match qdf t with
   |some n=>qj3 s (qj2 s x n)
   |none=>(s,qcv)):=by
  unfold qj4;rw[E1];rfl
 rw[E];exact qlv s hG A c J d x t w h g hl hA (by simpa using h0) (by simpa using h1) (by simpa using h2)
theorem qr5(s:Ss)(A:ZA)(c:Nat)(J:ZA)(d:Nat)(x:List UInt8)(w:World)(h:TS w A s.l)(g:JS w J s.js)(hA:(A=none→c=0)∧s.l.length≤c)(n0:(x==([115,104,111,119]:List UInt8))=false)(n1:(x==([112,108,97,99,101,115]:List UInt8))=false)(n2:(x==([100,101,97,100,108,105,110,101,115]:List UInt8))=false)(n3:(x==([115,111,114,116]:List UInt8))=false)(n4:(x==([97,115,115,105,103,110]:List UInt8))=false)(n5:(x==([104,111,108,100,115]:List UInt8))=false)(n6:(x==([114,101,115,112,111,110,115,101,115]:List UInt8))=false)(n7:(x==([115,104,97,114,101,115]:List UInt8))=false)(n8:(x==([102,97,99,116,111,114]:List UInt8))=false)(n9:(x==([102,101,119,101,115,116]:List UInt8))=false):
  Calls Tryz.prog 46 #[sV s A c J d,.string ⟨x.toArray⟩] w (qbr (s,qcv) w):=by
 have HA:=zhi hA;clear hA;obtain⟨gb,r,hgb,hrE,hr0,hg1,B0,hgw,hgw0,hgr⟩:=qnz w (sC s A c J d) (ssC none 0 0 none 0 0 0);go_enter Tryz.func46,Tryz.ntmps46;go_upto_region 1 with fail;generalize World.alloc (World.alloc w _) _=w0 at hr0 hg1 B0⊢;try simp only[hgb,hrE]
 clear hgb hrE;obtain⟨x0,x1,x2⟩:=Qb hg1;obtain⟨z0,z1,z2⟩:=Qb hr0;have zf:=fun i=>zfz hr0 i
 have BF:=bst (bst (bst B0 (p:=⟨r,0,none⟩) hgw (.slice A s.l.length c)) (p:=⟨r,1,none⟩) hgw (.slice J s.js.length d)) (p:=⟨r,2,none⟩) hgw (.int .i64 s.pol);have hF:=h.keep BF;have gF:=g.keep BF;go_wp2_with fail;refine bodyPost_ret (v:=.tuple #[sV s A c J d,.string ⟨qcv.toArray⟩]) (by simp[results,Tryz.results46,go_sem,z0,z1,z2];rfl) rfl ⟨A,c,J,d,rfl,HA.out,hF,gF,BF⟩
end Go.Proofs.YtmkjmancmiphfaaGreatDoor
