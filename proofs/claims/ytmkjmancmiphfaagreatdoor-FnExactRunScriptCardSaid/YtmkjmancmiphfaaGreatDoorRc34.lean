/-
  PackFirst: the program's. (Printed by gen_packf.py.)
-/
import Derived.Test.YtmkjmancmiphfaaGreatDoorRc33
namespace Go.Proofs.YtmkjmancmiphfaaGreatDoor
set_option maxHeartbeats 8000000
set_option maxRecDepth 1000000
open Go.RowKit
theorem qr1(A:ZA)(l:List Int)(c:Nat)(w:World)(h:IS w A l)(hl:l.length≤2000000):
  Calls Tryz.prog 196 #[.slice A l.length c] w (qzj w l):=by
 have hnil:=Lib.run_eql_slice_nil (P:=Tryz.prog) (t:=27) (e:=3) (a:=A) (n:=l.length) (c:=c) (n':=0) (c':=0) (h:=Tryz.underlying27);cases A with
 |none=>
  have e:=q5j h;subst e;simp only[Ybl,Option.isNone_none] at hnil⊢;clear h hl;go_enter Tryz.func196,Tryz.ntmps196;go_wp2_with fail;go_ret;exact⟨none,0,rfl,qex _ _,br⟩
 |some ad=>
  simp only[Option.isNone_some] at hnil;go_enter Tryz.func196,Tryz.ntmps196;go_wp2_with (at_builtin;refine qh2 _ rfl _ _ rfl w.heap.size (some ⟨w.heap.size,0,none⟩) [] 0 rfl (Vh w _ (zlr _)) ad c l rfl (h.keep (bal br _)) (by simp) (by omega) (by simp) ?_;intro A' c' w1 o1 g1 b1;rw[Ycj] at o1)
  have B1:Below w.heap.size w w1:=(bal br _).trans b1;go_wp2_with fail;go_ret;exact⟨A',c',rfl,o1,B1⟩
theorem qam(w:World){ops:Array Oper}{rest:List Oper}{o:Oper}{a:Act}{Q:Exit→Act→World→Prop}(hgd:o.guard=none)(s x:Operand)
  (ho:o.op=.call {callee:=.builtin .append,args:=#[s,x],argTypes:=#[27,27]})
  (base:Nat) (A:ZA) (l:List Int) (k c:Nat) (hk:l.length=k) (hs:a.eval s=.slice A k c) (hown:OI base w A c l)
  (b c1:Nat) (n:Int) (ty:TypeId) (hx:a.eval x=.slice (some ⟨b,0,none⟩) 1 c1) (hb:w.heap[b]? =some (.cells #[.int .i64 n] ty (0,0)))
  (hl:k≤2000000) (hbase:base≤w.heap.size)
  (h: ∀A' c' w',OI base w' A' c' (l++[n])→Below base w w'→wpList Tryz.prog ops Q rest (a.put o.dst (.slice A' (k+1) c')) w'):wpList Tryz.prog ops Q (o::rest) a w:=by
 subst hk;exact qi6 w hgd s x ho base A l c hs hown b c1 n ty hx hb hl hbase (fun A' c' w' h1 _ h2=>h A' c' w' h1 h2)
theorem qmm{w:World}{b:Nat}{n:Int}{t:TypeId}(h:w.heap[b]? =some (.cells #[.int .i64 n] t (0,0))):IS w (some ⟨b,0,none⟩) [n]:=by
 intro _;refine⟨b,0,rfl,(bl h),?_⟩;intro j x hj
 have hj0:j=0:=by
  have:=(List.getElem?_eq_some_iff.1 hj).1;simp at this;exact this
 subst hj0;simp at hj;subst hj;rw[Ybj,Ybf w b 0 _ t (0,0) h];rfl
theorem qeo(A:ZA)(l:List Int)(n c:Nat)(w:World)(h:IS w A l)(hn:l.length=n)(hl:n≤2000000):Calls Tryz.prog 196 #[.slice A n c] w (fun e w'=> ∃A' c',e=.returned (.slice A' n c')∧OI w.heap.size w' A' c' l∧Below w.heap.size w w'):=by
 subst hn;exact qr1 A l c w h hl
theorem qci(A B:ZA)(l:List Tk)(ws:List Int)(n c d:Nat)(p:Int)(w:World)(h:TS w A l)(g:IS w B ws)(h1:l.length=n)(h2:ws.length=n)(hl:n≤100000):
  Calls Tryz.prog 195 #[.slice A n c,.slice B n d,.int .i64 p] w (q2t w (grp l ws p)):=by
 have K:=qi2 A B l ws c d p w h g (by omega) (by omega);rw[h1,h2] at K;exact K
theorem qk2(l:List Tk)(M:Nat)(p:Int)(n:Nat)(ws:List Int):qtz l M p (n+1) ws=(qbc (qhn l ws p) M 0).bind (fun q=>qtz l M p n (ws++[(q:Int)])):=by
 rw[qtz];cases qbc (qhn l ws p) M 0<;>rfl
theorem qjg(A:ZA)(l:List Tk)(c:Nat)(m p:Int)(w:World)(h:TS w A l)(_hm:l.length≤maxLen)(hlc:l.length≤c):
  Calls Tryz.prog 143 #[.slice A l.length c,.int .i64 m,.int .i64 p] w (qx6 w (ffL l m p) (qht l m p).isSome):=by
 by_cases hall:Qe l=true∧1≤m∧m≤3∧(p=0∨p=1)
 case neg=>
  have hv:qht l m p=none:=by
   have hf:(Qe l&&qg6 m&&q36 p)=false:=by
    cases hc:(Qe l&&qg6 m&&q36 p) with
    |false=>rfl
    |true=>
     exfalso;apply hall
     simp only[Yac,qg6,q36,Yae,Ydw,Yef] at hc;exact⟨hc.1.1,hc.1.2.1,hc.1.2.2,hc.2⟩
   simp[qht,hf]
  have hv2:ffL l m p=[]:=by simp[ffL,hv]
  rw[hv,hv2];clear hv hv2;have HA:=zhi hall;clear hall;cases hS:Qe l with
  |false=>
   go_enter Tryz.func143,Tryz.ntmps143;go_wp2_with fail;refine(Qf A l c _ h).mono ?_;rw[hS];rintro e w1 ⟨rfl,b1⟩;go_wp2_with fail;go_ret2;exact⟨none,0,rfl,qex _ _,b1⟩
  |true=>
   have H2:Hid (¬(1≤m∧m≤3∧(p=0∨p=1))):=fun e=>HA.out ⟨hS,e⟩
   have HS:=zhi hS;clear HA hS;by_cases h1m:1≤m
   ·by_cases h3m:m≤3
    ·have hp0:(p !=0)=true:=by
      simp only[Ydm];intro e;exact H2.out ⟨h1m,h3m,.inl e⟩
     have hp1:(p !=1)=true:=by
      simp only[Ydm];intro e;exact H2.out ⟨h1m,h3m,.inr e⟩
     go_enter Tryz.func143,Tryz.ntmps143;go_wp2_with fail;refine(Qf A l c _ h).mono ?_;rw[HS.out];rintro e w1 ⟨rfl,b1⟩;go_wp2_with fail;go_ret2;exact⟨none,0,rfl,qex _ _,b1⟩
    ·go_enter Tryz.func143,Tryz.ntmps143;go_wp2_with fail;refine(Qf A l c _ h).mono ?_;rw[HS.out];rintro e w1 ⟨rfl,b1⟩;go_wp2_with fail;go_ret2;exact⟨none,0,rfl,qex _ _,b1⟩
   ·go_enter Tryz.func143,Tryz.ntmps143;go_wp2_with fail;refine(Qf A l c _ h).mono ?_;rw[HS.out];rintro e w1 ⟨rfl,b1⟩;go_wp2_with fail;go_ret2;exact⟨none,0,rfl,qex _ _,b1⟩
 case pos=>
  obtain⟨hS,h1m,h3m,hp⟩:=hall;have hl5:=(Qj hS).1;obtain⟨M,rfl⟩: ∃M:Nat,m=(M:Int):=⟨m.toNat,(Yay (by omega)).symm⟩;have hM:0<M:=by omega
  obtain⟨R,hR⟩: ∃R,qtz l M p (l.length-0) []=R:=⟨_,rfl⟩
  have hany:qht l (M:Int) p=R:=by
   have h1:qg6 (M:Int)=true:=by simp[qg6];omega
   have h2:q36 p=true:=by rcases hp with rfl|rfl<;>rfl
   simp only[qht,hS,h1,h2,Bool.and_self,if_true,Yam];exact hR
  have HA:=zhi hany;have HR:=zhi hR;have HS:=zhi hS;clear hS hany hR
  have hp0:(p !=0)=false∨(p !=0)=true∧(p !=1)=false:=by
   rcases hp with rfl|rfl
   ·exact .inl rfl
   ·exact .inr ⟨rfl,rfl⟩
  clear hp;rcases hp0 with hq0|⟨hq0,hq1⟩
  ·go_enter Tryz.func143,Tryz.ntmps143;go_wp2_with fail;refine(Qf A l c _ h).mono ?_;rw[HS.out];rintro e w1 ⟨rfl,b1⟩;go_wp2_with fail;go_loopg [8,33] l.length (fun g v i wr=> ∃(ws:List Int) (bo d:Nat),g+ws.length=l.length∧i=.int .i64 (ws.length:Int)∧v=.slice (some ⟨bo,0,none⟩) ws.length d∧OI w.heap.size wr (some ⟨bo,0,none⟩) d ws∧Hid (qtz l M p (l.length-ws.length) ws=R)∧Below w.heap.size w wr)
   case atStart=>exact⟨[],w1.heap.size,0,by simp,rfl,rfl,Vh w1 _ b1.size,HR.out,bal b1 _⟩
   case round=>
    obtain⟨ws,bo,d,hg,rfl,rfl,hO,hfk,hb⟩:=hrel;obtain⟨wo,rfl⟩: ∃wo:World,wo=wr:=⟨_,rfl⟩;obtain⟨k,hk⟩: ∃k,ws.length=k:=⟨_,rfl⟩;have HK:=zhi hk;rw[hk] at hg hfk⊢;clear hk;have hd:k≤d:=by have:=(Qo hO).1;rw[HK.out] at this;exact this
    by_cases hlt:k<l.length
    ·obtain⟨ab,aoff,rfl,_,_⟩:=h (by omega);have hfk2:=hfk.out;rw[show l.length-k=(l.length-(k+1))+1 by omega,qk2] at hfk2;obtain⟨F,hF⟩: ∃F,qbc (qhn l ws p) (M-0) 0=F:=⟨_,rfl⟩;have hF0:=hF;rw[Yds] at hF0;rw[hF0] at hfk2;have HF2:=zhi hfk2;have HF0:=zhi hF;clear hF hF0 hfk2 hfk;have q0:(0:Int)≤(k:Int):=by omega
     have q1:(k:Int)<(l.length:Int):=by omega
     have q2:IntKind.i64.wrap ((k:Int)+1)=(k:Int)+1:=Yai _ (by omega);have q3:((k:Int)+1).toNat=k+1:=by omega
     have q4:(0:Int)≤(k:Int)+1:=by omega
     have q5:(k:Int)+1≤(c:Int):=by omega
     go_wp2_with fail;go_loopg [10] M (fun g q wy=> ∃y:Nat,g+y=M∧q=.int .i64 (y:Int)∧Hid (qbc (qhn l ws p) (M-y) y=F)∧Below wo.heap.size wo wy)
     case atStart=>exact⟨0,by omega,rfl,HF0.out,br⟩
     case round=>
      obtain⟨y,hgy,rfl,hfy,hby⟩:=hrel;obtain⟨wy,rfl⟩: ∃wy:World,wy=wr:=⟨_,rfl⟩;have hOy:=Q3 hO hby;have hBy:=Qa hb hby;clear HF0;by_cases hy:y<M
      ·have hst:=qd3 (qhn l ws p) M y hy;have hT:TS wy (some ⟨ab,aoff,none⟩) (l.take (k+1)):=qld (h.keep hBy) (k+1);have hIS:IS wy (some ⟨bo,0,none⟩) ws:=hOy.is
       have hgl:(grp (l.take (k+1)) (ws++[(y:Int)]) (y:Int))=grp (l.take k) ws (y:Int)++[Qg l k]:=by
        have:=qxr (l:=l) (ws:=ws) (by rw[HK.out];exact hlt) (y:Int) (y:Int);rw[HK.out] at this;simpa using this
       have hfit:qhn l ws p y=qmc (grp (l.take (k+1)) (ws++[(y:Int)]) (y:Int)) p:=by
        rw[hgl,qhn,HK.out]
       have hGl:(grp (l.take (k+1)) (ws++[(y:Int)]) (y:Int)).length≤5:=by
        refine zll (qgo _ _ _) ?_;rw[Yap];omega
       have hlen1:(l.take (k+1)).length=k+1:=by rw[Yap];omega
       have hlen2:(ws++[(y:Int)]).length=k+1:=by rw[Yaa,HK.out];rfl
       have Hlen1:=zhi hlen1;have Hlen2:=zhi hlen2;have Hfit:=zhi hfit;have Hst:=zhi hst;obtain⟨G,hG⟩: ∃G,grp (l.take (k+1)) (ws++[(y:Int)]) (y:Int)=G:=⟨_,rfl⟩;rw[hG] at hGl;have HG:=zhi hG;clear hst hgl hfit hG hlen1 hlen2;have hyM:(y:Int)<(M:Int):=by omega
       go_wp2_with fail;cases hq:qhn l ws p y with
       |false=>
        have hc:qmc G p=false:=by rw[←HG.out,←Hfit.out,hq]
        have hst2:Hid (qbc (qhn l ws p) (M-(y+1)) (y+1)=F):=by rw[Hid,←hfy.out,Hst.out,hq];rfl
        have HC:=zhi hc;clear hq hc;refine Ydi (by kernel_rfl) ?_;refine lq 0 36 (.int .i64 (y:Int)) rfl (fun _=>rfl) ?_;refine lq 1 37 (.int .i64 (M:Int)) rfl (fun _=>rfl) ?_;refine lq 2 38 (.bool true) rfl (fun w=>by go_simp) ?_;refine lq 3 39 (.bool true) rfl (fun _=>rfl) ?_;refine lq 4 40 (.slice (some ⟨ab,aoff,none⟩) l.length c) rfl (fun _=>rfl) ?_;refine lq 5 41 (.int .i64 (k:Int)) rfl (fun _=>rfl) ?_;refine lq 6 42 (.int .i64 ((k:Int)+1)) rfl (fun w=>by go_simp) ?_;refine lq 7 43 (.slice (some ⟨ab,aoff,none⟩) (k+1) c) rfl (fun w=>by go_simp) ?_;refine lq 8 44 (.slice (some ⟨bo,0,none⟩) k d) rfl (fun _=>rfl) ?_;refine lq 10 46 (.int .i64 (y:Int)) rfl (fun _=>rfl) ?_;refine lq 13 49 (.int .i64 (y:Int)) rfl (fun _=>rfl) ?_;refine lq 15 51 (.int .i64 p) rfl (fun _=>rfl) ?_;refine wpAny_ready (rs:=[9,11]) (by kernel_rfl) (by simp) (qil (i:=9) 45 rfl rfl (by rfl) (fun K hK=>?_) (qil (i:=11) 47 rfl rfl (by rfl) (fun K hK=>?_) Yas))
        ·refine Qi (Qz rfl 196 Tryz.func196 (by kernel_rfl) rfl _ _ rfl #[.slice (some ⟨bo,0,none⟩) k d] (by simp[Act.eval]) (qeo (some ⟨bo,0,none⟩) ws k d _ (hIS.keep (zdr br)) HK.out (by omega)) ?_);rintro e w7 ⟨A7,c7,rfl,o7,b7⟩;have B7:Below wy.heap.size wy w7:=Qa (zdr br) b7;have O7:OI wy.heap.size w7 A7 c7 ws:=Ql o7 (by first|exact zlr _|simp);refine⟨_,rfl,hK _ _ ?_⟩;simp only[lsS,lsZ];refine wr 11 47 rfl (fun K hK=>?_);go_simp
         refine hK _ _ ?_;simp only[lsS,lsZ];refine wr 12 48 rfl (fun K hK=>?_);refine Qi (qah rfl (.tmp 45) (.tmp 47) rfl wy.heap.size A7 ws k c7 HK.out rfl (Q4 O7 _) ⟨w7.heap.size,0,none⟩ 1 1 [(y:Int)] rfl rfl (qmm (zha w7 _)) (by rw[HK.out];omega) (by simp) (by have:=B7.size;simp;omega) ?_);intro A8 c8 w8 o8 g8 b8;have B8:Below wy.heap.size wy w8:=(bal B7 _).trans b8;refine hK _ _ ?_;simp only[lsS,lsZ];refine wr 14 50 rfl (fun K hK=>?_);refine Qi (Qz rfl 195 Tryz.func195 (by kernel_rfl) rfl _ _ rfl #[.slice (some ⟨ab,aoff,none⟩) (k+1) c,.slice A8 (k+1) c8,.int .i64 (y:Int)] (by simp[Act.eval]) (qci (some ⟨ab,aoff,none⟩) A8 (l.take (k+1)) (ws++[(y:Int)]) (k+1) c c8 (y:Int) _ (hT.keep B8) o8.is Hlen1.out Hlen2.out (by omega)) ?_);rintro e w9 ⟨A9,c9,rfl,o9,b9⟩;rw[HG.out] at o9⊢;have B9:Below wy.heap.size wy w9:=Qa B8 b9;have s9:=(Qo o9).1;refine⟨_,rfl,hK _ _ ?_⟩;simp only[lsS,lsZ];refine wr 16 52 rfl (fun K hK=>?_);refine Qi (Qz rfl 194 Tryz.func194 (by kernel_rfl) rfl _ _ rfl #[.slice A9 G.length c9,.int .i64 p] (by simp[Act.eval]) (qaw A9 G c9 p _ o9.ts (by unfold maxLen;omega) s9) ?_);rw[HC.out];rintro e w10 ⟨rfl,b10⟩;have B10:Below wy.heap.size wy w10:=Qa B9 b10;refine⟨_,rfl,hK _ _ ?_⟩;simp only[lsS,lsZ];refine lq 17 53 (.bool true) rfl (fun _=>rfl) ?_;refine lq 18 54 (.bool true) rfl (fun _=>rfl) ?_;refine wpAny_done (by kernel_rfl) ?_ _;go_wp2_with fail;go_roundg (M-(y+1))
         case measure=>omega
         case rel=>exact⟨y+1,by omega,by go_num,hst2,Qa hby B10⟩
        ·go_simp
         refine hK _ _ ?_;simp only[lsS,lsZ];refine wr 9 45 rfl (fun K hK=>?_);refine Qi (Qz rfl 196 Tryz.func196 (by kernel_rfl) rfl _ _ rfl #[.slice (some ⟨bo,0,none⟩) k d] (by simp[Act.eval]) (qeo (some ⟨bo,0,none⟩) ws k d _ (hIS.keep (bal (zdr br) _)) HK.out (by omega)) ?_);rintro e w7 ⟨A7,c7,rfl,o7,b7⟩;have B7:Below wy.heap.size wy w7:=Qa (bal (zdr br) _) b7;have O7:OI wy.heap.size w7 A7 c7 ws:=Ql o7 (by first|exact zlr _|simp);refine⟨_,rfl,hK _ _ ?_⟩;simp only[lsS,lsZ];refine wr 12 48 rfl (fun K hK=>?_);refine Qi (qah rfl (.tmp 45) (.tmp 47) rfl wy.heap.size A7 ws k c7 HK.out rfl (O7) ⟨wy.heap.size,0,none⟩ 1 1 [(y:Int)] rfl rfl (qmm ((b7.block _ (by simp)).trans (zha _ _))) (by rw[HK.out];omega) (by simp) (by have:=B7.size;simp;omega) ?_);intro A8 c8 w8 o8 g8 b8;have B8:Below wy.heap.size wy w8:=B7.trans b8;refine hK _ _ ?_;simp only[lsS,lsZ];refine wr 14 50 rfl (fun K hK=>?_);refine Qi (Qz rfl 195 Tryz.func195 (by kernel_rfl) rfl _ _ rfl #[.slice (some ⟨ab,aoff,none⟩) (k+1) c,.slice A8 (k+1) c8,.int .i64 (y:Int)] (by simp[Act.eval]) (qci (some ⟨ab,aoff,none⟩) A8 (l.take (k+1)) (ws++[(y:Int)]) (k+1) c c8 (y:Int) _ (hT.keep B8) o8.is Hlen1.out Hlen2.out (by omega)) ?_);rintro e w9 ⟨A9,c9,rfl,o9,b9⟩;rw[HG.out] at o9⊢;have B9:Below wy.heap.size wy w9:=Qa B8 b9;have s9:=(Qo o9).1;refine⟨_,rfl,hK _ _ ?_⟩;simp only[lsS,lsZ];refine wr 16 52 rfl (fun K hK=>?_);refine Qi (Qz rfl 194 Tryz.func194 (by kernel_rfl) rfl _ _ rfl #[.slice A9 G.length c9,.int .i64 p] (by simp[Act.eval]) (qaw A9 G c9 p _ o9.ts (by unfold maxLen;omega) s9) ?_);rw[HC.out];rintro e w10 ⟨rfl,b10⟩;have B10:Below wy.heap.size wy w10:=Qa B9 b10;refine⟨_,rfl,hK _ _ ?_⟩;simp only[lsS,lsZ];refine lq 17 53 (.bool true) rfl (fun _=>rfl) ?_;refine lq 18 54 (.bool true) rfl (fun _=>rfl) ?_;refine wpAny_done (by kernel_rfl) ?_ _;go_wp2_with fail;go_roundg (M-(y+1))
         case measure=>omega
         case rel=>exact⟨y+1,by omega,by go_num,hst2,Qa hby B10⟩
       |true=>
        have hc:qmc G p=true:=by rw[←HG.out,←Hfit.out,hq]
        have hst2:Hid (F=some y):=by rw[Hid,←hfy.out,Hst.out,hq];rfl
        have HC:=zhi hc;clear hq hc;refine Ydi (by kernel_rfl) ?_;refine lq 0 36 (.int .i64 (y:Int)) rfl (fun _=>rfl) ?_;refine lq 1 37 (.int .i64 (M:Int)) rfl (fun _=>rfl) ?_;refine lq 2 38 (.bool true) rfl (fun w=>by go_simp) ?_;refine lq 3 39 (.bool true) rfl (fun _=>rfl) ?_;refine lq 4 40 (.slice (some ⟨ab,aoff,none⟩) l.length c) rfl (fun _=>rfl) ?_;refine lq 5 41 (.int .i64 (k:Int)) rfl (fun _=>rfl) ?_;refine lq 6 42 (.int .i64 ((k:Int)+1)) rfl (fun w=>by go_simp) ?_;refine lq 7 43 (.slice (some ⟨ab,aoff,none⟩) (k+1) c) rfl (fun w=>by go_simp) ?_;refine lq 8 44 (.slice (some ⟨bo,0,none⟩) k d) rfl (fun _=>rfl) ?_;refine lq 10 46 (.int .i64 (y:Int)) rfl (fun _=>rfl) ?_;refine lq 13 49 (.int .i64 (y:Int)) rfl (fun _=>rfl) ?_;refine lq 15 51 (.int .i64 p) rfl (fun _=>rfl) ?_;refine wpAny_ready (rs:=[9,11]) (by kernel_rfl) (by simp) (qil (i:=9) 45 rfl rfl (by rfl) (fun K hK=>?_) (qil (i:=11) 47 rfl rfl (by rfl) (fun K hK=>?_) Yas))
        ·refine Qi (Qz rfl 196 Tryz.func196 (by kernel_rfl) rfl _ _ rfl #[.slice (some ⟨bo,0,none⟩) k d] (by simp[Act.eval]) (qeo (some ⟨bo,0,none⟩) ws k d _ (hIS.keep (zdr br)) HK.out (by omega)) ?_);rintro e w7 ⟨A7,c7,rfl,o7,b7⟩;have B7:Below wy.heap.size wy w7:=Qa (zdr br) b7;have O7:OI wy.heap.size w7 A7 c7 ws:=Ql o7 (by first|exact zlr _|simp);refine⟨_,rfl,hK _ _ ?_⟩;simp only[lsS,lsZ];refine wr 11 47 rfl (fun K hK=>?_);go_simp
         refine hK _ _ ?_;simp only[lsS,lsZ];refine wr 12 48 rfl (fun K hK=>?_);refine Qi (qah rfl (.tmp 45) (.tmp 47) rfl wy.heap.size A7 ws k c7 HK.out rfl (Q4 O7 _) ⟨w7.heap.size,0,none⟩ 1 1 [(y:Int)] rfl rfl (qmm (zha w7 _)) (by rw[HK.out];omega) (by simp) (by have:=B7.size;simp;omega) ?_);intro A8 c8 w8 o8 g8 b8;have B8:Below wy.heap.size wy w8:=(bal B7 _).trans b8;refine hK _ _ ?_;simp only[lsS,lsZ];refine wr 14 50 rfl (fun K hK=>?_);refine Qi (Qz rfl 195 Tryz.func195 (by kernel_rfl) rfl _ _ rfl #[.slice (some ⟨ab,aoff,none⟩) (k+1) c,.slice A8 (k+1) c8,.int .i64 (y:Int)] (by simp[Act.eval]) (qci (some ⟨ab,aoff,none⟩) A8 (l.take (k+1)) (ws++[(y:Int)]) (k+1) c c8 (y:Int) _ (hT.keep B8) o8.is Hlen1.out Hlen2.out (by omega)) ?_);rintro e w9 ⟨A9,c9,rfl,o9,b9⟩;rw[HG.out] at o9⊢;have B9:Below wy.heap.size wy w9:=Qa B8 b9;have s9:=(Qo o9).1;refine⟨_,rfl,hK _ _ ?_⟩;simp only[lsS,lsZ];refine wr 16 52 rfl (fun K hK=>?_);refine Qi (Qz rfl 194 Tryz.func194 (by kernel_rfl) rfl _ _ rfl #[.slice A9 G.length c9,.int .i64 p] (by simp[Act.eval]) (qaw A9 G c9 p _ o9.ts (by unfold maxLen;omega) s9) ?_);rw[HC.out];rintro e w10 ⟨rfl,b10⟩;have B10:Below wy.heap.size wy w10:=Qa B9 b10;refine⟨_,rfl,hK _ _ ?_⟩;simp only[lsS,lsZ];refine lq 17 53 (.bool false) rfl (fun _=>rfl) ?_;refine lq 18 54 (.bool false) rfl (fun _=>rfl) ?_;refine wpAny_done (by kernel_rfl) ?_ _;have hO10:=Q3 hOy B10
         have HF3:Hid (qtz l M p (l.length-(k+1)) (ws++[(y:Int)])=R):=by
          have e:=HF2.out;rw[hst2.out] at e;exact e
         have qne:((y:Int)==(M:Int))=false:=beq_eq_false_iff_ne.2 (by omega);have hB10:=Qa hBy B10;go_wp2_with (at_builtin;refine qam _ rfl (.tmp 60) (.tmp 62) rfl w.heap.size (some ⟨bo,0,none⟩) ws k d HK.out rfl (Q4 hO10 _) w10.heap.size 1 (y:Int) _ rfl (zha w10 _) (by omega) (by have:=hB10.size;simp;omega) ?_;intro A11 c11 w11 o11 b11)
         obtain⟨bo2,rfl,_,_⟩:=qdj o11 (by rw[Hlen2.out];omega);go_roundg (l.length-(k+1))
         case measure=>omega
         case rel=>exact⟨ws++[(y:Int)],bo2,c11,by rw[Hlen2.out];omega,by rw[Hlen2.out];go_num,by rw[Hlen2.out],o11,by rw[Hlen2.out];exact HF3,(bal hB10 _).trans b11⟩
        ·go_simp
         refine hK _ _ ?_;simp only[lsS,lsZ];refine wr 9 45 rfl (fun K hK=>?_);refine Qi (Qz rfl 196 Tryz.func196 (by kernel_rfl) rfl _ _ rfl #[.slice (some ⟨bo,0,none⟩) k d] (by simp[Act.eval]) (qeo (some ⟨bo,0,none⟩) ws k d _ (hIS.keep (bal (zdr br) _)) HK.out (by omega)) ?_);rintro e w7 ⟨A7,c7,rfl,o7,b7⟩;have B7:Below wy.heap.size wy w7:=Qa (bal (zdr br) _) b7;have O7:OI wy.heap.size w7 A7 c7 ws:=Ql o7 (by first|exact zlr _|simp);refine⟨_,rfl,hK _ _ ?_⟩;simp only[lsS,lsZ];refine wr 12 48 rfl (fun K hK=>?_);refine Qi (qah rfl (.tmp 45) (.tmp 47) rfl wy.heap.size A7 ws k c7 HK.out rfl (O7) ⟨wy.heap.size,0,none⟩ 1 1 [(y:Int)] rfl rfl (qmm ((b7.block _ (by simp)).trans (zha _ _))) (by rw[HK.out];omega) (by simp) (by have:=B7.size;simp;omega) ?_);intro A8 c8 w8 o8 g8 b8;have B8:Below wy.heap.size wy w8:=B7.trans b8;refine hK _ _ ?_;simp only[lsS,lsZ];refine wr 14 50 rfl (fun K hK=>?_);refine Qi (Qz rfl 195 Tryz.func195 (by kernel_rfl) rfl _ _ rfl #[.slice (some ⟨ab,aoff,none⟩) (k+1) c,.slice A8 (k+1) c8,.int .i64 (y:Int)] (by simp[Act.eval]) (qci (some ⟨ab,aoff,none⟩) A8 (l.take (k+1)) (ws++[(y:Int)]) (k+1) c c8 (y:Int) _ (hT.keep B8) o8.is Hlen1.out Hlen2.out (by omega)) ?_);rintro e w9 ⟨A9,c9,rfl,o9,b9⟩;rw[HG.out] at o9⊢;have B9:Below wy.heap.size wy w9:=Qa B8 b9;have s9:=(Qo o9).1;refine⟨_,rfl,hK _ _ ?_⟩;simp only[lsS,lsZ];refine wr 16 52 rfl (fun K hK=>?_);refine Qi (Qz rfl 194 Tryz.func194 (by kernel_rfl) rfl _ _ rfl #[.slice A9 G.length c9,.int .i64 p] (by simp[Act.eval]) (qaw A9 G c9 p _ o9.ts (by unfold maxLen;omega) s9) ?_);rw[HC.out];rintro e w10 ⟨rfl,b10⟩;have B10:Below wy.heap.size wy w10:=Qa B9 b10;refine⟨_,rfl,hK _ _ ?_⟩;simp only[lsS,lsZ];refine lq 17 53 (.bool false) rfl (fun _=>rfl) ?_;refine lq 18 54 (.bool false) rfl (fun _=>rfl) ?_;refine wpAny_done (by kernel_rfl) ?_ _;have hO10:=Q3 hOy B10
         have HF3:Hid (qtz l M p (l.length-(k+1)) (ws++[(y:Int)])=R):=by
          have e:=HF2.out;rw[hst2.out] at e;exact e
         have qne:((y:Int)==(M:Int))=false:=beq_eq_false_iff_ne.2 (by omega);have hB10:=Qa hBy B10;go_wp2_with (at_builtin;refine qam _ rfl (.tmp 60) (.tmp 62) rfl w.heap.size (some ⟨bo,0,none⟩) ws k d HK.out rfl (Q4 hO10 _) w10.heap.size 1 (y:Int) _ rfl (zha w10 _) (by omega) (by have:=hB10.size;simp;omega) ?_;intro A11 c11 w11 o11 b11)
         obtain⟨bo2,rfl,_,_⟩:=qdj o11 (by rw[Hlen2.out];omega);go_roundg (l.length-(k+1))
         case measure=>omega
         case rel=>exact⟨ws++[(y:Int)],bo2,c11,by rw[Hlen2.out];omega,by rw[Hlen2.out];go_num,by rw[Hlen2.out],o11,by rw[Hlen2.out];exact HF3,(bal hB10 _).trans b11⟩
      ·obtain rfl:y=M:=by omega
       have hFn:F=none:=by rw[←hfy.out,Ycc];rfl
       have hRn:R=none:=by
        have e:=HF2.out;rw[hFn] at e;exact e.symm
       have hr2:Hid (ffL l (y:Int) p=[]∧(qht l (y:Int) p).isSome=false):=by
        have e:qht l (y:Int) p=none:=by rw[HA.out,hRn]
        simp[Hid,ffL,e]
       clear hFn hRn;go_wp2_with fail;refine Ydi (by kernel_rfl) ?_;refine lq 0 36 (.int .i64 (y:Int)) rfl (fun _=>rfl) ?_;refine lq 1 37 (.int .i64 (y:Int)) rfl (fun _=>rfl) ?_;refine lq 2 38 (.bool false) rfl (fun w=>by go_simp) ?_;refine lq 3 39 (.bool false) rfl (fun _=>rfl) ?_;refine qdh (i:=4) 40 (undef) rfl rfl (by kernel_rfl) (by kernel_rfl) (by kernel_rfl) (fun _ _ _ h=>h) (.inr ⟨by rfl,rfl⟩) ?_;simp only[lsS,lsZ];refine qdh (i:=5) 41 (undef) rfl rfl (by kernel_rfl) (by kernel_rfl) (by kernel_rfl) (fun _ _ _ h=>h) (.inr ⟨by rfl,rfl⟩) ?_;simp only[lsS,lsZ];refine qdh (i:=6) 42 (undef) rfl rfl (by kernel_rfl) (by kernel_rfl) (by kernel_rfl) (fun _ _ _ h=>h) (.inr ⟨by rfl,rfl⟩) ?_;simp only[lsS,lsZ];refine qdh (i:=7) 43 (undef) rfl rfl (by kernel_rfl) (by kernel_rfl) (by kernel_rfl) (fun _ _ _ h=>h) (.inr ⟨by rfl,rfl⟩) ?_;simp only[lsS,lsZ];refine qdh (i:=8) 44 (undef) rfl rfl (by kernel_rfl) (by kernel_rfl) (by kernel_rfl) (fun _ _ _ h=>h) (.inr ⟨by rfl,rfl⟩) ?_;simp only[lsS,lsZ];refine qdh (i:=9) 45 (undef) rfl rfl (by kernel_rfl) (by kernel_rfl) (by kernel_rfl) (fun _ _ _ h=>h) (.inr ⟨by rfl,rfl⟩) ?_;simp only[lsS,lsZ];refine qdh (i:=10) 46 (undef) rfl rfl (by kernel_rfl) (by kernel_rfl) (by kernel_rfl) (fun _ _ _ h=>h) (.inr ⟨by rfl,rfl⟩) ?_;simp only[lsS,lsZ];refine qdh (i:=11) 47 (undef) rfl rfl (by kernel_rfl) (by kernel_rfl) (by kernel_rfl) (fun _ _ _ h=>h) (.inr ⟨by rfl,rfl⟩) ?_;simp only[lsS,lsZ];refine qdh (i:=12) 48 (undef) rfl rfl (by kernel_rfl) (by kernel_rfl) (by kernel_rfl) (fun _ _ _ h=>h) (.inr ⟨by rfl,rfl⟩) ?_;simp only[lsS,lsZ];refine qdh (i:=13) 49 (undef) rfl rfl (by kernel_rfl) (by kernel_rfl) (by kernel_rfl) (fun _ _ _ h=>h) (.inr ⟨by rfl,rfl⟩) ?_;simp only[lsS,lsZ];refine qdh (i:=14) 50 (undef) rfl rfl (by kernel_rfl) (by kernel_rfl) (by kernel_rfl) (fun _ _ _ h=>h) (.inr ⟨by rfl,rfl⟩) ?_;simp only[lsS,lsZ];refine qdh (i:=15) 51 (undef) rfl rfl (by kernel_rfl) (by kernel_rfl) (by kernel_rfl) (fun _ _ _ h=>h) (.inr ⟨by rfl,rfl⟩) ?_;simp only[lsS,lsZ];refine qdh (i:=16) 52 (undef) rfl rfl (by kernel_rfl) (by kernel_rfl) (by kernel_rfl) (fun _ _ _ h=>h) (.inr ⟨by rfl,rfl⟩) ?_;simp only[lsS,lsZ];refine qdh (i:=17) 53 (undef) rfl rfl (by kernel_rfl) (by kernel_rfl) (by kernel_rfl) (fun _ _ _ h=>h) (.inr ⟨by rfl,rfl⟩) ?_;simp only[lsS,lsZ];refine lq 18 54 (.bool false) rfl (fun _=>rfl) ?_;refine wpAny_done (by kernel_rfl) ?_ _;go_wp2_with fail;go_ret2;rw[hr2.out.1,hr2.out.2];exact⟨none,0,rfl,qex _ _,bdr hBy _⟩
    ·obtain rfl:k=l.length:=by omega
     have hr:qht l (M:Int) p=some ws:=by rw[HA.out,←hfk.out,Ycc];rfl
     have hr2:Hid (ffL l (M:Int) p=ws∧(qht l (M:Int) p).isSome=true):=by simp[Hid,ffL,hr]
     clear hr;go_wp2_with fail;go_ret2;rw[hr2.out.1,hr2.out.2];exact⟨some ⟨bo,0,none⟩,d,by rw[HK.out];rfl,hO,hb⟩
  ·go_enter Tryz.func143,Tryz.ntmps143;go_wp2_with fail;refine(Qf A l c _ h).mono ?_;rw[HS.out];rintro e w1 ⟨rfl,b1⟩;go_wp2_with fail;go_loopg [8,33] l.length (fun g v i wr=> ∃(ws:List Int) (bo d:Nat),g+ws.length=l.length∧i=.int .i64 (ws.length:Int)∧v=.slice (some ⟨bo,0,none⟩) ws.length d∧OI w.heap.size wr (some ⟨bo,0,none⟩) d ws∧Hid (qtz l M p (l.length-ws.length) ws=R)∧Below w.heap.size w wr)
   case atStart=>exact⟨[],w1.heap.size,0,by simp,rfl,rfl,Vh w1 _ b1.size,HR.out,bal b1 _⟩
   case round=>
    obtain⟨ws,bo,d,hg,rfl,rfl,hO,hfk,hb⟩:=hrel;obtain⟨wo,rfl⟩: ∃wo:World,wo=wr:=⟨_,rfl⟩;obtain⟨k,hk⟩: ∃k,ws.length=k:=⟨_,rfl⟩;have HK:=zhi hk;rw[hk] at hg hfk⊢;clear hk;have hd:k≤d:=by have:=(Qo hO).1;rw[HK.out] at this;exact this
    by_cases hlt:k<l.length
    ·obtain⟨ab,aoff,rfl,_,_⟩:=h (by omega);have hfk2:=hfk.out;rw[show l.length-k=(l.length-(k+1))+1 by omega,qk2] at hfk2;obtain⟨F,hF⟩: ∃F,qbc (qhn l ws p) (M-0) 0=F:=⟨_,rfl⟩;have hF0:=hF;rw[Yds] at hF0;rw[hF0] at hfk2;have HF2:=zhi hfk2;have HF0:=zhi hF;clear hF hF0 hfk2 hfk;have q0:(0:Int)≤(k:Int):=by omega
     have q1:(k:Int)<(l.length:Int):=by omega
     have q2:IntKind.i64.wrap ((k:Int)+1)=(k:Int)+1:=Yai _ (by omega);have q3:((k:Int)+1).toNat=k+1:=by omega
     have q4:(0:Int)≤(k:Int)+1:=by omega
     have q5:(k:Int)+1≤(c:Int):=by omega
     go_wp2_with fail;go_loopg [10] M (fun g q wy=> ∃y:Nat,g+y=M∧q=.int .i64 (y:Int)∧Hid (qbc (qhn l ws p) (M-y) y=F)∧Below wo.heap.size wo wy)
     case atStart=>exact⟨0,by omega,rfl,HF0.out,br⟩
     case round=>
      obtain⟨y,hgy,rfl,hfy,hby⟩:=hrel;obtain⟨wy,rfl⟩: ∃wy:World,wy=wr:=⟨_,rfl⟩;have hOy:=Q3 hO hby;have hBy:=Qa hb hby;clear HF0;by_cases hy:y<M
      ·have hst:=qd3 (qhn l ws p) M y hy;have hT:TS wy (some ⟨ab,aoff,none⟩) (l.take (k+1)):=qld (h.keep hBy) (k+1);have hIS:IS wy (some ⟨bo,0,none⟩) ws:=hOy.is
       have hgl:(grp (l.take (k+1)) (ws++[(y:Int)]) (y:Int))=grp (l.take k) ws (y:Int)++[Qg l k]:=by
        have:=qxr (l:=l) (ws:=ws) (by rw[HK.out];exact hlt) (y:Int) (y:Int);rw[HK.out] at this;simpa using this
       have hfit:qhn l ws p y=qmc (grp (l.take (k+1)) (ws++[(y:Int)]) (y:Int)) p:=by
        rw[hgl,qhn,HK.out]
       have hGl:(grp (l.take (k+1)) (ws++[(y:Int)]) (y:Int)).length≤5:=by
        refine zll (qgo _ _ _) ?_;rw[Yap];omega
       have hlen1:(l.take (k+1)).length=k+1:=by rw[Yap];omega
       have hlen2:(ws++[(y:Int)]).length=k+1:=by rw[Yaa,HK.out];rfl
       have Hlen1:=zhi hlen1;have Hlen2:=zhi hlen2;have Hfit:=zhi hfit;have Hst:=zhi hst;obtain⟨G,hG⟩: ∃G,grp (l.take (k+1)) (ws++[(y:Int)]) (y:Int)=G:=⟨_,rfl⟩;rw[hG] at hGl;have HG:=zhi hG;clear hst hgl hfit hG hlen1 hlen2;have hyM:(y:Int)<(M:Int):=by omega
       go_wp2_with fail;cases hq:qhn l ws p y with
       |false=>
        have hc:qmc G p=false:=by rw[←HG.out,←Hfit.out,hq]
        have hst2:Hid (qbc (qhn l ws p) (M-(y+1)) (y+1)=F):=by rw[Hid,←hfy.out,Hst.out,hq];rfl
        have HC:=zhi hc;clear hq hc;refine Ydi (by kernel_rfl) ?_;refine lq 0 36 (.int .i64 (y:Int)) rfl (fun _=>rfl) ?_;refine lq 1 37 (.int .i64 (M:Int)) rfl (fun _=>rfl) ?_;refine lq 2 38 (.bool true) rfl (fun w=>by go_simp) ?_;refine lq 3 39 (.bool true) rfl (fun _=>rfl) ?_;refine lq 4 40 (.slice (some ⟨ab,aoff,none⟩) l.length c) rfl (fun _=>rfl) ?_;refine lq 5 41 (.int .i64 (k:Int)) rfl (fun _=>rfl) ?_;refine lq 6 42 (.int .i64 ((k:Int)+1)) rfl (fun w=>by go_simp) ?_;refine lq 7 43 (.slice (some ⟨ab,aoff,none⟩) (k+1) c) rfl (fun w=>by go_simp) ?_;refine lq 8 44 (.slice (some ⟨bo,0,none⟩) k d) rfl (fun _=>rfl) ?_;refine lq 10 46 (.int .i64 (y:Int)) rfl (fun _=>rfl) ?_;refine lq 13 49 (.int .i64 (y:Int)) rfl (fun _=>rfl) ?_;refine lq 15 51 (.int .i64 p) rfl (fun _=>rfl) ?_;refine wpAny_ready (rs:=[9,11]) (by kernel_rfl) (by simp) (qil (i:=9) 45 rfl rfl (by rfl) (fun K hK=>?_) (qil (i:=11) 47 rfl rfl (by rfl) (fun K hK=>?_) Yas))
        ·refine Qi (Qz rfl 196 Tryz.func196 (by kernel_rfl) rfl _ _ rfl #[.slice (some ⟨bo,0,none⟩) k d] (by simp[Act.eval]) (qeo (some ⟨bo,0,none⟩) ws k d _ (hIS.keep (zdr br)) HK.out (by omega)) ?_);rintro e w7 ⟨A7,c7,rfl,o7,b7⟩;have B7:Below wy.heap.size wy w7:=Qa (zdr br) b7;have O7:OI wy.heap.size w7 A7 c7 ws:=Ql o7 (by first|exact zlr _|simp);refine⟨_,rfl,hK _ _ ?_⟩;simp only[lsS,lsZ];refine wr 11 47 rfl (fun K hK=>?_);go_simp
         refine hK _ _ ?_;simp only[lsS,lsZ];refine wr 12 48 rfl (fun K hK=>?_);refine Qi (qah rfl (.tmp 45) (.tmp 47) rfl wy.heap.size A7 ws k c7 HK.out rfl (Q4 O7 _) ⟨w7.heap.size,0,none⟩ 1 1 [(y:Int)] rfl rfl (qmm (zha w7 _)) (by rw[HK.out];omega) (by simp) (by have:=B7.size;simp;omega) ?_);intro A8 c8 w8 o8 g8 b8;have B8:Below wy.heap.size wy w8:=(bal B7 _).trans b8;refine hK _ _ ?_;simp only[lsS,lsZ];refine wr 14 50 rfl (fun K hK=>?_);refine Qi (Qz rfl 195 Tryz.func195 (by kernel_rfl) rfl _ _ rfl #[.slice (some ⟨ab,aoff,none⟩) (k+1) c,.slice A8 (k+1) c8,.int .i64 (y:Int)] (by simp[Act.eval]) (qci (some ⟨ab,aoff,none⟩) A8 (l.take (k+1)) (ws++[(y:Int)]) (k+1) c c8 (y:Int) _ (hT.keep B8) o8.is Hlen1.out Hlen2.out (by omega)) ?_);rintro e w9 ⟨A9,c9,rfl,o9,b9⟩;rw[HG.out] at o9⊢;have B9:Below wy.heap.size wy w9:=Qa B8 b9;have s9:=(Qo o9).1;refine⟨_,rfl,hK _ _ ?_⟩;simp only[lsS,lsZ];refine wr 16 52 rfl (fun K hK=>?_);refine Qi (Qz rfl 194 Tryz.func194 (by kernel_rfl) rfl _ _ rfl #[.slice A9 G.length c9,.int .i64 p] (by simp[Act.eval]) (qaw A9 G c9 p _ o9.ts (by unfold maxLen;omega) s9) ?_);rw[HC.out];rintro e w10 ⟨rfl,b10⟩;have B10:Below wy.heap.size wy w10:=Qa B9 b10;refine⟨_,rfl,hK _ _ ?_⟩;simp only[lsS,lsZ];refine lq 17 53 (.bool true) rfl (fun _=>rfl) ?_;refine lq 18 54 (.bool true) rfl (fun _=>rfl) ?_;refine wpAny_done (by kernel_rfl) ?_ _;go_wp2_with fail;go_roundg (M-(y+1))
         case measure=>omega
         case rel=>exact⟨y+1,by omega,by go_num,hst2,Qa hby B10⟩
        ·go_simp
         refine hK _ _ ?_;simp only[lsS,lsZ];refine wr 9 45 rfl (fun K hK=>?_);refine Qi (Qz rfl 196 Tryz.func196 (by kernel_rfl) rfl _ _ rfl #[.slice (some ⟨bo,0,none⟩) k d] (by simp[Act.eval]) (qeo (some ⟨bo,0,none⟩) ws k d _ (hIS.keep (bal (zdr br) _)) HK.out (by omega)) ?_);rintro e w7 ⟨A7,c7,rfl,o7,b7⟩;have B7:Below wy.heap.size wy w7:=Qa (bal (zdr br) _) b7;have O7:OI wy.heap.size w7 A7 c7 ws:=Ql o7 (by first|exact zlr _|simp);refine⟨_,rfl,hK _ _ ?_⟩;simp only[lsS,lsZ];refine wr 12 48 rfl (fun K hK=>?_);refine Qi (qah rfl (.tmp 45) (.tmp 47) rfl wy.heap.size A7 ws k c7 HK.out rfl (O7) ⟨wy.heap.size,0,none⟩ 1 1 [(y:Int)] rfl rfl (qmm ((b7.block _ (by simp)).trans (zha _ _))) (by rw[HK.out];omega) (by simp) (by have:=B7.size;simp;omega) ?_);intro A8 c8 w8 o8 g8 b8;have B8:Below wy.heap.size wy w8:=B7.trans b8;refine hK _ _ ?_;simp only[lsS,lsZ];refine wr 14 50 rfl (fun K hK=>?_);refine Qi (Qz rfl 195 Tryz.func195 (by kernel_rfl) rfl _ _ rfl #[.slice (some ⟨ab,aoff,none⟩) (k+1) c,.slice A8 (k+1) c8,.int .i64 (y:Int)] (by simp[Act.eval]) (qci (some ⟨ab,aoff,none⟩) A8 (l.take (k+1)) (ws++[(y:Int)]) (k+1) c c8 (y:Int) _ (hT.keep B8) o8.is Hlen1.out Hlen2.out (by omega)) ?_);rintro e w9 ⟨A9,c9,rfl,o9,b9⟩;rw[HG.out] at o9⊢;have B9:Below wy.heap.size wy w9:=Qa B8 b9;have s9:=(Qo o9).1;refine⟨_,rfl,hK _ _ ?_⟩;simp only[lsS,lsZ];refine wr 16 52 rfl (fun K hK=>?_);refine Qi (Qz rfl 194 Tryz.func194 (by kernel_rfl) rfl _ _ rfl #[.slice A9 G.length c9,.int .i64 p] (by simp[Act.eval]) (qaw A9 G c9 p _ o9.ts (by unfold maxLen;omega) s9) ?_);rw[HC.out];rintro e w10 ⟨rfl,b10⟩;have B10:Below wy.heap.size wy w10:=Qa B9 b10;refine⟨_,rfl,hK _ _ ?_⟩;simp only[lsS,lsZ];refine lq 17 53 (.bool true) rfl (fun _=>rfl) ?_;refine lq 18 54 (.bool true) rfl (fun _=>rfl) ?_;refine wpAny_done (by kernel_rfl) ?_ _;go_wp2_with fail;go_roundg (M-(y+1))
         case measure=>omega
         case rel=>exact⟨y+1,by omega,by go_num,hst2,Qa hby B10⟩
       |true=>
        have hc:qmc G p=true:=by rw[←HG.out,←Hfit.out,hq]
        have hst2:Hid (F=some y):=by rw[Hid,←hfy.out,Hst.out,hq];rfl
        have HC:=zhi hc;clear hq hc;refine Ydi (by kernel_rfl) ?_;refine lq 0 36 (.int .i64 (y:Int)) rfl (fun _=>rfl) ?_;refine lq 1 37 (.int .i64 (M:Int)) rfl (fun _=>rfl) ?_;refine lq 2 38 (.bool true) rfl (fun w=>by go_simp) ?_;refine lq 3 39 (.bool true) rfl (fun _=>rfl) ?_;refine lq 4 40 (.slice (some ⟨ab,aoff,none⟩) l.length c) rfl (fun _=>rfl) ?_;refine lq 5 41 (.int .i64 (k:Int)) rfl (fun _=>rfl) ?_;refine lq 6 42 (.int .i64 ((k:Int)+1)) rfl (fun w=>by go_simp) ?_;refine lq 7 43 (.slice (some ⟨ab,aoff,none⟩) (k+1) c) rfl (fun w=>by go_simp) ?_;refine lq 8 44 (.slice (some ⟨bo,0,none⟩) k d) rfl (fun _=>rfl) ?_;refine lq 10 46 (.int .i64 (y:Int)) rfl (fun _=>rfl) ?_;refine lq 13 49 (.int .i64 (y:Int)) rfl (fun _=>rfl) ?_;refine lq 15 51 (.int .i64 p) rfl (fun _=>rfl) ?_;refine wpAny_ready (rs:=[9,11]) (by kernel_rfl) (by simp) (qil (i:=9) 45 rfl rfl (by rfl) (fun K hK=>?_) (qil (i:=11) 47 rfl rfl (by rfl) (fun K hK=>?_) Yas))
        ·refine Qi (Qz rfl 196 Tryz.func196 (by kernel_rfl) rfl _ _ rfl #[.slice (some ⟨bo,0,none⟩) k d] (by simp[Act.eval]) (qeo (some ⟨bo,0,none⟩) ws k d _ (hIS.keep (zdr br)) HK.out (by omega)) ?_);rintro e w7 ⟨A7,c7,rfl,o7,b7⟩;have B7:Below wy.heap.size wy w7:=Qa (zdr br) b7;have O7:OI wy.heap.size w7 A7 c7 ws:=Ql o7 (by first|exact zlr _|simp);refine⟨_,rfl,hK _ _ ?_⟩;simp only[lsS,lsZ];refine wr 11 47 rfl (fun K hK=>?_);go_simp
         refine hK _ _ ?_;simp only[lsS,lsZ];refine wr 12 48 rfl (fun K hK=>?_);refine Qi (qah rfl (.tmp 45) (.tmp 47) rfl wy.heap.size A7 ws k c7 HK.out rfl (Q4 O7 _) ⟨w7.heap.size,0,none⟩ 1 1 [(y:Int)] rfl rfl (qmm (zha w7 _)) (by rw[HK.out];omega) (by simp) (by have:=B7.size;simp;omega) ?_);intro A8 c8 w8 o8 g8 b8;have B8:Below wy.heap.size wy w8:=(bal B7 _).trans b8;refine hK _ _ ?_;simp only[lsS,lsZ];refine wr 14 50 rfl (fun K hK=>?_);refine Qi (Qz rfl 195 Tryz.func195 (by kernel_rfl) rfl _ _ rfl #[.slice (some ⟨ab,aoff,none⟩) (k+1) c,.slice A8 (k+1) c8,.int .i64 (y:Int)] (by simp[Act.eval]) (qci (some ⟨ab,aoff,none⟩) A8 (l.take (k+1)) (ws++[(y:Int)]) (k+1) c c8 (y:Int) _ (hT.keep B8) o8.is Hlen1.out Hlen2.out (by omega)) ?_);rintro e w9 ⟨A9,c9,rfl,o9,b9⟩;rw[HG.out] at o9⊢;have B9:Below wy.heap.size wy w9:=Qa B8 b9;have s9:=(Qo o9).1;refine⟨_,rfl,hK _ _ ?_⟩;simp only[lsS,lsZ];refine wr 16 52 rfl (fun K hK=>?_);refine Qi (Qz rfl 194 Tryz.func194 (by kernel_rfl) rfl _ _ rfl #[.slice A9 G.length c9,.int .i64 p] (by simp[Act.eval]) (qaw A9 G c9 p _ o9.ts (by unfold maxLen;omega) s9) ?_);rw[HC.out];rintro e w10 ⟨rfl,b10⟩;have B10:Below wy.heap.size wy w10:=Qa B9 b10;refine⟨_,rfl,hK _ _ ?_⟩;simp only[lsS,lsZ];refine lq 17 53 (.bool false) rfl (fun _=>rfl) ?_;refine lq 18 54 (.bool false) rfl (fun _=>rfl) ?_;refine wpAny_done (by kernel_rfl) ?_ _;have hO10:=Q3 hOy B10
         have HF3:Hid (qtz l M p (l.length-(k+1)) (ws++[(y:Int)])=R):=by
          have e:=HF2.out;rw[hst2.out] at e;exact e
         have qne:((y:Int)==(M:Int))=false:=beq_eq_false_iff_ne.2 (by omega);have hB10:=Qa hBy B10;go_wp2_with (at_builtin;refine qam _ rfl (.tmp 60) (.tmp 62) rfl w.heap.size (some ⟨bo,0,none⟩) ws k d HK.out rfl (Q4 hO10 _) w10.heap.size 1 (y:Int) _ rfl (zha w10 _) (by omega) (by have:=hB10.size;simp;omega) ?_;intro A11 c11 w11 o11 b11)
         obtain⟨bo2,rfl,_,_⟩:=qdj o11 (by rw[Hlen2.out];omega);go_roundg (l.length-(k+1))
         case measure=>omega
         case rel=>exact⟨ws++[(y:Int)],bo2,c11,by rw[Hlen2.out];omega,by rw[Hlen2.out];go_num,by rw[Hlen2.out],o11,by rw[Hlen2.out];exact HF3,(bal hB10 _).trans b11⟩
        ·go_simp
         refine hK _ _ ?_;simp only[lsS,lsZ];refine wr 9 45 rfl (fun K hK=>?_);refine Qi (Qz rfl 196 Tryz.func196 (by kernel_rfl) rfl _ _ rfl #[.slice (some ⟨bo,0,none⟩) k d] (by simp[Act.eval]) (qeo (some ⟨bo,0,none⟩) ws k d _ (hIS.keep (bal (zdr br) _)) HK.out (by omega)) ?_);rintro e w7 ⟨A7,c7,rfl,o7,b7⟩;have B7:Below wy.heap.size wy w7:=Qa (bal (zdr br) _) b7;have O7:OI wy.heap.size w7 A7 c7 ws:=Ql o7 (by first|exact zlr _|simp);refine⟨_,rfl,hK _ _ ?_⟩;simp only[lsS,lsZ];refine wr 12 48 rfl (fun K hK=>?_);refine Qi (qah rfl (.tmp 45) (.tmp 47) rfl wy.heap.size A7 ws k c7 HK.out rfl (O7) ⟨wy.heap.size,0,none⟩ 1 1 [(y:Int)] rfl rfl (qmm ((b7.block _ (by simp)).trans (zha _ _))) (by rw[HK.out];omega) (by simp) (by have:=B7.size;simp;omega) ?_);intro A8 c8 w8 o8 g8 b8;have B8:Below wy.heap.size wy w8:=B7.trans b8;refine hK _ _ ?_;simp only[lsS,lsZ];refine wr 14 50 rfl (fun K hK=>?_);refine Qi (Qz rfl 195 Tryz.func195 (by kernel_rfl) rfl _ _ rfl #[.slice (some ⟨ab,aoff,none⟩) (k+1) c,.slice A8 (k+1) c8,.int .i64 (y:Int)] (by simp[Act.eval]) (qci (some ⟨ab,aoff,none⟩) A8 (l.take (k+1)) (ws++[(y:Int)]) (k+1) c c8 (y:Int) _ (hT.keep B8) o8.is Hlen1.out Hlen2.out (by omega)) ?_);rintro e w9 ⟨A9,c9,rfl,o9,b9⟩;rw[HG.out] at o9⊢;have B9:Below wy.heap.size wy w9:=Qa B8 b9;have s9:=(Qo o9).1;refine⟨_,rfl,hK _ _ ?_⟩;simp only[lsS,lsZ];refine wr 16 52 rfl (fun K hK=>?_);refine Qi (Qz rfl 194 Tryz.func194 (by kernel_rfl) rfl _ _ rfl #[.slice A9 G.length c9,.int .i64 p] (by simp[Act.eval]) (qaw A9 G c9 p _ o9.ts (by unfold maxLen;omega) s9) ?_);rw[HC.out];rintro e w10 ⟨rfl,b10⟩;have B10:Below wy.heap.size wy w10:=Qa B9 b10;refine⟨_,rfl,hK _ _ ?_⟩;simp only[lsS,lsZ];refine lq 17 53 (.bool false) rfl (fun _=>rfl) ?_;refine lq 18 54 (.bool false) rfl (fun _=>rfl) ?_;refine wpAny_done (by kernel_rfl) ?_ _;have hO10:=Q3 hOy B10
         have HF3:Hid (qtz l M p (l.length-(k+1)) (ws++[(y:Int)])=R):=by
          have e:=HF2.out;rw[hst2.out] at e;exact e
         have qne:((y:Int)==(M:Int))=false:=beq_eq_false_iff_ne.2 (by omega);have hB10:=Qa hBy B10;go_wp2_with (at_builtin;refine qam _ rfl (.tmp 60) (.tmp 62) rfl w.heap.size (some ⟨bo,0,none⟩) ws k d HK.out rfl (Q4 hO10 _) w10.heap.size 1 (y:Int) _ rfl (zha w10 _) (by omega) (by have:=hB10.size;simp;omega) ?_;intro A11 c11 w11 o11 b11)
         obtain⟨bo2,rfl,_,_⟩:=qdj o11 (by rw[Hlen2.out];omega);go_roundg (l.length-(k+1))
         case measure=>omega
         case rel=>exact⟨ws++[(y:Int)],bo2,c11,by rw[Hlen2.out];omega,by rw[Hlen2.out];go_num,by rw[Hlen2.out],o11,by rw[Hlen2.out];exact HF3,(bal hB10 _).trans b11⟩
      ·obtain rfl:y=M:=by omega
       have hFn:F=none:=by rw[←hfy.out,Ycc];rfl
       have hRn:R=none:=by
        have e:=HF2.out;rw[hFn] at e;exact e.symm
       have hr2:Hid (ffL l (y:Int) p=[]∧(qht l (y:Int) p).isSome=false):=by
        have e:qht l (y:Int) p=none:=by rw[HA.out,hRn]
        simp[Hid,ffL,e]
       clear hFn hRn;go_wp2_with fail;refine Ydi (by kernel_rfl) ?_;refine lq 0 36 (.int .i64 (y:Int)) rfl (fun _=>rfl) ?_;refine lq 1 37 (.int .i64 (y:Int)) rfl (fun _=>rfl) ?_;refine lq 2 38 (.bool false) rfl (fun w=>by go_simp) ?_;refine lq 3 39 (.bool false) rfl (fun _=>rfl) ?_;refine qdh (i:=4) 40 (undef) rfl rfl (by kernel_rfl) (by kernel_rfl) (by kernel_rfl) (fun _ _ _ h=>h) (.inr ⟨by rfl,rfl⟩) ?_;simp only[lsS,lsZ];refine qdh (i:=5) 41 (undef) rfl rfl (by kernel_rfl) (by kernel_rfl) (by kernel_rfl) (fun _ _ _ h=>h) (.inr ⟨by rfl,rfl⟩) ?_;simp only[lsS,lsZ];refine qdh (i:=6) 42 (undef) rfl rfl (by kernel_rfl) (by kernel_rfl) (by kernel_rfl) (fun _ _ _ h=>h) (.inr ⟨by rfl,rfl⟩) ?_;simp only[lsS,lsZ];refine qdh (i:=7) 43 (undef) rfl rfl (by kernel_rfl) (by kernel_rfl) (by kernel_rfl) (fun _ _ _ h=>h) (.inr ⟨by rfl,rfl⟩) ?_;simp only[lsS,lsZ];refine qdh (i:=8) 44 (undef) rfl rfl (by kernel_rfl) (by kernel_rfl) (by kernel_rfl) (fun _ _ _ h=>h) (.inr ⟨by rfl,rfl⟩) ?_;simp only[lsS,lsZ];refine qdh (i:=9) 45 (undef) rfl rfl (by kernel_rfl) (by kernel_rfl) (by kernel_rfl) (fun _ _ _ h=>h) (.inr ⟨by rfl,rfl⟩) ?_;simp only[lsS,lsZ];refine qdh (i:=10) 46 (undef) rfl rfl (by kernel_rfl) (by kernel_rfl) (by kernel_rfl) (fun _ _ _ h=>h) (.inr ⟨by rfl,rfl⟩) ?_;simp only[lsS,lsZ];refine qdh (i:=11) 47 (undef) rfl rfl (by kernel_rfl) (by kernel_rfl) (by kernel_rfl) (fun _ _ _ h=>h) (.inr ⟨by rfl,rfl⟩) ?_;simp only[lsS,lsZ];refine qdh (i:=12) 48 (undef) rfl rfl (by kernel_rfl) (by kernel_rfl) (by kernel_rfl) (fun _ _ _ h=>h) (.inr ⟨by rfl,rfl⟩) ?_;simp only[lsS,lsZ];refine qdh (i:=13) 49 (undef) rfl rfl (by kernel_rfl) (by kernel_rfl) (by kernel_rfl) (fun _ _ _ h=>h) (.inr ⟨by rfl,rfl⟩) ?_;simp only[lsS,lsZ];refine qdh (i:=14) 50 (undef) rfl rfl (by kernel_rfl) (by kernel_rfl) (by kernel_rfl) (fun _ _ _ h=>h) (.inr ⟨by rfl,rfl⟩) ?_;simp only[lsS,lsZ];refine qdh (i:=15) 51 (undef) rfl rfl (by kernel_rfl) (by kernel_rfl) (by kernel_rfl) (fun _ _ _ h=>h) (.inr ⟨by rfl,rfl⟩) ?_;simp only[lsS,lsZ];refine qdh (i:=16) 52 (undef) rfl rfl (by kernel_rfl) (by kernel_rfl) (by kernel_rfl) (fun _ _ _ h=>h) (.inr ⟨by rfl,rfl⟩) ?_;simp only[lsS,lsZ];refine qdh (i:=17) 53 (undef) rfl rfl (by kernel_rfl) (by kernel_rfl) (by kernel_rfl) (fun _ _ _ h=>h) (.inr ⟨by rfl,rfl⟩) ?_;simp only[lsS,lsZ];refine lq 18 54 (.bool false) rfl (fun _=>rfl) ?_;refine wpAny_done (by kernel_rfl) ?_ _;go_wp2_with fail;go_ret2;rw[hr2.out.1,hr2.out.2];exact⟨none,0,rfl,qex _ _,bdr hBy _⟩
    ·obtain rfl:k=l.length:=by omega
     have hr:qht l (M:Int) p=some ws:=by rw[HA.out,←hfk.out,Ycc];rfl
     have hr2:Hid (ffL l (M:Int) p=ws∧(qht l (M:Int) p).isSome=true):=by simp[Hid,ffL,hr]
     clear hr;go_wp2_with fail;go_ret2;rw[hr2.out.1,hr2.out.2];exact⟨some ⟨bo,0,none⟩,d,by rw[HK.out];rfl,hO,hb⟩
end Go.Proofs.YtmkjmancmiphfaaGreatDoor
