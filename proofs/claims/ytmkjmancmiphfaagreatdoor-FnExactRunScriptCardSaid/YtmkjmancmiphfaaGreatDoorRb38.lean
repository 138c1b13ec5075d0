/-
  PackFirst: the reference's. (Printed by gen_packs.py.)
-/
import Derived.Test.YtmkjmancmiphfaaGreatDoorRb37
namespace Go.Proofs.YtmkjmancmiphfaaGreatDoor
set_option maxHeartbeats 8000000
set_option maxRecDepth 1000000
open Go.RowKit
theorem qfn(A B:ZA)(l:List Tk)(ws:List Int)(n c d:Nat)(p:Int)(w:World)(h:TS w A l)(g:IS w B ws)(h1:l.length=n)(h2:ws.length=n)(hl:n≤100000):
  Calls Tryz.prog 211 #[.slice A n c,.slice B n d,.int .i64 p] w (q3d w (grp l ws p)):=by
 have K:=qhx A B l ws c d p w h g (by omega) (by omega);rw[h1,h2] at K;exact K
theorem qfo(A:ZA)(l:List Tk)(n c:Nat)(p:Int)(w:World)(h:TS w A l)(hn:l.length=n)(hm:n≤maxLen):
  Calls Tryz.prog 212 #[.slice A n c,.int .i64 p] w fun e w'=>e=.returned (.bool (qnm l p))∧Below w.heap.size w w':=by
 subst hn;exact qj3 A l c p w h hm
theorem qqt(A:ZA)(l:List Tk)(c:Nat)(m p:Int)(w:World)(h:TS w A l)(hm:l.length≤maxLen)(hlc:l.length≤c):
  Calls Tryz.prog 160 #[.slice A l.length c,.int .i64 m,.int .i64 p] w (qy1 w (ffL l m p) (qjc l m p).isSome):=by
 by_cases hall:qad l=true∧1≤m∧m≤3∧(p=0∨p=1)
 case neg=>
  have hv:qjc l m p=none:=by
   have hf:(qad l&&qip m&&q4m p)=false:=by
    cases hc:(qad l&&qip m&&q4m p) with
    |false=>rfl
    |true=>
     exfalso;apply hall
     simp only[Bool.and_eq_true,qip,q4m,decide_eq_true_eq,Bool.or_eq_true,beq_iff_eq] at hc;exact⟨hc.1.1,hc.1.2.1,hc.1.2.2,hc.2⟩
   simp[qjc,hf]
  have hv2:ffL l m p=[]:=by simp[ffL,hv]
  rw[hv,hv2];clear hv hv2;have HA:=zhi hall;clear hall;cases hS:qad l with
  |false=>
   go_enter Tryz.func160,Tryz.ntmps160;go_wp2_with fail;refine(qac A l c _ h hm).mono ?_;rw[hS];rintro e w1 ⟨rfl,b1⟩;go_wp2_with fail;go_ret2;exact⟨_,0,rfl,qbe _ _ b1.size,bal b1 _⟩
  |true=>
   have H2:Hid (¬(1≤m∧m≤3∧(p=0∨p=1))):=fun e=>HA.out ⟨hS,e⟩
   have HS:=zhi hS;clear HA hS;cases hn:q0d m with
   |false=>
    go_enter Tryz.func160,Tryz.ntmps160;go_wp2_with fail;refine(qac A l c _ h hm).mono ?_;rw[HS.out];rintro e w1 ⟨rfl,b1⟩;go_wp2_with fail;refine(qcv m _).mono ?_;rw[hn];rintro e w2 ⟨rfl,rfl⟩;go_wp2_with fail;go_ret2;exact⟨_,0,rfl,qbe _ _ b1.size,bal b1 _⟩
   |true=>
    have h13:1≤m∧m≤3:=by simpa [q0d] using hn
    have hp0:(p !=0)=true:=by
     simp only[bne_iff_ne];intro e;exact H2.out ⟨h13.1,h13.2,.inl e⟩
    have hp1:(p !=1)=true:=by
     simp only[bne_iff_ne];intro e;exact H2.out ⟨h13.1,h13.2,.inr e⟩
    go_enter Tryz.func160,Tryz.ntmps160;go_wp2_with fail;refine(qac A l c _ h hm).mono ?_;rw[HS.out];rintro e w1 ⟨rfl,b1⟩;go_wp2_with fail;refine(qcv m _).mono ?_;rw[hn];rintro e w2 ⟨rfl,rfl⟩;go_wp2_with fail;go_ret2;exact⟨_,0,rfl,qbe _ _ b1.size,bal b1 _⟩
 case pos=>
  obtain⟨hS,h1m,h3m,hp⟩:=hall;have hl5:=(qaj hS).1;obtain⟨M,rfl⟩: ∃M:Nat,m=(M:Int):=⟨m.toNat,(Int.toNat_of_nonneg (by omega)).symm⟩;have hM:0<M:=by omega
  obtain⟨R,hR⟩: ∃R,qu3 l M p (l.length-0) []=R:=⟨_,rfl⟩;have h1:qip (M:Int)=true:=by simp[qip];omega
  have hany:qjc l (M:Int) p=R:=by
   have h2:q4m p=true:=by rcases hp with rfl|rfl<;>rfl
   simp only[qjc,hS,h1,h2,Bool.and_self,if_true,Int.toNat_natCast];exact hR
  have HA:=zhi hany;have HR:=zhi hR;have HS:=zhi hS;have HN:Hid (q0d (M:Int)=true):=h1;clear hS hany hR h1
  have hp0:(p !=0)=false∨(p !=0)=true∧(p !=1)=false:=by
   rcases hp with rfl|rfl
   ·exact .inl rfl
   ·exact .inr ⟨rfl,rfl⟩
  clear hp;rcases hp0 with hq0|⟨hq0,hq1⟩
  ·go_enter Tryz.func160,Tryz.ntmps160;go_wp2_with fail;refine(qac A l c _ h hm).mono ?_;rw[HS.out];rintro e w1 ⟨rfl,b1⟩;go_wp2_with fail;refine(qcv (M:Int) _).mono ?_;rw[HN.out];rintro e w2 ⟨rfl,rfl⟩;go_wp2_with fail;go_loopg [8,9] l.length (fun g v i wr=> ∃(ws:List Int) (bo d:Nat),g+ws.length=l.length∧i=.int .i64 (ws.length:Int)∧v=.slice (some ⟨bo,0,none⟩) ws.length d∧OI w.heap.size wr (some ⟨bo,0,none⟩) d ws∧Hid (qu3 l M p (l.length-ws.length) ws=R)∧Below w.heap.size w wr)
   case atStart=>exact⟨[],w1.heap.size,0,by simp,rfl,rfl,qbe w1 _ b1.size,HR.out,bal b1 _⟩
   case round=>
    obtain⟨ws,bo,d,hg,rfl,rfl,hO,hfk,hb⟩:=hrel;obtain⟨wo,rfl⟩: ∃wo:World,wo=wr:=⟨_,rfl⟩;obtain⟨k,hk⟩: ∃k,ws.length=k:=⟨_,rfl⟩;have HK:=zhi hk;rw[hk] at hg hfk⊢;clear hk;have hd:k≤d:=by have:=(qao hO).1;rw[HK.out] at this;exact this
    by_cases hlt:k<l.length
    ·obtain⟨ab,aoff,rfl,habl,hc⟩:=h (by omega);have hcel:=qav hc k hlt;have Hcel:=zhi hcel;clear hc hcel;have hfk2:=hfk.out;rw[show l.length-k=(l.length-(k+1))+1 by omega,qmd] at hfk2;obtain⟨F,hF⟩: ∃F,qcw (qi6 l ws p) (M-0) 0=F:=⟨_,rfl⟩;have hF0:=hF;rw[Nat.sub_zero] at hF0;rw[hF0] at hfk2;have HF2:=zhi hfk2;have HF0:=zhi hF;clear hF hF0 hfk2 hfk;have q0:(0:Int)≤(k:Int):=by omega
     have q1:(k:Int)<(l.length:Int):=by omega
     have q5:(k:Int)≤(c:Int):=by omega
     go_wp2_with fail;go_loopg [10,11] (M+1) (fun g a q wy=>(∃y:Nat,g+y=M+1∧y≤M∧a=.int .i64 (-1)∧q=.int .i64 (y:Int)∧Hid (qcw (qi6 l ws p) (M-y) y=F)∧Below wo.heap.size wo wy)∨(∃y z:Nat,g=0∧a=.int .i64 (y:Int)∧q=.int .i64 (z:Int)∧y<M∧z≤M∧Hid (F=some y)∧Below wo.heap.size wo wy))
     case atStart=>exact .inl ⟨0,by omega,by omega,rfl,rfl,HF0.out,br⟩
     case round=>
      rcases hrel with⟨y,hgy,hyM,rfl,rfl,hfy,hby⟩|⟨y,z,rfl,rfl,rfl,hyM,hzM,hFy,hby⟩
      ·obtain⟨wy,rfl⟩: ∃wy:World,wy=wr:=⟨_,rfl⟩;have hOy:=qa1 hO hby;have hBy:=qaa hb hby;clear HF0;by_cases hy:y<M
       ·have Hst:=zhi (qfm (qi6 l ws p) M y hy);have hT:TS wy (some ⟨ab,aoff,none⟩) (l.take k):=qmn (h.keep hBy) k;have hIS:IS wy (some ⟨bo,0,none⟩) ws:=hOy.is;have hablw:ab<wy.heap.size:=zlt habl hBy.size
        have hcells: ∀w':World,Below wy.heap.size wy w'→w'.cell? ⟨ab,aoff+k*5,none⟩=some (.int .i64 (qag l k).low)∧w'.cell? ⟨ab,aoff+k*5+1,none⟩=some (.int .i64 (qag l k).high)∧w'.cell? ⟨ab,aoff+k*5+2,none⟩=some (.int .i64 (qag l k).due)∧w'.cell? ⟨ab,aoff+k*5+3,none⟩=some (.int .i64 (qag l k).every)∧w'.cell? ⟨ab,aoff+k*5+4,none⟩=some (.bool (qag l k).crit):=by
         intro w' hw';have f: ∀j,w'.cell? ⟨ab,j,none⟩=w.cell? ⟨ab,j,none⟩:=fun j=>(hw'.cell (p:=⟨ab,j,none⟩) hablw).trans (hBy.cell (p:=⟨ab,j,none⟩) habl)
         obtain⟨x0,x1,x2,x3,x4⟩:=Hcel.out;exact⟨(f _).trans x0,(f _).trans x1,(f _).trans x2,(f _).trans x3,(f _).trans x4⟩
        have hfit:qi6 l ws p y=qnm (grp (l.take k) ws (y:Int)++[qag l k]) p:=by rw[qi6,HK.out]
        have hGl:(grp (l.take k) ws (y:Int)).length≤5:=by
         refine zll (qh7 _ _ _) ?_;rw[List.length_take];omega
        have Hlen1:Hid ((l.take k).length=k):=by rw[Hid,List.length_take];omega
        have Hlen2:Hid ((ws++[(y:Int)]).length=k+1):=by rw[Hid,List.length_append,HK.out];rfl
        obtain⟨G,hG⟩: ∃G,grp (l.take k) ws (y:Int)=G:=⟨_,rfl⟩;rw[hG] at hGl hfit;have HG:=zhi hG;have Hfit:=zhi hfit;clear hfit hG;have hyMi:(y:Int)<(M:Int):=by omega
        have Hcells:=zhi hcells;go_wp2_with fail;refine wp_region_any (by kernel_rfl) ?_;refine lq 0 46 (.slice (some ⟨ab,aoff,none⟩) l.length c) rfl (fun _=>rfl) ?_;refine lq 1 47 (.int .i64 (k:Int)) rfl (fun _=>rfl) ?_;refine lq 2 48 (.slice (some ⟨ab,aoff,none⟩) k c) rfl (fun w=>by go_simp) ?_;refine lq 3 49 (.slice (some ⟨bo,0,none⟩) k d) rfl (fun _=>rfl) ?_;refine lq 4 50 (.int .i64 (y:Int)) rfl (fun _=>rfl) ?_;refine lq 6 52 (.slice (some ⟨ab,aoff,none⟩) l.length c) rfl (fun _=>rfl) ?_;refine lq 7 53 (.int .i64 (k:Int)) rfl (fun _=>rfl) ?_;refine lq 8 54 (.pointer (some ⟨ab,aoff+k*5,none⟩)) rfl (fun w=>by go_simp) ?_;refine wpAny_ready (rs:=[5,9]) (by kernel_rfl) (by simp) (qbu (i:=5) 51 rfl rfl (by rfl) (fun K hK=>?_) (qbu (i:=9) 55 rfl rfl (by rfl) (fun K hK=>?_) AllReady.nil))
        ·refine qai (qaz rfl 211 Tryz.func211 (by kernel_rfl) rfl _ _ rfl #[.slice (some ⟨ab,aoff,none⟩) k c,.slice (some ⟨bo,0,none⟩) k d,.int .i64 (y:Int)] (by simp[Act.eval]) (qfn (some ⟨ab,aoff,none⟩) (some ⟨bo,0,none⟩) (l.take k) ws k c d (y:Int) _ (hT.keep (zdr br)) (hIS.keep (zdr br)) Hlen1.out HK.out (by omega)) ?_);rintro e w7 ⟨A7,c7,rfl,o7,b7⟩;rw[HG.out] at o7⊢;have B7:Below wy.heap.size wy w7:=qaa (zdr br) b7;have O7:OT wy.heap.size w7 A7 c7 G:=qal o7 (by first|exact zlr _|simp);have s7:=(qao o7).1;refine⟨_,rfl,hK _ _ ?_⟩;simp only[lsS,lsZ];refine wpAny_ready (rs:=[9]) (by kernel_rfl) (by simp) (qbu (i:=9) 55 rfl rfl (by rfl) (fun K hK=>?_) AllReady.nil);have e:=hcells _ B7;obtain⟨e0,e1,e2,e3,e4⟩:=e;go_simp
         refine hK _ _ ?_;simp only[lsS,lsZ];clear e0 e1 e2 e3 e4;refine wpAny_ready (rs:=[10]) (by kernel_rfl) (by simp) (qbu (i:=10) 56 rfl rfl (by rfl) (fun K hK=>?_) AllReady.nil);go_simp
         refine hK _ _ ?_;simp only[lsS,lsZ];refine wpAny_ready (rs:=[11]) (by kernel_rfl) (by simp) (qbu (i:=11) 57 rfl rfl (by rfl) (fun K hK=>?_) AllReady.nil);refine qai (qay rfl (.tmp 51) (.tmp 56) rfl wy.heap.size A7 G G.length c7 rfl rfl (qbf O7 _) ⟨w7.heap.size,0,none⟩ 1 1 [qag l k] rfl rfl (qhr (zha w7 _) rfl) (by omega) (by simp) (by have:=B7.size;simp;omega) ?_);intro A8 c8 w8 o8 g8 b8;have B8:Below wy.heap.size wy w8:=(bal B7 _).trans b8;refine hK _ _ ?_;simp only[lsS,lsZ];refine lq 12 12 (.slice A8 (G.length+1) c8) rfl (fun _=>rfl) ?_;refine wpAny_done (by kernel_rfl) ?_ _;have hO8:=qa1 hOy B8;have s8:=(qao o8).1;rw[List.length_append,List.length_singleton] at s8;have K:=qfo A8 (G++[qag l k]) (G.length+1) c8 p w8 o8.ts (by rw[List.length_append];rfl) (by unfold maxLen;omega);rw[←Hfit.out] at K;have hB8:=qaa hBy B8;cases hq:qi6 l ws p y with
         |false=>
          rw[hq] at K;have hst2:Hid (qcw (qi6 l ws p) (M-(y+1)) (y+1)=F):=by rw[Hid,←hfy.out,Hst.out,hq];rfl
          clear hq;go_wp2_with fail;refine K.mono ?_;rintro e w9 ⟨rfl,b9⟩;go_wp2_with fail;go_roundg (M-(y+1)+1)
          case measure=>omega
          case rel=>exact .inl ⟨y+1,by omega,by omega,rfl,by go_num,hst2,qaa (qaa hby B8) b9⟩
         |true=>
          rw[hq] at K;have hst2:Hid (F=some y):=by rw[Hid,←hfy.out,Hst.out,hq];rfl
          clear hq;go_wp2_with fail;refine K.mono ?_;rintro e w9 ⟨rfl,b9⟩;go_wp2_with fail;go_roundg 0
          case measure=>omega
          case rel=>exact .inr ⟨y,y+1,by omega,rfl,by go_num,by omega,by omega,hst2,qaa (qaa hby B8) b9⟩
        ·have e:=hcells _ (zdr br);obtain⟨e0,e1,e2,e3,e4⟩:=e;go_simp
         refine hK _ _ ?_;simp only[lsS,lsZ];clear e0 e1 e2 e3 e4;refine wpAny_ready (rs:=[5,10]) (by kernel_rfl) (by simp) (qbu (i:=5) 51 rfl rfl (by rfl) (fun K hK=>?_) (qbu (i:=10) 56 rfl rfl (by rfl) (fun K hK=>?_) AllReady.nil))
         ·refine qai (qaz rfl 211 Tryz.func211 (by kernel_rfl) rfl _ _ rfl #[.slice (some ⟨ab,aoff,none⟩) k c,.slice (some ⟨bo,0,none⟩) k d,.int .i64 (y:Int)] (by simp[Act.eval]) (qfn (some ⟨ab,aoff,none⟩) (some ⟨bo,0,none⟩) (l.take k) ws k c d (y:Int) _ (hT.keep (zdr br)) (hIS.keep (zdr br)) Hlen1.out HK.out (by omega)) ?_);rintro e w7 ⟨A7,c7,rfl,o7,b7⟩;rw[HG.out] at o7⊢;have B7:Below wy.heap.size wy w7:=qaa (zdr br) b7;have O7:OT wy.heap.size w7 A7 c7 G:=qal o7 (by first|exact zlr _|simp);have s7:=(qao o7).1;refine⟨_,rfl,hK _ _ ?_⟩;simp only[lsS,lsZ];refine wpAny_ready (rs:=[10]) (by kernel_rfl) (by simp) (qbu (i:=10) 56 rfl rfl (by rfl) (fun K hK=>?_) AllReady.nil);go_simp
          refine hK _ _ ?_;simp only[lsS,lsZ];refine wpAny_ready (rs:=[11]) (by kernel_rfl) (by simp) (qbu (i:=11) 57 rfl rfl (by rfl) (fun K hK=>?_) AllReady.nil);refine qai (qay rfl (.tmp 51) (.tmp 56) rfl wy.heap.size A7 G G.length c7 rfl rfl (qbf O7 _) ⟨w7.heap.size,0,none⟩ 1 1 [qag l k] rfl rfl (qhr (zha w7 _) rfl) (by omega) (by simp) (by have:=B7.size;simp;omega) ?_);intro A8 c8 w8 o8 g8 b8;have B8:Below wy.heap.size wy w8:=(bal B7 _).trans b8;refine hK _ _ ?_;simp only[lsS,lsZ];refine lq 12 12 (.slice A8 (G.length+1) c8) rfl (fun _=>rfl) ?_;refine wpAny_done (by kernel_rfl) ?_ _;have hO8:=qa1 hOy B8;have s8:=(qao o8).1;rw[List.length_append,List.length_singleton] at s8;have K:=qfo A8 (G++[qag l k]) (G.length+1) c8 p w8 o8.ts (by rw[List.length_append];rfl) (by unfold maxLen;omega);rw[←Hfit.out] at K;have hB8:=qaa hBy B8;cases hq:qi6 l ws p y with
          |false=>
           rw[hq] at K;have hst2:Hid (qcw (qi6 l ws p) (M-(y+1)) (y+1)=F):=by rw[Hid,←hfy.out,Hst.out,hq];rfl
           clear hq;go_wp2_with fail;refine K.mono ?_;rintro e w9 ⟨rfl,b9⟩;go_wp2_with fail;go_roundg (M-(y+1)+1)
           case measure=>omega
           case rel=>exact .inl ⟨y+1,by omega,by omega,rfl,by go_num,hst2,qaa (qaa hby B8) b9⟩
          |true=>
           rw[hq] at K;have hst2:Hid (F=some y):=by rw[Hid,←hfy.out,Hst.out,hq];rfl
           clear hq;go_wp2_with fail;refine K.mono ?_;rintro e w9 ⟨rfl,b9⟩;go_wp2_with fail;go_roundg 0
           case measure=>omega
           case rel=>exact .inr ⟨y,y+1,by omega,rfl,by go_num,by omega,by omega,hst2,qaa (qaa hby B8) b9⟩
         ·go_simp
          refine hK _ _ ?_;simp only[lsS,lsZ];refine wpAny_ready (rs:=[5]) (by kernel_rfl) (by simp) (qbu (i:=5) 51 rfl rfl (by rfl) (fun K hK=>?_) AllReady.nil);refine qai (qaz rfl 211 Tryz.func211 (by kernel_rfl) rfl _ _ rfl #[.slice (some ⟨ab,aoff,none⟩) k c,.slice (some ⟨bo,0,none⟩) k d,.int .i64 (y:Int)] (by simp[Act.eval]) (qfn (some ⟨ab,aoff,none⟩) (some ⟨bo,0,none⟩) (l.take k) ws k c d (y:Int) _ (hT.keep (bal (zdr br) _)) (hIS.keep (bal (zdr br) _)) Hlen1.out HK.out (by omega)) ?_);rintro e w7 ⟨A7,c7,rfl,o7,b7⟩;rw[HG.out] at o7⊢;have B7:Below wy.heap.size wy w7:=qaa (bal (zdr br) _) b7;have O7:OT wy.heap.size w7 A7 c7 G:=qal o7 (by first|exact zlr _|simp);have s7:=(qao o7).1;refine⟨_,rfl,hK _ _ ?_⟩;simp only[lsS,lsZ];refine wpAny_ready (rs:=[11]) (by kernel_rfl) (by simp) (qbu (i:=11) 57 rfl rfl (by rfl) (fun K hK=>?_) AllReady.nil);refine qai (qay rfl (.tmp 51) (.tmp 56) rfl wy.heap.size A7 G G.length c7 rfl rfl (O7) ⟨wy.heap.size,0,none⟩ 1 1 [qag l k] rfl rfl (qhr ((b7.block _ (by simp)).trans (zha _ _)) rfl) (by omega) (by simp) (by have:=B7.size;simp;omega) ?_);intro A8 c8 w8 o8 g8 b8;have B8:Below wy.heap.size wy w8:=B7.trans b8;refine hK _ _ ?_;simp only[lsS,lsZ];refine lq 12 12 (.slice A8 (G.length+1) c8) rfl (fun _=>rfl) ?_;refine wpAny_done (by kernel_rfl) ?_ _;have hO8:=qa1 hOy B8;have s8:=(qao o8).1;rw[List.length_append,List.length_singleton] at s8;have K:=qfo A8 (G++[qag l k]) (G.length+1) c8 p w8 o8.ts (by rw[List.length_append];rfl) (by unfold maxLen;omega);rw[←Hfit.out] at K;have hB8:=qaa hBy B8;cases hq:qi6 l ws p y with
          |false=>
           rw[hq] at K;have hst2:Hid (qcw (qi6 l ws p) (M-(y+1)) (y+1)=F):=by rw[Hid,←hfy.out,Hst.out,hq];rfl
           clear hq;go_wp2_with fail;refine K.mono ?_;rintro e w9 ⟨rfl,b9⟩;go_wp2_with fail;go_roundg (M-(y+1)+1)
           case measure=>omega
           case rel=>exact .inl ⟨y+1,by omega,by omega,rfl,by go_num,hst2,qaa (qaa hby B8) b9⟩
          |true=>
           rw[hq] at K;have hst2:Hid (F=some y):=by rw[Hid,←hfy.out,Hst.out,hq];rfl
           clear hq;go_wp2_with fail;refine K.mono ?_;rintro e w9 ⟨rfl,b9⟩;go_wp2_with fail;go_roundg 0
           case measure=>omega
           case rel=>exact .inr ⟨y,y+1,by omega,rfl,by go_num,by omega,by omega,hst2,qaa (qaa hby B8) b9⟩
       ·obtain rfl:y=M:=by omega
        have hFn:F=none:=by rw[←hfy.out,Nat.sub_self];rfl
        have hRn:R=none:=by
         have e:=HF2.out;rw[hFn] at e;exact e.symm
        have hr2:Hid (ffL l (y:Int) p=[]∧(qjc l (y:Int) p).isSome=false):=by
         have e:qjc l (y:Int) p=none:=by rw[HA.out,hRn]
         simp[Hid,ffL,e]
        clear hFn hRn;go_wp2_with fail;go_ret2;rw[hr2.out.1,hr2.out.2];exact⟨_,0,rfl,qbe _ _ hBy.size,bal hBy _⟩
      ·have hOy:=qa1 hO hby;have hBy:=qaa hb hby
       have HF3:Hid (qu3 l M p (l.length-(k+1)) (ws++[(y:Int)])=R):=by
        have e:=HF2.out;rw[hFy.out] at e;exact e
       have Hlen2:Hid ((ws++[(y:Int)]).length=k+1):=by rw[Hid,List.length_append,HK.out];rfl
       clear HF0;have y0:(0:Int)≤(y:Int):=by omega
       by_cases hz:z<M
       ·have hzi:(z:Int)<(M:Int):=by omega
        go_wp2_with (at_builtin;refine qb9 _ rfl (.tmp 65) (.tmp 67) rfl w.heap.size (some ⟨bo,0,none⟩) ws k d HK.out rfl (qa2 hOy _) wr.heap.size 1 (y:Int) _ rfl (zha wr _) (by omega) (by have:=hBy.size;simp;omega) ?_;intro A11 c11 w11 o11 b11)
        obtain⟨bo2,rfl,_,_⟩:=qe3 o11 (by rw[Hlen2.out];omega);go_roundg (l.length-(k+1))
        case measure=>omega
        case rel=>exact⟨ws++[(y:Int)],bo2,c11,by rw[Hlen2.out];omega,by rw[Hlen2.out];go_num,by rw[Hlen2.out],o11,by rw[Hlen2.out];exact HF3,(bal hBy _).trans b11⟩
       ·have hzi: ¬(z:Int)<(M:Int):=by omega
        go_wp2_with (at_builtin;refine qb9 _ rfl (.tmp 65) (.tmp 67) rfl w.heap.size (some ⟨bo,0,none⟩) ws k d HK.out rfl (qa2 hOy _) wr.heap.size 1 (y:Int) _ rfl (zha wr _) (by omega) (by have:=hBy.size;simp;omega) ?_;intro A11 c11 w11 o11 b11)
        obtain⟨bo2,rfl,_,_⟩:=qe3 o11 (by rw[Hlen2.out];omega);go_roundg (l.length-(k+1))
        case measure=>omega
        case rel=>exact⟨ws++[(y:Int)],bo2,c11,by rw[Hlen2.out];omega,by rw[Hlen2.out];go_num,by rw[Hlen2.out],o11,by rw[Hlen2.out];exact HF3,(bal hBy _).trans b11⟩
    ·obtain rfl:k=l.length:=by omega
     have hr:qjc l (M:Int) p=some ws:=by rw[HA.out,←hfk.out,Nat.sub_self];rfl
     have hr2:Hid (ffL l (M:Int) p=ws∧(qjc l (M:Int) p).isSome=true):=by simp[Hid,ffL,hr]
     clear hr;go_wp2_with fail;go_ret2;rw[hr2.out.1,hr2.out.2];exact⟨some ⟨bo,0,none⟩,d,by rw[HK.out];rfl,hO,hb⟩
  ·go_enter Tryz.func160,Tryz.ntmps160;go_wp2_with fail;refine(qac A l c _ h hm).mono ?_;rw[HS.out];rintro e w1 ⟨rfl,b1⟩;go_wp2_with fail;refine(qcv (M:Int) _).mono ?_;rw[HN.out];rintro e w2 ⟨rfl,rfl⟩;go_wp2_with fail;go_loopg [8,9] l.length (fun g v i wr=> ∃(ws:List Int) (bo d:Nat),g+ws.length=l.length∧i=.int .i64 (ws.length:Int)∧v=.slice (some ⟨bo,0,none⟩) ws.length d∧OI w.heap.size wr (some ⟨bo,0,none⟩) d ws∧Hid (qu3 l M p (l.length-ws.length) ws=R)∧Below w.heap.size w wr)
   case atStart=>exact⟨[],w1.heap.size,0,by simp,rfl,rfl,qbe w1 _ b1.size,HR.out,bal b1 _⟩
   case round=>
    obtain⟨ws,bo,d,hg,rfl,rfl,hO,hfk,hb⟩:=hrel;obtain⟨wo,rfl⟩: ∃wo:World,wo=wr:=⟨_,rfl⟩;obtain⟨k,hk⟩: ∃k,ws.length=k:=⟨_,rfl⟩;have HK:=zhi hk;rw[hk] at hg hfk⊢;clear hk;have hd:k≤d:=by have:=(qao hO).1;rw[HK.out] at this;exact this
    by_cases hlt:k<l.length
    ·obtain⟨ab,aoff,rfl,habl,hc⟩:=h (by omega);have hcel:=qav hc k hlt;have Hcel:=zhi hcel;clear hc hcel;have hfk2:=hfk.out;rw[show l.length-k=(l.length-(k+1))+1 by omega,qmd] at hfk2;obtain⟨F,hF⟩: ∃F,qcw (qi6 l ws p) (M-0) 0=F:=⟨_,rfl⟩;have hF0:=hF;rw[Nat.sub_zero] at hF0;rw[hF0] at hfk2;have HF2:=zhi hfk2;have HF0:=zhi hF;clear hF hF0 hfk2 hfk;have q0:(0:Int)≤(k:Int):=by omega
     have q1:(k:Int)<(l.length:Int):=by omega
     have q5:(k:Int)≤(c:Int):=by omega
     go_wp2_with fail;go_loopg [10,11] (M+1) (fun g a q wy=>(∃y:Nat,g+y=M+1∧y≤M∧a=.int .i64 (-1)∧q=.int .i64 (y:Int)∧Hid (qcw (qi6 l ws p) (M-y) y=F)∧Below wo.heap.size wo wy)∨(∃y z:Nat,g=0∧a=.int .i64 (y:Int)∧q=.int .i64 (z:Int)∧y<M∧z≤M∧Hid (F=some y)∧Below wo.heap.size wo wy))
     case atStart=>exact .inl ⟨0,by omega,by omega,rfl,rfl,HF0.out,br⟩
     case round=>
      rcases hrel with⟨y,hgy,hyM,rfl,rfl,hfy,hby⟩|⟨y,z,rfl,rfl,rfl,hyM,hzM,hFy,hby⟩
      ·obtain⟨wy,rfl⟩: ∃wy:World,wy=wr:=⟨_,rfl⟩;have hOy:=qa1 hO hby;have hBy:=qaa hb hby;clear HF0;by_cases hy:y<M
       ·have Hst:=zhi (qfm (qi6 l ws p) M y hy);have hT:TS wy (some ⟨ab,aoff,none⟩) (l.take k):=qmn (h.keep hBy) k;have hIS:IS wy (some ⟨bo,0,none⟩) ws:=hOy.is;have hablw:ab<wy.heap.size:=zlt habl hBy.size
        have hcells: ∀w':World,Below wy.heap.size wy w'→w'.cell? ⟨ab,aoff+k*5,none⟩=some (.int .i64 (qag l k).low)∧w'.cell? ⟨ab,aoff+k*5+1,none⟩=some (.int .i64 (qag l k).high)∧w'.cell? ⟨ab,aoff+k*5+2,none⟩=some (.int .i64 (qag l k).due)∧w'.cell? ⟨ab,aoff+k*5+3,none⟩=some (.int .i64 (qag l k).every)∧w'.cell? ⟨ab,aoff+k*5+4,none⟩=some (.bool (qag l k).crit):=by
         intro w' hw';have f: ∀j,w'.cell? ⟨ab,j,none⟩=w.cell? ⟨ab,j,none⟩:=fun j=>(hw'.cell (p:=⟨ab,j,none⟩) hablw).trans (hBy.cell (p:=⟨ab,j,none⟩) habl)
         obtain⟨x0,x1,x2,x3,x4⟩:=Hcel.out;exact⟨(f _).trans x0,(f _).trans x1,(f _).trans x2,(f _).trans x3,(f _).trans x4⟩
        have hfit:qi6 l ws p y=qnm (grp (l.take k) ws (y:Int)++[qag l k]) p:=by rw[qi6,HK.out]
        have hGl:(grp (l.take k) ws (y:Int)).length≤5:=by
         refine zll (qh7 _ _ _) ?_;rw[List.length_take];omega
        have Hlen1:Hid ((l.take k).length=k):=by rw[Hid,List.length_take];omega
        have Hlen2:Hid ((ws++[(y:Int)]).length=k+1):=by rw[Hid,List.length_append,HK.out];rfl
        obtain⟨G,hG⟩: ∃G,grp (l.take k) ws (y:Int)=G:=⟨_,rfl⟩;rw[hG] at hGl hfit;have HG:=zhi hG;have Hfit:=zhi hfit;clear hfit hG;have hyMi:(y:Int)<(M:Int):=by omega
        have Hcells:=zhi hcells;go_wp2_with fail;refine wp_region_any (by kernel_rfl) ?_;refine lq 0 46 (.slice (some ⟨ab,aoff,none⟩) l.length c) rfl (fun _=>rfl) ?_;refine lq 1 47 (.int .i64 (k:Int)) rfl (fun _=>rfl) ?_;refine lq 2 48 (.slice (some ⟨ab,aoff,none⟩) k c) rfl (fun w=>by go_simp) ?_;refine lq 3 49 (.slice (some ⟨bo,0,none⟩) k d) rfl (fun _=>rfl) ?_;refine lq 4 50 (.int .i64 (y:Int)) rfl (fun _=>rfl) ?_;refine lq 6 52 (.slice (some ⟨ab,aoff,none⟩) l.length c) rfl (fun _=>rfl) ?_;refine lq 7 53 (.int .i64 (k:Int)) rfl (fun _=>rfl) ?_;refine lq 8 54 (.pointer (some ⟨ab,aoff+k*5,none⟩)) rfl (fun w=>by go_simp) ?_;refine wpAny_ready (rs:=[5,9]) (by kernel_rfl) (by simp) (qbu (i:=5) 51 rfl rfl (by rfl) (fun K hK=>?_) (qbu (i:=9) 55 rfl rfl (by rfl) (fun K hK=>?_) AllReady.nil))
        ·refine qai (qaz rfl 211 Tryz.func211 (by kernel_rfl) rfl _ _ rfl #[.slice (some ⟨ab,aoff,none⟩) k c,.slice (some ⟨bo,0,none⟩) k d,.int .i64 (y:Int)] (by simp[Act.eval]) (qfn (some ⟨ab,aoff,none⟩) (some ⟨bo,0,none⟩) (l.take k) ws k c d (y:Int) _ (hT.keep (zdr br)) (hIS.keep (zdr br)) Hlen1.out HK.out (by omega)) ?_);rintro e w7 ⟨A7,c7,rfl,o7,b7⟩;rw[HG.out] at o7⊢;have B7:Below wy.heap.size wy w7:=qaa (zdr br) b7;have O7:OT wy.heap.size w7 A7 c7 G:=qal o7 (by first|exact zlr _|simp);have s7:=(qao o7).1;refine⟨_,rfl,hK _ _ ?_⟩;simp only[lsS,lsZ];refine wpAny_ready (rs:=[9]) (by kernel_rfl) (by simp) (qbu (i:=9) 55 rfl rfl (by rfl) (fun K hK=>?_) AllReady.nil);have e:=hcells _ B7;obtain⟨e0,e1,e2,e3,e4⟩:=e;go_simp
         refine hK _ _ ?_;simp only[lsS,lsZ];clear e0 e1 e2 e3 e4;refine wpAny_ready (rs:=[10]) (by kernel_rfl) (by simp) (qbu (i:=10) 56 rfl rfl (by rfl) (fun K hK=>?_) AllReady.nil);go_simp
         refine hK _ _ ?_;simp only[lsS,lsZ];refine wpAny_ready (rs:=[11]) (by kernel_rfl) (by simp) (qbu (i:=11) 57 rfl rfl (by rfl) (fun K hK=>?_) AllReady.nil);refine qai (qay rfl (.tmp 51) (.tmp 56) rfl wy.heap.size A7 G G.length c7 rfl rfl (qbf O7 _) ⟨w7.heap.size,0,none⟩ 1 1 [qag l k] rfl rfl (qhr (zha w7 _) rfl) (by omega) (by simp) (by have:=B7.size;simp;omega) ?_);intro A8 c8 w8 o8 g8 b8;have B8:Below wy.heap.size wy w8:=(bal B7 _).trans b8;refine hK _ _ ?_;simp only[lsS,lsZ];refine lq 12 12 (.slice A8 (G.length+1) c8) rfl (fun _=>rfl) ?_;refine wpAny_done (by kernel_rfl) ?_ _;have hO8:=qa1 hOy B8;have s8:=(qao o8).1;rw[List.length_append,List.length_singleton] at s8;have K:=qfo A8 (G++[qag l k]) (G.length+1) c8 p w8 o8.ts (by rw[List.length_append];rfl) (by unfold maxLen;omega);rw[←Hfit.out] at K;have hB8:=qaa hBy B8;cases hq:qi6 l ws p y with
         |false=>
          rw[hq] at K;have hst2:Hid (qcw (qi6 l ws p) (M-(y+1)) (y+1)=F):=by rw[Hid,←hfy.out,Hst.out,hq];rfl
          clear hq;go_wp2_with fail;refine K.mono ?_;rintro e w9 ⟨rfl,b9⟩;go_wp2_with fail;go_roundg (M-(y+1)+1)
          case measure=>omega
          case rel=>exact .inl ⟨y+1,by omega,by omega,rfl,by go_num,hst2,qaa (qaa hby B8) b9⟩
         |true=>
          rw[hq] at K;have hst2:Hid (F=some y):=by rw[Hid,←hfy.out,Hst.out,hq];rfl
          clear hq;go_wp2_with fail;refine K.mono ?_;rintro e w9 ⟨rfl,b9⟩;go_wp2_with fail;go_roundg 0
          case measure=>omega
          case rel=>exact .inr ⟨y,y+1,by omega,rfl,by go_num,by omega,by omega,hst2,qaa (qaa hby B8) b9⟩
        ·have e:=hcells _ (zdr br);obtain⟨e0,e1,e2,e3,e4⟩:=e;go_simp
         refine hK _ _ ?_;simp only[lsS,lsZ];clear e0 e1 e2 e3 e4;refine wpAny_ready (rs:=[5,10]) (by kernel_rfl) (by simp) (qbu (i:=5) 51 rfl rfl (by rfl) (fun K hK=>?_) (qbu (i:=10) 56 rfl rfl (by rfl) (fun K hK=>?_) AllReady.nil))
         ·refine qai (qaz rfl 211 Tryz.func211 (by kernel_rfl) rfl _ _ rfl #[.slice (some ⟨ab,aoff,none⟩) k c,.slice (some ⟨bo,0,none⟩) k d,.int .i64 (y:Int)] (by simp[Act.eval]) (qfn (some ⟨ab,aoff,none⟩) (some ⟨bo,0,none⟩) (l.take k) ws k c d (y:Int) _ (hT.keep (zdr br)) (hIS.keep (zdr br)) Hlen1.out HK.out (by omega)) ?_);rintro e w7 ⟨A7,c7,rfl,o7,b7⟩;rw[HG.out] at o7⊢;have B7:Below wy.heap.size wy w7:=qaa (zdr br) b7;have O7:OT wy.heap.size w7 A7 c7 G:=qal o7 (by first|exact zlr _|simp);have s7:=(qao o7).1;refine⟨_,rfl,hK _ _ ?_⟩;simp only[lsS,lsZ];refine wpAny_ready (rs:=[10]) (by kernel_rfl) (by simp) (qbu (i:=10) 56 rfl rfl (by rfl) (fun K hK=>?_) AllReady.nil);go_simp
          refine hK _ _ ?_;simp only[lsS,lsZ];refine wpAny_ready (rs:=[11]) (by kernel_rfl) (by simp) (qbu (i:=11) 57 rfl rfl (by rfl) (fun K hK=>?_) AllReady.nil);refine qai (qay rfl (.tmp 51) (.tmp 56) rfl wy.heap.size A7 G G.length c7 rfl rfl (qbf O7 _) ⟨w7.heap.size,0,none⟩ 1 1 [qag l k] rfl rfl (qhr (zha w7 _) rfl) (by omega) (by simp) (by have:=B7.size;simp;omega) ?_);intro A8 c8 w8 o8 g8 b8;have B8:Below wy.heap.size wy w8:=(bal B7 _).trans b8;refine hK _ _ ?_;simp only[lsS,lsZ];refine lq 12 12 (.slice A8 (G.length+1) c8) rfl (fun _=>rfl) ?_;refine wpAny_done (by kernel_rfl) ?_ _;have hO8:=qa1 hOy B8;have s8:=(qao o8).1;rw[List.length_append,List.length_singleton] at s8;have K:=qfo A8 (G++[qag l k]) (G.length+1) c8 p w8 o8.ts (by rw[List.length_append];rfl) (by unfold maxLen;omega);rw[←Hfit.out] at K;have hB8:=qaa hBy B8;cases hq:qi6 l ws p y with
          |false=>
           rw[hq] at K;have hst2:Hid (qcw (qi6 l ws p) (M-(y+1)) (y+1)=F):=by rw[Hid,←hfy.out,Hst.out,hq];rfl
           clear hq;go_wp2_with fail;refine K.mono ?_;rintro e w9 ⟨rfl,b9⟩;go_wp2_with fail;go_roundg (M-(y+1)+1)
           case measure=>omega
           case rel=>exact .inl ⟨y+1,by omega,by omega,rfl,by go_num,hst2,qaa (qaa hby B8) b9⟩
          |true=>
           rw[hq] at K;have hst2:Hid (F=some y):=by rw[Hid,←hfy.out,Hst.out,hq];rfl
           clear hq;go_wp2_with fail;refine K.mono ?_;rintro e w9 ⟨rfl,b9⟩;go_wp2_with fail;go_roundg 0
           case measure=>omega
           case rel=>exact .inr ⟨y,y+1,by omega,rfl,by go_num,by omega,by omega,hst2,qaa (qaa hby B8) b9⟩
         ·go_simp
          refine hK _ _ ?_;simp only[lsS,lsZ];refine wpAny_ready (rs:=[5]) (by kernel_rfl) (by simp) (qbu (i:=5) 51 rfl rfl (by rfl) (fun K hK=>?_) AllReady.nil);refine qai (qaz rfl 211 Tryz.func211 (by kernel_rfl) rfl _ _ rfl #[.slice (some ⟨ab,aoff,none⟩) k c,.slice (some ⟨bo,0,none⟩) k d,.int .i64 (y:Int)] (by simp[Act.eval]) (qfn (some ⟨ab,aoff,none⟩) (some ⟨bo,0,none⟩) (l.take k) ws k c d (y:Int) _ (hT.keep (bal (zdr br) _)) (hIS.keep (bal (zdr br) _)) Hlen1.out HK.out (by omega)) ?_);rintro e w7 ⟨A7,c7,rfl,o7,b7⟩;rw[HG.out] at o7⊢;have B7:Below wy.heap.size wy w7:=qaa (bal (zdr br) _) b7;have O7:OT wy.heap.size w7 A7 c7 G:=qal o7 (by first|exact zlr _|simp);have s7:=(qao o7).1;refine⟨_,rfl,hK _ _ ?_⟩;simp only[lsS,lsZ];refine wpAny_ready (rs:=[11]) (by kernel_rfl) (by simp) (qbu (i:=11) 57 rfl rfl (by rfl) (fun K hK=>?_) AllReady.nil);refine qai (qay rfl (.tmp 51) (.tmp 56) rfl wy.heap.size A7 G G.length c7 rfl rfl (O7) ⟨wy.heap.size,0,none⟩ 1 1 [qag l k] rfl rfl (qhr ((b7.block _ (by simp)).trans (zha _ _)) rfl) (by omega) (by simp) (by have:=B7.size;simp;omega) ?_);intro A8 c8 w8 o8 g8 b8;have B8:Below wy.heap.size wy w8:=B7.trans b8;refine hK _ _ ?_;simp only[lsS,lsZ];refine lq 12 12 (.slice A8 (G.length+1) c8) rfl (fun _=>rfl) ?_;refine wpAny_done (by kernel_rfl) ?_ _;have hO8:=qa1 hOy B8;have s8:=(qao o8).1;rw[List.length_append,List.length_singleton] at s8;have K:=qfo A8 (G++[qag l k]) (G.length+1) c8 p w8 o8.ts (by rw[List.length_append];rfl) (by unfold maxLen;omega);rw[←Hfit.out] at K;have hB8:=qaa hBy B8;cases hq:qi6 l ws p y with
          |false=>
           rw[hq] at K;have hst2:Hid (qcw (qi6 l ws p) (M-(y+1)) (y+1)=F):=by rw[Hid,←hfy.out,Hst.out,hq];rfl
           clear hq;go_wp2_with fail;refine K.mono ?_;rintro e w9 ⟨rfl,b9⟩;go_wp2_with fail;go_roundg (M-(y+1)+1)
           case measure=>omega
           case rel=>exact .inl ⟨y+1,by omega,by omega,rfl,by go_num,hst2,qaa (qaa hby B8) b9⟩
          |true=>
           rw[hq] at K;have hst2:Hid (F=some y):=by rw[Hid,←hfy.out,Hst.out,hq];rfl
           clear hq;go_wp2_with fail;refine K.mono ?_;rintro e w9 ⟨rfl,b9⟩;go_wp2_with fail;go_roundg 0
           case measure=>omega
           case rel=>exact .inr ⟨y,y+1,by omega,rfl,by go_num,by omega,by omega,hst2,qaa (qaa hby B8) b9⟩
       ·obtain rfl:y=M:=by omega
        have hFn:F=none:=by rw[←hfy.out,Nat.sub_self];rfl
        have hRn:R=none:=by
         have e:=HF2.out;rw[hFn] at e;exact e.symm
        have hr2:Hid (ffL l (y:Int) p=[]∧(qjc l (y:Int) p).isSome=false):=by
         have e:qjc l (y:Int) p=none:=by rw[HA.out,hRn]
         simp[Hid,ffL,e]
        clear hFn hRn;go_wp2_with fail;go_ret2;rw[hr2.out.1,hr2.out.2];exact⟨_,0,rfl,qbe _ _ hBy.size,bal hBy _⟩
      ·have hOy:=qa1 hO hby;have hBy:=qaa hb hby
       have HF3:Hid (qu3 l M p (l.length-(k+1)) (ws++[(y:Int)])=R):=by
        have e:=HF2.out;rw[hFy.out] at e;exact e
       have Hlen2:Hid ((ws++[(y:Int)]).length=k+1):=by rw[Hid,List.length_append,HK.out];rfl
       clear HF0;have y0:(0:Int)≤(y:Int):=by omega
       by_cases hz:z<M
       ·have hzi:(z:Int)<(M:Int):=by omega
        go_wp2_with (at_builtin;refine qb9 _ rfl (.tmp 65) (.tmp 67) rfl w.heap.size (some ⟨bo,0,none⟩) ws k d HK.out rfl (qa2 hOy _) wr.heap.size 1 (y:Int) _ rfl (zha wr _) (by omega) (by have:=hBy.size;simp;omega) ?_;intro A11 c11 w11 o11 b11)
        obtain⟨bo2,rfl,_,_⟩:=qe3 o11 (by rw[Hlen2.out];omega);go_roundg (l.length-(k+1))
        case measure=>omega
        case rel=>exact⟨ws++[(y:Int)],bo2,c11,by rw[Hlen2.out];omega,by rw[Hlen2.out];go_num,by rw[Hlen2.out],o11,by rw[Hlen2.out];exact HF3,(bal hBy _).trans b11⟩
       ·have hzi: ¬(z:Int)<(M:Int):=by omega
        go_wp2_with (at_builtin;refine qb9 _ rfl (.tmp 65) (.tmp 67) rfl w.heap.size (some ⟨bo,0,none⟩) ws k d HK.out rfl (qa2 hOy _) wr.heap.size 1 (y:Int) _ rfl (zha wr _) (by omega) (by have:=hBy.size;simp;omega) ?_;intro A11 c11 w11 o11 b11)
        obtain⟨bo2,rfl,_,_⟩:=qe3 o11 (by rw[Hlen2.out];omega);go_roundg (l.length-(k+1))
        case measure=>omega
        case rel=>exact⟨ws++[(y:Int)],bo2,c11,by rw[Hlen2.out];omega,by rw[Hlen2.out];go_num,by rw[Hlen2.out],o11,by rw[Hlen2.out];exact HF3,(bal hBy _).trans b11⟩
    ·obtain rfl:k=l.length:=by omega
     have hr:qjc l (M:Int) p=some ws:=by rw[HA.out,←hfk.out,Nat.sub_self];rfl
     have hr2:Hid (ffL l (M:Int) p=ws∧(qjc l (M:Int) p).isSome=true):=by simp[Hid,ffL,hr]
     clear hr;go_wp2_with fail;go_ret2;rw[hr2.out.1,hr2.out.2];exact⟨some ⟨bo,0,none⟩,d,by rw[HK.out];rfl,hO,hb⟩
end Go.Proofs.YtmkjmancmiphfaaGreatDoor
