/-
  PackFirst: the program's. (Printed by gen_packf.py.)
-/
import Derived.Test.YtmkjmancmiphfaaGreatDoorRb36
namespace Go.Proofs.YtmkjmancmiphfaaGreatDoor
set_option maxHeartbeats 8000000
set_option maxRecDepth 1000000
open Go.RowKit
theorem qs6(A:ZA)(l:List Int)(c:Nat)(w:World)(h:IS w A l)(hl:l.length≤2000000):
  Calls Tryz.prog 196 #[.slice A l.length c] w (q0a w l):=by
 have hnil:=Lib.run_eql_slice_nil (P:=Tryz.prog) (t:=27) (e:=3) (a:=A) (n:=l.length) (c:=c) (n':=0) (c':=0) (h:=Tryz.underlying27);cases A with
 |none=>
  have e:=q50 h;subst e;simp only[List.length_nil,Option.isNone_none] at hnil⊢;clear h hl;go_enter Tryz.func196,Tryz.ntmps196;go_wp2_with fail;go_ret;exact⟨none,0,rfl,qgg _ _,br⟩
 |some ad=>
  simp only[Option.isNone_some] at hnil;go_enter Tryz.func196,Tryz.ntmps196;go_wp2_with (at_builtin;refine qjl _ rfl _ _ rfl w.heap.size (some ⟨w.heap.size,0,none⟩) [] 0 rfl (qbe w _ (zlr _)) ad c l rfl (h.keep (bal br _)) (by simp) (by omega) (by simp) ?_;intro A' c' w1 o1 g1 b1;rw[List.nil_append] at o1)
  have B1:Below w.heap.size w w1:=(bal br _).trans b1;go_wp2_with fail;go_ret;exact⟨A',c',rfl,o1,B1⟩
theorem qb9(w:World){ops:Array Oper}{rest:List Oper}{o:Oper}{a:Act}{Q:Exit→Act→World→Prop}(hgd:o.guard=none)(s x:Operand)
  (ho:o.op=.call {callee:=.builtin .append,args:=#[s,x],argTypes:=#[27,27]})
  (base:Nat) (A:ZA) (l:List Int) (k c:Nat) (hk:l.length=k) (hs:a.eval s=.slice A k c) (hown:OI base w A c l)
  (b c1:Nat) (n:Int) (ty:TypeId) (hx:a.eval x=.slice (some ⟨b,0,none⟩) 1 c1) (hb:w.heap[b]? =some (.cells #[.int .i64 n] ty (0,0)))
  (hl:k≤2000000) (hbase:base≤w.heap.size)
  (h: ∀A' c' w',OI base w' A' c' (l++[n])→Below base w w'→wpList Tryz.prog ops Q rest (a.put o.dst (.slice A' (k+1) c')) w'):wpList Tryz.prog ops Q (o::rest) a w:=by
 subst hk;exact qkj w hgd s x ho base A l c hs hown b c1 n ty hx hb hl hbase (fun A' c' w' h1 _ h2=>h A' c' w' h1 h2)
theorem qnv{w:World}{b:Nat}{n:Int}{t:TypeId}(h:w.heap[b]? =some (.cells #[.int .i64 n] t (0,0))):IS w (some ⟨b,0,none⟩) [n]:=by
 intro _;refine⟨b,0,rfl,(bl h),?_⟩;intro j x hj
 have hj0:j=0:=by
  have:=(List.getElem?_eq_some_iff.1 hj).1;simp at this;exact this
 subst hj0;simp at hj;subst hj;rw[Nat.zero_add,cell_of_row w b 0 _ t (0,0) h];rfl
theorem qf7(A:ZA)(l:List Int)(n c:Nat)(w:World)(h:IS w A l)(hn:l.length=n)(hl:n≤2000000):Calls Tryz.prog 196 #[.slice A n c] w (fun e w'=> ∃A' c',e=.returned (.slice A' n c')∧OI w.heap.size w' A' c' l∧Below w.heap.size w w'):=by
 subst hn;exact qs6 A l c w h hl
theorem qd5(A B:ZA)(l:List Tk)(ws:List Int)(n c d:Nat)(p:Int)(w:World)(h:TS w A l)(g:IS w B ws)(h1:l.length=n)(h2:ws.length=n)(hl:n≤100000):
  Calls Tryz.prog 195 #[.slice A n c,.slice B n d,.int .i64 p] w (q3d w (grp l ws p)):=by
 have K:=qkg A B l ws c d p w h g (by omega) (by omega);rw[h1,h2] at K;exact K
theorem qmd(l:List Tk)(M:Nat)(p:Int)(n:Nat)(ws:List Int):qu3 l M p (n+1) ws=(qcw (qi6 l ws p) M 0).bind (fun q=>qu3 l M p n (ws++[(q:Int)])):=by
 rw[qu3];cases qcw (qi6 l ws p) M 0<;>rfl
theorem qks(A:ZA)(l:List Tk)(c:Nat)(m p:Int)(w:World)(h:TS w A l)(_hm:l.length≤maxLen)(hlc:l.length≤c):
  Calls Tryz.prog 143 #[.slice A l.length c,.int .i64 m,.int .i64 p] w (qy1 w (ffL l m p) (qjc l m p).isSome):=by
 by_cases hall:qad l=true∧1≤m∧m≤3∧(p=0∨p=1)
 case neg=>
  have hv:qjc l m p=none:=by
   have hf:(qad l&&qip m&&q4m p)=false:=by
    cases hc:(qad l&&qip m&&q4m p) with
    |false=>rfl
    |true=>
     exfalso;apply hall
     simp only[Bool.and_eq_true,qip,q4m,decide_eq_true_eq,Bool.or_eq_true,beq_iff_eq] at hc;exact⟨hc.1.1,hc.1.2.1,hc.1.2.2,hc.2⟩
   simp[qjc,hf]
  have hv2:ffL l m p=[]:=by simp[ffL,hv]
  rw[hv,hv2];clear hv hv2;have HA:=zhi hall;clear hall;cases hS:qad l with
  |false=>
   go_enter Tryz.func143,Tryz.ntmps143;go_wp2_with fail;refine(qae A l c _ h).mono ?_;rw[hS];rintro e w1 ⟨rfl,b1⟩;go_wp2_with fail;go_ret2;exact⟨none,0,rfl,qgg _ _,b1⟩
  |true=>
   have H2:Hid (¬(1≤m∧m≤3∧(p=0∨p=1))):=fun e=>HA.out ⟨hS,e⟩
   have HS:=zhi hS;clear HA hS;by_cases h1m:1≤m
   ·by_cases h3m:m≤3
    ·have hp0:(p !=0)=true:=by
      simp only[bne_iff_ne];intro e;exact H2.out ⟨h1m,h3m,.inl e⟩
     have hp1:(p !=1)=true:=by
      simp only[bne_iff_ne];intro e;exact H2.out ⟨h1m,h3m,.inr e⟩
     go_enter Tryz.func143,Tryz.ntmps143;go_wp2_with fail;refine(qae A l c _ h).mono ?_;rw[HS.out];rintro e w1 ⟨rfl,b1⟩;go_wp2_with fail;go_ret2;exact⟨none,0,rfl,qgg _ _,b1⟩
    ·go_enter Tryz.func143,Tryz.ntmps143;go_wp2_with fail;refine(qae A l c _ h).mono ?_;rw[HS.out];rintro e w1 ⟨rfl,b1⟩;go_wp2_with fail;go_ret2;exact⟨none,0,rfl,qgg _ _,b1⟩
   ·go_enter Tryz.func143,Tryz.ntmps143;go_wp2_with fail;refine(qae A l c _ h).mono ?_;rw[HS.out];rintro e w1 ⟨rfl,b1⟩;go_wp2_with fail;go_ret2;exact⟨none,0,rfl,qgg _ _,b1⟩
 case pos=>
  obtain⟨hS,h1m,h3m,hp⟩:=hall;have hl5:=(qaj hS).1;obtain⟨M,rfl⟩: ∃M:Nat,m=(M:Int):=⟨m.toNat,(Int.toNat_of_nonneg (by omega)).symm⟩;have hM:0<M:=by omega
  obtain⟨R,hR⟩: ∃R,qu3 l M p (l.length-0) []=R:=⟨_,rfl⟩
  have hany:qjc l (M:Int) p=R:=by
   have h1:qip (M:Int)=true:=by simp[qip];omega
   have h2:q4m p=true:=by rcases hp with rfl|rfl<;>rfl
   simp only[qjc,hS,h1,h2,Bool.and_self,if_true,Int.toNat_natCast];exact hR
  have HA:=zhi hany;have HR:=zhi hR;have HS:=zhi hS;clear hS hany hR
  have hp0:(p !=0)=false∨(p !=0)=true∧(p !=1)=false:=by
   rcases hp with rfl|rfl
   ·exact .inl rfl
   ·exact .inr ⟨rfl,rfl⟩
  clear hp;rcases hp0 with hq0|⟨hq0,hq1⟩
  ·go_enter Tryz.func143,Tryz.ntmps143;go_wp2_with fail;refine(qae A l c _ h).mono ?_;rw[HS.out];rintro e w1 ⟨rfl,b1⟩;go_wp2_with fail;go_loopg [8,33] l.length (fun g v i wr=> ∃(ws:List Int) (bo d:Nat),g+ws.length=l.length∧i=.int .i64 (ws.length:Int)∧v=.slice (some ⟨bo,0,none⟩) ws.length d∧OI w.heap.size wr (some ⟨bo,0,none⟩) d ws∧Hid (qu3 l M p (l.length-ws.length) ws=R)∧Below w.heap.size w wr)
   case atStart=>exact⟨[],w1.heap.size,0,by simp,rfl,rfl,qbe w1 _ b1.size,HR.out,bal b1 _⟩
   case round=>
    obtain⟨ws,bo,d,hg,rfl,rfl,hO,hfk,hb⟩:=hrel;obtain⟨wo,rfl⟩: ∃wo:World,wo=wr:=⟨_,rfl⟩;obtain⟨k,hk⟩: ∃k,ws.length=k:=⟨_,rfl⟩;have HK:=zhi hk;rw[hk] at hg hfk⊢;clear hk;have hd:k≤d:=by have:=(qao hO).1;rw[HK.out] at this;exact this
    by_cases hlt:k<l.length
    ·obtain⟨ab,aoff,rfl,_,_⟩:=h (by omega);have hfk2:=hfk.out;rw[show l.length-k=(l.length-(k+1))+1 by omega,qmd] at hfk2;obtain⟨F,hF⟩: ∃F,qcw (qi6 l ws p) (M-0) 0=F:=⟨_,rfl⟩;have hF0:=hF;rw[Nat.sub_zero] at hF0;rw[hF0] at hfk2;have HF2:=zhi hfk2;have HF0:=zhi hF;clear hF hF0 hfk2 hfk;have q0:(0:Int)≤(k:Int):=by omega
     have q1:(k:Int)<(l.length:Int):=by omega
     have q2:IntKind.i64.wrap ((k:Int)+1)=(k:Int)+1:=IntWalk.i64_in _ (by omega);have q3:((k:Int)+1).toNat=k+1:=by omega
     have q4:(0:Int)≤(k:Int)+1:=by omega
     have q5:(k:Int)+1≤(c:Int):=by omega
     go_wp2_with fail;go_loopg [10] M (fun g q wy=> ∃y:Nat,g+y=M∧q=.int .i64 (y:Int)∧Hid (qcw (qi6 l ws p) (M-y) y=F)∧Below wo.heap.size wo wy)
     case atStart=>exact⟨0,by omega,rfl,HF0.out,br⟩
     case round=>
      obtain⟨y,hgy,rfl,hfy,hby⟩:=hrel;obtain⟨wy,rfl⟩: ∃wy:World,wy=wr:=⟨_,rfl⟩;have hOy:=qa1 hO hby;have hBy:=qaa hb hby;clear HF0;by_cases hy:y<M
      ·have hst:=qfm (qi6 l ws p) M y hy;have hT:TS wy (some ⟨ab,aoff,none⟩) (l.take (k+1)):=qmn (h.keep hBy) (k+1);have hIS:IS wy (some ⟨bo,0,none⟩) ws:=hOy.is
       have hgl:(grp (l.take (k+1)) (ws++[(y:Int)]) (y:Int))=grp (l.take k) ws (y:Int)++[qag l k]:=by
        have:=qyr (l:=l) (ws:=ws) (by rw[HK.out];exact hlt) (y:Int) (y:Int);rw[HK.out] at this;simpa using this
       have hfit:qi6 l ws p y=qnm (grp (l.take (k+1)) (ws++[(y:Int)]) (y:Int)) p:=by
        rw[hgl,qi6,HK.out]
       have hGl:(grp (l.take (k+1)) (ws++[(y:Int)]) (y:Int)).length≤5:=by
        refine zll (qh7 _ _ _) ?_;rw[List.length_take];omega
       have hlen1:(l.take (k+1)).length=k+1:=by rw[List.length_take];omega
       have hlen2:(ws++[(y:Int)]).length=k+1:=by rw[List.length_append,HK.out];rfl
       have Hlen1:=zhi hlen1;have Hlen2:=zhi hlen2;have Hfit:=zhi hfit;have Hst:=zhi hst;obtain⟨G,hG⟩: ∃G,grp (l.take (k+1)) (ws++[(y:Int)]) (y:Int)=G:=⟨_,rfl⟩;rw[hG] at hGl;have HG:=zhi hG;clear hst hgl hfit hG hlen1 hlen2;have hyM:(y:Int)<(M:Int):=by omega
       go_wp2_with fail;cases hq:qi6 l ws p y with
       |false=>
        have hc:qnm G p=false:=by rw[←HG.out,←Hfit.out,hq]
        have hst2:Hid (qcw (qi6 l ws p) (M-(y+1)) (y+1)=F):=by rw[Hid,←hfy.out,Hst.out,hq];rfl
        have HC:=zhi hc;clear hq hc;refine wp_region_any (by kernel_rfl) ?_;refine lq 0 36 (.int .i64 (y:Int)) rfl (fun _=>rfl) ?_;refine lq 1 37 (.int .i64 (M:Int)) rfl (fun _=>rfl) ?_;refine lq 2 38 (.bool true) rfl (fun w=>by go_simp) ?_;refine lq 3 39 (.bool true) rfl (fun _=>rfl) ?_;refine lq 4 40 (.slice (some ⟨ab,aoff,none⟩) l.length c) rfl (fun _=>rfl) ?_;refine lq 5 41 (.int .i64 (k:Int)) rfl (fun _=>rfl) ?_;refine lq 6 42 (.int .i64 ((k:Int)+1)) rfl (fun w=>by go_simp) ?_;refine lq 7 43 (.slice (some ⟨ab,aoff,none⟩) (k+1) c) rfl (fun w=>by go_simp) ?_;refine lq 8 44 (.slice (some ⟨bo,0,none⟩) k d) rfl (fun _=>rfl) ?_;refine lq 10 46 (.int .i64 (y:Int)) rfl (fun _=>rfl) ?_;refine lq 13 49 (.int .i64 (y:Int)) rfl (fun _=>rfl) ?_;refine lq 15 51 (.int .i64 p) rfl (fun _=>rfl) ?_;refine wpAny_ready (rs:=[9,11]) (by kernel_rfl) (by simp) (qbu (i:=9) 45 rfl rfl (by rfl) (fun K hK=>?_) (qbu (i:=11) 47 rfl rfl (by rfl) (fun K hK=>?_) AllReady.nil))
        ·refine qai (qaz rfl 196 Tryz.func196 (by kernel_rfl) rfl _ _ rfl #[.slice (some ⟨bo,0,none⟩) k d] (by simp[Act.eval]) (qf7 (some ⟨bo,0,none⟩) ws k d _ (hIS.keep (zdr br)) HK.out (by omega)) ?_);rintro e w7 ⟨A7,c7,rfl,o7,b7⟩;have B7:Below wy.heap.size wy w7:=qaa (zdr br) b7;have O7:OI wy.heap.size w7 A7 c7 ws:=qal o7 (by first|exact zlr _|simp);refine⟨_,rfl,hK _ _ ?_⟩;simp only[lsS,lsZ];refine wpAny_ready (rs:=[11]) (by kernel_rfl) (by simp) (qbu (i:=11) 47 rfl rfl (by rfl) (fun K hK=>?_) AllReady.nil);go_simp
         refine hK _ _ ?_;simp only[lsS,lsZ];refine wpAny_ready (rs:=[12]) (by kernel_rfl) (by simp) (qbu (i:=12) 48 rfl rfl (by rfl) (fun K hK=>?_) AllReady.nil);refine qai (qb4 rfl (.tmp 45) (.tmp 47) rfl wy.heap.size A7 ws k c7 HK.out rfl (qa2 O7 _) ⟨w7.heap.size,0,none⟩ 1 1 [(y:Int)] rfl rfl (qnv (zha w7 _)) (by rw[HK.out];omega) (by simp) (by have:=B7.size;simp;omega) ?_);intro A8 c8 w8 o8 g8 b8;have B8:Below wy.heap.size wy w8:=(bal B7 _).trans b8;refine hK _ _ ?_;simp only[lsS,lsZ];refine wpAny_ready (rs:=[14]) (by kernel_rfl) (by simp) (qbu (i:=14) 50 rfl rfl (by rfl) (fun K hK=>?_) AllReady.nil);refine qai (qaz rfl 195 Tryz.func195 (by kernel_rfl) rfl _ _ rfl #[.slice (some ⟨ab,aoff,none⟩) (k+1) c,.slice A8 (k+1) c8,.int .i64 (y:Int)] (by simp[Act.eval]) (qd5 (some ⟨ab,aoff,none⟩) A8 (l.take (k+1)) (ws++[(y:Int)]) (k+1) c c8 (y:Int) _ (hT.keep B8) o8.is Hlen1.out Hlen2.out (by omega)) ?_);rintro e w9 ⟨A9,c9,rfl,o9,b9⟩;rw[HG.out] at o9⊢;have B9:Below wy.heap.size wy w9:=qaa B8 b9;have s9:=(qao o9).1;refine⟨_,rfl,hK _ _ ?_⟩;simp only[lsS,lsZ];refine wpAny_ready (rs:=[16]) (by kernel_rfl) (by simp) (qbu (i:=16) 52 rfl rfl (by rfl) (fun K hK=>?_) AllReady.nil);refine qai (qaz rfl 194 Tryz.func194 (by kernel_rfl) rfl _ _ rfl #[.slice A9 G.length c9,.int .i64 p] (by simp[Act.eval]) (qch A9 G c9 p _ o9.ts (by unfold maxLen;omega) s9) ?_);rw[HC.out];rintro e w10 ⟨rfl,b10⟩;have B10:Below wy.heap.size wy w10:=qaa B9 b10;refine⟨_,rfl,hK _ _ ?_⟩;simp only[lsS,lsZ];refine lq 17 53 (.bool true) rfl (fun _=>rfl) ?_;refine lq 18 54 (.bool true) rfl (fun _=>rfl) ?_;refine wpAny_done (by kernel_rfl) ?_ _;go_wp2_with fail;go_roundg (M-(y+1))
         case measure=>omega
         case rel=>exact⟨y+1,by omega,by go_num,hst2,qaa hby B10⟩
        ·go_simp
         refine hK _ _ ?_;simp only[lsS,lsZ];refine wpAny_ready (rs:=[9]) (by kernel_rfl) (by simp) (qbu (i:=9) 45 rfl rfl (by rfl) (fun K hK=>?_) AllReady.nil);refine qai (qaz rfl 196 Tryz.func196 (by kernel_rfl) rfl _ _ rfl #[.slice (some ⟨bo,0,none⟩) k d] (by simp[Act.eval]) (qf7 (some ⟨bo,0,none⟩) ws k d _ (hIS.keep (bal (zdr br) _)) HK.out (by omega)) ?_);rintro e w7 ⟨A7,c7,rfl,o7,b7⟩;have B7:Below wy.heap.size wy w7:=qaa (bal (zdr br) _) b7;have O7:OI wy.heap.size w7 A7 c7 ws:=qal o7 (by first|exact zlr _|simp);refine⟨_,rfl,hK _ _ ?_⟩;simp only[lsS,lsZ];refine wpAny_ready (rs:=[12]) (by kernel_rfl) (by simp) (qbu (i:=12) 48 rfl rfl (by rfl) (fun K hK=>?_) AllReady.nil);refine qai (qb4 rfl (.tmp 45) (.tmp 47) rfl wy.heap.size A7 ws k c7 HK.out rfl (O7) ⟨wy.heap.size,0,none⟩ 1 1 [(y:Int)] rfl rfl (qnv ((b7.block _ (by simp)).trans (zha _ _))) (by rw[HK.out];omega) (by simp) (by have:=B7.size;simp;omega) ?_);intro A8 c8 w8 o8 g8 b8;have B8:Below wy.heap.size wy w8:=B7.trans b8;refine hK _ _ ?_;simp only[lsS,lsZ];refine wpAny_ready (rs:=[14]) (by kernel_rfl) (by simp) (qbu (i:=14) 50 rfl rfl (by rfl) (fun K hK=>?_) AllReady.nil);refine qai (qaz rfl 195 Tryz.func195 (by kernel_rfl) rfl _ _ rfl #[.slice (some ⟨ab,aoff,none⟩) (k+1) c,.slice A8 (k+1) c8,.int .i64 (y:Int)] (by simp[Act.eval]) (qd5 (some ⟨ab,aoff,none⟩) A8 (l.take (k+1)) (ws++[(y:Int)]) (k+1) c c8 (y:Int) _ (hT.keep B8) o8.is Hlen1.out Hlen2.out (by omega)) ?_);rintro e w9 ⟨A9,c9,rfl,o9,b9⟩;rw[HG.out] at o9⊢;have B9:Below wy.heap.size wy w9:=qaa B8 b9;have s9:=(qao o9).1;refine⟨_,rfl,hK _ _ ?_⟩;simp only[lsS,lsZ];refine wpAny_ready (rs:=[16]) (by kernel_rfl) (by simp) (qbu (i:=16) 52 rfl rfl (by rfl) (fun K hK=>?_) AllReady.nil);refine qai (qaz rfl 194 Tryz.func194 (by kernel_rfl) rfl _ _ rfl #[.slice A9 G.length c9,.int .i64 p] (by simp[Act.eval]) (qch A9 G c9 p _ o9.ts (by unfold maxLen;omega) s9) ?_);rw[HC.out];rintro e w10 ⟨rfl,b10⟩;have B10:Below wy.heap.size wy w10:=qaa B9 b10;refine⟨_,rfl,hK _ _ ?_⟩;simp only[lsS,lsZ];refine lq 17 53 (.bool true) rfl (fun _=>rfl) ?_;refine lq 18 54 (.bool true) rfl (fun _=>rfl) ?_;refine wpAny_done (by kernel_rfl) ?_ _;go_wp2_with fail;go_roundg (M-(y+1))
         case measure=>omega
         case rel=>exact⟨y+1,by omega,by go_num,hst2,qaa hby B10⟩
       |true=>
        have hc:qnm G p=true:=by rw[←HG.out,←Hfit.out,hq]
        have hst2:Hid (F=some y):=by rw[Hid,←hfy.out,Hst.out,hq];rfl
        have HC:=zhi hc;clear hq hc;refine wp_region_any (by kernel_rfl) ?_;refine lq 0 36 (.int .i64 (y:Int)) rfl (fun _=>rfl) ?_;refine lq 1 37 (.int .i64 (M:Int)) rfl (fun _=>rfl) ?_;refine lq 2 38 (.bool true) rfl (fun w=>by go_simp) ?_;refine lq 3 39 (.bool true) rfl (fun _=>rfl) ?_;refine lq 4 40 (.slice (some ⟨ab,aoff,none⟩) l.length c) rfl (fun _=>rfl) ?_;refine lq 5 41 (.int .i64 (k:Int)) rfl (fun _=>rfl) ?_;refine lq 6 42 (.int .i64 ((k:Int)+1)) rfl (fun w=>by go_simp) ?_;refine lq 7 43 (.slice (some ⟨ab,aoff,none⟩) (k+1) c) rfl (fun w=>by go_simp) ?_;refine lq 8 44 (.slice (some ⟨bo,0,none⟩) k d) rfl (fun _=>rfl) ?_;refine lq 10 46 (.int .i64 (y:Int)) rfl (fun _=>rfl) ?_;refine lq 13 49 (.int .i64 (y:Int)) rfl (fun _=>rfl) ?_;refine lq 15 51 (.int .i64 p) rfl (fun _=>rfl) ?_;refine wpAny_ready (rs:=[9,11]) (by kernel_rfl) (by simp) (qbu (i:=9) 45 rfl rfl (by rfl) (fun K hK=>?_) (qbu (i:=11) 47 rfl rfl (by rfl) (fun K hK=>?_) AllReady.nil))
        ·refine qai (qaz rfl 196 Tryz.func196 (by kernel_rfl) rfl _ _ rfl #[.slice (some ⟨bo,0,none⟩) k d] (by simp[Act.eval]) (qf7 (some ⟨bo,0,none⟩) ws k d _ (hIS.keep (zdr br)) HK.out (by omega)) ?_);rintro e w7 ⟨A7,c7,rfl,o7,b7⟩;have B7:Below wy.heap.size wy w7:=qaa (zdr br) b7;have O7:OI wy.heap.size w7 A7 c7 ws:=qal o7 (by first|exact zlr _|simp);refine⟨_,rfl,hK _ _ ?_⟩;simp only[lsS,lsZ];refine wpAny_ready (rs:=[11]) (by kernel_rfl) (by simp) (qbu (i:=11) 47 rfl rfl (by rfl) (fun K hK=>?_) AllReady.nil);go_simp
         refine hK _ _ ?_;simp only[lsS,lsZ];refine wpAny_ready (rs:=[12]) (by kernel_rfl) (by simp) (qbu (i:=12) 48 rfl rfl (by rfl) (fun K hK=>?_) AllReady.nil);refine qai (qb4 rfl (.tmp 45) (.tmp 47) rfl wy.heap.size A7 ws k c7 HK.out rfl (qa2 O7 _) ⟨w7.heap.size,0,none⟩ 1 1 [(y:Int)] rfl rfl (qnv (zha w7 _)) (by rw[HK.out];omega) (by simp) (by have:=B7.size;simp;omega) ?_);intro A8 c8 w8 o8 g8 b8;have B8:Below wy.heap.size wy w8:=(bal B7 _).trans b8;refine hK _ _ ?_;simp only[lsS,lsZ];refine wpAny_ready (rs:=[14]) (by kernel_rfl) (by simp) (qbu (i:=14) 50 rfl rfl (by rfl) (fun K hK=>?_) AllReady.nil);refine qai (qaz rfl 195 Tryz.func195 (by kernel_rfl) rfl _ _ rfl #[.slice (some ⟨ab,aoff,none⟩) (k+1) c,.slice A8 (k+1) c8,.int .i64 (y:Int)] (by simp[Act.eval]) (qd5 (some ⟨ab,aoff,none⟩) A8 (l.take (k+1)) (ws++[(y:Int)]) (k+1) c c8 (y:Int) _ (hT.keep B8) o8.is Hlen1.out Hlen2.out (by omega)) ?_);rintro e w9 ⟨A9,c9,rfl,o9,b9⟩;rw[HG.out] at o9⊢;have B9:Below wy.heap.size wy w9:=qaa B8 b9;have s9:=(qao o9).1;refine⟨_,rfl,hK _ _ ?_⟩;simp only[lsS,lsZ];refine wpAny_ready (rs:=[16]) (by kernel_rfl) (by simp) (qbu (i:=16) 52 rfl rfl (by rfl) (fun K hK=>?_) AllReady.nil);refine qai (qaz rfl 194 Tryz.func194 (by kernel_rfl) rfl _ _ rfl #[.slice A9 G.length c9,.int .i64 p] (by simp[Act.eval]) (qch A9 G c9 p _ o9.ts (by unfold maxLen;omega) s9) ?_);rw[HC.out];rintro e w10 ⟨rfl,b10⟩;have B10:Below wy.heap.size wy w10:=qaa B9 b10;refine⟨_,rfl,hK _ _ ?_⟩;simp only[lsS,lsZ];refine lq 17 53 (.bool false) rfl (fun _=>rfl) ?_;refine lq 18 54 (.bool false) rfl (fun _=>rfl) ?_;refine wpAny_done (by kernel_rfl) ?_ _;have hO10:=qa1 hOy B10
         have HF3:Hid (qu3 l M p (l.length-(k+1)) (ws++[(y:Int)])=R):=by
          have e:=HF2.out;rw[hst2.out] at e;exact e
         have qne:((y:Int)==(M:Int))=false:=beq_eq_false_iff_ne.2 (by omega);have hB10:=qaa hBy B10;go_wp2_with (at_builtin;refine qb9 _ rfl (.tmp 60) (.tmp 62) rfl w.heap.size (some ⟨bo,0,none⟩) ws k d HK.out rfl (qa2 hO10 _) w10.heap.size 1 (y:Int) _ rfl (zha w10 _) (by omega) (by have:=hB10.size;simp;omega) ?_;intro A11 c11 w11 o11 b11)
         obtain⟨bo2,rfl,_,_⟩:=qe3 o11 (by rw[Hlen2.out];omega);go_roundg (l.length-(k+1))
         case measure=>omega
         case rel=>exact⟨ws++[(y:Int)],bo2,c11,by rw[Hlen2.out];omega,by rw[Hlen2.out];go_num,by rw[Hlen2.out],o11,by rw[Hlen2.out];exact HF3,(bal hB10 _).trans b11⟩
        ·go_simp
         refine hK _ _ ?_;simp only[lsS,lsZ];refine wpAny_ready (rs:=[9]) (by kernel_rfl) (by simp) (qbu (i:=9) 45 rfl rfl (by rfl) (fun K hK=>?_) AllReady.nil);refine qai (qaz rfl 196 Tryz.func196 (by kernel_rfl) rfl _ _ rfl #[.slice (some ⟨bo,0,none⟩) k d] (by simp[Act.eval]) (qf7 (some ⟨bo,0,none⟩) ws k d _ (hIS.keep (bal (zdr br) _)) HK.out (by omega)) ?_);rintro e w7 ⟨A7,c7,rfl,o7,b7⟩;have B7:Below wy.heap.size wy w7:=qaa (bal (zdr br) _) b7;have O7:OI wy.heap.size w7 A7 c7 ws:=qal o7 (by first|exact zlr _|simp);refine⟨_,rfl,hK _ _ ?_⟩;simp only[lsS,lsZ];refine wpAny_ready (rs:=[12]) (by kernel_rfl) (by simp) (qbu (i:=12) 48 rfl rfl (by rfl) (fun K hK=>?_) AllReady.nil);refine qai (qb4 rfl (.tmp 45) (.tmp 47) rfl wy.heap.size A7 ws k c7 HK.out rfl (O7) ⟨wy.heap.size,0,none⟩ 1 1 [(y:Int)] rfl rfl (qnv ((b7.block _ (by simp)).trans (zha _ _))) (by rw[HK.out];omega) (by simp) (by have:=B7.size;simp;omega) ?_);intro A8 c8 w8 o8 g8 b8;have B8:Below wy.heap.size wy w8:=B7.trans b8;refine hK _ _ ?_;simp only[lsS,lsZ];refine wpAny_ready (rs:=[14]) (by kernel_rfl) (by simp) (qbu (i:=14) 50 rfl rfl (by rfl) (fun K hK=>?_) AllReady.nil);refine qai (qaz rfl 195 Tryz.func195 (by kernel_rfl) rfl _ _ rfl #[.slice (some ⟨ab,aoff,none⟩) (k+1) c,.slice A8 (k+1) c8,.int .i64 (y:Int)] (by simp[Act.eval]) (qd5 (some ⟨ab,aoff,none⟩) A8 (l.take (k+1)) (ws++[(y:Int)]) (k+1) c c8 (y:Int) _ (hT.keep B8) o8.is Hlen1.out Hlen2.out (by omega)) ?_);rintro e w9 ⟨A9,c9,rfl,o9,b9⟩;rw[HG.out] at o9⊢;have B9:Below wy.heap.size wy w9:=qaa B8 b9;have s9:=(qao o9).1;refine⟨_,rfl,hK _ _ ?_⟩;simp only[lsS,lsZ];refine wpAny_ready (rs:=[16]) (by kernel_rfl) (by simp) (qbu (i:=16) 52 rfl rfl (by rfl) (fun K hK=>?_) AllReady.nil);refine qai (qaz rfl 194 Tryz.func194 (by kernel_rfl) rfl _ _ rfl #[.slice A9 G.length c9,.int .i64 p] (by simp[Act.eval]) (qch A9 G c9 p _ o9.ts (by unfold maxLen;omega) s9) ?_);rw[HC.out];rintro e w10 ⟨rfl,b10⟩;have B10:Below wy.heap.size wy w10:=qaa B9 b10;refine⟨_,rfl,hK _ _ ?_⟩;simp only[lsS,lsZ];refine lq 17 53 (.bool false) rfl (fun _=>rfl) ?_;refine lq 18 54 (.bool false) rfl (fun _=>rfl) ?_;refine wpAny_done (by kernel_rfl) ?_ _;have hO10:=qa1 hOy B10
         have HF3:Hid (qu3 l M p (l.length-(k+1)) (ws++[(y:Int)])=R):=by
          have e:=HF2.out;rw[hst2.out] at e;exact e
         have qne:((y:Int)==(M:Int))=false:=beq_eq_false_iff_ne.2 (by omega);have hB10:=qaa hBy B10;go_wp2_with (at_builtin;refine qb9 _ rfl (.tmp 60) (.tmp 62) rfl w.heap.size (some ⟨bo,0,none⟩) ws k d HK.out rfl (qa2 hO10 _) w10.heap.size 1 (y:Int) _ rfl (zha w10 _) (by omega) (by have:=hB10.size;simp;omega) ?_;intro A11 c11 w11 o11 b11)
         obtain⟨bo2,rfl,_,_⟩:=qe3 o11 (by rw[Hlen2.out];omega);go_roundg (l.length-(k+1))
         case measure=>omega
         case rel=>exact⟨ws++[(y:Int)],bo2,c11,by rw[Hlen2.out];omega,by rw[Hlen2.out];go_num,by rw[Hlen2.out],o11,by rw[Hlen2.out];exact HF3,(bal hB10 _).trans b11⟩
      ·obtain rfl:y=M:=by omega
       have hFn:F=none:=by rw[←hfy.out,Nat.sub_self];rfl
       have hRn:R=none:=by
        have e:=HF2.out;rw[hFn] at e;exact e.symm
       have hr2:Hid (ffL l (y:Int) p=[]∧(qjc l (y:Int) p).isSome=false):=by
        have e:qjc l (y:Int) p=none:=by rw[HA.out,hRn]
        simp[Hid,ffL,e]
       clear hFn hRn;go_wp2_with fail;refine wp_region_any (by kernel_rfl) ?_;refine lq 0 36 (.int .i64 (y:Int)) rfl (fun _=>rfl) ?_;refine lq 1 37 (.int .i64 (y:Int)) rfl (fun _=>rfl) ?_;refine lq 2 38 (.bool false) rfl (fun w=>by go_simp) ?_;refine lq 3 39 (.bool false) rfl (fun _=>rfl) ?_;refine qe1 (i:=4) 40 (undef) rfl rfl (by kernel_rfl) (by kernel_rfl) (by kernel_rfl) (fun _ _ _ h=>h) (.inr ⟨by rfl,rfl⟩) ?_;simp only[lsS,lsZ];refine qe1 (i:=5) 41 (undef) rfl rfl (by kernel_rfl) (by kernel_rfl) (by kernel_rfl) (fun _ _ _ h=>h) (.inr ⟨by rfl,rfl⟩) ?_;simp only[lsS,lsZ];refine qe1 (i:=6) 42 (undef) rfl rfl (by kernel_rfl) (by kernel_rfl) (by kernel_rfl) (fun _ _ _ h=>h) (.inr ⟨by rfl,rfl⟩) ?_;simp only[lsS,lsZ];refine qe1 (i:=7) 43 (undef) rfl rfl (by kernel_rfl) (by kernel_rfl) (by kernel_rfl) (fun _ _ _ h=>h) (.inr ⟨by rfl,rfl⟩) ?_;simp only[lsS,lsZ];refine qe1 (i:=8) 44 (undef) rfl rfl (by kernel_rfl) (by kernel_rfl) (by kernel_rfl) (fun _ _ _ h=>h) (.inr ⟨by rfl,rfl⟩) ?_;simp only[lsS,lsZ];refine qe1 (i:=9) 45 (undef) rfl rfl (by kernel_rfl) (by kernel_rfl) (by kernel_rfl) (fun _ _ _ h=>h) (.inr ⟨by rfl,rfl⟩) ?_;simp only[lsS,lsZ];refine qe1 (i:=10) 46 (undef) rfl rfl (by kernel_rfl) (by kernel_rfl) (by kernel_rfl) (fun _ _ _ h=>h) (.inr ⟨by rfl,rfl⟩) ?_;simp only[lsS,lsZ];refine qe1 (i:=11) 47 (undef) rfl rfl (by kernel_rfl) (by kernel_rfl) (by kernel_rfl) (fun _ _ _ h=>h) (.inr ⟨by rfl,rfl⟩) ?_;simp only[lsS,lsZ];refine qe1 (i:=12) 48 (undef) rfl rfl (by kernel_rfl) (by kernel_rfl) (by kernel_rfl) (fun _ _ _ h=>h) (.inr ⟨by rfl,rfl⟩) ?_;simp only[lsS,lsZ];refine qe1 (i:=13) 49 (undef) rfl rfl (by kernel_rfl) (by kernel_rfl) (by kernel_rfl) (fun _ _ _ h=>h) (.inr ⟨by rfl,rfl⟩) ?_;simp only[lsS,lsZ];refine qe1 (i:=14) 50 (undef) rfl rfl (by kernel_rfl) (by kernel_rfl) (by kernel_rfl) (fun _ _ _ h=>h) (.inr ⟨by rfl,rfl⟩) ?_;simp only[lsS,lsZ];refine qe1 (i:=15) 51 (undef) rfl rfl (by kernel_rfl) (by kernel_rfl) (by kernel_rfl) (fun _ _ _ h=>h) (.inr ⟨by rfl,rfl⟩) ?_;simp only[lsS,lsZ];refine qe1 (i:=16) 52 (undef) rfl rfl (by kernel_rfl) (by kernel_rfl) (by kernel_rfl) (fun _ _ _ h=>h) (.inr ⟨by rfl,rfl⟩) ?_;simp only[lsS,lsZ];refine qe1 (i:=17) 53 (undef) rfl rfl (by kernel_rfl) (by kernel_rfl) (by kernel_rfl) (fun _ _ _ h=>h) (.inr ⟨by rfl,rfl⟩) ?_;simp only[lsS,lsZ];refine lq 18 54 (.bool false) rfl (fun _=>rfl) ?_;refine wpAny_done (by kernel_rfl) ?_ _;go_wp2_with fail;go_ret2;rw[hr2.out.1,hr2.out.2];exact⟨none,0,rfl,qgg _ _,bdr hBy _⟩
    ·obtain rfl:k=l.length:=by omega
     have hr:qjc l (M:Int) p=some ws:=by rw[HA.out,←hfk.out,Nat.sub_self];rfl
     have hr2:Hid (ffL l (M:Int) p=ws∧(qjc l (M:Int) p).isSome=true):=by simp[Hid,ffL,hr]
     clear hr;go_wp2_with fail;go_ret2;rw[hr2.out.1,hr2.out.2];exact⟨some ⟨bo,0,none⟩,d,by rw[HK.out];rfl,hO,hb⟩
  ·go_enter Tryz.func143,Tryz.ntmps143;go_wp2_with fail;refine(qae A l c _ h).mono ?_;rw[HS.out];rintro e w1 ⟨rfl,b1⟩;go_wp2_with fail;go_loopg [8,33] l.length (fun g v i wr=> ∃(ws:List Int) (bo d:Nat),g+ws.length=l.length∧i=.int .i64 (ws.length:Int)∧v=.slice (some ⟨bo,0,none⟩) ws.length d∧OI w.heap.size wr (some ⟨bo,0,none⟩) d ws∧Hid (qu3 l M p (l.length-ws.length) ws=R)∧Below w.heap.size w wr)
   case atStart=>exact⟨[],w1.heap.size,0,by simp,rfl,rfl,qbe w1 _ b1.size,HR.out,bal b1 _⟩
   case round=>
    obtain⟨ws,bo,d,hg,rfl,rfl,hO,hfk,hb⟩:=hrel;obtain⟨wo,rfl⟩: ∃wo:World,wo=wr:=⟨_,rfl⟩;obtain⟨k,hk⟩: ∃k,ws.length=k:=⟨_,rfl⟩;have HK:=zhi hk;rw[hk] at hg hfk⊢;clear hk;have hd:k≤d:=by have:=(qao hO).1;rw[HK.out] at this;exact this
    by_cases hlt:k<l.length
    ·obtain⟨ab,aoff,rfl,_,_⟩:=h (by omega);have hfk2:=hfk.out;rw[show l.length-k=(l.length-(k+1))+1 by omega,qmd] at hfk2;obtain⟨F,hF⟩: ∃F,qcw (qi6 l ws p) (M-0) 0=F:=⟨_,rfl⟩;have hF0:=hF;rw[Nat.sub_zero] at hF0;rw[hF0] at hfk2;have HF2:=zhi hfk2;have HF0:=zhi hF;clear hF hF0 hfk2 hfk;have q0:(0:Int)≤(k:Int):=by omega
     have q1:(k:Int)<(l.length:Int):=by omega
     have q2:IntKind.i64.wrap ((k:Int)+1)=(k:Int)+1:=IntWalk.i64_in _ (by omega);have q3:((k:Int)+1).toNat=k+1:=by omega
     have q4:(0:Int)≤(k:Int)+1:=by omega
     have q5:(k:Int)+1≤(c:Int):=by omega
     go_wp2_with fail;go_loopg [10] M (fun g q wy=> ∃y:Nat,g+y=M∧q=.int .i64 (y:Int)∧Hid (qcw (qi6 l ws p) (M-y) y=F)∧Below wo.heap.size wo wy)
     case atStart=>exact⟨0,by omega,rfl,HF0.out,br⟩
     case round=>
      obtain⟨y,hgy,rfl,hfy,hby⟩:=hrel;obtain⟨wy,rfl⟩: ∃wy:World,wy=wr:=⟨_,rfl⟩;have hOy:=qa1 hO hby;have hBy:=qaa hb hby;clear HF0;by_cases hy:y<M
      ·have hst:=qfm (qi6 l ws p) M y hy;have hT:TS wy (some ⟨ab,aoff,none⟩) (l.take (k+1)):=qmn (h.keep hBy) (k+1);have hIS:IS wy (some ⟨bo,0,none⟩) ws:=hOy.is
       have hgl:(grp (l.take (k+1)) (ws++[(y:Int)]) (y:Int))=grp (l.take k) ws (y:Int)++[qag l k]:=by
        have:=qyr (l:=l) (ws:=ws) (by rw[HK.out];exact hlt) (y:Int) (y:Int);rw[HK.out] at this;simpa using this
       have hfit:qi6 l ws p y=qnm (grp (l.take (k+1)) (ws++[(y:Int)]) (y:Int)) p:=by
        rw[hgl,qi6,HK.out]
       have hGl:(grp (l.take (k+1)) (ws++[(y:Int)]) (y:Int)).length≤5:=by
        refine zll (qh7 _ _ _) ?_;rw[List.length_take];omega
       have hlen1:(l.take (k+1)).length=k+1:=by rw[List.length_take];omega
       have hlen2:(ws++[(y:Int)]).length=k+1:=by rw[List.length_append,HK.out];rfl
       have Hlen1:=zhi hlen1;have Hlen2:=zhi hlen2;have Hfit:=zhi hfit;have Hst:=zhi hst;obtain⟨G,hG⟩: ∃G,grp (l.take (k+1)) (ws++[(y:Int)]) (y:Int)=G:=⟨_,rfl⟩;rw[hG] at hGl;have HG:=zhi hG;clear hst hgl hfit hG hlen1 hlen2;have hyM:(y:Int)<(M:Int):=by omega
       go_wp2_with fail;cases hq:qi6 l ws p y with
       |false=>
        have hc:qnm G p=false:=by rw[←HG.out,←Hfit.out,hq]
        have hst2:Hid (qcw (qi6 l ws p) (M-(y+1)) (y+1)=F):=by rw[Hid,←hfy.out,Hst.out,hq];rfl
        have HC:=zhi hc;clear hq hc;refine wp_region_any (by kernel_rfl) ?_;refine lq 0 36 (.int .i64 (y:Int)) rfl (fun _=>rfl) ?_;refine lq 1 37 (.int .i64 (M:Int)) rfl (fun _=>rfl) ?_;refine lq 2 38 (.bool true) rfl (fun w=>by go_simp) ?_;refine lq 3 39 (.bool true) rfl (fun _=>rfl) ?_;refine lq 4 40 (.slice (some ⟨ab,aoff,none⟩) l.length c) rfl (fun _=>rfl) ?_;refine lq 5 41 (.int .i64 (k:Int)) rfl (fun _=>rfl) ?_;refine lq 6 42 (.int .i64 ((k:Int)+1)) rfl (fun w=>by go_simp) ?_;refine lq 7 43 (.slice (some ⟨ab,aoff,none⟩) (k+1) c) rfl (fun w=>by go_simp) ?_;refine lq 8 44 (.slice (some ⟨bo,0,none⟩) k d) rfl (fun _=>rfl) ?_;refine lq 10 46 (.int .i64 (y:Int)) rfl (fun _=>rfl) ?_;refine lq 13 49 (.int .i64 (y:Int)) rfl (fun _=>rfl) ?_;refine lq 15 51 (.int .i64 p) rfl (fun _=>rfl) ?_;refine wpAny_ready (rs:=[9,11]) (by kernel_rfl) (by simp) (qbu (i:=9) 45 rfl rfl (by rfl) (fun K hK=>?_) (qbu (i:=11) 47 rfl rfl (by rfl) (fun K hK=>?_) AllReady.nil))
        ·refine qai (qaz rfl 196 Tryz.func196 (by kernel_rfl) rfl _ _ rfl #[.slice (some ⟨bo,0,none⟩) k d] (by simp[Act.eval]) (qf7 (some ⟨bo,0,none⟩) ws k d _ (hIS.keep (zdr br)) HK.out (by omega)) ?_);rintro e w7 ⟨A7,c7,rfl,o7,b7⟩;have B7:Below wy.heap.size wy w7:=qaa (zdr br) b7;have O7:OI wy.heap.size w7 A7 c7 ws:=qal o7 (by first|exact zlr _|simp);refine⟨_,rfl,hK _ _ ?_⟩;simp only[lsS,lsZ];refine wpAny_ready (rs:=[11]) (by kernel_rfl) (by simp) (qbu (i:=11) 47 rfl rfl (by rfl) (fun K hK=>?_) AllReady.nil);go_simp
         refine hK _ _ ?_;simp only[lsS,lsZ];refine wpAny_ready (rs:=[12]) (by kernel_rfl) (by simp) (qbu (i:=12) 48 rfl rfl (by rfl) (fun K hK=>?_) AllReady.nil);refine qai (qb4 rfl (.tmp 45) (.tmp 47) rfl wy.heap.size A7 ws k c7 HK.out rfl (qa2 O7 _) ⟨w7.heap.size,0,none⟩ 1 1 [(y:Int)] rfl rfl (qnv (zha w7 _)) (by rw[HK.out];omega) (by simp) (by have:=B7.size;simp;omega) ?_);intro A8 c8 w8 o8 g8 b8;have B8:Below wy.heap.size wy w8:=(bal B7 _).trans b8;refine hK _ _ ?_;simp only[lsS,lsZ];refine wpAny_ready (rs:=[14]) (by kernel_rfl) (by simp) (qbu (i:=14) 50 rfl rfl (by rfl) (fun K hK=>?_) AllReady.nil);refine qai (qaz rfl 195 Tryz.func195 (by kernel_rfl) rfl _ _ rfl #[.slice (some ⟨ab,aoff,none⟩) (k+1) c,.slice A8 (k+1) c8,.int .i64 (y:Int)] (by simp[Act.eval]) (qd5 (some ⟨ab,aoff,none⟩) A8 (l.take (k+1)) (ws++[(y:Int)]) (k+1) c c8 (y:Int) _ (hT.keep B8) o8.is Hlen1.out Hlen2.out (by omega)) ?_);rintro e w9 ⟨A9,c9,rfl,o9,b9⟩;rw[HG.out] at o9⊢;have B9:Below wy.heap.size wy w9:=qaa B8 b9;have s9:=(qao o9).1;refine⟨_,rfl,hK _ _ ?_⟩;simp only[lsS,lsZ];refine wpAny_ready (rs:=[16]) (by kernel_rfl) (by simp) (qbu (i:=16) 52 rfl rfl (by rfl) (fun K hK=>?_) AllReady.nil);refine qai (qaz rfl 194 Tryz.func194 (by kernel_rfl) rfl _ _ rfl #[.slice A9 G.length c9,.int .i64 p] (by simp[Act.eval]) (qch A9 G c9 p _ o9.ts (by unfold maxLen;omega) s9) ?_);rw[HC.out];rintro e w10 ⟨rfl,b10⟩;have B10:Below wy.heap.size wy w10:=qaa B9 b10;refine⟨_,rfl,hK _ _ ?_⟩;simp only[lsS,lsZ];refine lq 17 53 (.bool true) rfl (fun _=>rfl) ?_;refine lq 18 54 (.bool true) rfl (fun _=>rfl) ?_;refine wpAny_done (by kernel_rfl) ?_ _;go_wp2_with fail;go_roundg (M-(y+1))
         case measure=>omega
         case rel=>exact⟨y+1,by omega,by go_num,hst2,qaa hby B10⟩
        ·go_simp
         refine hK _ _ ?_;simp only[lsS,lsZ];refine wpAny_ready (rs:=[9]) (by kernel_rfl) (by simp) (qbu (i:=9) 45 rfl rfl (by rfl) (fun K hK=>?_) AllReady.nil);refine qai (qaz rfl 196 Tryz.func196 (by kernel_rfl) rfl _ _ rfl #[.slice (some ⟨bo,0,none⟩) k d] (by simp[Act.eval]) (qf7 (some ⟨bo,0,none⟩) ws k d _ (hIS.keep (bal (zdr br) _)) HK.out (by omega)) ?_);rintro e w7 ⟨A7,c7,rfl,o7,b7⟩;have B7:Below wy.heap.size wy w7:=qaa (bal (zdr br) _) b7;have O7:OI wy.heap.size w7 A7 c7 ws:=qal o7 (by first|exact zlr _|simp);refine⟨_,rfl,hK _ _ ?_⟩;simp only[lsS,lsZ];refine wpAny_ready (rs:=[12]) (by kernel_rfl) (by simp) (qbu (i:=12) 48 rfl rfl (by rfl) (fun K hK=>?_) AllReady.nil);refine qai (qb4 rfl (.tmp 45) (.tmp 47) rfl wy.heap.size A7 ws k c7 HK.out rfl (O7) ⟨wy.heap.size,0,none⟩ 1 1 [(y:Int)] rfl rfl (qnv ((b7.block _ (by simp)).trans (zha _ _))) (by rw[HK.out];omega) (by simp) (by have:=B7.size;simp;omega) ?_);intro A8 c8 w8 o8 g8 b8;have B8:Below wy.heap.size wy w8:=B7.trans b8;refine hK _ _ ?_;simp only[lsS,lsZ];refine wpAny_ready (rs:=[14]) (by kernel_rfl) (by simp) (qbu (i:=14) 50 rfl rfl (by rfl) (fun K hK=>?_) AllReady.nil);refine qai (qaz rfl 195 Tryz.func195 (by kernel_rfl) rfl _ _ rfl #[.slice (some ⟨ab,aoff,none⟩) (k+1) c,.slice A8 (k+1) c8,.int .i64 (y:Int)] (by simp[Act.eval]) (qd5 (some ⟨ab,aoff,none⟩) A8 (l.take (k+1)) (ws++[(y:Int)]) (k+1) c c8 (y:Int) _ (hT.keep B8) o8.is Hlen1.out Hlen2.out (by omega)) ?_);rintro e w9 ⟨A9,c9,rfl,o9,b9⟩;rw[HG.out] at o9⊢;have B9:Below wy.heap.size wy w9:=qaa B8 b9;have s9:=(qao o9).1;refine⟨_,rfl,hK _ _ ?_⟩;simp only[lsS,lsZ];refine wpAny_ready (rs:=[16]) (by kernel_rfl) (by simp) (qbu (i:=16) 52 rfl rfl (by rfl) (fun K hK=>?_) AllReady.nil);refine qai (qaz rfl 194 Tryz.func194 (by kernel_rfl) rfl _ _ rfl #[.slice A9 G.length c9,.int .i64 p] (by simp[Act.eval]) (qch A9 G c9 p _ o9.ts (by unfold maxLen;omega) s9) ?_);rw[HC.out];rintro e w10 ⟨rfl,b10⟩;have B10:Below wy.heap.size wy w10:=qaa B9 b10;refine⟨_,rfl,hK _ _ ?_⟩;simp only[lsS,lsZ];refine lq 17 53 (.bool true) rfl (fun _=>rfl) ?_;refine lq 18 54 (.bool true) rfl (fun _=>rfl) ?_;refine wpAny_done (by kernel_rfl) ?_ _;go_wp2_with fail;go_roundg (M-(y+1))
         case measure=>omega
         case rel=>exact⟨y+1,by omega,by go_num,hst2,qaa hby B10⟩
       |true=>
        have hc:qnm G p=true:=by rw[←HG.out,←Hfit.out,hq]
        have hst2:Hid (F=some y):=by rw[Hid,←hfy.out,Hst.out,hq];rfl
        have HC:=zhi hc;clear hq hc;refine wp_region_any (by kernel_rfl) ?_;refine lq 0 36 (.int .i64 (y:Int)) rfl (fun _=>rfl) ?_;refine lq 1 37 (.int .i64 (M:Int)) rfl (fun _=>rfl) ?_;refine lq 2 38 (.bool true) rfl (fun w=>by go_simp) ?_;refine lq 3 39 (.bool true) rfl (fun _=>rfl) ?_;refine lq 4 40 (.slice (some ⟨ab,aoff,none⟩) l.length c) rfl (fun _=>rfl) ?_;refine lq 5 41 (.int .i64 (k:Int)) rfl (fun _=>rfl) ?_;refine lq 6 42 (.int .i64 ((k:Int)+1)) rfl (fun w=>by go_simp) ?_;refine lq 7 43 (.slice (some ⟨ab,aoff,none⟩) (k+1) c) rfl (fun w=>by go_simp) ?_;refine lq 8 44 (.slice (some ⟨bo,0,none⟩) k d) rfl (fun _=>rfl) ?_;refine lq 10 46 (.int .i64 (y:Int)) rfl (fun _=>rfl) ?_;refine lq 13 49 (.int .i64 (y:Int)) rfl (fun _=>rfl) ?_;refine lq 15 51 (.int .i64 p) rfl (fun _=>rfl) ?_;refine wpAny_ready (rs:=[9,11]) (by kernel_rfl) (by simp) (qbu (i:=9) 45 rfl rfl (by rfl) (fun K hK=>?_) (qbu (i:=11) 47 rfl rfl (by rfl) (fun K hK=>?_) AllReady.nil))
        ·refine qai (qaz rfl 196 Tryz.func196 (by kernel_rfl) rfl _ _ rfl #[.slice (some ⟨bo,0,none⟩) k d] (by simp[Act.eval]) (qf7 (some ⟨bo,0,none⟩) ws k d _ (hIS.keep (zdr br)) HK.out (by omega)) ?_);rintro e w7 ⟨A7,c7,rfl,o7,b7⟩;have B7:Below wy.heap.size wy w7:=qaa (zdr br) b7;have O7:OI wy.heap.size w7 A7 c7 ws:=qal o7 (by first|exact zlr _|simp);refine⟨_,rfl,hK _ _ ?_⟩;simp only[lsS,lsZ];refine wpAny_ready (rs:=[11]) (by kernel_rfl) (by simp) (qbu (i:=11) 47 rfl rfl (by rfl) (fun K hK=>?_) AllReady.nil);go_simp
         refine hK _ _ ?_;simp only[lsS,lsZ];refine wpAny_ready (rs:=[12]) (by kernel_rfl) (by simp) (qbu (i:=12) 48 rfl rfl (by rfl) (fun K hK=>?_) AllReady.nil);refine qai (qb4 rfl (.tmp 45) (.tmp 47) rfl wy.heap.size A7 ws k c7 HK.out rfl (qa2 O7 _) ⟨w7.heap.size,0,none⟩ 1 1 [(y:Int)] rfl rfl (qnv (zha w7 _)) (by rw[HK.out];omega) (by simp) (by have:=B7.size;simp;omega) ?_);intro A8 c8 w8 o8 g8 b8;have B8:Below wy.heap.size wy w8:=(bal B7 _).trans b8;refine hK _ _ ?_;simp only[lsS,lsZ];refine wpAny_ready (rs:=[14]) (by kernel_rfl) (by simp) (qbu (i:=14) 50 rfl rfl (by rfl) (fun K hK=>?_) AllReady.nil);refine qai (qaz rfl 195 Tryz.func195 (by kernel_rfl) rfl _ _ rfl #[.slice (some ⟨ab,aoff,none⟩) (k+1) c,.slice A8 (k+1) c8,.int .i64 (y:Int)] (by simp[Act.eval]) (qd5 (some ⟨ab,aoff,none⟩) A8 (l.take (k+1)) (ws++[(y:Int)]) (k+1) c c8 (y:Int) _ (hT.keep B8) o8.is Hlen1.out Hlen2.out (by omega)) ?_);rintro e w9 ⟨A9,c9,rfl,o9,b9⟩;rw[HG.out] at o9⊢;have B9:Below wy.heap.size wy w9:=qaa B8 b9;have s9:=(qao o9).1;refine⟨_,rfl,hK _ _ ?_⟩;simp only[lsS,lsZ];refine wpAny_ready (rs:=[16]) (by kernel_rfl) (by simp) (qbu (i:=16) 52 rfl rfl (by rfl) (fun K hK=>?_) AllReady.nil);refine qai (qaz rfl 194 Tryz.func194 (by kernel_rfl) rfl _ _ rfl #[.slice A9 G.length c9,.int .i64 p] (by simp[Act.eval]) (qch A9 G c9 p _ o9.ts (by unfold maxLen;omega) s9) ?_);rw[HC.out];rintro e w10 ⟨rfl,b10⟩;have B10:Below wy.heap.size wy w10:=qaa B9 b10;refine⟨_,rfl,hK _ _ ?_⟩;simp only[lsS,lsZ];refine lq 17 53 (.bool false) rfl (fun _=>rfl) ?_;refine lq 18 54 (.bool false) rfl (fun _=>rfl) ?_;refine wpAny_done (by kernel_rfl) ?_ _;have hO10:=qa1 hOy B10
         have HF3:Hid (qu3 l M p (l.length-(k+1)) (ws++[(y:Int)])=R):=by
          have e:=HF2.out;rw[hst2.out] at e;exact e
         have qne:((y:Int)==(M:Int))=false:=beq_eq_false_iff_ne.2 (by omega);have hB10:=qaa hBy B10;go_wp2_with (at_builtin;refine qb9 _ rfl (.tmp 60) (.tmp 62) rfl w.heap.size (some ⟨bo,0,none⟩) ws k d HK.out rfl (qa2 hO10 _) w10.heap.size 1 (y:Int) _ rfl (zha w10 _) (by omega) (by have:=hB10.size;simp;omega) ?_;intro A11 c11 w11 o11 b11)
         obtain⟨bo2,rfl,_,_⟩:=qe3 o11 (by rw[Hlen2.out];omega);go_roundg (l.length-(k+1))
         case measure=>omega
         case rel=>exact⟨ws++[(y:Int)],bo2,c11,by rw[Hlen2.out];omega,by rw[Hlen2.out];go_num,by rw[Hlen2.out],o11,by rw[Hlen2.out];exact HF3,(bal hB10 _).trans b11⟩
        ·go_simp
         refine hK _ _ ?_;simp only[lsS,lsZ];refine wpAny_ready (rs:=[9]) (by kernel_rfl) (by simp) (qbu (i:=9) 45 rfl rfl (by rfl) (fun K hK=>?_) AllReady.nil);refine qai (qaz rfl 196 Tryz.func196 (by kernel_rfl) rfl _ _ rfl #[.slice (some ⟨bo,0,none⟩) k d] (by simp[Act.eval]) (qf7 (some ⟨bo,0,none⟩) ws k d _ (hIS.keep (bal (zdr br) _)) HK.out (by omega)) ?_);rintro e w7 ⟨A7,c7,rfl,o7,b7⟩;have B7:Below wy.heap.size wy w7:=qaa (bal (zdr br) _) b7;have O7:OI wy.heap.size w7 A7 c7 ws:=qal o7 (by first|exact zlr _|simp);refine⟨_,rfl,hK _ _ ?_⟩;simp only[lsS,lsZ];refine wpAny_ready (rs:=[12]) (by kernel_rfl) (by simp) (qbu (i:=12) 48 rfl rfl (by rfl) (fun K hK=>?_) AllReady.nil);refine qai (qb4 rfl (.tmp 45) (.tmp 47) rfl wy.heap.size A7 ws k c7 HK.out rfl (O7) ⟨wy.heap.size,0,none⟩ 1 1 [(y:Int)] rfl rfl (qnv ((b7.block _ (by simp)).trans (zha _ _))) (by rw[HK.out];omega) (by simp) (by have:=B7.size;simp;omega) ?_);intro A8 c8 w8 o8 g8 b8;have B8:Below wy.heap.size wy w8:=B7.trans b8;refine hK _ _ ?_;simp only[lsS,lsZ];refine wpAny_ready (rs:=[14]) (by kernel_rfl) (by simp) (qbu (i:=14) 50 rfl rfl (by rfl) (fun K hK=>?_) AllReady.nil);refine qai (qaz rfl 195 Tryz.func195 (by kernel_rfl) rfl _ _ rfl #[.slice (some ⟨ab,aoff,none⟩) (k+1) c,.slice A8 (k+1) c8,.int .i64 (y:Int)] (by simp[Act.eval]) (qd5 (some ⟨ab,aoff,none⟩) A8 (l.take (k+1)) (ws++[(y:Int)]) (k+1) c c8 (y:Int) _ (hT.keep B8) o8.is Hlen1.out Hlen2.out (by omega)) ?_);rintro e w9 ⟨A9,c9,rfl,o9,b9⟩;rw[HG.out] at o9⊢;have B9:Below wy.heap.size wy w9:=qaa B8 b9;have s9:=(qao o9).1;refine⟨_,rfl,hK _ _ ?_⟩;simp only[lsS,lsZ];refine wpAny_ready (rs:=[16]) (by kernel_rfl) (by simp) (qbu (i:=16) 52 rfl rfl (by rfl) (fun K hK=>?_) AllReady.nil);refine qai (qaz rfl 194 Tryz.func194 (by kernel_rfl) rfl _ _ rfl #[.slice A9 G.length c9,.int .i64 p] (by simp[Act.eval]) (qch A9 G c9 p _ o9.ts (by unfold maxLen;omega) s9) ?_);rw[HC.out];rintro e w10 ⟨rfl,b10⟩;have B10:Below wy.heap.size wy w10:=qaa B9 b10;refine⟨_,rfl,hK _ _ ?_⟩;simp only[lsS,lsZ];refine lq 17 53 (.bool false) rfl (fun _=>rfl) ?_;refine lq 18 54 (.bool false) rfl (fun _=>rfl) ?_;refine wpAny_done (by kernel_rfl) ?_ _;have hO10:=qa1 hOy B10
         have HF3:Hid (qu3 l M p (l.length-(k+1)) (ws++[(y:Int)])=R):=by
          have e:=HF2.out;rw[hst2.out] at e;exact e
         have qne:((y:Int)==(M:Int))=false:=beq_eq_false_iff_ne.2 (by omega);have hB10:=qaa hBy B10;go_wp2_with (at_builtin;refine qb9 _ rfl (.tmp 60) (.tmp 62) rfl w.heap.size (some ⟨bo,0,none⟩) ws k d HK.out rfl (qa2 hO10 _) w10.heap.size 1 (y:Int) _ rfl (zha w10 _) (by omega) (by have:=hB10.size;simp;omega) ?_;intro A11 c11 w11 o11 b11)
         obtain⟨bo2,rfl,_,_⟩:=qe3 o11 (by rw[Hlen2.out];omega);go_roundg (l.length-(k+1))
         case measure=>omega
         case rel=>exact⟨ws++[(y:Int)],bo2,c11,by rw[Hlen2.out];omega,by rw[Hlen2.out];go_num,by rw[Hlen2.out],o11,by rw[Hlen2.out];exact HF3,(bal hB10 _).trans b11⟩
      ·obtain rfl:y=M:=by omega
       have hFn:F=none:=by rw[←hfy.out,Nat.sub_self];rfl
       have hRn:R=none:=by
        have e:=HF2.out;rw[hFn] at e;exact e.symm
       have hr2:Hid (ffL l (y:Int) p=[]∧(qjc l (y:Int) p).isSome=false):=by
        have e:qjc l (y:Int) p=none:=by rw[HA.out,hRn]
        simp[Hid,ffL,e]
       clear hFn hRn;go_wp2_with fail;refine wp_region_any (by kernel_rfl) ?_;refine lq 0 36 (.int .i64 (y:Int)) rfl (fun _=>rfl) ?_;refine lq 1 37 (.int .i64 (y:Int)) rfl (fun _=>rfl) ?_;refine lq 2 38 (.bool false) rfl (fun w=>by go_simp) ?_;refine lq 3 39 (.bool false) rfl (fun _=>rfl) ?_;refine qe1 (i:=4) 40 (undef) rfl rfl (by kernel_rfl) (by kernel_rfl) (by kernel_rfl) (fun _ _ _ h=>h) (.inr ⟨by rfl,rfl⟩) ?_;simp only[lsS,lsZ];refine qe1 (i:=5) 41 (undef) rfl rfl (by kernel_rfl) (by kernel_rfl) (by kernel_rfl) (fun _ _ _ h=>h) (.inr ⟨by rfl,rfl⟩) ?_;simp only[lsS,lsZ];refine qe1 (i:=6) 42 (undef) rfl rfl (by kernel_rfl) (by kernel_rfl) (by kernel_rfl) (fun _ _ _ h=>h) (.inr ⟨by rfl,rfl⟩) ?_;simp only[lsS,lsZ];refine qe1 (i:=7) 43 (undef) rfl rfl (by kernel_rfl) (by kernel_rfl) (by kernel_rfl) (fun _ _ _ h=>h) (.inr ⟨by rfl,rfl⟩) ?_;simp only[lsS,lsZ];refine qe1 (i:=8) 44 (undef) rfl rfl (by kernel_rfl) (by kernel_rfl) (by kernel_rfl) (fun _ _ _ h=>h) (.inr ⟨by rfl,rfl⟩) ?_;simp only[lsS,lsZ];refine qe1 (i:=9) 45 (undef) rfl rfl (by kernel_rfl) (by kernel_rfl) (by kernel_rfl) (fun _ _ _ h=>h) (.inr ⟨by rfl,rfl⟩) ?_;simp only[lsS,lsZ];refine qe1 (i:=10) 46 (undef) rfl rfl (by kernel_rfl) (by kernel_rfl) (by kernel_rfl) (fun _ _ _ h=>h) (.inr ⟨by rfl,rfl⟩) ?_;simp only[lsS,lsZ];refine qe1 (i:=11) 47 (undef) rfl rfl (by kernel_rfl) (by kernel_rfl) (by kernel_rfl) (fun _ _ _ h=>h) (.inr ⟨by rfl,rfl⟩) ?_;simp only[lsS,lsZ];refine qe1 (i:=12) 48 (undef) rfl rfl (by kernel_rfl) (by kernel_rfl) (by kernel_rfl) (fun _ _ _ h=>h) (.inr ⟨by rfl,rfl⟩) ?_;simp only[lsS,lsZ];refine qe1 (i:=13) 49 (undef) rfl rfl (by kernel_rfl) (by kernel_rfl) (by kernel_rfl) (fun _ _ _ h=>h) (.inr ⟨by rfl,rfl⟩) ?_;simp only[lsS,lsZ];refine qe1 (i:=14) 50 (undef) rfl rfl (by kernel_rfl) (by kernel_rfl) (by kernel_rfl) (fun _ _ _ h=>h) (.inr ⟨by rfl,rfl⟩) ?_;simp only[lsS,lsZ];refine qe1 (i:=15) 51 (undef) rfl rfl (by kernel_rfl) (by kernel_rfl) (by kernel_rfl) (fun _ _ _ h=>h) (.inr ⟨by rfl,rfl⟩) ?_;simp only[lsS,lsZ];refine qe1 (i:=16) 52 (undef) rfl rfl (by kernel_rfl) (by kernel_rfl) (by kernel_rfl) (fun _ _ _ h=>h) (.inr ⟨by rfl,rfl⟩) ?_;simp only[lsS,lsZ];refine qe1 (i:=17) 53 (undef) rfl rfl (by kernel_rfl) (by kernel_rfl) (by kernel_rfl) (fun _ _ _ h=>h) (.inr ⟨by rfl,rfl⟩) ?_;simp only[lsS,lsZ];refine lq 18 54 (.bool false) rfl (fun _=>rfl) ?_;refine wpAny_done (by kernel_rfl) ?_ _;go_wp2_with fail;go_ret2;rw[hr2.out.1,hr2.out.2];exact⟨none,0,rfl,qgg _ _,bdr hBy _⟩
    ·obtain rfl:k=l.length:=by omega
     have hr:qjc l (M:Int) p=some ws:=by rw[HA.out,←hfk.out,Nat.sub_self];rfl
     have hr2:Hid (ffL l (M:Int) p=ws∧(qjc l (M:Int) p).isSome=true):=by simp[Hid,ffL,hr]
     clear hr;go_wp2_with fail;go_ret2;rw[hr2.out.1,hr2.out.2];exact⟨some ⟨bo,0,none⟩,d,by rw[HK.out];rfl,hO,hb⟩
end Go.Proofs.YtmkjmancmiphfaaGreatDoor
