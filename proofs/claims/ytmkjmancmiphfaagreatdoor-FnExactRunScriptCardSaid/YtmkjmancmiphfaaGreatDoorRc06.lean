/-
  Which jobs are valid: the program's, whole.
  Response times by what comes before a task, in plain Lean: fewer tasks before it, or easier ones, do no harm.
  Audsley's way to assign priorities, in plain Lean: what it finds holds, and it finds an order if there is one.
  OrderValid, PutOrder (of an order that is one), l4Put: tasks in an order.
  Several rows of integers of the call's own, each in a block of its own; append to one of them.
  The machine's run in plain Lean, seen from afar: what is left, what runs, the mode; with fixed priorities, what holds is in time.
-/
import Derived.Test.YtmkjmancmiphfaaGreatDoorRc05
namespace Go.Proofs.YtmkjmancmiphfaaGreatDoor
set_option maxHeartbeats 8000000
set_option maxRecDepth 1000000
open Go.RowKit
theorem qm0{l:List Tk}{js:List Jb}{k:Nat}(hk:k<js.length)(h:qco l js k=false):Q9 l js=false:=by
 have:(List.range js.length).all (qco l js)=false:=by
  rw[List.all_eq_false];exact⟨k,Ybu.2 hk,by simp[h]⟩
 simp[Q9,this]
theorem qzx{l:List Tk}{js:List Jb}(hS:Qe l=true)(h60:js.length≤60)(hall: ∀i,i<js.length→qco l js i=true):Q9 l js=true:=by
 simp only[Q9,hS,Ycy,Yac,Yae,Yaz,Ybu];exact⟨h60,hall⟩
theorem qsw{js:List Jb}{p:Jb→Bool}{m:Nat}(hm:m<js.length)(h:(js.take m).all p=true)(h1:p js[m]=true):(js.take (m+1)).all p=true:=by
 rw[Yad hm,List.all_append,h];simp[h1]
theorem qyc{js:List Jb}{p:Jb→Bool}{m k:Nat}(hm:m<js.length)(hmk:m<k)(h1:p js[m]=false):(js.take k).all p=false:=by
 rw[List.all_eq_false];exact⟨js[m],List.mem_take_iff_getElem.2 ⟨m,by omega,rfl⟩,by simp[h1]⟩
theorem qb2(A:ZA)(l:List Tk)(c:Nat)(B:ZA)(js:List Jb)(d:Nat)(w:World)(h:TS w A l)(g:JS w B js)(hjd:js.length≤d)(hjm:js.length≤maxLen):
  Calls Tryz.prog 21 #[.slice A l.length c,.slice B js.length d] w fun e w'=>e=.returned (.bool (Q9 l js))∧Below w.heap.size w w':=by
 unfold maxLen at hjm;cases hS:Qe l with
 |false=>
  have E:Hid (Q9 l js=false):=by simp[Hid,Q9,hS]
  go_enter Tryz.func21,Tryz.ntmps21;go_wp2_with fail;refine(Qf A l c _ h).mono ?_;rw[hS];rintro e w1 ⟨rfl,b1⟩;go_wp2_with fail;go_ret;exact⟨by rw[E.out];rfl,b1⟩
 |true=>
  by_cases h60:js.length≤60
  case neg=>
   have e60:decide ((60:Int)<(js.length:Int))=true:=Yag (by omega);have E:Hid (Q9 l js=false):=by simp[Hid,Q9,h60]
   go_enter Tryz.func21,Tryz.ntmps21;go_wp2_with fail;refine(Qf A l c _ h).mono ?_;rw[hS];rintro e w1 ⟨rfl,b1⟩;go_wp2_with fail;go_ret;exact⟨by rw[E.out];rfl,b1⟩
  have e60:decide ((60:Int)<(js.length:Int))=false:=Yaf (by omega);obtain⟨hl5,hall⟩:=Qj hS;have HV:=zhi hall;have HS:=zhi hS;clear hS hall;go_enter Tryz.func21,Tryz.ntmps21;go_wp2_with fail;refine(Qf A l c _ h).mono ?_;rw[HS.out];rintro e w1 ⟨rfl,b1⟩;go_wp2_with fail;go_loopg [19] js.length (fun g i wr=> ∃k:Nat,g+k=js.length∧i=.int .i64 (k:Int)∧Hid (∀i,i<k→qco l js i=true)∧Below w.heap.size w wr)
  case atStart=>exact⟨0,by omega,rfl,fun i hi=>absurd hi (Nat.not_lt_zero _),b1⟩
  case round=>
   clear e60 b1;obtain⟨k,hgk,rfl,hall,hb⟩:=hrel;by_cases hlt:k<js.length
   ·obtain⟨b,off,rfl,hbl,hc⟩:=g.keep hb (by omega);obtain⟨k0,k1,k2⟩:=Vi hc k hlt;have hjk:=Vx js k hlt;generalize js[k]=J at k0 k1 k2 hjk;obtain⟨q,a,n⟩:=J;have hT:=zha wr (.cells #[.int .i64 q,.int .i64 a,.int .i64 n] 60 (0,0));have hlT:=(bl hT);cases hJ:Vy l ⟨q,a,n⟩ with
    |false=>
     have HE:Hid (Q9 l js=false):=qm0 hlt (by simp[qco,hjk,hJ]);have HJ:=zhi hJ;clear hJ hc hjk;go_wp2_with fail;refine(qle A l c ⟨q,a,n⟩ _ (h.keep (bal hb _))).mono ?_;rw[HJ.out];rintro e w2 ⟨rfl,b2⟩;go_wp2_with fail;go_ret;exact⟨by rw[HE.out];rfl,Qa (bal hb _) b2⟩
    |true=>
     have hJ2:=hJ;simp only[Vy,Yac,Yae] at hJ2;obtain⟨⟨⟨⟨hp,ha0⟩,ha1⟩,hn0⟩,_⟩:=hJ2;obtain⟨_,_,hx,hq⟩:=qbk hp;generalize q.toNat=x at hx hq;subst hq;have hev:=qao (HV.out _ (Yao hx));rw[←qbi l x hx] at hev;obtain⟨_,_,_,_,hev⟩:=hev
     have hok:qco l js k=((js.take k).all (qya l ⟨(x:Int),a,n⟩)&&(decide (k=0)||qox (Qt js (k-1)) ⟨(x:Int),a,n⟩)):=by
      simp only[qco,hjk,hJ,Ycy]
     have HJ:=zhi hJ;have HK:=zhi hok;clear hJ hc hjk hp hok;go_wp2_with fail;refine(qle A l c ⟨(x:Int),a,n⟩ _ (h.keep (bal hb _))).mono ?_;rw[HJ.out];rintro e w2 ⟨rfl,b2⟩;have hT2:=(b2.block _ hlT).trans hT;have B2:=Qa (bal hb _) b2;generalize wr.heap.size=nT at hT2⊢;clear hT hlT k0 k1 k2 b2;go_wp2_with fail;go_loopg [32] k (fun g i wy=> ∃m:Nat,g+m=k∧i=.int .i64 (m:Int)∧Hid ((js.take m).all (qya l ⟨(x:Int),a,n⟩)=true)∧Below w2.heap.size w2 wy)
     case atStart=>exact⟨0,by omega,rfl,by simp[Hid],br⟩
     case round=>
      obtain⟨m,hgm,rfl,hfar,hb2⟩:=hrel;have B3:=Qa B2 hb2;obtain⟨h0,h1,h2⟩:=qk8 (bh hb2 hT2);have hnl:nT<wr.heap.size:=zlt (bl hT2) hb2.size;obtain⟨b',off',hbe,hbl2,hc2⟩:=g.keep B3 (by omega);cases hbe
      by_cases hmk:m<k
      ·obtain⟨m0,m1,m2⟩:=Vi hc2 m (by omega);have hml:m<js.length:=by omega
       have hfm:qya l ⟨(x:Int),a,n⟩ js[m]=true→(js.take (m+1)).all (qya l ⟨(x:Int),a,n⟩)=true:=qsw hml hfar.out;have hfn:qya l ⟨(x:Int),a,n⟩ js[m]=false→(js.take k).all (qya l ⟨(x:Int),a,n⟩)=false:=qyc hml hmk;have hJm:=hall.out m hmk;simp only[qco,Vy,Vx js m (show m<js.length by omega),Yac,Yae] at hJm;obtain⟨⟨⟨⟨⟨⟨_,hm0⟩,hm1⟩,_⟩,_⟩,_⟩,_⟩:=hJm;generalize js[m]=Y at m0 m1 m2 hfm hfn hm0 hm1;obtain⟨q0,a0,n0⟩:=Y;have hm0:0≤a0:=hm0;have hm1:a0≤200:=hm1;by_cases hq:q0=(x:Int)
       ·subst hq;have qw:IntKind.i64.wrap (a-a0)=a-a0:=Yai _ (by omega);have hxI:(x:Int)<(l.length:Int):=by omega
        by_cases hd:a-a0<(Qg l x).every
        ·have HE:Hid (Q9 l js=false):=qm0 hlt (by rw[HK.out,hfn (by simp[qya,hd])];rfl);have ed:decide (a-a0<(Qg l x).every)=true:=Yag hd;clear hfm hfn hc2;obtain⟨tb,toff,hte,htr,htc⟩:=h.keep B3 (by omega);cases hte
         obtain⟨_,_,_,cy1,_⟩:=Qv htc x hx;clear htc;have hN:=qk8 (zha wr (.cells #[.int .i64 (x:Int),.int .i64 a0,.int .i64 n0] 60 (0,0)));have hba:=bal (Below.refl wr.heap.size wr) (.cells #[.int .i64 (x:Int),.int .i64 a0,.int .i64 n0] 60 (0,0));replace cy1:=(hba.cell (p:=⟨tb,toff+x*5+3,none⟩) htr).trans cy1;replace h0:=(hba.cell (p:=⟨nT,0,none⟩) hnl).trans h0;replace h1:=(hba.cell (p:=⟨nT,1,none⟩) hnl).trans h1;replace h2:=(hba.cell (p:=⟨nT,2,none⟩) hnl).trans h2;go_upto_region 11 with fail;generalize World.alloc wr _=wa at hN hba h0 h1 h2 cy1⊢;generalize wr.heap.size=nB at hN⊢;obtain⟨y0,y1,y2⟩:=hN;go_quiet (fail)
         go_wp2_with fail;go_ret;exact⟨by rw[HE.out];rfl,bdr (Qa B3 hba) _⟩
        ·have HN:=zhi (hfm (by simp[qya,hd]));have ed:decide (a-a0<(Qg l x).every)=false:=Yaf hd;clear hfm hfn hc2;obtain⟨tb,toff,hte,htr,htc⟩:=h.keep B3 (by omega);cases hte
         obtain⟨_,_,_,cy1,_⟩:=Qv htc x hx;clear htc;have hN:=qk8 (zha wr (.cells #[.int .i64 (x:Int),.int .i64 a0,.int .i64 n0] 60 (0,0)));have hba:=bal (Below.refl wr.heap.size wr) (.cells #[.int .i64 (x:Int),.int .i64 a0,.int .i64 n0] 60 (0,0));replace cy1:=(hba.cell (p:=⟨tb,toff+x*5+3,none⟩) htr).trans cy1;replace h0:=(hba.cell (p:=⟨nT,0,none⟩) hnl).trans h0;replace h1:=(hba.cell (p:=⟨nT,1,none⟩) hnl).trans h1;replace h2:=(hba.cell (p:=⟨nT,2,none⟩) hnl).trans h2;go_upto_region 11 with fail;generalize World.alloc wr _=wa at hN hba h0 h1 h2 cy1⊢;generalize wr.heap.size=nB at hN⊢;obtain⟨y0,y1,y2⟩:=hN;go_quiet (fail)
         go_wp2_with fail;go_roundg (k-(m+1))
         case measure=>omega
         case rel=>exact⟨m+1,by omega,by go_num,HN.out,bdr (Qa hb2 hba) _⟩
       ·have HN:=zhi (hfm (by simp[qya,hq]));have eq0:(q0==(x:Int))=false:=beq_eq_false_iff_ne.2 hq;clear hfm hfn hc2 hq;have hN:=qk8 (zha wr (.cells #[.int .i64 q0,.int .i64 a0,.int .i64 n0] 60 (0,0)));have hba:=bal (Below.refl wr.heap.size wr) (.cells #[.int .i64 q0,.int .i64 a0,.int .i64 n0] 60 (0,0));replace h0:=(hba.cell (p:=⟨nT,0,none⟩) hnl).trans h0;replace h1:=(hba.cell (p:=⟨nT,1,none⟩) hnl).trans h1;replace h2:=(hba.cell (p:=⟨nT,2,none⟩) hnl).trans h2;go_upto_region 11 with fail;generalize World.alloc wr _=wa at hN hba h0 h1 h2⊢;generalize wr.heap.size=nB at hN⊢;obtain⟨y0,y1,y2⟩:=hN;go_quiet (fail)
        go_wp2_with fail;go_roundg (k-(m+1))
        case measure=>omega
        case rel=>exact⟨m+1,by omega,by go_num,HN.out,bdr (Qa hb2 hba) _⟩
      ·obtain rfl:m=k:=by omega
       have hK:=HK.out;rw[hfar.out,Ycy] at hK
       have hnext:qco l js m=true→ ∀i,i<m+1→qco l js i=true:=by
        intro h1 i hi;by_cases e:i=m
        ·rw[e];exact h1
        ·exact hall.out i (by omega)
       cases m with
       |zero=>
        have HN:=zhi (hnext (by rw[hK];rfl));clear hK hnext hc2;have e0:decide ((0:Int)<0)=false:=rfl;have hcast:(((0:Nat)):Int)=0:=rfl;rw[hcast];go_wp2_with fail;go_quiet (fail)
        go_wp2_with fail;go_roundg (js.length-1)
        case measure=>omega
        case rel=>exact⟨1,by omega,by go_num,HN.out,bdr B3 _⟩
       |succ m=>
        obtain⟨p0,p1,p2⟩:=Vi hc2 m (by omega);rw[Nat.add_sub_cancel,Vx js m (by omega),show decide (m+1=0)=false from rfl,Bool.false_or] at hK;generalize js[m]=Y at p0 p1 p2 hK;obtain⟨q0,a0,n0⟩:=Y;have e0:decide ((0:Int)<(m:Int)+1)=true:=Yag (by omega);have hcast:(((m+1:Nat)):Int)=(m:Int)+1:=rfl;have qw:IntKind.i64.wrap ((m:Int)+1-1)=(m:Int):=by rw[Int.add_sub_cancel];exact Yai _ (by omega)
        clear hc2;by_cases h3:a<a0
        ·have HE:Hid (Q9 l js=false):=qm0 hlt (by rw[hK];simp[qox];omega);have e1:decide (a<a0)=true:=Yag h3;clear hK hnext h3;rw[hcast];go_wp2_with fail;go_quiet (fail)
         go_wp2_with fail;go_ret;exact⟨by rw[HE.out];rfl,bdr B3 _⟩
        ·have e1:decide (a<a0)=false:=Yaf h3;by_cases h4:a0=a
         ·subst h4;have e2:(a0==a0)=true:=Yec _;by_cases h5:(x:Int)≤q0
          ·have HE:Hid (Q9 l js=false):=qm0 hlt (by rw[hK];simp[qox];omega);have e3:decide ((x:Int)≤q0)=true:=Yag h5;clear hK hnext h3;rw[hcast];go_wp2_with fail;go_quiet (fail)
           go_wp2_with fail;go_ret;exact⟨by rw[HE.out];rfl,bdr B3 _⟩
          ·have HN:=zhi (hnext (by rw[hK];simp[qox];omega));have e3:decide ((x:Int)≤q0)=false:=Yaf h5;clear hK hnext h3;rw[hcast];go_wp2_with fail;go_quiet (fail)
           go_wp2_with fail;go_roundg (js.length-(m+2))
           case measure=>omega
           case rel=>exact⟨m+2,by omega,by go_num,HN.out,bdr B3 _⟩
         ·have HN:=zhi (hnext (by rw[hK];simp[qox];omega));have e2:(a0==a)=false:=beq_eq_false_iff_ne.2 h4;clear hK hnext h3 h4;rw[hcast];go_wp2_with fail;go_quiet (fail)
          go_wp2_with fail;go_roundg (js.length-(m+2))
          case measure=>omega
          case rel=>exact⟨m+2,by omega,by go_num,HN.out,bdr B3 _⟩
   ·obtain rfl:k=js.length:=by omega
    have HE:Hid (Q9 l js=true):=qzx HS.out h60 hall.out;go_wp2_with fail;go_ret;exact⟨by rw[HE.out];rfl,hb⟩
def qo2(f:Tk→Int):List Tk→Int
 |[]=>0
 |t::l=>f t+qo2 f l
theorem qu2(f:Tk→Int)(a b:List Tk):qo2 f (a++b)=qo2 f a+qo2 f b:=by
 induction a with
 |nil=>simp[qo2]
 |cons t a ih=>simp only[Ybw,qo2,ih];omega
theorem qsx(f:Tk→Int)(l:List Tk)(n:Nat)(hn:n≤l.length):qgu (fun k=>f (Qg l k)) n=qo2 f (l.take n):=by
 induction n with
 |zero=>simp[qgu,qo2]
 |succ n ih=>
  rw[Yad (by omega),qu2,←ih (by omega)];simp[qgu,qo2,qbi l n (by omega)]
theorem qsy{f:Tk→Int}{a b:List Tk}(h:a.Perm b):qo2 f a=qo2 f b:=by
 induction h with
 |nil=>rfl
 |cons x _ ih=>simp only[qo2,ih]
 |swap x y l=>simp only[qo2];omega
 |trans _ _ h1 h2=>exact h1.trans h2
def Sub(a b:List Tk):Prop:= ∀t,a.count t≤b.count t
theorem Sub.refl(a:List Tk):Sub a a:=fun _=>zlr _
theorem Sub.trans{a b c:List Tk}(h:Sub a b)(g:Sub b c):Sub a c:=fun t=>zll (h t) (g t)
theorem Sub.perm{a b:List Tk}(h:a.Perm b):Sub a b:=fun t=>Nat.le_of_eq (h.count_eq t)
theorem Sub.sub{a b:List Tk}(h:a.Sublist b):Sub a b:=fun t=>h.count_le t
theorem Sub.mem{a b:List Tk}(h:Sub a b){t:Tk}(ht:t∈a):t∈b:=by
 have h1:=h t;have h2:=List.count_pos_iff.2 ht;exact List.count_pos_iff.1 (by omega)
theorem Sub.erase{a b:List Tk}{x:Tk}(h:Sub (x::a) b):Sub a (b.erase x):=fun t=>by
 have h1:=h t;rw[List.count_cons] at h1;rw[List.count_erase];split<;>simp_all<;>omega
theorem Sub.sublist{a p:List Tk}(h:Sub a p): ∃q:List Tk,q.Perm a∧q.Sublist p:=by
 induction p generalizing a with
 |nil=>
  cases a with
  |nil=>exact⟨[],List.Perm.refl _,List.Sublist.refl _⟩
  |cons x a=>
   have:=h.mem (t:=x) (by simp);simp at this
 |cons x p ih=>
  by_cases hx:x∈a
  ·have hp:=List.perm_cons_erase hx
   obtain⟨q,h1,h2⟩:=ih (a:=a.erase x) (fun t=>by
    have h1:=h t;rw[hp.count_eq t,List.count_cons,List.count_cons] at h1;omega)
   exact⟨x::q,(h1.cons x).trans hp.symm,h2.cons_cons x⟩
  ·obtain⟨q,h1,h2⟩:=ih (a:=a) (fun t=>by
    have h1:=h t;by_cases e:t=x
    ·subst e;rw[List.count_eq_zero_of_not_mem hx];omega
    ·rw[List.count_cons_of_ne (by simpa using fun h=>e h.symm)] at h1;exact h1)
   exact⟨q,h1,h2.cons x⟩
theorem Sub.length{a b:List Tk}(h:Sub a b):a.length≤b.length:=by
 obtain⟨q,h1,h2⟩:=h.sublist;rw[←h1.length_eq];exact h2.length_le
def rl(hp:List Tk)(t:Tk):Option Int:=qdu (fun w=>t.low+qo2 (fun s=>qmo s w false) hp) t.low t.due
def rs(hp:List Tk)(t:Tk):Option Int:=
 match rl hp t with
 |none=>none
 |some low=>if t.crit then qdu (fun w=>t.high+qo2 (fun s=>qeq s low w) hp) t.high t.due else none
def hAt(hp:List Tk)(t:Tk):Bool:=if t.crit then(rs hp t).isSome else(rl hp t).isSome
theorem qp2{l:List Tk}{n:Nat}(hn:n≤l.length):qbj l n=rl (l.take n) (Qg l n):=by
 have e:Vn l n=fun w=>(Qg l n).low+qo2 (fun s=>qmo s w false) (l.take n):=by
  funext w
  simp only[Vn,qey];rw[qsx (fun t=>qmo t w false) l n hn]
 simp only[qbj,rl,e]
theorem qzy{l:List Tk}{n:Nat}(hn:n≤l.length):qpz l n=rs (l.take n) (Qg l n):=by
 have e: ∀low,Vu l low n=fun w=>(Qg l n).high+qo2 (fun s=>qeq s low w) (l.take n):=by
  intro low;funext w
  simp only[Vu,qi4];rw[qsx (fun t=>qeq t low w) l n hn]
 unfold qpz rs;rw[qp2 hn];cases rl (l.take n) (Qg l n) with
 |none=>rfl
 |some low=>simp only[e]
theorem qlf{l:List Tk}{n:Nat}(hn:n≤l.length):qc7 l n=hAt (l.take n) (Qg l n):=by
 simp only[qc7,hAt,qp2 hn,qzy hn]
theorem q5n{a b:List Tk}(h:a.Perm b)(t:Tk):rl a t=rl b t:=by
 have e:(fun w=>t.low+qo2 (fun s=>qmo s w false) a)=(fun w=>t.low+qo2 (fun s=>qmo s w false) b):=funext fun w=>by rw[qsy h]
 simp only[rl,e]
theorem q27{a b:List Tk}(h:a.Perm b)(t:Tk):hAt a t=hAt b t:=by
 have e: ∀low,(fun w=>t.high+qo2 (fun s=>qeq s low w) a)=(fun w=>t.high+qo2 (fun s=>qeq s low w) b):=fun low=>funext fun w=>by rw[qsy h]
 simp only[hAt,rs,q5n h,e]
def hld(hp:List Tk):List Tk→Bool
 |[]=>true
 |t::l=>hAt hp t&&hld (hp++[t]) l
theorem q28{a b:List Tk}(h:a.Perm b)(l:List Tk):hld a l=hld b l:=by
 induction l generalizing a b with
 |nil=>rfl
 |cons t l ih=>simp only[hld,q27 h,ih (h.append_right [t])]
theorem q5o(hp l:List Tk):hld hp l=true↔ ∀k,k<l.length→hAt (hp++l.take k) (Qg l k)=true:=by
 induction l generalizing hp with
 |nil=>simp[hld]
 |cons t l ih=>
  simp only[hld,Yac,ih];constructor
  ·rintro⟨h1,h2⟩ k hk;cases k with
   |zero=>simpa [Qg] using h1
   |succ k=>simpa [Qg,List.append_assoc] using h2 k (by simpa using hk)
  ·intro h;refine⟨by simpa [Qg] using h 0 (by simp),fun k hk=>?_⟩;simpa [Qg,List.append_assoc] using h (k+1) (by simpa using hk)
theorem qp3(l:List Tk):qer l=(Qe l&&hld [] l):=by
 rw[qer];congr 1
 rw[Bool.eq_iff_iff,q5o];simp only[Yaz,Ybu,Ycj];constructor
 ·intro h k hk;rw[←qlf (by omega)];exact h k hk
 ·intro h k hk;rw[qlf (by omega)];exact h k hk
theorem qgy{a b:List Tk}(h:Sub a b)(hb:Qe b=true):Qe a=true:=by
 obtain⟨h1,h2⟩:=Qj hb;have:=h.length;simp only[Qe,Yac,Yae,Yaz];exact⟨by omega,fun t ht=>h2 t (h.mem ht)⟩
def qez(ts:List Tk)(k:Nat):Bool:=hAt (ts.eraseIdx k) (Qg ts k)
def qsz(p:Nat→Bool):Nat→Option Nat
 |0=>none
 |n+1=>if p n then some n else qsz p n
def qb5(l:List Tk)(left:List Nat):List Tk:=left.map (Qg l)
def aud(l:List Tk):Nat→List Nat→List Nat→Option (List Nat)
 |0,_,acc=>some acc
 |n+1,left,acc=>
  match qsz (qez (qb5 l left)) left.length with
  |none=>none
  |some k=>aud l n (left.eraseIdx k) (left.getD k 0::acc)
def Ve(l:List Tk):Option (List Nat):=if Qe l then aud l l.length (List.range l.length) [] else none
theorem q5p{p:Nat→Bool}{n k:Nat}(h:qsz p n=some k):k<n∧p k=true∧ ∀j,k<j→j<n→p j=false:=by
 induction n with
 |zero=>simp[qsz] at h
 |succ n ih=>
  simp only[qsz] at h;split at h
  ·cases h
   exact⟨by omega,by assumption,fun j h1 h2=>by omega⟩
  ·obtain⟨h1,h2,h3⟩:=ih h;refine⟨by omega,h2,fun j h4 h5=>?_⟩;by_cases e:j=n
   ·subst e;simpa using ‹¬ p j=true›
   ·exact h3 j h4 (by omega)
theorem qdv(l:List Tk)(left:List Nat):(qb5 l left).length=left.length:=by simp[qb5]
theorem q5q(l:List Tk)(left:List Nat){k:Nat}(hk:k<left.length):Qg (qb5 l left) k=Qg l (left.getD k 0):=by
 rw[qbi _ _ (by rw[qdv];exact hk)];simp[qb5,hk]
theorem qyd(l:List Tk)(left:List Nat)(k:Nat):(qb5 l left).eraseIdx k=qb5 l (left.eraseIdx k):=by
 simp only[qb5];induction left generalizing k with
 |nil=>rfl
 |cons a left ih=>
  cases k with
  |zero=>rfl
  |succ k=>simp[ih k]
theorem qu3{left:List Nat}{k:Nat}(hk:k<left.length):left.getD k 0=left[k]:=by simp[hk]
theorem qwy{α:Type}(l:List α)(k:Nat)(hk:k<l.length):(l[k]::l.eraseIdx k).Perm l:=by
 induction l generalizing k with
 |nil=>simp at hk
 |cons x l ih=>
  cases k with
  |zero=>exact List.Perm.refl _
  |succ k=>exact(List.Perm.swap x _ _).trans ((ih k (by simpa using hk)).cons x)
theorem qp4(left:List Nat){k:Nat}(hk:k<left.length):(left.getD k 0::left.eraseIdx k).Perm left:=by
 rw[qu3 hk];exact qwy left k hk
theorem qki{a b:List Nat}(l:List Tk)(h:a.Perm b):(qb5 l a).Perm (qb5 l b):=h.map _
theorem q29{l:List Tk}{n:Nat}{left acc o:List Nat}(hn:left.length=n)(h:aud l n left acc=some o)(hacc:hld (qb5 l left) (qb5 l acc)=true):o.Perm (left++acc)∧hld [] (qb5 l o)=true:=by
 induction n generalizing left acc with
 |zero=>
  cases left with
  |nil=>
   simp only[aud,Option.some.injEq] at h;subst h;exact⟨List.Perm.refl _,hacc⟩
  |cons=>simp at hn
 |succ n ih=>
  simp only[aud] at h;split at h
  ·cases h
  ·rename_i k hk
   obtain⟨h1,h2,_⟩:=q5p hk;have hp:=qp4 left h1
   obtain⟨g1,g2⟩:=ih (by rw[Ybs h1];omega) h (by
    simp only[qb5,List.map_cons,hld,Yac];simp only[qez,qyd,q5q l left h1] at h2;refine⟨h2,?_⟩;rw[←hacc];refine q28 ?_ _;have:=qki l hp;exact(List.perm_append_comm (l₁:=List.map (Qg l) (left.eraseIdx k)) (l₂:=[Qg l (left.getD k 0)])).trans this)
   exact⟨g1.trans (List.perm_middle.trans (hp.append_right acc)),g2⟩
theorem qlg(l:List Tk):qb5 l (List.range l.length)=l:=by
 apply List.ext_getElem
 ·simp[qb5]
 ·intro k h1 h2;simp[qb5,qbi l k h2]
theorem qdw{l:List Tk}{o:List Nat}(h:Ve l=some o):Qe l=true∧o.Perm (List.range l.length)∧qer (qb5 l o)=true:=by
 simp only[Ve] at h;split at h
 ·rename_i hs
  obtain⟨h1,h2⟩:=q29 (by simp) h (by simp[qb5,hld]);rw[Ybx] at h1;refine⟨hs,h1,?_⟩;have hp:=qki l h1;rw[qlg] at hp;rw[qp3,qgy (Sub.perm hp) hs,h2];rfl
 ·cases h
def Vv(o:List Nat):List Int:=o.map (fun(x:Nat)=>(x:Int))
theorem Qh(o:List Nat):(Vv o).length=o.length:=by simp[Vv]
theorem qjn(o:List Nat)(k:Nat)(hk:k<o.length):(Vv o)[k]? =some ((o[k]:Nat):Int):=by simp[Vv,hk]
def q5r(o:List Nat):Nat:=o.foldl (fun m x=>m ||| 1 <<< x) 0
theorem q3a: ∀m<32,∀x<5,Nat.testBit m x=false→(bits .and .i64 (((m:Nat):Int)/2^x) 1==1)=false:=by decide+kernel
theorem qzz: ∀m<32,∀x<5,bits .or .i64 ((m:Nat):Int) (wrap64 (2^x))=((m ||| 1 <<< x:Nat):Int)∧(m ||| 1 <<< x)<32:=by decide+kernel
theorem q5s(o:List Nat)(m x:Nat):Nat.testBit (o.foldl (fun m x=>m ||| 1 <<< x) m) x=(Nat.testBit m x||decide (x∈o)):=by
 induction o generalizing m with
 |nil=>simp
 |cons y o ih=>
  rw[List.foldl_cons,ih,Nat.testBit_or,Nat.one_shiftLeft,Nat.testBit_two_pow];by_cases h:y=x
  ·subst h;simp
  ·have h': ¬x=y:=fun e=>h e.symm
   simp[h,h']
theorem q3b(o:List Nat)(x:Nat)(h:x∉o):Nat.testBit (q5r o) x=false:=by
 rw[q5r,q5s];simp[h]
theorem qz0(o:List Nat)(k:Nat)(hk:k<o.length):q5r (o.take (k+1))=q5r (o.take k) ||| 1 <<< o[k]:=by
 rw[Yad hk,q5r,List.foldl_append];rfl
theorem q5t(o:List Nat)(h: ∀x∈o,x<5):q5r o<32:=by
 suffices hs: ∀(m:Nat),m<32→o.foldl (fun m x=>m ||| 1 <<< x) m<32 from hs 0 (by omega)
 induction o with
 |nil=>intro m hm;exact hm
 |cons y o ih=>
  intro m hm;exact ih (fun x hx=>h x (Ybn _ hx)) _ (qzz m hm y (h y (by simp))).2
theorem q3c{o:List Nat}(h:o.Nodup)(k:Nat)(hk:k<o.length):o[k]∉o.take k:=by
 have h1:(o.take (k+1)).Nodup:=h.sublist (List.take_sublist _ _);rw[Yad hk,List.nodup_append] at h1;intro hm;exact h1.2.2 _ hm _ (by simp) rfl
theorem qjo(A B:ZA)(l:List Tk)(o:List Nat)(c d:Nat)(w:World)(h:TS w A l)(g:IS w B (Vv o))(hs:Qe l=true)(ho:o.Perm (List.range l.length)):
  Calls Tryz.prog 179 #[.slice A l.length c,.slice B o.length d] w fun e w'=>e=.returned (.bool true)∧Below w.heap.size w w':=by
 have hl5:=(Qj hs).1;have hol:o.length=l.length:=by rw[ho.length_eq,List.length_range]
 have hne:((o.length:Int) !=l.length)=false:=by simp[hol]
 have HS:=zhi hs;have HO:=zhi ho;have hol5:o.length≤5:=by omega
 have Hol:=zhi hol;clear hs ho hol;go_enter Tryz.func179,Tryz.ntmps179;go_wp2_with fail;refine(Qf A l c _ h).mono ?_;rw[HS.out];rintro e w1 ⟨rfl,b1⟩;go_wp2_with fail;go_loopw [5,20] (fun i j wr=> ∃k:Nat,k≤o.length∧j=.int .i64 (k:Int)∧i=.int .i64 ((q5r (o.take k):Nat):Int)∧Below w.heap.size w wr) (fun _ j _=>o.length-(intOf j).toNat)
 case atStart=>exact⟨0,by omega,rfl,rfl,b1⟩
 case round=>
  obtain⟨k,hk,rfl,rfl,hb⟩:=hrel;by_cases hlt:k<o.length
  ·obtain⟨b,off,rfl,hbl,hc⟩:=g.keep hb (by rw[Qh];omega);have c0:=hc k _ (qjn o k hlt);clear hc
   have hx:o[k]<l.length:=by
    have:=HO.out.mem_iff.1 (Yao hlt);simpa using this
   have hm:=q5t (o.take k) (fun x hx=>by
    have:=HO.out.mem_iff.1 (Ydd hx);simp at this;omega)
   have hnd:o.Nodup:=HO.out.nodup_iff.2 List.nodup_range;have hf:=q3a _ hm _ (show o[k]<5 by omega) (q3b _ _ (q3c hnd k hlt));have hp:=zhi (qzz _ hm _ (show o[k]<5 by omega)).1;have ht:=zhi (qz0 o k hlt);have hx': ¬l.length≤o[k]:=by omega
   go_wp2_with fail;go_roundw
   case rel=>exact⟨k+1,by omega,by go_num,by rw[hp.out,ht.out],hb⟩
   case measure=>simp[intOf];omega
  ·go_wp2_with fail;go_ret;exact⟨rfl,hb⟩
theorem qlh(A B:ZA)(l:List Tk)(o:List Nat)(c d:Nat)(w:World)(h:TS w A l)(g:IS w B (Vv o))(hx: ∀x∈o,x<l.length)(hl:l.length≤100000)(ho:o.length≤100000):
  Calls Tryz.prog 84 #[.slice A l.length c,.slice B o.length d] w (q2t w (qb5 l o)):=by
 have HX:=zhi hx;clear hx;go_enter Tryz.func84,Tryz.ntmps84;go_wp2_with fail;go_loopw [5,6] (fun v i wr=> ∃(k:Nat) (A':ZA) (c':Nat) (l':List Tk),i=.int .i64 (k:Int)∧v=.slice A' l'.length c'∧k≤o.length∧l'.length=k∧Hid (l'=qb5 l (o.take k))∧OT w.heap.size wr A' c' l'∧Below w.heap.size w wr) (fun _ i _=>o.length-(intOf i).toNat)
 case atStart=>exact⟨0,_,0,[],rfl,rfl,by omega,rfl,by simp[Hid,qb5],Q8 w _ (zlr _),bal br _⟩
 case round=>
  obtain⟨k,A',c',l',rfl,rfl,hk,hll,hg,hO,hb⟩:=hrel;have Hll:=zhi hll;have hl1:l'.length≤100000:=by omega
  clear hll;by_cases hlt:k<o.length
  ·have hxk:=HX.out _ (Yao hlt);obtain⟨b',off',rfl,hbl',hc'⟩:=g.keep hb (by rw[Qh];omega);have d0:=hc' k _ (qjn o k hlt);clear hc'
   have hpk:Hid (qb5 l (o.take (k+1))=qb5 l (o.take k)++[Qg l o[k]]):=by
    rw[Hid,Yad hlt,qb5,Ybg];rfl
   generalize o[k]=x at*;obtain⟨b,off,rfl,hbl,hc⟩:=h.keep hb (by omega);obtain⟨c0,c1,c2,c3,c4⟩:=Qv hc x hxk;clear hc;go_wp2_with (at_builtin;refine qa1 _ rfl _ _ rfl w.heap.size A' l' c' rfl (Vb hO _) wr.heap.size 1 (Qg l x) _ 58 rfl (zha wr _) rfl (by omega) (by have:=hb.size;simp;omega) ?_;intro A3 c3' w3 hO3 hg3 hb3)
   go_roundw
   case rel=>exact⟨k+1,A3,c3',l'++[Qg l x],by go_num,by simp,by omega,by simp[Hll.out],by rw[Hid,hpk.out,hg.out],hO3,(bal hb _).trans hb3⟩
   case measure=>simp[intOf];omega
  ·go_wp2_with fail;go_ret;have e:=hg.out;rw[Yar (by omega)] at e;subst e;exact⟨A',c',rfl,hO,hb⟩
theorem qgz(A B:ZA)(l:List Tk)(o:List Nat)(c d:Nat)(w:World)(h:TS w A l)(g:IS w B (Vv o))(hx: ∀x∈o,x<l.length)(hl:l.length≤100000)(ho:o.length≤100000)(hs:Qe l=true)(hp:o.Perm (List.range l.length)):
  Calls Tryz.prog 124 #[.slice A l.length c,.slice B o.length d] w (qq2 w (qb5 l o) true):=by
 have HX:=zhi hx;clear hx;have HS:=zhi hs;have HP:=zhi hp;clear hs hp;go_enter Tryz.func124,Tryz.ntmps124;go_wp2_with fail;refine(qjo A B l o c d _ h g HS.out HP.out).mono ?_;rintro e w0 ⟨rfl,b0⟩;go_wp2_with fail;go_loopw [6,16] (fun v i wr=> ∃(k:Nat) (A':ZA) (c':Nat) (l':List Tk),i=.int .i64 (k:Int)∧v=.slice A' l'.length c'∧k≤o.length∧l'.length=k∧Hid (l'=qb5 l (o.take k))∧OT w.heap.size wr A' c' l'∧Below w.heap.size w wr) (fun _ i _=>o.length-(intOf i).toNat)
 case atStart=>exact⟨0,_,0,[],rfl,rfl,by omega,rfl,by simp[Hid,qb5],Q8 w0 _ b0.size,bal b0 _⟩
 case round=>
  obtain⟨k,A',c',l',rfl,rfl,hk,hll,hg,hO,hb⟩:=hrel;have Hll:=zhi hll;have hl1:l'.length≤100000:=by omega
  clear hll;by_cases hlt:k<o.length
  ·have hxk:=HX.out _ (Yao hlt);obtain⟨b',off',rfl,hbl',hc'⟩:=g.keep hb (by rw[Qh];omega);have d0:=hc' k _ (qjn o k hlt);clear hc'
   have hpk:Hid (qb5 l (o.take (k+1))=qb5 l (o.take k)++[Qg l o[k]]):=by
    rw[Hid,Yad hlt,qb5,Ybg];rfl
   generalize o[k]=x at*;obtain⟨b,off,rfl,hbl,hc⟩:=h.keep hb (by omega);obtain⟨c0,c1,c2,c3,c4⟩:=Qv hc x hxk;clear hc;go_wp2_with (at_builtin;refine qa1 _ rfl _ _ rfl w.heap.size A' l' c' rfl (Vb hO _) wr.heap.size 1 (Qg l x) _ 58 rfl (zha wr _) rfl (by omega) (by have:=hb.size;simp;omega) ?_;intro A3 c3' w3 hO3 hg3 hb3)
   go_roundw
   case rel=>exact⟨k+1,A3,c3',l'++[Qg l x],by go_num,by simp,by omega,by simp[Hll.out],by rw[Hid,hpk.out,hg.out],hO3,(bal hb _).trans hb3⟩
   case measure=>simp[intOf];omega
  ·go_wp2_with fail;go_ret2;have e:=hg.out;rw[Yar (by omega)] at e;subst e;exact⟨A',c',rfl,hO,hb⟩
section
theorem Q6(w:World){ops:Array Oper}{rest:List Oper}{o:Oper}{a:Act}{Q:Exit→Act→World→Prop}(hgd:o.guard=none)(s x:Operand)
  (ho:o.op=.call {callee:=.builtin .append,args:=#[s,x],argTypes:=#[27,27]})
  (base b0:Nat) (l:List Int) (n c:Nat) (hn:l.length=n) (hs:a.eval s=.slice (some ⟨b0,0,none⟩) n c) (hown:OI base w (some ⟨b0,0,none⟩) c l)
  (b c1:Nat) (y:Int) (ty:TypeId) (hx:a.eval x=.slice (some ⟨b,0,none⟩) 1 c1) (hb:w.heap[b]? =some (.cells #[.int .i64 y] ty (0,0)))
  (hl:l.length≤2000000) (hbase:base≤w.heap.size) (H:Nat) (hH:w.heap.size=H)
  (h: ∀g c' w',OI base w' (some ⟨g,0,none⟩) c' (l++[y])→w.grownBy w' (some b0)→(b0=g∨g=H)→Below base w w'→wpList Tryz.prog ops Q rest (a.put o.dst (.slice (some ⟨g,0,none⟩) (n+1) c')) w'):wpList Tryz.prog ops Q (o::rest) a w:=by
 subst hn;obtain⟨i0,hi,hz0,hz1,hz2⟩:=Ybv qd6
 refine wpList_append_lies w hgd s x 27 ho base 3 i0 _ 1 8 Tryz.underlying27 hi hz0 hz1 hz2 rfl (by decide) (.slice (some ⟨b0,0,none⟩) l.length c) l.length (l.map (.int .i64)) hs hown
  ⟨b,0,none⟩ 1 c1 [.int .i64 y] hx rfl ?_ ?_ (by omega) (by unfold maxLen;omega) (by omega) hbase H hH ?_
 ·intro j u hj;rw[qai,Ybf w b j _ ty (0,0) hb,←Ybk];exact hj
 ·intro u hu;simp at hu;subst hu;rfl
 ·intro g c' w' hown' hg hat _;refine h g c' w' ?_ hg (by simpa [Value.ownBlock] using hat) (qad hown hg hbase);unfold OI;rw[Yaa,Yat,Ybg];exact hown'
theorem Qx(w:World)(b i:Nat)(v:Value):w.grownBy (w.setCell ⟨b,i,none⟩ v) (some b):=
 ⟨rfl,rfl,rfl,by simp[World.setCell],fun k _ hk=>Yal _ _ _ _ (fun e=>hk (by simp[e]))⟩
theorem q64{base:Nat}{w:World}{b c:Nat}{l:List Int}(h:OI base w (some ⟨b,0,none⟩) c l)(i:Nat)(x:Int):
  OI base (w.setCell ⟨b,i,none⟩ (.int .i64 x)) (some ⟨b,0,none⟩) c (l.set i x):=by
 have h1:=World.ownsRow.stored h i (.int .i64 x);unfold OI;rw[Ybc,List.map_set];exact h1.1
theorem qdd{base:Nat}{w:World}{b c:Nat}{l:List Int}(h:OI base w (some ⟨b,0,none⟩) c l)(i:Nat)(hi:i<l.length):w.cell? ⟨b,i,none⟩=some (.int .i64 (l.getD i 0))∧w.frozen? ⟨b,i,none⟩=false:=by
 obtain⟨b',off,hA,_,hc⟩:=h.is (by omega);cases hA
 have:=hc i (l.getD i 0) (by simp[hi]);rw[Ybj] at this;exact⟨this,World.ownsRow.frozenAt h i⟩
theorem q65(n:Nat):(madeCells (Value.int .i64 0).cells (n*1)).toList=(List.replicate n (0:Int)).map (.int .i64):=by
 apply Yck
 intro j;have e:(Value.int .i64 0).cells= #[.int .i64 0]:=rfl;rw[e,Nat.mul_one];by_cases h:j<n
 ·simp[madeCells,h,Nat.mod_one]
 ·simp[madeCells,h]
theorem qz1(n:Nat)(hn:n≤1000000): ∃row:Array Value,(∀w:World,(Instr.makeSlice 27 (.int .i64 (n:Int)) (.int .i64 (n:Int))).run Tryz.prog w=.ok (.slice (some ⟨w.heap.size,0,none⟩) n n) (w.alloc (.cells row 3)))∧
  ∀w:World,OI w.heap.size (w.alloc (.cells row 3)) (some ⟨w.heap.size,0,none⟩) n (List.replicate n 0):=by
 obtain⟨i0,hi,hz0,hz1,hz2⟩:=Ybv qd6;refine⟨madeCells (Value.int .i64 0).cells (n*1),fun w=>?_,fun w=>?_⟩
 ·have hb:(i0.bytes:Int)*(n:Int)≤281474976710656:=by
   have h:i0.bytes*n≤256*16777216:=Ycu (by omega) (by omega);have h2:((i0.bytes*n:Nat):Int)≤281474976710656:=by omega
   rwa [Ybr] at h2
  have hr:=run_make (P:=Tryz.prog) w 27 3 i0 _ Tryz.underlying27 hi hz0 .i64 .i64 n n (by omega) (by omega) hb (by omega);simp only[Yam] at hr;rw[←hz1];exact hr
 ·have:=qq1 (w:=w) (t:=3) (size:=1) (n:=n) (row:=madeCells (Value.int .i64 0).cells (n*1)) (by rw[size_madeCells]) (by omega);unfold OI;rw[q65] at this;rw[List.length_replicate];exact this
abbrev Rw:=Nat×Nat×List Int
structure IRows (base:Nat) (w:World) (R:List Rw):Prop where
 own: ∀r,r∈R→OI base w (some ⟨r.1,0,none⟩) r.2.1 r.2.2
 nd:R.Pairwise (fun a b=>a.1≠b.1)
section
variable {base:Nat} {w w':World} {R:List Rw}
theorem IRows.keep(h:IRows base w R)(hb:Below w.heap.size w w'):IRows base w' R:=⟨fun r hr=>Q3 (h.own r hr) hb,h.nd⟩
theorem IRows.lt(h:IRows base w R){r:Rw}(hr:r∈R):base≤r.1∧r.1<w.heap.size:=World.ownsRow.lt (h.own r hr) r.1 rfl
theorem IRows.other(h:IRows base w R){row:Option Nat}(hg:w.grownBy w' row)(hr: ∀b,row=some b→ ∃cs t fz,w.heap[b]? =some (.cells cs t fz)∧t≠3):IRows base w' R:=by
 refine⟨fun r hr'=>?_,h.nd⟩;refine World.ownsRow.kept (h.own r hr') hg ?_;right
 intro e;obtain⟨cs,t,fz,k1,k2⟩:=hr r.1 e.symm;rcases(h.own r hr').2 with⟨hv,_⟩|⟨g,cap,cur,hv,_,hh,_⟩
 ·cases hv
 ·cases hv
  rw[hh] at k1;injection k1 with k1
  injection k1 with _ kt _
  exact k2 kt.symm
theorem IRows.setX(h:IRows base w R){b:Nat}{cs:Array Value}{t:TypeId}(hk:w.heap[b]? =some (.cells cs t (0,0)))(ht:t≠3)(i:Nat)(v:Value):IRows base (w.setCell ⟨b,i,none⟩ v) R∧(w.setCell ⟨b,i,none⟩ v).heap[b]? =some (.cells (cs.setIfInBounds i v) t (0,0)):=
 ⟨h.other (Qx w b i v) (fun b' hb=>by cases hb;exact⟨_,_,_,hk,ht⟩),Yan w b i cs t v hk⟩
theorem IRows.one(h:IRows base w R)(k:Nat){g c:Nat}{l:List Int}(hk:R[k]? =some (g,c,l)){g' c':Nat}{l':List Int}(hO:OI base w' (some ⟨g',0,none⟩) c' l')(hg:w.grownBy w' (some g))(hgg:g=g'∨g'=w.heap.size):
  IRows base w' (R.set k (g',c',l')):=by
 have hkl:=(List.getElem?_eq_some_iff.1 hk).1;have hnd:=List.pairwise_iff_getElem.1 h.nd;have hkk:R[k]=(g,c,l):=(List.getElem?_eq_some_iff.1 hk).2
 have hother: ∀i (hi:i<R.length),i≠k→R[i].1≠g:=by
  intro i hi hne;rcases Nat.lt_or_gt_of_ne hne with h1|h1
  ·have:=hnd i k hi hkl h1;rw[hkk] at this;exact this
  ·have:=hnd k i hkl hi h1;rw[hkk] at this;exact fun e=>this e.symm
 constructor
 ·intro r hr;rcases List.mem_iff_getElem.1 hr with⟨i,hi,rfl⟩
  rw[Ybc] at hi;rw[List.getElem_set];split
  ·exact hO
  ·rename_i hne
   have hm:=h.own R[i] (Yao hi);refine World.ownsRow.kept hm hg (.inr ?_);intro e;have:R[i].1=g:=by simpa [Value.ownBlock] using e
   exact hother i hi (fun e=>hne e.symm) this
 ·rw[List.pairwise_iff_getElem];intro i j hi0 hj0 hij;have hi:i<R.length:=by rwa [Ybc] at hi0
  have hj:j<R.length:=by rwa [Ybc] at hj0
  rw[List.getElem_set,List.getElem_set];have hlt: ∀i (hi:i<R.length),R[i].1<w.heap.size:=fun i hi=>(h.lt (Yao hi)).2
  split
  ·rename_i e1
   rw[Yaq (by omega)];intro e;have e:g'=R[j].1:=e;rcases hgg with rfl|rfl
   ·exact hother j hj (by omega) e.symm
   ·have:=hlt j hj;omega
  ·split
   ·intro e;have e:R[i].1=g':=e;rcases hgg with rfl|rfl
    ·exact hother i hi (by omega) e
    ·have:=hlt i hi;omega
   ·exact hnd i j hi hj hij
theorem IRows.new(h:IRows base w R){c:Nat}{l:List Int}(hO:OI base w' (some ⟨w.heap.size,0,none⟩) c l)(hb:Below w.heap.size w w'):IRows base w' (R++[(w.heap.size,c,l)]):=by
 constructor
 ·intro r hr;rw[Ybq,Yaw] at hr;rcases hr with hr|rfl
  ·exact Q3 (h.own r hr) hb
  ·exact hO
 ·rw[Yea];refine⟨h.nd,by simp,?_⟩;intro a ha b hb';rw[Yaw] at hb';subst hb';have:=(h.lt ha).2;show a.1≠w.heap.size;omega
theorem IRows.sub(h:IRows base w R){R':List Rw}(hs:R'.Sublist R):IRows base w R':=⟨fun r hr=>h.own r (hs.mem hr),h.nd.sublist hs⟩
theorem IRows.nil(base:Nat)(w:World):IRows base w []:=⟨fun r hr=>(by cases hr),List.Pairwise.nil⟩
theorem IRows.store(h:IRows base w R)(k:Nat){g c:Nat}{l:List Int}(hk:R[k]? =some (g,c,l))(i:Nat)(x:Int):IRows base (w.setCell ⟨g,i,none⟩ (.int .i64 x)) (R.set k (g,c,l.set i x)):=
 h.one k hk (q64 (h.own _ (List.mem_of_getElem? hk)) i x) (Qx w g i _) (.inl rfl)
theorem IRows.at(h:IRows base w R)(k:Nat){g c:Nat}{l:List Int}(hk:R[k]? =some (g,c,l)):OI base w (some ⟨g,0,none⟩) c l:=h.own _ (List.mem_of_getElem? hk)
end
end
section
def jA(js:List Jb)(i:Nat):Int:=(Qt js i).at_
def jK(js:List Jb)(i:Nat):Nat:=(Qt js i).task.toNat
def jN(js:List Jb)(i:Nat):Int:=(Qt js i).need
structure Apart (l:List Tk) (js:List Jb):Prop where
 at0: ∀i,i<js.length→0≤jA js i
 tk: ∀i,i<js.length→jK js i<l.length
 need: ∀i,i<js.length→1≤jN js i∧jN js i≤(Qg l (jK js i)).high
 far: ∀i j,i<j→j<js.length→jK js i=jK js j→jA js i+(Qg l (jK js i)).every≤jA js j
structure Sch (l:List Tk) (js:List Jb) (key:Bool→Nat→Int) (lv cm:Nat→Nat→Prop) (hi md:Nat→Bool) (run:Nat→Option Nat) (dn:Nat→Nat→Int):Prop where
 lv0: ∀i,¬lv 0 i
 cmIff: ∀t i,cm t i↔lv t i∨(i<js.length∧jA js i=(t:Int)∧(md t=true→(Qg l (jK js i)).crit=true))
 mdE: ∀t i,lv t i→md t=hi t
 md0: ∀t,(∀i,¬lv t i)→md t=false
 lvCm: ∀t i,lv (t+1) i→cm t i
 lvLt: ∀t i,lv t i→i<js.length∧jA js i<(t:Int)
 runs: ∀t i,cm t i→ ∃r,run t=some r∧key (md t) r≤key (md t) i
 runCm: ∀t r,run t=some r→cm t r
 dnS: ∀t i,dn (t+1) i=dn t i+(if run t=some i then 1 else 0)
 dn0: ∀(t i:Nat),i<js.length→(t:Int)≤jA js i→dn t i=0
 dnLv: ∀t i,lv t i→dn t i<jN js i
 dnLe: ∀t i,i<js.length→dn t i≤jN js i
 loLv: ∀t i,hi t=false→lv t i→(Qg l (jK js i)).crit=true→dn t i<(Qg l (jK js i)).low
 hiCr: ∀t i,hi t=true→lv t i→(Qg l (jK js i)).crit=true
 hiUp: ∀t,md t=true→hi (t+1)=true
section
variable {l:List Tk} {js:List Jb} {key:Bool→Nat→Int} {lv cm:Nat→Nat→Prop} {hi md:Nat→Bool} {run:Nat→Option Nat} {dn:Nat→Nat→Int}
theorem Sch.lvOf(S:Sch l js key lv cm hi md run dn){t i:Nat}(h:cm t i)(ha:jA js i<(t:Int)):lv t i:=by
 rcases(S.cmIff t i).1 h with h|⟨h1,h2,_⟩
 ·exact h
 ·omega
theorem Sch.back(S:Sch l js key lv cm hi md run dn){s i:Nat}(ha:jA js i<(s:Int)): ∀k,cm (s+k) i→lv s i:=by
 intro k;induction k with
 |zero=>exact fun h=>S.lvOf h ha
 |succ k ih=>exact fun h=>ih (S.lvCm _ _ (S.lvOf h (by omega)))
end
section
variable {l:List Tk} {js:List Jb} {key:Bool→Nat→Int} {lv cm:Nat→Nat→Prop} {hi md:Nat→Bool} {run:Nat→Option Nat} {dn:Nat→Nat→Int}
end
theorem qu4{t:Tk}(h:vld t=true)(hc:t.crit=false):t.low=t.high:=by
 simp only[vld,hc,Yac,Bool.false_or,Yef] at h;exact h.2
section
variable {l:List Tk} {js:List Jb} {lv cm:Nat→Nat→Prop} {hi md:Nat→Bool} {run:Nat→Option Nat} {dn:Nat→Nat→Int}
end
end
end Go.Proofs.YtmkjmancmiphfaaGreatDoor
