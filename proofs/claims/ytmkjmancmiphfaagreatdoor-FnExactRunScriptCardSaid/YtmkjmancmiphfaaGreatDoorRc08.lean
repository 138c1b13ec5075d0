/-
  AssignOrder: the program's.
  When a job is due, and who misses: the program's.
  A region that draws, walked by hand: a call of a function value.
  RunJobs' closures: the deadline of a job, and which of two jobs goes first: the program's.
-/
import Derived.Test.YtmkjmancmiphfaaGreatDoorRc07
namespace Go.Proofs.YtmkjmancmiphfaaGreatDoor
set_option maxHeartbeats 8000000
set_option maxRecDepth 1000000
open Go.RowKit
def qmd(l:List Tk):List Int:=match Ve l with|some o=>Vv o|none=>[]
theorem qqa(o:List Nat)(k:Nat):Vv (o.eraseIdx k)=(Vv o).eraseIdx k:=by
 simp only[Vv];induction o generalizing k with
 |nil=>rfl
 |cons a o ih=>
  cases k with
  |zero=>rfl
  |succ k=>simp[ih k]
theorem qbl(o:List Nat)(k:Nat):Vv (o++[k])=Vv o++[(k:Int)]:=by simp[Vv]
theorem qw6{l:List Tk}{left acc:List Nat}(h:(left++acc).Perm (List.range l.length)):Sub (qb5 l left) l:=by
 have h1:=qki l h;rw[qlg] at h1;refine(Sub.sub ?_).trans (Sub.perm h1);simp[qb5]
theorem qs8{l:List Tk}{left acc:List Nat}{k:Nat}(hk:k<left.length)(h:(left++acc).Perm (List.range l.length)):(left.eraseIdx k++(left.getD k 0::acc)).Perm (List.range l.length):=
 (List.perm_middle.trans ((qp4 left hk).append_right acc)).trans h
theorem qw7{p:Nat→Bool}{j:Nat}(h:p j=true):qsz p (j+1)=some j:=by simp[qsz,h]
theorem qs9{p:Nat→Bool}{j:Nat}(h:p j=false):qsz p (j+1)=qsz p j:=by simp[qsz,h]
theorem qw8{l:List Tk}{n:Nat}{left acc:List Nat}(h:qsz (qez (qb5 l left)) left.length=none):aud l (n+1) left acc=none:=by simp only[aud,h]
theorem qw9{l:List Tk}{n k:Nat}{left acc:List Nat}(h:qsz (qez (qb5 l left)) left.length=some k):aud l (n+1) left acc=aud l n (left.eraseIdx k) (left.getD k 0::acc):=by simp only[aud,h]
theorem qni{l:List Tk}(hs:Qe l=true){k:Nat}(hk:k<l.length):qev l (k:Int)=qez l k:=by simp[qev,qu5 hs hk]
theorem q3h(xs:List Value)(n:Nat)(v:Value)(hn:n<xs.length):(xs.set n v).drop n=v::xs.drop (n+1):=by
 rw[Ybo (by simpa using hn),Ycp,List.drop_set_of_lt (by omega)]
theorem qta{base B:Nat}{w w':World}{t:TypeId}{size g n cap:Nat}{xs:List Value}(h:w.ownsRow base t size (.slice (some ⟨g,0,none⟩) n cap) n xs)(hb:Below B w w')(hg:g<B):w'.ownsRow base t size (.slice (some ⟨g,0,none⟩) n cap) n xs:=by
 refine⟨h.1,?_⟩;rcases h.2 with⟨hn,_⟩|⟨g',cap',cur,hv,hg',hh,rest⟩
 ·cases hn
 ·refine .inr ⟨g',cap',cur,hv,hg',?_,rest⟩;injection hv with hv
  injection hv with hv
  injection hv with hv
  subst hv;rw[hb.block _ hg];exact hh
theorem qm2{l:List Tk}(h:Qe l=false):qmd l=[]∧(Ve l).isSome=false:=by simp[qmd,Ve,h]
theorem qfn(w:World){ops:Array Oper}{rest:List Oper}{o:Oper}{a:Act}{Q:Exit→Act→World→Prop}(hgd:o.guard=none)(s x:Operand)
  (ho:o.op=.call {callee:=.builtin .append,args:=#[s,x],argTypes:=#[27,27]})
  (base:Nat) (A:ZA) (l:List Int) (k c:Nat) (hk:l.length=k) (hs:a.eval s=.slice A k c) (hown:OI base w A c l)
  (b c1:Nat) (n:Int) (ty:TypeId) (hx:a.eval x=.slice (some ⟨b,0,none⟩) 1 c1) (hb:w.heap[b]? =some (.cells #[.int .i64 n] ty (0,0)))
  (hl:l.length≤2000000) (hbase:base≤w.heap.size)
  (h: ∀A' c' w',OI base w' A' c' (l++[n])→w.grownBy w' (Value.slice A k c).ownBlock→Below base w w'→wpList Tryz.prog ops Q rest (a.put o.dst (.slice A' (k+1) c')) w'):wpList Tryz.prog ops Q (o::rest) a w:=by
 subst hk;exact qi6 w hgd s x ho base A l c hs hown b c1 n ty hx hb hl hbase h
theorem qaq(w:World){ops:Array Oper}{rest:List Oper}{o:Oper}{a:Act}{Q:Exit→Act→World→Prop}(hgd:o.guard=none)(s x:Operand)
  (ho:o.op=.call {callee:=.builtin .append,args:=#[s,x],argTypes:=#[23,23]})
  (base:Nat) (A:ZA) (l:List Tk) (k c:Nat) (hk:l.length=k) (hs:a.eval s=.slice A k c) (hown:OT base w A c l)
  (b c1:Nat) (t:Tk) (cs:Array Value) (ty:TypeId) (hx:a.eval x=.slice (some ⟨b,0,none⟩) 1 c1) (hb:w.heap[b]? =some (.cells cs ty (0,0))) (hcs:cs.toList=t.cells)
  (hl:l.length≤2000000) (hbase:base≤w.heap.size)
  (h: ∀A' c' w',OT base w' A' c' (l++[t])→w.grownBy w' (Value.slice A k c).ownBlock→Below base w w'→wpList Tryz.prog ops Q rest (a.put o.dst (.slice A' (k+1) c')) w'):wpList Tryz.prog ops Q (o::rest) a w:=by
 subst hk;exact qa1 w hgd s x ho base A l c hs hown b c1 t cs ty hx hb hcs hl hbase h
theorem q0a{base:Nat}{w:World}{A:ZA}{c:Nat}{l:List Int}(h:OI base w A c l){p:Addr}(hp:p.block<base)(u:Value):OI base (w.setCell p u) A c l:=by
 refine⟨h.1,?_⟩;rcases h.2 with hn|⟨g,cap,cur,hv,hg,hh,rest⟩
 ·exact .inl hn
 ·exact .inr ⟨g,cap,cur,hv,hg,(Yal w p u g (by omega)).trans hh,rest⟩
theorem OI.cellAt'{base:Nat}{w:World}{b c:Nat}{l:List Int}(h:OI base w (some ⟨b,0,none⟩) c l)(k:Nat)(x:Int)(hk:l[k]? =some x):w.cell? ⟨b,k,none⟩=some (.int .i64 x):=by
 have hl:=(List.getElem?_eq_some_iff.1 hk).1;obtain⟨b',off,hA,_,hc⟩:=h.is (by omega);have:=h.cells (g:=b) rfl k (.int .i64 x) (by simp[hk]);rwa [qai] at this
theorem qbz(A:ZA)(l:List Tk)(c:Nat)(w:World)(h:TS w A l):
  Calls Tryz.prog 123 #[.slice A l.length c] w (qx6 w (qmd l) (Ve l).isSome):=by
 cases hS:Qe l with
 |false=>
  rw[(qm2 hS).1,(qm2 hS).2];go_enter Tryz.func123,Tryz.ntmps123;go_wp2_with fail;refine(Qf A l c _ h).mono ?_;rw[hS];rintro e w1 ⟨rfl,b1⟩;go_wp2_with fail;go_ret2;exact⟨none,0,rfl,qex _ _,b1⟩
 |true=>
  have hl5:=(Qj hS).1;have HS:=zhi hS;obtain⟨i0,hi0,hz0,hz1,hz2⟩:=Ybv qd6;obtain⟨row,hrs,hmk⟩:=qx5 (P:=Tryz.prog) 27 3 i0 _ 1 Tryz.underlying27 hi0 hz0 hz1 (by rw[hz2];omega) l.length (by omega);have Hrs:=zhi hrs;clear hS hrs hi0 hz0 hz1 hz2;go_enter Tryz.func123,Tryz.ntmps123;go_wp2_with fail;refine(Qf A l c _ h).mono ?_;rw[HS.out];rintro e w1 ⟨rfl,b1⟩;go_wp2_with fail;clear hmk;have hO1:=qq1 (w:=w1) (t:=3) (size:=1) (n:=l.length) (row:=row) Hrs.out (by omega);have hB2:=bal b1 (.cells row 3);have hO2:=World.ownsRow.alloc hO1 (.cells #[] 3);have hL2:=Vh (w1.alloc (.cells row 3)) (w1.heap.size+1) (by simp);have hB3:=bal hB2 (.cells #[] 3);have hz3:w1.heap.size+1<((w1.alloc (.cells row 3)).alloc (.cells #[] 3)).heap.size:=by simp
  have hz1:=b1.size;simp only[Yah] at hL2;generalize hwa:World.alloc (World.alloc w1 _) _=wa at hO2 hL2 hB3 hz3⊢;generalize hg:w1.heap.size=g at hO2 hL2 hz3 hz1⊢;clear hwa hO1 hB2 b1 hg;have HO2:=zhi hO2;clear hO2;have hwg:w.heap.size≤g+1:=by omega
  go_loopw [5,21] (fun v i wr=> ∃(k:Nat) (A':ZA) (c':Nat),i=.int .i64 (k:Int)∧v=.slice A' k c'∧k≤l.length∧OI (g+1) wr A' c' (Vv (List.range k))∧Below (g+1) wa wr) (fun _ i _=>l.length-(intOf i).toNat)
  case atStart=>exact⟨0,_,0,rfl,rfl,by omega,hL2,br⟩
  case round=>
   obtain⟨k,A',c',rfl,rfl,hk,hO,hb⟩:=hrel;have hbz:=hb.size;by_cases hlt:k<l.length
   ·have hlr:Hid ((Vv (List.range k)).length=k):=by simp[Hid,Qh]
    have hrs:Hid (Vv (List.range (k+1))=Vv (List.range k)++[(k:Int)]):=by rw[Hid,List.range_succ,qbl]
    go_wp2_with (at_builtin;refine qfn _ rfl _ _ rfl (g+1) A' (Vv (List.range k)) k c' hlr.out rfl (Q4 hO _) wr.heap.size 1 (k:Int) 3 rfl (zha wr _) (by rw[hlr.out];omega) (by simp;omega) ?_;intro A3 c3' w3 hO3 hg3 hb3)
    go_roundw
    case rel=>exact⟨k+1,A3,c3',by go_num,rfl,by omega,by rw[hrs.out];exact hO3,(Below.alloc hb (by omega) _).trans hb3⟩
    case measure=>simp[intOf];omega
   ·obtain rfl:k=l.length:=by omega
    go_wp2_with fail;have hT:=hB3.trans (hb.mono hwg);have hOr:=zhi (qta HO2.out hb (Ybe g));obtain⟨wb,rfl⟩: ∃wb:World,wb=wr:=⟨_,rfl⟩;have hzb:g+1≤wb.heap.size:=by omega
    have hs0:Hid (aud l l.length (List.range l.length) []=Ve l):=by simp[Hid,Ve,HS.out]
    clear hb hbz hz3 hB3 HO2 hL2
    go_loopw [5,7] (fun v i wx=> ∃(m:Nat) (A5:ZA) (c5:Nat) (left acc:List Nat) (xs:List Value),i=.int .i64 ((m:Int)-1)∧v=.slice A5 m c5∧m≤l.length∧Hid (left.length=m)∧Hid (aud l m left acc=Ve l)∧Hid ((left++acc).Perm (List.range l.length))∧
     OI (g+1) wx A5 c5 (Vv left)∧Hid (wx.ownsRow g 3 1 (.slice (some ⟨g,0,none⟩) l.length l.length) l.length xs)∧Hid (xs.drop m=(Vv acc).map (.int .i64))∧Below w.heap.size w wx∧g+1≤wx.heap.size) (fun _ i _=>(intOf i+1).toNat)
    case atStart=>exact⟨l.length,A',c',List.range l.length,[],row.toList,rfl,rfl,by omega,by simp[Hid],hs0,by simp[Hid],hO,hOr,by simp[Hid,Vv,Hrs.out],hT,hzb⟩
    case round=>
     clear hO hOr hs0 hT hzb;obtain⟨m,A5,c5,left,acc,xs,rfl,rfl,hm,hlm,ha,hperm,hL,hOr,hxs,hT,hzx⟩:=hrel;cases m with
     |zero=>
      rw[show(((0:Nat):Int)-1)= -1 from rfl];have hfin:Ve l=some acc:=by rw[←ha.out];rfl
      have e1:qmd l=Vv acc:=by simp[qmd,hfin]
      have e2:(Ve l).isSome=true:=by rw[hfin];rfl
      have hx0:=hxs.out;rw[List.drop_zero] at hx0;have hxl:=hOr.out.1
      have hil:(Vv acc).length=l.length:=by
       rw[hx0,Ybh] at hxl;omega
      have E1:=zhi e1;have E2:=zhi e2;have HIL:=zhi hil;have HX0:=zhi hx0;clear hfin e1 e2 hx0 hxl hil;go_wp2_with fail;go_ret2;refine⟨some ⟨g,0,none⟩,l.length,by rw[E1.out,E2.out,HIL.out];rfl,?_,hT⟩;rw[E1.out,OI,HIL.out,←HX0.out];exact Ql hOr.out hz1
     |succ j=>
      rw[show(((j+1:Nat):Int)-1)=(j:Int) by omega];obtain⟨wo,rfl⟩: ∃wo:World,wo=wr:=⟨_,rfl⟩;have hvp:Hid (Qe (qb5 l left)=true):=qgy (qw6 hperm.out) HS.out;have hpl:Hid ((qb5 l left).length=j+1):=by rw[Hid,qdv];exact hlm.out
      have hil:Hid ((Vv left).length=j+1):=by rw[Hid,Qh];exact hlm.out
      have hlt: ∀x∈left,x<l.length:=fun x hx=>by
       have:=hperm.out.mem_iff.1 (List.mem_append_left acc hx);simpa using this
      have Hlt:=zhi hlt;clear hlt;go_wp2_with fail;go_loopw [8,39] (fun v i wy=> ∃(k:Nat) (A':ZA) (c':Nat),i=.int .i64 (k:Int)∧v=.slice A' k c'∧k≤j+1∧OT wo.heap.size wy A' c' (qb5 l (left.take k))∧Below wo.heap.size wo wy) (fun _ i _=>j+1-(intOf i).toNat)
      case atStart=>exact⟨0,_,0,rfl,rfl,by omega,by simpa [qb5] using Q8 wo _ (zlr _),bal br _⟩
      case round=>
       obtain⟨k,A',c',rfl,rfl,hk,hO,hb⟩:=hrel;have hTr:=Qa hT hb;by_cases hlk:k<j+1
       ·have hkl:k<left.length:=by rw[hlm.out];exact hlk
        obtain⟨b5,off5,rfl,hbl5,hc5⟩:=(Q3 hL hb).is (by rw[hil.out];omega);have d0:=hc5 k _ (qjn left k hkl);clear hc5;have hxk:=Hlt.out _ (Yao hkl)
        have hpk:Hid (qb5 l (left.take (k+1))=qb5 l (left.take k)++[Qg l left[k]]):=by
         rw[Hid,Yad hkl,qb5,Ybg];rfl
        have hpn:Hid ((qb5 l (left.take k)).length=k):=by rw[Hid,qdv,Yap];omega
        generalize left[k]=x at*;obtain⟨b,off,rfl,hbl,hc⟩:=h.keep hTr (by omega);obtain⟨c0,c1,c2,c3,c4⟩:=Qv hc x hxk;clear hc;go_wp2_with (at_builtin;refine qaq _ rfl _ _ rfl wo.heap.size A' (qb5 l (left.take k)) k c' hpn.out rfl (Vb hO _) wr.heap.size 1 (Qg l x) _ 58 rfl (zha wr _) rfl (by rw[hpn.out];omega) (by have:=hb.size;simp;omega) ?_;intro A3 c3' w3 hO3 hg3 hb3)
        go_roundw
        case rel=>exact⟨k+1,A3,c3',by go_num,rfl,by omega,by rw[hpk.out];exact hO3,(bal hb _).trans hb3⟩
        case measure=>simp[intOf];omega
       ·obtain rfl:k=j+1:=by omega
        have hO8:OT wo.heap.size wr A' c' (qb5 l left):=by
         have e:left.take (j+1)=left:=Yar (by rw[hlm.out];exact zlr _);rw[e] at hO;exact hO
        clear hO;obtain⟨wz,rfl⟩: ∃wz:World,wz=wr:=⟨_,rfl⟩;have hsz8:=Qo hO8;rw[hpl.out] at hsz8;obtain⟨hsz8,_⟩:=hsz8;go_wp2_with fail;go_loopw [11] (fun i wy=> ∃q:Nat,i=.int .i64 ((q:Int)-1)∧q≤j+1∧Hid (qsz (qez (qb5 l left)) (j+1)=qsz (qez (qb5 l left)) q)∧Below wz.heap.size wz wy) (fun i _=>(intOf i+1).toNat)
        case atStart=>exact⟨j+1,by go_num,by omega,rfl,br⟩
        case round=>
         obtain⟨q,rfl,hq,htop,hby⟩:=hrel;have hTy:=Qa hTr hby;have hby2:=Qa hb hby;cases q with
         |zero=>
          rw[show(((0:Nat):Int)-1)= -1 from rfl]
          have hno:Ve l=none:=by
           rw[←ha.out];refine qw8 ?_;rw[hlm.out,htop.out];rfl
          have E1:Hid (qmd l=[]):=by simp[Hid,qmd,hno]
          have E2:Hid ((Ve l).isSome=false):=by simp[Hid,hno]
          clear hno;go_wp2_with fail;go_ret2;exact⟨none,0,by rw[E1.out,E2.out];rfl,by rw[E1.out];exact qex _ _,hTy⟩
         |succ r=>
          rw[show(((r+1:Nat):Int)-1)=(r:Int) by omega];have hK:=qo6 A' (qb5 l left) c' (r:Int) wr (hO8.ts.keep hby) (by rw[hpl.out];exact hsz8);rw[hpl.out,qni hvp.out (by rw[hpl.out];omega)] at hK;cases hlo:qez (qb5 l left) r with
          |false=>
           rw[hlo] at hK;have hmi:=zhi (qs9 hlo);clear hlo;go_wp2_with (go_at_call 177;refine hK.mono ?_;rintro e w9 ⟨rfl,b9⟩)
           go_roundw
           case rel=>((repeat apply Exists.intro);exact⟨⟨r,by go_num,by omega,by rw[Hid,htop.out,hmi.out],Qa hby b9⟩,rfl⟩)
           case measure=>simp[intOf]
          |true=>
           rw[hlo] at hK;have hhi:=zhi (qw7 hlo);clear hlo;go_wp2_with (go_at_call 177;refine hK.mono ?_;rintro e w9 ⟨rfl,b9⟩;have H9:=Qa hby2 b9;have hL9:=Q3 hL H9;have hO9:=qdi hOr.out H9;obtain⟨b5,rfl,hb5,hl5'⟩:=qdj hL9 (by rw[hil.out];omega);have d0:=hL9.cellAt' r (left.getD r 0) (by rw[qu3 (by rw[hlm.out];omega)];exact qjn left r (by rw[hlm.out];omega));obtain⟨⟨v0,e0⟩,ef⟩:=q5f hO9 j (by omega);have hgz:g+1≤w9.heap.size:=zll hzx H9.size)
           have hT9:=bst (Qa hT H9) (p:=⟨g,j,none⟩) hz1 (.int .i64 ((left.getD r 0:Nat):Int));have hLs:=q0a hL9 (p:=⟨g,j,none⟩) (Ybe g) (.int .i64 ((left.getD r 0:Nat):Int));have hOs:=zhi (hO9.stored j (.int .i64 ((left.getD r 0:Nat):Int))).1;have hel:((Vv left).eraseIdx r).length=j:=by rw[Ybs (by rw[hil.out];omega),hil.out];rfl
           have hD:=qo0 (g+1) b5 c5 r (Vv left) _ hLs (by rw[hil.out];omega) (by rw[hil.out];omega);rw[hil.out,hel] at hD;have hrl:Hid (r<left.length):=by rw[Hid,hlm.out];omega
           have hst:Hid (aud l j (left.eraseIdx r) (left.getD r 0::acc)=Ve l):=by
            rw[Hid,←ha.out];refine(qw9 ?_).symm;rw[hlm.out,htop.out,hhi.out]
           have hll:Hid ((left.eraseIdx r).length=j):=by rw[Hid,Ybs hrl.out,hlm.out];rfl
           have hxd:Hid ((xs.set j (.int .i64 ((left.getD r 0:Nat):Int))).drop j=(Vv (left.getD r 0::acc)).map (.int .i64)):=by
            have h1:=hOr.out.1;rw[Hid,q3h _ _ _ (by omega),hxs.out];simp[Vv]
           clear hel d0 e0 ef hK hL9 hO9 hLs;refine hD.mono ?_;rintro e w10 ⟨rfl,o10,gr10⟩;rw[←qqa] at o10;have hG10:Below (g+1) _ w10:=qkh gr10 hb5 (by simp[World.setCell];omega);have hz10:=hG10.size;simp only[World.setCell] at hz10;go_wp2_with fail;go_roundw
           case rel=>exact⟨j,_,c5,left.eraseIdx r,left.getD r 0::acc,xs.set j (.int .i64 ((left.getD r 0:Nat):Int)),by go_num,rfl,by omega,hll,hst,qs8 hrl.out hperm.out,o10,qta hOs.out hG10 (Ybe g),hxd,hT9.trans (hG10.mono hwg),by simp at hz10;omega⟩
           case measure=>simp[intOf]
theorem qyj(A:ZA)(l:List Tk)(c:Nat)(x:Nat)(a n:Int)(w:World)(h:TS w A l)(hJ:Vy l ⟨(x:Int),a,n⟩=true):
  Calls Tryz.prog 44 #[.slice A l.length c,Jb.val ⟨(x:Int),a,n⟩] w fun e w'=>e=.returned (.tuple #[.int .i64 (a+(Qg l x).due),.bool true])∧Below w.heap.size w w':=by
 have hJ2:=hJ;simp only[Vy,Yac,Yae] at hJ2;obtain⟨⟨⟨⟨hp,ha0⟩,ha1⟩,hn0⟩,_⟩:=hJ2;obtain⟨hS,hl5,hx,hqq⟩:=qbk hp;clear hqq;rw[Yam] at hx;have hev:=qao (Qs hS hx);have HJ:=zhi hJ;clear hJ hp hS hn0;obtain⟨e1,e2,e3,e4,e5⟩:=hev;have hT:=zha w (.cells #[.int .i64 (x:Int),.int .i64 a,.int .i64 n] 60 (0,0));have hba:=bal (Below.refl w.heap.size w) (.cells #[.int .i64 (x:Int),.int .i64 a,.int .i64 n] 60 (0,0));have qw:IntKind.i64.wrap (a+(Qg l x).due)=a+(Qg l x).due:=Yai _ (by omega);go_enter Tryz.func44,Tryz.ntmps44;go_wp2_with fail;refine(qle A l c ⟨(x:Int),a,n⟩ _ (h.keep hba)).mono ?_;rw[HJ.out];rintro e w1 ⟨rfl,b1⟩;have hT1:=bh b1 hT;have B1:=Qa hba b1;obtain⟨tb,toff,rfl,htr,htc⟩:=h.keep B1 (by omega);obtain⟨_,_,cy1,_,_⟩:=Qv htc x hx;obtain⟨h0,h1,h2⟩:=qk8 hT1;have hxI:(x:Int)<(l.length:Int):=by omega
 clear hT hba htc hT1;go_wp2_with fail;go_quiet (fail)
 go_wp2_with fail;go_ret2;exact⟨rfl,bdr B1 _⟩
theorem qrd(A:ZA)(l:List Tk)(c:Nat)(B:ZA)(js:List Jb)(d:Nat)(E:ZA)(en:List Int)(ce:Nat)(Tr:ZA)(T ct:Nat)(Sw:ZA)(ns cs:Nat)(hi:Bool)(w:World)
  (h:TS w A l) (g:JS w B js) (hE:IS w E en) (hen:en.length=js.length) (hjd:js.length≤d) (hjm:js.length≤maxLen) (_hT:T≤2000000) (hV:Q9 l js=true):
  Calls Tryz.prog 16 #[.slice A l.length c,.slice B js.length d,.agg #[.slice E js.length ce,.slice Tr T ct,.slice Sw ns cs,.bool hi]] w (qzj w (Vv (qbg l js en T js.length))):=by
 have hap:=qd8 hV;have hV2:=hV;simp only[Q9,Yac,Yaz,Ybu,Yae] at hV2;obtain⟨⟨hS,h60⟩,hall⟩:=hV2
 have hjob: ∀i,i<js.length→Vy l (Qt js i)=true:=fun i hi=>by
  have:=hall i hi;simp only[qco,Yac] at this;exact this.1.1
 have HV:=zhi hV;have HJ:=zhi hjob;have Hen:=zhi hen;have HS:=zhi hS;clear hV hall hjob hap hen hS;have hT0:=zha w (.cells #[.slice E js.length ce,.slice Tr T ct,.slice Sw ns cs,.bool hi] 29 (0,0));have hba:=bal (Below.refl w.heap.size w) (.cells #[.slice E js.length ce,.slice Tr T ct,.slice Sw ns cs,.bool hi] 29 (0,0));go_enter Tryz.func16,Tryz.ntmps16;go_wp2_with fail;refine(qb2 A l c B js d _ (h.keep hba) (g.keep hba) hjd hjm).mono ?_;rw[HV.out];rintro e w1 ⟨rfl,b1⟩;have hlT:=(bl hT0);have hT1:=(b1.block _ hlT).trans hT0;have B1:=Qa hba b1;have hn1:w.heap.size<w1.heap.size:=zlt hlT b1.size;clear hT0 hba b1 hlT
 obtain⟨r0,r1,_,_⟩:w1.cell? ⟨w.heap.size,0,none⟩=some (.slice E js.length ce)∧w1.cell? ⟨w.heap.size,1,none⟩=some (.slice Tr T ct)∧True∧True:=by
  refine⟨?_,?_,trivial,trivial⟩<;>(rw[Yak hT1];rfl)
 obtain⟨nR,hnR⟩: ∃nR,w.heap.size=nR:=⟨_,rfl⟩;rw[hnR] at r0 r1 hn1⊢;clear hT1;go_wp2_with fail;go_loopg [7,27] js.length (fun gg v i wr=> ∃(k bo c':Nat) (xs:List Nat),gg+k=js.length∧i=.int .i64 (k:Int)∧v=.slice (some ⟨bo,0,none⟩) xs.length c'∧Hid (qbg l js en T k=xs)∧xs.length≤k∧OI w1.heap.size wr (some ⟨bo,0,none⟩) c' (Vv xs)∧Below w1.heap.size w1 wr)
 case atStart=>exact⟨0,_,0,[],by omega,rfl,rfl,rfl,by simp,Vh w1 _ (zlr _),bal br _⟩
 case round=>
  have R0:=r0;have R1:=r1;clear r0 r1;obtain⟨k,bo,c',xs,hgk,rfl,rfl,hxs,hxl,hO,hb⟩:=hrel;have B2:=Qa B1 hb;by_cases hlt:k<js.length
  ·obtain⟨b,off,rfl,hbl,hc⟩:=g.keep B2 (by omega);obtain⟨k0,k1,k2⟩:=Vi hc k hlt;have hJk:=HJ.out k hlt;have hjk:=Vx js k hlt;rw[hjk] at hJk;have hstep:qbg l js en T (k+1)=xs++(if qrb l js en T k then [k] else []):=by rw[←hxs.out];rfl
   have hlate:qrb l js en T k=(decide (js[k].at_+(Qg l js[k].task.toNat).due<en.getD k 0)||(decide (en.getD k 0= -1)&&decide (js[k].at_+(Qg l js[k].task.toNat).due≤(T:Int)))):=by
    simp only[qrb,jA,jK,hjk]
   have hek:k<en.length:=by rw[Hen.out];exact hlt
   obtain⟨eb,eo,hEe,hel,hec⟩:=hE.keep B2 (by omega);have ek:=hec k (en.getD k 0) (by simp[hek]);clear hec hek hjk hc;generalize en.getD k 0=e at ek hlate;generalize js[k]=J at k0 k1 k2 hJk hlate;obtain⟨q,a,n⟩:=J;have hJ2:=hJk;simp only[Vy,Yac,Yae] at hJ2;obtain⟨⟨⟨⟨hp,ha0⟩,ha1⟩,_⟩,_⟩:=hJ2;obtain⟨_,_,hx,hq⟩:=qbk hp;generalize q.toNat=x at hx hq hlate;subst hq;have hev:=qao (Qs HS.out hx);have hlate:qrb l js en T k=(decide (a+(Qg l x).due<e)||(decide (e= -1)&&decide (a+(Qg l x).due≤(T:Int)))):=hlate;have hD0:0≤a+(Qg l x).due∧a+(Qg l x).due≤300:=by omega
   have HJk:=zhi hJk;have HL:=zhi hlate;have HSt:=zhi hstep;have hDue:=fun(w':World) (hw:TS w' A l)=>qyj A l c x a n w' hw HJk.out
   clear hJk hp hev hlate hstep;generalize a+(Qg l x).due=D at hDue HL hD0;subst hEe;have r0':=(hb.cell (p:=⟨nR,0,none⟩) hn1).trans R0;have r1':=(hb.cell (p:=⟨nR,1,none⟩) hn1).trans R1;go_wp2_with fail;refine(hDue _ (h.keep (bal B2 _))).mono ?_;rintro e1 w2 ⟨rfl,b2⟩;have hbb:=Qa (bal (Below.refl wr.heap.size wr) _) b2;have hn2:nR<wr.heap.size:=zlt hn1 hb.size;replace r0':=(hbb.cell (p:=⟨nR,0,none⟩) hn2).trans r0';replace r1':=(hbb.cell (p:=⟨nR,1,none⟩) hn2).trans r1';replace ek:=(hbb.cell (p:=⟨eb,eo+k,none⟩) hel).trans ek;have hO2:=Q3 hO hbb;have hb2:=Qa hb hbb;clear hDue hbb b2 hO hb k0 k1 k2 R0 R1;have hkI:(k:Int)<(js.length:Int):=by omega
   by_cases c1:D<e
   ·have d1:decide (D<e)=true:=Yag c1;have HS1:Hid (qbg l js en T (k+1)=xs++[k]):=by rw[Hid,HSt.out,HL.out];simp[c1]
    go_wp2_with (at_builtin;refine Q6 _ rfl _ _ rfl w1.heap.size bo (Vv xs) xs.length c' (Qh xs) rfl (Q4 hO2 _) w2.heap.size 1 (k:Int) 3 rfl (zha w2 _) (by rw[Qh];omega) (by have:=hb2.size;simp;omega) _ rfl ?_;intro g3 c3 w3 o3 gb3 hat3 b3)
    rw[←qbl] at o3;go_roundg (js.length-(k+1))
    case measure=>omega
    case rel=>exact⟨k+1,g3,c3,xs++[k],by omega,by go_num,by rw[Yaa];rfl,HS1.out,by simp;omega,o3,(bal hb2 _).trans b3⟩
   ·have d1:decide (D<e)=false:=Yaf c1;by_cases c2:e= -1
    ·subst c2;have d2:((-1:Int)== -1)=true:=rfl;by_cases c3':D≤(T:Int)
     ·have d3:decide (D≤(T:Int))=true:=Yag c3';have HS1:Hid (qbg l js en T (k+1)=xs++[k]):=by rw[Hid,HSt.out,HL.out];simp[c3']
      go_wp2_with (at_builtin;refine Q6 _ rfl _ _ rfl w1.heap.size bo (Vv xs) xs.length c' (Qh xs) rfl (Q4 hO2 _) w2.heap.size 1 (k:Int) 3 rfl (zha w2 _) (by rw[Qh];omega) (by have:=hb2.size;simp;omega) _ rfl ?_;intro g3 c3 w3 o3 gb3 hat3 b3)
      rw[←qbl] at o3;go_roundg (js.length-(k+1))
      case measure=>omega
      case rel=>exact⟨k+1,g3,c3,xs++[k],by omega,by go_num,by rw[Yaa];rfl,HS1.out,by simp;omega,o3,(bal hb2 _).trans b3⟩
     ·have d3:decide (D≤(T:Int))=false:=Yaf c3';have HS1:Hid (qbg l js en T (k+1)=xs):=by rw[Hid,HSt.out,HL.out];simp[c1,c3']
      go_wp2_with fail;go_roundg (js.length-(k+1))
      case measure=>omega
      case rel=>exact⟨k+1,bo,c',xs,by omega,by go_num,rfl,HS1.out,by omega,hO2,hb2⟩
    ·have d2:(e== -1)=false:=beq_eq_false_iff_ne.2 c2;have HS1:Hid (qbg l js en T (k+1)=xs):=by rw[Hid,HSt.out,HL.out];simp[c1,c2]
     go_wp2_with fail;go_roundg (js.length-(k+1))
     case measure=>omega
     case rel=>exact⟨k+1,bo,c',xs,by omega,by go_num,rfl,HS1.out,by omega,hO2,hb2⟩
  ·obtain rfl:k=js.length:=by omega
   have hxs':=hxs;go_wp2_with fail;go_ret;unfold qzj;rw[hxs.out];refine⟨_,c',by rw[Qh];rfl,Ql hO (by omega),B2⟩
theorem qqb{P:Program}{md:Region.Mode}{ops:Array Oper}{Q:Exit→Act→World→Prop}{S:World→Prop}(i:Nat)(d:Tmp){L:List Value}{df:List Deferred}{o:Oper}{fuel:Nat}{listed:Array Bool}{w:World}
  (hi:ops[i]? =some o) (hd:o.dst=some d) (hr:Region.ready md ops listed=[i]) (hw:Region.wanted o (yielded ops L.toArray)=true) (n:Nat) {fn:Func} {c:Code} (hf:P.funcs[n]? =some fn) (hname:(fn.name== "runtime.NumGoroutine")=false) (hb:fn.body=some c)
  (cal:Operand) (xs:Array Operand) (ts:Array TypeId) (hop:o.op=Op.call {callee:=Callee.value cal,args:=xs,argTypes:=ts})
  (caps:Array Value) (hcal:Act.eval ⟨L.toArray,df⟩ cal=.func (.func n) #[] caps) (all:Array Value) (hv:xs.map (Act.eval ⟨L.toArray,df⟩)++caps=all) {R:Ending→World→Prop} (h:Calls P n all w R)
  (hK: ∀e w',R e w'→ ∃v,e=.returned v∧S w'∧wpAnyH P md ops Q S fuel (listed.setIfInBounds i true) ⟨(L.set d v).toArray,df⟩ w'):wpAnyH P md ops Q S (fuel+1) listed ⟨L.toArray,df⟩ w:=by
 refine wpAnyH_all hr (by simp) ?_;intro j hj;rw[Yaw] at hj;subst hj;unfold wpOp;simp only[hi];rw[Yav hw];refine .inl ?_
 have hcall: ∀args,(callFunc n args).run P w=.ok (.enter n args) w:=by
  intro args;have h1: ¬(fn.name= "runtime.NumGoroutine"):=by simpa using hname
  simp[callFunc,hf,h1,hb]
 have hrun:(execOp (Act.eval ⟨L.toArray,df⟩) o).run P w=.ok (.enter n all) w:=by
  unfold execOp;rw[hop];simp[resolve,invoke,Deferred.ofValue,hcal,←hv,hcall]
 unfold Oper.wp;rw[hrun,Oper.upon_enter];refine h.mono ?_;intro e w' r;obtain⟨v,rfl,s,k⟩:=hK e w' r;refine⟨s,?_⟩;rw[hd];simpa [Act.put] using k
theorem q69{P:Program}{md:Region.Mode}{ops:Array Oper}{Q:Exit→Act→World→Prop}{S:World→Prop}(i:Nat)(d:Tmp){L:List Value}{df:List Deferred}{o:Oper}{fuel:Nat}{listed:Array Bool}{w:World}
  (hi:ops[i]? =some o) (hd:o.dst=some d) (hw:Region.wanted o (yielded ops L.toArray)=true) (n:Nat) {fn:Func} {c:Code} (hf:P.funcs[n]? =some fn) (hname:(fn.name== "runtime.NumGoroutine")=false) (hb:fn.body=some c)
  (xs:Array Operand) (ts:Array TypeId) (hop:o.op=Op.call {callee:=Callee.value (Operand.func n),args:=xs,argTypes:=ts})
  (vals:Array Value) (hv:xs.map (Act.eval ⟨L.toArray,df⟩)=vals) {R:Ending→World→Prop} (h:Calls P n vals w R)
  (hK: ∀e w',R e w'→ ∃v,e=.returned v∧S w'∧wpAnyH P md ops Q S fuel (listed.setIfInBounds i true) ⟨(L.set d v).toArray,df⟩ w'):wpOp P ops Q i (fun a' w'=>S w'∧wpAnyH P md ops Q S fuel (listed.setIfInBounds i true) a' w') ⟨L.toArray,df⟩ w:=by
 unfold wpOp;simp only[hi];rw[Yav hw];refine .inl ?_
 have hcall: ∀args,(callFunc n args).run P w=.ok (.enter n args) w:=by
  intro args;have h1: ¬(fn.name= "runtime.NumGoroutine"):=by simpa using hname
  simp[callFunc,hf,h1,hb]
 have hrun:(execOp (Act.eval ⟨L.toArray,df⟩) o).run P w=.ok (.enter n vals) w:=by
  unfold execOp;rw[hop];simp[resolve,invoke,Deferred.ofValue,Act.eval,←hv,hcall]
 unfold Oper.wp;rw[hrun,Oper.upon_enter];refine h.mono ?_;intro e w' r;obtain⟨v,rfl,s,k⟩:=hK e w' r;refine⟨s,?_⟩;rw[hd];simpa [Act.put] using k
theorem co{P:Program}{md:Region.Mode}{ops:Array Oper}{Q:Exit→Act→World→Prop}{S:World→Prop}(i:Nat)(d:Tmp){L:List Value}{df:List Deferred}{o:Oper}{fuel:Nat}{listed:Array Bool}{w:World}
  (hi:ops[i]? =some o) (n:Nat) {fn:Func} {c:Code} (hf:P.funcs[n]? =some fn) (vals:Array Value) {R:Ending→World→Prop} (h:Calls P n vals w R)
  (hK: ∀e w',R e w'→ ∃v,e=.returned v∧S w'∧wpAnyH P md ops Q S fuel (listed.setIfInBounds i true) ⟨(L.set d v).toArray,df⟩ w')
  {xs:Array Operand} {ts:Array TypeId} (hop:o.op=Op.call {callee:=Callee.value (Operand.func n),args:=xs,argTypes:=ts}:=by rfl) (hd:o.dst=some d:=by rfl)
  (hw:Region.wanted o (yielded ops L.toArray)=true:=by rfl) (hname:(fn.name== "runtime.NumGoroutine")=false:=by kernel_rfl) (hb:fn.body=some c:=by rfl)
  (hv:xs.map (Act.eval ⟨L.toArray,df⟩)=vals:=by simp[Act.eval]):wpOp P ops Q i (fun a' w'=>S w'∧wpAnyH P md ops Q S fuel (listed.setIfInBounds i true) a' w') ⟨L.toArray,df⟩ w:=
 q69 i d hi hd hw n hf hname hb xs ts hop vals hv h hK
theorem Vr{P:Program}{md:Region.Mode}{ops:Array Oper}{Q:Exit→Act→World→Prop}{S:World→Prop}(i:Nat)(d:Tmp){L:List Value}{df:List Deferred}{o:Oper}{fuel:Nat}{listed:Array Bool}{w:World}
  (hi:ops[i]? =some o) (hw:Region.wanted o (yielded ops L.toArray)=true)
  (h: ∀K':Act→World→Prop,(∀v w',S w'→wpAnyH P md ops Q S fuel (listed.setIfInBounds i true) ⟨(L.set d v).toArray,df⟩ w'→K' ((⟨L.toArray,df⟩:Act).put (some d) v) w')→Oper.wp P o ⟨L.toArray,df⟩ w K' Q):
  wpOp P ops Q i (fun a' w'=>S w'∧wpAnyH P md ops Q S fuel (listed.setIfInBounds i true) a' w') ⟨L.toArray,df⟩ w:=by
 unfold wpOp;simp only[hi];rw[Yav hw];exact .inl (h _ (fun v w' s k=>⟨s,by simpa [Act.put] using k⟩))
theorem Vt{P:Program}{md:Region.Mode}{ops:Array Oper}{Q:Exit→Act→World→Prop}{S:World→Prop}(i:Nat){L:List Value}{df:List Deferred}{o:Oper}{fuel:Nat}{listed:Array Bool}{w:World}
  (hi:ops[i]? =some o) (hw:Region.wanted o (yielded ops L.toArray)=true)
  (h: ∀K':Act→World→Prop,(∀w',S w'→wpAnyH P md ops Q S fuel (listed.setIfInBounds i true) ⟨L.toArray,df⟩ w'→K' ⟨L.toArray,df⟩ w')→Oper.wp P o ⟨L.toArray,df⟩ w K' Q):
  wpOp P ops Q i (fun a' w'=>S w'∧wpAnyH P md ops Q S fuel (listed.setIfInBounds i true) a' w') ⟨L.toArray,df⟩ w:=by
 unfold wpOp;simp only[hi];rw[Yav hw];exact .inl (h _ (fun w' s k=>⟨s,k⟩))
structure DueEnv (A:ZA) (l:List Tk) (c:Nat) (B:ZA) (js:List Jb) (d:Nat) (num den:Int) (L J R X:Nat) (hi:Bool) (w:World):Prop where
 ts:TS w A l
 jS:JS w B js
 cL:w.cell? ⟨L,0,none⟩=some (.slice A l.length c)
 cJ:w.cell? ⟨J,0,none⟩=some (.slice B js.length d)
 cR:w.cell? ⟨R,3,none⟩=some (.bool hi)
 cX0:w.cell? ⟨X,0,none⟩=some (.int .i64 num)
 cX1:w.cell? ⟨X,1,none⟩=some (.int .i64 den)
 Ll:L<w.heap.size
 Jl:J<w.heap.size
 Rl:R<w.heap.size
 Xl:X<w.heap.size
theorem DueEnv.keep{A:ZA}{l:List Tk}{c:Nat}{B:ZA}{js:List Jb}{d:Nat}{num den:Int}{L J R X:Nat}{hi:Bool}{w w':World}(h:DueEnv A l c B js d num den L J R X hi w)(hb:Below w.heap.size w w'):DueEnv A l c B js d num den L J R X hi w':=
 ⟨h.ts.keep hb,h.jS.keep hb,(hb.cell (p:=⟨L,0,none⟩) h.Ll).trans h.cL,(hb.cell (p:=⟨J,0,none⟩) h.Jl).trans h.cJ,(hb.cell (p:=⟨R,3,none⟩) h.Rl).trans h.cR,(hb.cell (p:=⟨X,0,none⟩) h.Xl).trans h.cX0,(hb.cell (p:=⟨X,1,none⟩) h.Xl).trans h.cX1,
  zlt h.Ll hb.size,zlt h.Jl hb.size,zlt h.Rl hb.size,zlt h.Xl hb.size⟩
structure JobsIn (l:List Tk) (js:List Jb) (num den:Int):Prop where
 v:Qe l=true
 job: ∀i,i<js.length→0≤(Qt js i).at_∧(Qt js i).at_≤200∧(Qt js i).task=(jK js i:Int)∧jK js i<l.length∧1≤(Qt js i).need∧(Qt js i).need≤20
 n0:0≤num
 n1:num≤1000000000
 d0:0≤den
 d1:den≤1000000000
theorem qix{A:ZA}{l:List Tk}{c:Nat}{B:ZA}{js:List Jb}{d:Nat}{num den:Int}{L J R X:Nat}{hi:Bool}(V:JobsIn l js num den)(i:Nat)(hil:i<js.length)(w:World)(h:DueEnv A l c B js d num den L J R X hi w):
  Calls Tryz.prog 29 #[.int .i64 (i:Int),.pointer (some ⟨L,0,none⟩),.pointer (some ⟨J,0,none⟩),.pointer (some ⟨R,0,none⟩),.pointer (some ⟨X,0,none⟩)] w fun e w'=>e=.returned (.int .i64 (qk9 l js num den hi i))∧Below w.heap.size w w':=by
 obtain⟨hTS,hJS,hL,hJ,hR,hX0,hX1,hLl,hJl,hRl,hXl⟩:=h;obtain⟨a0,a1,ht,hk,_,_⟩:=V.job i hil;have hev:=qao (Qs V.v hk);obtain⟨v1,v2,v3,v4,v5⟩:=hev;obtain⟨b,off,rfl,hbl,hc⟩:=hJS (by omega);obtain⟨k0,k1,k2⟩:=Vi hc i hil;obtain⟨tb,toff,rfl,htb,htc⟩:=hTS (by omega);obtain⟨c0,c1,c2,c3,c4⟩:=Qv htc (jK js i) hk;rw[←Vx js i hil] at k0 k1 k2;rw[ht] at k0;have hv:qk9 l js num den hi i=if(Qg l (jK js i)).crit&& !hi then(Qt js i).at_*den+(Qg l (jK js i)).due*num else((Qt js i).at_+(Qg l (jK js i)).due)*den:=rfl
 have HV:=zhi hv;have n0:=V.n0;have n1:=V.n1;have d0:=V.d0;have d1:=V.d1;clear hv hc htc ht V;generalize Qt js i=j at a0 a1 k0 k1 k2 HV;generalize jK js i=x at hk v1 v2 v3 v4 v5 c0 c1 c2 c3 c4 k0 HV;generalize Qg l x=t at v1 v2 v3 v4 v5 c0 c1 c2 c3 c4 HV;obtain⟨q,a,n⟩:=j;obtain⟨tl,th,td,te,tc⟩:=t;simp only at a0 a1 k1 k2 HV v1 v2 v3 v4 v5 c0 c1 c2 c3 c4;have hxI:(x:Int)<(l.length:Int):=by omega
 have hiI:(i:Int)<(js.length:Int):=by omega
 have p1:=qbp a0 a1 d0 d1 (by omega);have p2:=qbp (show 0≤td by omega) (show td≤20 by omega) n0 n1 (by omega);have p3:=qbp (show 0≤a+td by omega) (show a+td≤220 by omega) d0 d1 (by omega);obtain⟨p10,p11⟩:=p1;obtain⟨p20,p21⟩:=p2;obtain⟨p30,p31⟩:=p3;cases tc with
 |true=>
  cases hi with
  |false=>
   have qw1:IntKind.i64.wrap (a*den)=a*den:=Yai _ (by omega);have qw2:IntKind.i64.wrap (td*num)=td*num:=Yai _ (by omega);have qw3:IntKind.i64.wrap (a*den+td*num)=a*den+td*num:=Yai _ (by omega);have HV2:Hid (qk9 l js num den false i=a*den+td*num):=HV.out;go_enter Tryz.func29,Tryz.ntmps29;go_wp2_with fail;go_region
   have hN:=zha w (.cells #[.int .i64 tl,.int .i64 th,.int .i64 td,.int .i64 te,.bool true] 58 (0,0));have hba:Below w.heap.size w (World.alloc w (.cells #[.int .i64 tl,.int .i64 th,.int .i64 td,.int .i64 te,.bool true] 58 (0,0))).drew:=zdr (bal br _);replace k1:=(hba.cell (p:=⟨b,off+i*3+1,none⟩) hbl).trans k1;replace hJ:=(hba.cell (p:=⟨J,0,none⟩) hJl).trans hJ;replace hR:=(hba.cell (p:=⟨R,3,none⟩) hRl).trans hR;replace hX0:=(hba.cell (p:=⟨X,0,none⟩) hXl).trans hX0;replace hX1:=(hba.cell (p:=⟨X,1,none⟩) hXl).trans hX1;have hN2:(World.alloc w (.cells #[.int .i64 tl,.int .i64 th,.int .i64 td,.int .i64 te,.bool true] 58 (0,0))).drew.heap[w.heap.size]? =some (.cells #[.int .i64 tl,.int .i64 th,.int .i64 td,.int .i64 te,.bool true] 58 (0,0)):=hN;generalize(World.alloc w _).drew=wa at hba k1 hJ hR hX0 hX1 hN2⊢;generalize w.heap.size=nT at hN2⊢;obtain⟨y0,y1,y2,y3,y4,yf⟩:=Qc hN2;clear hN hN2 k0 k2 c0 c1 c2 c3 c4 hL;go_wp2_with fail;go_quiet (fail)
   go_wp2_with fail;go_ret;exact⟨by rw[HV2.out];rfl,bdr (by assumption) _⟩
  |true=>
   have qw1:IntKind.i64.wrap (a+td)=a+td:=Yai _ (by omega);have qw2:IntKind.i64.wrap ((a+td)*den)=(a+td)*den:=Yai _ (by omega);have HV2:Hid (qk9 l js num den true i=(a+td)*den):=HV.out;go_enter Tryz.func29,Tryz.ntmps29;go_wp2_with fail;go_region
   have hN:=zha w (.cells #[.int .i64 tl,.int .i64 th,.int .i64 td,.int .i64 te,.bool true] 58 (0,0));have hba:Below w.heap.size w (World.alloc w (.cells #[.int .i64 tl,.int .i64 th,.int .i64 td,.int .i64 te,.bool true] 58 (0,0))).drew:=zdr (bal br _);replace k1:=(hba.cell (p:=⟨b,off+i*3+1,none⟩) hbl).trans k1;replace hJ:=(hba.cell (p:=⟨J,0,none⟩) hJl).trans hJ;replace hR:=(hba.cell (p:=⟨R,3,none⟩) hRl).trans hR;replace hX0:=(hba.cell (p:=⟨X,0,none⟩) hXl).trans hX0;replace hX1:=(hba.cell (p:=⟨X,1,none⟩) hXl).trans hX1;have hN2:(World.alloc w (.cells #[.int .i64 tl,.int .i64 th,.int .i64 td,.int .i64 te,.bool true] 58 (0,0))).drew.heap[w.heap.size]? =some (.cells #[.int .i64 tl,.int .i64 th,.int .i64 td,.int .i64 te,.bool true] 58 (0,0)):=hN;generalize(World.alloc w _).drew=wa at hba k1 hJ hR hX0 hX1 hN2⊢;generalize w.heap.size=nT at hN2⊢;obtain⟨y0,y1,y2,y3,y4,yf⟩:=Qc hN2;clear hN hN2 k0 k2 c0 c1 c2 c3 c4 hL;go_wp2_with fail;go_quiet (fail)
   go_wp2_with fail;go_ret;exact⟨by rw[HV2.out];rfl,bdr (by assumption) _⟩
 |false=>
  have qw1:IntKind.i64.wrap (a+td)=a+td:=Yai _ (by omega);have qw2:IntKind.i64.wrap ((a+td)*den)=(a+td)*den:=Yai _ (by omega);have HV2:Hid (qk9 l js num den hi i=(a+td)*den):=HV.out;go_enter Tryz.func29,Tryz.ntmps29;go_wp2_with fail;go_region
  have hN:=zha w (.cells #[.int .i64 tl,.int .i64 th,.int .i64 td,.int .i64 te,.bool false] 58 (0,0));have hba:Below w.heap.size w (World.alloc w (.cells #[.int .i64 tl,.int .i64 th,.int .i64 td,.int .i64 te,.bool false] 58 (0,0))).drew:=zdr (bal br _);replace k1:=(hba.cell (p:=⟨b,off+i*3+1,none⟩) hbl).trans k1;replace hJ:=(hba.cell (p:=⟨J,0,none⟩) hJl).trans hJ;replace hR:=(hba.cell (p:=⟨R,3,none⟩) hRl).trans hR;replace hX0:=(hba.cell (p:=⟨X,0,none⟩) hXl).trans hX0;replace hX1:=(hba.cell (p:=⟨X,1,none⟩) hXl).trans hX1;have hN2:(World.alloc w (.cells #[.int .i64 tl,.int .i64 th,.int .i64 td,.int .i64 te,.bool false] 58 (0,0))).drew.heap[w.heap.size]? =some (.cells #[.int .i64 tl,.int .i64 th,.int .i64 td,.int .i64 te,.bool false] 58 (0,0)):=hN;generalize(World.alloc w _).drew=wa at hba k1 hJ hR hX0 hX1 hN2⊢;generalize w.heap.size=nT at hN2⊢;obtain⟨y0,y1,y2,y3,y4,yf⟩:=Qc hN2;clear hN hN2 k0 k2 c0 c1 c2 c3 c4 hL;go_wp2_with fail;go_quiet (fail)
  go_wp2_with fail;go_ret;exact⟨by rw[HV2.out];rfl,bdr (by assumption) _⟩
theorem q0b{A:ZA}{l:List Tk}{c:Nat}{B:ZA}{js:List Jb}{d:Nat}{num den pol:Int}{L J R X Pp F:Nat}{hi:Bool}(V:JobsIn l js num den)(a b:Nat)(hl_a:a<js.length)(hl_b:b<js.length)(w:World)(h:DueEnv A l c B js d num den L J R X hi w)
  (hP:w.cell? ⟨Pp,0,none⟩=some (.int .i64 pol)) (hPl:Pp<w.heap.size) (hF:w.cell? ⟨F,0,none⟩=some (.func (.func 29) #[] #[.pointer (some ⟨L,0,none⟩),.pointer (some ⟨J,0,none⟩),.pointer (some ⟨R,0,none⟩),.pointer (some ⟨X,0,none⟩)])) (hFl:F<w.heap.size) (hpol:pol=0∨pol=1):
  Calls Tryz.prog 30 #[.int .i64 (a:Int),.int .i64 (b:Int),.pointer (some ⟨Pp,0,none⟩),.pointer (some ⟨F,0,none⟩),.pointer (some ⟨J,0,none⟩)] w fun e w'=>e=.returned (.bool (qeu l js num den pol hi a b))∧Below w.heap.size w w':=by
 have hSof: ∀{w':World},Below w.heap.size w w'→w'.cell? ⟨Pp,0,none⟩=some (.int .i64 pol)∧w'.cell? ⟨F,0,none⟩=some (.func (.func 29) #[] #[.pointer (some ⟨L,0,none⟩),.pointer (some ⟨J,0,none⟩),.pointer (some ⟨R,0,none⟩),.pointer (some ⟨X,0,none⟩)]):=fun hb=>
  ⟨(hb.cell (p:=⟨Pp,0,none⟩) hPl).trans hP,(hb.cell (p:=⟨F,0,none⟩) hFl).trans hF⟩
 rcases hpol with rfl|rfl
 ·have HE:Hid (qeu l js num den 0 hi a b=qz4 js a b):=by simp[Hid,qeu]
  clear hP hF;have KK:=Below.refl w.heap.size w;have h':=h.keep KK;have hP1:=hSof KK;obtain⟨hP1,hF1⟩:=hP1;obtain⟨hTS,hJS,hL,hJ,hR,hX0,hX1,hLl,hJl,hRl,hXl⟩:=h';obtain⟨bb,off,hBe,hbl,hc⟩:=hJS (by omega);obtain⟨ka0,ka1,ka2⟩:=Vi hc a hl_a;obtain⟨kb0,kb1,kb2⟩:=Vi hc b hl_b;rw[←Vx js a hl_a] at ka0 ka1 ka2;rw[←Vx js b hl_b] at kb0 kb1 kb2;subst hBe;clear hc;have haI:(a:Int)<(js.length:Int):=by omega
  have hbI:(b:Int)<(js.length:Int):=by omega
  have HG:Hid (qz4 js a b=if(Qt js a).task=(Qt js b).task then decide ((Qt js a).at_<(Qt js b).at_) else decide ((Qt js a).task<(Qt js b).task)):=rfl;generalize Qt js a=ja at ka0 ka1 ka2 HG;generalize Qt js b=jb at kb0 kb1 kb2 HG;obtain⟨qa,aa,na⟩:=ja;obtain⟨qb,ab,nb⟩:=jb;simp only at ka0 ka1 ka2 kb0 kb1 kb2 HG;by_cases hq:qa=qb
  ·subst hq;have eq0:(qa !=qa)=false:=by simp
   rw[Yav rfl] at HG;go_enter Tryz.func30,Tryz.ntmps30;go_wp2_with fail;go_quiet (fail)
   go_wp2_with fail;go_quiet (fail)
   go_wp2_with fail;go_quiet (fail)
   go_wp2_with fail;go_ret;exact⟨by rw[HE.out,HG.out];rfl,bdr (bdr (bdr KK _) _) _⟩
  ·have eq0:(qa !=qb)=true:=by simpa using hq
   rw[Yaq hq] at HG;clear hq;go_enter Tryz.func30,Tryz.ntmps30;go_wp2_with fail;go_quiet (fail)
   go_wp2_with fail;go_quiet (fail)
   go_wp2_with fail;go_quiet (fail)
   go_wp2_with fail;go_ret;exact⟨by rw[HE.out,HG.out];rfl,bdr (bdr (bdr KK _) _) _⟩
 ·by_cases hne:qk9 l js num den hi a=qk9 l js num den hi b
  ·have HE:Hid (qeu l js num den 1 hi a b=qz4 js a b):=by simp[Hid,qeu,hne]
   go_enter Tryz.func30,Tryz.ntmps30;go_upto_region 1 with fail;refine wp_region_held (S:=fun w'=>w'.cell? ⟨Pp,0,none⟩=some (.int .i64 1)∧w'.cell? ⟨F,0,none⟩=some (.func (.func 29) #[] #[.pointer (some ⟨L,0,none⟩),.pointer (some ⟨J,0,none⟩),.pointer (some ⟨R,0,none⟩),.pointer (some ⟨X,0,none⟩)])) (by kernel_rfl) ?_;change wpAnyH _ _ _ _ _ _ _ _ (World.drew _);have Kz:Below w.heap.size w (World.drew w):=zdr br;have hS0:=hSof Kz;refine tq 0 8 (.int .i64 1) rfl (fun w hS=>by obtain⟨h0,h1⟩:=hS;go_simp) hS0 ?_;refine tq 1 9 (.bool true) rfl (fun w _=>by go_simp) hS0 ?_;refine tq 2 10 (.bool true) rfl (fun _ _=>rfl) hS0 ?_;refine tq 3 11 (.func (.func 29) #[] #[.pointer (some ⟨L,0,none⟩),.pointer (some ⟨J,0,none⟩),.pointer (some ⟨R,0,none⟩),.pointer (some ⟨X,0,none⟩)]) rfl (fun w hS=>by obtain⟨h0,h1⟩:=hS;go_simp) hS0 ?_;refine tq 4 12 (.int .i64 (a:Int)) rfl (fun _ _=>rfl) hS0 ?_;refine tq 6 14 (.func (.func 29) #[] #[.pointer (some ⟨L,0,none⟩),.pointer (some ⟨J,0,none⟩),.pointer (some ⟨R,0,none⟩),.pointer (some ⟨X,0,none⟩)]) rfl (fun w hS=>by obtain⟨h0,h1⟩:=hS;go_simp) hS0 ?_;refine tq 7 15 (.int .i64 (b:Int)) rfl (fun _ _=>rfl) hS0 ?_;refine qqb 5 13 rfl rfl (by kernel_rfl) (by rfl) 29 Tryz.func29 (by kernel_rfl) rfl _ _ _ rfl #[.pointer (some ⟨L,0,none⟩),.pointer (some ⟨J,0,none⟩),.pointer (some ⟨R,0,none⟩),.pointer (some ⟨X,0,none⟩)] (by simp[Act.eval]) #[.int .i64 (a:Int),.pointer (some ⟨L,0,none⟩),.pointer (some ⟨J,0,none⟩),.pointer (some ⟨R,0,none⟩),.pointer (some ⟨X,0,none⟩)] (by simp[Act.eval]) (qix V a hl_a _ (h.keep Kz)) ?_;rintro e v1 ⟨rfl,k1⟩;have K1:Below w.heap.size w v1:=Qa Kz k1;have S1:=hSof K1;refine⟨_,rfl,S1,?_⟩;simp only[lsS,lsZ];refine qqb 8 16 rfl rfl (by kernel_rfl) (by rfl) 29 Tryz.func29 (by kernel_rfl) rfl _ _ _ rfl #[.pointer (some ⟨L,0,none⟩),.pointer (some ⟨J,0,none⟩),.pointer (some ⟨R,0,none⟩),.pointer (some ⟨X,0,none⟩)] (by simp[Act.eval]) #[.int .i64 (b:Int),.pointer (some ⟨L,0,none⟩),.pointer (some ⟨J,0,none⟩),.pointer (some ⟨R,0,none⟩),.pointer (some ⟨X,0,none⟩)] (by simp[Act.eval]) (qix V b hl_b _ (h.keep K1)) ?_;rintro e v2 ⟨rfl,k2⟩;have K2:Below w.heap.size w v2:=Qa K1 k2;have S2:=hSof K2;refine⟨_,rfl,S2,?_⟩;simp only[lsS,lsZ];refine tq 9 17 (.bool false) rfl (fun w _=>by go_simp<;>simp[hne]) S2 ?_;refine tq 10 18 (.bool false) rfl (fun w _=>by go_simp) S2 ?_;refine wpAnyH_done (by kernel_rfl) ?_ _;clear hne hS0 S1 S2;go_upto_region 3 with fail;have KK:=K2;have h':=h.keep KK;have hP1:=hSof KK;obtain⟨hP1,hF1⟩:=hP1;obtain⟨hTS,hJS,hL,hJ,hR,hX0,hX1,hLl,hJl,hRl,hXl⟩:=h';obtain⟨bb,off,hBe,hbl,hc⟩:=hJS (by omega);obtain⟨ka0,ka1,ka2⟩:=Vi hc a hl_a;obtain⟨kb0,kb1,kb2⟩:=Vi hc b hl_b;rw[←Vx js a hl_a] at ka0 ka1 ka2;rw[←Vx js b hl_b] at kb0 kb1 kb2;subst hBe;clear hc;have haI:(a:Int)<(js.length:Int):=by omega
   have hbI:(b:Int)<(js.length:Int):=by omega
   have HG:Hid (qz4 js a b=if(Qt js a).task=(Qt js b).task then decide ((Qt js a).at_<(Qt js b).at_) else decide ((Qt js a).task<(Qt js b).task)):=rfl;generalize Qt js a=ja at ka0 ka1 ka2 HG;generalize Qt js b=jb at kb0 kb1 kb2 HG;obtain⟨qa,aa,na⟩:=ja;obtain⟨qb,ab,nb⟩:=jb;simp only at ka0 ka1 ka2 kb0 kb1 kb2 HG;by_cases hq:qa=qb
   ·subst hq;have eq0:(qa !=qa)=false:=by simp
    rw[Yav rfl] at HG;go_quiet (fail)
    go_wp2_with fail;go_quiet (fail)
    go_wp2_with fail;go_ret;exact⟨by rw[HE.out,HG.out];rfl,bdr (bdr KK _) _⟩
   ·have eq0:(qa !=qb)=true:=by simpa using hq
    rw[Yaq hq] at HG;clear hq;go_quiet (fail)
    go_wp2_with fail;go_quiet (fail)
    go_wp2_with fail;go_ret;exact⟨by rw[HE.out,HG.out];rfl,bdr (bdr KK _) _⟩
  ·have HE:Hid (qeu l js num den 1 hi a b=decide (qk9 l js num den hi a<qk9 l js num den hi b)):=by simp[Hid,qeu,hne]
   go_enter Tryz.func30,Tryz.ntmps30;go_upto_region 1 with fail;refine wp_region_held (S:=fun w'=>w'.cell? ⟨Pp,0,none⟩=some (.int .i64 1)∧w'.cell? ⟨F,0,none⟩=some (.func (.func 29) #[] #[.pointer (some ⟨L,0,none⟩),.pointer (some ⟨J,0,none⟩),.pointer (some ⟨R,0,none⟩),.pointer (some ⟨X,0,none⟩)])) (by kernel_rfl) ?_;change wpAnyH _ _ _ _ _ _ _ _ (World.drew _);have Kz:Below w.heap.size w (World.drew w):=zdr br;have hS0:=hSof Kz;refine tq 0 8 (.int .i64 1) rfl (fun w hS=>by obtain⟨h0,h1⟩:=hS;go_simp) hS0 ?_;refine tq 1 9 (.bool true) rfl (fun w _=>by go_simp) hS0 ?_;refine tq 2 10 (.bool true) rfl (fun _ _=>rfl) hS0 ?_;refine tq 3 11 (.func (.func 29) #[] #[.pointer (some ⟨L,0,none⟩),.pointer (some ⟨J,0,none⟩),.pointer (some ⟨R,0,none⟩),.pointer (some ⟨X,0,none⟩)]) rfl (fun w hS=>by obtain⟨h0,h1⟩:=hS;go_simp) hS0 ?_;refine tq 4 12 (.int .i64 (a:Int)) rfl (fun _ _=>rfl) hS0 ?_;refine tq 6 14 (.func (.func 29) #[] #[.pointer (some ⟨L,0,none⟩),.pointer (some ⟨J,0,none⟩),.pointer (some ⟨R,0,none⟩),.pointer (some ⟨X,0,none⟩)]) rfl (fun w hS=>by obtain⟨h0,h1⟩:=hS;go_simp) hS0 ?_;refine tq 7 15 (.int .i64 (b:Int)) rfl (fun _ _=>rfl) hS0 ?_;refine qqb 5 13 rfl rfl (by kernel_rfl) (by rfl) 29 Tryz.func29 (by kernel_rfl) rfl _ _ _ rfl #[.pointer (some ⟨L,0,none⟩),.pointer (some ⟨J,0,none⟩),.pointer (some ⟨R,0,none⟩),.pointer (some ⟨X,0,none⟩)] (by simp[Act.eval]) #[.int .i64 (a:Int),.pointer (some ⟨L,0,none⟩),.pointer (some ⟨J,0,none⟩),.pointer (some ⟨R,0,none⟩),.pointer (some ⟨X,0,none⟩)] (by simp[Act.eval]) (qix V a hl_a _ (h.keep Kz)) ?_;rintro e v1 ⟨rfl,k1⟩;have K1:Below w.heap.size w v1:=Qa Kz k1;have S1:=hSof K1;refine⟨_,rfl,S1,?_⟩;simp only[lsS,lsZ];refine qqb 8 16 rfl rfl (by kernel_rfl) (by rfl) 29 Tryz.func29 (by kernel_rfl) rfl _ _ _ rfl #[.pointer (some ⟨L,0,none⟩),.pointer (some ⟨J,0,none⟩),.pointer (some ⟨R,0,none⟩),.pointer (some ⟨X,0,none⟩)] (by simp[Act.eval]) #[.int .i64 (b:Int),.pointer (some ⟨L,0,none⟩),.pointer (some ⟨J,0,none⟩),.pointer (some ⟨R,0,none⟩),.pointer (some ⟨X,0,none⟩)] (by simp[Act.eval]) (qix V b hl_b _ (h.keep K1)) ?_;rintro e v2 ⟨rfl,k2⟩;have K2:Below w.heap.size w v2:=Qa K1 k2;have S2:=hSof K2;refine⟨_,rfl,S2,?_⟩;simp only[lsS,lsZ];refine tq 9 17 (.bool true) rfl (fun w _=>by go_simp<;>simp[hne]) S2 ?_;refine tq 10 18 (.bool true) rfl (fun w _=>by go_simp) S2 ?_;refine wpAnyH_done (by kernel_rfl) ?_ _;clear hne hS0 S1 S2;go_upto_region 2 with fail;refine wp_region_held (S:=fun w'=>w'.cell? ⟨Pp,0,none⟩=some (.int .i64 1)∧w'.cell? ⟨F,0,none⟩=some (.func (.func 29) #[] #[.pointer (some ⟨L,0,none⟩),.pointer (some ⟨J,0,none⟩),.pointer (some ⟨R,0,none⟩),.pointer (some ⟨X,0,none⟩)])) (by kernel_rfl) ?_;change wpAnyH _ _ _ _ _ _ _ _ (World.drew _);have Ky:Below w.heap.size w (World.drew v2):=zdr K2;have hS3:=hSof Ky;refine tq 0 19 (.func (.func 29) #[] #[.pointer (some ⟨L,0,none⟩),.pointer (some ⟨J,0,none⟩),.pointer (some ⟨R,0,none⟩),.pointer (some ⟨X,0,none⟩)]) rfl (fun w hS=>by obtain⟨h0,h1⟩:=hS;go_simp) hS3 ?_;refine tq 1 20 (.int .i64 (a:Int)) rfl (fun _ _=>rfl) hS3 ?_;refine tq 3 22 (.func (.func 29) #[] #[.pointer (some ⟨L,0,none⟩),.pointer (some ⟨J,0,none⟩),.pointer (some ⟨R,0,none⟩),.pointer (some ⟨X,0,none⟩)]) rfl (fun w hS=>by obtain⟨h0,h1⟩:=hS;go_simp) hS3 ?_;refine tq 4 23 (.int .i64 (b:Int)) rfl (fun _ _=>rfl) hS3 ?_;refine qqb 2 21 rfl rfl (by kernel_rfl) (by rfl) 29 Tryz.func29 (by kernel_rfl) rfl _ _ _ rfl #[.pointer (some ⟨L,0,none⟩),.pointer (some ⟨J,0,none⟩),.pointer (some ⟨R,0,none⟩),.pointer (some ⟨X,0,none⟩)] (by simp[Act.eval]) #[.int .i64 (a:Int),.pointer (some ⟨L,0,none⟩),.pointer (some ⟨J,0,none⟩),.pointer (some ⟨R,0,none⟩),.pointer (some ⟨X,0,none⟩)] (by simp[Act.eval]) (qix V a hl_a _ (h.keep Ky)) ?_;rintro e v3 ⟨rfl,k3⟩;have K3:Below w.heap.size w v3:=Qa Ky k3;have S3:=hSof K3;refine⟨_,rfl,S3,?_⟩;simp only[lsS,lsZ];refine qqb 5 24 rfl rfl (by kernel_rfl) (by rfl) 29 Tryz.func29 (by kernel_rfl) rfl _ _ _ rfl #[.pointer (some ⟨L,0,none⟩),.pointer (some ⟨J,0,none⟩),.pointer (some ⟨R,0,none⟩),.pointer (some ⟨X,0,none⟩)] (by simp[Act.eval]) #[.int .i64 (b:Int),.pointer (some ⟨L,0,none⟩),.pointer (some ⟨J,0,none⟩),.pointer (some ⟨R,0,none⟩),.pointer (some ⟨X,0,none⟩)] (by simp[Act.eval]) (qix V b hl_b _ (h.keep K3)) ?_;rintro e v4 ⟨rfl,k4⟩;have K4:Below w.heap.size w v4:=Qa K3 k4;have S4:=hSof K4;refine⟨_,rfl,S4,?_⟩;simp only[lsS,lsZ];refine tq 6 25 (.bool (decide (qk9 l js num den hi a<qk9 l js num den hi b))) rfl (fun w _=>by go_simp) S4 ?_;refine tq 7 7 (.bool (decide (qk9 l js num den hi a<qk9 l js num den hi b))) rfl (fun _ _=>rfl) S4 ?_;refine wpAnyH_done (by kernel_rfl) ?_ _;go_wp2_with fail;go_ret;exact⟨by rw[HE.out];rfl,K4⟩
end Go.Proofs.YtmkjmancmiphfaaGreatDoor
