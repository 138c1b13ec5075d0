/-
  l1Set: drawn tasks.
  l1Wrong: a task, sometimes one that is not valid.
  l9Where, l9Set, l9Case: drawn ways and tasks.
  SortDue, the reference's: insertion, task by task.
  Insertion by exchange is insertion: in plain Lean.
  SortDue: the program's (the library's sort by its kit contract, at tasks).
-/
import Derived.Test.YtmkjmancmiphfaaGreatDoorRc25
import Derived.Shelf.SlSortCmp.InsertionK
import Derived.Lib.QuietBelow
import Derived.Lib.OwnBridge
namespace Go.Proofs.YtmkjmancmiphfaaGreatDoor
set_option maxHeartbeats 8000000
set_option maxRecDepth 1000000
open Go.RowKit
theorem RD.row{W w w':World}{g p:Nat}(h:RD W w g p){base:Nat}{t:TypeId}{size:Nat}{v:Value}{n:Nat}{xs:List Value}(hown:w.ownsRow base t size v n xs)(hne:t≠98)(hg:w.grownBy w' v.ownBlock)(hb:Below W.heap.size w w'):RD W w' g p:=by
 obtain⟨A,l,c,hh,hs,hl⟩:=h.src;refine⟨h.below.trans hb,h.new,⟨A,l,c,?_,hs,hl⟩,h.small⟩;refine(hg.block g h.lt ?_).trans hh;rcases hown.2 with⟨rfl,_⟩|⟨g',cap,cur,rfl,_,hh',_⟩
 ·simp[Value.ownBlock]
 ·intro he;have:g=g':=by simpa [Value.ownBlock] using he
  subst this;rw[hh] at hh';injection hh' with hh'
  injection hh' with _ e
  exact hne e.symm
theorem q7h{a w w':World}{g:Nat}(h:a.grownBy w (some g))(hb:Below a.heap.size w w'):a.grownBy w' (some g):=
 ⟨hb.os.trans h.os,hb.tape.trans h.tape,hb.output.trans h.output,zll h.size hb.size,fun i hi hne=>(hb.block i hi).trans (h.block i hi hne)⟩
theorem q04{base:Nat}{w w':World}{A:ZA}{c:Nat}{l:List Tk}(h:OT base w A c l){W:World}{g p:Nat}(hr:RD W w g p)(hg:w.grownBy w' (some g)):OT base w' A c l:=by
 obtain⟨A',l',c',hh,_⟩:=hr.src;exact qau h hg hh (by decide)
def q55(W w:World)(g p k m:Nat)(e:Ending)(w':World):Prop:=
 ∃(A:ZA) (c:Nat) (l:List Tk) (q:Nat),e=.returned (.slice A l.length c)∧OT w.heap.size w' A c l∧(∀t∈l,Sm t)∧l.length≤m∧q≤p+k∧RD W w' g q∧w.grownBy w' (some g)
def q3r(W w:World)(g p k m:Nat)(e:Ending)(w':World):Prop:=
 ∃(A:ZA) (c:Nat) (l:List Tk) (q:Nat),e=.returned (.slice A l.length c)∧OT w.heap.size w' A c l∧(∀t∈l,Sm t∧vld t=true)∧l.length≤m∧q≤p+k∧RD W w' g q∧w.grownBy w' (some g)
theorem qvt(W w:World)(g p:Nat)(h:RD W w g p)(hp:p+31≤1099511627776):
  Calls Tryz.prog 50 #[.pointer (some ⟨g,0,none⟩)] w (q3r W w g p 31 5):=by
 have hgl:=h.lt;have hWw:=h.below.size;go_enter Tryz.func50,Tryz.ntmps50;go_wp2_with fail;refine(qq7 W _ g p _ [3,2,4,1,5,0] _ (h.grow (bal (bal br _) _)) (by omega) (qzr _ _ _ _ _ rfl (by simp)) (by simp) (by simp) (by rintro a ⟨⟩;simp;omega)).mono ?_;rintro e w1 ⟨nv,hnv,rfl,hr1,hg1⟩;have hnv:0≤nv∧nv≤5:=by simp at hnv;omega
 obtain⟨n,rfl⟩: ∃n:Nat,nv=(n:Int):=⟨nv.toNat,(Yay hnv.1).symm⟩;have hn5:n≤5:=by omega
 have hO1:OT w.heap.size w1 (some ⟨w.heap.size,0,none⟩) 0 []:=q04 (Vb (Q8 w _ (zlr _)) _) (h.grow (bal (bal br _) _)) hg1;have hG1:Hid (w.grownBy w1 (some g)):=Vo (qir (qir (World.grownBy.refl _ _) _) _) hg1;have hs1:w.heap.size≤w1.heap.size:=by have:=hg1.size;simp at this;omega
 clear hg1 hnv;go_wp2_with fail;go_loopw [3,4] (fun v i wr=> ∃(k q:Nat) (A:ZA) (c:Nat) (l:List Tk),i=.int .i64 (k:Int)∧v=.slice A l.length c∧k+l.length≤5∧q≤p+1+6*l.length∧OT w.heap.size wr A c l∧(∀t∈l,Sm t∧vld t=true)∧RD W wr g q∧Hid (w.grownBy wr (some g))∧w.heap.size≤wr.heap.size) (fun _ i _=>(intOf i).toNat)
 case atStart=>exact⟨n,p+1,_,0,[],rfl,rfl,by simp;omega,by simp,hO1,by simp,hr1,hG1,hs1⟩
 case round=>
  obtain⟨k,q,A,c,l,rfl,rfl,hkl,hq,hO,hsm,hr,hG,hs⟩:=hrel;clear hO1 hr1 hG1 hs1;by_cases hk:0<k
  ·go_wp2_with fail;refine(qma W _ g q hr (by omega)).mono ?_;rintro e w2 ⟨t,q2,rfl,hst,hvt,hq2,hr2,hg2⟩;have hO2:=q04 hO hr hg2;have hG2:Hid (w.grownBy w2 (some g)):=Vo hG.out hg2;have hs2:w.heap.size≤w2.heap.size:=zll hs hg2.size;clear hg2 hO hG hr;go_wp2_with (at_builtin;refine qa1 _ rfl _ _ rfl w.heap.size A l c rfl (Vb hO2 _) w2.heap.size 1 t _ 58 rfl (zha w2 _) rfl (by omega) (by simp;omega) ?_;intro A3 c3 w3 hO3 hg3 hb3)
   have hr3:=(hr2.grow (bal br _)).row (Vb hO2 _) (by decide) hg3 (hb3.mono hWw);have hG3:Hid (w.grownBy w3 (some g)):=q7h (qir hG2.out _) hb3;have hs3:w.heap.size≤w3.heap.size:=by have:=hb3.size;simp at this;omega
   go_roundw
   case rel=>exact⟨k-1,q2,A3,c3,l++[t],by go_num,by simp,by simp;omega,by simp;omega,hO3,by intro x hx;rcases Ybq.1 hx with hx|hx;exact hsm x hx;simp at hx;exact hx▸⟨hst,hvt⟩,hr3,hG3,hs3⟩
   case measure=>simp[intOf];omega
  ·go_wp2_with fail;go_ret;exact⟨A,c,l,q,rfl,hO,hsm,by omega,by omega,hr,hG.out⟩
theorem qyu(W w:World)(g p:Nat)(h:RD W w g p)(hp:p+31≤1099511627776):
  Calls Tryz.prog 50 #[.pointer (some ⟨g,0,none⟩)] w (q55 W w g p 31 5):=by
 refine(qvt W w g p h hp).mono ?_;rintro e w1 ⟨A,c,l,q,h1,h2,h3,h4⟩;exact⟨A,c,l,q,h1,h2,fun t ht=>(h3 t ht).1,h4⟩
theorem qyv{w:World}{b i0 i1 i2 i3 i4:Nat}(u0 u1 u2 u3 u4:Value):w.grownBy (((((w.setCell ⟨b,i0,none⟩ u0).setCell ⟨b,i1,none⟩ u1).setCell ⟨b,i2,none⟩ u2).setCell ⟨b,i3,none⟩ u3).setCell ⟨b,i4,none⟩ u4) (some b):=
 Vo (Vo (Vo (Vo (qp0 (p:=⟨b,i0,none⟩) rfl u0) (qp0 (p:=⟨b,i1,none⟩) rfl u1)) (qp0 (p:=⟨b,i2,none⟩) rfl u2)) (qp0 (p:=⟨b,i3,none⟩) rfl u3)) (qp0 (p:=⟨b,i4,none⟩) rfl u4)
theorem qrp{base:Nat}{w:World}{b c:Nat}{l:List Tk}(h:OT base w (some ⟨b,0,none⟩) c l)(k:Nat)(hk:k<l.length):
  w.cell? ⟨b,k*5,none⟩=some (.int .i64 l[k].low)∧w.cell? ⟨b,k*5+1,none⟩=some (.int .i64 l[k].high)∧w.cell? ⟨b,k*5+2,none⟩=some (.int .i64 l[k].due)∧
  w.cell? ⟨b,k*5+3,none⟩=some (.int .i64 l[k].every)∧w.cell? ⟨b,k*5+4,none⟩=some (.bool l[k].crit)∧ ∀i,w.frozen? ⟨b,i,none⟩=false:=by
 obtain⟨b',off,hA,_,hc⟩:=h.ts (by omega);injection hA with hA
 injection hA with hb ho
 subst hb ho;obtain⟨c0,c1,c2,c3,c4⟩:=qaa hc k hk;simp only[Ybj] at c0 c1 c2 c3 c4;exact⟨c0,c1,c2,c3,c4,fun i=>World.ownsRow.frozenAt h i⟩
def bef(s t:Tk):Bool:=if s.due=t.due then decide (s.every<t.every) else decide (s.due<t.due)
def qe1(x:Tk)(out:List Tk):Nat→Nat
 |0=>0
 |n+1=>if bef x (Qg out n) then qe1 x out n else n+1
def q2w(out:List Tk)(x:Tk):List Tk:=out.take (qe1 x out out.length)++x::out.drop (qe1 x out out.length)
def qct(l:List Tk):List Tk:=l.foldl q2w []
def qfv(l:List Tk):List Tk:=if Qe l then qct l else []
theorem q05(out:List Tk)(x:Tk):(q2w out x).Perm (x::out):=by
 unfold q2w;refine List.perm_middle.trans ?_;rw[Yco]
theorem qqj(l:List Tk)(x:Tk):qct (l++[x])=q2w (qct l) x:=by simp[qct]
theorem qqk(l:List Tk):(qct l).Perm l:=by
 suffices hs: ∀(n:Nat) (l:List Tk),l.length=n→(qct l).Perm l from hs _ l rfl
 intro n;induction n with
 |zero=>
  intro l hl;cases l with
  |nil=>exact List.Perm.refl _
  |cons=>simp at hl
 |succ n ih=>
  intro l hl;rcases List.eq_nil_or_concat l with rfl|⟨q,t,rfl⟩
  ·simp at hl
  ·rw[List.concat_eq_append,qqj] at*;refine(q05 _ _).trans ?_;refine(List.Perm.cons t (ih q (by simpa using hl))).trans ?_;exact(List.perm_append_comm (l₁:=[t]) (l₂:=q))
theorem qel(l:List Tk):(qct l).length=l.length:=(qqk l).length_eq
theorem qku(s t:Tk)(w:World):
  Calls Tryz.prog 98 #[s.val,t.val] w fun e w'=>e=.returned (.bool (bef s t))∧Below w.heap.size w w':=by
 by_cases h:s.due=t.due
 ·have hf:Hid (bef s t=decide (s.every<t.every)):=by simp[Hid,bef,h]
  have hne:(s.due !=t.due)=false:=by simp[h]
  clear h;go_enter Tryz.func98,Tryz.ntmps98;go_wp2_with fail;go_ret;exact⟨by rw[hf.out];rfl,bal (bal br _) _⟩
 ·have hf:Hid (bef s t=decide (s.due<t.due)):=by simp[Hid,bef,h]
  have hne:(s.due !=t.due)=true:=by simpa using h
  clear h;go_enter Tryz.func98,Tryz.ntmps98;go_wp2_with fail;go_ret;exact⟨by rw[hf.out];rfl,bal (bal br _) _⟩
theorem qg5(w:World){ops:Array Oper}{rest:List Oper}{o:Oper}{a:Act}{Q:Exit→Act→World→Prop}(hgd:o.guard=none)(s x:Operand)
  (ho:o.op=.call {callee:=.builtin .append,args:=#[s,x],argTypes:=#[23,23]})
  (base:Nat) (A:ZA) (l:List Tk) (n c:Nat) (hn:l.length=n) (hs:a.eval s=.slice A n c) (hown:OT base w A c l)
  (ad:Addr) (j c1:Nat) (m:List Tk) (hj:m.length=j) (hx:a.eval x=.slice (some ad) j c1) (hm:TS w (some ad) m)
  (hl:l.length≤2000000) (hlm:m.length≤2000000) (hbase:base≤w.heap.size)
  (h: ∀A' c' w',OT base w' A' c' (l++m)→w.grownBy w' (Value.slice A n c).ownBlock→Below base w w'→wpList Tryz.prog ops Q rest (a.put o.dst (.slice A' (n+j) c')) w'):wpList Tryz.prog ops Q (o::rest) a w:=by
 subst hn hj;exact qet w hgd s x ho base A l c hs hown ad c1 m hx hm hl hlm hbase h
theorem qmj(A:ZA)(l:List Tk)(c:Nat)(w:World)(h:TS w A l)(hm:l.length≤maxLen):
  Calls Tryz.prog 49 #[.slice A l.length c] w (q2t w (qfv l)):=by
 cases hS:Qe l with
 |false=>
  have hv:qfv l=[]:=by simp[qfv,hS]
  have hne:0<l.length:=by
   cases l with
   |nil=>simp[Qe] at hS
   |cons=>simp
  rw[hv];clear hv;go_enter Tryz.func49,Tryz.ntmps49;go_wp2_with fail;go_loopw [3,4] (fun v i wr=>v=.slice (some ⟨w.heap.size,0,none⟩) 0 0∧i=.int .i64 0∧Hid (OT w.heap.size wr (some ⟨w.heap.size,0,none⟩) 0 [])∧Below w.heap.size w wr) (fun _ _ _=>0)
  case atStart=>exact⟨rfl,rfl,Q8 w _ (zlr _),bal br _⟩
  case round=>
   obtain⟨rfl,rfl,hO,hb⟩:=hrel;go_wp2_with fail;refine(Qd A l c _ (h.keep hb) hm).mono ?_;rw[hS];rintro e w1 ⟨rfl,b1⟩;go_wp2_with fail;go_ret;exact⟨_,0,rfl,Q5 hO.out b1,Qa hb b1⟩
 |true=>
  have hv:qfv l=qct l:=by simp[qfv,hS]
  have hl5:=(Qj hS).1;have HS:=zhi hS;rw[hv];clear hv hS;go_enter Tryz.func49,Tryz.ntmps49;go_wp2_with fail;go_loopg [3,4] l.length (fun n v i wr=> ∃(k bo c':Nat),n+k=l.length∧i=.int .i64 (k:Int)∧v=.slice (some ⟨bo,0,none⟩) k c'∧k≤c'∧OT w.heap.size wr (some ⟨bo,0,none⟩) c' (qct (l.take k))∧Below w.heap.size w wr)
  case atStart=>exact⟨0,_,0,by omega,rfl,rfl,by omega,Q8 w _ (zlr _),bal br _⟩
  case round=>
   obtain⟨k,bo,c',hnk,rfl,rfl,hkc,hO,hb⟩:=hrel;obtain⟨out,hout⟩: ∃out,qct (l.take k)=out:=⟨_,rfl⟩;have hol:Hid (out.length=k):=by rw[Hid,←hout,qel,Yap];omega
   rw[hout] at hO;have Hout:=zhi hout;clear hout;by_cases hlt:k<l.length
   ·have hnext:Hid (qct (l.take (k+1))=q2w out (Qg l k)):=by rw[Hid,Yad hlt,qqj,Hout.out,qbi l k hlt]
    go_wp2_with fail;refine(Qd A l c _ (h.keep hb) hm).mono ?_;rw[HS.out];rintro e w1 ⟨rfl,b1⟩;have B1:=Qa hb b1;have O1:=Q5 hO b1;clear hO;obtain⟨b,off,rfl,hbl,hc⟩:=h.keep B1 (by omega);obtain⟨c0,c1,c2,c3,c4⟩:=Qv hc k hlt;clear hc;have hbl1:=hbl;go_upto_block 2 with fail
    go_cut [5] from 8 to 52 (fun i wy=> ∃a:Nat,i=.int .i64 (a:Int)∧a≤k∧Hid (qe1 (Qg l k) out k=a)∧Below w1.heap.size w1 wy)
    case first=>
     go_wp2_with fail;go_loopg [5] k (fun n i wy=> ∃a:Nat,n=a∧i=.int .i64 (a:Int)∧a≤k∧Hid (qe1 (Qg l k) out k=qe1 (Qg l k) out a)∧Below w1.heap.size w1 wy)
     case atStart=>exact⟨k,rfl,rfl,by omega,rfl,br⟩
     case round=>
      obtain⟨a,hga,rfl,ha,hfa,hy⟩:=hrel;have hga':=hga.symm;clear hga;subst hga';have hB:=Qa B1 hy;have hOy:=Q5 O1 hy;cases a with
      |zero=>
       have hfin:Hid (qe1 (Qg l k) out k=0):=hfa;go_wp2_with fail;go_quiet (fail)
       go_wp2_with fail;go_meet
       case rel=>exact⟨0,rfl,by omega,hfin,bdr hy _⟩
      |succ r=>
       have hcast:(((r+1:Nat):Int))=(r:Int)+1:=by omega
       rw[hcast];have hro:r<out.length:=by rw[hol.out];omega
       obtain⟨wy,rfl⟩: ∃wy:World,wy=wr:=⟨_,rfl⟩;obtain⟨e0,e1,e2,e3,e4,_⟩:=qrp hOy r hro;rw[←qbi out r hro] at e0 e1 e2 e3 e4
       have hbow:bo<wy.heap.size:=by
        obtain⟨b',hA,_,hb'⟩:=qep hOy (by omega);cases hA
        exact hb'
       have hblw:b<wy.heap.size:=zlt hbl hy.size;have d0:=(hy.cell (p:=⟨b,off+k*5,none⟩) hbl).trans c0;have d1:=(hy.cell (p:=⟨b,off+k*5+1,none⟩) hbl).trans c1;have d2:=(hy.cell (p:=⟨b,off+k*5+2,none⟩) hbl).trans c2;have d3:=(hy.cell (p:=⟨b,off+k*5+3,none⟩) hbl).trans c3;have d4:=(hy.cell (p:=⟨b,off+k*5+4,none⟩) hbl).trans c4
       have S_of: ∀w':World,Below wy.heap.size wy w'→w'.cell? ⟨b,off+k*5,none⟩=some (.int .i64 (Qg l k).low)∧w'.cell? ⟨b,off+k*5+1,none⟩=some (.int .i64 (Qg l k).high)∧w'.cell? ⟨b,off+k*5+2,none⟩=some (.int .i64 (Qg l k).due)∧w'.cell? ⟨b,off+k*5+3,none⟩=some (.int .i64 (Qg l k).every)∧w'.cell? ⟨b,off+k*5+4,none⟩=some (.bool (Qg l k).crit)∧w'.cell? ⟨bo,r*5,none⟩=some (.int .i64 (Qg out r).low)∧w'.cell? ⟨bo,r*5+1,none⟩=some (.int .i64 (Qg out r).high)∧w'.cell? ⟨bo,r*5+2,none⟩=some (.int .i64 (Qg out r).due)∧w'.cell? ⟨bo,r*5+3,none⟩=some (.int .i64 (Qg out r).every)∧w'.cell? ⟨bo,r*5+4,none⟩=some (.bool (Qg out r).crit)∧Below wy.heap.size wy w':=fun w' hw=>
        ⟨(hw.cell (p:=⟨b,off+k*5,none⟩) hblw).trans d0,(hw.cell (p:=⟨b,off+k*5+1,none⟩) hblw).trans d1,(hw.cell (p:=⟨b,off+k*5+2,none⟩) hblw).trans d2,(hw.cell (p:=⟨b,off+k*5+3,none⟩) hblw).trans d3,(hw.cell (p:=⟨b,off+k*5+4,none⟩) hblw).trans d4,
         (hw.cell (p:=⟨bo,r*5,none⟩) hbow).trans e0,(hw.cell (p:=⟨bo,r*5+1,none⟩) hbow).trans e1,(hw.cell (p:=⟨bo,r*5+2,none⟩) hbow).trans e2,(hw.cell (p:=⟨bo,r*5+3,none⟩) hbow).trans e3,(hw.cell (p:=⟨bo,r*5+4,none⟩) hbow).trans e4,hw⟩
       have hstep:qe1 (Qg l k) out (r+1)=if bef (Qg l k) (Qg out r) then qe1 (Qg l k) out r else r+1:=rfl
       have q0:(0:Int)≤(k:Int):=by omega
       have q1:(k:Int)<(l.length:Int):=by omega
       have q2:(0:Int)≤(r:Int):=by omega
       have q3:(r:Int)<(k:Int):=by omega
       have qw:IntKind.i64.wrap ((r:Int)+1-1)=(r:Int):=by rw[Int.add_sub_cancel];exact Yai _ (by omega)
       have qw2:IntKind.i64.wrap (r:Int)=(r:Int):=Yai _ (by omega);have qw3:(0:Int)<(r:Int)+1:=by omega
       clear c0 c1 c2 c3 c4 e0 e1 e2 e3 e4 d0 d1 d2 d3 d4;cases hbf:bef (Qg l k) (Qg out r) with
       |true=>
        have hf2:Hid (qe1 (Qg l k) out k=qe1 (Qg l k) out r):=by rw[Hid,hfa.out,hstep,hbf];rfl
        clear hstep;go_wp2_with fail
        go_region_held3 (fun w'=>w'.cell? ⟨b,off+k*5,none⟩=some (.int .i64 (Qg l k).low)∧w'.cell? ⟨b,off+k*5+1,none⟩=some (.int .i64 (Qg l k).high)∧w'.cell? ⟨b,off+k*5+2,none⟩=some (.int .i64 (Qg l k).due)∧w'.cell? ⟨b,off+k*5+3,none⟩=some (.int .i64 (Qg l k).every)∧w'.cell? ⟨b,off+k*5+4,none⟩=some (.bool (Qg l k).crit)∧w'.cell? ⟨bo,r*5,none⟩=some (.int .i64 (Qg out r).low)∧w'.cell? ⟨bo,r*5+1,none⟩=some (.int .i64 (Qg out r).high)∧w'.cell? ⟨bo,r*5+2,none⟩=some (.int .i64 (Qg out r).due)∧w'.cell? ⟨bo,r*5+3,none⟩=some (.int .i64 (Qg out r).every)∧w'.cell? ⟨bo,r*5+4,none⟩=some (.bool (Qg out r).crit)∧Below wy.heap.size wy w')
         ((refine S_of _ ?_;first|assumption|exact zdr br|exact(by assumption:_∧_∧_∧_∧_∧_∧_∧_∧_∧_∧Below wy.heap.size wy _).2.2.2.2.2.2.2.2.2.2))
         (first
          |(go_at_call 98;refine(qku (Qg l k) (Qg out r) _).mono ?_;rw[hbf];rintro e w6 ⟨rfl,b6⟩;have B6:Below wy.heap.size wy w6:=Qa (by first|assumption|exact(by assumption:_∧_∧_∧_∧_∧_∧_∧_∧_∧_∧Below wy.heap.size wy _).2.2.2.2.2.2.2.2.2.2) b6))
        clear hbf;go_wp2_with fail;go_roundg r
        case measure=>omega
        case rel=>exact⟨r,rfl,by go_num,by omega,hf2,Qa hy (by first|assumption|exact(by assumption:_∧_∧_∧_∧_∧_∧_∧_∧_∧_∧Below wy.heap.size wy _).2.2.2.2.2.2.2.2.2.2)⟩
       |false=>
        have hfin:Hid (qe1 (Qg l k) out k=r+1):=by rw[Hid,hfa.out,hstep,hbf];rfl
        clear hstep;go_wp2_with fail
        go_region_held3 (fun w'=>w'.cell? ⟨b,off+k*5,none⟩=some (.int .i64 (Qg l k).low)∧w'.cell? ⟨b,off+k*5+1,none⟩=some (.int .i64 (Qg l k).high)∧w'.cell? ⟨b,off+k*5+2,none⟩=some (.int .i64 (Qg l k).due)∧w'.cell? ⟨b,off+k*5+3,none⟩=some (.int .i64 (Qg l k).every)∧w'.cell? ⟨b,off+k*5+4,none⟩=some (.bool (Qg l k).crit)∧w'.cell? ⟨bo,r*5,none⟩=some (.int .i64 (Qg out r).low)∧w'.cell? ⟨bo,r*5+1,none⟩=some (.int .i64 (Qg out r).high)∧w'.cell? ⟨bo,r*5+2,none⟩=some (.int .i64 (Qg out r).due)∧w'.cell? ⟨bo,r*5+3,none⟩=some (.int .i64 (Qg out r).every)∧w'.cell? ⟨bo,r*5+4,none⟩=some (.bool (Qg out r).crit)∧Below wy.heap.size wy w')
         ((refine S_of _ ?_;first|assumption|exact zdr br|exact(by assumption:_∧_∧_∧_∧_∧_∧_∧_∧_∧_∧Below wy.heap.size wy _).2.2.2.2.2.2.2.2.2.2))
         (first
          |(go_at_call 98;refine(qku (Qg l k) (Qg out r) _).mono ?_;rw[hbf];rintro e w6 ⟨rfl,b6⟩;have B6:Below wy.heap.size wy w6:=Qa (by first|assumption|exact(by assumption:_∧_∧_∧_∧_∧_∧_∧_∧_∧_∧Below wy.heap.size wy _).2.2.2.2.2.2.2.2.2.2) b6))
        clear hbf;go_wp2_with fail;go_meet
        case rel=>exact⟨r+1,by go_num,by omega,hfin,Qa hy (by first|assumption|exact(by assumption:_∧_∧_∧_∧_∧_∧_∧_∧_∧_∧Below wy.heap.size wy _).2.2.2.2.2.2.2.2.2.2)⟩
    case rest=>
     obtain⟨a,rfl,hle,hfin,hyd⟩:=hcut;have oW:=Q5 O1 hyd;have hta:Hid ((out.take a).length=a):=by rw[Hid,Yap,hol.out];omega
     have hda:Hid ((out.drop a).length=k-a):=by rw[Hid,Ybm,hol.out]
     obtain⟨A5,hA5,hS5⟩:=qzv oW.ts a (c:=c') (by rw[hol.out];exact hkc);rw[Ybj] at hA5;have HS1:=zhi (qld oW.ts a);have HS5:=zhi hS5;have z0:=(hyd.cell (p:=⟨b,off+k*5,none⟩) hbl1).trans c0;have z1:=(hyd.cell (p:=⟨b,off+k*5+1,none⟩) hbl1).trans c1;have z2:=(hyd.cell (p:=⟨b,off+k*5+2,none⟩) hbl1).trans c2;have z3:=(hyd.cell (p:=⟨b,off+k*5+3,none⟩) hbl1).trans c3;have z4:=(hyd.cell (p:=⟨b,off+k*5+4,none⟩) hbl1).trans c4;have hins:Hid (q2w out (Qg l k)=(out.take a++[Qg l k])++out.drop a):=by rw[Hid,q2w,hol.out,hfin.out];simp
     have hW:=Qa B1 hyd;have hac:a≤c':=by omega
     have hzb:b<wc.heap.size:=zlt hbl1 hyd.size;clear c0 c1 c2 c3 c4 hS5 oW
     go_wp2_with (first
      |(at_builtin;refine qg5 _ rfl (.tmp 36) (.tmp 39) rfl wc.heap.size (some ⟨wc.heap.size,0,none⟩) [] 0 0 rfl rfl (Q8 wc _ (zlr _)) ⟨bo,0,none⟩ a c' (out.take a) hta.out rfl (HS1.out.keep (bal br _)) (by simp) (by rw[hta.out];omega) (by simp) ?_;intro A3 c3 w3 o3 g3 b3;rw[Ycj] at o3;have B3:Below wc.heap.size wc w3:=(bal br _).trans b3;have y0:=(B3.cell (p:=⟨b,off+k*5,none⟩) hzb).trans z0;have y1:=(B3.cell (p:=⟨b,off+k*5+1,none⟩) hzb).trans z1;have y2:=(B3.cell (p:=⟨b,off+k*5+2,none⟩) hzb).trans z2;have y3:=(B3.cell (p:=⟨b,off+k*5+3,none⟩) hzb).trans z3;have y4:=(B3.cell (p:=⟨b,off+k*5+4,none⟩) hzb).trans z4)
      |(at_builtin;refine qaq _ rfl (.tmp 41) (.tmp 46) rfl wc.heap.size A3 (out.take a) (0+a) c3 (by rw[hta.out,Ybj]) rfl (Vb o3 _) w3.heap.size 1 (Qg l k) _ 58 rfl (zha w3 _) rfl (by rw[hta.out];omega) (by have:=B3.size;simp;omega) ?_;intro A4 c4 w4 o4 g4 b4;have B4:Below wc.heap.size wc w4:=(bal B3 _).trans b4)
      |(at_builtin;refine qaq _ rfl (.tmp 41) (.tmp 46) rfl wc.heap.size A3 (out.take a) a c3 hta.out rfl (Vb o3 _) w3.heap.size 1 (Qg l k) _ 58 rfl (zha w3 _) rfl (by rw[hta.out];omega) (by have:=B3.size;simp;omega) ?_;intro A4 c4 w4 o4 g4 b4;have B4:Below wc.heap.size wc w4:=(bal B3 _).trans b4)
      |(at_builtin;refine qg5 _ rfl (.tmp 48) (.tmp 51) rfl wc.heap.size A4 (out.take a++[Qg l k]) _ c4 (by rw[Yaa,hta.out];rfl) rfl o4 A5 (k-a) (c'-a) (out.drop a) hda.out rfl (HS5.out.keep B4) (by rw[Yaa,hta.out];simp;omega) (by rw[hda.out];omega) B4.size ?_;intro A6 c6 w6' o6 g6 b6';have B6':Below wc.heap.size wc w6':=B4.trans b6'))
     rw[←hins.out,←hnext.out] at o6;have hl6:(qct (l.take (k+1))).length=k+1:=by rw[qel,Yap];omega
     obtain⟨s61,_⟩:=Qo o6;obtain⟨b6,rfl,_,_⟩:=qep o6 (by rw[hl6];omega);have hW6:Below w.heap.size w w6':=Qa hW B6';have o6':OT w.heap.size w6' (some ⟨b6,0,none⟩) c6 (qct (l.take (k+1))):=Ql o6 hW.size;go_roundg (l.length-(k+1))
     case measure=>omega
     case rel=>exact⟨k+1,b6,c6,by omega,by go_num,by congr 1;omega,by omega,o6',hW6⟩
   ·obtain rfl:k=l.length:=by omega
    go_wp2_with fail;have e:l.take l.length=l:=Ybi;have e2:=Hout.out;rw[e] at e2;have hl:=hol.out;subst e2;go_ret;refine⟨some ⟨bo,0,none⟩,c',?_,hO,hb⟩;rw[hl];rfl
instance:Inhabited Tk:=⟨⟨0,0,0,0,false⟩⟩
def qhw(a b:Int):Int:=if a<b then-1 else if b<a then 1 else 0
def cfT(x y:Tk):Int:=if x.due=y.due then qhw x.every y.every else qhw x.due y.due
theorem q56(x y:Tk):ltOf cfT x y=bef x y:=by
 unfold ltOf cfT bef qhw;split
 ·by_cases h:x.every<y.every
  ·simp[h]
  ·simp only[h,Ydh];split<;>simp
 ·by_cases h:x.due<y.due
  ·simp[h]
  ·simp only[h,Ydh];split<;>simp
theorem qm9(d:Array Tk)(l:List Tk)(h:d.toList=l)(k:Nat)(hk:k<l.length):d[k]! =l[k]:=by
 subst h;have hk':k<d.size:=by simpa using hk
 rw[getElem!_pos d k hk'];simp
theorem qvu(out rest:List Tk)(x:Tk)(j:Nat)(hj:j≤out.length)(d:Array Tk)(h:d.toList=out.take j++x::out.drop j++rest):
  (Sort.insInner (ltOf cfT) 0 j d).toList=out.take (qe1 x out j)++x::out.drop (qe1 x out j)++rest:=by
 induction j generalizing d with
 |zero=>exact h
 |succ j ih=>
  have hlt:j<out.length:=by omega
  have hl1:(out.take (j+1)).length=j+1:=by rw[Yap];omega
  have hx:d[j+1]! =x:=by
   rw[qm9 d _ h (j+1) (by simp;omega)];rw[List.getElem_append_left (by simp;omega),List.getElem_append_right (by omega)];simp[hl1]
  have hy:d[j]! =out[j]:=by
   rw[qm9 d _ h j (by simp;omega)];rw[List.getElem_append_left (by simp;omega),List.getElem_append_left (by omega)];simp
  have hsz:d.size=out.length+1+rest.length:=by
   have:=congrArg List.length h;simp at this;omega
  unfold Sort.insInner;rw[hx,hy,q56];have hb:bef x (Qg out j)=bef x out[j]:=by rw[qbi out j hlt]
  unfold qe1;rw[hb];cases hbb:bef x out[j] with
  |true=>
   simp only[Bool.and_true,Yae,gt_iff_lt,Nat.zero_lt_succ,if_true];refine ih (by omega) _ ?_;apply Yck
   intro k;have e1:(Sort.swp d (j+1) j).toList[k]? =(Sort.swp d (j+1) j)[k]? :=by simp
   rw[e1];unfold Sort.swp;rw[hx,hy,Array.getElem?_setIfInBounds,Array.getElem?_setIfInBounds];have e2:d[k]? =(out.take (j+1)++x::out.drop (j+1)++rest)[k]? :=by rw[←h];simp
   have hlj:(out.take j).length=j:=by rw[Yap];omega
   rw[e2];by_cases k1:j=k
   ·subst k1;rw[Yav rfl,Yav (by simp;omega),Yba (by simp;omega),Ybd (by omega)];simp[hlj]
   ·rw[Yaq k1];by_cases k2:j+1=k
    ·subst k2;rw[Yav rfl,Yav (by omega),Yba (by simp;omega),Ybd (by omega),hlj];have:j+1-j=1:=by omega
     rw[this,Ybo hlt];simp
    ·rw[Yaq k2];rcases Nat.lt_or_ge k j with k3|k3
     ·rw[Yba (by simp;omega),Yba (by omega),Yba (by simp;omega),Yba (by omega)];rw[Ycl (by omega),Ycl k3]
     ·have k4:j+2≤k:=by omega
      obtain⟨q,rfl⟩: ∃q,k=j+2+q:=⟨k-(j+2),by omega⟩
      have E1:(out.take (j+1)++x::out.drop (j+1)++rest)[j+2+q]? =(out.drop (j+1)++rest)[q]? :=by
       rw[Yax,Ybd (by omega),hl1,show j+2+q-(j+1)=q+1 by omega];simp
      have E2:(out.take j++x::out.drop j++rest)[j+2+q]? =(out.drop (j+1)++rest)[q]? :=by
       rw[Yax,Ybd (by omega),hlj,show j+2+q-j=q+2 by omega,Ybo hlt];rfl
      rw[E1,E2]
  |false=>
   simp only[Bool.and_false,Yci,Ydh];exact h
theorem qvv(l:List Tk)(n i:Nat)(hn:n=l.length)(hi:1≤i)(hin:i≤n∨n=0)(d:Array Tk)(h:d.toList=qct (l.take i)++l.drop i):(Sort.insOuter (ltOf cfT) 0 n i d).toList=qct l:=by
 induction hk:n-i generalizing i d with
 |zero=>
  unfold Sort.insOuter;rw[Yaq (by omega),h];have:l.length≤i:=by omega
  rw[Yar this,List.drop_of_length_le this,Ybx]
 |succ k ih=>
  have hlt:i<l.length:=by omega
  unfold Sort.insOuter;rw[Yav (by omega)];refine ih (i+1) (by omega) (by omega) _ ?_ (by omega);have hlen:(qct (l.take i)).length=i:=by rw[qel,Yap];omega
  have e:=qvu (qct (l.take i)) (l.drop (i+1)) l[i] i (by omega) d (by
   rw[h,Yar (show(qct (l.take i)).length≤i by omega),List.drop_of_length_le (show(qct (l.take i)).length≤i by omega),Ybo hlt];simp)
  rw[e]
  have e2:qct (l.take (i+1))=q2w (qct (l.take i)) l[i]:=by
   unfold qct;rw[Yad hlt,List.foldl_append];rfl
  rw[e2];unfold q2w;rw[hlen]
theorem qmu(l:List Tk):(Sort.insertionSort (ltOf cfT) l.toArray 0 l.length).toList=qct l:=by
 unfold Sort.insertionSort;cases l with
 |nil=>
  unfold Sort.insOuter;simp[qct]
 |cons a r=>
  refine qvv (a::r) _ 1 rfl (by omega) (.inl (by simp)) _ ?_;simp[qct,q2w,qe1]
def q57:Go.Shelf.Ren:=⟨fun|20=>242|n=>n,fun|22=>23|24=>58|25=>180|n=>n,fun n=>n⟩
theorem q3s:Go.Proofs.SlLaysF0.n20 Tryz.prog q57:={
 mixed:=by kernel_rfl
 f20:=⟨Tryz.f242.name,by kernel_rfl,Tryz.func242.trans (congrArg some (by kernel_rfl))⟩
 t0:=Tryz.underlying0
 a0:=Tryz.isAgg0
 z0:=Tryz.sizeOf0
 v0:=Tryz.zeroValue0
 t3:=Tryz.underlying3
 a3:=Tryz.isAgg3
 z3:=Tryz.sizeOf3
 v3:=Tryz.zeroValue3
 t4:=Tryz.underlying4
 a4:=Tryz.isAgg4
 z4:=Tryz.sizeOf4
 v4:=Tryz.zeroValue4
 t22:=Tryz.underlying23
 a22:=Tryz.isAgg23
 z22:=Tryz.sizeOf23
 v22:=Tryz.zeroValue23
 t25:=Tryz.underlying180
 a25:=Tryz.isAgg180
 z25:=Tryz.sizeOf180
 v25:=Tryz.zeroValue180}
theorem qql(x:Int)(w:World):
  Calls Tryz.prog 225 #[.int .i64 x] w fun e w'=>e=.returned (.bool false)∧w'=w:=by
 go_enter Tryz.func225,Tryz.ntmps225;go_wp2_with fail;go_ret;exact⟨by simp,rfl⟩
theorem q46(x y:Int)(w:World):Calls Tryz.prog 176 #[.int .i64 x,.int .i64 y] w fun e w'=>e=.returned (.int .i64 (qhw x y))∧w'=w:=by
 go_enter Tryz.func176,Tryz.ntmps176;go_wp2_with fail;refine(qql x _).mono ?_;rintro e w1 ⟨rfl,rfl⟩;go_wp2_with fail;refine(qql y _).mono ?_;rintro e w2 ⟨rfl,rfl⟩;by_cases h1:x<y
 ·have hc:Hid (qhw x y= -1):=by simp[Hid,qhw,h1]
  go_wp2_with fail;go_ret;exact⟨by rw[hc.out];rfl,rfl⟩
 ·by_cases h2:y<x
  ·have hc:Hid (qhw x y=1):=by simp[Hid,qhw,h1,h2]
   go_wp2_with fail;go_ret;exact⟨by rw[hc.out];rfl,rfl⟩
  ·have hc:Hid (qhw x y=0):=by simp[Hid,qhw,h1,h2]
   go_wp2_with fail;go_ret;exact⟨by rw[hc.out];rfl,rfl⟩
theorem q7i(b:Nat)(p q:Int)(w:World)(h0:w.cell? ⟨b,0,none⟩=some (.int .i64 p))(h1:w.cell? ⟨b,1,none⟩=some (.int .i64 q)):
  Calls Tryz.prog 175 #[.slice (some ⟨b,0,none⟩) 2 2] w fun e w'=>e=.returned (.int .i64 (if p=0 then q else p))∧w'=w:=by
 by_cases hp:p=0
 ·by_cases hq:q=0
  ·subst hp hq;go_enter Tryz.func175,Tryz.ntmps175;go_wp2_with fail;go_loopw [8] (fun i wr=> ∃k:Nat,k≤2∧i=.int .i64 (k:Int)∧wr=w) (fun i _=>2-(intOf i).toNat)
   case atStart=>exact⟨0,by omega,rfl,rfl⟩
   case round=>
    obtain⟨k,hk,rfl,rfl⟩:=hrel;by_cases hlt:k<2
    ·have hc:wr.cell? ⟨b,k,none⟩=some (.int .i64 0):=by
      rcases Nat.lt_or_ge k 1 with h|h
      ·obtain rfl:k=0:=by omega
       exact h0
      ·obtain rfl:k=1:=by omega
       exact h1
     go_wp2_with fail;go_roundw
     case rel=>exact⟨k+1,by omega,by go_num,trivial⟩
     case measure=>simp[intOf];omega
    ·go_wp2_with fail;go_ret;exact⟨rfl,rfl⟩
  ·have hq':(q !=0)=true:=by simpa using hq
   subst hp;go_enter Tryz.func175,Tryz.ntmps175;go_wp2_with fail;go_loopw [8] (fun i wr=> ∃k:Nat,k≤1∧i=.int .i64 (k:Int)∧wr=w) (fun i _=>2-(intOf i).toNat)
   case atStart=>exact⟨0,by omega,rfl,rfl⟩
   case round=>
    obtain⟨k,hk,rfl,rfl⟩:=hrel;rcases Nat.lt_or_ge k 1 with h|h
    ·obtain rfl:k=0:=by omega
     go_wp2_with fail;go_roundw
     case rel=>exact⟨1,by omega,by go_num,trivial⟩
     case measure=>simp[intOf]
    ·obtain rfl:k=1:=by omega
     go_wp2_with fail;go_ret;simp
 ·have hp':(p !=0)=true:=by simpa using hp
  go_enter Tryz.func175,Tryz.ntmps175;go_wp2_with fail;go_loopw [8] (fun i wr=>i=.int .i64 0∧wr=w) (fun _ _=>0)
  case atStart=>exact⟨rfl,rfl⟩
  case round=>
   obtain⟨rfl,rfl⟩:=hrel;go_wp2_with fail;go_ret;simp
theorem q58{P:Program}{md:Region.Mode}{ops:Array Oper}{Q:Exit→Act→World→Prop}{S:World→Prop}(i:Nat)(d:Tmp){L:List Value}{df:List Deferred}{o:Oper}{fuel:Nat}{listed:Array Bool}{w:World}
  (hi:ops[i]? =some o) (_hd:o.dst=some d) (hr:Region.ready md ops listed=[i]) (hw:Region.wanted o (yielded ops L.toArray)=true)
  (h: ∀K':Act→World→Prop,(∀v w',S w'→wpAnyH P md ops Q S fuel (listed.setIfInBounds i true) ⟨(L.set d v).toArray,df⟩ w'→K' ((⟨L.toArray,df⟩:Act).put (some d) v) w')→Oper.wp P o ⟨L.toArray,df⟩ w K' Q):wpAnyH P md ops Q S (fuel+1) listed ⟨L.toArray,df⟩ w:=by
 refine wpAnyH_all hr (by simp) ?_;intro j hj;rw[Yaw] at hj;subst hj;unfold wpOp;simp only[hi];rw[Yav hw];exact .inl (h _ (fun v w' s k=>⟨s,by simpa [Act.put] using k⟩))
theorem qrq(w:World)(a b c:Obj):(((w.alloc a).alloc b).alloc c).drew=Sort.grow (w.drewN 1) #[a,b,c]:=by
 have e:((w.heap.push a).push b).push c=w.heap++ #[a,b,c]:=by
  apply Array.ext'
  simp
 show({w with heap:=((w.heap.push a).push b).push c,drawn:=w.drawn+1}:World)={w with heap:=w.heap++ #[a,b,c],drawn:=w.drawn+1};rw[e]
theorem q3t(x y:Tk)(w:World):Calls Tryz.prog 174 #[x.val,y.val] w fun e w'=>e=.returned (.int .i64 (cfT x y))∧ ∃q os',w'=Sort.grow (w.drewN q) os':=by
 have hv:Hid ((if qhw x.due y.due=0 then qhw x.every y.every else qhw x.due y.due)=cfT x y):=by
  unfold Hid cfT qhw;by_cases h1:x.due<y.due
  ·have:x.due≠y.due:=by omega
   simp[h1,this]
  ·by_cases h2:y.due<x.due
   ·have:x.due≠y.due:=by omega
    simp[h1,h2,this]
   ·have:x.due=y.due:=by omega
    simp[this]
 go_enter Tryz.func174,Tryz.ntmps174;go_wp2_with fail;obtain⟨h1,h2⟩:=q0c w (.cells #[.int .i64 x.low,.int .i64 x.high,.int .i64 x.due,.int .i64 x.every,.bool x.crit] 58 (0,0)) (.cells #[.int .i64 y.low,.int .i64 y.high,.int .i64 y.due,.int .i64 y.every,.bool y.crit] 58 (0,0));obtain⟨a0,a1,a2,a3,a4,_⟩:=Qc h1;obtain⟨b0,b1,b2,b3,b4,_⟩:=Qc h2;refine wp_region_held (S:=fun w'=>w'.cell? ⟨w.heap.size,2,none⟩=some (.int .i64 x.due)∧w'.cell? ⟨w.heap.size,3,none⟩=some (.int .i64 x.every)∧w'.cell? ⟨w.heap.size+1,2,none⟩=some (.int .i64 y.due)∧w'.cell? ⟨w.heap.size+1,3,none⟩=some (.int .i64 y.every)) (by kernel_rfl) ?_;change wpAnyH _ _ _ _ _ _ _ _ (World.drew _);have hS0:(World.drew ((w.alloc (.cells #[.int .i64 x.low,.int .i64 x.high,.int .i64 x.due,.int .i64 x.every,.bool x.crit] 58 (0,0))).alloc (.cells #[.int .i64 y.low,.int .i64 y.high,.int .i64 y.due,.int .i64 y.every,.bool y.crit] 58 (0,0)))).cell? ⟨w.heap.size,2,none⟩=some (.int .i64 x.due)∧(World.drew ((w.alloc (.cells #[.int .i64 x.low,.int .i64 x.high,.int .i64 x.due,.int .i64 x.every,.bool x.crit] 58 (0,0))).alloc (.cells #[.int .i64 y.low,.int .i64 y.high,.int .i64 y.due,.int .i64 y.every,.bool y.crit] 58 (0,0)))).cell? ⟨w.heap.size,3,none⟩=some (.int .i64 x.every)∧(World.drew ((w.alloc (.cells #[.int .i64 x.low,.int .i64 x.high,.int .i64 x.due,.int .i64 x.every,.bool x.crit] 58 (0,0))).alloc (.cells #[.int .i64 y.low,.int .i64 y.high,.int .i64 y.due,.int .i64 y.every,.bool y.crit] 58 (0,0)))).cell? ⟨w.heap.size+1,2,none⟩=some (.int .i64 y.due)∧(World.drew ((w.alloc (.cells #[.int .i64 x.low,.int .i64 x.high,.int .i64 x.due,.int .i64 x.every,.bool x.crit] 58 (0,0))).alloc (.cells #[.int .i64 y.low,.int .i64 y.high,.int .i64 y.due,.int .i64 y.every,.bool y.crit] 58 (0,0)))).cell? ⟨w.heap.size+1,3,none⟩=some (.int .i64 y.every):=⟨a2,a3,b2,b3⟩;refine tq 0 5 (.pointer (some ⟨w.heap.size,2,none⟩)) rfl (fun w _=>by go_simp) hS0 ?_;refine tq 1 6 (.int .i64 x.due) rfl (fun w hS=>by have h1:=hS.1;go_simp) hS0 ?_;refine tq 2 7 (.pointer (some ⟨w.heap.size+1,2,none⟩)) rfl (fun w _=>by go_simp) hS0 ?_;refine tq 3 8 (.int .i64 y.due) rfl (fun w hS=>by have h1:=hS.2.2.1;go_simp) hS0 ?_;refine tq 5 10 (.pointer (some ⟨w.heap.size,3,none⟩)) rfl (fun w _=>by go_simp) hS0 ?_;refine tq 6 11 (.int .i64 x.every) rfl (fun w hS=>by have h1:=hS.2.1;go_simp) hS0 ?_;refine tq 7 12 (.pointer (some ⟨w.heap.size+1,3,none⟩)) rfl (fun w _=>by go_simp) hS0 ?_;refine tq 8 13 (.int .i64 y.every) rfl (fun w hS=>by have h1:=hS.2.2.2;go_simp) hS0 ?_;refine qf6 4 9 rfl rfl (by kernel_rfl) (by rfl) 176 Tryz.func176 (by kernel_rfl) rfl _ _ rfl _ ?hv (q46 x.due y.due _) ?_
 case hv=>simp[Act.eval]
 rintro e v1 ⟨rfl,rfl⟩;refine⟨_,rfl,hS0,?_⟩;simp only[lsS,lsZ];refine qf6 9 14 rfl rfl (by kernel_rfl) (by rfl) 176 Tryz.func176 (by kernel_rfl) rfl _ _ rfl _ ?hv (q46 x.every y.every _) ?_
 case hv=>simp[Act.eval]
 rintro e v2 ⟨rfl,rfl⟩;refine⟨_,rfl,hS0,?_⟩;simp only[lsS,lsZ];refine q58 10 15 rfl rfl (by kernel_rfl) (by rfl) ?_;intro K hK;go_simp
 have hS1:((((w.alloc (.cells #[.int .i64 x.low,.int .i64 x.high,.int .i64 x.due,.int .i64 x.every,.bool x.crit] 58 (0,0))).alloc (.cells #[.int .i64 y.low,.int .i64 y.high,.int .i64 y.due,.int .i64 y.every,.bool y.crit] 58 (0,0))).alloc (.cells #[.int .i64 (qhw x.due y.due),.int .i64 (qhw x.every y.every)] 3 (0,0))).drew).cell? ⟨w.heap.size,2,none⟩=some (.int .i64 x.due)∧((((w.alloc (.cells #[.int .i64 x.low,.int .i64 x.high,.int .i64 x.due,.int .i64 x.every,.bool x.crit] 58 (0,0))).alloc (.cells #[.int .i64 y.low,.int .i64 y.high,.int .i64 y.due,.int .i64 y.every,.bool y.crit] 58 (0,0))).alloc (.cells #[.int .i64 (qhw x.due y.due),.int .i64 (qhw x.every y.every)] 3 (0,0))).drew).cell? ⟨w.heap.size,3,none⟩=some (.int .i64 x.every)∧((((w.alloc (.cells #[.int .i64 x.low,.int .i64 x.high,.int .i64 x.due,.int .i64 x.every,.bool x.crit] 58 (0,0))).alloc (.cells #[.int .i64 y.low,.int .i64 y.high,.int .i64 y.due,.int .i64 y.every,.bool y.crit] 58 (0,0))).alloc (.cells #[.int .i64 (qhw x.due y.due),.int .i64 (qhw x.every y.every)] 3 (0,0))).drew).cell? ⟨w.heap.size+1,2,none⟩=some (.int .i64 y.due)∧((((w.alloc (.cells #[.int .i64 x.low,.int .i64 x.high,.int .i64 x.due,.int .i64 x.every,.bool x.crit] 58 (0,0))).alloc (.cells #[.int .i64 y.low,.int .i64 y.high,.int .i64 y.due,.int .i64 y.every,.bool y.crit] 58 (0,0))).alloc (.cells #[.int .i64 (qhw x.due y.due),.int .i64 (qhw x.every y.every)] 3 (0,0))).drew).cell? ⟨w.heap.size+1,3,none⟩=some (.int .i64 y.every):=by
  have hb:Below ((w.alloc (.cells #[.int .i64 x.low,.int .i64 x.high,.int .i64 x.due,.int .i64 x.every,.bool x.crit] 58 (0,0))).alloc (.cells #[.int .i64 y.low,.int .i64 y.high,.int .i64 y.due,.int .i64 y.every,.bool y.crit] 58 (0,0))).heap.size ((w.alloc (.cells #[.int .i64 x.low,.int .i64 x.high,.int .i64 x.due,.int .i64 x.every,.bool x.crit] 58 (0,0))).alloc (.cells #[.int .i64 y.low,.int .i64 y.high,.int .i64 y.due,.int .i64 y.every,.bool y.crit] 58 (0,0))) ((((w.alloc (.cells #[.int .i64 x.low,.int .i64 x.high,.int .i64 x.due,.int .i64 x.every,.bool x.crit] 58 (0,0))).alloc (.cells #[.int .i64 y.low,.int .i64 y.high,.int .i64 y.due,.int .i64 y.every,.bool y.crit] 58 (0,0))).alloc (.cells #[.int .i64 (qhw x.due y.due),.int .i64 (qhw x.every y.every)] 3 (0,0))).drew):=zdr (bal br _);have hz:((w.alloc (.cells #[.int .i64 x.low,.int .i64 x.high,.int .i64 x.due,.int .i64 x.every,.bool x.crit] 58 (0,0))).alloc (.cells #[.int .i64 y.low,.int .i64 y.high,.int .i64 y.due,.int .i64 y.every,.bool y.crit] 58 (0,0))).heap.size=w.heap.size+1+1:=by simp
  exact⟨(hb.cell (p:=⟨w.heap.size,2,none⟩) (by rw[hz];show w.heap.size<_;omega)).trans a2,(hb.cell (p:=⟨w.heap.size,3,none⟩) (by rw[hz];show w.heap.size<_;omega)).trans a3,(hb.cell (p:=⟨w.heap.size+1,2,none⟩) (by rw[hz];show w.heap.size+1<_;omega)).trans b2,(hb.cell (p:=⟨w.heap.size+1,3,none⟩) (by rw[hz];show w.heap.size+1<_;omega)).trans b3⟩
 have hN:((((w.alloc (.cells #[.int .i64 x.low,.int .i64 x.high,.int .i64 x.due,.int .i64 x.every,.bool x.crit] 58 (0,0))).alloc (.cells #[.int .i64 y.low,.int .i64 y.high,.int .i64 y.due,.int .i64 y.every,.bool y.crit] 58 (0,0))).alloc (.cells #[.int .i64 (qhw x.due y.due),.int .i64 (qhw x.every y.every)] 3 (0,0))).drew).heap[w.heap.size+1+1]? =some (.cells #[.int .i64 (qhw x.due y.due),.int .i64 (qhw x.every y.every)] 3 (0,0)):=by
  have:=zha ((w.alloc (.cells #[.int .i64 x.low,.int .i64 x.high,.int .i64 x.due,.int .i64 x.every,.bool x.crit] 58 (0,0))).alloc (.cells #[.int .i64 y.low,.int .i64 y.high,.int .i64 y.due,.int .i64 y.every,.bool y.crit] 58 (0,0))) (.cells #[.int .i64 (qhw x.due y.due),.int .i64 (qhw x.every y.every)] 3 (0,0));have hz:((w.alloc (.cells #[.int .i64 x.low,.int .i64 x.high,.int .i64 x.due,.int .i64 x.every,.bool x.crit] 58 (0,0))).alloc (.cells #[.int .i64 y.low,.int .i64 y.high,.int .i64 y.due,.int .i64 y.every,.bool y.crit] 58 (0,0))).heap.size=w.heap.size+1+1:=by simp
  rw[hz] at this;exact this
 obtain⟨n0,n1,_⟩:=Qk hN;have hEq:=qrq w (.cells #[.int .i64 x.low,.int .i64 x.high,.int .i64 x.due,.int .i64 x.every,.bool x.crit] 58 (0,0)) (.cells #[.int .i64 y.low,.int .i64 y.high,.int .i64 y.due,.int .i64 y.every,.bool y.crit] 58 (0,0)) (.cells #[.int .i64 (qhw x.due y.due),.int .i64 (qhw x.every y.every)] 3 (0,0));refine hK (.slice (some ⟨w.heap.size+1+1,0,none⟩) 2 2) _ hS1 ?_;simp only[lsS,lsZ];generalize((((w.alloc (.cells #[.int .i64 x.low,.int .i64 x.high,.int .i64 x.due,.int .i64 x.every,.bool x.crit] 58 (0,0))).alloc (.cells #[.int .i64 y.low,.int .i64 y.high,.int .i64 y.due,.int .i64 y.every,.bool y.crit] 58 (0,0))).alloc (.cells #[.int .i64 (qhw x.due y.due),.int .i64 (qhw x.every y.every)] 3 (0,0))).drew)=wz at*;refine qf6 11 16 rfl rfl (by kernel_rfl) (by rfl) 175 Tryz.func175 (by kernel_rfl) rfl _ _ rfl _ ?hv (q7i (w.heap.size+1+1) (qhw x.due y.due) (qhw x.every y.every) _ n0 n1) ?_
 case hv=>simp[Act.eval]
 rintro e v3 ⟨rfl,rfl⟩;refine⟨_,rfl,hS1,?_⟩;simp only[lsS,lsZ];rw[hv.out];refine tq 12 4 (.int .i64 (cfT x y)) rfl (fun _ _=>rfl) hS1 ?_;refine wpAnyH_done (by kernel_rfl) ?_ _;go_wp2_with fail;go_ret;exact⟨rfl,1,_,hEq⟩
theorem q06{base:Nat}{w:World}{g c:Nat}{l:List Tk}(h:OT base w (some ⟨g,0,none⟩) c l):Sort.HoldsK Tk.cells 5 w g 0 l.toArray:=by
 intro j hj;have hj5:j<l.length*5:=by simpa using hj
 have hq:j/5<l.length:=by omega
 have hr:j % 5<5:=Nat.mod_lt _ (by omega);refine⟨?_,by rw[Ybj];exact h.frozenAt j⟩;rw[Ybj,h.cellAt j (by omega),Sort.get_flatK _ _ _ _ (by simpa using hj5)];have e:=qus l (j/5) (j % 5) hq hr;rw[show j/5*5+j % 5=j by omega] at e;rw[e];have e2:(l.toArray)[j/5]! =l[j/5]:=qm9 l.toArray l (by simp) (j/5) hq;rw[e2];have hlen:(l[j/5]).cells.length=5:=rfl;rw[Ybb (by omega)];simp[getElem!_pos,hlen,hr]
theorem qyw(l:List Tk):(Sort.flatK Tk.cells 5 l.toArray).toList=qcw l:=by
 apply Yck
 intro j;by_cases hj:j<l.length*5
 ·have hq:j/5<l.length:=by omega
  have hr:j % 5<5:=Nat.mod_lt _ (by omega);have e:=qus l (j/5) (j % 5) hq hr;rw[show j/5*5+j % 5=j by omega] at e;have hlen:(l[j/5]).cells.length=5:=rfl;have e3:=Sort.get_flatK Tk.cells 5 l.toArray j (by simpa using hj);have e2:(l.toArray)[j/5]! =l[j/5]:=qm9 l.toArray l (by simp) (j/5) hq;have hs:j<(Sort.flatK Tk.cells 5 l.toArray).size:=by simpa using hj
  rw[getElem!_pos _ j hs,e2,getElem!_pos _ _ (by omega)] at e3;rw[e,Ybk,Yeb hs,e3,Ybb (by omega)]
 ·rw[Yce (by simp;omega),Yce (by rw[qbd];omega)]
theorem q07{base:Nat}{w:World}{g c q:Nat}{l l':List Tk}(h:OT base w (some ⟨g,0,none⟩) c l)(hl:l'.length=l.length)(os:Array Obj):
  OT base (sortWorldK Tk.cells 5 w g 0 q l'.toArray os) (some ⟨g,0,none⟩) c l':=by
 have hlt:g<w.heap.size:=by
  rcases h.2 with⟨e0,_⟩|⟨g',cap',cur,e0,hb,hg,_⟩
  ·cases e0
  ·injection e0 with e1
   injection e1 with e1
   injection e1 with e1
   subst e1;exact(bl hg)
 have hP:OT base (Sort.putRowK Tk.cells 5 (Sort.ahead w q) g 0 l'.toArray) (some ⟨g,0,none⟩) c l':=by
  unfold OT at h⊢;rw[hl];rcases h.2 with⟨e0,_⟩|⟨g',cap',cur,e0,hb,hg,hn,hm,hs,ht⟩
  ·cases e0
  ·injection e0 with e1 _ e3
   injection e1 with e1
   injection e1 with e1
   subst e1;subst e3;have hfl:(Sort.flatK Tk.cells 5 l'.toArray).size=l.length*5:=by simp[hl]
   refine⟨by rw[qbd,hl];omega,.inr ⟨g,c,Sort.putCells id 0 (Sort.flatK Tk.cells 5 l'.toArray) cur,rfl,hb,?_,hn,hm,by simpa [Sort.putCells] using hs,?_⟩⟩
   ·simp[Sort.putRowK,Sort.putRow,Sort.mapBlock,Sort.ahead,Array.getElem?_modify,hg,Sort.onCells]
   ·rw[←qyw l'];apply Yck
    intro j;rw[Ydp,Ybk,Ybk];by_cases hj:j<l.length*5
    ·have hjc:j<cur.size:=by omega
     simp only[Yav hj,Sort.putCells,Array.getElem?_mapIdx,Yeb hjc,Yde];rw[Yav (by rw[hfl];omega),Yeb (by omega)];simp[getElem!_pos,hfl,hj]
    ·rw[Yaq hj,Array.getElem?_eq_none (by omega)]
 unfold sortWorldK;refine Q5 hP ?_;have:=Lib.below_grow (Sort.putRowK Tk.cells 5 (Sort.ahead w q) g 0 l'.toArray).heap.size (Sort.putRowK Tk.cells 5 (Sort.ahead w q) g 0 l'.toArray) (zlr _) 0 os;exact this
theorem qts{w0 w:World}{g q:Nat}{d:Array Tk}(h:Below w0.heap.size w0 w)(hg:w0.heap.size≤g)(os:Array Obj):Below w0.heap.size w0 (sortWorldK Tk.cells 5 w g 0 q d os):=by
 unfold sortWorldK;have h1:Below w0.heap.size w0 (Sort.putRowK Tk.cells 5 (Sort.ahead w q) g 0 d):=Lib.below_putRow h hg;have:=Lib.below_grow (Sort.putRowK Tk.cells 5 (Sort.ahead w q) g 0 d).heap.size (Sort.putRowK Tk.cells 5 (Sort.ahead w q) g 0 d) (zlr _) 0 os;exact Qa h1 this
theorem q3u(g c:Nat)(l:List Tk)(base:Nat)(w:World)(h:OT base w (some ⟨g,0,none⟩) c l)(hl:l.length≤100000)(hlt:g<w.heap.size):
  Calls Tryz.prog 242 #[.slice (some ⟨g,0,none⟩) l.length c,.int .i64 0,.int .i64 (l.length:Int),.func (.func 174) #[] #[]] w fun e w'=>
   e=.returned (.tuple #[])∧OT base w' (some ⟨g,0,none⟩) c (qct l)∧ ∃q os,w'=sortWorldK Tk.cells 5 w g 0 q (qct l).toArray os:=by
 have K:=AnyQ.insertionSortCmpFunc q3s 5 Tryz.isAgg58 Tryz.sizeOf58 Tk.cells (fun _=>rfl)
  (fun x v hv=>by simp[Tk.cells] at hv;rcases hv with rfl|rfl|rfl|rfl|rfl<;>rfl) cfT 174 #[] g 0 c 0 l.length l.toArray w
  (enters_of Tryz.func174 (by kernel_rfl) rfl) (fun m os dk _ x y=>by rw[Array.append_empty];exact q3t x y _) (q06 h) hlt (Nat.zero_le _) (by simp) (by simp;omega)
 refine(show Calls Tryz.prog 242 _ w _ from K).mono ?_;rintro e w' ⟨rfl,n,os,rfl⟩
 have e2:Sort.insertionSort (ltOf cfT) l.toArray 0 l.length=(qct l).toArray:=by
  apply Array.ext'
  rw[qmu]
 rw[e2];exact⟨rfl,q07 h (qel l) os,n,os,rfl⟩
def qxm(g c:Nat)(l:List Tk)(base:Nat)(w:World)(e:Ending)(w':World):Prop:=
 e=.returned (.tuple #[])∧OT base w' (some ⟨g,0,none⟩) c (qct l)∧ ∃q os,w'=sortWorldK Tk.cells 5 w g 0 q (qct l).toArray os
theorem qvw(g c:Nat)(l:List Tk)(base:Nat)(w:World)(h:OT base w (some ⟨g,0,none⟩) c l)(hl:l.length≤19)(hlt:g<w.heap.size):
  Calls Tryz.prog 224 #[.slice (some ⟨g,0,none⟩) l.length c,.int .i64 (l.length:Int),.func (.func 174) #[] #[]] w (qxm g c l base w):=by
 go_enter Tryz.func224,Tryz.ntmps224;go_wp2_with fail;go_loopw [7,8] (fun a b wr=>a=.int .i64 0∧b=.int .i64 20∧wr=w) (fun _ _ _=>0)
 case atStart=>exact⟨rfl,rfl,rfl⟩
 case round=>
  obtain⟨rfl,rfl,rfl⟩:=hrel;go_wp2_with fail;refine(q3u g c l base _ h (by omega) hlt).mono ?_;rintro e w1 ⟨rfl,ho,hx⟩;go_wp2_with fail;go_loopw [6,7,8] (fun a _ _ wr=>a=.int .i64 20∧wr=w1) (fun _ _ _ _=>0)
  case atStart=>exact⟨rfl,rfl⟩
  case round=>
   obtain⟨rfl,rfl⟩:=hrel;go_wp2_with fail
   first
    |((try simp only[Exit.inBlock,Exit.then]);refine bodyPost_ret (results_none rfl _ _ _) rfl ?_)
    |go_end0
   exact⟨rfl,ho,hx⟩
theorem q08(g c:Nat)(l:List Tk)(base:Nat)(w:World)(h:OT base w (some ⟨g,0,none⟩) c l)(hl:l.length≤19)(hlt:g<w.heap.size):
  Calls Tryz.prog 173 #[.slice (some ⟨g,0,none⟩) l.length c,.func (.func 174) #[] #[]] w (qxm g c l base w):=by
 go_enter Tryz.func173,Tryz.ntmps173;go_wp2_with fail;refine(qvw g c l base _ h hl hlt).mono ?_;rintro e w1 ⟨rfl,ho,hx⟩;go_wp2_with fail
 first
  |((try simp only[Exit.inBlock,Exit.then]);refine bodyPost_ret (results_none rfl _ _ _) rfl ?_)
  |go_end0
 exact⟨rfl,ho,hx⟩
theorem q09(A:ZA)(c:Nat)(w:World):
  Calls Tryz.prog 173 #[.slice A 0 c,.func (.func 174) #[] #[]] w fun e w'=>e=.returned (.tuple #[])∧w'=w:=by
 have hI:Calls Tryz.prog 242 #[.slice A 0 c,.int .i64 0,.int .i64 0,.func (.func 174) #[] #[]] w fun e w'=>e=.returned (.tuple #[])∧w'=w:=by
  go_enter Tryz.func242,Tryz.ntmps242;go_wp2_with fail;go_loopw [8] (fun a wr=>a=.int .i64 1∧wr=w) (fun _ _=>0)
  case atStart=>exact⟨rfl,rfl⟩
  case round=>
   obtain⟨rfl,rfl⟩:=hrel;go_wp2_with fail
   first
    |((try simp only[Exit.inBlock,Exit.then]);refine bodyPost_ret (results_none rfl _ _ _) rfl ?_)
    |go_end0
   exact⟨rfl,rfl⟩
 have hS:Calls Tryz.prog 224 #[.slice A 0 c,.int .i64 0,.func (.func 174) #[] #[]] w fun e w'=>e=.returned (.tuple #[])∧w'=w:=by
  go_enter Tryz.func224,Tryz.ntmps224;go_wp2_with fail;go_loopw [7,8] (fun a b wr=>a=.int .i64 0∧b=.int .i64 20∧wr=w) (fun _ _ _=>0)
  case atStart=>exact⟨rfl,rfl,rfl⟩
  case round=>
   obtain⟨rfl,rfl,rfl⟩:=hrel;go_wp2_with fail;refine hI.mono ?_;rintro e w1 ⟨rfl,rfl⟩;go_wp2_with fail;go_loopw [6,7,8] (fun a _ _ wr=>a=.int .i64 20∧wr=w1) (fun _ _ _ _=>0)
   case atStart=>exact⟨rfl,rfl⟩
   case round=>
    obtain⟨rfl,rfl⟩:=hrel;go_wp2_with fail
    first
     |((try simp only[Exit.inBlock,Exit.then]);refine bodyPost_ret (results_none rfl _ _ _) rfl ?_)
     |go_end0
    exact⟨rfl,rfl⟩
 go_enter Tryz.func173,Tryz.ntmps173;go_wp2_with fail;refine hS.mono ?_;rintro e w1 ⟨rfl,rfl⟩;go_wp2_with fail
 first
  |((try simp only[Exit.inBlock,Exit.then]);refine bodyPost_ret (results_none rfl _ _ _) rfl ?_)
  |go_end0
 exact⟨rfl,rfl⟩
theorem qtt(A:ZA)(l:List Tk)(c:Nat)(w:World)(h:TS w A l):
  Calls Tryz.prog 122 #[.slice A l.length c] w (q2t w (qfv l)):=by
 cases hS:Qe l with
 |false=>
  have hd:Hid (qfv l=[]):=by simp[Hid,qfv,hS]
  go_enter Tryz.func122,Tryz.ntmps122;go_wp2_with fail;refine(Qf A l c _ h).mono ?_;rw[hS];rintro e w1 ⟨rfl,b1⟩;go_wp2_with fail;go_ret;rw[hd.out];exact⟨none,0,rfl,qf3 _ _,b1⟩
 |true=>
  have hd:Hid (qfv l=qct l):=by simp[Hid,qfv,hS]
  have hl5:=(Qj hS).1;have HS:=zhi hS;have hfl:=zhi (qel l);clear hS;go_enter Tryz.func122,Tryz.ntmps122;go_wp2_with fail;refine(Qf A l c _ h).mono ?_;rw[HS.out];rintro e w1 ⟨rfl,b1⟩;go_wp2_with fail;refine(qba A l c _ (h.keep b1) (by omega)).mono ?_;rintro e w2 ⟨A2,c2,rfl,o2,b2⟩;by_cases h0:0<l.length
  ·obtain⟨g,rfl,hgw,hlt⟩:=qep o2 h0;go_wp2_with fail;refine(q08 g c2 l w1.heap.size _ o2 (by omega) hlt).mono ?_;rintro e w3 ⟨rfl,ho,q,os,rfl⟩;go_wp2_with fail;go_ret;rw[hd.out];have B:=qts (q:=q) (d:=(qct l).toArray) (Qa b1 b2) (zll b1.size hgw) os;exact⟨_,c2,by rw[hfl.out];rfl,Ql ho b1.size,B⟩
  ·have hl0:l=[]:=List.length_eq_zero_iff.1 (by omega);subst hl0;go_wp2_with fail;refine(q09 A2 c2 _).mono ?_;rintro e w3 ⟨rfl,rfl⟩;go_wp2_with fail;go_ret;rw[hd.out];exact⟨A2,c2,rfl,Ql o2 b1.size,Qa b1 b2⟩
end Go.Proofs.YtmkjmancmiphfaaGreatDoor
