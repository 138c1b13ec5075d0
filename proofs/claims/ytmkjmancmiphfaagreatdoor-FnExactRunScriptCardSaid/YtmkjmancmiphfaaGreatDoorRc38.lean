/-
  AdmitTask: the program's. (Printed by gen_adm.py.)
  Words at the desk with a text, all of them.
  The word responses at the desk.
  A line at the desk, whatever it is.
  RunScript of the program, of any text.
-/
import Derived.Test.YtmkjmancmiphfaaGreatDoorRc37
namespace Go.Proofs.YtmkjmancmiphfaaGreatDoor
set_option maxHeartbeats 8000000
set_option maxRecDepth 1000000
open Go.RowKit
theorem qjk(A:ZA)(l:List Tk)(t:Tk)(c:Nat)(p:Int)(w:World)(h:TS w A l)(hl:l.length≤1100000)(hlc:l.length≤c):
  Calls Tryz.prog 132 #[.slice A l.length c,t.val,.int .i64 p] w (qq2 w (q60 l t p) (qax l t p).isSome):=by
 have hlm:l.length≤maxLen:=by unfold maxLen;omega
 have hallm:(l++[t]).length≤maxLen:=by unfold maxLen;simp;omega
 have hall:Hid ((l++[t]).length=l.length+1):=by simp[Hid]
 go_enter Tryz.func132,Tryz.ntmps132;go_upto_region 1 with fail;have B0:=bal (Below.refl w.heap.size w) (.cells #[.int .i64 t.low,.int .i64 t.high,.int .i64 t.due,.int .i64 t.every,.bool t.crit] 58 (0,0));have hN0:=zha w (.cells #[.int .i64 t.low,.int .i64 t.high,.int .i64 t.due,.int .i64 t.every,.bool t.crit] 58 (0,0));have hz0:w.heap.size<(w.alloc (.cells #[.int .i64 t.low,.int .i64 t.high,.int .i64 t.due,.int .i64 t.every,.bool t.crit] 58 (0,0))).heap.size:=by simp
 generalize hw0:World.alloc w _=w0 at B0 hN0 hz0⊢;generalize hn4:w.heap.size=n4 at hN0 hz0⊢;have hwn:w.heap.size≤n4:=by omega
 have hS:=h.keep (B0.mono (by omega));have hbx:n4<w0.heap.size:=hz0;obtain⟨t0,t1,t2,t3,t4,_⟩:=Qc hN0;have hne:Hid (w.heap.size=n4):=hn4;clear hw0 hn4;have hz:w0.heap.size≠w0.heap.size+1:=by omega
 go_cut [8] from 11 to 16 (fun v wc=> ∃A2 c2,v=.slice A2 (l.length+1) c2∧OT w0.heap.size wc A2 c2 (l++[t])∧Below w0.heap.size w0 wc)
 case first=>
  go_region_law (first
   |(refine Qz rfl 172 Tryz.func172 (by kernel_rfl) rfl _ _ rfl #[.slice A l.length c] (by simp[Act.eval]) (qba A l c ((World.drew w0).alloc _) (hS.keep (bal (zdr br) _)) (by omega)) ?_;rintro e w1 ⟨A1,c1,rfl,o1',b1⟩;refine⟨_,rfl,?_⟩;have o1:OT w0.heap.size w1 A1 c1 l:=Ql o1' (by simp);clear o1';have HN:=zhi ((b1.block w0.heap.size (by simp)).trans (qjz (World.drew w0) _ w0.heap.size rfl));have B1:Below w0.heap.size w0 w1:=Qa (bal (zdr br) _) b1)
   |(refine Qz rfl 172 Tryz.func172 (by kernel_rfl) rfl _ _ rfl #[.slice A l.length c] (by simp[Act.eval,Act.put]) (qba A l c (World.drew w0) (hS.keep (zdr br)) (by omega)) ?_;rintro e w1 ⟨A1,c1,rfl,o1',b1⟩;refine⟨_,rfl,?_⟩;have o1:OT w0.heap.size w1 A1 c1 l:=Ql o1' (by simp);clear o1';have B1:Below w0.heap.size w0 w1:=Qa (zdr br) b1;obtain⟨k0,k1,k2,k3,k4,_⟩:=Qc ((B1.block n4 hbx).trans hN0))
   |(have hsrc:=HN.out;refine Qy rfl (.tmp 12) (.tmp 14) rfl w0.heap.size A1 l l.length c1 rfl (by simp[Act.eval]) o1 ⟨_,0,none⟩ 1 1 [t] rfl (by simp[Act.eval]) (qf7 hsrc rfl) (by omega) (by simp) B1.size ?_;intro A2 c2 w2 o2 g2 b2;clear hsrc;have B2:Below w0.heap.size w0 w2:=B1.trans b2)
   |(refine Qy rfl (.tmp 12) (.tmp 14) rfl w0.heap.size A1 l l.length c1 rfl (by simp[Act.eval]) (Vb o1 _) ⟨w1.heap.size,0,none⟩ 1 1 [t] rfl (by simp[Act.eval]) (qf7 (zha w1 _) rfl) (by omega) (by simp) (by have:=B1.size;simp;omega) ?_;intro A2 c2 w2 o2 g2 b2;have B2:Below w0.heap.size w0 w2:=(bal B1 _).trans b2))
  all_goals go_wp2_with fail
  all_goals go_meet
  all_goals exact⟨A2,c2,rfl,o2,B2⟩
 case rest=>
  obtain⟨A2,c2,rfl,o2,B2⟩:=hcut;clear hN0 t0 t1 t2 t3 t4 hbx hz hz0;have hwn0:w.heap.size≤w0.heap.size:=B0.size;have o2':OT w.heap.size wc A2 c2 (l++[t]):=Ql o2 hwn0;have Bw:Below w.heap.size w wc:=B0.trans (B2.mono hwn0);have hS2:=h.keep Bw;clear o2 B2 B0 hS hwn hne;have hadm:=qqp l t p;generalize l++[t]=all at hallm hall o2' hadm;have Hadm:=zhi hadm;clear hadm;have s2:=Qo o2';obtain⟨s21,_⟩:=s2;rw[hall.out] at s21;cases hB:qaf l p with
  |false=>
   have hn:qax l t p=none:=by rw[Hadm.out];simp[hB]
   have Hn:=zhi (qds hn);clear hn;go_wp2_with fail;refine(Vw A l c p _ hS2 hlm hlc).mono ?_;rw[hB];rintro e w3 ⟨rfl,b3⟩;go_wp2_with fail;go_ret2;rw[Hn.out.1,Hn.out.2];exact⟨none,0,rfl,qf3 _ _,(Qa Bw b3)⟩
  |true=>
   have HB:=zhi hB;clear hB;cases hV:Qe all with
   |false=>
    have hn:qax l t p=none:=by rw[Hadm.out];simp[hV]
    have Hn:=zhi (qds hn);clear hn;go_wp2_with fail;refine(Vw A l c p _ hS2 hlm hlc).mono ?_;rw[HB.out];rintro e w3 ⟨rfl,b3⟩;have B3:=Qa Bw b3;have o3:=Q5 o2' b3;have K:=Qf A2 all c2 w3 o3.ts;rw[hall.out,hV] at K;go_wp2_with fail;refine K.mono ?_;rintro e w4 ⟨rfl,b4⟩;go_wp2_with fail;go_ret2;rw[Hn.out.1,Hn.out.2];exact⟨none,0,rfl,qf3 _ _,(Qa B3 b4)⟩
   |true=>
    have HV:=zhi hV;clear hV;have hl5:all.length≤5:=(Qj HV.out).1;by_cases hp:p=1
    ·subst hp;cases hW:qcd all with
     |false=>
      have hn:qax l t 1=none:=by rw[Hadm.out];simp[hW]
      have Hn:=zhi (qds hn);clear hn;go_wp2_with fail;refine(Vw A l c 1 _ hS2 hlm hlc).mono ?_;rw[HB.out];rintro e w3 ⟨rfl,b3⟩;have B3:=Qa Bw b3;have o3:=Q5 o2' b3;have K:=Qf A2 all c2 w3 o3.ts;rw[hall.out,HV.out] at K;go_wp2_with fail;refine K.mono ?_;clear K;rintro e w4 ⟨rfl,b4⟩;have B4:=Qa B3 b4;have o4:=Q5 o3 b4;have K:=qdx A2 all c2 w4 o4.ts hallm;rw[hall.out,hW] at K;go_wp2_with fail;refine K.mono ?_;rintro e w5 ⟨rfl,b5⟩;go_wp2_with fail;go_ret2;rw[Hn.out.1,Hn.out.2];exact⟨none,0,rfl,qf3 _ _,(Qa B4 b5)⟩
     |true=>
      have hn:qax l t 1=some all:=by rw[Hadm.out];simp[hW,HB.out,HV.out]
      have Hn:=zhi (qg8 hn);clear hn;go_wp2_with fail;refine(Vw A l c 1 _ hS2 hlm hlc).mono ?_;rw[HB.out];rintro e w3 ⟨rfl,b3⟩;have B3:=Qa Bw b3;have o3:=Q5 o2' b3;have K:=Qf A2 all c2 w3 o3.ts;rw[hall.out,HV.out] at K;go_wp2_with fail;refine K.mono ?_;clear K;rintro e w4 ⟨rfl,b4⟩;have B4:=Qa B3 b4;have o4:=Q5 o3 b4;have K:=qdx A2 all c2 w4 o4.ts hallm;rw[hall.out,hW] at K;go_wp2_with fail;refine K.mono ?_;rintro e w5 ⟨rfl,b5⟩;go_wp2_with fail;go_ret2;rw[Hn.out.1,Hn.out.2];exact⟨A2,c2,by rw[hall.out];rfl,Q5 o4 b5,Qa B4 b5⟩
    ·have hp1:(p==1)=false:=beq_eq_false_iff_ne.2 hp;obtain⟨R,hR⟩: ∃R,Ve all=R:=⟨_,rfl⟩;cases R with
     |none=>
      have hn:qax l t p=none:=by rw[Hadm.out];simp[hp,hR]
      have Hn:=zhi (qds hn);clear hn;have hg:qmd all=[]∧(Ve all).isSome=false:=by simp[qmd,hR]
      have HG:=zhi hg;clear hR hp hg;go_wp2_with fail;refine(Vw A l c p _ hS2 hlm hlc).mono ?_;rw[HB.out];rintro e w3 ⟨rfl,b3⟩;have B3:=Qa Bw b3;have o3:=Q5 o2' b3;have K:=Qf A2 all c2 w3 o3.ts;rw[hall.out,HV.out] at K;go_wp2_with fail;refine K.mono ?_;clear K;rintro e w4 ⟨rfl,b4⟩;have B4:=Qa B3 b4;have o4:=Q5 o3 b4;have K:=qbz A2 all c2 w4 o4.ts;rw[hall.out,HG.out.1,HG.out.2] at K;go_wp2_with fail;refine K.mono ?_;rintro e w5 ⟨A5,c5,rfl,o5,b5⟩;go_wp2_with fail;go_ret2;rw[Hn.out.1,Hn.out.2];exact⟨none,0,rfl,qf3 _ _,(Qa B4 b5)⟩
     |some o=>
      have hn:qax l t p=some (qb5 all o):=by rw[Hadm.out];simp[hp,hR,HB.out,HV.out]
      have Hn:=zhi (qg8 hn);clear hn;have hg:qmd all=Vv o∧(Ve all).isSome=true:=by simp[qmd,hR]
      obtain⟨g1,g2,g3⟩:=qdw hR;have hol:Hid (o.length=l.length+1):=by rw[Hid,g2.length_eq,List.length_range];exact hall.out
      have hpl:Hid ((qb5 all o).length=l.length+1):=by rw[Hid,qdv];exact hol.out
      have hx: ∀x∈o,x<all.length:=fun x hx=>Ybu.1 (g2.mem_iff.1 hx)
      have HX:=zhi hx;have HG:=zhi hg;have HP:=zhi g2;clear hR hp hg g1 g2 g3 hx;go_wp2_with fail;refine(Vw A l c p _ hS2 hlm hlc).mono ?_;rw[HB.out];rintro e w3 ⟨rfl,b3⟩;have B3:=Qa Bw b3;have o3:=Q5 o2' b3;have K:=Qf A2 all c2 w3 o3.ts;rw[hall.out,HV.out] at K;go_wp2_with fail;refine K.mono ?_;clear K;rintro e w4 ⟨rfl,b4⟩;have B4:=Qa B3 b4;have o4:=Q5 o3 b4;have K:=qbz A2 all c2 w4 o4.ts;rw[hall.out,HG.out.1,HG.out.2] at K;go_wp2_with fail;refine K.mono ?_;clear K;rintro e w5 ⟨A5,c5,he,o5,b5⟩;rw[Qh,hol.out] at he;subst he;have B5:=Qa B4 b5;have K:=qgz A2 A5 all o c2 c5 w5 ((Q5 o4 b5).ts) o5.is HX.out (by omega) (by rw[hol.out,←hall.out];omega) HV.out HP.out;rw[hall.out,hol.out] at K;go_wp2_with fail;refine K.mono ?_;rintro e w6 ⟨A6,c6,rfl,o6,b6⟩;have o6':OT w.heap.size w6 A6 c6 (qb5 all o):=Ql o6 B5.size;go_wp2_with fail;go_ret2;rw[Hn.out.1,Hn.out.2];exact⟨A6,c6,rfl,o6',Qa B5 b6⟩
theorem qwp(r:List UInt8)(hr:r.length≤1000000)(l:List Tk)(hS:qhs r=some l)(s:St)(ho:s.out.length≤700000):qon [116,97,115,107,115] r true s ⟨l,0,[],s.pol,s.out++(Va l++[10])⟩:=by
 intro B b w hM D hBw;have D0:=D;obtain⟨A,c,jv,c0,c1,c2,f0,f1,f2,hO,hlc⟩:=D0.cells;go_enter Tryz.func78,Tryz.ntmps78;go_wp2_with fail;have K:=qji r hr _ (hM.up hBw);rw[hS] at K;refine K.mono ?_;rintro e w1 ⟨A1,c1',rfl,o1,b1⟩;have D1:=D.keep b1;have F1:=(Frm.refl B b w).thru hBw b1;clear K;go_wp2_with fail;refine(qd0 D1 A1 l c1' (Ql o1 hBw) (by omega) (zll hBw b1.size)).mono ?_;rintro e w2 ⟨rfl,D2,F2⟩;go_wp2_with fail;go_ret;exact⟨rfl,D2,F1.trans F2⟩
theorem qpu(r:List UInt8)(hr:r.length≤1000000)(hS:qhs r=none)(s:St):qon [116,97,115,107,115] r false s s:=by
 intro B b w hM D hBw;have D0:=D;obtain⟨A,c,jv,c0,c1,c2,f0,f1,f2,hO,hlc⟩:=D0.cells;go_enter Tryz.func78,Tryz.ntmps78;go_wp2_with fail;have K:=qji r hr _ (hM.up hBw);rw[hS] at K;refine K.mono ?_;rintro e w1 ⟨A1,c1',rfl,o1,b1⟩;have D1:=D.keep b1;have F1:=(Frm.refl B b w).thru hBw b1;clear K;go_wp2_with fail;go_ret;exact⟨rfl,D1,F1⟩
theorem qwq(r:List UInt8)(hr:r.length≤1000000)(t:Tk)(ht:tkO r=some t)(s:St)(x:List Tk)(hx:qax s.l t s.pol=some x)(hl:s.l.length≤1000000)(ho:s.out.length≤700000):qon [97,100,109,105,116] r true s ⟨x,0,[],s.pol,s.out++(Va x++[10])⟩:=by
 intro B b w hM D hBw;have D0:=D;obtain⟨A,c,jv,c0,c1,c2,f0,f1,f2,hO,hlc⟩:=D0.cells;go_enter Tryz.func78,Tryz.ntmps78;have e1:=zhi (qg8 hx);clear hx;go_wp2_with fail;have K:=qdt r hr _ (hM.up hBw);rw[ht,show qla (some t)=.tuple #[.agg #[.int .i64 t.low,.int .i64 t.high,.int .i64 t.due,.int .i64 t.every,.bool t.crit],.bool true] from rfl] at K;refine K.mono ?_;rintro e w1 ⟨rfl,b1⟩;clear K;have hT0:=zha w1 (.cells #[.int .i64 t.low,.int .i64 t.high,.int .i64 t.due,.int .i64 t.every,.bool t.crit] 58 (0,0));have b1':=bal b1 (.cells #[.int .i64 t.low,.int .i64 t.high,.int .i64 t.due,.int .i64 t.every,.bool t.crit] 58 (0,0));go_upto_region 12 with fail;generalize World.alloc w1 _=wa at hT0 b1'⊢;generalize w1.heap.size=g at hT0;obtain⟨t0,t1,t2,t3,t4,tf⟩:=Qc hT0;have D1:=D.keep b1';have F1:=(Frm.refl B b w).thru hBw b1';have C1:=D1.cells;clear c0 c1 c2 f0 f1 f2;obtain⟨A3,c3,jv3,c0,c1,c2,f0,f1,f2,hO3,hlc3⟩:=C1;clear c1 f0 f1 f2 tf
 go_region_with (first
  |(go_at_call 132;refine(qjk A3 s.l t c3 s.pol _ (hO3.ts.keep (bdr br _)) (by omega) hlc3).mono ?_;rw[e1.out.1,e1.out.2];rintro e w2 ⟨A5,c5,rfl,o5,b5⟩;replace b5:=Qa (bdr (Below.refl wa.heap.size wa) _) b5;have o5:OT wa.heap.size w2 A5 c5 x:=o5)
  |(go_at_call 121;refine(qd0 (D1.keep b5) A5 _ c5 (Ql o5 (zll hBw b1'.size)) (by omega) (zll hBw (F1.thru hBw b5).size)).mono ?_;rintro e w3 ⟨rfl,D2,F2⟩;replace F2:=(F1.thru hBw b5).trans F2))
 all_goals
  go_wp2_with fail;go_ret;exact⟨rfl,D2,F2⟩
theorem qpv(r:List UInt8)(hr:r.length≤1000000)(t:Tk)(ht:tkO r=some t)(s:St)(hx:qax s.l t s.pol=none)(hl:s.l.length≤1000000)(ho:s.out.length≤700000):qon [97,100,109,105,116] r true s {s with out:=s.out++[110,111,10]}:=by
 intro B b w hM D hBw;have D0:=D;obtain⟨A,c,jv,c0,c1,c2,f0,f1,f2,hO,hlc⟩:=D0.cells;go_enter Tryz.func78,Tryz.ntmps78;have e1:=zhi (qds hx);clear hx;go_wp2_with fail;have K:=qdt r hr _ (hM.up hBw);rw[ht,show qla (some t)=.tuple #[.agg #[.int .i64 t.low,.int .i64 t.high,.int .i64 t.due,.int .i64 t.every,.bool t.crit],.bool true] from rfl] at K;refine K.mono ?_;rintro e w1 ⟨rfl,b1⟩;clear K;have hT0:=zha w1 (.cells #[.int .i64 t.low,.int .i64 t.high,.int .i64 t.due,.int .i64 t.every,.bool t.crit] 58 (0,0));have b1':=bal b1 (.cells #[.int .i64 t.low,.int .i64 t.high,.int .i64 t.due,.int .i64 t.every,.bool t.crit] 58 (0,0));go_upto_region 12 with fail;generalize World.alloc w1 _=wa at hT0 b1'⊢;generalize w1.heap.size=g at hT0;obtain⟨t0,t1,t2,t3,t4,tf⟩:=Qc hT0;have D1:=D.keep b1';have F1:=(Frm.refl B b w).thru hBw b1';have C1:=D1.cells;clear c0 c1 c2 f0 f1 f2;obtain⟨A3,c3,jv3,c0,c1,c2,f0,f1,f2,hO3,hlc3⟩:=C1;clear c1 f0 f1 f2 tf
 go_region_with (first
  |(go_at_call 132;refine(qjk A3 s.l t c3 s.pol _ (hO3.ts.keep (bdr br _)) (by omega) hlc3).mono ?_;rw[e1.out.1,e1.out.2];rintro e w2 ⟨A5,c5,rfl,o5,b5⟩;replace b5:=Qa (bdr (Below.refl wa.heap.size wa) _) b5)
  |(go_at_call 121;refine(qi0 (D1.keep b5) _ (by omega) (zll hBw (F1.thru hBw b5).size)).mono ?_;rintro e w3 ⟨rfl,D2,F2⟩;replace F2:=(F1.thru hBw b5).trans F2))
 all_goals
  go_wp2_with fail;go_ret;exact⟨rfl,D2,F2⟩
theorem qpw(r:List UInt8)(hr:r.length≤1000000)(hS:tkO r=none)(s:St):qon [97,100,109,105,116] r false s s:=by
 intro B b w hM D hBw;have D0:=D;obtain⟨A,c,jv,c0,c1,c2,f0,f1,f2,hO,hlc⟩:=D0.cells;go_enter Tryz.func78,Tryz.ntmps78;go_wp2_with fail;have K:=qdt r hr _ (hM.up hBw);rw[hS,show qla (none:Option Tk)=.tuple #[.agg #[.int .i64 0,.int .i64 0,.int .i64 0,.int .i64 0,.bool false],.bool false] from rfl] at K;refine K.mono ?_;rintro e w1 ⟨rfl,b1⟩;replace b1:=bal b1 (.cells #[.int .i64 0,.int .i64 0,.int .i64 0,.int .i64 0,.bool false] 58 (0,0));have D1:=D.keep b1;have F1:=(Frm.refl B b w).thru hBw b1;clear K;go_wp2_with fail;go_ret;exact⟨rfl,D1,F1⟩
theorem qzh(r:List UInt8)(hr:r.length≤1000000)(js:List Jb)(hS:qdr r=some js)(s:St)(hV:Q9 s.l js=true)(ho:s.out.length≤700000):qon [106,111,98,115] r true s ⟨s.l,js.length,qfe js,s.pol,s.out++([111,107]++[10])⟩:=by
 intro B b w hM D hBw;have D0:=D;obtain⟨A,c,jv,c0,c1,c2,f0,f1,f2,hO,hlc⟩:=D0.cells;go_enter Tryz.func78,Tryz.ntmps78;have hl60:=(qeb (qqi hV)).1;go_wp2_with fail;have K:=qf0 r hr _ (hM.up hBw);rw[hS] at K;refine K.mono ?_;rintro e w1 ⟨A1,c1',rfl,o1,b1⟩;have D1:=D.keep b1;have F1:=(Frm.refl B b w).thru hBw b1;have C1:=D1.cells;clear K c0 c1 c2 f0 f1 f2 hO hlc;obtain⟨A,c,jv,c0,c1,c2,f0,f1,f2,hO,hlc⟩:=C1;go_wp2_with fail;refine(qb2 A s.l c A1 js c1' _ hO.ts o1.js (Qo o1).1 (by unfold maxLen;omega)).mono ?_;rw[hV];rintro e w2 ⟨rfl,b2⟩;have D2:=D1.keep b2;have F2:=F1.thru hBw b2;have o2:=qdk o1 b2;go_wp2_with fail;refine(qif D2 A1 js c1' (Ql o2 hBw) (by omega) (zll hBw (Qa b1 b2).size)).mono ?_;rintro e w3 ⟨rfl,D3,F3⟩;go_wp2_with fail;go_ret;exact⟨rfl,D3,F2.trans F3⟩
theorem qsd(r:List UInt8)(hr:r.length≤1000000)(js:List Jb)(hS:qdr r=some js)(s:St)(hV:Q9 s.l js=false)(ho:s.out.length≤700000):qon [106,111,98,115] r true s {s with out:=s.out++([119,104,97,116]++[10])}:=by
 intro B b w hM D hBw;have D0:=D;obtain⟨A,c,jv,c0,c1,c2,f0,f1,f2,hO,hlc⟩:=D0.cells;go_enter Tryz.func78,Tryz.ntmps78;have hl60:=(qeb (qi1 hS).1).1;go_wp2_with fail;have K:=qf0 r hr _ (hM.up hBw);rw[hS] at K;refine K.mono ?_;rintro e w1 ⟨A1,c1',rfl,o1,b1⟩;have D1:=D.keep b1;have F1:=(Frm.refl B b w).thru hBw b1;have C1:=D1.cells;clear K c0 c1 c2 f0 f1 f2 hO hlc;obtain⟨A,c,jv,c0,c1,c2,f0,f1,f2,hO,hlc⟩:=C1;go_wp2_with fail;refine(qb2 A s.l c A1 js c1' _ hO.ts o1.js (Qo o1).1 (by unfold maxLen;omega)).mono ?_;rw[hV];rintro e w2 ⟨rfl,b2⟩;have D2:=D1.keep b2;have F2:=F1.thru hBw b2;go_wp2_with fail;refine(qee D2 _ (by omega) (zll hBw (Qa b1 b2).size)).mono ?_;rintro e w3 ⟨rfl,D3,F3⟩;go_wp2_with fail;go_ret;exact⟨rfl,D3,F2.trans F3⟩
theorem qse(r:List UInt8)(hr:r.length≤1000000)(hS:qdr r=none)(s:St)(ho:s.out.length≤700000):qon [106,111,98,115] r true s {s with out:=s.out++([119,104,97,116]++[10])}:=by
 intro B b w hM D hBw;have D0:=D;obtain⟨A,c,jv,c0,c1,c2,f0,f1,f2,hO,hlc⟩:=D0.cells;go_enter Tryz.func78,Tryz.ntmps78;go_wp2_with fail;have K:=qf0 r hr _ (hM.up hBw);rw[hS] at K;refine K.mono ?_;rintro e w1 ⟨A1,c1',rfl,o1,b1⟩;have D1:=D.keep b1;have F1:=(Frm.refl B b w).thru hBw b1;clear K c0 c1 c2 f0 f1 f2 hO hlc;go_wp2_with fail;refine(qee D1 _ (by omega) (zll hBw b1.size)).mono ?_;rintro e w3 ⟨rfl,D3,F3⟩;go_wp2_with fail;go_ret;exact⟨rfl,D3,F1.trans F3⟩
theorem q2h(x:List UInt8)(r:List UInt8)(s:St)(n0:(x==([116,97,115,107,115]:List UInt8))=false)(n1:(x==([97,100,109,105,116]:List UInt8))=false)(n2:(x==([106,111,98,115]:List UInt8))=false):qon x r false s s:=by
 intro B b w hM D hBw;have D0:=D;obtain⟨A,c,jv,c0,c1,c2,f0,f1,f2,hO,hlc⟩:=D0.cells;go_enter Tryz.func78,Tryz.ntmps78;go_wp2_with fail;go_ret;exact⟨rfl,D,Frm.refl B b w⟩
theorem qos(s:St)(hs:Qe s.l=true)(ho:s.out.length≤700000):qcn [114,101,115,112,111,110,115,101,115] s {s with out:=s.out++(Vq s.l s.l.length++[101,110,100,10])}:=by
 intro B b w hM D hBw;have D0:=D;obtain⟨A,c,jv,c0,c1,c2,f0,f1,f2,hO,hlc⟩:=D0.cells;have hl5:=(qa7 hs).1;have HS:=zhi hs;clear hs;go_enter Tryz.func77,Tryz.ntmps77;go_wp2_with fail;go_loopw [9,10,11,12,13,14,103] (fun _ _ _ _ _ _ i wr=> ∃k:Nat,i=.int .i64 (k:Int)∧k≤s.l.length∧qe0 B b wr {s with out:=s.out++Vq s.l k}∧Frm B b w wr) (fun _ _ _ _ _ _ i _=>s.l.length-(intOf i).toNat)
 case atStart=>exact⟨0,rfl,by omega,by simpa [Vq] using D,Frm.refl B b w⟩
 case round=>
  clear D;obtain⟨k,rfl,hk,D0,F0⟩:=hrel;have hrl:=qlr HS.out (k:=k) (by omega);by_cases hlt:k<s.l.length
  ·have hkI:(k:Int)<(s.l.length:Int):=by omega
   have HT:Hid (Vq s.l (k+1)=Vq s.l k++qv9 s.l k):=rfl;have HR:Hid (qv9 s.l k=num (k:Int)++((match qk7 s.l (k:Int) with|some v=>[32,108,111,119,32]++num v|none=>[])++((match rSw s.l (k:Int) with|some v=>[32,115,119,105,116,99,104,32]++num v|none=>[])++[10]))):=rfl;have hb1:=fun v=>qod HS.out hlt (r:=v)
   have hb2:=fun v=>qxt HS.out hlt (r:=v)
   have hk21:=Qp (k:Int) (by omega);have K1:=fun(A:ZA) (c:Nat) w h hc=>qc1 A s.l c (k:Int) w h hc
   have K2:=fun {A:ZA} {c:Nat} w h hc=>qfk A s.l c (k:Int) w h hc
   generalize qk7 s.l (k:Int)=o1 at HR hb1 K1;generalize rSw s.l (k:Int)=o2 at HR hb2 K2;have C0:=D0.cells;clear c0 c1 c2 f0 f1 f2 hO hlc;obtain⟨A,c,jv,c0,c1,c2,f0,f1,f2,hO,hlc⟩:=C0;go_wp2_with fail;refine(qbu (hM.keep F0.2) (k:Int) (by omega) (by omega)).mono ?_;rintro e w1 ⟨rfl,b1⟩;have D1:=D0.keep b1;have F1:=F0.thru hBw b1;have C1:=D1.cells;clear c0 c1 c2 f0 f1 f2 hO hlc;obtain⟨A,c,jv,c0,c1,c2,f0,f1,f2,hO,hlc⟩:=C1;go_wp2_with fail;refine(K1 _ _ _ hO.ts hlc).mono ?_;rintro e w2 ⟨rfl,b2⟩;have D2:=D1.keep b2;have F2:=F1.thru hBw b2;clear K1;cases o1 with
   |none=>
    cases o2 with
    |none=>
     clear hb1 hb2
     have HX:Hid (s.out++Vq s.l k++((num (k:Int))++[10])=s.out++Vq s.l (k+1)):=by
      rw[Hid,HT.out,HR.out];simp
     rw[show qes (none)=.tuple #[.int .i64 0,.bool false] from rfl];have C2:=D2.cells;clear c0 c1 c2 f0 f1 f2 hO hlc;obtain⟨A,c,jv,c0,c1,c2,f0,f1,f2,hO,hlc⟩:=C2;go_wp2_with fail;refine(K2 _ hO.ts hlc).mono ?_;rintro e w3 ⟨rfl,b3⟩;have D3:=D2.keep b3;have F3:=F2.thru hBw b3;rw[show qes (none)=.tuple #[.int .i64 0,.bool false] from rfl];clear K2;have C3:=D3.cells;clear c0 c1 c2 f0 f1 f2 hO hlc;obtain⟨A,c,jv,c0,c1,c2,f0,f1,f2,hO,hlc⟩:=C3;go_wp2_with fail;refine(Q2 D3 (num (k:Int)) _ (rfl) (by simp only[Yaa];omega) (zll hBw F3.size)).mono ?_;rintro e w9 ⟨rfl,D9,F9⟩;rw[show({({s with out:=s.out++Vq s.l k}:St) with out:=({s with out:=s.out++Vq s.l k}:St).out++((num (k:Int))++[10])}:St)={s with out:=s.out++Vq s.l (k+1)} from by rw[←HX.out]] at D9;have F9:=F3.trans F9;go_wp2_with fail;go_roundw
     case rel=>exact⟨k+1,by go_num,by omega,D9,F9⟩
     case measure=>simp[intOf];omega
    |some v2=>
     have n2:=hb2 v2 rfl;have m2:=Qp v2 (by omega);clear hb1 hb2
     have HX:Hid (s.out++Vq s.l k++(((num (k:Int))++([32,115,119,105,116,99,104,32]++num v2))++[10])=s.out++Vq s.l (k+1)):=by
      rw[Hid,HT.out,HR.out];simp
     rw[show qes (none)=.tuple #[.int .i64 0,.bool false] from rfl];have C2:=D2.cells;clear c0 c1 c2 f0 f1 f2 hO hlc;obtain⟨A,c,jv,c0,c1,c2,f0,f1,f2,hO,hlc⟩:=C2;go_wp2_with fail;refine(K2 _ hO.ts hlc).mono ?_;rintro e w3 ⟨rfl,b3⟩;have D3:=D2.keep b3;have F3:=F2.thru hBw b3;rw[show qes (some v2)=.tuple #[.int .i64 v2,.bool true] from rfl];clear K2;have C3:=D3.cells;clear c0 c1 c2 f0 f1 f2 hO hlc;obtain⟨A,c,jv,c0,c1,c2,f0,f1,f2,hO,hlc⟩:=C3;go_wp2_with fail;refine(qbu (hM.keep F3.2) v2 (by omega) (by omega)).mono ?_;rintro e w4 ⟨rfl,b4⟩;have D4:=D3.keep b4;have F4:=F3.thru hBw b4;have C4:=D4.cells;clear c0 c1 c2 f0 f1 f2 hO hlc;obtain⟨A,c,jv,c0,c1,c2,f0,f1,f2,hO,hlc⟩:=C4;go_wp2_with fail;refine(Q2 D4 ((num (k:Int))++([32,115,119,105,116,99,104,32]++num v2)) _ (by simp[Qn]) (by simp only[Yaa,Yau,Ybl];omega) (zll hBw F4.size)).mono ?_;rintro e w9 ⟨rfl,D9,F9⟩;rw[show({({s with out:=s.out++Vq s.l k}:St) with out:=({s with out:=s.out++Vq s.l k}:St).out++(((num (k:Int))++([32,115,119,105,116,99,104,32]++num v2))++[10])}:St)={s with out:=s.out++Vq s.l (k+1)} from by rw[←HX.out]] at D9;have F9:=F4.trans F9;go_wp2_with fail;go_roundw
     case rel=>exact⟨k+1,by go_num,by omega,D9,F9⟩
     case measure=>simp[intOf];omega
   |some v1=>
    cases o2 with
    |none=>
     have n1:=hb1 v1 rfl;have m1:=Qp v1 (by omega);clear hb1 hb2
     have HX:Hid (s.out++Vq s.l k++((num (k:Int)++([32,108,111,119,32]++num v1))++[10])=s.out++Vq s.l (k+1)):=by
      rw[Hid,HT.out,HR.out];simp
     rw[show qes (some v1)=.tuple #[.int .i64 v1,.bool true] from rfl];have C2:=D2.cells;clear c0 c1 c2 f0 f1 f2 hO hlc;obtain⟨A,c,jv,c0,c1,c2,f0,f1,f2,hO,hlc⟩:=C2;go_wp2_with fail;refine(qbu (hM.keep F2.2) v1 (by omega) (by omega)).mono ?_;rintro e w3 ⟨rfl,b3⟩;have D3:=D2.keep b3;have F3:=F2.thru hBw b3;have C3:=D3.cells;clear c0 c1 c2 f0 f1 f2 hO hlc;obtain⟨A,c,jv,c0,c1,c2,f0,f1,f2,hO,hlc⟩:=C3;go_wp2_with fail;refine(K2 _ hO.ts hlc).mono ?_;rintro e w4 ⟨rfl,b4⟩;have D4:=D3.keep b4;have F4:=F3.thru hBw b4;rw[show qes (none)=.tuple #[.int .i64 0,.bool false] from rfl];clear K2;have C4:=D4.cells;clear c0 c1 c2 f0 f1 f2 hO hlc;obtain⟨A,c,jv,c0,c1,c2,f0,f1,f2,hO,hlc⟩:=C4;go_wp2_with fail;refine(Q2 D4 (num (k:Int)++([32,108,111,119,32]++num v1)) _ (by simp[Qn]) (by simp only[Yaa,Yau,Ybl];omega) (zll hBw F4.size)).mono ?_;rintro e w9 ⟨rfl,D9,F9⟩;rw[show({({s with out:=s.out++Vq s.l k}:St) with out:=({s with out:=s.out++Vq s.l k}:St).out++((num (k:Int)++([32,108,111,119,32]++num v1))++[10])}:St)={s with out:=s.out++Vq s.l (k+1)} from by rw[←HX.out]] at D9;have F9:=F4.trans F9;go_wp2_with fail;go_roundw
     case rel=>exact⟨k+1,by go_num,by omega,D9,F9⟩
     case measure=>simp[intOf];omega
    |some v2=>
     have n1:=hb1 v1 rfl;have m1:=Qp v1 (by omega);have n2:=hb2 v2 rfl;have m2:=Qp v2 (by omega);clear hb1 hb2
     have HX:Hid (s.out++Vq s.l k++(((num (k:Int)++([32,108,111,119,32]++num v1))++([32,115,119,105,116,99,104,32]++num v2))++[10])=s.out++Vq s.l (k+1)):=by
      rw[Hid,HT.out,HR.out];simp
     rw[show qes (some v1)=.tuple #[.int .i64 v1,.bool true] from rfl];have C2:=D2.cells;clear c0 c1 c2 f0 f1 f2 hO hlc;obtain⟨A,c,jv,c0,c1,c2,f0,f1,f2,hO,hlc⟩:=C2;go_wp2_with fail;refine(qbu (hM.keep F2.2) v1 (by omega) (by omega)).mono ?_;rintro e w3 ⟨rfl,b3⟩;have D3:=D2.keep b3;have F3:=F2.thru hBw b3;have C3:=D3.cells;clear c0 c1 c2 f0 f1 f2 hO hlc;obtain⟨A,c,jv,c0,c1,c2,f0,f1,f2,hO,hlc⟩:=C3;go_wp2_with fail;refine(K2 _ hO.ts hlc).mono ?_;rintro e w4 ⟨rfl,b4⟩;have D4:=D3.keep b4;have F4:=F3.thru hBw b4;rw[show qes (some v2)=.tuple #[.int .i64 v2,.bool true] from rfl];clear K2;have C4:=D4.cells;clear c0 c1 c2 f0 f1 f2 hO hlc;obtain⟨A,c,jv,c0,c1,c2,f0,f1,f2,hO,hlc⟩:=C4;go_wp2_with fail;refine(qbu (hM.keep F4.2) v2 (by omega) (by omega)).mono ?_;rintro e w5 ⟨rfl,b5⟩;have D5:=D4.keep b5;have F5:=F4.thru hBw b5;have C5:=D5.cells;clear c0 c1 c2 f0 f1 f2 hO hlc;obtain⟨A,c,jv,c0,c1,c2,f0,f1,f2,hO,hlc⟩:=C5;go_wp2_with fail;refine(Q2 D5 ((num (k:Int)++([32,108,111,119,32]++num v1))++([32,115,119,105,116,99,104,32]++num v2)) _ (by simp[Qn]) (by simp only[Yaa,Yau,Ybl];omega) (zll hBw F5.size)).mono ?_;rintro e w9 ⟨rfl,D9,F9⟩;rw[show({({s with out:=s.out++Vq s.l k}:St) with out:=({s with out:=s.out++Vq s.l k}:St).out++(((num (k:Int)++([32,108,111,119,32]++num v1))++([32,115,119,105,116,99,104,32]++num v2))++[10])}:St)={s with out:=s.out++Vq s.l (k+1)} from by rw[←HX.out]] at D9;have F9:=F5.trans F9;go_wp2_with fail;go_roundw
     case rel=>exact⟨k+1,by go_num,by omega,D9,F9⟩
     case measure=>simp[intOf];omega
  ·obtain rfl:k=s.l.length:=by omega
   go_wp2_with fail;refine(Q2 D0 [101,110,100] _ rfl (by simp only[Yaa,Yau,Ybl];omega) (zll hBw F0.size)).mono ?_;rintro e w9 ⟨rfl,D9,F9⟩;rw[show({({s with out:=s.out++Vq s.l s.l.length}:St) with out:=({s with out:=s.out++Vq s.l s.l.length}:St).out++([101,110,100]++[10])}:St)={s with out:=s.out++(Vq s.l s.l.length++[101,110,100,10])} from by rw[←Yax s.out];rfl] at D9;have F9:=F0.trans F9;go_wp2_with fail;go_ret;exact⟨rfl,D9,F9⟩
def qk5(s:Ss)(o:List UInt8)(q:Option (Ss×List UInt8)):St:=match q with
 |some q=>qb6 q.1 (o++q.2)
 |none=>qb6 s o
theorem q2i{s:Ss}(hG:Good s)(x o:List UInt8)(ho:o.length≤700000):q2g x (qj1 s x).isSome (qb6 s o) (qk5 s o (qj1 s x)):=by
 have hl5:=Vl hG.v;have hm:s.l.length≤maxLen:=by unfold maxLen;omega
 by_cases h0:x=[115,111,114,116]
 ·subst h0;exact(qzd (qb6 s o) hm ho).z
 by_cases h1:x=[97,115,115,105,103,110]
 ·subst h1
  have E:qj1 s [97,115,115,105,103,110]=some (match Ve s.l with
   |some p=>qdc s (qb5 s.l p)
   |none=>(s,noT)):=rfl
  rw[E];cases ha:Ve s.l with
  |some p=>exact(qui (qb6 s o) p ha hm ho).z
  |none=>exact(qop (qb6 s o) ha hm ho).z
 by_cases h2:x=[112,108,97,99,101,115]
 ·subst h2;exact(qtr (qb6 s o) ho).z
 by_cases h3:x=[100,101,97,100,108,105,110,101,115]
 ·subst h3;exact(qnx (qb6 s o) ho).z
 by_cases h4:x=[115,104,111,119]
 ·subst h4
  have E:qk5 s o (qj1 s [115,104,111,119])={qb6 s o with out:=o++(Va s.l++[10])++(Vf s.js++[10])}:=by
   show qb6 s (o++((Va s.l++[10])++(Vf s.js++[10])))=_;rw[←Yax o];rfl
  rw[E];exact(qvy (qb6 s o) s.js rfl rfl hG.t ho).z
 by_cases h5:x=[104,111,108,100,115]
 ·subst h5;have E:qj1 s [104,111,108,100,115]=some (s,if qaf s.l s.pol then [104,111,108,100,115,32,121,101,115,10] else [104,111,108,100,115,32,110,111,10]):=rfl;rw[E];cases ha:qaf s.l s.pol with
  |true=>exact(qoo (qb6 s o) ha hm ho).z
  |false=>exact(qpr (qb6 s o) ha hm ho).z
 by_cases h6:x=[114,101,115,112,111,110,115,101,115]
 ·subst h6;exact(qos (qb6 s o) hG.v ho).z
 by_cases h7:x=[115,104,97,114,101,115]
 ·subst h7;exact(quh (qb6 s o) hG.v ho).z
 by_cases h8:x=[102,97,99,116,111,114]
 ·subst h8
  have E:qj1 s [102,97,99,116,111,114]=some (s,match q1q s.l with
   |some r=>([102,97,99,116,111,114,32]++Vk r)++[10]
   |none=>qf1):=rfl
  rw[E];cases ha:q1q s.l with
  |some r=>exact(quj (qb6 s o) r (qxv ha) (qwg hG.v ha) hm ho).z
  |none=>exact(qoq (qb6 s o) (qt7 ha) hm ho).z
 by_cases h9:x=[102,101,119,101,115,116]
 ·subst h9
  have E:qj1 s [102,101,119,101,115,116]=some (s,match qru s.l s.pol with
   |some n=>([102,101,119,101,115,116,32]++num n)++[10]
   |none=>qf1):=rfl
  rw[E];cases ha:qru s.l s.pol with
  |some n=>exact(quk (qb6 s o) n ha (by have:=(qik ha).1;omega) (by have:=(qik ha).2.1;omega) hm ho).z
  |none=>exact(qor (qb6 s o) ha hm ho).z
 have E:qj1 s x=none:=by simp[qj1,h0,h1,h2,h3,h4,h5,h6,h7,h8,h9]
 rw[E];exact qze x _ (by simpa using h0) (by simpa using h1) (by simpa using h2) (by simpa using h3) (by simpa using h4) (by simpa using h5) (by simpa using h6) (by simpa using h7) (by simpa using h8) (by simpa using h9)
theorem q2k{s:Ss}(hG:Good s)(x:List UInt8)(n:Int)(o:List UInt8)(ho:o.length≤700000):qxz x n (qj2 s x n).isSome (qb6 s o) (qk5 s o (qj2 s x n)):=by
 have hl5:=Vl hG.v;have hm:s.l.length≤maxLen:=by unfold maxLen;omega
 by_cases h0:x=[108,101,97,118,101]
 ·subst h0;have E:qj2 s [108,101,97,118,101] n=some (if plc s.l n then qdc s (lvT s.l n) else(s,noT)):=rfl;rw[E];cases ha:plc s.l n with
  |true=>exact(qvs n (qb6 s o) ha ho).z
  |false=>exact(qpa n (qb6 s o) ha ho).z
 by_cases h1:x=[114,97,105,115,101]
 ·subst h1
  have E:qj2 s [114,97,105,115,101] n=some (match qal s.l n with
   |some l=>qdc s l
   |none=>(s,noT)):=rfl
  rw[E];cases ha:qal s.l n with
  |some l=>exact(qwo n (qb6 s o) l ha (show s.l.length≤1000000 by omega) ho).z
  |none=>exact(qpt n (qb6 s o) ha (show s.l.length≤1000000 by omega) ho).z
 by_cases h2:x=[114,117,108,101]
 ·subst h2;have E:qj2 s [114,117,108,101] n=some (qpe s (qay s.l n false)):=rfl;rw[E];cases ha:qay s.l n false with
  |some js=>exact(qyx n (qb6 s o) js ha ho).z
  |none=>exact(qsc n (qb6 s o) ha ho).z
 by_cases h3:x=[119,111,114,115,116]
 ·subst h3;have E:qj2 s [119,111,114,115,116] n=some (qpe s (qay s.l n true)):=rfl;rw[E];cases ha:qay s.l n true with
  |some js=>exact(qvx n (qb6 s o) js ha ho).z
  |none=>exact(qps n (qb6 s o) ha ho).z
 by_cases h4:x=[114,117,110]
 ·subst h4;have E:qj2 s [114,117,110] n=if qrg s.l s.js s.pol n then some (s,q0n s.l s.js s.pol n.toNat) else none:=rfl
  rw[E];cases ha:qrg s.l s.js s.pol n with
  |true=>
   have hr:=ha;simp only[qrg,Yac,Yae] at hr;have hn:((n.toNat:Nat):Int)=n:=by omega
   have K:=(q1c n.toNat (qb6 s o) s.js rfl rfl hr.1.1.1 hG.p (qt6 hr.1.1.2) (by omega) ho).z;rw[hn] at K;exact K
  |false=>exact qum n (qb6 s o) s.js rfl rfl ha hm (by have:=(qeb hG.t).1;unfold maxLen;omega)
 by_cases h5:x=[104,105,103,104]
 ·subst h5
  have E:qj2 s [104,105,103,104] n=some (s,match Vm s.l n s.pol with
   |some k=>([104,105,103,104,32]++num k)++[10]
   |none=>qf1):=rfl
  rw[E];cases ha:Vm s.l n s.pol with
  |some k=>
   have hk:=qe6 ha;exact(qzf n (qb6 s o) k ha (qml ha) (by omega) hm ho).z
  |none=>exact(qsa n (qb6 s o) ha hm ho).z
 by_cases h6:x=[112,97,99,107]
 ·subst h6
  have E:qj2 s [112,97,99,107] n=some (s,match qht s.l n s.pol with
   |some ws=>qas s.l ws++[101,110,100,10]
   |none=>qf1):=rfl
  rw[E];cases ha:qht s.l n s.pol with
  |some ws=>
   have K:=(qzg n (qb6 s o) ws ha hm ho).z
   have E2:{qb6 s o with out:=(qb6 s o).out++qas (qb6 s o).l ws++([101,110,100]++[10])}=qk5 s o (some (s,qas s.l ws++[101,110,100,10])):=by
    show qb6 s (o++qas s.l ws++[101,110,100,10])=qb6 s (o++(qas s.l ws++[101,110,100,10]));rw[Yax]
   rw[E2] at K;exact K
  |none=>exact(qsb n (qb6 s o) ha hm ho).z
 have E:qj2 s x n=none:=by simp[qj2,h0,h1,h2,h3,h4,h5,h6]
 rw[E];exact qul x n _ (by simpa using h0) (by simpa using h1) (by simpa using h2) (by simpa using h3) (by simpa using h4) (by simpa using h5) (by simpa using h6)
theorem q4y{s:Ss}(hG:Good s)(x r:List UInt8)(hr:r.length≤1000000)(o:List UInt8)(ho:o.length≤700000):qon x r (qrv s x r).isSome (qb6 s o) (qk5 s o (qrv s x r)):=by
 have hl5:=Vl hG.v;by_cases h0:x=[116,97,115,107,115]
 ·subst h0;have E:qrv s [116,97,115,107,115] r=(qhs r).map (fun l=>qdc s l):=rfl;rw[E];cases ha:qhs r with
  |some l=>exact qwp r hr l ha (qb6 s o) ho
  |none=>exact qpu r hr ha (qb6 s o)
 by_cases h1:x=[97,100,109,105,116]
 ·subst h1
  have E:qrv s [97,100,109,105,116] r=(tkO r).map (fun t=>match qax s.l t s.pol with
   |some l=>qdc s l
   |none=>(s,noT)):=rfl
  rw[E];cases ha:tkO r with
  |some t=>
   rw[Yde];cases hb:qax s.l t s.pol with
   |some l=>exact qwq r hr t ha (qb6 s o) l hb (show s.l.length≤1000000 by omega) ho
   |none=>exact qpv r hr t ha (qb6 s o) hb (show s.l.length≤1000000 by omega) ho
  |none=>exact qpw r hr ha (qb6 s o)
 by_cases h2:x=[106,111,98,115]
 ·subst h2
  have E:qrv s [106,111,98,115] r=some (qpe s (match qdr r with
   |some js=>if Q9 s.l js then some js else none
   |none=>none)):=rfl
  rw[E];cases ha:qdr r with
  |some js=>
   dsimp only;cases hb:Q9 s.l js with
   |true=>exact qzh r hr js ha (qb6 s o) hb ho
   |false=>exact qsd r hr js ha (qb6 s o) hb ho
  |none=>exact qse r hr ha (qb6 s o) ho
 have E:qrv s x r=none:=by simp[qrv,h0,h1,h2]
 rw[E];exact q2h x r _ (by simpa using h0) (by simpa using h1) (by simpa using h2)
theorem qj7(s:Ss)(o:List UInt8):qk5 s o none=qb6 s o:=rfl
theorem q7r{s:Ss}(hG:Good s)(x:List UInt8)(hx:x.length≤1000000)(o:List UInt8)(ho:o.length≤600000):DoZ x (qb6 s o) (qb6 (qfz s x).1 (o++(qfz s x).2)):=by
 obtain⟨a,r,f,hC⟩: ∃a r f,Lib.cut x [32]=(a,r,f):=⟨_,_,_,rfl⟩;have hle:=qq0 x [32];rw[hC] at hle;dsimp only at hle;obtain⟨S',hS'⟩: ∃S',qb6 (qfz s x).1 (o++(qfz s x).2)=S':=⟨_,rfl⟩;have hL:qfz s x=if f then qj4 s a r else qj3 s (qj1 s a):=by rw[qfz,hC]
 rw[hS'];rw[hL] at hS';intro B b w hM D hBw;have hL2:(qb6 s o).out.length≤600000:=ho;cases f with
 |false=>
  rw[Yaq (by simp)] at hS';have hp:=q2i hG a o (by omega);cases h1:qj1 s a with
  |some q=>
   rw[h1] at hS' hp;rw[show qk5 s o (some q)=S' from hS'] at hp;clear hS' h1 hL;go_enter Tryz.func42,Tryz.ntmps42;go_wp2_with fail;refine(qb0 hC hM.mx (by omega)).mono ?_;rintro e w1 ⟨rfl,b1⟩;have D1:=D.keep b1;have hM1:=hM.keep (b1.mono hBw);have F1:=(Frm.refl B b w).thru hBw b1;have hB1:=zll hBw b1.size;go_wp2_with fail;refine(hp B b _ hM1 D1 hB1).mono ?_;rintro e w2 ⟨rfl,D2,F2⟩;go_wp2_with fail;go_end0
   exact⟨rfl,D2,F1.trans F2⟩
  |none=>
   rw[h1] at hS' hp;rw[qj7] at hp;have hS2:({qb6 s o with out:=(qb6 s o).out++([119,104,97,116]++[10])}:St)=S':=hS';clear hS' h1 hL;go_enter Tryz.func42,Tryz.ntmps42;go_wp2_with fail;refine(qb0 hC hM.mx (by omega)).mono ?_;rintro e w1 ⟨rfl,b1⟩;have D1:=D.keep b1;have hM1:=hM.keep (b1.mono hBw);have F1:=(Frm.refl B b w).thru hBw b1;have hB1:=zll hBw b1.size;go_wp2_with fail;refine(hp B b _ hM1 D1 hB1).mono ?_;rintro e w2 ⟨rfl,D2,F2⟩;have F2:=F1.trans F2;go_wp2_with fail;refine(Q2 D2 [119,104,97,116] _ rfl (by simp;omega) (zll hBw F2.size)).mono ?_;rintro e w3 ⟨rfl,D3,F3⟩;rw[hS2] at D3;go_wp2_with fail;go_end0
   exact⟨rfl,D3,F2.trans F3⟩
 |true=>
  rw[Yav rfl] at hS';have hp:=q4y hG a r (by omega) o (by omega);unfold qj4 at hS';cases h1:qrv s a r with
  |some q=>
   rw[h1] at hS' hp;rw[show qk5 s o (some q)=S' from hS'] at hp;clear hS' h1 hL;go_enter Tryz.func42,Tryz.ntmps42;go_wp2_with fail;refine(qb0 hC hM.mx (by omega)).mono ?_;rintro e w1 ⟨rfl,b1⟩;have D1:=D.keep b1;have hM1:=hM.keep (b1.mono hBw);have F1:=(Frm.refl B b w).thru hBw b1;have hB1:=zll hBw b1.size;go_wp2_with fail;refine(hp B b _ hM1 D1 hB1).mono ?_;rintro e w2 ⟨rfl,D2,F2⟩;go_wp2_with fail;go_end0
   exact⟨rfl,D2,F1.trans F2⟩
  |none=>
   rw[h1] at hS' hp;rw[qj7] at hp;dsimp only at hS';cases h2:qdf r with
   |none=>
    rw[h2] at hS';have hS2:({qb6 s o with out:=(qb6 s o).out++([119,104,97,116]++[10])}:St)=S':=hS';have HN:Hid (qdf r=none):=h2;clear hS' h1 hL h2;go_enter Tryz.func42,Tryz.ntmps42;go_wp2_with fail;refine(qb0 hC hM.mx (by omega)).mono ?_;rintro e w1 ⟨rfl,b1⟩;have D1:=D.keep b1;have hM1:=hM.keep (b1.mono hBw);have F1:=(Frm.refl B b w).thru hBw b1;have hB1:=zll hBw b1.size;go_wp2_with fail;refine(hp B b _ hM1 D1 hB1).mono ?_;rintro e w2 ⟨rfl,D2,F2⟩;have hM2:=hM1.keep F2.2;have F2:=F1.trans F2;have hB2:=zll hBw F2.size;go_wp2_with fail;refine(qho hM2 hB2 r (by omega)).mono ?_;rintro e w3 ⟨n,rfl,_,b3⟩;rw[HN.out];have D3:=D2.keep b3;have F3:=F2.thru hBw b3;simp only[Option.isSome_none];go_wp2_with fail;refine(Q2 D3 [119,104,97,116] _ rfl (by simp;omega) (zll hBw F3.size)).mono ?_;rintro e w4 ⟨rfl,D4,F4⟩;rw[hS2] at D4;go_wp2_with fail;go_end0
    exact⟨rfl,D4,F3.trans F4⟩
   |some n=>
    rw[h2] at hS';dsimp only at hS';have hq:=q2k hG a n o (by omega);have HN:Hid (qdf r=some n):=h2;cases h3:qj2 s a n with
    |some q=>
     rw[h3] at hS' hq;rw[show qk5 s o (some q)=S' from hS'] at hq;clear hS' h1 hL h2 h3;go_enter Tryz.func42,Tryz.ntmps42;go_wp2_with fail;refine(qb0 hC hM.mx (by omega)).mono ?_;rintro e w1 ⟨rfl,b1⟩;have D1:=D.keep b1;have hM1:=hM.keep (b1.mono hBw);have F1:=(Frm.refl B b w).thru hBw b1;have hB1:=zll hBw b1.size;go_wp2_with fail;refine(hp B b _ hM1 D1 hB1).mono ?_;rintro e w2 ⟨rfl,D2,F2⟩;have hM2:=hM1.keep F2.2;have F2:=F1.trans F2;have hB2:=zll hBw F2.size;go_wp2_with fail;refine(qho hM2 hB2 r (by omega)).mono ?_;rintro e w3 ⟨n2,rfl,hn2,b3⟩;obtain rfl:=hn2 _ HN.out;rw[HN.out];have D3:=D2.keep b3;have F3:=F2.thru hBw b3;have hM3:=hM2.keep (b3.mono hB2);have hB3:=zll hBw F3.size;clear hn2;simp only[Ydo];go_wp2_with fail;refine(hq B b _ hM3 D3 hB3).mono ?_;rintro e w4 ⟨rfl,D4,F4⟩;go_wp2_with fail;go_end0
     exact⟨rfl,D4,F3.trans F4⟩
    |none=>
     rw[h3] at hS' hq;rw[qj7] at hq;have hS2:({qb6 s o with out:=(qb6 s o).out++([119,104,97,116]++[10])}:St)=S':=hS';clear hS' h1 hL h2 h3;go_enter Tryz.func42,Tryz.ntmps42;go_wp2_with fail;refine(qb0 hC hM.mx (by omega)).mono ?_;rintro e w1 ⟨rfl,b1⟩;have D1:=D.keep b1;have hM1:=hM.keep (b1.mono hBw);have F1:=(Frm.refl B b w).thru hBw b1;have hB1:=zll hBw b1.size;go_wp2_with fail;refine(hp B b _ hM1 D1 hB1).mono ?_;rintro e w2 ⟨rfl,D2,F2⟩;have hM2:=hM1.keep F2.2;have F2:=F1.trans F2;have hB2:=zll hBw F2.size;go_wp2_with fail;refine(qho hM2 hB2 r (by omega)).mono ?_;rintro e w3 ⟨n2,rfl,hn2,b3⟩;obtain rfl:=hn2 _ HN.out;rw[HN.out];have D3:=D2.keep b3;have F3:=F2.thru hBw b3;have hM3:=hM2.keep (b3.mono hB2);have hB3:=zll hBw F3.size;clear hn2;simp only[Ydo];go_wp2_with fail;refine(hq B b _ hM3 D3 hB3).mono ?_;rintro e w4 ⟨rfl,D4,F4⟩;have F4:=F3.trans F4;go_wp2_with fail;refine(Q2 D4 [119,104,97,116] _ rfl (by simp;omega) (zll hBw F4.size)).mono ?_;rintro e w5 ⟨rfl,D5,F5⟩;rw[hS2] at D5;go_wp2_with fail;go_end0
     exact⟨rfl,D5,F4.trans F5⟩
def q6u:List Value:=[.slice none 0 0,.slice none 0 0,.int .i64 0,.pointer none,.slice none 0 0]
def Emp(b:Nat)(w:World)(o:List UInt8):Prop:=o=[]→w.heap[b]? =some (.cells q6u.toArray DT (0,0))
theorem Emp.no{b:Nat}{w:World}{o x:List UInt8}(h:1≤x.length):Emp b w (o++x):=by
 intro e;have:=List.append_eq_nil_iff.1 e;rw[this.2] at h;simp at h
theorem q4z(i:Nat)(s:Ss)(o:List UInt8):qje [] i s o=o:=rfl
theorem q2l(r:List (List UInt8))(i:Nat)(s:Ss)(o:List UInt8):qje ([]::r) i s o=qje r (i+1) s o:=rfl
theorem q2m{x:List UInt8}(hx:x≠[])(r:List (List UInt8)){i:Nat}(s:Ss){o:List UInt8}(h:200≤i∨40000<o.length):qje (x::r) i s o=o++q6d:=by rw[qje,Yaq hx,Yav h]
theorem q6v{x:List UInt8}(hx:x≠[])(r:List (List UInt8)){i:Nat}(s:Ss){o:List UInt8}(h: ¬(200≤i∨40000<o.length)):qje (x::r) i s o=qje r (i+1) (qfz s x).1 (o++(qfz s x).2):=by rw[qje,Yaq hx,Yaq h]
theorem qun{b:Nat}{w:World}(hk:w.heap[b]? =some (.cells q6u.toArray DT (0,0))):
  Calls Tryz.prog 43 #[qg4 b] w fun e w'=>e=.returned (.string ⟨([]:List UInt8).toArray⟩)∧Below w.heap.size w w':=by
 have c1:w.drew.cell? ⟨b,4,none⟩=some (.slice none 0 0):=by
  have:w.drew.heap[b]? =some (.cells q6u.toArray DT (0,0)):=hk;rw[Yak this];rfl
 have hSD:(Builtin.unsafeSliceData_ #[22] 121 #[.slice none 0 0]).run Tryz.prog w.drew=.ok (.pointer none) w.drew:=Lib.run_unsafeSliceData_nil _ _ _ _ _;have hUS:(Builtin.unsafeString_ #[121,3] 9 #[.pointer none,.int .i64 0]).run Tryz.prog w.drew=.ok (.string ⟨([]:List UInt8).toArray⟩) w.drew:=Lib.run_unsafeString_none _ _ _ _ _;have mixed:Tryz.prog.follows Departure.mixedOrders=true:=by kernel_rfl
 go_enter Tryz.func43,Tryz.ntmps43;go_wp2
 go_region_o
 all_goals(go_wp2;go_ret;exact⟨rfl,zdr (Below.refl _ w)⟩)
theorem qin(text:List UInt8)(hl:text.length≤9000000000000000000)(w:World)(hM:Mz w.heap.size w):
  Calls Tryz.prog 14 #[.string ⟨text.toArray⟩] w fun e w'=>e=.returned (.string ⟨(qqr text).toArray⟩)∧Below w.heap.size w w':=by
 by_cases hlong:20000<text.length
 ·have hlI:(20000:Int)<(text.length:Int):=by omega
  have hS:qqr text=[108,111,110,103,10]:=Yav hlong;rw[hS];clear hS hM;go_enter Tryz.func14,Tryz.ntmps14;go_wp2_with fail;go_ret;exact⟨rfl,br⟩
 ·obtain⟨R,hR⟩: ∃R,qqr text=R:=⟨_,rfl⟩;have hS:qje (Qq [10] text) 0 ss0 []=R:=by rw[←hR,qqr,Yaq hlong]
  rw[hR];clear hR;obtain⟨L,hL⟩: ∃L,Qq [10] text=L:=⟨_,rfl⟩;have hLm:Hid (∀x∈L,x.length≤text.length):=by rw[←hL];exact ql2 10 [] text
  have hLn:L.length≤text.length+1:=by rw[←hL];exact qen 10 text
  rw[hL] at hS;have HS:=zhi hS;have hM0:=hM;have hlI: ¬(20000:Int)<(text.length:Int):=by omega
  clear hS;go_enter Tryz.func14,Tryz.ntmps14;go_wp2_with fail;have hD0:(w.alloc (.cells #[.slice none 0 0,.slice none 0 0,.int .i64 0,.pointer none,.slice none 0 0] DT (0,0))).heap[w.heap.size]? =some (.cells #[.slice none 0 0,.slice none 0 0,.int .i64 0,.pointer none,.slice none 0 0] DT (0,0)):=zha w _
  have D0:qe0 w.heap.size w.heap.size (w.alloc (.cells #[.slice none 0 0,.slice none 0 0,.int .i64 0,.pointer none,.slice none 0 0] DT (0,0))) (qb6 ss0 []):=
   ⟨zlr _,none,0,.slice none 0 0,.pointer none,.slice none 0 0,hD0,.inl rfl,⟨rfl,.inl ⟨rfl,rfl⟩⟩,qf3 _ _,Ydf _ _ _ _⟩
  have F0:Below w.heap.size w (w.alloc (.cells #[.slice none 0 0,.slice none 0 0,.int .i64 0,.pointer none,.slice none 0 0] DT (0,0))):=bal br _;refine(qm7 text 10 [] L hL (hM.mx.keep F0) (by omega)).mono ?_;rintro e w1 ⟨rfl,rfl⟩;have D1:=D0.keep (bal br (.cells (L.map (fun x=>Value.string ⟨x.toArray⟩)).toArray 9 (0,0)));have F1:=Qa F0 (bal br (.cells (L.map (fun x=>Value.string ⟨x.toArray⟩)).toArray 9 (0,0)));have hP:=zha (w.alloc (.cells #[.slice none 0 0,.slice none 0 0,.int .i64 0,.pointer none,.slice none 0 0] DT (0,0))) (.cells (L.map (fun x=>Value.string ⟨x.toArray⟩)).toArray 9 (0,0));have hsz:(w.alloc (.cells #[.slice none 0 0,.slice none 0 0,.int .i64 0,.pointer none,.slice none 0 0] DT (0,0))).heap.size=w.heap.size+1:=by simp
  rw[hsz] at hP
  have E1:Emp w.heap.size ((w.alloc (.cells #[.slice none 0 0,.slice none 0 0,.int .i64 0,.pointer none,.slice none 0 0] DT (0,0))).alloc (.cells (L.map (fun x=>Value.string ⟨x.toArray⟩)).toArray 9 (0,0))) []:=by
   intro _;refine((bal (Below.refl (w.alloc (.cells #[.slice none 0 0,.slice none 0 0,.int .i64 0,.pointer none,.slice none 0 0] DT (0,0))).heap.size _) _).block w.heap.size (by simp)).trans ?_;exact hD0
  clear D0 F0 hD0;go_wp2_with fail;go_loopw [14] (fun i wr=> ∃(k:Nat) (s:Ss) (o:List UInt8),i=.int .i64 (k:Int)∧k≤L.length∧Hid (qje (L.drop k) k s o=R)∧Good s∧o.length≤50000∧Emp w.heap.size wr o∧qe0 w.heap.size w.heap.size wr (qb6 s o)∧Hid (wr.heap[w.heap.size+1]? =some (.cells (L.map (fun x=>Value.string ⟨x.toArray⟩)).toArray 9 (0,0)))∧Below w.heap.size w wr) (fun i _=>L.length-(intOf i).toNat)
  case atStart=>exact⟨0,ss0,[],rfl,by omega,by rw[List.drop_zero];exact HS,q7k,by simp,E1,D1,hP,F1⟩
  case round=>
   clear hP D1 F1 HS E1;obtain⟨k,s,o,rfl,hk,hC,hG,hol,hE,D,hP,hb⟩:=hrel;by_cases hlt:k<L.length
   ·have hx:=qkt hP.out k hlt;have hd0:L.drop k=L[k]::L.drop (k+1):=Ybo hlt;have hC1:=hC.out;have hxl:=hLm.out L[k] (Yao hlt);rw[hd0] at hC1;generalize L[k]=x at hx hC1 hxl;have hpl:=(Array.getElem?_eq_some_iff.1 hP.out).1;clear hd0 hC;by_cases hne:x=[]
    ·subst hne;rw[q2l] at hC1;have HC2:=zhi hC1;clear hC1;go_wp2_with fail;go_roundw
     case rel=>exact⟨k+1,s,o,by go_num,by omega,HC2,hG,hol,hE,D,hP,hb⟩
     case measure=>simp[intOf];omega
    ·have hxe:x.isEmpty=false:=by simpa using hne
     by_cases hfull:200≤k∨40000<o.length
     ·rw[q2m hne _ _ hfull] at hC1;have HC2:=zhi hC1;have hlb:=q16;clear hC1;by_cases hk2:200≤k
      ·have hk200:(200:Int)≤(k:Int):=by omega
       go_wp2_with fail;refine(Q2 D [102,117,108,108] _ rfl (by show o.length+4≤_;omega) hb.size).mono ?_;rintro e w3 ⟨rfl,D3,F3⟩;have h0:({qb6 s o with out:=(qb6 s o).out++([102,117,108,108]++[10])}:St).out≠[]:=by simp
       have hRo:({qb6 s o with out:=(qb6 s o).out++([102,117,108,108]++[10])}:St).out=R:=HC2.out;generalize({qb6 s o with out:=(qb6 s o).out++([102,117,108,108]++[10])}:St)=S3 at D3 h0 hRo;subst hRo;go_wp2_with fail;refine(qjy D3 h0).mono ?_;rintro e w4 ⟨rfl,b4⟩;go_wp2_with fail;go_ret;exact⟨rfl,(hb.trans F3.2).trans b4⟩
      ·have hk200: ¬(200:Int)≤(k:Int):=by omega
       have hgo:(40000:Int)<(o.length:Int):=by omega
       go_wp2_with fail;refine(qxi D).mono ?_;rintro e w2 ⟨rfl,rfl⟩;rw[show(qb6 s o).out=o from rfl];go_wp2_with fail;refine(Q2 D [102,117,108,108] _ rfl (by show o.length+4≤_;omega) hb.size).mono ?_;rintro e w3 ⟨rfl,D3,F3⟩;have h0:({qb6 s o with out:=(qb6 s o).out++([102,117,108,108]++[10])}:St).out≠[]:=by simp
       have hRo:({qb6 s o with out:=(qb6 s o).out++([102,117,108,108]++[10])}:St).out=R:=HC2.out;generalize({qb6 s o with out:=(qb6 s o).out++([102,117,108,108]++[10])}:St)=S3 at D3 h0 hRo;subst hRo;go_wp2_with fail;refine(qjy D3 h0).mono ?_;rintro e w4 ⟨rfl,b4⟩;go_wp2_with fail;go_ret;exact⟨rfl,(hb.trans F3.2).trans b4⟩
     ·rw[q6v hne _ _ hfull] at hC1;have HC2:=zhi hC1;clear hC1;have hk200: ¬(200:Int)≤(k:Int):=by omega
      have hgo: ¬(40000:Int)<(o.length:Int):=by omega
      have hlb:=qxu hG x;have hG2:=qqs hG x;have hd:=q7r hG x (by omega) o (by omega);generalize(qfz s x).1=s2 at HC2 hlb hG2 hd;generalize(qfz s x).2=t2 at HC2 hlb hd;obtain⟨hlb1,hlb2⟩:=hlb;have hE2:=fun w'=>Emp.no (b:=w.heap.size) (w:=w') (o:=o) hlb1
      have hol2:(o++t2).length≤50000:=by rw[Yaa];omega
      go_wp2_with fail;refine(qxi D).mono ?_;rintro e w2 ⟨rfl,rfl⟩;rw[show(qb6 s o).out=o from rfl];go_wp2_with fail;refine(hd w.heap.size w.heap.size _ (hM0.keep hb) D hb.size).mono ?_;rintro e w3 ⟨rfl,D3,F3⟩;have hP3:=F3.1 _ _ hP.out (by simp) (by rintro c fz e;injection e with _ e _;exact tn6 e);go_wp2_with fail;go_roundw
      case rel=>exact⟨k+1,s2,o++t2,by go_num,by omega,HC2,hG2,hol2,hE2 _,D3,hP3,hb.trans F3.2⟩
      case measure=>simp[intOf];omega
   ·obtain rfl:k=L.length:=by omega
    have hC1:=hC.out;rw[List.drop_length,q4z] at hC1;subst hC1;clear hC hP;by_cases h0:o=[]
    ·subst h0;have hE0:=hE rfl;go_wp2_with fail;refine(qun hE0).mono ?_;rintro e w3 ⟨rfl,b3⟩;go_wp2_with fail;go_ret;exact⟨rfl,Qa hb b3⟩
    ·go_wp2_with fail;refine(qjy D h0).mono ?_;rintro e w3 ⟨rfl,b3⟩;go_wp2_with fail;go_ret;exact⟨rfl,hb.trans b3⟩
end Go.Proofs.YtmkjmancmiphfaaGreatDoor
