/-
  AdmitTask: the program's. (Printed by gen_adm.py.)
-/
import Derived.Test.YtmkjmancmiphfaaGreatDoorRb33
namespace Go.Proofs.YtmkjmancmiphfaaGreatDoor
set_option maxHeartbeats 8000000
set_option maxRecDepth 1000000
open Go.RowKit
theorem qkw(A:ZA)(l:List Tk)(t:Tk)(c:Nat)(p:Int)(w:World)(h:TS w A l)(hl:l.length≤1100000)(hlc:l.length≤c):
  Calls Tryz.prog 132 #[.slice A l.length c,t.val,.int .i64 p] w (qr9 w (admL l t p) (qci l t p).isSome):=by
 have hlm:l.length≤maxLen:=by unfold maxLen;omega
 have hallm:(l++[t]).length≤maxLen:=by unfold maxLen;simp;omega
 have hall:Hid ((l++[t]).length=l.length+1):=by simp[Hid]
 go_enter Tryz.func132,Tryz.ntmps132;go_upto_region 1 with fail;have B0:=bal (Below.refl w.heap.size w) (.cells #[.int .i64 t.low,.int .i64 t.high,.int .i64 t.due,.int .i64 t.every,.bool t.crit] 58 (0,0));have hN0:=zha w (.cells #[.int .i64 t.low,.int .i64 t.high,.int .i64 t.due,.int .i64 t.every,.bool t.crit] 58 (0,0));have hz0:w.heap.size<(w.alloc (.cells #[.int .i64 t.low,.int .i64 t.high,.int .i64 t.due,.int .i64 t.every,.bool t.crit] 58 (0,0))).heap.size:=by simp
 generalize hw0:World.alloc w _=w0 at B0 hN0 hz0⊢;generalize hn4:w.heap.size=n4 at hN0 hz0⊢;have hwn:w.heap.size≤n4:=by omega
 have hS:=h.keep (B0.mono (by omega));have hbx:n4<w0.heap.size:=hz0;obtain⟨t0,t1,t2,t3,t4,_⟩:=qaf hN0;have hne:Hid (w.heap.size=n4):=hn4;clear hw0 hn4;have hz:w0.heap.size≠w0.heap.size+1:=by omega
 go_cut [8] from 11 to 16 (fun v wc=> ∃A2 c2,v=.slice A2 (l.length+1) c2∧OT w0.heap.size wc A2 c2 (l++[t])∧Below w0.heap.size w0 wc)
 case first=>
  go_region_law (first
   |(refine qaz rfl 172 Tryz.func172 (by kernel_rfl) rfl _ _ rfl #[.slice A l.length c] (by simp[Act.eval]) (qcu A l c ((World.drew w0).alloc _) (hS.keep (bal (zdr br) _)) (by omega)) ?_;rintro e w1 ⟨A1,c1,rfl,o1',b1⟩;refine⟨_,rfl,?_⟩;have o1:OT w0.heap.size w1 A1 c1 l:=qal o1' (by simp);clear o1';have HN:=zhi ((b1.block w0.heap.size (by simp)).trans (qlb (World.drew w0) _ w0.heap.size rfl));have B1:Below w0.heap.size w0 w1:=qaa (bal (zdr br) _) b1)
   |(refine qaz rfl 172 Tryz.func172 (by kernel_rfl) rfl _ _ rfl #[.slice A l.length c] (by simp[Act.eval,Act.put]) (qcu A l c (World.drew w0) (hS.keep (zdr br)) (by omega)) ?_;rintro e w1 ⟨A1,c1,rfl,o1',b1⟩;refine⟨_,rfl,?_⟩;have o1:OT w0.heap.size w1 A1 c1 l:=qal o1' (by simp);clear o1';have B1:Below w0.heap.size w0 w1:=qaa (zdr br) b1;obtain⟨k0,k1,k2,k3,k4,_⟩:=qaf ((B1.block n4 hbx).trans hN0))
   |(have hsrc:=HN.out;refine qay rfl (.tmp 12) (.tmp 14) rfl w0.heap.size A1 l l.length c1 rfl (by simp[Act.eval]) o1 ⟨_,0,none⟩ 1 1 [t] rfl (by simp[Act.eval]) (qhr hsrc rfl) (by omega) (by simp) B1.size ?_;intro A2 c2 w2 o2 g2 b2;clear hsrc;have B2:Below w0.heap.size w0 w2:=B1.trans b2)
   |(refine qay rfl (.tmp 12) (.tmp 14) rfl w0.heap.size A1 l l.length c1 rfl (by simp[Act.eval]) (qbf o1 _) ⟨w1.heap.size,0,none⟩ 1 1 [t] rfl (by simp[Act.eval]) (qhr (zha w1 _) rfl) (by omega) (by simp) (by have:=B1.size;simp;omega) ?_;intro A2 c2 w2 o2 g2 b2;have B2:Below w0.heap.size w0 w2:=(bal B1 _).trans b2))
  all_goals go_wp2_with fail
  all_goals go_meet
  all_goals exact⟨A2,c2,rfl,o2,B2⟩
 case rest=>
  obtain⟨A2,c2,rfl,o2,B2⟩:=hcut;clear hN0 t0 t1 t2 t3 t4 hbx hz hz0;have hwn0:w.heap.size≤w0.heap.size:=B0.size;have o2':OT w.heap.size wc A2 c2 (l++[t]):=qal o2 hwn0;have Bw:Below w.heap.size w wc:=B0.trans (B2.mono hwn0);have hS2:=h.keep Bw;clear o2 B2 B0 hS hwn hne;have hadm:=qrx l t p;generalize l++[t]=all at hallm hall o2' hadm;have Hadm:=zhi hadm;clear hadm;have s2:=qao o2';obtain⟨s21,_⟩:=s2;rw[hall.out] at s21;cases hB:qb2 l p with
  |false=>
   have hn:qci l t p=none:=by rw[Hadm.out];simp[hB]
   have Hn:=zhi (qfb hn);clear hn;go_wp2_with fail;refine(qbt A l c p _ hS2 hlm hlc).mono ?_;rw[hB];rintro e w3 ⟨rfl,b3⟩;go_wp2_with fail;go_ret2;rw[Hn.out.1,Hn.out.2];exact⟨none,0,rfl,qhn _ _,(qaa Bw b3)⟩
  |true=>
   have HB:=zhi hB;clear hB;cases hV:qad all with
   |false=>
    have hn:qci l t p=none:=by rw[Hadm.out];simp[hV]
    have Hn:=zhi (qfb hn);clear hn;go_wp2_with fail;refine(qbt A l c p _ hS2 hlm hlc).mono ?_;rw[HB.out];rintro e w3 ⟨rfl,b3⟩;have B3:=qaa Bw b3;have o3:=qa3 o2' b3;have K:=qae A2 all c2 w3 o3.ts;rw[hall.out,hV] at K;go_wp2_with fail;refine K.mono ?_;rintro e w4 ⟨rfl,b4⟩;go_wp2_with fail;go_ret2;rw[Hn.out.1,Hn.out.2];exact⟨none,0,rfl,qhn _ _,(qaa B3 b4)⟩
   |true=>
    have HV:=zhi hV;clear hV;have hl5:all.length≤5:=(qaj HV.out).1;by_cases hp:p=1
    ·subst hp;cases hW:qd0 all with
     |false=>
      have hn:qci l t 1=none:=by rw[Hadm.out];simp[hW]
      have Hn:=zhi (qfb hn);clear hn;go_wp2_with fail;refine(qbt A l c 1 _ hS2 hlm hlc).mono ?_;rw[HB.out];rintro e w3 ⟨rfl,b3⟩;have B3:=qaa Bw b3;have o3:=qa3 o2' b3;have K:=qae A2 all c2 w3 o3.ts;rw[hall.out,HV.out] at K;go_wp2_with fail;refine K.mono ?_;clear K;rintro e w4 ⟨rfl,b4⟩;have B4:=qaa B3 b4;have o4:=qa3 o3 b4;have K:=qfg A2 all c2 w4 o4.ts hallm;rw[hall.out,hW] at K;go_wp2_with fail;refine K.mono ?_;rintro e w5 ⟨rfl,b5⟩;go_wp2_with fail;go_ret2;rw[Hn.out.1,Hn.out.2];exact⟨none,0,rfl,qhn _ _,(qaa B4 b5)⟩
     |true=>
      have hn:qci l t 1=some all:=by rw[Hadm.out];simp[hW,HB.out,HV.out]
      have Hn:=zhi (qir hn);clear hn;go_wp2_with fail;refine(qbt A l c 1 _ hS2 hlm hlc).mono ?_;rw[HB.out];rintro e w3 ⟨rfl,b3⟩;have B3:=qaa Bw b3;have o3:=qa3 o2' b3;have K:=qae A2 all c2 w3 o3.ts;rw[hall.out,HV.out] at K;go_wp2_with fail;refine K.mono ?_;clear K;rintro e w4 ⟨rfl,b4⟩;have B4:=qaa B3 b4;have o4:=qa3 o3 b4;have K:=qfg A2 all c2 w4 o4.ts hallm;rw[hall.out,hW] at K;go_wp2_with fail;refine K.mono ?_;rintro e w5 ⟨rfl,b5⟩;go_wp2_with fail;go_ret2;rw[Hn.out.1,Hn.out.2];exact⟨A2,c2,by rw[hall.out];rfl,qa3 o4 b5,qaa B4 b5⟩
    ·have hp1:(p==1)=false:=beq_eq_false_iff_ne.2 hp;obtain⟨R,hR⟩: ∃R,qbb all=R:=⟨_,rfl⟩;cases R with
     |none=>
      have hn:qci l t p=none:=by rw[Hadm.out];simp[hp,hR]
      have Hn:=zhi (qfb hn);clear hn;have hg:qnn all=[]∧(qbb all).isSome=false:=by simp[qnn,hR]
      have HG:=zhi hg;clear hR hp hg;go_wp2_with fail;refine(qbt A l c p _ hS2 hlm hlc).mono ?_;rw[HB.out];rintro e w3 ⟨rfl,b3⟩;have B3:=qaa Bw b3;have o3:=qa3 o2' b3;have K:=qae A2 all c2 w3 o3.ts;rw[hall.out,HV.out] at K;go_wp2_with fail;refine K.mono ?_;clear K;rintro e w4 ⟨rfl,b4⟩;have B4:=qaa B3 b4;have o4:=qa3 o3 b4;have K:=qdl A2 all c2 w4 o4.ts;rw[hall.out,HG.out.1,HG.out.2] at K;go_wp2_with fail;refine K.mono ?_;rintro e w5 ⟨A5,c5,rfl,o5,b5⟩;go_wp2_with fail;go_ret2;rw[Hn.out.1,Hn.out.2];exact⟨none,0,rfl,qhn _ _,(qaa B4 b5)⟩
     |some o=>
      have hn:qci l t p=some (qds all o):=by rw[Hadm.out];simp[hp,hR,HB.out,HV.out]
      have Hn:=zhi (qir hn);clear hn;have hg:qnn all=qbr o∧(qbb all).isSome=true:=by simp[qnn,hR]
      obtain⟨g1,g2,g3⟩:=qff hR;have hol:Hid (o.length=l.length+1):=by rw[Hid,g2.length_eq,List.length_range];exact hall.out
      have hpl:Hid ((qds all o).length=l.length+1):=by rw[Hid,qfe];exact hol.out
      have hx: ∀x∈o,x<all.length:=fun x hx=>List.mem_range.1 (g2.mem_iff.1 hx)
      have HX:=zhi hx;have HG:=zhi hg;have HP:=zhi g2;clear hR hp hg g1 g2 g3 hx;go_wp2_with fail;refine(qbt A l c p _ hS2 hlm hlc).mono ?_;rw[HB.out];rintro e w3 ⟨rfl,b3⟩;have B3:=qaa Bw b3;have o3:=qa3 o2' b3;have K:=qae A2 all c2 w3 o3.ts;rw[hall.out,HV.out] at K;go_wp2_with fail;refine K.mono ?_;clear K;rintro e w4 ⟨rfl,b4⟩;have B4:=qaa B3 b4;have o4:=qa3 o3 b4;have K:=qdl A2 all c2 w4 o4.ts;rw[hall.out,HG.out.1,HG.out.2] at K;go_wp2_with fail;refine K.mono ?_;clear K;rintro e w5 ⟨A5,c5,he,o5,b5⟩;rw[qah,hol.out] at he;subst he;have B5:=qaa B4 b5;have K:=qii A2 A5 all o c2 c5 w5 ((qa3 o4 b5).ts) o5.is HX.out (by omega) (by rw[hol.out,←hall.out];omega) HV.out HP.out;rw[hall.out,hol.out] at K;go_wp2_with fail;refine K.mono ?_;rintro e w6 ⟨A6,c6,rfl,o6,b6⟩;have o6':OT w.heap.size w6 A6 c6 (qds all o):=qal o6 B5.size;go_wp2_with fail;go_ret2;rw[Hn.out.1,Hn.out.2];exact⟨A6,c6,rfl,o6',qaa B5 b6⟩
end Go.Proofs.YtmkjmancmiphfaaGreatDoor
