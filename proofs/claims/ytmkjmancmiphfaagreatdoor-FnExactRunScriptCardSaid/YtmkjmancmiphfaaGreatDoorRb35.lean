/-
  Words of the reference with a text: admit.
  Needs raised by the reference.
  Words of the reference with a number: leave.
  Rows of tasks do not lie in a script's block.
  Words of the reference with a number: one that is none.
  What the reference's words tell: yes and no, responses, shares.
  What a line tells is neither empty nor long.
  most, MostHigh, MostLow: the program's.
  l8Most, MostHigh, MostLow: the reference's.
-/
import Derived.Test.YtmkjmancmiphfaaGreatDoorRb34
namespace Go.Proofs.YtmkjmancmiphfaaGreatDoor
set_option maxHeartbeats 8000000
set_option maxRecDepth 1000000
open Go.RowKit
theorem qpj{base:Nat}{w w':World}{A:ZA}{c:Nat}{l:List Tk}(O:OT base w A c l)(hs:w.heap.size≤w'.heap.size)(hb: ∀b,base≤b→w'.heap[b]? =w.heap[b]?):TS w' A l:=by
 intro hl0;obtain⟨bb,off,hA,hlt,hc⟩:=O.ts hl0
 have hge:base≤bb:=by
  obtain⟨b,hb,hg,_⟩:=qf8 O hl0;rw[hA] at hb;injection hb with hb
  injection hb with hb _ _
  omega
 refine⟨bb,off,hA,by omega,fun j u hu=>?_⟩;have:=hc j u hu;rw[World.cell?_of_block (w:=w) (a:=⟨bb,off+j,none⟩) (hb bb hge)];exact this
def q4y(s:Ss)(t:List UInt8):Ss×List UInt8:=((tkO t).map (fun u=>match qci s.l u s.pol with|some l=>qew s l|none=>(s,noT))).getD (s,qef)
theorem qn5(s:Ss)(A:ZA)(c:Nat)(J:ZA)(d:Nat)(t:List UInt8)(w:World)(h:TS w A s.l)(g:JS w J s.js)(hl:t.length≤1000000)(hlm:s.l.length≤5)(hA:(A=none→c=0)∧s.l.length≤c):
  Calls Tryz.prog 47 #[ssV A s.l.length c J s.js.length d s.pol,.string ⟨([97,100,109,105,116]:List UInt8).toArray⟩,.string ⟨t.toArray⟩] w (qdd (q4y s t) w):=by
 have HA:=zhi hA;clear hA;obtain⟨gb,r,hgb,hrE,hr0,hg1,B0,hgw,hgw0,hgr⟩:=qo7 w (ssC A s.l.length c J s.js.length d s.pol) (ssC none 0 0 none 0 0 0);go_enter Tryz.func47,Tryz.ntmps47;go_upto_region 1 with fail;generalize World.alloc (World.alloc w _) _=w0 at hr0 hg1 B0⊢;try simp only[hgb,hrE]
 clear hgb hrE;have K:=fun w=>qh6 t w hl
 cases ho:tkO t with
 |none=>
  have HE:Hid (q4y s t=(s,qef)):=by rw[Hid,q4y,ho];rfl
  rw[ho,show qmk (none:Option Tk)=.tuple #[.agg #[.int .i64 0,.int .i64 0,.int .i64 0,.int .i64 0,.bool false],.bool false] from rfl] at K;go_wp2_with fail;refine(K _).mono ?_;rintro e w1 ⟨rfl,b2⟩;replace b2:=bal b2 (.cells #[.int .i64 0,.int .i64 0,.int .i64 0,.int .i64 0,.bool false] 58 (0,0));have rN:=bh b2 hr0;have gN:=bh b2 hg1;have B1:=qaa B0 b2;clear K ho b2;go_upto_region 9 with fail;generalize World.alloc w1 _=w2 at rN gN B1⊢;obtain⟨x0,x1,x2⟩:=qab gN;obtain⟨z0,z1,z2⟩:=qab rN;have zf:=fun i=>zfz rN i
  have BF:=bst (bst (bst B1 (p:=⟨r,0,none⟩) hgw (.slice A s.l.length c)) (p:=⟨r,1,none⟩) hgw (.slice J s.js.length d)) (p:=⟨r,2,none⟩) hgw (.int .i64 s.pol);have hF:=h.keep BF;have gF:=g.keep BF;go_wp2_with fail;refine bodyPost_ret (v:=.tuple #[ssV A s.l.length c J s.js.length d s.pol,.string ⟨qef.toArray⟩]) (by simp[results,Tryz.results47,go_sem,z0,z1,z2];rfl) rfl (by rw[HE.out];exact⟨A,c,J,d,rfl,HA.out,hF,gF,BF⟩)
 |some u=>
  rw[ho,show qmk (some u)=.tuple #[.agg #[.int .i64 u.low,.int .i64 u.high,.int .i64 u.due,.int .i64 u.every,.bool u.crit],.bool true] from rfl] at K;go_wp2_with fail;refine(K _).mono ?_;rintro e w1 ⟨rfl,b2⟩;have t3:=zha w1 (.cells #[.int .i64 u.low,.int .i64 u.high,.int .i64 u.due,.int .i64 u.every,.bool u.crit] 58 (0,0));replace b2:=bal b2 (.cells #[.int .i64 u.low,.int .i64 u.high,.int .i64 u.due,.int .i64 u.every,.bool u.crit] 58 (0,0));have rN:=bh b2 hr0;have gN:=bh b2 hg1;have B1:=qaa B0 b2;have HO:=zhi ho;clear K ho b2;go_upto_region 9 with fail;obtain⟨tb,htb⟩: ∃tb,w1.heap.size=tb:=⟨_,rfl⟩;rw[htb] at t3⊢;generalize World.alloc w1 _=w2 at rN gN B1 t3⊢;clear htb;obtain⟨x0,x1,x2⟩:=qab gN;obtain⟨t0,t1,t2,t3',t4',tf⟩:=qaf t3;go_wp2_with fail;refine(qql A s.l u c s.pol _ (h.keep B1) (by omega) HA.out.1).mono ?_;cases ha:qci s.l u s.pol with
  |none=>
   have HE:Hid (q4y s t=(s,noT)):=by rw[Hid,q4y,HO.out];simp[ha]
   rintro e w3 ⟨A3,c3,rfl,o3,b3⟩;have rM:=bh b3 rN;have gM:=bh b3 gN;have B2:=qaa B1 b3;clear x0 x1 x2 t0 t1 t2 t3' t4' tf ha;obtain⟨x0,x1,x2⟩:=qab gM;go_wp2_with fail;refine(qgf A s.l.length c J s.js.length d s.pol A3 _ c3 _).mono ?_;rintro e w4 ⟨rfl,b4⟩;have rP:=bh b4 rM;have B3:=qaa B2 b4;obtain⟨z0,z1,z2⟩:=qab rP;have zf:=fun i=>zfz rP i
   have BF:=bst (bst (bst B3 (p:=⟨r,0,none⟩) hgw (.slice A s.l.length c)) (p:=⟨r,1,none⟩) hgw (.slice J s.js.length d)) (p:=⟨r,2,none⟩) hgw (.int .i64 s.pol);have hF:=h.keep BF;have gF:=g.keep BF;clear x0 x1 x2;go_wp2_with fail;refine bodyPost_ret (v:=.tuple #[ssV A s.l.length c J s.js.length d s.pol,.string ⟨noT.toArray⟩]) (by simp[results,Tryz.results47,go_sem,z0,z1,z2]) rfl (by rw[HE.out];exact⟨A,c,J,d,rfl,HA.out,hF,gF,BF⟩)
  |some l3=>
   have HE:Hid (q4y s t=qew s l3):=by rw[Hid,q4y,HO.out];simp[ha]
   have hl3:l3.length≤6:=by
    have:=(qpa ha).2.2.1.length_eq;rw[List.length_append,List.length_singleton] at this;omega
   rintro e w3 ⟨A3,c3,rfl,o3,b3⟩;rw[(qir ha).1] at o3⊢;have rM:=bh b3 rN;have gM:=bh b3 gN;have B2:=qaa B1 b3;have hrl:=(bl rN);clear x0 x1 x2 t0 t1 t2 t3' t4' tf ha;obtain⟨x0,x1,x2⟩:=qab gM;go_wp2_with fail;refine(qcl A s.l.length c J s.js.length d s.pol A3 l3 c3 _ o3.ts (by omega)).mono ?_;rintro e w4 ⟨J',rfl,b4⟩;have rP:=bh b4 rM;have B3:=qaa B2 b4;have O4:=qa3 o3 b4;have HC:=zhi (qr3 O4);obtain⟨z0,z1,z2⟩:=qab rP;have zf:=fun i=>zfz rP i
   have BF:=bst (bst (bst B3 (p:=⟨r,0,none⟩) hgw (.slice A3 l3.length c3)) (p:=⟨r,1,none⟩) hgw (.slice J' 0 0)) (p:=⟨r,2,none⟩) hgw (.int .i64 s.pol)
   have hT:=qpj O4 (w':=((w4.setCell ⟨r,0,none⟩ (.slice A3 l3.length c3)).setCell ⟨r,1,none⟩ (.slice J' 0 0)).setCell ⟨r,2,none⟩ (.int .i64 s.pol)) (by simp) (by
    intro b hb;rw[heap_setCell_other _ _ _ _ (by show b≠r;omega),heap_setCell_other _ _ _ _ (by show b≠r;omega),heap_setCell_other _ _ _ _ (by show b≠r;omega)])
   clear x0 x1 x2;go_wp2_with fail;refine bodyPost_ret (v:=.tuple #[ssV A3 l3.length c3 J' 0 0 s.pol,.string ⟨(qa9 l3++[10]).toArray⟩]) (by simp[results,Tryz.results47,go_sem,z0,z1,z2]) rfl (by rw[HE.out];exact⟨A3,c3,J',0,rfl,HC.out,hT,qph _ _,BF⟩)
theorem qys(l:List Tk)(n:Int)(k:Nat)(hk:k<l.length):upL (l.take (k+1)) n=upL (l.take k) n++[⟨l[k].low+n,l[k].high+n,l[k].due,l[k].every,l[k].crit⟩]:=by
 unfold upL;rw[List.take_succ_eq_append_getElem hk,List.map_append];rfl
theorem qs1(l:List Tk)(n:Int):(upL l n).length=l.length:=List.length_map ..
theorem qhz(w:World){o:Option (List Tk)}(h:o=none){A:ZA}{c:Nat}{w':World}(hO:OT w.heap.size w' A c [])(hb:Below w.heap.size w w'):qr9 w (o.getD []) o.isSome (.returned (.tuple #[.slice A 0 c,.bool false])) w':=by
 subst h;exact⟨A,c,rfl,hO,hb⟩
theorem qs2(A:ZA)(l:List Tk)(c:Nat)(n:Int)(w:World)(h:TS w A l)(hm:l.length≤1000000):
  Calls Tryz.prog 157 #[.slice A l.length c,.int .i64 n] w (qr9 w ((qb8 l n).getD []) (qb8 l n).isSome):=by
 cases hS:qad l with
 |false=>
  have HF:Hid (qb8 l n=none):=by simp[Hid,qb8,hS]
  go_enter Tryz.func157,Tryz.ntmps157;go_wp2_with fail;refine(qac A l c _ h (by omega)).mono ?_;rw[hS];rintro e w1 ⟨rfl,b1⟩;clear hS;go_wp2_with fail;go_ret2;exact qhz w HF.out (qa7 w1 _ b1.size) (bal b1 _)
 |true=>
  by_cases hn1:n< -20
  ·have HF:Hid (qb8 l n=none):=by
    have:decide (-20≤n)=false:=decide_eq_false (by omega);simp[Hid,qb8,this]
   have e1:decide (n< -20)=true:=decide_eq_true hn1;go_enter Tryz.func157,Tryz.ntmps157;go_wp2_with fail;refine(qac A l c _ h (by omega)).mono ?_;rw[hS];rintro e w1 ⟨rfl,b1⟩;clear hS;go_wp2_with fail;go_ret2;exact qhz w HF.out (qa7 w1 _ b1.size) (bal b1 _)
  by_cases hn2:20<n
  ·have HF:Hid (qb8 l n=none):=by
    have:decide (n≤20)=false:=decide_eq_false (by omega);simp[Hid,qb8,this]
   have e1:decide (n< -20)=false:=decide_eq_false hn1;have e2:decide (n>20)=true:=decide_eq_true hn2;go_enter Tryz.func157,Tryz.ntmps157;go_wp2_with fail;refine(qac A l c _ h (by omega)).mono ?_;rw[hS];rintro e w1 ⟨rfl,b1⟩;clear hS;go_wp2_with fail;go_ret2;exact qhz w HF.out (qa7 w1 _ b1.size) (bal b1 _)
  have e1:decide (n< -20)=false:=decide_eq_false hn1;have e2:decide (n>20)=false:=decide_eq_false hn2;have HV:=zhi (qcs hS)
  have HR:Hid (qb8 l n=if qad (upL l n) then some (upL l n) else none):=by
   have h1:decide (-20≤n)=true:=decide_eq_true (by omega);have h2:decide (n≤20)=true:=decide_eq_true (by omega);rw[Hid,qb8,hS,h1,h2];rfl
  go_enter Tryz.func157,Tryz.ntmps157;go_wp2_with fail;refine(qac A l c _ h (by omega)).mono ?_;rw[hS];rintro e w1 ⟨rfl,b1⟩;clear hS;have O1:=qa7 w1 w.heap.size b1.size;have B1:=bal b1 (.cells #[] 58);clear b1;go_wp2_with fail;go_loopg [6,7,8] l.length (fun gg v i x8 wr=> ∃(k:Nat) (Ao:ZA) (co:Nat) (ts:List Tk),gg+k=l.length∧i=.int .i64 (k:Int)∧v=.slice Ao ts.length co∧k≤l.length∧OT w.heap.size wr Ao co ts∧Hid (upL (l.take k) n=ts)∧Below w.heap.size w wr)
  case atStart=>exact⟨0,_,0,[],by omega,rfl,rfl,by omega,O1,rfl,B1⟩
  case round=>
   clear O1 B1;obtain⟨k,Ao,co,ts,hgk,rfl,rfl,hk,hT,hI,hb⟩:=hrel
   have HL:Hid (ts.length=k):=by
    rw[Hid,←hI.out,qs1,List.length_take];omega
   have hl5:=HV.out.1;by_cases hlt:k<l.length
   ·have e0:decide ((k:Int)<(l.length:Int))=true:=decide_eq_true (by omega);have hkI:(k:Int)<(l.length:Int):=by omega
    obtain⟨b,off,rfl,hbl,hc⟩:=h.keep hb (by omega);obtain⟨c0,c1,c2,c3,c4⟩:=qby hc k hlt;obtain⟨v1,v2,v3,v4,v5⟩:=qcb (HV.out.2 _ (List.getElem_mem hlt));have HN:=zhi (qys l n k hlt);clear hc;generalize l[k]=t at c0 c1 c2 c3 c4 v1 v2 v3 v4 v5 HN;have t3:=zha wr (.cells #[.int .i64 t.low,.int .i64 t.high,.int .i64 t.due,.int .i64 t.every,.bool t.crit] 58 (0,0));have b3:=bal (Below.refl wr.heap.size wr) (.cells #[.int .i64 t.low,.int .i64 t.high,.int .i64 t.due,.int .i64 t.every,.bool t.crit] 58 (0,0));go_upto_region 8 with fail;generalize World.alloc wr _=w3 at t3 b3⊢;have hsz:wr.heap.size<w3.heap.size:=(bl t3);obtain⟨g3,hge⟩: ∃g3,wr.heap.size=g3:=⟨_,rfl⟩;rw[hge] at t3 b3⊢;have HG:=zhi hge;clear c0 c1 c2 c3 c4 hbl hge hsz;obtain⟨t0,t1,t2,t3',t4',tf⟩:=qaf t3;have t5:(w3.setCell ⟨g3,0,none⟩ (.int .i64 (t.low+n))).heap[g3]? =some (.cells #[.int .i64 (t.low+n),.int .i64 t.high,.int .i64 t.due,.int .i64 t.every,.bool t.crit] 58 (0,0)):=qc5 t3 (i:=0) _;have b5:=b3.setCell (p:=⟨g3,0,none⟩) (zlr _) (.int .i64 (t.low+n));go_upto_region 9 with fail;generalize World.setCell w3 _ _=w5 at t5 b5⊢;clear t0 t1 t2 t3' t4' tf t3 b3;obtain⟨t0,t1,t2,t3',t4',tf⟩:=qaf t5;have t7:(w5.setCell ⟨g3,1,none⟩ (.int .i64 (t.high+n))).heap[g3]? =some (.cells #[.int .i64 (t.low+n),.int .i64 (t.high+n),.int .i64 t.due,.int .i64 t.every,.bool t.crit] 58 (0,0)):=qc5 t5 (i:=1) _;have b7:=b5.setCell (p:=⟨g3,1,none⟩) (zlr _) (.int .i64 (t.high+n));go_upto_region 10 with fail;generalize World.setCell w5 _ _=w7 at t7 b7⊢;clear t0 t1 t2 t3' t4' tf t5 b5;obtain⟨t0,t1,t2,t3',t4',tf⟩:=qaf t7;have b8:Below wr.heap.size wr w7:=by rw[HG.out];exact b7
    have hT3:=qa3 hT b8;have B3:=qaa hb b8;have HN2:Hid (upL (l.take (k+1)) n=ts++[⟨t.low+n,t.high+n,t.due,t.every,t.crit⟩]):=by rw[Hid,HN.out,hI.out]
    have hts:ts.length≤5:=by rw[HL.out];omega
    have hw3:w.heap.size≤w7.heap.size:=B3.size;clear hT hb b7 b8 HG HN hI HR HV;go_wp2_with (at_builtin;go_loud (refine qcd _ rfl _ _ rfl w.heap.size Ao ts ts.length co rfl rfl (qbf hT3 _) w7.heap.size 1 ⟨t.low+n,t.high+n,t.due,t.every,t.crit⟩ _ 58 rfl (zha w7 _) rfl (by omega) (zll hw3 (by rw[World.size_alloc];exact Nat.le_succ _)) ?_);intro A4 c4 w4 o4 g4 b4)
    go_roundg (gk-1)
    case measure=>omega
    case rel=>exact⟨k+1,A4,c4,ts++[⟨t.low+n,t.high+n,t.due,t.every,t.crit⟩],by omega,by go_num,by rw[List.length_append];rfl,by omega,o4,HN2,(bal B3 _).trans b4⟩
   ·obtain rfl:k=l.length:=by omega
    have e0:decide ((l.length:Int)<(l.length:Int))=false:=decide_eq_false (by omega);rw[List.take_length] at hI;have HI:=zhi hI.out;clear hI;go_wp2_with fail;refine(qac Ao ts co _ hT.ts (by rw[HL.out];omega)).mono ?_;cases hv:qad ts with
    |false=>
     have HF:Hid (qb8 l n=none):=by rw[Hid,HR.out,HI.out,hv];rfl
     rintro e w2 ⟨rfl,b2⟩;clear hv;go_wp2_with fail;go_ret2;have B2:=qaa hb b2;exact qhz w HF.out (qa7 w2 _ B2.size) (bal B2 _)
    |true=>
     have HF:Hid (qb8 l n=some ts):=by rw[Hid,HR.out,HI.out,hv];rfl
     rintro e w2 ⟨rfl,b2⟩;clear hv;go_wp2_with fail;go_ret2;rw[HF.out];exact⟨Ao,co,rfl,qa3 hT b2,qaa hb b2⟩
def qr4(s:Ss)(n:Int):Ss×List UInt8:=if plc s.l n then qew s (lvT s.l n) else(s,noT)
theorem qqn(s:Ss)(A:ZA)(c:Nat)(J:ZA)(d:Nat)(n:Int)(w:World)(h:TS w A s.l)(g:JS w J s.js)(hlm:s.l.length≤5)(hA:(A=none→c=0)∧s.l.length≤c):
  Calls Tryz.prog 97 #[ssV A s.l.length c J s.js.length d s.pol,.string ⟨([108,101,97,118,101]:List UInt8).toArray⟩,.int .i64 n] w (qdd (qr4 s n) w):=by
 have HA:=zhi hA;clear hA;obtain⟨gb,r,hgb,hrE,hr0,hg1,B0,hgw,hgw0,hgr⟩:=qo7 w (ssC A s.l.length c J s.js.length d s.pol) (ssC none 0 0 none 0 0 0);go_enter Tryz.func97,Tryz.ntmps97;go_upto_region 1 with fail;generalize World.alloc (World.alloc w _) _=w0 at hr0 hg1 B0⊢;try simp only[hgb,hrE]
 clear hgb hrE;obtain⟨x0,x1,x2⟩:=qab hg1;have K:Calls Tryz.prog _ _ w0 _:=qp9 A s.l c n w0 (h.keep B0) (by unfold maxLen;omega) HA.out.2;cases ho:plc s.l n with
 |false=>
  have HE:Hid (qr4 s n=(s,noT)):=by simp[Hid,qr4,ho]
  go_wp2_with fail;refine K.mono ?_;rw[ho];rintro e w3 ⟨A3,c3,rfl,o3,b3⟩;have rM:=bh b3 hr0;have gM:=bh b3 hg1;have B2:=qaa B0 b3;clear x0 x1 x2 ho K;obtain⟨x0,x1,x2⟩:=qab gM;go_wp2_with fail;refine(qgf A s.l.length c J s.js.length d s.pol A3 _ c3 _).mono ?_;rintro e w4 ⟨rfl,b4⟩;have rP:=bh b4 rM;have B3:=qaa B2 b4;obtain⟨z0,z1,z2⟩:=qab rP;have zf:=fun i=>zfz rP i
  have BF:=bst (bst (bst B3 (p:=⟨r,0,none⟩) hgw (.slice A s.l.length c)) (p:=⟨r,1,none⟩) hgw (.slice J s.js.length d)) (p:=⟨r,2,none⟩) hgw (.int .i64 s.pol);have hF:=h.keep BF;have gF:=g.keep BF;clear x0 x1 x2;go_wp2_with fail;refine bodyPost_ret (v:=.tuple #[ssV A s.l.length c J s.js.length d s.pol,.string ⟨noT.toArray⟩]) (by simp[results,Tryz.results97,go_sem,z0,z1,z2]) rfl (by rw[HE.out];exact⟨A,c,J,d,rfl,HA.out,hF,gF,BF⟩)
 |true=>
  have HE:Hid (qr4 s n=qew s (lvT s.l n)):=by simp[Hid,qr4,ho]
  have hl3:((lvT s.l n)).length≤1000000:=by
   have:=List.length_eraseIdx_le s.l n.toNat;unfold lvT;split<;>simp<;>omega
  go_wp2_with fail;refine K.mono ?_;rw[ho];rintro e w3 ⟨A3,c3,rfl,o3,b3⟩;have rM:=bh b3 hr0;have gM:=bh b3 hg1;have B2:=qaa B0 b3;have hrl:=(bl hr0);clear x0 x1 x2 ho K;generalize((lvT s.l n))=l3 at o3 HE hl3⊢;obtain⟨x0,x1,x2⟩:=qab gM;go_wp2_with fail;refine(qcl A s.l.length c J s.js.length d s.pol A3 l3 c3 _ o3.ts hl3).mono ?_;rintro e w4 ⟨J',rfl,b4⟩;have rP:=bh b4 rM;have B3:=qaa B2 b4;have O4:=qa3 o3 b4;have HC:=zhi (qr3 O4);obtain⟨z0,z1,z2⟩:=qab rP;have zf:=fun i=>zfz rP i
  have BF:=bst (bst (bst B3 (p:=⟨r,0,none⟩) hgw (.slice A3 l3.length c3)) (p:=⟨r,1,none⟩) hgw (.slice J' 0 0)) (p:=⟨r,2,none⟩) hgw (.int .i64 s.pol)
  have hT:=qpj O4 (w':=((w4.setCell ⟨r,0,none⟩ (.slice A3 l3.length c3)).setCell ⟨r,1,none⟩ (.slice J' 0 0)).setCell ⟨r,2,none⟩ (.int .i64 s.pol)) (by simp) (by
   intro b hb;rw[heap_setCell_other _ _ _ _ (by show b≠r;omega),heap_setCell_other _ _ _ _ (by show b≠r;omega),heap_setCell_other _ _ _ _ (by show b≠r;omega)])
  clear x0 x1 x2;go_wp2_with fail;refine bodyPost_ret (v:=.tuple #[ssV A3 l3.length c3 J' 0 0 s.pol,.string ⟨(qa9 l3++[10]).toArray⟩]) (by simp[results,Tryz.results97,go_sem,z0,z1,z2]) rfl (by rw[HE.out];exact⟨A3,c3,J',0,rfl,HC.out,hT,qph _ _,BF⟩)
def qr5(s:Ss)(n:Int):Ss×List UInt8:=match qb8 s.l n with|some l=>qew s l|none=>(s,noT)
theorem qqo(s:Ss)(A:ZA)(c:Nat)(J:ZA)(d:Nat)(n:Int)(w:World)(h:TS w A s.l)(g:JS w J s.js)(hlm:s.l.length≤5)(hA:(A=none→c=0)∧s.l.length≤c):
  Calls Tryz.prog 97 #[ssV A s.l.length c J s.js.length d s.pol,.string ⟨([114,97,105,115,101]:List UInt8).toArray⟩,.int .i64 n] w (qdd (qr5 s n) w):=by
 have HA:=zhi hA;clear hA;obtain⟨gb,r,hgb,hrE,hr0,hg1,B0,hgw,hgw0,hgr⟩:=qo7 w (ssC A s.l.length c J s.js.length d s.pol) (ssC none 0 0 none 0 0 0);go_enter Tryz.func97,Tryz.ntmps97;go_upto_region 1 with fail;generalize World.alloc (World.alloc w _) _=w0 at hr0 hg1 B0⊢;try simp only[hgb,hrE]
 clear hgb hrE;obtain⟨x0,x1,x2⟩:=qab hg1;have K:Calls Tryz.prog _ _ w0 _:=qs2 A s.l c n w0 (h.keep B0) (by omega);cases ho:qb8 s.l n with
 |none=>
  have HE:Hid (qr5 s n=(s,noT)):=by simp[Hid,qr5,ho]
  go_wp2_with fail;refine K.mono ?_;rw[ho];simp only[Option.getD_none,Option.isSome_none];rintro e w3 ⟨A3,c3,rfl,o3,b3⟩;have rM:=bh b3 hr0;have gM:=bh b3 hg1;have B2:=qaa B0 b3;clear x0 x1 x2 ho K;obtain⟨x0,x1,x2⟩:=qab gM;go_wp2_with fail;refine(qgf A s.l.length c J s.js.length d s.pol A3 _ c3 _).mono ?_;rintro e w4 ⟨rfl,b4⟩;have rP:=bh b4 rM;have B3:=qaa B2 b4;obtain⟨z0,z1,z2⟩:=qab rP;have zf:=fun i=>zfz rP i
  have BF:=bst (bst (bst B3 (p:=⟨r,0,none⟩) hgw (.slice A s.l.length c)) (p:=⟨r,1,none⟩) hgw (.slice J s.js.length d)) (p:=⟨r,2,none⟩) hgw (.int .i64 s.pol);have hF:=h.keep BF;have gF:=g.keep BF;clear x0 x1 x2;go_wp2_with fail;refine bodyPost_ret (v:=.tuple #[ssV A s.l.length c J s.js.length d s.pol,.string ⟨noT.toArray⟩]) (by simp[results,Tryz.results97,go_sem,z0,z1,z2]) rfl (by rw[HE.out];exact⟨A,c,J,d,rfl,HA.out,hF,gF,BF⟩)
 |some l5=>
  have HE:Hid (qr5 s n=qew s l5):=by simp[Hid,qr5,ho]
  have hl3:(l5).length≤1000000:=by
   have:=(qcs (qpf ho).1).1;omega
  go_wp2_with fail;refine K.mono ?_;rw[ho];simp only[Option.getD_some,Option.isSome_some];rintro e w3 ⟨A3,c3,rfl,o3,b3⟩;have rM:=bh b3 hr0;have gM:=bh b3 hg1;have B2:=qaa B0 b3;have hrl:=(bl hr0);clear x0 x1 x2 ho K;generalize(l5)=l3 at o3 HE hl3⊢;obtain⟨x0,x1,x2⟩:=qab gM;go_wp2_with fail;refine(qcl A s.l.length c J s.js.length d s.pol A3 l3 c3 _ o3.ts hl3).mono ?_;rintro e w4 ⟨J',rfl,b4⟩;have rP:=bh b4 rM;have B3:=qaa B2 b4;have O4:=qa3 o3 b4;have HC:=zhi (qr3 O4);obtain⟨z0,z1,z2⟩:=qab rP;have zf:=fun i=>zfz rP i
  have BF:=bst (bst (bst B3 (p:=⟨r,0,none⟩) hgw (.slice A3 l3.length c3)) (p:=⟨r,1,none⟩) hgw (.slice J' 0 0)) (p:=⟨r,2,none⟩) hgw (.int .i64 s.pol)
  have hT:=qpj O4 (w':=((w4.setCell ⟨r,0,none⟩ (.slice A3 l3.length c3)).setCell ⟨r,1,none⟩ (.slice J' 0 0)).setCell ⟨r,2,none⟩ (.int .i64 s.pol)) (by simp) (by
   intro b hb;rw[heap_setCell_other _ _ _ _ (by show b≠r;omega),heap_setCell_other _ _ _ _ (by show b≠r;omega),heap_setCell_other _ _ _ _ (by show b≠r;omega)])
  clear x0 x1 x2;go_wp2_with fail;refine bodyPost_ret (v:=.tuple #[ssV A3 l3.length c3 J' 0 0 s.pol,.string ⟨(qa9 l3++[10]).toArray⟩]) (by simp[results,Tryz.results97,go_sem,z0,z1,z2]) rfl (by rw[HE.out];exact⟨A3,c3,J',0,rfl,HC.out,hT,qph _ _,BF⟩)
theorem TS_not{w:World}{l:List Tk}{b off r:Nat}{v0 v1 v2:Value}{ty:TypeId}(h:TS w (some ⟨b,off,none⟩) l)(hl:0<l.length)(hr:w.heap[r]? =some (.cells #[v0,v1,v2] ty (0,0))):b≠r:=by
 intro e;subst e;obtain⟨b',off',hA,_,hc⟩:=h hl;injection hA with hA
 injection hA with h1 h2 _
 subst h1 h2;obtain⟨_,_,_,_,c4⟩:=qby hc 0 hl;rw[cell_of_row w b (off+0*5+4) _ _ _ hr] at c4
 have hz:(#[v0,v1,v2]:Array Value)[off+0*5+4]? =none:=by
  rw[Array.getElem?_eq_none_iff];show 3≤_;omega
 rw[hz] at c4;cases c4
theorem q2s{w w':World}{A:ZA}{l:List Tk}{r:Nat}{v0 v1 v2:Value}{ty:TypeId}(h:TS w A l)(hr:w.heap[r]? =some (.cells #[v0,v1,v2] ty (0,0)))(hs:w.heap.size≤w'.heap.size)(hb: ∀b,b≠r→w'.heap[b]? =w.heap[b]?):TS w' A l:=by
 intro hl0;obtain⟨bb,off,hA,hlt,hc⟩:=h hl0;subst hA;have hne:=TS_not h hl0 hr;refine⟨bb,off,rfl,by omega,fun j u hu=>?_⟩;have:=hc j u hu;rw[World.cell?_of_block (w:=w) (a:=⟨bb,off+j,none⟩) (hb bb hne)];exact this
theorem JS_not{w:World}{l:List Jb}{b off r:Nat}{a0 a1:ZA}{n0 n1 m0 m1:Nat}{v2:Value}{ty:TypeId}(h:JS w (some ⟨b,off,none⟩) l)(hl:0<l.length)(hr:w.heap[r]? =some (.cells #[.slice a0 n0 m0,.slice a1 n1 m1,v2] ty (0,0))):b≠r:=by
 intro e;subst e;obtain⟨b',off',hA,_,hc⟩:=h hl;injection hA with hA
 injection hA with h1 h2 _
 subst h1 h2;obtain⟨c0,_,c2⟩:=qbg hc 0 hl;rw[cell_of_row w b (off+0*3+2) _ _ _ hr] at c2;by_cases h0:off=0
 ·subst h0;rw[cell_of_row w b _ _ _ _ hr] at c0;simp at c0
 ·have hz:(#[.slice a0 n0 m0,.slice a1 n1 m1,v2]:Array Value)[off+0*3+2]? =none:=by
   rw[Array.getElem?_eq_none_iff];show 3≤_;omega
  rw[hz] at c2;cases c2
theorem q2t{w w':World}{A:ZA}{l:List Jb}{r:Nat}{a0 a1:ZA}{n0 n1 m0 m1:Nat}{v2:Value}{ty:TypeId}(h:JS w A l)(hr:w.heap[r]? =some (.cells #[.slice a0 n0 m0,.slice a1 n1 m1,v2] ty (0,0)))(hs:w.heap.size≤w'.heap.size)(hb: ∀b,b≠r→w'.heap[b]? =w.heap[b]?):JS w' A l:=by
 intro hl0;obtain⟨bb,off,hA,hlt,hc⟩:=h hl0;subst hA;have hne:=JS_not h hl0 hr;refine⟨bb,off,rfl,by omega,fun j u hu=>?_⟩;have:=hc j u hu;rw[World.cell?_of_block (w:=w) (a:=⟨bb,off+j,none⟩) (hb bb hne)];exact this
theorem qs3(s:Ss)(A:ZA)(c:Nat)(J:ZA)(d:Nat)(x:List UInt8)(n:Int)(w:World)(h:TS w A s.l)(g:JS w J s.js)(hA:(A=none→c=0)∧s.l.length≤c)(n0:(x==([108,101,97,118,101]:List UInt8))=false)(n1:(x==([114,97,105,115,101]:List UInt8))=false)(n2:(x==([114,117,110]:List UInt8))=false)(n3:(x==([114,117,108,101]:List UInt8))=false)(n4:(x==([119,111,114,115,116]:List UInt8))=false)(n5:(x==([104,105,103,104]:List UInt8))=false)(n6:(x==([112,97,99,107]:List UInt8))=false):
  Calls Tryz.prog 97 #[ssV A s.l.length c J s.js.length d s.pol,.string ⟨x.toArray⟩,.int .i64 n] w (qdd (s,qef) w):=by
 have HA:=zhi hA;clear hA;obtain⟨gb,r,hgb,hrE,hr0,hg1,B0,hgw,hgw0,hgr⟩:=qo7 w (ssC A s.l.length c J s.js.length d s.pol) (ssC none 0 0 none 0 0 0);go_enter Tryz.func97,Tryz.ntmps97;go_upto_region 1 with fail;generalize World.alloc (World.alloc w _) _=w0 at hr0 hg1 B0⊢;try simp only[hgb,hrE]
 clear hgb hrE;obtain⟨x0,x1,x2⟩:=qab hg1;obtain⟨z0,z1,z2⟩:=qab hr0;have zf:=fun i=>zfz hr0 i
 have BF:=bst (bst (bst B0 (p:=⟨r,0,none⟩) hgw (.slice A s.l.length c)) (p:=⟨r,1,none⟩) hgw (.slice J s.js.length d)) (p:=⟨r,2,none⟩) hgw (.int .i64 s.pol);have hF:=h.keep BF;have gF:=g.keep BF;go_wp2_with fail;refine bodyPost_ret (v:=.tuple #[ssV A s.l.length c J s.js.length d s.pol,.string ⟨qef.toArray⟩]) (by simp[results,Tryz.results97,go_sem,z0,z1,z2];rfl) rfl ⟨A,c,J,d,rfl,HA.out,hF,gF,BF⟩
theorem qxh(x:List UInt8)(b:Bool)(w:World)(hl:x.length≤1000):
  Calls Tryz.prog 85 #[.string ⟨x.toArray⟩,.bool b] w fun e w'=>e=.returned (.string ⟨(x++(if b then [32,121,101,115,10] else [32,110,111,10])).toArray⟩)∧Below w.heap.size w w':=by
 cases b with
 |true=>
  go_enter Tryz.func85,Tryz.ntmps85;go_wp2_with fail;go_ret;exact⟨by show _=Ending.returned (.string ⟨(x++[32,121,101,115,10]).toArray⟩);rw[←qan];rfl,br⟩
 |false=>
  go_enter Tryz.func85,Tryz.ntmps85;go_wp2_with fail;go_ret;exact⟨by show _=Ending.returned (.string ⟨(x++[32,110,111,10]).toArray⟩);rw[←qan];rfl,br⟩
theorem qpk{l:List Tk}(hs:qad l=true){k:Nat}(hk:k<l.length){r:Int}(h:qmh l (k:Int)=some r):0≤r∧r≤20:=by
 have h1:=qmm hs (n:=k) hk (qls h).2;have h2:=qcb (qaq hs hk);omega
theorem qyt{l:List Tk}(hs:qad l=true){k:Nat}(hk:k<l.length){r:Int}(h:rSw l (k:Int)=some r):0≤r∧r≤20:=by
 cases hl:qmh l (k:Int) with
 |none=>rw[qsd hl] at h;cases h
 |some low=>
  rw[qse hl] at h;have h2:=qcb (qaq hs hk);split at h
  ·rw[show((k:Int)).toNat=k from Int.toNat_natCast k] at h;have h4:=qpk hs hk hl;have hv:=qbz (qaq hs hk);have h0:=(qj6 hs h4.1 h4.2 (show k≤l.length by omega) (show 0≤(qag l k).high by omega) (by omega)).1;have h3:=(qq5 (fun a b hab=>qg1 hs low (show k≤l.length by omega) hab) (by simp only[qbq];omega) r).1 h;omega
  ·cases h
theorem q2u{l:List Tk}(hs:qad l=true){k:Nat}(hk:k<l.length):(qxd l k).length≤100:=by
 unfold qxd;have h0:=qap (k:Int) (by have:=(qcs hs).1;omega);rcases h1:qmh l (k:Int) with _|v1<;>rcases h2:rSw l (k:Int) with _|v2<;>simp only[List.length_append,List.length_cons,List.length_nil]
 ·omega
 ·have:=qap v2 (by have:=(qyt hs hk h2).2;omega);omega
 ·have:=qap v1 (by have:=(qpk hs hk h1).2;omega);omega
 ·have:=qap v1 (by have:=(qpk hs hk h1).2;omega);have:=qap v2 (by have:=(qyt hs hk h2).2;omega);omega
theorem qm1{l:List Tk}(hs:qad l=true): ∀{k:Nat},k≤l.length→(qbn l k).length≤100*k:=by
 intro k;induction k with
 |zero=>intro _;simp[qbn]
 |succ k ih=>
  intro hk;rw[qbn,List.length_append];have h1:=ih (by omega);have h2:=q2u hs (k:=k) (by omega);omega
theorem qm2(A:ZA)(l:List Tk)(c:Nat)(w:World)(h:TS w A l)(hs:qad l=true):
  Calls Tryz.prog 87 #[.slice A l.length c] w fun e w'=>e=.returned (.string ⟨(qbn l l.length++[101,110,100,10]).toArray⟩)∧Below w.heap.size w w':=by
 have hl5:=(qcs hs).1;have HS:=zhi hs;clear hs;go_enter Tryz.func87,Tryz.ntmps87;go_wp2_with fail;go_loopg [3,4,5,6,7,8] l.length (fun gg v i x5 x6 x7 x8 wr=> ∃(k:Nat) (P:List UInt8),gg+k=l.length∧i=.int .i64 (k:Int)∧v=.string ⟨P.toArray⟩∧P.length≤1000∧Hid (P=qbn l k)∧Below w.heap.size w wr)
 case atStart=>exact⟨0,[],by omega,rfl,rfl,by simp,rfl,br⟩
 case round=>
  obtain⟨k,P,hgk,rfl,rfl,hPl,hP,hb⟩:=hrel;by_cases hlt:k<l.length
  ·have e0:decide ((k:Int)<(l.length:Int))=true:=decide_eq_true (by omega);have hkI:(k:Int)<(l.length:Int):=by omega
   have HT:Hid (qbn l (k+1)=qbn l k++qxd l k):=rfl;have HL:=zhi (qm1 HS.out (k:=k+1) (by omega));have HR:Hid (qxd l k=num (k:Int)++((match qmh l (k:Int) with|some v=>[32,108,111,119,32]++num v|none=>[])++((match rSw l (k:Int) with|some v=>[32,115,119,105,116,99,104,32]++num v|none=>[])++[10]))):=rfl;have hb1:=fun v=>qpk HS.out hlt (r:=v)
   have hb2:=fun v=>qyt HS.out hlt (r:=v)
   have hk21:=qap (k:Int) (by omega);have K1:=fun w h=>qek A l c (k:Int) w h (by unfold maxLen;omega)
   have K2:=fun w h=>qg2 A l c (k:Int) w h (by unfold maxLen;omega)
   generalize qmh l (k:Int)=o1 at HR hb1 K1;generalize rSw l (k:Int)=o2 at HR hb2 K2;go_wp2_with fail;refine(K1 _ (h.keep hb)).mono ?_;rintro e w1 ⟨rfl,b1⟩;have B1:=qaa hb b1;cases o1 with
   |none=>
    cases o2 with
    |none=>
     clear hb1 hb2
     have HX:Hid ((P++num (k:Int))++[10]=qbn l (k+1)):=by
      rw[Hid,HT.out,HR.out,hP.out];simp
     have HXl:Hid (((P++num (k:Int))++[10]).length≤1000):=by rw[Hid,HX.out];have:=HL.out;omega
     have d1:qgb (none)=.tuple #[.int .i64 0,.bool false]:=rfl;rw[d1];clear d1 K1;go_wp2_with fail;refine(K2 _ (h.keep B1)).mono ?_;rintro e w2 ⟨rfl,b2⟩;have B2:=qaa B1 b2;have d2:qgb (none)=.tuple #[.int .i64 0,.bool false]:=rfl;rw[d2];clear d2 K2;go_wp2_with fail;refine(qep (k:Int) (by omega) (by omega) _).mono ?_;rintro e w3 ⟨rfl,b3⟩;go_wp2_with fail;go_roundg (gk-1)
     case measure=>omega
     case rel=>exact⟨k+1,(P++num (k:Int))++[10],by omega,by go_num,by simp only[←qan],HXl.out,HX,qaa B2 b3⟩
    |some v2=>
     have n2:=hb2 v2 rfl;have m2:=qap v2 (by omega);clear hb1 hb2
     have HX:Hid ((((P++num (k:Int))++[32,115,119,105,116,99,104,32])++num v2)++[10]=qbn l (k+1)):=by
      rw[Hid,HT.out,HR.out,hP.out];simp
     have HXl:Hid (((((P++num (k:Int))++[32,115,119,105,116,99,104,32])++num v2)++[10]).length≤1000):=by rw[Hid,HX.out];have:=HL.out;omega
     have d1:qgb (none)=.tuple #[.int .i64 0,.bool false]:=rfl;rw[d1];clear d1 K1;go_wp2_with fail;refine(K2 _ (h.keep B1)).mono ?_;rintro e w2 ⟨rfl,b2⟩;have B2:=qaa B1 b2;have d2:qgb (some v2)=.tuple #[.int .i64 v2,.bool true]:=rfl;rw[d2];clear d2 K2;go_wp2_with fail;refine(qep (k:Int) (by omega) (by omega) _).mono ?_;rintro e w3 ⟨rfl,b3⟩;go_wp2_with fail;refine(qep v2 (by omega) (by omega) _).mono ?_;rintro e w5 ⟨rfl,b5⟩;go_wp2_with fail;go_roundg (gk-1)
     case measure=>omega
     case rel=>exact⟨k+1,(((P++num (k:Int))++[32,115,119,105,116,99,104,32])++num v2)++[10],by omega,by go_num,by simp only[←qan],HXl.out,HX,qaa (qaa B2 b3) b5⟩
   |some v1=>
    cases o2 with
    |none=>
     have n1:=hb1 v1 rfl;have m1:=qap v1 (by omega);clear hb1 hb2
     have HX:Hid ((((P++num (k:Int))++[32,108,111,119,32])++num v1)++[10]=qbn l (k+1)):=by
      rw[Hid,HT.out,HR.out,hP.out];simp
     have HXl:Hid (((((P++num (k:Int))++[32,108,111,119,32])++num v1)++[10]).length≤1000):=by rw[Hid,HX.out];have:=HL.out;omega
     have d1:qgb (some v1)=.tuple #[.int .i64 v1,.bool true]:=rfl;rw[d1];clear d1 K1;go_wp2_with fail;refine(K2 _ (h.keep B1)).mono ?_;rintro e w2 ⟨rfl,b2⟩;have B2:=qaa B1 b2;have d2:qgb (none)=.tuple #[.int .i64 0,.bool false]:=rfl;rw[d2];clear d2 K2;go_wp2_with fail;refine(qep (k:Int) (by omega) (by omega) _).mono ?_;rintro e w3 ⟨rfl,b3⟩;go_wp2_with fail;refine(qep v1 (by omega) (by omega) _).mono ?_;rintro e w4 ⟨rfl,b4⟩;go_wp2_with fail;go_roundg (gk-1)
     case measure=>omega
     case rel=>exact⟨k+1,(((P++num (k:Int))++[32,108,111,119,32])++num v1)++[10],by omega,by go_num,by simp only[←qan],HXl.out,HX,qaa (qaa B2 b3) b4⟩
    |some v2=>
     have n1:=hb1 v1 rfl;have m1:=qap v1 (by omega);have n2:=hb2 v2 rfl;have m2:=qap v2 (by omega);clear hb1 hb2
     have HX:Hid ((((((P++num (k:Int))++[32,108,111,119,32])++num v1)++[32,115,119,105,116,99,104,32])++num v2)++[10]=qbn l (k+1)):=by
      rw[Hid,HT.out,HR.out,hP.out];simp
     have HXl:Hid (((((((P++num (k:Int))++[32,108,111,119,32])++num v1)++[32,115,119,105,116,99,104,32])++num v2)++[10]).length≤1000):=by rw[Hid,HX.out];have:=HL.out;omega
     have d1:qgb (some v1)=.tuple #[.int .i64 v1,.bool true]:=rfl;rw[d1];clear d1 K1;go_wp2_with fail;refine(K2 _ (h.keep B1)).mono ?_;rintro e w2 ⟨rfl,b2⟩;have B2:=qaa B1 b2;have d2:qgb (some v2)=.tuple #[.int .i64 v2,.bool true]:=rfl;rw[d2];clear d2 K2;go_wp2_with fail;refine(qep (k:Int) (by omega) (by omega) _).mono ?_;rintro e w3 ⟨rfl,b3⟩;go_wp2_with fail;refine(qep v1 (by omega) (by omega) _).mono ?_;rintro e w4 ⟨rfl,b4⟩;go_wp2_with fail;refine(qep v2 (by omega) (by omega) _).mono ?_;rintro e w5 ⟨rfl,b5⟩;go_wp2_with fail;go_roundg (gk-1)
     case measure=>omega
     case rel=>exact⟨k+1,(((((P++num (k:Int))++[32,108,111,119,32])++num v1)++[32,115,119,105,116,99,104,32])++num v2)++[10],by omega,by go_num,by simp only[←qan],HXl.out,HX,qaa (qaa (qaa B2 b3) b4) b5⟩
  ·obtain rfl:k=l.length:=by omega
   have e0:decide ((l.length:Int)<(l.length:Int))=false:=decide_eq_false (by omega);go_wp2_with fail;go_ret;exact⟨by rw[←hP.out,←qan];rfl,hb⟩
theorem qqp(A:ZA)(l:List Tk)(c:Nat)(w:World)(h:TS w A l)(hs:qad l=true):
  Calls Tryz.prog 88 #[.slice A l.length c] w fun e w'=>e=.returned (.string ⟨(qlc l++[10]).toArray⟩)∧Below w.heap.size w w':=by
 have hm:l.length≤maxLen:=by
  have:=(qcs hs).1;unfold maxLen;omega
 have r1:=qba hs false false;have r2:=qba hs true false;have r3:=qba hs true true;have l1:=qct _ r1;have l2:=qct _ r2;have l3:=qct _ r3;have K1:=fun w h=>qdf A l c false w h hm
 have K2:=fun w h=>qdf A l c true w h hm
 have K3:=fun w h=>qdr A l c w h hm
 rw[qc1 hs] at K1 K2 K3;have F1:=fun w=>qeq _ r1 w
 have F2:=fun w=>qeq _ r2 w
 have F3:=fun w=>qeq _ r3 w
 have HX:Hid (qlc l=(((([115,104,97,114,101,115,32]++qbi (qau false false l))++[32])++qbi (qau true false l))++[32])++qbi (qau true true l)):=rfl;generalize qbi (qau false false l)=t1 at l1 F1 HX;generalize qbi (qau true false l)=t2 at l2 F2 HX;generalize qbi (qau true true l)=t3 at l3 F3 HX;generalize qau false false l=q1 at K1 F1 r1;generalize qau true false l=q2 at K2 F2 r2;generalize qau true true l=q3 at K3 F3 r3;clear r1 r2 r3 hs hm;go_enter Tryz.func88,Tryz.ntmps88;go_wp2_with fail;refine(K1 _ h).mono ?_;rintro e w1 ⟨rfl,b1⟩;go_wp2_with fail;refine(F1 _).mono ?_;rintro e w2 ⟨rfl,b2⟩;have B2:=qaa b1 b2;clear K1 F1 b1 b2;go_wp2_with fail;refine(K2 _ (h.keep B2)).mono ?_;rintro e w3 ⟨rfl,b3⟩;go_wp2_with fail;refine(F2 _).mono ?_;rintro e w4 ⟨rfl,b4⟩;have B4:=qaa (qaa B2 b3) b4;clear K2 F2 b3 b4;go_wp2_with fail;refine(K3 _ (h.keep B4)).mono ?_;rintro e w5 ⟨rfl,b5⟩;go_wp2_with fail;refine(F3 _).mono ?_;rintro e w6 ⟨rfl,b6⟩;go_wp2_with fail;go_ret;refine⟨?_,qaa (qaa B4 b5) b6⟩;rw[HX.out];simp only[←qan];rfl
theorem qm3(l:List Tk)(ws:List Int):(qcf l ws).length≤1800:=by
 unfold qcf;split
 ·exact qpc l ws 3 (by omega)
 ·simp
theorem q4z{l:List Tk}{js:List Jb}(hV:qa6 l js=true)(pol:Int)(n:Nat)(hn:n≤200):(q1b l js pol n).length≤9000:=by
 have h60:js.length≤60∧qad l=true:=by
  simp only[qa6,Bool.and_eq_true,decide_eq_true_eq] at hV;exact⟨hV.1.2,hV.1.1⟩
 obtain⟨h60,hS⟩:=h60;have hLen:=qka (l:=l) (js:=js) (num:=qh8 l) (den:=qh9 l) (pol:=pol) h60 n;have hok:(∀x∈(mR l js pol n).tr,x= -1∨(0≤x∧x≤4))∧(∀x∈(mR l js pol n).sw,0≤x∧x≤(n:Int)):=qwk hV (qh8 l) (qh9 l) pol n
 have hib: ∀(o:List Nat),(∀i∈o,i<js.length)→ ∀t∈qbr o,t≤1000000000:=by
  intro o ho t ht;simp only[qbr,List.mem_map] at ht;obtain⟨i,hi,rfl⟩:=ht;have:=ho i hi;omega
 have hlaL:=qwj l js (mR l js pol n).en (n:Int) js.length;have hlaB:=qwi l js (mR l js pol n).en (n:Int) js.length;have hdrL:=qsm (mR l js pol n).en js.length;have hdrB:=qsn (mR l js pol n).en js.length;have t1:=qot (mR l js pol n).tr;have t2:=qd2 (mR l js pol n).sw (fun t ht=>by have:=hok.2 t ht;omega);have t3:=qd2 _ (hib _ hlaB);have t4:=qd2 _ (hib _ hdrB);rw[qah] at t3 t4;have L1:(mR l js pol n).tr.length=n:=hLen.1;have L2:(mR l js pol n).sw.length≤n:=hLen.2.1;unfold q1b;simp only[List.length_append,List.length_cons,List.length_nil];omega
theorem qnu{l:List Tk}{x p n:Int}(h:qbk l x p=some n):0≤n:=by
 have hk:=qgp h;have hp:=qc6 hk.1;have hv:=qbz (qaq hp.1 hp.2.2.1);omega
theorem qva{l:List Tk}{p:Int}(h:qki l p=true):p=1→qtm l=true:=by
 rintro rfl;simpa [qki] using h
def LB(x:List UInt8):Prop:=1≤x.length∧x.length≤9500
theorem qm4(s:Ss)(l:List Tk):LB (qew s l).2:=by
 have:=qe6 l;simp only[LB,qew,List.length_append,List.length_cons,List.length_nil];omega
theorem q2v:LB noT:=by simp[LB,noT]
theorem q6v:LB okT:=by simp[LB,okT]
theorem qxi:LB qef:=by simp[LB,qef]
theorem qs4:LB qhl:=by simp[LB,qhl]
theorem qxj(s:Ss)(o:Option (List Jb)):LB (qqm s o).2:=by
 cases o with
 |none=>exact qxi
 |some js=>exact q6v
theorem qxk{l:List Tk}(hs:qad l=true){r:Rat}(h:q2d l=some r):RIn r:=by
 unfold q2d at h;split at h
 ·injection h with h
  subst h;simp[RIn]
 ·split at h
  ·rename_i hf
   simp only[Bool.and_eq_true,Bool.not_eq_true'] at hf;injection h with h
   subst h;exact(qzb hs hf.2).facIn
  ·cases h
theorem q6w{s:Ss}(h:Good s){x:List UInt8}{q:Ss×List UInt8}(hq:qld s x=some q):LB q.2:=by
 have hl5:=qbj h.v;unfold qld at hq;rcases qa5 hq with rfl|hq
 ·exact qm4 ..
 rcases qa5 hq with rfl|hq
 ·cases ha:qbb s.l with
  |none=>exact q2v
  |some o=>exact qm4 ..
 rcases qa5 hq with rfl|hq
 ·exact q6v
 rcases qa5 hq with rfl|hq
 ·exact q6v
 rcases qa5 hq with rfl|hq
 ·have:=qe6 s.l;have:=qgv s.js;simp only[LB,List.length_append,List.length_cons,List.length_nil];omega
 rcases qa5 hq with rfl|hq
 ·dsimp only;split<;>simp[LB]
 rcases qa5 hq with rfl|hq
 ·have:=qm1 h.v (zlr s.l.length);simp only[LB,List.length_append,List.length_cons,List.length_nil];omega
 rcases qa5 hq with rfl|hq
 ·have h1:=qct _ (qba h.v false false);have h2:=qct _ (qba h.v true false);have h3:=qct _ (qba h.v true true);simp only[LB,qlc,List.length_append,List.length_cons,List.length_nil];omega
 rcases qa5 hq with rfl|hq
 ·dsimp only;split
  ·rename_i r hr
   have h1:=qct r (qxk h.v hr);simp only[LB,List.length_append,List.length_cons,List.length_nil];omega
  ·exact qs4
 rcases qa5 hq with rfl|hq
 ·dsimp only;split
  ·rename_i n hn
   have h1:=qap n (by have:=(qj4 hn).2.1;omega);simp only[LB,List.length_append,List.length_cons,List.length_nil];omega
  ·exact qs4
 cases hq
theorem q6x{s:Ss}(_h:Good s){x:List UInt8}{n:Int}{q:Ss×List UInt8}(hq:qle s x n=some q):LB q.2:=by
 unfold qle at hq;rcases qa5 hq with rfl|hq
 ·split
  ·exact qm4 ..
  ·exact q2v
 rcases qa5 hq with rfl|hq
 ·cases hr:qb8 s.l n with
  |none=>exact q2v
  |some l=>exact qm4 ..
 rcases qa5 hq with rfl|hq
 ·exact qxj ..
 rcases qa5 hq with rfl|hq
 ·exact qxj ..
 rcases qm0 hq with hq|hq
 ·by_cases hr:qsl s.l s.js s.pol n=true
  ·rw[if_pos hr] at hq;injection hq with hq
   subst hq;simp only[qsl,Bool.and_eq_true,decide_eq_true_eq] at hr;have:=q4z hr.1.1.1 s.pol n.toNat (by omega);refine⟨?_,by dsimp only;omega⟩;unfold q1b;simp only[List.length_append,List.length_cons,List.length_nil];omega
  ·rw[if_neg hr] at hq;cases hq
 rcases qa5 hq with rfl|hq
 ·dsimp only;split
  ·rename_i k hk
   have h1:=qap k (by have:=(qgp hk).2.2.2.2.2.2.2;omega);simp only[LB,List.length_append,List.length_cons,List.length_nil];omega
  ·exact qs4
 rcases qa5 hq with rfl|hq
 ·dsimp only;split
  ·rename_i ws hk
   have h1:=qm3 s.l ws;simp only[LB,List.length_append,List.length_cons,List.length_nil];omega
  ·exact qs4
 cases hq
theorem q6y{s:Ss}{x r:List UInt8}{q:Ss×List UInt8}(hq:qs0 s x r=some q):LB q.2:=by
 unfold qs0 at hq;rcases qm0 hq with hq|hq
 ·cases hl:qjb r with
  |none=>rw[hl] at hq;cases hq
  |some l=>
   rw[hl] at hq;injection hq with hq
   subst hq;exact qm4 ..
 rcases qm0 hq with hq|hq
 ·cases hl:tkO r with
  |none=>rw[hl] at hq;cases hq
  |some t=>
   rw[hl] at hq;injection hq with hq
   subst hq;dsimp only;cases ha:qci s.l t s.pol with
   |none=>exact q2v
   |some l=>exact qm4 ..
 rcases qa5 hq with rfl|hq
 ·exact qxj ..
 cases hq
theorem q2w{s:Ss}{o:Option (Ss×List UInt8)}(ho: ∀q,o=some q→LB q.2):LB (qlf s o).2:=by
 cases o with
 |none=>exact qxi
 |some q=>exact ho q rfl
theorem qyu{s:Ss}(h:Good s)(x:List UInt8):LB (qhj s x).2:=by
 unfold qhj;split
 ·unfold qlg;cases ht:qs0 s (Lib.cut x [32]).1 (Lib.cut x [32]).2.1 with
  |some q=>exact q6y ht
  |none=>
   dsimp only;cases hn:qez (Lib.cut x [32]).2.1 with
   |some n=>exact q2w (fun q hq=>q6x h hq)
   |none=>exact qxi
 ·exact q2w (fun q hq=>q6w h hq)
theorem qyv{l:List Tk}{r:Rat}(h:q2d l=some r):qlz l=.tuple #[rv r,.bool true]:=by
 unfold q2d at h;unfold qlz;split at h
 ·rename_i hp
  injection h with h
  subst h;rw[if_pos hp];rfl
 ·rename_i hp
  rw[if_neg hp];split at h
  ·rename_i hq
   injection h with h
   subst h;rw[if_pos hq]
  ·cases h
theorem qvb{l:List Tk}(h:q2d l=none):qlz l=.tuple #[sv 0 0,.bool false]:=by
 unfold q2d at h;unfold qlz;split at h
 ·cases h
 ·rename_i hp
  rw[if_neg hp];split at h
  ·cases h
  ·rename_i hq
   rw[if_neg hq]
theorem q6z(w:World)(b i:Nat)(u:Value):w.grownBy (w.setCell ⟨b,i,none⟩ u) (some b):=
 ⟨rfl,rfl,rfl,by simp[World.setCell],fun k _ hne=>Below.heap_setCell w _ u k (fun e=>hne (by rw[e]))⟩
theorem qvc{base:Nat}{w:World}{b c:Nat}{l:List Tk}(h:OT base w (some ⟨b,0,none⟩) c l)(k:Nat)(hk:k<l.length):
  w.cell? ⟨b,k*5,none⟩=some (.int .i64 l[k].low)∧w.cell? ⟨b,k*5+1,none⟩=some (.int .i64 l[k].high)∧w.cell? ⟨b,k*5+2,none⟩=some (.int .i64 l[k].due)∧
  w.cell? ⟨b,k*5+3,none⟩=some (.int .i64 l[k].every)∧w.cell? ⟨b,k*5+4,none⟩=some (.bool l[k].crit)∧ ∀j,w.frozen? ⟨b,j,none⟩=false:=by
 obtain⟨b',off,hA,_,hc⟩:=h.ts (by omega);cases hA
 obtain⟨c0,c1,c2,c3,c4⟩:=qby hc k hk;simp only[Nat.zero_add] at c0 c1 c2 c3 c4;exact⟨c0,c1,c2,c3,c4,fun j=>World.ownsRow.frozenAt h j⟩
theorem qxl{l:List Tk}{k:Nat}(hk:k<l.length)(n:Int):(qlw (qag l k) n).cells=l[k].cells.set 1 (.int .i64 n):=by rw[qc3 l k hk];rfl
theorem qpl(base b c k:Nat)(l:List Tk)(n:Int)(w:World)(h:OT base w (some ⟨b,0,none⟩) c l)(hk:k<l.length):
  Calls Tryz.prog 193 #[.pointer (some ⟨b,k*5,none⟩),.int .i64 n] w fun e w'=>e=.returned (.tuple #[])∧OT base w' (some ⟨b,0,none⟩) c (qcc l k n)∧w.grownBy w' (some b):=by
 obtain⟨k0,k1,k2,k3,k4,kf⟩:=qvc h k hk;have hO:=(qsa h k 1 hk (by omega) (.int .i64 n) (qlw (qag l k) n) (qxl hk n)).1;have hG:w.grownBy (w.setCell ⟨b,k*5+1,none⟩ (.int .i64 n)) (some b):=q6z w b (k*5+1) _;have HO:=zhi hO;have HG:=zhi hG;clear hO hG;go_enter Tryz.func193,Tryz.ntmps193;go_wp2_with fail;go_end0
 exact⟨rfl,HO.out,HG.out⟩
theorem qqq(A:ZA)(l:List Tk)(c k:Nat)(p:Int)(w:World)(h:TS w A l)(hk:k<l.length)(hl:l.length≤5):
  Calls Tryz.prog 192 #[.slice A l.length c,.int .i64 (k:Int),.int .i64 p,.func (.func 193) #[] #[]] w fun e w'=>e=.returned (qgb (qnx l k p))∧Below w.heap.size w w':=by
 obtain⟨R,hR⟩: ∃R,qnx l k p=R:=⟨_,rfl⟩;have h20:Hid (qj9 (fun n=>qb2 (qcc l k n) p) 20=R):=hR;rw[hR];clear hR;go_enter Tryz.func192,Tryz.ntmps192;go_wp2_with fail;go_loopw [10] (fun i wr=> ∃n:Nat,i=.int .i64 (n:Int)∧n≤20∧Hid (qj9 (fun n=>qb2 (qcc l k n) p) n=R)∧Below w.heap.size w wr) (fun i _=>(intOf i).toNat)
 case atStart=>exact⟨20,rfl,by omega,h20,br⟩
 case round=>
  clear h20;obtain⟨n,rfl,hn,htop,hb⟩:=hrel;cases n with
  |zero=>
   have hf:=zhi htop.out.symm;go_wp2_with fail;go_ret2;exact⟨by rw[hf.out];rfl,hb⟩
  |succ m=>
   have hcast:(((m+1:Nat):Int))=(m:Int)+1:=by omega
   rw[hcast];have hlen:Hid ((qcc l k ((m:Int)+1)).length=l.length):=by simp[Hid,qcc]
   go_wp2_with fail;refine(qcu A l c _ (h.keep hb) (by omega)).mono ?_;rintro e w2 ⟨A2,c2,rfl,o2,b2⟩;have B2:=qaa hb b2;obtain⟨b,rfl,hb1,hb2⟩:=qf8 o2 (by omega);go_wp2_with fail;refine(qpl _ b c2 k l ((m:Int)+1) _ o2 hk).mono ?_;rintro e w3 ⟨rfl,o3,g3⟩;have hz2:=b2.size;have B3:Below w.heap.size w w3:=B2.trans (qlt g3 (zll hb.size hb1) B2.size);have hs3:=qao o3;rw[hlen.out] at hs3;have hc2:=hs3.1;have K:=qbt (some ⟨b,0,none⟩) (qcc l k ((m:Int)+1)) c2 p w3 o3.ts (by rw[hlen.out];unfold maxLen;omega) (by rw[hlen.out];exact hc2);rw[hlen.out] at K;clear hs3;cases hh:qb2 (qcc l k ((m:Int)+1)) p with
   |true=>
    rw[hh] at K
    have hf:Hid (R=some ((m:Int)+1)):=by
     have:=htop.out;rw[Hid,←this];simp only[qj9,hh,if_true]
    clear hh;go_wp2_with fail;refine K.mono ?_;rintro e w4 ⟨rfl,b4⟩;go_wp2_with fail;go_ret2;exact⟨by rw[hf.out];rfl,qaa B3 b4⟩
   |false=>
    rw[hh] at K
    have hf:Hid (qj9 (fun n=>qb2 (qcc l k n) p) m=R):=by
     have:=htop.out;rw[Hid,←this];simp only[qj9,hh,Bool.false_eq_true,if_false]
    clear hh;go_wp2_with fail;refine K.mono ?_;rintro e w4 ⟨rfl,b4⟩;go_wp2_with fail;go_roundw
    case rel=>exact⟨m,by go_num,by omega,hf,qaa B3 b4⟩
    case measure=>simp[intOf]
theorem qmc(A:ZA)(l:List Tk)(c:Nat)(x p:Int)(w:World)(h:TS w A l)(hm:l.length≤maxLen)(hlc:l.length≤c):
  Calls Tryz.prog 142 #[.slice A l.length c,.int .i64 x,.int .i64 p] w fun e w'=>e=.returned (qgb (qbk l x p))∧Below w.heap.size w w':=by
 cases hB:qb2 l p with
 |false=>
  have hf:Hid (qbk l x p=none):=by simp[Hid,qbk,hB]
  go_enter Tryz.func142,Tryz.ntmps142;go_wp2_with fail;refine(qbt A l c p _ h hm hlc).mono ?_;rw[hB];rintro e w1 ⟨rfl,b1⟩;go_wp2_with fail;go_ret2;exact⟨by rw[hf.out];rfl,b1⟩
 |true=>
  cases hP:plc l x with
  |false=>
   have hf:Hid (qbk l x p=none):=by simp[Hid,qbk,hP]
   go_enter Tryz.func142,Tryz.ntmps142;go_wp2_with fail;refine(qbt A l c p _ h hm hlc).mono ?_;rw[hB];rintro e w1 ⟨rfl,b1⟩;go_wp2_with fail;refine(qbo A l c x _ (h.keep b1)).mono ?_;rw[hP];rintro e w2 ⟨rfl,b2⟩;go_wp2_with fail;go_ret2;exact⟨by rw[hf.out];rfl,qaa b1 b2⟩
  |true=>
   obtain⟨hs,hl5,hlt,hx⟩:=qc6 hP;obtain⟨n,rfl⟩: ∃n:Nat,x=(n:Int):=⟨_,hx⟩;rw[Int.toNat_natCast] at hlt;clear hx hs;go_enter Tryz.func142,Tryz.ntmps142;go_wp2_with fail;refine(qbt A l c p _ h hm hlc).mono ?_;rw[hB];rintro e w1 ⟨rfl,b1⟩;go_wp2_with fail;refine(qbo A l c n _ (h.keep b1)).mono ?_;rw[hP];rintro e w2 ⟨rfl,b2⟩;have B2:=qaa b1 b2;obtain⟨b,off,rfl,hbl,hc⟩:=h.keep B2 (by omega);obtain⟨c0,c1,c2,c3,c4⟩:=qav hc n hlt;clear hc;cases hcr:(qag l n).crit with
   |false=>
    have hf:Hid (qbk l (n:Int) p=none):=by simp[Hid,qbk,hcr]
    rw[hcr] at c4;clear hcr hB hP;go_wp2_with fail;go_ret2;exact⟨by rw[hf.out];rfl,B2⟩
   |true=>
    have hf:Hid (qbk l (n:Int) p=qnx l n p):=by simp[Hid,qbk,hcr,hB,hP]
    rw[hcr] at c4;clear hcr hB hP;obtain⟨p1,p2,hv⟩: ∃p1 p2,qgb (qnx l n p)=.tuple #[.int .i64 p1,.bool p2]:=by cases qnx l n p<;>exact⟨_,_,rfl⟩
    have Hv:=zhi hv;go_wp2_with fail;refine(qqq (some ⟨b,off,none⟩) l c n p _ (h.keep B2) hlt hl5).mono ?_;rw[hv];clear hv;rintro e w3 ⟨rfl,b3⟩;go_wp2_with fail;go_ret2;exact⟨by rw[hf.out,Hv.out];rfl,qaa B2 b3⟩
def qpm(r:Option Int):Int:=match r with|none=>0|some x=>x
theorem q40(g:Int→Bool)(n:Nat):0≤qpm (qj9 g n)∧qpm (qj9 g n)≤n:=by
 cases h:qj9 g n with
 |none=>simp[qpm]
 |some k=>
  have:=qv8 h;simp only[qpm];omega
theorem q2x(g:Int→Bool)(n:Nat):qgb (qj9 g n)=.tuple #[.int .i64 (qpm (qj9 g n)),.bool (decide (0<qpm (qj9 g n)))]:=by
 cases h:qj9 g n with
 |none=>rfl
 |some k=>
  have:=qv8 h;have e:decide (0<k)=true:=by simp;omega
  show Value.tuple #[.int .i64 k,.bool true]=Value.tuple #[.int .i64 k,.bool (decide (0<k))];rw[e]
theorem qn6(A:ZA)(l:List Tk)(c:Nat)(x p:Int)(w:World)(h:TS w A l)(hm:l.length≤maxLen):
  Calls Tryz.prog 210 #[.slice A l.length c,.int .i64 x,.int .i64 p,.bool true] w fun e w'=>e=.returned (qgb (if plc l x&&qb2 l p then qnx l x.toNat p else none))∧Below w.heap.size w w':=by
 cases hP:plc l x with
 |false=>
  simp only[Bool.false_and,Bool.false_eq_true,if_false];go_enter Tryz.func210,Tryz.ntmps210;go_wp2_with fail;refine(qdx A l c x _ h hm).mono ?_;rw[hP];rintro e w1 ⟨rfl,b1⟩;go_wp2_with fail;go_ret2;exact⟨rfl,b1⟩
 |true=>
  obtain⟨hs,hl5,hlt,hx⟩:=qc6 hP;obtain⟨k,rfl⟩: ∃n:Nat,x=(n:Int):=⟨_,hx⟩;rw[Int.toNat_natCast] at*;have HP:=zhi hP;clear hx hP;cases hB:qb2 l p with
  |false=>
   simp only[Bool.and_false,Bool.false_eq_true,if_false];clear hs;go_enter Tryz.func210,Tryz.ntmps210;go_wp2_with fail;refine(qdx A l c k _ h hm).mono ?_;rw[HP.out];rintro e w1 ⟨rfl,b1⟩;go_wp2_with fail;refine(qb7 A l c p _ (h.keep b1) hm).mono ?_;rw[hB];rintro e w2 ⟨rfl,b2⟩;go_wp2_with fail;go_ret2;exact⟨rfl,qaa b1 b2⟩
  |true=>
   simp only[Bool.and_self,if_true];have hv:=qbz (qaq hs hlt);obtain⟨n1,n2,n3,n4,n5⟩:=hv;have hfin:=zhi (q0q hlt hs p);have HB:=zhi hB;clear hs hB;obtain⟨g,hg⟩: ∃g:Int→Bool,g=fun n=>qb2 (qcc l k n) p:=⟨_,rfl⟩
   have hgs: ∀n,g n=qb2 (qcc l k n) p:=fun n=>by rw[hg]
   have Hgs:=zhi hgs;have hfin2:Hid (qnx l k p=qj9 g (qag l k).due.toNat):=by rw[Hid,hfin.out,hg]
   clear hg hgs hfin;go_enter Tryz.func210,Tryz.ntmps210;go_wp2_with fail;refine(qdx A l c k _ h hm).mono ?_;rw[HP.out];rintro e w1 ⟨rfl,b1⟩;go_wp2_with fail;refine(qb7 A l c p _ (h.keep b1) hm).mono ?_;rw[HB.out];rintro e w2 ⟨rfl,b2⟩;have B2:=qaa b1 b2;go_wp2_with fail;go_loopw [10,11] (fun v i wr=> ∃n:Nat,i=.int .i64 ((n:Int)+1)∧v=.int .i64 (qpm (qj9 g n))∧(n:Int)≤(qag l k).due∧Below w.heap.size w wr) (fun _ i _=>((qag l k).due+1-intOf i).toNat)
   case atStart=>exact⟨0,rfl,rfl,by omega,B2⟩
   case round=>
    obtain⟨n,rfl,rfl,hn,hb⟩:=hrel;obtain⟨b,off,rfl,hbl,hc⟩:=h.keep hb (by omega);obtain⟨c0,c1,c2,c3,c4⟩:=qav hc k hlt;clear hc c0 c1 c3 c4;have hlen:Hid ((qcc l k ((n:Int)+1)).length=l.length):=by simp[Hid,qcc]
    by_cases hle:(n:Int)+1≤(qag l k).due
    ·have hstep:Hid (qj9 g (n+1)=if g ((n:Int)+1) then some ((n:Int)+1) else qj9 g n):=rfl;go_wp2_with (at_builtin;refine qgc _ rfl _ _ rfl wr.heap.size (some ⟨wr.heap.size,0,none⟩) [] 0 rfl (qa7 wr _ (zlr _)) ⟨b,off,none⟩ c l rfl (h.keep (bal hb _)) (by simp) (by omega) (by simp) ?_;intro A3 c3' w3 o3 g3 b3;rw[List.nil_append] at o3;have B3:Below wr.heap.size wr w3:=(bal br _).trans b3;obtain⟨b5,rfl,hb5,hl5'⟩:=qf8 o3 (by omega);obtain⟨k0,k1,k2,k3,k4,kf⟩:=qvc o3 k hlt;rw[←qc3 l k hlt] at k0 k1 k2 k3 k4;clear c2;have hne5:b5≠w3.heap.size:=Nat.ne_of_lt hl5')
     have HTK:Hid (qcc l k ((n:Int)+1)=l.set k (⟨(qag l k).low,(n:Int)+1,(qag l k).due,(qag l k).every,(qag l k).crit⟩:Tk)):=rfl;have hO5:=q3i o3 k hlt (⟨(qag l k).low,(n:Int)+1,(qag l k).due,(qag l k).every,(qag l k).crit⟩:Tk);rw[←HTK.out] at hO5;simp only at hO5;have hO6:=qbf hO5 (.cells #[.int .i64 (qag l k).low,.int .i64 ((n:Int)+1),.int .i64 (qag l k).due,.int .i64 (qag l k).every,.bool (qag l k).crit] 58);have HO6:=zhi hO6;have hG6:=qzo (w:=w3) (b:=b5) (i0:=k*5) (i1:=k*5+1) (i2:=k*5+2) (i3:=k*5+3) (i4:=k*5+4) (.int .i64 ((⟨(qag l k).low,(n:Int)+1,(qag l k).due,(qag l k).every,(qag l k).crit⟩:Tk)).low) (.int .i64 ((⟨(qag l k).low,(n:Int)+1,(qag l k).due,(qag l k).every,(qag l k).crit⟩:Tk)).high) (.int .i64 ((⟨(qag l k).low,(n:Int)+1,(qag l k).due,(qag l k).every,(qag l k).crit⟩:Tk)).due) (.int .i64 ((⟨(qag l k).low,(n:Int)+1,(qag l k).due,(qag l k).every,(qag l k).crit⟩:Tk)).every) (.bool ((⟨(qag l k).low,(n:Int)+1,(qag l k).due,(qag l k).every,(qag l k).crit⟩:Tk)).crit);have B6:=bal (B3.trans (qlt hG6 hb5 B3.size)) (.cells #[.int .i64 (qag l k).low,.int .i64 ((n:Int)+1),.int .i64 (qag l k).due,.int .i64 (qag l k).every,.bool (qag l k).crit] 58);have K:=qb7 (some ⟨b5,0,none⟩) (qcc l k ((n:Int)+1)) c3' p _ HO6.out.ts (by rw[hlen.out];unfold maxLen;omega);rw[hlen.out,←Hgs.out] at K;clear hO5 hO6 hG6 k0 k1 k2 k3 k4 kf;with_reducible refine K.mono ?_
     cases hgn:g ((n:Int)+1) with
     |true=>
      have hst2:Hid (qj9 g (n+1)=some ((n:Int)+1)):=by rw[Hid,hstep.out,hgn];rfl
      clear hgn K;rintro e w7 ⟨rfl,b7⟩;go_wp2_with fail;go_roundw
      case rel=>exact⟨n+1,by go_num,by rw[hst2.out];rfl,by omega,qaa hb (qaa B6 b7)⟩
      case measure=>simp[intOf];omega
     |false=>
      have hst2:Hid (qj9 g (n+1)=qj9 g n):=by rw[Hid,hstep.out,hgn];rfl
      clear hgn K;rintro e w7 ⟨rfl,b7⟩;go_wp2_with fail;go_roundw
      case rel=>exact⟨n+1,by go_num,by rw[hst2.out],by omega,qaa hb (qaa B6 b7)⟩
      case measure=>simp[intOf];omega
    ·have hnd:Hid (n=(qag l k).due.toNat):=by rw[Hid];omega
     have hbd:0≤qpm (qj9 g n)∧qpm (qj9 g n)≤n:=q40 g n;obtain⟨bd0,bd1⟩:=hbd
     have hres:Hid (qgb (qnx l k p)=.tuple #[.int .i64 (qpm (qj9 g n)),.bool (decide (0<qpm (qj9 g n)))]):=by
      rw[Hid,hfin2.out,←hnd.out];exact q2x g n
     go_wp2_with fail;go_ret2;exact⟨by rw[hres.out];rfl,hb⟩
theorem qs5(A:ZA)(l:List Tk)(c:Nat)(x p:Int)(w:World)(h:TS w A l)(hm:l.length≤maxLen)(_hlc:l.length≤c):
  Calls Tryz.prog 159 #[.slice A l.length c,.int .i64 x,.int .i64 p] w fun e w'=>e=.returned (qgb (qbk l x p))∧Below w.heap.size w w':=by
 cases hP:plc l x with
 |false=>
  have hf:Hid (qbk l x p=none):=by simp[Hid,qbk,hP]
  go_enter Tryz.func159,Tryz.ntmps159;go_wp2_with fail;refine(qdx A l c x _ h hm).mono ?_;rw[hP];rintro e w1 ⟨rfl,b1⟩;go_wp2_with fail;go_ret2;exact⟨by rw[hf.out];rfl,b1⟩
 |true=>
  obtain⟨hs,hl5,hlt,hx⟩:=qc6 hP;obtain⟨n,rfl⟩: ∃n:Nat,x=(n:Int):=⟨_,hx⟩;rw[Int.toNat_natCast] at hlt;have HP:=zhi hP;clear hx hs hP;go_enter Tryz.func159,Tryz.ntmps159;go_wp2_with fail;refine(qdx A l c n _ h hm).mono ?_;rw[HP.out];rintro e w1 ⟨rfl,b1⟩;obtain⟨b,off,rfl,hbl,hc⟩:=h.keep b1 (by omega);obtain⟨c0,c1,c2,c3,c4⟩:=qav hc n hlt;clear hc;cases hcr:(qag l n).crit with
  |false=>
   have hf:Hid (qbk l (n:Int) p=none):=by simp[Hid,qbk,hcr]
   rw[hcr] at c4;clear hcr;go_wp2_with fail;go_ret2;exact⟨by rw[hf.out];rfl,b1⟩
  |true=>
   have hf:Hid (qbk l (n:Int) p=if plc l (n:Int)&&qb2 l p then qnx l (n:Int).toNat p else none):=by simp[Hid,qbk,hcr]
   rw[hcr] at c4;clear hcr;have K:=fun w' hk=>qn6 (some ⟨b,off,none⟩) l c n p w' hk hm
   rw[←hf.out] at K;obtain⟨p1,p2,hv⟩: ∃p1 p2,qgb (qbk l n p)=.tuple #[.int .i64 p1,.bool p2]:=by cases qbk l n p<;>exact⟨_,_,rfl⟩
   rw[hv] at K;have HK:=zhi K;have Hv:=zhi hv;clear K hv;go_wp2_with fail;refine(HK.out _ (h.keep b1)).mono ?_;rintro e w2 ⟨rfl,b2⟩;go_wp2_with fail;go_ret2;exact⟨by rw[Hv.out];rfl,qaa b1 b2⟩
end Go.Proofs.YtmkjmancmiphfaaGreatDoor
