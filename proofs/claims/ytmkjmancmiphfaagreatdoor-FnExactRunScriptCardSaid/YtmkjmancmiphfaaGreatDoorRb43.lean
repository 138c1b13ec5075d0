/-
  The program's jobs at any text: told, FormatJobs, ParseJobs.
  Needs raised by the program.
  dmInts: two lists of numbers are equal.
  dmTasks, dmInts: two lists are equal.
  What the word 'shares' does at the desk. (Printed by gen_s3.py.)
-/
import Derived.Test.YtmkjmancmiphfaaGreatDoorRb42
namespace Go.Proofs.YtmkjmancmiphfaaGreatDoor
set_option maxHeartbeats 8000000
set_option maxRecDepth 1000000
open Go.RowKit
theorem qvk(A:ZA)(js:List Jb)(c:Nat)(w:World)(h:JS w A js)(hm:js.length≤2000000)(ht:qe0 js=false):
  Calls Tryz.prog 37 #[.slice A js.length c] w fun e w'=>e=.returned (.bool false)∧Below w.heap.size w w':=by
 have HT:Hid (js.all qdh=true→60<js.length):=by
  intro ha;simp only[qe0,ha,Bool.true_and,decide_eq_false_iff_not] at ht;omega
 clear ht;go_enter Tryz.func37,Tryz.ntmps37;go_wp2_with fail;go_loopw [7] (fun i wr=> ∃k:Nat,i=.int .i64 (k:Int)∧k≤js.length∧Hid ((js.take k).all qdh=true)∧Below w.heap.size w wr) (fun i _=>js.length-(intOf i).toNat)
 case atStart=>exact⟨0,rfl,by omega,rfl,br⟩
 case round=>
  obtain⟨k,rfl,hk,hA,hb⟩:=hrel;by_cases hlt:k<js.length
  ·obtain⟨b,off,rfl,hbl,hc⟩:=h.keep hb (by omega);obtain⟨k0,k1,k2⟩:=qbg hc k hlt;clear hc
   have hall:Hid ((js.take (k+1)).all qdh=((js.take k).all qdh&&qdh js[k])):=by
    rw[Hid,List.take_succ_eq_append_getElem hlt,List.all_append];simp
   generalize js[k]=t at k0 k1 k2 hall;cases ht:qdh t with
   |true=>
    have HA2:Hid ((js.take (k+1)).all qdh=true):=by rw[Hid,hall.out,hA.out,ht];rfl
    obtain⟨v1,v2,v3,v4,v5,v6⟩:=(qda _).1 ht;clear ht hall;go_wp2_with fail;go_roundw
    case rel=>exact⟨k+1,by go_num,by omega,HA2,bal hb _⟩
    case measure=>simp[intOf];omega
   |false=>
    have hv:Hid (¬(0≤t.task∧t.task≤4∧0≤t.at_∧t.at_≤200∧1≤t.need∧t.need≤20)):=by
     intro h;rw[(qda t).2 h] at ht;cases ht
    clear ht hall;go_wp2
    all_goals first
     |(go_ret;exact⟨rfl,bal hb _⟩)
     |(exfalso;exact hv.out ⟨by omega,by omega,by omega,by omega,by omega,by omega⟩)
  ·obtain rfl:k=js.length:=by omega
   rw[List.take_length] at hA;have h60:=HT.out hA.out;go_wp2_with fail;go_ret;exact⟨by simp;omega,hb⟩
theorem qn7{B:Nat}(A:ZA)(js:List Jb)(c:Nat)(w:World)(h:JS w A js)(hm:js.length≤2000000)(hM:Mx B w)(hB:B≤w.heap.size):
  Calls Tryz.prog 12 #[.slice A js.length c] w fun e w'=>e=.returned (.string ⟨(qbc js).toArray⟩)∧Below w.heap.size w w':=by
 cases ht:qe0 js with
 |true=>exact qhg A js c w h ht hM hB
 |false=>
  have HF:Hid (qbc js=[]):=by simp[Hid,qbc,ht]
  have HT:=zhi ht;clear ht;go_enter Tryz.func12,Tryz.ntmps12;go_wp2_with fail;refine(qvk A js c _ h hm HT.out).mono ?_;rintro e w1 ⟨rfl,b1⟩;go_wp2_with fail;go_ret;exact⟨by rw[HF.out];rfl,b1⟩
theorem qnd(s:List UInt8)(hl:s.length≤1000000)(w:World)(hM:Mz w.heap.size w)(hN:qfa s=none):
  Calls Tryz.prog 133 #[.string ⟨s.toArray⟩] w (prJs w (qfa s)):=by
 have h0:s≠[]:=by
  intro e;subst e;simp[qfa] at hN
 have HF:=zhi (q19 hN);have HN:=zhi hN;have hFn:s.isEmpty=false:=by simpa using h0
 have hle:=qnc 32 [] s;have hlen:=qf6 32 s;obtain⟨ps,hps⟩: ∃ps,qar [32] s=ps:=⟨_,rfl⟩;rw[hps] at hle hlen;have HP:=zhi hps;clear h0 hps hN;go_enter Tryz.func133,Tryz.ntmps133;go_wp2_with fail;refine(qog s 32 [] _ HP.out (hM.mx.keep (bal br _)) (by omega)).mono ?_;rintro e w1 ⟨rfl,rfl⟩;have hP0:=zha (w.alloc (.cells #[] 60)) (.cells (ps.map (fun x=>Value.string ⟨x.toArray⟩)).toArray 9 (0,0));have hsz0:(w.alloc (.cells #[] 60)).heap.size=w.heap.size+1:=by simp
 go_wp2_with fail;go_loopg [4,21] ps.length (fun gg v i wr=> ∃(k bo c':Nat) (ts:List Jb),gg+k=ps.length∧i=.int .i64 (k:Int)∧v=.slice (some ⟨bo,0,none⟩) k c'∧k≤ps.length∧OJ w.heap.size wr (some ⟨bo,0,none⟩) c' ts∧Hid (ts.length=k)∧Hid (wr.heap[w.heap.size+1]? =some (.cells (ps.map (fun x=>Value.string ⟨x.toArray⟩)).toArray 9 (0,0)))∧Below w.heap.size w wr)
 case atStart=>exact⟨0,_,0,[],by omega,rfl,rfl,by omega,qcn (qei w _ (zlr _)) _,rfl,by rw[hsz0] at hP0;simpa [Hid] using hP0,bal (bal br _) _⟩
 case round=>
  obtain⟨k,bo,c',ts,hgk,rfl,rfl,hk5,hO,hTl,hP,hb⟩:=hrel;clear hP0 hsz0;by_cases hlt:k<ps.length
  ·have hx:=qof hP.out k hlt;have hkI:(k:Int)<(ps.length:Int):=by omega
   have hxl:=hle ps[k] (List.getElem_mem hlt);generalize ps[k]=x at hx hxl;obtain⟨x1,x2,f1,hC1⟩: ∃a b f1,Lib.cut x [64]=(a,b,f1):=⟨_,_,_,rfl⟩;obtain⟨y1,y2,f2,hC2⟩: ∃a1 a2 f2,Lib.cut x2 [58]=(a1,a2,f2):=⟨_,_,_,rfl⟩;have l1:=qr7 x [64];have l2:=qr7 x2 [58];rw[hC1] at l1;rw[hC2] at l2;dsimp only at l1 l2;obtain⟨l11,l12⟩:=l1;obtain⟨l21,l22⟩:=l2;have HC1:=zhi hC1;have HC2:=zhi hC2;have HTk:=zhi hTl.out;clear hC1 hC2 hTl;go_wp2_with fail;refine(qdn HC1.out ((hM.mx.keep hb).up hb.size) (by omega)).mono ?_;rintro e w2 ⟨rfl,b2⟩;go_wp2_with fail;refine(qdn HC2.out ((hM.mx.keep (qaa hb b2)).up (qaa hb b2).size) (by omega)).mono ?_;rintro e w3 ⟨rfl,b3⟩;have hO3:=qe4 hO (qaa b2 b3);have B3:=qaa hb (qaa b2 b3);have hM3:=(hM.keep B3).up B3.size;have hP3:=zhi (((qaa b2 b3).block _ (Array.getElem?_eq_some_iff.1 hP.out).1).trans hP.out);clear hO hP hx b2 b3;have X:Bj w3 w3.heap.size (w3.alloc (.cells #[.int .i64 0,.int .i64 0,.int .i64 0] 60 (0,0))) ⟨0,0,0⟩:=⟨zha _ _,bal br _,zlr _⟩;go_upto_region 10 with fail;generalize hg:w3.heap.size=g at X hM3⊢;generalize World.alloc w3 _=v0 at X⊢;go_wp2_with fail;refine(qdi x1 (by omega) (hM3.keep (by rw[←hg];exact X.b))).mono ?_;rintro e v1 ⟨⟨q,er1,rfl⟩,bv1⟩;replace X:=X.keep bv1;clear bv1;obtain⟨t0,t1,t2,tf⟩:=X.cells;go_upto_region 11 with fail;replace X:=X.st (t':=⟨q,0,0⟩) 0 (.int .i64 q) rfl;clear t0 t1 t2 tf;generalize World.setCell v1 _ _=v2 at X⊢;go_wp2_with fail;refine(qdi y1 (by omega) (hM3.keep (by rw[←hg];exact X.b))).mono ?_;rintro e v3 ⟨⟨a,er2,rfl⟩,bv3⟩;replace X:=X.keep bv3;clear bv3;obtain⟨t0,t1,t2,tf⟩:=X.cells;go_upto_region 12 with fail;replace X:=X.st (t':=⟨q,a,0⟩) 1 (.int .i64 a) rfl;clear t0 t1 t2 tf;generalize World.setCell v3 _ _=v4 at X⊢;go_wp2_with fail;refine(qdi y2 (by omega) (hM3.keep (by rw[←hg];exact X.b))).mono ?_;rintro e v5 ⟨⟨n,er3,rfl⟩,bv5⟩;replace X:=X.keep bv5;clear bv5;obtain⟨t0,t1,t2,tf⟩:=X.cells;go_upto_region 13 with fail;replace X:=X.st (t':=⟨q,a,n⟩) 2 (.int .i64 n) rfl;clear t0 t1 t2 tf;generalize World.setCell v5 _ _=v6 at X⊢;obtain⟨t0,t1,t2,tf⟩:=X.cells;have hO4:=qe4 hO3 X.b;have B4:=qaa B3 X.b;have hP4:=zhi (bh X.b hP3.out);clear hO3 hP3;go_wp2_with (at_builtin;go_loud (refine qcy _ rfl _ _ rfl w.heap.size (some ⟨bo,0,none⟩) ts k c' HTk.out rfl (qcn hO4 _) v6.heap.size 1 ⟨q,a,n⟩ _ 60 rfl (zha v6 _) rfl (by rw[HTk.out];omega) (by have:=B4.size;simp;omega) ?_);intro A3 c3 w3' o3 g3 b3)
   have hP9:=zhi (qoh ((Below.heap_alloc v6 (.cells #[.int .i64 q,.int .i64 a,.int .i64 n] 60 (0,0)) _ (Array.getElem?_eq_some_iff.1 hP4.out).1).trans hP4.out) g3 (qyl (qcn hO4 (.cells #[.int .i64 q,.int .i64 a,.int .i64 n] 60 (0,0))) ((Below.heap_alloc v6 (.cells #[.int .i64 q,.int .i64 a,.int .i64 n] 60 (0,0)) _ (Array.getElem?_eq_some_iff.1 hP4.out).1).trans hP4.out) (by decide)));obtain⟨b4,rfl,_,_⟩:=qml o3 (by simp);go_roundg (gk-1)
   case measure=>omega
   case rel=>exact⟨k+1,b4,c3,ts++[⟨q,a,n⟩],by omega,by go_num,rfl,by omega,o3,by rw[Hid,List.length_append,HTk.out];rfl,hP9,(bal B4 _).trans b3⟩
  ·obtain rfl:k=ps.length:=by omega
   have K:=qn7 (some ⟨bo,0,none⟩) ts c' wr hO.js (by rw[hTl.out];omega) (hM.mx.keep hb) hb.size;rw[hTl.out] at K;have hq:(qbc ts==s)=false:=beq_eq_false_iff_ne.2 (HF.out ts);generalize qbc ts=F at K hq;clear hTl;go_wp2_with fail;refine K.mono ?_;rintro e w8 ⟨rfl,b8⟩;go_wp2_with fail;go_ret2;exact qxf w HN.out (qtq _ _) (qaa hb b8)
theorem qhk(s:List UInt8)(hl:s.length≤1000000)(w:World)(hM:Mz w.heap.size w):
  Calls Tryz.prog 133 #[.string ⟨s.toArray⟩] w (prJs w (qfa s)):=by
 cases h:qfa s with
 |none=>
  rw[←h];exact qnd s hl w hM h
 |some js=>
  obtain⟨ht,hs⟩:=qkf h;have e:qbc js=s:=by rw[qbc,if_pos ht,hs]
  rw[←e];exact qqy js ht w hM.mx
theorem up_at(l:List Tk)(n:Int)(k:Nat)(hk:k<l.length)(h:k<(upL (l.take k) n++l.drop k).length):(upL (l.take k) n++l.drop k)[k]=l[k]:=by
 have e:(upL (l.take k) n).length=k:=by rw[qs1,List.length_take];omega
 rw[List.getElem_append_right (by omega)];simp[e]
theorem q69(l:List Tk)(n:Int)(k:Nat)(hk:k<l.length)(t:Tk)(ht:t=⟨l[k].low+n,l[k].high+n,l[k].due,l[k].every,l[k].crit⟩):(upL (l.take k) n++l.drop k).set k t=upL (l.take (k+1)) n++l.drop (k+1):=by
 have e:(upL (l.take k) n).length=k:=by rw[qs1,List.length_take];omega
 rw[List.set_append_right _ _ (by omega),e,Nat.sub_self,List.drop_eq_getElem_cons hk,List.set_cons_zero,qys l n k hk,ht];simp
theorem q5u(l:List Tk)(n:Int)(k:Nat)(hk:k≤l.length):(upL (l.take k) n++l.drop k).length=l.length:=by
 rw[List.length_append,qs1,List.length_take,List.length_drop];omega
theorem qkv(A:ZA)(l:List Tk)(c:Nat)(n:Int)(w:World)(h:TS w A l)(hm:l.length≤1000000):
  Calls Tryz.prog 138 #[.slice A l.length c,.int .i64 n] w (qr9 w ((qb8 l n).getD []) (qb8 l n).isSome):=by
 by_cases hn1:n< -20
 ·have HF:Hid (qb8 l n=none):=by
   have:decide (-20≤n)=false:=decide_eq_false (by omega);simp[Hid,qb8,this]
  have e1:decide (n< -20)=true:=decide_eq_true hn1;go_enter Tryz.func138,Tryz.ntmps138;go_wp2_with fail;go_ret2;exact qhz w HF.out (qhn _ _) br
 by_cases hn2:20<n
 ·have HF:Hid (qb8 l n=none):=by
   have:decide (n≤20)=false:=decide_eq_false (by omega);simp[Hid,qb8,this]
  have e1:decide (n< -20)=false:=decide_eq_false hn1;have e2:decide (n>20)=true:=decide_eq_true hn2;go_enter Tryz.func138,Tryz.ntmps138;go_wp2_with fail;go_ret2;exact qhz w HF.out (qhn _ _) br
 have e1:decide (n< -20)=false:=decide_eq_false hn1;have e2:decide (n>20)=false:=decide_eq_false hn2;cases hS:qad l with
 |false=>
  have HF:Hid (qb8 l n=none):=by simp[Hid,qb8,hS]
  go_enter Tryz.func138,Tryz.ntmps138;go_wp2_with fail;refine(qae A l c _ h).mono ?_;rw[hS];rintro e w1 ⟨rfl,b1⟩;clear hS;go_wp2_with fail;go_ret2;exact qhz w HF.out (qhn _ _) b1
 |true=>
  have HV:=zhi (qcs hS)
  have HR:Hid (qb8 l n=if qad (upL l n) then some (upL l n) else none):=by
   have h1:decide (-20≤n)=true:=decide_eq_true (by omega);have h2:decide (n≤20)=true:=decide_eq_true (by omega);rw[Hid,qb8,hS,h1,h2];rfl
  go_enter Tryz.func138,Tryz.ntmps138;go_wp2_with fail;refine(qae A l c _ h).mono ?_;rw[hS];rintro e w1 ⟨rfl,b1⟩;clear hS;go_wp2_with fail;refine(qcu A l c _ (h.keep b1) (by omega)).mono ?_;rintro e w2 ⟨A2,c2,rfl,o2,b2⟩;have O2:=qal o2 b1.size;have B2:=qaa b1 b2;clear o2 b1 b2 h;go_wp2_with fail;go_loopg [7,23] l.length (fun gg v i wr=> ∃(k:Nat) (l3:List Tk),gg+k=l.length∧i=.int .i64 (k:Int)∧k≤l.length∧Hid (l3=upL (l.take k) n++l.drop k)∧OT w.heap.size wr A2 c2 l3∧Below w.heap.size w wr)
  case atStart=>exact⟨0,l,by omega,rfl,by omega,by simp[Hid,upL],O2,B2⟩
  case round=>
   clear O2 B2;obtain⟨k,l3,hgk,rfl,hk,hI,hO,hb⟩:=hrel;have HL:Hid (l3.length=l.length):=by rw[Hid,hI.out,q5u l n k hk]
   have hl5:=HV.out.1;by_cases hlt:k<l.length
   ·have e0:decide ((k:Int)<(l.length:Int))=true:=decide_eq_true (by omega);have hkI:(k:Int)<(l.length:Int):=by omega
    have hkl2:k<l3.length:=by rw[HL.out];exact hlt
    obtain⟨b,rfl,hbw,hbl⟩:=qf8 hO (by omega);obtain⟨c0,c1,c2',c3,c4,cf⟩:=qsu hO k hkl2;obtain⟨v1,v2,v3,v4,v5⟩:=qcb (HV.out.2 _ (List.getElem_mem hlt))
    have hat:l3[k]=l[k]:=by
     have:=up_at l n k hlt (by rw[q5u l n k hk];exact hlt);simp only[hI.out];exact this
    have HST:=zhi (fun t ht=>q69 l n k hlt t ht);obtain⟨hO3,hg3⟩:=qsa hO k 0 hkl2 (by omega) (.int .i64 (l3[k].low+n)) ⟨l3[k].low+n,l3[k].high,l3[k].due,l3[k].every,l3[k].crit⟩ rfl;have hb3:=qb0 hO hg3 hb.size;have HS2:Hid ((l3.set k ⟨l3[k].low+n,l3[k].high,l3[k].due,l3[k].every,l3[k].crit⟩).length=l.length):=by rw[Hid,List.length_set];exact HL.out
    have HS3:Hid ((l3.set k ⟨l3[k].low+n,l3[k].high,l3[k].due,l3[k].every,l3[k].crit⟩).set k ⟨l[k].low+n,l[k].high+n,l[k].due,l[k].every,l[k].crit⟩=upL (l.take (k+1)) n++l.drop (k+1)):=by
     rw[Hid,List.set_set,hI.out];exact HST.out _ rfl
    rw[hat] at c0 c1 c2' c3 c4 hO3 hg3 hb3 HS2 HS3;have hO3b:OT w.heap.size (wr.setCell ⟨b,k*5,none⟩ (.int .i64 (l[k].low+n))) (some ⟨b,0,none⟩) c2 (l3.set k ⟨l[k].low+n,l[k].high,l[k].due,l[k].every,l[k].crit⟩):=by simpa using hO3
    have hb3b:Below w.heap.size wr (wr.setCell ⟨b,k*5,none⟩ (.int .i64 (l[k].low+n))):=by simpa using hb3
    clear hO3 hg3 hb3 HST hat;generalize l[k]=t at*;go_upto_region 8 with fail;generalize World.setCell wr _ _=w3 at hO3b hb3b⊢;clear c0 c1 c2' c3 c4 cf hO;obtain⟨l4,hl4⟩: ∃l4,l3.set k ⟨t.low+n,t.high,t.due,t.every,t.crit⟩=l4:=⟨_,rfl⟩;have hkl4:k<l4.length:=by rw[←hl4,List.length_set];exact hkl2
    have hat4:l4[k]=⟨t.low+n,t.high,t.due,t.every,t.crit⟩:=by
     simp only[←hl4];exact List.getElem_set_self ..
    rw[hl4] at hO3b HS2 HS3;have H4:=zhi hl4;clear hl4;have hb4:=hb.trans hb3b;obtain⟨c0,c1,c2',c3,c4,cf⟩:=qsu hO3b k hkl4;obtain⟨hO5,hg5⟩:=qsa hO3b k 1 hkl4 (by omega) (.int .i64 (l4[k].high+n)) ⟨l4[k].low,l4[k].high+n,l4[k].due,l4[k].every,l4[k].crit⟩ rfl;have hb5:=qb0 hO3b hg5 hb4.size;rw[hat4] at c0 c1 c2' c3 c4 hO5 hb5;dsimp only at c0 c1 c2' c3 c4 hO5 hb5;rw[HS3.out] at hO5;clear hat4 hg5 H4 HS2 HS3 hI HL HR hkl2;have hbl3:b<w3.heap.size:=zlt hbl hb3b.size;go_wp2_with fail;go_roundg (gk-1)
    case measure=>omega
    case rel=>exact⟨k+1,_,by omega,by go_num,by omega,rfl,hO5,hb4.trans hb5⟩
   ·obtain rfl:k=l.length:=by omega
    have e0:decide ((l.length:Int)<(l.length:Int))=false:=decide_eq_false (by omega)
    have HI:Hid (l3=upL l n):=by
     rw[Hid,hI.out,List.take_length];simp
    clear hI;have K:=qae A2 l3 c2 wr hO.ts;rw[HL.out] at K;go_wp2_with fail;refine K.mono ?_;cases hv:qad l3 with
    |false=>
     have HF:Hid (qb8 l n=none):=by rw[Hid,HR.out,←HI.out,hv];rfl
     rintro e w2 ⟨rfl,b2⟩;clear hv K;go_wp2_with fail;go_ret2;exact qhz w HF.out (qhn _ _) (qaa hb b2)
    |true=>
     have HF:Hid (qb8 l n=some l3):=by rw[Hid,HR.out,←HI.out,hv];rfl
     rintro e w2 ⟨rfl,b2⟩;clear hv K;go_wp2_with fail;go_ret2;rw[HF.out];exact⟨A2,c2,by rw[←HL.out];rfl,qa3 hO b2,qaa hb b2⟩
def qnf(B b:Nat)(w:World)(A:ZA)(c:Nat)(jv:Value)(s:St):Prop:=
 B≤b∧ ∃p v,w.heap[b]? =some (.cells #[.slice A s.l.length c,jv,.int .i64 s.pol,p,v] DT (0,0))∧(p=.pointer none∨p=selfP b)∧w.ownsRowF B 5 1 v s.out.length (Lib.byteCells s.out)∧
  OT B w A c s.l∧w.ownsRow B 60 3 jv s.jn s.jc
theorem qnf.desk{B b:Nat}{w:World}{A:ZA}{c:Nat}{jv:Value}{s:St}(h:qnf B b w A c jv s):qgj B b w s:=by
 obtain⟨hB,p,v,h⟩:=h;exact⟨hB,A,c,jv,p,v,h⟩
theorem qgj.x{B b:Nat}{w:World}{s:St}(h:qgj B b w s): ∃A c jv,qnf B b w A c jv s:=by
 obtain⟨hB,A,c,jv,p,v,h⟩:=h;exact⟨A,c,jv,hB,p,v,h⟩
theorem qnf.c0{B b:Nat}{w:World}{A:ZA}{c:Nat}{jv:Value}{s:St}(h:qnf B b w A c jv s):w.cell? ⟨b,0,none⟩=some (.slice A s.l.length c):=by
 obtain⟨hB,p,v,hk,h⟩:=h;rw[Lib.cell_of_heap hk];rfl
theorem qnf.keep{B b:Nat}{w w':World}{A:ZA}{c:Nat}{jv:Value}{s:St}(h:qnf B b w A c jv s)(hb:Below w.heap.size w w'):qnf B b w' A c jv s:=by
 obtain⟨hB,p,v,hk,hp,hv,hO,hJ⟩:=h;have hlt:b<w.heap.size:=(bl hk);refine⟨hB,p,v,(hb.block b hlt).trans hk,hp,?_,qa3 hO hb,qe2 hJ hb⟩;refine⟨hv.1,?_⟩;rcases hv.2 with hn|⟨g,cap,cur,fz,e,hg,hh,r⟩
 ·exact .inl hn
 ·exact .inr ⟨g,cap,cur,fz,e,hg,bh hb hh,r⟩
theorem qxq{B b:Nat}{w:World}{A:ZA}{c:Nat}{jv:Value}{s:St}(h:qnf B b w A c jv s)(x:List UInt8)(hlen:s.out.length+x.length≤140737488355328)(hBw:B≤w.heap.size):
  Calls Tryz.prog 73 #[selfP b,.string ⟨x.toArray⟩] w fun e w'=>e=.returned (.tuple #[.int .i64 (x.length:Int),.nilIface])∧qnf B b w' A c jv {s with out:=s.out++x}∧Frm B b w w':=by
 obtain⟨i0,hi,hz0,hz1,hz2⟩:=info_parts qyh;obtain⟨hB,p,v,hk,hp,hv,hO,hJ⟩:=h;have hss:(⟨x.toArray⟩:ByteArray).size=x.length:=by rw[Lib.size_eq]
 have e166:(Lib.strCells ⟨x.toArray⟩)=Lib.byteCells x:=by rw[Lib.strCells_eq]
 go_enter Tryz.func73,Tryz.ntmps73;go_wp2_with fail;refine(qnr b _ _ _ p v _ hk hp).mono ?_;rintro e w1 ⟨rfl,hk1,g1⟩;have c0:w1.cell? ⟨b,3,none⟩=some (selfP b):=by rw[Lib.cell_of_heap hk1];rfl
 have c1:w1.cell? ⟨b,4,none⟩=some v:=by rw[Lib.cell_of_heap hk1];rfl
 have hb1:Below B w w1:=(Below.refl B w).grown g1 hBw (fun k hk=>by cases hk;exact hB);have hf1:Frm B b w w1:=⟨qey g1,hb1⟩
 have hvb:v.ownBlock≠some b:=by
  intro e;obtain⟨cs,fz,hc⟩:=Lib.ownsRowF_kind hv b e;rw[hk] at hc;injection hc with hc
  injection hc with _ ht _
  exact tn3 ht
 have hv1:w1.ownsRowF B 5 1 v s.out.length (Lib.byteCells s.out):=hv.kept g1 (.inr hvb);have hO1:OT B w1 A c s.l:=qb1 hO _ g1 (fun g hg=>by cases hg;exact⟨_,_,_,hk,tn1⟩);have hJ1:=qb1 hJ _ g1 (fun g hg=>by cases hg;exact⟨_,_,_,hk,tn4⟩);clear hk hv hO hJ;go_wp2_with (at_builtin;refine Lib.wpList_append_own_stringF _ rfl _ _ 22 9 rfl B 5 i0 Tryz.underlying22 Tryz.underlying9 hi hz0 hz1 hz2 _ _ _ rfl hv1 ⟨x.toArray⟩ rfl ?c3 ?c4 ?c5 ?_)
 case c3=>rw[hss];unfold maxLen;omega
 case c4=>rw[hss];omega
 case c5=>have:=hb1.size;omega
 intro v' w2 hown' hgrow _;have hlt:b<w1.heap.size:=(bl hk1)
 have hk2:w2.heap[b]? =some (.cells #[.slice A s.l.length c,jv,.int .i64 s.pol,selfP b,v] DT (0,0)):=by
  rw[hgrow.block b hlt (fun e=>hvb e.symm)];exact hk1
 have d0:w2.cell? ⟨b,3,none⟩=some (selfP b):=by rw[Lib.cell_of_heap hk2];rfl
 have d1:w2.cell? ⟨b,4,none⟩=some v:=by rw[Lib.cell_of_heap hk2];rfl
 have f1:w2.frozen? ⟨b,4,none⟩=false:=zfz hk2 4
 have hO2:OT B w2 A c s.l:=qb1 hO1 _ hgrow (fun g hg=>by
  obtain⟨cs,fz,hc⟩:=Lib.ownsRowF_kind hv1 g hg;exact⟨_,_,_,hc,tn2⟩)
 have hJ2:=qb1 hJ1 _ hgrow (fun g hg=>by
  obtain⟨cs,fz,hc⟩:=Lib.ownsRowF_kind hv1 g hg;exact⟨_,_,_,hc,tn5⟩)
 have hb2:Below B w w2:=hb1.grown hgrow (by have:=hb1.size;omega) (fun k hk=>(hv1.lt k hk).1);have hf2:Frm B b w w2:=⟨hf1.1.grown hgrow (Lib.ownsRowF_kind hv1),hb2⟩
 have hown':w2.ownsRowF B 5 1 v' (s.out.length+x.length) (Lib.byteCells s.out++Lib.byteCells x):=by
  first
   |exact hown'
   |(rw[e166,hss] at hown';exact hown')
   |(rw[hss] at hown';exact hown')
   |(rw[e166] at hown';exact hown')
 obtain⟨ao,n',cap,rfl⟩: ∃ao n' cap,v'=.slice ao n' cap:=by
  rcases hown'.2 with⟨hv,_⟩|⟨g,cap,cur,fz,hv,_⟩
  ·exact⟨_,_,_,hv⟩
  ·exact⟨_,_,_,hv⟩
 go_wp2
 go_ret2
 have hne:(Value.slice ao n' cap).ownBlock≠some b:=by
  intro e;obtain⟨cs,fz,hc⟩:=Lib.ownsRowF_kind hown' b e;rw[hk2] at hc;injection hc with hc
  injection hc with _ ht _
  exact tn3 ht
 have g3:=qfi w2 b 4 (.slice ao n' cap);refine⟨rfl,⟨hB,selfP b,_,qiy hk2 4 _,.inr rfl,?_,qb1 hO2 _ g3 (fun g hg=>by cases hg;exact⟨_,_,_,hk2,tn1⟩),qb1 hJ2 _ g3 (fun g hg=>by cases hg;exact⟨_,_,_,hk2,tn4⟩)⟩,⟨hf2.1.trans (qey g3),hb2.setCell (p:=⟨b,4,none⟩) hB _⟩⟩;show(w2.setCell ⟨b,4,none⟩ (.slice ao n' cap)).ownsRowF B 5 1 (.slice ao n' cap) (s.out++x).length (Lib.byteCells (s.out++x));rw[List.length_append,Lib.byteCells_append];exact hown'.kept g3 (.inr hne)
theorem qz3{B b:Nat}{w:World}{A:ZA}{c:Nat}{jv:Value}{s:St}(h:qnf B b w A c jv s)(x:List UInt8)(S:ByteArray)(hS:S=⟨x.toArray⟩)(hlen:s.out.length+x.length≤900000)(hBw:B≤w.heap.size):
  Calls Tryz.prog 41 #[.pointer (some ⟨b,0,none⟩),.string S] w fun e w'=>e=.returned (.tuple #[])∧qnf B b w' A c jv {s with out:=s.out++(x++[10])}∧Frm B b w w':=by
 subst hS;have hx:x.length≤900000:=by omega
 have K: ∀S:ByteArray,S=⟨(x++[10]).toArray⟩→Calls Tryz.prog 73 #[selfP b,.string S] w fun e w'=>e=.returned (.tuple #[.int .i64 ((x++[10]).length:Int),.nilIface])∧qnf B b w' A c jv {s with out:=s.out++(x++[10])}∧Frm B b w w':=fun S hS=>by
  subst hS;exact qxq h (x++[10]) (by simp<;>omega) hBw
 go_enter Tryz.func41,Tryz.ntmps41;go_wp2_with fail;refine(K _ (qan x [10])).mono ?_;rintro e w1 ⟨rfl,D,F⟩;go_wp2_with fail;go_end0
 exact⟨rfl,D,F⟩
theorem qvl(s:St)(hS:qad s.l=true)(ho:s.out.length≤700000):qea [115,104,97,114,101,115] s {s with out:=s.out++(((((([115,104,97,114,101,115,32]++qbi (qau false false s.l))++[32])++qbi (qau true false s.l))++[32])++qbi (qau true true s.l))++[10])}:=by
 intro B b w hM D hBw;have D0:=D;obtain⟨A,c,jv,c0,c1,c2,f0,f1,f2,hO,hlc⟩:=D0.cells;go_enter Tryz.func77,Tryz.ntmps77;have R1:=qba hS false false;have R2:=qba hS true false;have R3:=qba hS true true;have L1:=qct _ R1;have L2:=qct _ R2;have L3:=qct _ R3;have V1:=zhi (qc1 hS false false);have V2:=zhi (qc1 hS true false);have V3:=zhi (qc1 hS true true);have hbl:b<w.heap.size:=D.lt;clear c0 c1 c2 f0 f1 f2 hO hlc;have DX:=D.x;obtain⟨A,c,jv,DX⟩:=DX;have c0:=DX.c0
 have hO:TS w A s.l:=by
  obtain⟨_,_,_,_,_,_,h,_⟩:=DX;exact h.ts
 generalize qau false false s.l=r1 at*;generalize qau true false s.l=r2 at*;generalize qau true true s.l=r3 at*;go_wp2_with fail;refine wp_region_held (S:=fun w'=>w'.cell? ⟨b,0,none⟩=some (.slice A s.l.length c)) (by kernel_rfl) ?_;change wpAnyH _ _ _ _ _ _ _ _ (World.drew _);have hS0:(World.drew w).cell? ⟨b,0,none⟩=some (.slice A s.l.length c):=c0;have Kz:Below w.heap.size w (World.drew w):=zdr br;refine tq 0 146 (.pointer (some ⟨b,0,none⟩)) rfl (fun _ _=>rfl) hS0 ?_;refine tq 1 147 (.pointer (some ⟨b,0,none⟩)) rfl (fun _ _=>rfl) hS0 ?_;refine tq 2 148 (.pointer (some ⟨b,0,none⟩)) rfl (fun w _=>by go_simp) hS0 ?_;refine tq 3 149 (.pointer (some ⟨b,0,none⟩)) rfl (fun w _=>by go_simp) hS0 ?_;refine tq 4 150 (.slice A s.l.length c) rfl (fun w hS=>by have h1:=hS;go_simp) hS0 ?_;refine tq 9 155 (.pointer (some ⟨b,0,none⟩)) rfl (fun _ _=>rfl) hS0 ?_;refine tq 10 156 (.pointer (some ⟨b,0,none⟩)) rfl (fun w _=>by go_simp) hS0 ?_;refine tq 11 157 (.pointer (some ⟨b,0,none⟩)) rfl (fun w _=>by go_simp) hS0 ?_;refine tq 12 158 (.slice A s.l.length c) rfl (fun w hS=>by have h1:=hS;go_simp) hS0 ?_;refine tq 17 163 (.pointer (some ⟨b,0,none⟩)) rfl (fun _ _=>rfl) hS0 ?_;refine tq 18 164 (.pointer (some ⟨b,0,none⟩)) rfl (fun w _=>by go_simp) hS0 ?_;refine tq 19 165 (.pointer (some ⟨b,0,none⟩)) rfl (fun w _=>by go_simp) hS0 ?_;refine tq 20 166 (.slice A s.l.length c) rfl (fun w hS=>by have h1:=hS;go_simp) hS0 ?_;refine qhq 5 151 rfl rfl (by kernel_rfl) (by rfl) 62 Tryz.func62 (by kernel_rfl) rfl _ _ rfl (#[.slice A s.l.length c,.bool false]) (by simp[Act.eval]) (qd6 A s.l c false _ (hO.keep Kz)) ?_;rw[V1.out];rintro e v1 ⟨rfl,k1⟩;have K1:Below w.heap.size w v1:=qaa Kz k1;have S1:=(K1.cell (p:=⟨b,0,none⟩) hbl).trans c0;refine⟨_,rfl,S1,?_⟩;simp only[lsS,lsZ];refine qhq 6 152 rfl rfl (by kernel_rfl) (by rfl) 128 Tryz.func128 (by kernel_rfl) rfl _ _ rfl (#[rv r1]) (by simp[Act.eval]) (qeo r1 R1 _ (hM.keep (Below.mono K1 hBw)) (zll hBw (Below.size K1))) ?_;rintro e v2 ⟨rfl,k2⟩;have K2:Below w.heap.size w v2:=qaa K1 k2;have S2:=(K2.cell (p:=⟨b,0,none⟩) hbl).trans c0;refine⟨_,rfl,S2,?_⟩;simp only[lsS,lsZ];refine tq 7 153 (.string ⟨([115,104,97,114,101,115,32]++qbi r1).toArray⟩) rfl (fun w _=>by go_simp;rw[if_neg (by omega),qan];first|rfl|simp) S2 ?_;refine tq 8 154 (.string ⟨(([115,104,97,114,101,115,32]++qbi r1)++[32]).toArray⟩) rfl (fun w _=>by go_simp;rw[if_neg (by omega),qan];first|rfl|simp) S2 ?_;refine qhq 13 159 rfl rfl (by kernel_rfl) (by rfl) 62 Tryz.func62 (by kernel_rfl) rfl _ _ rfl (#[.slice A s.l.length c,.bool true]) (by simp[Act.eval]) (qd6 A s.l c true _ (hO.keep K2)) ?_;rw[V2.out];rintro e v3 ⟨rfl,k3⟩;have K3:Below w.heap.size w v3:=qaa K2 k3;have S3:=(K3.cell (p:=⟨b,0,none⟩) hbl).trans c0;refine⟨_,rfl,S3,?_⟩;simp only[lsS,lsZ];refine qhq 14 160 rfl rfl (by kernel_rfl) (by rfl) 128 Tryz.func128 (by kernel_rfl) rfl _ _ rfl (#[rv r2]) (by simp[Act.eval]) (qeo r2 R2 _ (hM.keep (Below.mono K3 hBw)) (zll hBw (Below.size K3))) ?_;rintro e v4 ⟨rfl,k4⟩;have K4:Below w.heap.size w v4:=qaa K3 k4;have S4:=(K4.cell (p:=⟨b,0,none⟩) hbl).trans c0;refine⟨_,rfl,S4,?_⟩;simp only[lsS,lsZ];refine tq 15 161 (.string ⟨((([115,104,97,114,101,115,32]++qbi r1)++[32])++qbi r2).toArray⟩) rfl (fun w _=>by go_simp;rw[if_neg (by omega),qan];first|rfl|simp) S4 ?_;refine tq 16 162 (.string ⟨(((([115,104,97,114,101,115,32]++qbi r1)++[32])++qbi r2)++[32]).toArray⟩) rfl (fun w _=>by go_simp;rw[if_neg (by omega),qan];first|rfl|simp) S4 ?_;refine qhq 21 167 rfl rfl (by kernel_rfl) (by rfl) 103 Tryz.func103 (by kernel_rfl) rfl _ _ rfl (#[.slice A s.l.length c]) (by simp[Act.eval]) (qh1 A s.l c _ (hO.keep K4)) ?_;rw[V3.out];rintro e v5 ⟨rfl,k5⟩;have K5:Below w.heap.size w v5:=qaa K4 k5;have S5:=(K5.cell (p:=⟨b,0,none⟩) hbl).trans c0;refine⟨_,rfl,S5,?_⟩;simp only[lsS,lsZ];refine qhq 22 168 rfl rfl (by kernel_rfl) (by rfl) 128 Tryz.func128 (by kernel_rfl) rfl _ _ rfl (#[rv r3]) (by simp[Act.eval]) (qeo r3 R3 _ (hM.keep (Below.mono K5 hBw)) (zll hBw (Below.size K5))) ?_;rintro e v6 ⟨rfl,k6⟩;have K6:Below w.heap.size w v6:=qaa K5 k6;have S6:=(K6.cell (p:=⟨b,0,none⟩) hbl).trans c0;refine⟨_,rfl,S6,?_⟩;simp only[lsS,lsZ];refine tq 23 169 (.string ⟨((((([115,104,97,114,101,115,32]++qbi r1)++[32])++qbi r2)++[32])++qbi r3).toArray⟩) rfl (fun w _=>by go_simp;rw[if_neg (by omega),qan];first|rfl|simp) S6 ?_;refine qhq 24 170 rfl rfl (by kernel_rfl) (by rfl) 41 Tryz.func41 (by kernel_rfl) rfl _ _ rfl (#[.pointer (some ⟨b,0,none⟩),.string ⟨((((([115,104,97,114,101,115,32]++qbi r1)++[32])++qbi r2)++[32])++qbi r3).toArray⟩]) (by simp[Act.eval]) (qz3 (DX.keep K6) ((((([115,104,97,114,101,115,32]++qbi r1)++[32])++qbi r2)++[32])++qbi r3) _ rfl (by first|omega|(simp<;>omega)) (zll hBw (Below.size K6))) ?_;rintro e w2 ⟨rfl,DX2,F2⟩;replace F2:=((Frm.refl B b w).thru hBw K6).trans F2;refine⟨_,rfl,DX2.c0,?_⟩;simp only[lsS,lsZ];refine wpAnyH_done (by kernel_rfl) ?_ _;go_wp2_with fail;go_ret;exact⟨rfl,DX2.desk,F2⟩
end Go.Proofs.YtmkjmancmiphfaaGreatDoor
