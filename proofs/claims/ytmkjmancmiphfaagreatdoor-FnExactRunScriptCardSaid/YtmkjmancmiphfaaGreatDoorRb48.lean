/-
  The word responses at the desk.
  A line at the desk, whatever it is.
  RunScript of the program, of any text.
-/
import Derived.Test.YtmkjmancmiphfaaGreatDoorRb47
namespace Go.Proofs.YtmkjmancmiphfaaGreatDoor
set_option maxHeartbeats 8000000
set_option maxRecDepth 1000000
open Go.RowKit
theorem qp0(s:St)(hs:qad s.l=true)(ho:s.out.length≤700000):qea [114,101,115,112,111,110,115,101,115] s {s with out:=s.out++(qbn s.l s.l.length++[101,110,100,10])}:=by
 intro B b w hM D hBw;have D0:=D;obtain⟨A,c,jv,c0,c1,c2,f0,f1,f2,hO,hlc⟩:=D0.cells;have hl5:=(qcs hs).1;have HS:=zhi hs;clear hs;go_enter Tryz.func77,Tryz.ntmps77;go_wp2_with fail;go_loopw [9,10,11,12,13,14,103] (fun _ _ _ _ _ _ i wr=> ∃k:Nat,i=.int .i64 (k:Int)∧k≤s.l.length∧qgj B b wr {s with out:=s.out++qbn s.l k}∧Frm B b w wr) (fun _ _ _ _ _ _ i _=>s.l.length-(intOf i).toNat)
 case atStart=>exact⟨0,rfl,by omega,by simpa [qbn] using D,Frm.refl B b w⟩
 case round=>
  clear D;obtain⟨k,rfl,hk,D0,F0⟩:=hrel;have hrl:=qm1 HS.out (k:=k) (by omega);by_cases hlt:k<s.l.length
  ·have hkI:(k:Int)<(s.l.length:Int):=by omega
   have HT:Hid (qbn s.l (k+1)=qbn s.l k++qxd s.l k):=rfl;have HR:Hid (qxd s.l k=num (k:Int)++((match qmh s.l (k:Int) with|some v=>[32,108,111,119,32]++num v|none=>[])++((match rSw s.l (k:Int) with|some v=>[32,115,119,105,116,99,104,32]++num v|none=>[])++[10]))):=rfl;have hb1:=fun v=>qpk HS.out hlt (r:=v)
   have hb2:=fun v=>qyt HS.out hlt (r:=v)
   have hk21:=qap (k:Int) (by omega);have K1:=fun(A:ZA) (c:Nat) w h hc=>qel A s.l c (k:Int) w h hc
   have K2:=fun {A:ZA} {c:Nat} w h hc=>qg3 A s.l c (k:Int) w h hc
   generalize qmh s.l (k:Int)=o1 at HR hb1 K1;generalize rSw s.l (k:Int)=o2 at HR hb2 K2;have C0:=D0.cells;clear c0 c1 c2 f0 f1 f2 hO hlc;obtain⟨A,c,jv,c0,c1,c2,f0,f1,f2,hO,hlc⟩:=C0;go_wp2_with fail;refine(qdg (hM.keep F0.2) (k:Int) (by omega) (by omega)).mono ?_;rintro e w1 ⟨rfl,b1⟩;have D1:=D0.keep b1;have F1:=F0.thru hBw b1;have C1:=D1.cells;clear c0 c1 c2 f0 f1 f2 hO hlc;obtain⟨A,c,jv,c0,c1,c2,f0,f1,f2,hO,hlc⟩:=C1;go_wp2_with fail;refine(K1 _ _ _ hO.ts hlc).mono ?_;rintro e w2 ⟨rfl,b2⟩;have D2:=D1.keep b2;have F2:=F1.thru hBw b2;clear K1;cases o1 with
   |none=>
    cases o2 with
    |none=>
     clear hb1 hb2
     have HX:Hid (s.out++qbn s.l k++((num (k:Int))++[10])=s.out++qbn s.l (k+1)):=by
      rw[Hid,HT.out,HR.out];simp
     rw[show qgb (none)=.tuple #[.int .i64 0,.bool false] from rfl];have C2:=D2.cells;clear c0 c1 c2 f0 f1 f2 hO hlc;obtain⟨A,c,jv,c0,c1,c2,f0,f1,f2,hO,hlc⟩:=C2;go_wp2_with fail;refine(K2 _ hO.ts hlc).mono ?_;rintro e w3 ⟨rfl,b3⟩;have D3:=D2.keep b3;have F3:=F2.thru hBw b3;rw[show qgb (none)=.tuple #[.int .i64 0,.bool false] from rfl];clear K2;have C3:=D3.cells;clear c0 c1 c2 f0 f1 f2 hO hlc;obtain⟨A,c,jv,c0,c1,c2,f0,f1,f2,hO,hlc⟩:=C3;go_wp2_with fail;refine(qa0 D3 (num (k:Int)) _ (rfl) (by simp only[List.length_append];omega) (zll hBw F3.size)).mono ?_;rintro e w9 ⟨rfl,D9,F9⟩;rw[show({({s with out:=s.out++qbn s.l k}:St) with out:=({s with out:=s.out++qbn s.l k}:St).out++((num (k:Int))++[10])}:St)={s with out:=s.out++qbn s.l (k+1)} from by rw[←HX.out]] at D9;have F9:=F3.trans F9;go_wp2_with fail;go_roundw
     case rel=>exact⟨k+1,by go_num,by omega,D9,F9⟩
     case measure=>simp[intOf];omega
    |some v2=>
     have n2:=hb2 v2 rfl;have m2:=qap v2 (by omega);clear hb1 hb2
     have HX:Hid (s.out++qbn s.l k++(((num (k:Int))++([32,115,119,105,116,99,104,32]++num v2))++[10])=s.out++qbn s.l (k+1)):=by
      rw[Hid,HT.out,HR.out];simp
     rw[show qgb (none)=.tuple #[.int .i64 0,.bool false] from rfl];have C2:=D2.cells;clear c0 c1 c2 f0 f1 f2 hO hlc;obtain⟨A,c,jv,c0,c1,c2,f0,f1,f2,hO,hlc⟩:=C2;go_wp2_with fail;refine(K2 _ hO.ts hlc).mono ?_;rintro e w3 ⟨rfl,b3⟩;have D3:=D2.keep b3;have F3:=F2.thru hBw b3;rw[show qgb (some v2)=.tuple #[.int .i64 v2,.bool true] from rfl];clear K2;have C3:=D3.cells;clear c0 c1 c2 f0 f1 f2 hO hlc;obtain⟨A,c,jv,c0,c1,c2,f0,f1,f2,hO,hlc⟩:=C3;go_wp2_with fail;refine(qdg (hM.keep F3.2) v2 (by omega) (by omega)).mono ?_;rintro e w4 ⟨rfl,b4⟩;have D4:=D3.keep b4;have F4:=F3.thru hBw b4;have C4:=D4.cells;clear c0 c1 c2 f0 f1 f2 hO hlc;obtain⟨A,c,jv,c0,c1,c2,f0,f1,f2,hO,hlc⟩:=C4;go_wp2_with fail;refine(qa0 D4 ((num (k:Int))++([32,115,119,105,116,99,104,32]++num v2)) _ (by simp[qan]) (by simp only[List.length_append,List.length_cons,List.length_nil];omega) (zll hBw F4.size)).mono ?_;rintro e w9 ⟨rfl,D9,F9⟩;rw[show({({s with out:=s.out++qbn s.l k}:St) with out:=({s with out:=s.out++qbn s.l k}:St).out++(((num (k:Int))++([32,115,119,105,116,99,104,32]++num v2))++[10])}:St)={s with out:=s.out++qbn s.l (k+1)} from by rw[←HX.out]] at D9;have F9:=F4.trans F9;go_wp2_with fail;go_roundw
     case rel=>exact⟨k+1,by go_num,by omega,D9,F9⟩
     case measure=>simp[intOf];omega
   |some v1=>
    cases o2 with
    |none=>
     have n1:=hb1 v1 rfl;have m1:=qap v1 (by omega);clear hb1 hb2
     have HX:Hid (s.out++qbn s.l k++((num (k:Int)++([32,108,111,119,32]++num v1))++[10])=s.out++qbn s.l (k+1)):=by
      rw[Hid,HT.out,HR.out];simp
     rw[show qgb (some v1)=.tuple #[.int .i64 v1,.bool true] from rfl];have C2:=D2.cells;clear c0 c1 c2 f0 f1 f2 hO hlc;obtain⟨A,c,jv,c0,c1,c2,f0,f1,f2,hO,hlc⟩:=C2;go_wp2_with fail;refine(qdg (hM.keep F2.2) v1 (by omega) (by omega)).mono ?_;rintro e w3 ⟨rfl,b3⟩;have D3:=D2.keep b3;have F3:=F2.thru hBw b3;have C3:=D3.cells;clear c0 c1 c2 f0 f1 f2 hO hlc;obtain⟨A,c,jv,c0,c1,c2,f0,f1,f2,hO,hlc⟩:=C3;go_wp2_with fail;refine(K2 _ hO.ts hlc).mono ?_;rintro e w4 ⟨rfl,b4⟩;have D4:=D3.keep b4;have F4:=F3.thru hBw b4;rw[show qgb (none)=.tuple #[.int .i64 0,.bool false] from rfl];clear K2;have C4:=D4.cells;clear c0 c1 c2 f0 f1 f2 hO hlc;obtain⟨A,c,jv,c0,c1,c2,f0,f1,f2,hO,hlc⟩:=C4;go_wp2_with fail;refine(qa0 D4 (num (k:Int)++([32,108,111,119,32]++num v1)) _ (by simp[qan]) (by simp only[List.length_append,List.length_cons,List.length_nil];omega) (zll hBw F4.size)).mono ?_;rintro e w9 ⟨rfl,D9,F9⟩;rw[show({({s with out:=s.out++qbn s.l k}:St) with out:=({s with out:=s.out++qbn s.l k}:St).out++((num (k:Int)++([32,108,111,119,32]++num v1))++[10])}:St)={s with out:=s.out++qbn s.l (k+1)} from by rw[←HX.out]] at D9;have F9:=F4.trans F9;go_wp2_with fail;go_roundw
     case rel=>exact⟨k+1,by go_num,by omega,D9,F9⟩
     case measure=>simp[intOf];omega
    |some v2=>
     have n1:=hb1 v1 rfl;have m1:=qap v1 (by omega);have n2:=hb2 v2 rfl;have m2:=qap v2 (by omega);clear hb1 hb2
     have HX:Hid (s.out++qbn s.l k++(((num (k:Int)++([32,108,111,119,32]++num v1))++([32,115,119,105,116,99,104,32]++num v2))++[10])=s.out++qbn s.l (k+1)):=by
      rw[Hid,HT.out,HR.out];simp
     rw[show qgb (some v1)=.tuple #[.int .i64 v1,.bool true] from rfl];have C2:=D2.cells;clear c0 c1 c2 f0 f1 f2 hO hlc;obtain⟨A,c,jv,c0,c1,c2,f0,f1,f2,hO,hlc⟩:=C2;go_wp2_with fail;refine(qdg (hM.keep F2.2) v1 (by omega) (by omega)).mono ?_;rintro e w3 ⟨rfl,b3⟩;have D3:=D2.keep b3;have F3:=F2.thru hBw b3;have C3:=D3.cells;clear c0 c1 c2 f0 f1 f2 hO hlc;obtain⟨A,c,jv,c0,c1,c2,f0,f1,f2,hO,hlc⟩:=C3;go_wp2_with fail;refine(K2 _ hO.ts hlc).mono ?_;rintro e w4 ⟨rfl,b4⟩;have D4:=D3.keep b4;have F4:=F3.thru hBw b4;rw[show qgb (some v2)=.tuple #[.int .i64 v2,.bool true] from rfl];clear K2;have C4:=D4.cells;clear c0 c1 c2 f0 f1 f2 hO hlc;obtain⟨A,c,jv,c0,c1,c2,f0,f1,f2,hO,hlc⟩:=C4;go_wp2_with fail;refine(qdg (hM.keep F4.2) v2 (by omega) (by omega)).mono ?_;rintro e w5 ⟨rfl,b5⟩;have D5:=D4.keep b5;have F5:=F4.thru hBw b5;have C5:=D5.cells;clear c0 c1 c2 f0 f1 f2 hO hlc;obtain⟨A,c,jv,c0,c1,c2,f0,f1,f2,hO,hlc⟩:=C5;go_wp2_with fail;refine(qa0 D5 ((num (k:Int)++([32,108,111,119,32]++num v1))++([32,115,119,105,116,99,104,32]++num v2)) _ (by simp[qan]) (by simp only[List.length_append,List.length_cons,List.length_nil];omega) (zll hBw F5.size)).mono ?_;rintro e w9 ⟨rfl,D9,F9⟩;rw[show({({s with out:=s.out++qbn s.l k}:St) with out:=({s with out:=s.out++qbn s.l k}:St).out++(((num (k:Int)++([32,108,111,119,32]++num v1))++([32,115,119,105,116,99,104,32]++num v2))++[10])}:St)={s with out:=s.out++qbn s.l (k+1)} from by rw[←HX.out]] at D9;have F9:=F5.trans F9;go_wp2_with fail;go_roundw
     case rel=>exact⟨k+1,by go_num,by omega,D9,F9⟩
     case measure=>simp[intOf];omega
  ·obtain rfl:k=s.l.length:=by omega
   go_wp2_with fail;refine(qa0 D0 [101,110,100] _ rfl (by simp only[List.length_append,List.length_cons,List.length_nil];omega) (zll hBw F0.size)).mono ?_;rintro e w9 ⟨rfl,D9,F9⟩;rw[show({({s with out:=s.out++qbn s.l s.l.length}:St) with out:=({s with out:=s.out++qbn s.l s.l.length}:St).out++([101,110,100]++[10])}:St)={s with out:=s.out++(qbn s.l s.l.length++[101,110,100,10])} from by rw[←List.append_assoc s.out];rfl] at D9;have F9:=F0.trans F9;go_wp2_with fail;go_ret;exact⟨rfl,D9,F9⟩
def qmg(s:Ss)(o:List UInt8)(q:Option (Ss×List UInt8)):St:=match q with
 |some q=>qdt q.1 (o++q.2)
 |none=>qdt s o
theorem q27{s:Ss}(hG:Good s)(x o:List UInt8)(ho:o.length≤700000):q25 x (qld s x).isSome (qdt s o) (qmg s o (qld s x)):=by
 have hl5:=qbj hG.v;have hm:s.l.length≤maxLen:=by unfold maxLen;omega
 by_cases h0:x=[115,111,114,116]
 ·subst h0;exact(qz4 (qdt s o) hm ho).z
 by_cases h1:x=[97,115,115,105,103,110]
 ·subst h1
  have E:qld s [97,115,115,105,103,110]=some (match qbb s.l with
   |some p=>qew s (qds s.l p)
   |none=>(s,noT)):=rfl
  rw[E];cases ha:qbb s.l with
  |some p=>exact(qvm (qdt s o) p ha hm ho).z
  |none=>exact(qpx (qdt s o) ha hm ho).z
 by_cases h2:x=[112,108,97,99,101,115]
 ·subst h2;exact(quu (qdt s o) ho).z
 by_cases h3:x=[100,101,97,100,108,105,110,101,115]
 ·subst h3;exact(qo5 (qdt s o) ho).z
 by_cases h4:x=[115,104,111,119]
 ·subst h4
  have E:qmg s o (qld s [115,104,111,119])={qdt s o with out:=o++(qa9 s.l++[10])++(qbc s.js++[10])}:=by
   show qdt s (o++((qa9 s.l++[10])++(qbc s.js++[10])))=_;rw[←List.append_assoc o];rfl
  rw[E];exact(qwy (qdt s o) s.js rfl rfl hG.t ho).z
 by_cases h5:x=[104,111,108,100,115]
 ·subst h5;have E:qld s [104,111,108,100,115]=some (s,if qb2 s.l s.pol then [104,111,108,100,115,32,121,101,115,10] else [104,111,108,100,115,32,110,111,10]):=rfl;rw[E];cases ha:qb2 s.l s.pol with
  |true=>exact(qpw (qdt s o) ha hm ho).z
  |false=>exact(qqz (qdt s o) ha hm ho).z
 by_cases h6:x=[114,101,115,112,111,110,115,101,115]
 ·subst h6;exact(qp0 (qdt s o) hG.v ho).z
 by_cases h7:x=[115,104,97,114,101,115]
 ·subst h7;exact(qvl (qdt s o) hG.v ho).z
 by_cases h8:x=[102,97,99,116,111,114]
 ·subst h8
  have E:qld s [102,97,99,116,111,114]=some (s,match q2d s.l with
   |some r=>([102,97,99,116,111,114,32]++qbi r)++[10]
   |none=>qhl):=rfl
  rw[E];cases ha:q2d s.l with
  |some r=>exact(qvn (qdt s o) r (qyv ha) (qxk hG.v ha) hm ho).z
  |none=>exact(qpy (qdt s o) (qvb ha) hm ho).z
 by_cases h9:x=[102,101,119,101,115,116]
 ·subst h9
  have E:qld s [102,101,119,101,115,116]=some (s,match qsz s.l s.pol with
   |some n=>([102,101,119,101,115,116,32]++num n)++[10]
   |none=>qhl):=rfl
  rw[E];cases ha:qsz s.l s.pol with
  |some n=>exact(qvo (qdt s o) n ha (by have:=(qj4 ha).1;omega) (by have:=(qj4 ha).2.1;omega) hm ho).z
  |none=>exact(qpz (qdt s o) ha hm ho).z
 have E:qld s x=none:=by simp[qld,h0,h1,h2,h3,h4,h5,h6,h7,h8,h9]
 rw[E];exact qz5 x _ (by simpa using h0) (by simpa using h1) (by simpa using h2) (by simpa using h3) (by simpa using h4) (by simpa using h5) (by simpa using h6) (by simpa using h7) (by simpa using h8) (by simpa using h9)
theorem q28{s:Ss}(hG:Good s)(x:List UInt8)(n:Int)(o:List UInt8)(ho:o.length≤700000):qyz x n (qle s x n).isSome (qdt s o) (qmg s o (qle s x n)):=by
 have hl5:=qbj hG.v;have hm:s.l.length≤maxLen:=by unfold maxLen;omega
 by_cases h0:x=[108,101,97,118,101]
 ·subst h0;have E:qle s [108,101,97,118,101] n=some (if plc s.l n then qew s (lvT s.l n) else(s,noT)):=rfl;rw[E];cases ha:plc s.l n with
  |true=>exact(qwt n (qdt s o) ha ho).z
  |false=>exact(qqi n (qdt s o) ha ho).z
 by_cases h1:x=[114,97,105,115,101]
 ·subst h1
  have E:qle s [114,97,105,115,101] n=some (match qb8 s.l n with
   |some l=>qew s l
   |none=>(s,noT)):=rfl
  rw[E];cases ha:qb8 s.l n with
  |some l=>exact(qxs n (qdt s o) l ha (show s.l.length≤1000000 by omega) ho).z
  |none=>exact(qq1 n (qdt s o) ha (show s.l.length≤1000000 by omega) ho).z
 by_cases h2:x=[114,117,108,101]
 ·subst h2;have E:qle s [114,117,108,101] n=some (qqm s (qcj s.l n false)):=rfl;rw[E];cases ha:qcj s.l n false with
  |some js=>exact(qzq n (qdt s o) js ha ho).z
  |none=>exact(qth n (qdt s o) ha ho).z
 by_cases h3:x=[119,111,114,115,116]
 ·subst h3;have E:qle s [119,111,114,115,116] n=some (qqm s (qcj s.l n true)):=rfl;rw[E];cases ha:qcj s.l n true with
  |some js=>exact(qwx n (qdt s o) js ha ho).z
  |none=>exact(qq0 n (qdt s o) ha ho).z
 by_cases h4:x=[114,117,110]
 ·subst h4;have E:qle s [114,117,110] n=if qsl s.l s.js s.pol n then some (s,q1b s.l s.js s.pol n.toNat) else none:=rfl
  rw[E];cases ha:qsl s.l s.js s.pol n with
  |true=>
   have hr:=ha;simp only[qsl,Bool.and_eq_true,decide_eq_true_eq] at hr;have hn:((n.toNat:Nat):Int)=n:=by omega
   have K:=(q10 n.toNat (qdt s o) s.js rfl rfl hr.1.1.1 hG.p (qva hr.1.1.2) (by omega) ho).z;rw[hn] at K;exact K
  |false=>exact qvq n (qdt s o) s.js rfl rfl ha hm (by have:=(qfv hG.t).1;unfold maxLen;omega)
 by_cases h5:x=[104,105,103,104]
 ·subst h5
  have E:qle s [104,105,103,104] n=some (s,match qbk s.l n s.pol with
   |some k=>([104,105,103,104,32]++num k)++[10]
   |none=>qhl):=rfl
  rw[E];cases ha:qbk s.l n s.pol with
  |some k=>
   have hk:=qgp ha;exact(qz6 n (qdt s o) k ha (qnu ha) (by omega) hm ho).z
  |none=>exact(qtf n (qdt s o) ha hm ho).z
 by_cases h6:x=[112,97,99,107]
 ·subst h6
  have E:qle s [112,97,99,107] n=some (s,match qjc s.l n s.pol with
   |some ws=>qcf s.l ws++[101,110,100,10]
   |none=>qhl):=rfl
  rw[E];cases ha:qjc s.l n s.pol with
  |some ws=>
   have K:=(qz7 n (qdt s o) ws ha hm ho).z
   have E2:{qdt s o with out:=(qdt s o).out++qcf (qdt s o).l ws++([101,110,100]++[10])}=qmg s o (some (s,qcf s.l ws++[101,110,100,10])):=by
    show qdt s (o++qcf s.l ws++[101,110,100,10])=qdt s (o++(qcf s.l ws++[101,110,100,10]));rw[List.append_assoc]
   rw[E2] at K;exact K
  |none=>exact(qtg n (qdt s o) ha hm ho).z
 have E:qle s x n=none:=by simp[qle,h0,h1,h2,h3,h4,h5,h6]
 rw[E];exact qvp x n _ (by simpa using h0) (by simpa using h1) (by simpa using h2) (by simpa using h3) (by simpa using h4) (by simpa using h5) (by simpa using h6)
theorem q5b{s:Ss}(hG:Good s)(x r:List UInt8)(hr:r.length≤1000000)(o:List UInt8)(ho:o.length≤700000):qpv x r (qs0 s x r).isSome (qdt s o) (qmg s o (qs0 s x r)):=by
 have hl5:=qbj hG.v;by_cases h0:x=[116,97,115,107,115]
 ·subst h0;have E:qs0 s [116,97,115,107,115] r=(qjb r).map (fun l=>qew s l):=rfl;rw[E];cases ha:qjb r with
  |some l=>exact qxt r hr l ha (qdt s o) ho
  |none=>exact qq2 r hr ha (qdt s o)
 by_cases h1:x=[97,100,109,105,116]
 ·subst h1
  have E:qs0 s [97,100,109,105,116] r=(tkO r).map (fun t=>match qci s.l t s.pol with
   |some l=>qew s l
   |none=>(s,noT)):=rfl
  rw[E];cases ha:tkO r with
  |some t=>
   rw[Option.map_some];cases hb:qci s.l t s.pol with
   |some l=>exact qxu r hr t ha (qdt s o) l hb (show s.l.length≤1000000 by omega) ho
   |none=>exact qq3 r hr t ha (qdt s o) hb (show s.l.length≤1000000 by omega) ho
  |none=>exact qq4 r hr ha (qdt s o)
 by_cases h2:x=[106,111,98,115]
 ·subst h2
  have E:qs0 s [106,111,98,115] r=some (qqm s (match qfa r with
   |some js=>if qa6 s.l js then some js else none
   |none=>none)):=rfl
  rw[E];cases ha:qfa r with
  |some js=>
   dsimp only;cases hb:qa6 s.l js with
   |true=>exact qz8 r hr js ha (qdt s o) hb ho
   |false=>exact qti r hr js ha (qdt s o) hb ho
  |none=>exact qtj r hr ha (qdt s o) ho
 have E:qs0 s x r=none:=by simp[qs0,h0,h1,h2]
 rw[E];exact q26 x r _ (by simpa using h0) (by simpa using h1) (by simpa using h2)
theorem qlj(s:Ss)(o:List UInt8):qmg s o none=qdt s o:=rfl
theorem do_any{s:Ss}(hG:Good s)(x:List UInt8)(hx:x.length≤1000000)(o:List UInt8)(ho:o.length≤600000):DoZ x (qdt s o) (qdt (qhj s x).1 (o++(qhj s x).2)):=by
 obtain⟨a,r,f,hC⟩: ∃a r f,Lib.cut x [32]=(a,r,f):=⟨_,_,_,rfl⟩;have hle:=qr7 x [32];rw[hC] at hle;dsimp only at hle;obtain⟨S',hS'⟩: ∃S',qdt (qhj s x).1 (o++(qhj s x).2)=S':=⟨_,rfl⟩;have hL:qhj s x=if f then qlg s a r else qlf s (qld s a):=by rw[qhj,hC]
 rw[hS'];rw[hL] at hS';intro B b w hM D hBw;have hL2:(qdt s o).out.length≤600000:=ho;cases f with
 |false=>
  rw[if_neg (by simp)] at hS';have hp:=q27 hG a o (by omega);cases h1:qld s a with
  |some q=>
   rw[h1] at hS' hp;rw[show qmg s o (some q)=S' from hS'] at hp;clear hS' h1 hL;go_enter Tryz.func42,Tryz.ntmps42;go_wp2_with fail;refine(qdn hC hM.mx (by omega)).mono ?_;rintro e w1 ⟨rfl,b1⟩;have D1:=D.keep b1;have hM1:=hM.keep (b1.mono hBw);have F1:=(Frm.refl B b w).thru hBw b1;have hB1:=zll hBw b1.size;go_wp2_with fail;refine(hp B b _ hM1 D1 hB1).mono ?_;rintro e w2 ⟨rfl,D2,F2⟩;go_wp2_with fail;go_end0
   exact⟨rfl,D2,F1.trans F2⟩
  |none=>
   rw[h1] at hS' hp;rw[qlj] at hp;have hS2:({qdt s o with out:=(qdt s o).out++([119,104,97,116]++[10])}:St)=S':=hS';clear hS' h1 hL;go_enter Tryz.func42,Tryz.ntmps42;go_wp2_with fail;refine(qdn hC hM.mx (by omega)).mono ?_;rintro e w1 ⟨rfl,b1⟩;have D1:=D.keep b1;have hM1:=hM.keep (b1.mono hBw);have F1:=(Frm.refl B b w).thru hBw b1;have hB1:=zll hBw b1.size;go_wp2_with fail;refine(hp B b _ hM1 D1 hB1).mono ?_;rintro e w2 ⟨rfl,D2,F2⟩;have F2:=F1.trans F2;go_wp2_with fail;refine(qa0 D2 [119,104,97,116] _ rfl (by simp;omega) (zll hBw F2.size)).mono ?_;rintro e w3 ⟨rfl,D3,F3⟩;rw[hS2] at D3;go_wp2_with fail;go_end0
   exact⟨rfl,D3,F2.trans F3⟩
 |true=>
  rw[if_pos rfl] at hS';have hp:=q5b hG a r (by omega) o (by omega);unfold qlg at hS';cases h1:qs0 s a r with
  |some q=>
   rw[h1] at hS' hp;rw[show qmg s o (some q)=S' from hS'] at hp;clear hS' h1 hL;go_enter Tryz.func42,Tryz.ntmps42;go_wp2_with fail;refine(qdn hC hM.mx (by omega)).mono ?_;rintro e w1 ⟨rfl,b1⟩;have D1:=D.keep b1;have hM1:=hM.keep (b1.mono hBw);have F1:=(Frm.refl B b w).thru hBw b1;have hB1:=zll hBw b1.size;go_wp2_with fail;refine(hp B b _ hM1 D1 hB1).mono ?_;rintro e w2 ⟨rfl,D2,F2⟩;go_wp2_with fail;go_end0
   exact⟨rfl,D2,F1.trans F2⟩
  |none=>
   rw[h1] at hS' hp;rw[qlj] at hp;dsimp only at hS';cases h2:qez r with
   |none=>
    rw[h2] at hS';have hS2:({qdt s o with out:=(qdt s o).out++([119,104,97,116]++[10])}:St)=S':=hS';have HN:Hid (qez r=none):=h2;clear hS' h1 hL h2;go_enter Tryz.func42,Tryz.ntmps42;go_wp2_with fail;refine(qdn hC hM.mx (by omega)).mono ?_;rintro e w1 ⟨rfl,b1⟩;have D1:=D.keep b1;have hM1:=hM.keep (b1.mono hBw);have F1:=(Frm.refl B b w).thru hBw b1;have hB1:=zll hBw b1.size;go_wp2_with fail;refine(hp B b _ hM1 D1 hB1).mono ?_;rintro e w2 ⟨rfl,D2,F2⟩;have hM2:=hM1.keep F2.2;have F2:=F1.trans F2;have hB2:=zll hBw F2.size;go_wp2_with fail;refine(qi7 hM2 hB2 r (by omega)).mono ?_;rintro e w3 ⟨n,rfl,_,b3⟩;rw[HN.out];have D3:=D2.keep b3;have F3:=F2.thru hBw b3;simp only[Option.isSome_none];go_wp2_with fail;refine(qa0 D3 [119,104,97,116] _ rfl (by simp;omega) (zll hBw F3.size)).mono ?_;rintro e w4 ⟨rfl,D4,F4⟩;rw[hS2] at D4;go_wp2_with fail;go_end0
    exact⟨rfl,D4,F3.trans F4⟩
   |some n=>
    rw[h2] at hS';dsimp only at hS';have hq:=q28 hG a n o (by omega);have HN:Hid (qez r=some n):=h2;cases h3:qle s a n with
    |some q=>
     rw[h3] at hS' hq;rw[show qmg s o (some q)=S' from hS'] at hq;clear hS' h1 hL h2 h3;go_enter Tryz.func42,Tryz.ntmps42;go_wp2_with fail;refine(qdn hC hM.mx (by omega)).mono ?_;rintro e w1 ⟨rfl,b1⟩;have D1:=D.keep b1;have hM1:=hM.keep (b1.mono hBw);have F1:=(Frm.refl B b w).thru hBw b1;have hB1:=zll hBw b1.size;go_wp2_with fail;refine(hp B b _ hM1 D1 hB1).mono ?_;rintro e w2 ⟨rfl,D2,F2⟩;have hM2:=hM1.keep F2.2;have F2:=F1.trans F2;have hB2:=zll hBw F2.size;go_wp2_with fail;refine(qi7 hM2 hB2 r (by omega)).mono ?_;rintro e w3 ⟨n2,rfl,hn2,b3⟩;obtain rfl:=hn2 _ HN.out;rw[HN.out];have D3:=D2.keep b3;have F3:=F2.thru hBw b3;have hM3:=hM2.keep (b3.mono hB2);have hB3:=zll hBw F3.size;clear hn2;simp only[Option.isSome_some];go_wp2_with fail;refine(hq B b _ hM3 D3 hB3).mono ?_;rintro e w4 ⟨rfl,D4,F4⟩;go_wp2_with fail;go_end0
     exact⟨rfl,D4,F3.trans F4⟩
    |none=>
     rw[h3] at hS' hq;rw[qlj] at hq;have hS2:({qdt s o with out:=(qdt s o).out++([119,104,97,116]++[10])}:St)=S':=hS';clear hS' h1 hL h2 h3;go_enter Tryz.func42,Tryz.ntmps42;go_wp2_with fail;refine(qdn hC hM.mx (by omega)).mono ?_;rintro e w1 ⟨rfl,b1⟩;have D1:=D.keep b1;have hM1:=hM.keep (b1.mono hBw);have F1:=(Frm.refl B b w).thru hBw b1;have hB1:=zll hBw b1.size;go_wp2_with fail;refine(hp B b _ hM1 D1 hB1).mono ?_;rintro e w2 ⟨rfl,D2,F2⟩;have hM2:=hM1.keep F2.2;have F2:=F1.trans F2;have hB2:=zll hBw F2.size;go_wp2_with fail;refine(qi7 hM2 hB2 r (by omega)).mono ?_;rintro e w3 ⟨n2,rfl,hn2,b3⟩;obtain rfl:=hn2 _ HN.out;rw[HN.out];have D3:=D2.keep b3;have F3:=F2.thru hBw b3;have hM3:=hM2.keep (b3.mono hB2);have hB3:=zll hBw F3.size;clear hn2;simp only[Option.isSome_some];go_wp2_with fail;refine(hq B b _ hM3 D3 hB3).mono ?_;rintro e w4 ⟨rfl,D4,F4⟩;have F4:=F3.trans F4;go_wp2_with fail;refine(qa0 D4 [119,104,97,116] _ rfl (by simp;omega) (zll hBw F4.size)).mono ?_;rintro e w5 ⟨rfl,D5,F5⟩;rw[hS2] at D5;go_wp2_with fail;go_end0
     exact⟨rfl,D5,F4.trans F5⟩
def q7a:List Value:=[.slice none 0 0,.slice none 0 0,.int .i64 0,.pointer none,.slice none 0 0]
def Emp(b:Nat)(w:World)(o:List UInt8):Prop:=o=[]→w.heap[b]? =some (.cells q7a.toArray DT (0,0))
theorem Emp.no{b:Nat}{w:World}{o x:List UInt8}(h:1≤x.length):Emp b w (o++x):=by
 intro e;have:=List.append_eq_nil_iff.1 e;rw[this.2] at h;simp at h
theorem q5c(i:Nat)(s:Ss)(o:List UInt8):qp3 [] i s o=o:=rfl
theorem q29(r:List (List UInt8))(i:Nat)(s:Ss)(o:List UInt8):qp3 ([]::r) i s o=qp3 r (i+1) s o:=rfl
theorem q3a{x:List UInt8}(hx:x≠[])(r:List (List UInt8)){i:Nat}(s:Ss){o:List UInt8}(h:200≤i∨40000<o.length):qp3 (x::r) i s o=o++q6t:=by rw[qp3,if_neg hx,if_pos h]
theorem q7b{x:List UInt8}(hx:x≠[])(r:List (List UInt8)){i:Nat}(s:Ss){o:List UInt8}(h: ¬(200≤i∨40000<o.length)):qp3 (x::r) i s o=qp3 r (i+1) (qhj s x).1 (o++(qhj s x).2):=by rw[qp3,if_neg hx,if_neg h]
theorem qvr{b:Nat}{w:World}(hk:w.heap[b]? =some (.cells q7a.toArray DT (0,0))):
  Calls Tryz.prog 43 #[selfP b] w fun e w'=>e=.returned (.string ⟨([]:List UInt8).toArray⟩)∧Below w.heap.size w w':=by
 have c1:w.drew.cell? ⟨b,4,none⟩=some (.slice none 0 0):=by
  have:w.drew.heap[b]? =some (.cells q7a.toArray DT (0,0)):=hk;rw[Lib.cell_of_heap this];rfl
 have hSD:(Builtin.unsafeSliceData_ #[22] 121 #[.slice none 0 0]).run Tryz.prog w.drew=.ok (.pointer none) w.drew:=Lib.run_unsafeSliceData_nil _ _ _ _ _;have hUS:(Builtin.unsafeString_ #[121,3] 9 #[.pointer none,.int .i64 0]).run Tryz.prog w.drew=.ok (.string ⟨([]:List UInt8).toArray⟩) w.drew:=Lib.run_unsafeString_none _ _ _ _ _;have mixed:Tryz.prog.follows Departure.mixedOrders=true:=by kernel_rfl
 go_enter Tryz.func43,Tryz.ntmps43;go_wp2
 go_region_o
 all_goals(go_wp2;go_ret;exact⟨rfl,zdr (Below.refl _ w)⟩)
theorem qp1(text:List UInt8)(hl:text.length≤9000000000000000000)(w:World)(hM:Mz w.heap.size w):
  Calls Tryz.prog 14 #[.string ⟨text.toArray⟩] w fun e w'=>e=.returned (.string ⟨(q4r text).toArray⟩)∧Below w.heap.size w w':=by
 by_cases hlong:20000<text.length
 ·have hlI:(20000:Int)<(text.length:Int):=by omega
  have hS:q4r text=[108,111,110,103,10]:=if_pos hlong;rw[hS];clear hS hM;go_enter Tryz.func14,Tryz.ntmps14;go_wp2_with fail;go_ret;exact⟨rfl,br⟩
 ·obtain⟨R,hR⟩: ∃R,q4r text=R:=⟨_,rfl⟩;have hS:qp3 (qar [10] text) 0 ss0 []=R:=by rw[←hR,q4r,if_neg hlong]
  rw[hR];clear hR;obtain⟨L,hL⟩: ∃L,qar [10] text=L:=⟨_,rfl⟩;have hLm:Hid (∀x∈L,x.length≤text.length):=by rw[←hL];exact qnc 10 [] text
  have hLn:L.length≤text.length+1:=by rw[←hL];exact qf6 10 text
  rw[hL] at hS;have HS:=zhi hS;have hM0:=hM;have hlI: ¬(20000:Int)<(text.length:Int):=by omega
  clear hS;go_enter Tryz.func14,Tryz.ntmps14;go_wp2_with fail;have hD0:(w.alloc (.cells #[.slice none 0 0,.slice none 0 0,.int .i64 0,.pointer none,.slice none 0 0] DT (0,0))).heap[w.heap.size]? =some (.cells #[.slice none 0 0,.slice none 0 0,.int .i64 0,.pointer none,.slice none 0 0] DT (0,0)):=zha w _
  have D0:qgj w.heap.size w.heap.size (w.alloc (.cells #[.slice none 0 0,.slice none 0 0,.int .i64 0,.pointer none,.slice none 0 0] DT (0,0))) (qdt ss0 []):=
   ⟨zlr _,none,0,.slice none 0 0,.pointer none,.slice none 0 0,hD0,.inl rfl,⟨rfl,.inl ⟨rfl,rfl⟩⟩,qhn _ _,World.ownsRow_nil _ _ _ _⟩
  have F0:Below w.heap.size w (w.alloc (.cells #[.slice none 0 0,.slice none 0 0,.int .i64 0,.pointer none,.slice none 0 0] DT (0,0))):=bal br _;refine(qog text 10 [] L hL (hM.mx.keep F0) (by omega)).mono ?_;rintro e w1 ⟨rfl,rfl⟩;have D1:=D0.keep (bal br (.cells (L.map (fun x=>Value.string ⟨x.toArray⟩)).toArray 9 (0,0)));have F1:=qaa F0 (bal br (.cells (L.map (fun x=>Value.string ⟨x.toArray⟩)).toArray 9 (0,0)));have hP:=zha (w.alloc (.cells #[.slice none 0 0,.slice none 0 0,.int .i64 0,.pointer none,.slice none 0 0] DT (0,0))) (.cells (L.map (fun x=>Value.string ⟨x.toArray⟩)).toArray 9 (0,0));have hsz:(w.alloc (.cells #[.slice none 0 0,.slice none 0 0,.int .i64 0,.pointer none,.slice none 0 0] DT (0,0))).heap.size=w.heap.size+1:=by simp
  rw[hsz] at hP
  have E1:Emp w.heap.size ((w.alloc (.cells #[.slice none 0 0,.slice none 0 0,.int .i64 0,.pointer none,.slice none 0 0] DT (0,0))).alloc (.cells (L.map (fun x=>Value.string ⟨x.toArray⟩)).toArray 9 (0,0))) []:=by
   intro _;refine((bal (Below.refl (w.alloc (.cells #[.slice none 0 0,.slice none 0 0,.int .i64 0,.pointer none,.slice none 0 0] DT (0,0))).heap.size _) _).block w.heap.size (by simp)).trans ?_;exact hD0
  clear D0 F0 hD0;go_wp2_with fail;go_loopw [14] (fun i wr=> ∃(k:Nat) (s:Ss) (o:List UInt8),i=.int .i64 (k:Int)∧k≤L.length∧Hid (qp3 (L.drop k) k s o=R)∧Good s∧o.length≤50000∧Emp w.heap.size wr o∧qgj w.heap.size w.heap.size wr (qdt s o)∧Hid (wr.heap[w.heap.size+1]? =some (.cells (L.map (fun x=>Value.string ⟨x.toArray⟩)).toArray 9 (0,0)))∧Below w.heap.size w wr) (fun i _=>L.length-(intOf i).toNat)
  case atStart=>exact⟨0,ss0,[],rfl,by omega,by rw[List.drop_zero];exact HS,good0,by simp,E1,D1,hP,F1⟩
  case round=>
   clear hP D1 F1 HS E1;obtain⟨k,s,o,rfl,hk,hC,hG,hol,hE,D,hP,hb⟩:=hrel;by_cases hlt:k<L.length
   ·have hx:=qof hP.out k hlt;have hd0:L.drop k=L[k]::L.drop (k+1):=List.drop_eq_getElem_cons hlt;have hC1:=hC.out;have hxl:=hLm.out L[k] (List.getElem_mem hlt);rw[hd0] at hC1;generalize L[k]=x at hx hC1 hxl;have hpl:=(Array.getElem?_eq_some_iff.1 hP.out).1;clear hd0 hC;by_cases hne:x=[]
    ·subst hne;rw[q29] at hC1;have HC2:=zhi hC1;clear hC1;go_wp2_with fail;go_roundw
     case rel=>exact⟨k+1,s,o,by go_num,by omega,HC2,hG,hol,hE,D,hP,hb⟩
     case measure=>simp[intOf];omega
    ·have hxe:x.isEmpty=false:=by simpa using hne
     by_cases hfull:200≤k∨40000<o.length
     ·rw[q3a hne _ _ hfull] at hC1;have HC2:=zhi hC1;have hlb:=q2v;clear hC1;by_cases hk2:200≤k
      ·have hk200:(200:Int)≤(k:Int):=by omega
       go_wp2_with fail;refine(qa0 D [102,117,108,108] _ rfl (by show o.length+4≤_;omega) hb.size).mono ?_;rintro e w3 ⟨rfl,D3,F3⟩;have h0:({qdt s o with out:=(qdt s o).out++([102,117,108,108]++[10])}:St).out≠[]:=by simp
       have hRo:({qdt s o with out:=(qdt s o).out++([102,117,108,108]++[10])}:St).out=R:=HC2.out;generalize({qdt s o with out:=(qdt s o).out++([102,117,108,108]++[10])}:St)=S3 at D3 h0 hRo;subst hRo;go_wp2_with fail;refine(qla D3 h0).mono ?_;rintro e w4 ⟨rfl,b4⟩;go_wp2_with fail;go_ret;exact⟨rfl,(hb.trans F3.2).trans b4⟩
      ·have hk200: ¬(200:Int)≤(k:Int):=by omega
       have hgo:(40000:Int)<(o.length:Int):=by omega
       go_wp2_with fail;refine(qyi D).mono ?_;rintro e w2 ⟨rfl,rfl⟩;rw[show(qdt s o).out=o from rfl];go_wp2_with fail;refine(qa0 D [102,117,108,108] _ rfl (by show o.length+4≤_;omega) hb.size).mono ?_;rintro e w3 ⟨rfl,D3,F3⟩;have h0:({qdt s o with out:=(qdt s o).out++([102,117,108,108]++[10])}:St).out≠[]:=by simp
       have hRo:({qdt s o with out:=(qdt s o).out++([102,117,108,108]++[10])}:St).out=R:=HC2.out;generalize({qdt s o with out:=(qdt s o).out++([102,117,108,108]++[10])}:St)=S3 at D3 h0 hRo;subst hRo;go_wp2_with fail;refine(qla D3 h0).mono ?_;rintro e w4 ⟨rfl,b4⟩;go_wp2_with fail;go_ret;exact⟨rfl,(hb.trans F3.2).trans b4⟩
     ·rw[q7b hne _ _ hfull] at hC1;have HC2:=zhi hC1;clear hC1;have hk200: ¬(200:Int)≤(k:Int):=by omega
      have hgo: ¬(40000:Int)<(o.length:Int):=by omega
      have hlb:=qyu hG x;have hG2:=qrz hG x;have hd:=do_any hG x (by omega) o (by omega);generalize(qhj s x).1=s2 at HC2 hlb hG2 hd;generalize(qhj s x).2=t2 at HC2 hlb hd;obtain⟨hlb1,hlb2⟩:=hlb;have hE2:=fun w'=>Emp.no (b:=w.heap.size) (w:=w') (o:=o) hlb1
      have hol2:(o++t2).length≤50000:=by rw[List.length_append];omega
      go_wp2_with fail;refine(qyi D).mono ?_;rintro e w2 ⟨rfl,rfl⟩;rw[show(qdt s o).out=o from rfl];go_wp2_with fail;refine(hd w.heap.size w.heap.size _ (hM0.keep hb) D hb.size).mono ?_;rintro e w3 ⟨rfl,D3,F3⟩;have hP3:=F3.1 _ _ hP.out (by simp) (by rintro c fz e;injection e with _ e _;exact tn6 e);go_wp2_with fail;go_roundw
      case rel=>exact⟨k+1,s2,o++t2,by go_num,by omega,HC2,hG2,hol2,hE2 _,D3,hP3,hb.trans F3.2⟩
      case measure=>simp[intOf];omega
   ·obtain rfl:k=L.length:=by omega
    have hC1:=hC.out;rw[List.drop_length,q5c] at hC1;subst hC1;clear hC hP;by_cases h0:o=[]
    ·subst h0;have hE0:=hE rfl;go_wp2_with fail;refine(qvr hE0).mono ?_;rintro e w3 ⟨rfl,b3⟩;go_wp2_with fail;go_ret;exact⟨rfl,qaa hb b3⟩
    ·go_wp2_with fail;refine(qla D h0).mono ?_;rintro e w3 ⟨rfl,b3⟩;go_wp2_with fail;go_ret;exact⟨rfl,hb.trans b3⟩
end Go.Proofs.YtmkjmancmiphfaaGreatDoor
