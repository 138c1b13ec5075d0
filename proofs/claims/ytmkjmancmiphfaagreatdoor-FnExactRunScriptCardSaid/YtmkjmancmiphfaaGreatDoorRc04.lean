/-
  The reference's SetValid: what it returns.
  The walks of ResponseLow, the reference's.
  The walks of ResponseLow, the program's: the closure, rises.
  The walks of ResponseSwitch.
  The walks of ResponseSwitch, the program's.
  slices.Clone and slices.Delete (of one element): the walks of the library's own text, at tasks and at integers.
  l4Without, LeaveTask: the tasks without one.
-/
import Derived.Test.YtmkjmancmiphfaaGreatDoorRc01
import Derived.Deep.RegionHeld3
import Derived.Deep.RegionLaw
namespace Go.Proofs.YtmkjmancmiphfaaGreatDoor
set_option maxHeartbeats 8000000
set_option maxRecDepth 1000000
open Go.RowKit
theorem Qd(A:ZA)(l:List Tk)(c:Nat)(w:World)(h:TS w A l)(hm:l.length≤9223372036854775807):
  Calls Tryz.prog 55 #[.slice A l.length c] w fun e w'=>e=.returned (.bool (Qe l))∧Below w.heap.size w w':=by
 go_enter Tryz.func55,Tryz.ntmps55;go_wp2
 go_loopw [3] (fun i wr=> ∃k:Nat,k≤l.length∧k≤6∧i=.int .i64 k∧Hid ((l.take k).all vld=true)∧Below w.heap.size w wr) (fun i _=>l.length-(intOf i).toNat)
 case atStart=>exact⟨0,Nat.zero_le _,by omega,rfl,by simp[Hid],br⟩
 case round=>
  obtain⟨k,hk,hk6,rfl,hall,hb⟩:=hrel;by_cases hlt:k<l.length∧k≤5
  ·obtain⟨hlt,h5⟩:=hlt;obtain⟨b,off,rfl,hbl,hc⟩:=h.keep hb (by omega);obtain⟨c0,c1,c2,c3,c4⟩:=qaa hc k hlt;clear hc;go_wp2_with (go_at_call 99;refine(qb1 _ _).mono ?_;rintro e w' ⟨rfl,hb2⟩)
   ·have hv:(!vld l[k])=true:=by assumption
    go_ret;refine⟨?_,Qa hb hb2⟩;have:l.all vld=false:=List.all_eq_false.2 ⟨l[k],Yao _,by simpa using hv⟩;simp[Qe,this]
   ·have hv:(!vld l[k])=false:=by assumption
    go_roundw
    case rel=>exact⟨k+1,by omega,by omega,by go_num,by rw[Hid,qkd l k hlt,hall.out];simpa using hv,Qa hb hb2⟩
    case measure=>simp[intOf];omega
  ·by_cases hlen:k<l.length
   ·have h5:5<k:=by omega
    have h5':5<l.length:=by omega
    go_wp2
    go_ret;refine⟨?_,hb⟩;have e:decide (l.length≤5)=false:=by simp;omega
    simp[Qe,e];omega
   ·have h5':l.length≤6:=by omega
    go_wp2
    go_ret;refine⟨?_,hb⟩;have:=hall.out;rw[Yar (by omega)] at this;simp[Qe,this];omega
def qes(r:Option Int):Value:=
 match r with
 |none=>.tuple #[.int .i64 0,.bool false]
 |some x=>.tuple #[.int .i64 x,.bool true]
theorem Qv{w:World}{b off:Nat}{l:List Tk}(hc: ∀j u,(qcw l)[j]? =some u→w.cell? ⟨b,off+j,none⟩=some u)(k:Nat)(hk:k<l.length):
  w.cell? ⟨b,off+k*5,none⟩=some (.int .i64 (Qg l k).low)∧w.cell? ⟨b,off+k*5+1,none⟩=some (.int .i64 (Qg l k).high)∧w.cell? ⟨b,off+k*5+2,none⟩=some (.int .i64 (Qg l k).due)∧
  w.cell? ⟨b,off+k*5+3,none⟩=some (.int .i64 (Qg l k).every)∧w.cell? ⟨b,off+k*5+4,none⟩=some (.bool (Qg l k).crit):=by
 rw[qbi l k hk];exact qaa hc k hk
theorem qbk{l:List Tk}{x:Int}(h:plc l x=true):Qe l=true∧l.length≤5∧x.toNat<l.length∧x=(x.toNat:Int):=by
 simp only[plc,Yac,Yae] at h;exact⟨h.1.1,(Qj h.1.1).1,by omega,by omega⟩
theorem Vs(A:ZA)(l:List Tk)(c:Nat)(x:Int)(w:World)(h:TS w A l):
  Calls Tryz.prog 100 #[.slice A l.length c,.int .i64 x] w fun e w'=>e=.returned (.bool (plc l x))∧Below w.heap.size w w':=by
 cases hS:Qe l with
 |false=>
  go_enter Tryz.func100,Tryz.ntmps100;go_wp2_with fail;refine(Qf A l c _ h).mono ?_;rw[hS];rintro e w1 ⟨rfl,b1⟩;go_wp2_with fail;go_ret;exact⟨by simp[plc,hS],b1⟩
 |true=>
  by_cases h0:0≤x
  ·have e0:decide (0≤x)=true:=Yag h0;go_enter Tryz.func100,Tryz.ntmps100;go_wp2_with fail;refine(Qf A l c _ h).mono ?_;rw[hS];rintro e w1 ⟨rfl,b1⟩;go_wp2_with fail;go_ret;exact⟨by simp[plc,hS,h0],b1⟩
  ·have e0:decide (0≤x)=false:=Yaf h0;have ef:plc l x=false:=by simp[plc,h0]
   have Ef:=zhi ef;clear ef;go_enter Tryz.func100,Tryz.ntmps100;go_wp2_with fail;refine(Qf A l c _ h).mono ?_;rw[hS];rintro e w1 ⟨rfl,b1⟩;go_wp2_with fail;go_ret;exact⟨by rw[Ef.out];simp,b1⟩
theorem qca(A:ZA)(l:List Tk)(c:Nat)(x:Int)(w:World)(h:TS w A l)(hm:l.length≤maxLen):
  Calls Tryz.prog 198 #[.slice A l.length c,.int .i64 x] w fun e w'=>e=.returned (.bool (plc l x))∧Below w.heap.size w w':=by
 cases hS:Qe l with
 |false=>
  go_enter Tryz.func198,Tryz.ntmps198;go_wp2_with fail;refine(Qd A l c _ h hm).mono ?_;rw[hS];rintro e w1 ⟨rfl,b1⟩;go_wp2_with fail;go_ret;exact⟨by simp[plc,hS],b1⟩
 |true=>
  by_cases h0:0≤x
  ·have e0:decide (0≤x)=true:=Yag h0;go_enter Tryz.func198,Tryz.ntmps198;go_wp2_with fail;refine(Qd A l c _ h hm).mono ?_;rw[hS];rintro e w1 ⟨rfl,b1⟩;go_wp2_with fail;go_ret;exact⟨by simp[plc,hS,h0],b1⟩
  ·have e0:decide (0≤x)=false:=Yaf h0;have ef:plc l x=false:=by simp[plc,h0]
   have Ef:=zhi ef;clear ef;go_enter Tryz.func198,Tryz.ntmps198;go_wp2_with fail;refine(Qd A l c _ h hm).mono ?_;rw[hS];rintro e w1 ⟨rfl,b1⟩;go_wp2_with fail;go_ret;exact⟨by rw[Ef.out];simp,b1⟩
theorem qc0(A:ZA)(l:List Tk)(c:Nat)(x:Int)(w:World)(h:TS w A l)(hm:l.length≤maxLen):
  Calls Tryz.prog 149 #[.slice A l.length c,.int .i64 x] w fun e w'=>e=.returned (qes (qk7 l x))∧Below w.heap.size w w':=by
 cases hP:plc l x with
 |false=>
  go_enter Tryz.func149,Tryz.ntmps149;go_wp2_with fail;refine(qca A l c x _ h hm).mono ?_;rw[hP];rintro e w1 ⟨rfl,b1⟩;go_wp2_with fail;go_ret2;exact⟨by simp[qk7,hP,qes],b1⟩
 |true=>
  obtain⟨hs,hl5,hlt,hx⟩:=qbk hP;have Hs:=zhi hs;have Hr:Hid (qk7 l x=qbj l x.toNat):=by simp[Hid,qk7,hP]
  obtain⟨n,rfl⟩: ∃n:Nat,x=(n:Int):=⟨_,hx⟩;rw[Yam] at*;clear hx hs;have hv:=Qs Hs.out hlt;obtain⟨n1,n2,n3,n4,n5⟩:=qac hv;go_enter Tryz.func149,Tryz.ntmps149;go_wp2_with fail;refine(qca A l c _ _ h hm).mono ?_;rw[hP];clear hP;rintro e w1 ⟨rfl,b1⟩;obtain⟨b,off,rfl,hbl,hc⟩:=h.keep b1 (by omega);obtain⟨c0,c1,c2,c3,c4⟩:=Qv hc n hlt;clear hc;go_wp2_with fail;clear c0 c1 c2 c3 c4;go_loopw [6] (fun i wr=> ∃v:Int,i=.int .i64 v∧(Qg l n).low≤v∧v≤2020∧Hid (qbj l n=qdu (Vn l n) v (Qg l n).due)∧Hid (v≤Vn l n v)∧Below w.heap.size w wr) (fun i _=>((Qg l n).due+1-intOf i).toNat)
  case atStart=>
   refine⟨_,rfl,Ycs _,by omega,rfl,?_,b1⟩;have:=qgx Hs.out (show n≤l.length by omega) (show 0≤(Qg l n).low by omega) (by omega);simp only[Hid,Vn];omega
  case round=>
   obtain⟨v,rfl,hv1,hv2,hR,hN,hb⟩:=hrel;obtain⟨b',off',e',hbl',hc⟩:=h.keep hb (by omega);cases e'
   obtain⟨c0,c1,c2,c3,c4⟩:=Qv hc n hlt;clear hc;by_cases hle:v≤(Qg l n).due
   ·go_wp2_with fail;clear c0 c1 c2 c3 c4;go_loopw [7,8] (fun i j wx=> ∃k:Nat,k≤n∧j=.int .i64 (k:Int)∧i=.int .i64 ((Qg l n).low+qey l k v)∧Below w.heap.size w wx) (fun _ j _=>n-(intOf j).toNat)
    case atStart=>exact⟨0,by omega,rfl,by simp[qey,qgu],hb⟩
    case round=>
     obtain⟨k,hk,rfl,rfl,hbx⟩:=hrel;have hsm:=qgx Hs.out (show k≤l.length by omega) (show 0≤v by omega) (by omega);obtain⟨s0,s1⟩:=hsm;by_cases hkn:k<n
     ·obtain⟨b',off',e',hbl',hc⟩:=h.keep hbx (by omega);cases e'
      obtain⟨c0,c1,c2,c3,c4⟩:=Qv hc k (by omega);clear hc;have hvk:=zhi (Qs Hs.out (show k<l.length by omega));have hd:=qgh hvk.out false (show 0≤v by omega);obtain⟨d0,d1⟩:=hd;have hst:Hid (qey l (k+1) v=qey l k v+qmo (Qg l k) v false):=rfl;go_wp2_with fail;refine(qhb (Qg l k) v false _ hvk.out (by omega) (by omega)).mono ?_;rintro e w5 ⟨rfl,b5⟩;clear c0 c1 c2 c3 c4;go_wp2_with fail;go_roundw
      case rel=>exact⟨k+1,by omega,by go_num,by rw[hst.out];go_num,Qa hbx b5⟩
      case measure=>simp[intOf];omega
     ·have hk':k=n:=by omega
      subst hk';have hnx:(Qg l k).low+qey l k v=Vn l k v:=rfl;have hN':=hN.out;rw[hnx];have hb2:Vn l k v≤2020:=by rw[←hnx];omega
      clear s0 s1;have Hnx:=zhi hnx;clear hnx;by_cases hfix:Vn l k v=v
      ·have hfin:Hid (qbj l k=some v):=by
        have:=hR.out;rw[qhz hle hfix] at this;exact this
       have hfb:(Vn l k v==v)=true:=Yef.2 hfix;have Hfix:=zhi hfix;clear hfix hN';go_wp2_with fail;go_ret2;exact⟨by rw[Hr.out,hfin.out];rfl,hbx⟩
      ·have hR2:Hid (qbj l k=qdu (Vn l k) (Vn l k v) (Qg l k).due):=by
        rw[Hid,hR.out];exact qgv hle (by omega) fun a b hab=>qeg Hs.out (by omega) hab
       have hN2:Hid (Vn l k v≤Vn l k (Vn l k v)):=qeg Hs.out (by omega) hN';have hfb:(Vn l k v==v)=false:=beq_eq_false_iff_ne.2 hfix;go_wp2_with fail;go_roundw
       case rel=>exact⟨_,rfl,by omega,hb2,hR2,hN2,hbx⟩
       case measure=>simp[intOf];omega
   ·have hfin:Hid (qbj l n=none):=by
     have:=hR.out;rw[qgw (by omega)] at this;exact this
    go_wp2_with fail;go_ret2;exact⟨by rw[Hr.out,hfin.out];rfl,hb⟩
theorem qkf(A:ZA)(l:List Tk)(c n L I:Nat)(v:Int)(w:World)(h:TS w A l)(hs:Qe l=true)(hn:n<l.length)(hlc:l.length≤c)(h0:0≤v)(h1:v≤20)
  (hL:w.heap[L]? =some (.cells #[.slice A l.length c] 23 (0,0))) (hI:w.heap[I]? =some (.cells #[.int .i64 (n:Int)] 3 (0,0))):
  Calls Tryz.prog 183 #[.int .i64 v,.pointer (some ⟨L,0,none⟩),.pointer (some ⟨I,0,none⟩)] w fun e w'=>e=.returned (.int .i64 (Vn l n v))∧Below w.heap.size w w':=by
 have hl5:=(Qj hs).1;have Hs:=zhi hs;have HL:=zhi hL;have HI:=zhi hI;have l0:=Ydb hL;have i0:=Ydb hI;clear hL hI hs;obtain⟨b,off,rfl,hbl,hc⟩:=h (by omega);obtain⟨c0,c1,c2,c3,c4⟩:=Qv hc n hn;clear hc;go_enter Tryz.func183,Tryz.ntmps183;go_wp2_with fail;clear c0 c1 c2 c3 c4;go_loopw [5,17] (fun i j wx=> ∃k:Nat,k≤n∧j=.int .i64 (k:Int)∧i=.int .i64 ((Qg l n).low+qey l k v)∧Below w.heap.size w wx) (fun _ j _=>n-(intOf j).toNat)
 case atStart=>exact⟨0,by omega,rfl,by simp[qey,qgu],br⟩
 case round=>
  obtain⟨k,hk,rfl,rfl,hbx⟩:=hrel;have hvn:=qac (Qs Hs.out hn);have hsm:=qgx Hs.out (show k≤l.length by omega) h0 h1;obtain⟨s0,s1⟩:=hsm;obtain⟨n1,n2,n3,n4,n5⟩:=hvn;by_cases hkn:k<n
  ·obtain⟨b',off',e',hbl',hc⟩:=h.keep hbx (by omega);cases e'
   obtain⟨c0,c1,c2,c3,c4⟩:=Qv hc k (by omega);clear hc;have hvk:=zhi (Qs Hs.out (show k<l.length by omega));have hd:=qgh hvk.out false h0;obtain⟨d0,d1⟩:=hd;have hst:Hid (qey l (k+1) v=qey l k v+qmo (Qg l k) v false):=rfl;go_wp2_with fail;refine(qjl (Qg l k) v false _ hvk.out (by omega) (by omega)).mono ?_;rintro e w5 ⟨rfl,b5⟩;clear c0 c1 c2 c3 c4;go_wp2_with fail;go_roundw
   case rel=>exact⟨k+1,by omega,by go_num,by rw[hst.out];go_num,Qa (bal hbx _) b5⟩
   case measure=>simp[intOf];omega
  ·have hk':k=n:=by omega
   subst hk';go_wp2_with fail;go_ret;exact⟨rfl,hbx⟩
theorem qoy(A:ZA)(l:List Tk)(c n L I:Nat)(w:World)(h:TS w A l)(hs:Qe l=true)(hn:n<l.length)(hlc:l.length≤c)
  (hL:w.heap[L]? =some (.cells #[.slice A l.length c] 23 (0,0))) (hI:w.heap[I]? =some (.cells #[.int .i64 (n:Int)] 3 (0,0))) (hLl:L<w.heap.size) (hIl:I<w.heap.size):
  Calls Tryz.prog 182 #[.int .i64 (Qg l n).low,.int .i64 (Qg l n).due,.func (.func 183) #[] #[.pointer (some ⟨L,0,none⟩),.pointer (some ⟨I,0,none⟩)]] w fun e w'=>e=.returned (qes (qbj l n))∧Below w.heap.size w w':=by
 have hv:=Qs hs hn;obtain⟨n1,n2,n3,n4,n5⟩:=qac hv;have hl5:=(Qj hs).1;have Hs:=zhi hs;have HL:=zhi hL;have HI:=zhi hI;clear hL hI hs;go_enter Tryz.func182,Tryz.ntmps182;go_wp2_with fail;go_loopw [8] (fun i wr=> ∃v:Int,i=.int .i64 v∧(Qg l n).low≤v∧v≤2020∧Hid (qbj l n=qdu (Vn l n) v (Qg l n).due)∧Hid (v≤Vn l n v)∧Below w.heap.size w wr) (fun i _=>((Qg l n).due+1-intOf i).toNat)
 case atStart=>
  refine⟨_,rfl,Ycs _,by omega,rfl,?_,br⟩;have:=qgx Hs.out (show n≤l.length by omega) (show 0≤(Qg l n).low by omega) (by omega);simp only[Hid,Vn];omega
 case round=>
  obtain⟨v,rfl,hv1,hv2,hR,hN,hb⟩:=hrel;by_cases hle:v≤(Qg l n).due
  ·have hsm:=qgx Hs.out (show n≤l.length by omega) (show 0≤v by omega) (by omega);have hnx:(Qg l n).low+qey l n v=Vn l n v:=rfl;have hN':=hN.out;have hb2:Vn l n v≤2020:=by rw[←hnx];omega
   clear hsm hnx;go_wp2_with fail;refine(qkf A l c n L I v _ (h.keep hb) Hs.out hn hlc (by omega) (by omega) ((hb.block _ hLl).trans HL.out) ((hb.block _ hIl).trans HI.out)).mono ?_;rintro e w5 ⟨rfl,b5⟩;have hbx:=Qa hb b5;by_cases hfix:Vn l n v=v
   ·have hfin:Hid (qbj l n=some v):=by
     have:=hR.out;rw[qhz hle hfix] at this;exact this
    have hfb:(Vn l n v==v)=true:=Yef.2 hfix;have Hfix:=zhi hfix;clear hfix hN';go_wp2_with fail;go_ret2;exact⟨by rw[hfin.out];rfl,hbx⟩
   ·have hR2:Hid (qbj l n=qdu (Vn l n) (Vn l n v) (Qg l n).due):=by
     rw[Hid,hR.out];exact qgv hle (by omega) fun a b hab=>qeg Hs.out (by omega) hab
    have hN2:Hid (Vn l n v≤Vn l n (Vn l n v)):=qeg Hs.out (by omega) hN';have hfb:(Vn l n v==v)=false:=beq_eq_false_iff_ne.2 hfix;go_wp2_with fail;go_roundw
    case rel=>exact⟨_,rfl,by omega,hb2,hR2,hN2,hbx⟩
    case measure=>simp[intOf];omega
  ·have hfin:Hid (qbj l n=none):=by
    have:=hR.out;rw[qgw (by omega)] at this;exact this
   go_wp2_with fail;go_ret2;exact⟨by rw[hfin.out];rfl,hb⟩
theorem qc1(A:ZA)(l:List Tk)(c:Nat)(x:Int)(w:World)(h:TS w A l)(hlc:l.length≤c):
  Calls Tryz.prog 126 #[.slice A l.length c,.int .i64 x] w fun e w'=>e=.returned (qes (qk7 l x))∧Below w.heap.size w w':=by
 cases hP:plc l x with
 |false=>
  go_enter Tryz.func126,Tryz.ntmps126;go_wp2_with fail;refine(Vs A l c x _ (h.keep (bal (bal br _) _))).mono ?_;rw[hP];rintro e w1 ⟨rfl,b1⟩;go_wp2_with fail;go_ret2;exact⟨by simp[qk7,hP,qes],Qa (bal (bal br _) _) b1⟩
 |true=>
  obtain⟨hs,hl5,hlt,hx⟩:=qbk hP;have Hs:=zhi hs;have Hr:Hid (qk7 l x=qbj l x.toNat):=by simp[Hid,qk7,hP]
  obtain⟨n,rfl⟩: ∃n:Nat,x=(n:Int):=⟨_,hx⟩;rw[Yam] at*;clear hx hs;go_enter Tryz.func126,Tryz.ntmps126;go_wp2_with fail;refine(Vs A l c _ _ (h.keep (bal (bal br _) _))).mono ?_;rw[hP];clear hP;rintro e w1 ⟨rfl,b1⟩;have hB1:=Qa (bal (bal (Below.refl w.heap.size w) _) _) b1;have hz1:=b1.size;simp only[Yah] at hz1;obtain⟨b,off,rfl,hbl,hc⟩:=h.keep hB1 (by omega);obtain⟨c0,c1,c2,c3,c4⟩:=Qv hc n hlt;clear hc;have hL:w1.heap[w.heap.size]? =some (.cells #[.slice (some ⟨b,off,none⟩) l.length c] 23 (0,0)):=(b1.block _ (by simp;omega)).trans ((Yaj _ _ _ (by simp)).trans (zha w _));have hI:w1.heap[w.heap.size+1]? =some (.cells #[.int .i64 (n:Int)] 3 (0,0)):=(b1.block _ (by simp)).trans (by have:=zha (w.alloc (.cells #[.slice (some ⟨b,off,none⟩) l.length c] 23 (0,0))) (.cells #[.int .i64 (n:Int)] 3 (0,0));rw[Yah] at this;exact this);have hx1:w.heap.size<w1.heap.size:=by omega
  have hx2:w.heap.size+1<w1.heap.size:=by omega
  have l0:=Ydb hL;have i0:=Ydb hI;have HL:=zhi hL;have HI:=zhi hI;clear hL hI;go_wp2_with fail;obtain⟨p,q,hro⟩: ∃p q,qes (qbj l n)=.tuple #[.int .i64 p,.bool q]:=by cases qbj l n<;>exact⟨_,_,rfl⟩
  go_region_held3 (fun w'=>w'.cell? ⟨w.heap.size,0,none⟩=some (.slice (some ⟨b,off,none⟩) l.length c)∧w'.cell? ⟨w.heap.size+1,0,none⟩=some (.int .i64 (n:Int))∧w'.cell? ⟨b,off+n*5,none⟩=some (.int .i64 (Qg l n).low)∧w'.cell? ⟨b,off+n*5+2,none⟩=some (.int .i64 (Qg l n).due)∧Below w1.heap.size w1 w')
   ((first|exact⟨l0,i0,c0,c2,zdr br⟩|exact⟨(B5.cell (p:=⟨w.heap.size,0,none⟩) hx1).trans l0,(B5.cell (p:=⟨w.heap.size+1,0,none⟩) hx2).trans i0,(B5.cell (p:=⟨b,off+n*5,none⟩) hbl).trans c0,(B5.cell (p:=⟨b,off+n*5+2,none⟩) hbl).trans c2,B5⟩))
   (first
    |(go_at_call 182;refine(qoy (some ⟨b,off,none⟩) l c n w.heap.size (w.heap.size+1) _ (h.keep (zdr hB1)) Hs.out hlt hlc HL.out HI.out hx1 hx2).mono ?_;rintro e w5 ⟨rfl,b5⟩;have B5:Below w1.heap.size w1 w5:=Qa (zdr br) b5;rw[hro]))
  go_wp2_with fail;go_ret2;exact⟨by rw[Hr.out,hro];simp,Qa hB1 B5⟩
theorem qh0(t:Tk)(b:Bool)(h:t.crit=b):(⟨t.low,t.high,t.due,t.every,b⟩:Tk)=t:=by subst h;rfl
theorem qlc{l:List Tk}(hs:Qe l=true){n:Nat}(hn:n<l.length){r:Int}(h:qbj l n=some r):(Qg l n).low≤r∧r≤(Qg l n).due:=by
 have hv:=qac (Qs hs hn);have h0:=(qgx hs (show n≤l.length by omega) (show 0≤(Qg l n).low by omega) (by omega)).1;have:=(qpx (fun a b hab=>qeg hs (show n≤l.length by omega) hab) (by simp only[Vn];omega) r).1 h;exact⟨this.1,this.2.1⟩
theorem qkg{l:List Tk}{x low:Int}(h:qk7 l x=some low):plc l x=true∧qbj l x.toNat=some low:=by
 unfold qk7 at h;by_cases hp:plc l x=true
 ·rw[Yav hp] at h;exact⟨hp,h⟩
 ·rw[Yaq hp] at h;cases h
theorem qq8{l:List Tk}{x:Int}(h:qk7 l x=none):rSw l x=none:=by
 unfold rSw;by_cases hp:plc l x=true
 ·rw[Yav hp];unfold qk7 at h;rw[Yav hp] at h;simp[qpz,h]
 ·rw[Yaq hp]
theorem qq9{l:List Tk}{x low:Int}(h:qk7 l x=some low):rSw l x=if(Qg l x.toNat).crit then qdu (Vu l low x.toNat) (Qg l x.toNat).high (Qg l x.toNat).due else none:=by
 obtain⟨hp,hl⟩:=qkg h;unfold rSw;rw[Yav hp];simp[qpz,hl]
theorem qfj(A:ZA)(l:List Tk)(c:Nat)(x:Int)(w:World)(h:TS w A l)(hm:l.length≤maxLen):
  Calls Tryz.prog 150 #[.slice A l.length c,.int .i64 x] w fun e w'=>e=.returned (qes (rSw l x))∧Below w.heap.size w w':=by
 cases hR0:qk7 l x with
 |none=>
  rw[qq8 hR0];go_enter Tryz.func150,Tryz.ntmps150;go_wp2_with fail;refine(qc0 A l c x _ h hm).mono ?_;rw[hR0];simp only[qes];rintro e w1 ⟨rfl,b1⟩;go_wp2_with fail;go_ret2;exact⟨by simp[qes],b1⟩
 |some low=>
  obtain⟨hP,hlow⟩:=qkg hR0;obtain⟨hs,hl5,hlt,hx⟩:=qbk hP;have hbd:=qlc hs hlt hlow;have Hs:=zhi hs;have Hr:=zhi (qq9 hR0);have HR0:=zhi hR0;clear hlow hR0;obtain⟨n,rfl⟩: ∃n:Nat,x=(n:Int):=⟨_,hx⟩;rw[Yam] at*;clear hx hs hP;have hv:=Qs Hs.out hlt;obtain⟨n1,n2,n3,n4,n5⟩:=qac hv;obtain⟨l1,l2⟩:=hbd;go_enter Tryz.func150,Tryz.ntmps150;go_wp2_with fail;refine(qc0 A l c n _ h hm).mono ?_;rw[HR0.out];simp only[qes];rintro e w1 ⟨rfl,b1⟩;obtain⟨b,off,rfl,hbl,hc⟩:=h.keep b1 (by omega);obtain⟨c0,c1,c2,c3,c4⟩:=Qv hc n hlt;clear hc;cases hcr:(Qg l n).crit with
  |false=>
   rw[hcr] at c4;have Hr':Hid (rSw l n=none):=by rw[Hid,Hr.out,hcr];rfl
   go_wp2_with fail;go_ret2;exact⟨by rw[Hr'.out];rfl,b1⟩
  |true=>
   rw[hcr] at c4;have Hr':Hid (rSw l n=qdu (Vu l low n) (Qg l n).high (Qg l n).due):=by rw[Hid,Hr.out,hcr];rfl
   clear hcr;go_wp2_with fail;clear c0 c1 c2 c3 c4;go_loopw [8] (fun i wr=> ∃v:Int,i=.int .i64 v∧(Qg l n).high≤v∧v≤2020∧Hid (rSw l n=qdu (Vu l low n) v (Qg l n).due)∧Hid (v≤Vu l low n v)∧Below w.heap.size w wr) (fun i _=>((Qg l n).due+1-intOf i).toNat)
   case atStart=>
    refine⟨_,rfl,Ycs _,by omega,Hr'.out,?_,b1⟩;have:=qiq Hs.out (show 0≤low by omega) (by omega) (show n≤l.length by omega) (show 0≤(Qg l n).high by omega) (by omega);simp only[Hid,Vu];omega
   case round=>
    obtain⟨v,rfl,hv1,hv2,hR,hN,hb⟩:=hrel;obtain⟨b',off',e',hbl',hc⟩:=h.keep hb (by omega);cases e'
    obtain⟨c0,c1,c2,c3,c4⟩:=Qv hc n hlt;clear hc;by_cases hle:v≤(Qg l n).due
    ·go_wp2_with fail;clear c0 c1 c2 c3 c4;go_loopw [9,10] (fun i j wx=> ∃k:Nat,k≤n∧j=.int .i64 (k:Int)∧i=.int .i64 ((Qg l n).high+qi4 l low k v)∧Below w.heap.size w wx) (fun _ j _=>n-(intOf j).toNat)
     case atStart=>exact⟨0,by omega,rfl,by simp[qi4,qgu],hb⟩
     case round=>
      obtain⟨k,hk,rfl,rfl,hbx⟩:=hrel;have hsm:=qiq Hs.out (show 0≤low by omega) (by omega) (show k≤l.length by omega) (show 0≤v by omega) (by omega);obtain⟨s0,s1⟩:=hsm;by_cases hkn:k<n
      ·obtain⟨b',off',e',hbl',hc⟩:=h.keep hbx (by omega);cases e'
       obtain⟨c0,c1,c2,c3,c4⟩:=Qv hc k (by omega);clear hc;have hvk:=zhi (Qs Hs.out (show k<l.length by omega));have hst:Hid (qi4 l low (k+1) v=qi4 l low k v+qeq (Qg l k) low v):=rfl;cases hck:(Qg l k).crit with
       |true=>
        have hd:=qgh hvk.out true (show 0≤v by omega);obtain⟨d0,d1⟩:=hd;have hsd:Hid (qeq (Qg l k) low v=qmo (Qg l k) v true):=by simp[Hid,qeq,hck]
        rw[hck] at c4;have Hck:=zhi hck;clear hck;go_wp2_with fail;refine(qhb ⟨(Qg l k).low,(Qg l k).high,(Qg l k).due,(Qg l k).every,true⟩ v true _ (by rw[qh0 _ _ Hck.out];exact hvk.out) (by omega) (by omega)).mono ?_;rw[qh0 _ _ Hck.out];rintro e w5 ⟨rfl,b5⟩;clear c0 c1 c2 c3 c4;go_wp2_with fail;go_roundw
        case rel=>exact⟨k+1,by omega,by go_num,by rw[hst.out,hsd.out];go_num,Qa hbx b5⟩
        case measure=>simp[intOf];omega
       |false=>
        have hd:=qgh hvk.out false (show 0≤low by omega);obtain⟨d0,d1⟩:=hd;have hsd:Hid (qeq (Qg l k) low v=qmo (Qg l k) low false):=by simp[Hid,qeq,hck]
        rw[hck] at c4;have Hck:=zhi hck;clear hck;go_wp2_with fail;refine(qhb ⟨(Qg l k).low,(Qg l k).high,(Qg l k).due,(Qg l k).every,false⟩ low false _ (by rw[qh0 _ _ Hck.out];exact hvk.out) (by omega) (by omega)).mono ?_;rw[qh0 _ _ Hck.out];rintro e w5 ⟨rfl,b5⟩;clear c0 c1 c2 c3 c4;go_wp2_with fail;go_roundw
        case rel=>exact⟨k+1,by omega,by go_num,by rw[hst.out,hsd.out];go_num,Qa hbx b5⟩
        case measure=>simp[intOf];omega
      ·have hk':k=n:=by omega
       subst hk';have hnx:(Qg l k).high+qi4 l low k v=Vu l low k v:=rfl;have hN':=hN.out;rw[hnx];have hb2:Vu l low k v≤2020:=by rw[←hnx];omega
       clear s0 s1;have Hnx:=zhi hnx;clear hnx;by_cases hfix:Vu l low k v=v
       ·have hfin:Hid (rSw l k=some v):=by
         have:=hR.out;rw[qhz hle hfix] at this;exact this
        have hfb:(Vu l low k v==v)=true:=Yef.2 hfix;have Hfix:=zhi hfix;clear hfix hN';go_wp2_with fail;go_ret2;exact⟨by rw[hfin.out];rfl,hbx⟩
       ·have hR2:Hid (rSw l k=qdu (Vu l low k) (Vu l low k v) (Qg l k).due):=by
         rw[Hid,hR.out];exact qgv hle (by omega) fun a b hab=>qfi Hs.out low (by omega) hab
        have hN2:Hid (Vu l low k v≤Vu l low k (Vu l low k v)):=qfi Hs.out low (by omega) hN';have hfb:(Vu l low k v==v)=false:=beq_eq_false_iff_ne.2 hfix;go_wp2_with fail;go_roundw
        case rel=>exact⟨_,rfl,by omega,hb2,hR2,hN2,hbx⟩
        case measure=>simp[intOf];omega
    ·have hfin:Hid (rSw l n=none):=by
      have:=hR.out;rw[qgw (by omega)] at this;exact this
     go_wp2_with fail;go_ret2;exact⟨by rw[hfin.out];rfl,hb⟩
theorem qh1(A:ZA)(l:List Tk)(c n L I W:Nat)(v low:Int)(w:World)(h:TS w A l)(hs:Qe l=true)(hn:n<l.length)(hlc:l.length≤c)(h0:0≤v)(h1:v≤20)(hl0:0≤low)(hl1:low≤20)
  (hL:w.heap[L]? =some (.cells #[.slice A l.length c] 23 (0,0))) (hI:w.heap[I]? =some (.cells #[.int .i64 (n:Int)] 3 (0,0))) (hW:w.heap[W]? =some (.cells #[.int .i64 low] 3 (0,0))) (hWl:W<w.heap.size):
  Calls Tryz.prog 185 #[.int .i64 v,.pointer (some ⟨L,0,none⟩),.pointer (some ⟨I,0,none⟩),.pointer (some ⟨W,0,none⟩)] w fun e w'=>e=.returned (.int .i64 (Vu l low n v))∧Below w.heap.size w w':=by
 have hl5:=(Qj hs).1;have Hs:=zhi hs;have HW:=zhi hW;have l0:=Ydb hL;have i0:=Ydb hI;clear hL hI hs hW;obtain⟨b,off,rfl,hbl,hc⟩:=h (by omega);obtain⟨c0,c1,c2,c3,c4⟩:=Qv hc n hn;clear hc;go_enter Tryz.func185,Tryz.ntmps185;go_wp2_with fail;clear c0 c1 c2 c3 c4;go_loopw [6,18] (fun i j wx=> ∃k:Nat,k≤n∧j=.int .i64 (k:Int)∧i=.int .i64 ((Qg l n).high+qi4 l low k v)∧Below w.heap.size w wx) (fun _ j _=>n-(intOf j).toNat)
 case atStart=>exact⟨0,by omega,rfl,by simp[qi4,qgu],br⟩
 case round=>
  obtain⟨k,hk,rfl,rfl,hbx⟩:=hrel;have hvn:=qac (Qs Hs.out hn);have hsm:=qiq Hs.out hl0 hl1 (show k≤l.length by omega) h0 h1;obtain⟨s0,s1⟩:=hsm;obtain⟨n1,n2,n3,n4,n5⟩:=hvn;by_cases hkn:k<n
  ·obtain⟨b',off',e',hbl',hc⟩:=h.keep hbx (by omega);cases e'
   obtain⟨c0,c1,c2,c3,c4⟩:=Qv hc k (by omega);clear hc;have hzx:=hbx.size;have hWr:W<wr.heap.size:=by omega
   have hWn:W≠wr.heap.size:=by omega
   have wc:=Ydb ((hbx.block _ hWl).trans HW.out);have hvk:=zhi (Qs Hs.out (show k<l.length by omega));have hst:Hid (qi4 l low (k+1) v=qi4 l low k v+qeq (Qg l k) low v):=rfl;cases hck:(Qg l k).crit with
   |true=>
    have hd:=qgh hvk.out true h0;obtain⟨d0,d1⟩:=hd;have hsd:Hid (qeq (Qg l k) low v=qmo (Qg l k) v true):=by simp[Hid,qeq,hck]
    rw[hck] at c4;have Hck:=zhi hck;clear hck;go_wp2_with fail;refine(qjl ⟨(Qg l k).low,(Qg l k).high,(Qg l k).due,(Qg l k).every,true⟩ v true _ (by rw[qh0 _ _ Hck.out];exact hvk.out) (by omega) (by omega)).mono ?_;rw[qh0 _ _ Hck.out];rintro e w5 ⟨rfl,b5⟩;clear c0 c1 c2 c3 c4;go_wp2_with fail;go_roundw
    case rel=>exact⟨k+1,by omega,by go_num,by rw[hst.out,hsd.out];go_num,Qa (bal hbx _) b5⟩
    case measure=>simp[intOf];omega
   |false=>
    have hd:=qgh hvk.out false hl0;obtain⟨d0,d1⟩:=hd;have hsd:Hid (qeq (Qg l k) low v=qmo (Qg l k) low false):=by simp[Hid,qeq,hck]
    rw[hck] at c4;have Hck:=zhi hck;clear hck;go_wp2_with fail;refine(qjl ⟨(Qg l k).low,(Qg l k).high,(Qg l k).due,(Qg l k).every,false⟩ low false _ (by rw[qh0 _ _ Hck.out];exact hvk.out) (by omega) (by omega)).mono ?_;rw[qh0 _ _ Hck.out];rintro e w5 ⟨rfl,b5⟩;clear c0 c1 c2 c3 c4;go_wp2_with fail;go_roundw
    case rel=>exact⟨k+1,by omega,by go_num,by rw[hst.out,hsd.out];go_num,Qa (bal hbx _) b5⟩
    case measure=>simp[intOf];omega
  ·have hk':k=n:=by omega
   subst hk';go_wp2_with fail;go_ret;exact⟨rfl,hbx⟩
theorem qra(A:ZA)(l:List Tk)(c n L I W:Nat)(low:Int)(w:World)(h:TS w A l)(hs:Qe l=true)(hn:n<l.length)(hlc:l.length≤c)(hl0:0≤low)(hl1:low≤20)
  (hL:w.heap[L]? =some (.cells #[.slice A l.length c] 23 (0,0))) (hI:w.heap[I]? =some (.cells #[.int .i64 (n:Int)] 3 (0,0))) (hW:w.heap[W]? =some (.cells #[.int .i64 low] 3 (0,0))) (hLl:L<w.heap.size) (hIl:I<w.heap.size) (hWl:W<w.heap.size):
  Calls Tryz.prog 182 #[.int .i64 (Qg l n).high,.int .i64 (Qg l n).due,.func (.func 185) #[] #[.pointer (some ⟨L,0,none⟩),.pointer (some ⟨I,0,none⟩),.pointer (some ⟨W,0,none⟩)]] w fun e w'=>e=.returned (qes (qdu (Vu l low n) (Qg l n).high (Qg l n).due))∧Below w.heap.size w w':=by
 have hv:=Qs hs hn;obtain⟨n1,n2,n3,n4,n5⟩:=qac hv;have hl5:=(Qj hs).1;have Hs:=zhi hs;have HL:=zhi hL;have HI:=zhi hI;have HW:=zhi hW;clear hL hI hW hs;obtain⟨R,hRR⟩: ∃R,qdu (Vu l low n) (Qg l n).high (Qg l n).due=R:=⟨_,rfl⟩;rw[hRR];have HRR:=zhi hRR;clear hRR;go_enter Tryz.func182,Tryz.ntmps182;go_wp2_with fail;go_loopw [8] (fun i wr=> ∃v:Int,i=.int .i64 v∧(Qg l n).high≤v∧v≤2020∧Hid (R=qdu (Vu l low n) v (Qg l n).due)∧Hid (v≤Vu l low n v)∧Below w.heap.size w wr) (fun i _=>((Qg l n).due+1-intOf i).toNat)
 case atStart=>
  refine⟨_,rfl,Ycs _,by omega,HRR.out.symm,?_,br⟩;have:=qiq Hs.out hl0 hl1 (show n≤l.length by omega) (show 0≤(Qg l n).high by omega) (by omega);simp only[Hid,Vu];omega
 case round=>
  obtain⟨v,rfl,hv1,hv2,hR,hN,hb⟩:=hrel;by_cases hle:v≤(Qg l n).due
  ·have hsm:=qiq Hs.out hl0 hl1 (show n≤l.length by omega) (show 0≤v by omega) (by omega);have hnx:(Qg l n).high+qi4 l low n v=Vu l low n v:=rfl;have hN':=hN.out;have hb2:Vu l low n v≤2020:=by rw[←hnx];omega
   clear hsm hnx;go_wp2_with fail;refine(qh1 A l c n L I W v low _ (h.keep hb) Hs.out hn hlc (by omega) (by omega) hl0 hl1 ((hb.block _ hLl).trans HL.out) ((hb.block _ hIl).trans HI.out) ((hb.block _ hWl).trans HW.out) (zlt hWl hb.size)).mono ?_;rintro e w5 ⟨rfl,b5⟩;have hbx:=Qa hb b5;by_cases hfix:Vu l low n v=v
   ·have hfin:Hid (R=some v):=by
     have:=hR.out;rw[qhz hle hfix] at this;exact this
    have hfb:(Vu l low n v==v)=true:=Yef.2 hfix;have Hfix:=zhi hfix;clear hfix hN';go_wp2_with fail;go_ret2;exact⟨by rw[hfin.out];rfl,hbx⟩
   ·have hR2:Hid (R=qdu (Vu l low n) (Vu l low n v) (Qg l n).due):=by
     rw[Hid,hR.out];exact qgv hle (by omega) fun a b hab=>qfi Hs.out low (by omega) hab
    have hN2:Hid (Vu l low n v≤Vu l low n (Vu l low n v)):=qfi Hs.out low (by omega) hN';have hfb:(Vu l low n v==v)=false:=beq_eq_false_iff_ne.2 hfix;go_wp2_with fail;go_roundw
    case rel=>exact⟨_,rfl,by omega,hb2,hR2,hN2,hbx⟩
    case measure=>simp[intOf];omega
  ·have hfin:Hid (R=none):=by
    have:=hR.out;rw[qgw (by omega)] at this;exact this
   go_wp2_with fail;go_ret2;exact⟨by rw[hfin.out];rfl,hb⟩
theorem qfk(A:ZA)(l:List Tk)(c:Nat)(x:Int)(w:World)(h:TS w A l)(hlc:l.length≤c):
  Calls Tryz.prog 127 #[.slice A l.length c,.int .i64 x] w fun e w'=>e=.returned (qes (rSw l x))∧Below w.heap.size w w':=by
 cases hR0:qk7 l x with
 |none=>
  rw[qq8 hR0];go_enter Tryz.func127,Tryz.ntmps127;go_wp2_with fail;refine(qc1 A l c x _ (h.keep (bal (bal br _) _)) hlc).mono ?_;rw[hR0];simp only[qes];rintro e w1 ⟨rfl,b1⟩;go_wp2_with fail;go_ret2;exact⟨by simp[qes],bal (Qa (bal (bal br _) _) b1) _⟩
 |some low=>
  obtain⟨hP,hlow⟩:=qkg hR0;obtain⟨hs,hl5,hlt,hx⟩:=qbk hP;have hbd:=qlc hs hlt hlow;have Hs:=zhi hs;have Hr:=zhi (qq9 hR0);have HR0:=zhi hR0;clear hlow hR0;obtain⟨n,rfl⟩: ∃n:Nat,x=(n:Int):=⟨_,hx⟩;rw[Yam] at*;clear hx hs hP;have hv:=Qs Hs.out hlt;obtain⟨n1,n2,n3,n4,n5⟩:=qac hv;obtain⟨l1,l2⟩:=hbd;go_enter Tryz.func127,Tryz.ntmps127;go_wp2_with fail;refine(qc1 A l c n _ (h.keep (bal (bal br _) _)) hlc).mono ?_;rw[HR0.out];simp only[qes];rintro e w1 ⟨rfl,b1⟩;have hB1:=Qa (bal (bal (Below.refl w.heap.size w) _) _) b1;have hz1:=b1.size;simp only[Yah] at hz1;obtain⟨b,off,rfl,hbl,hc⟩:=h.keep hB1 (by omega);obtain⟨c0,c1,c2,c3,c4⟩:=Qv hc n hlt;clear hc;have hL:w1.heap[w.heap.size]? =some (.cells #[.slice (some ⟨b,off,none⟩) l.length c] 23 (0,0)):=(b1.block _ (by simp;omega)).trans ((Yaj _ _ _ (by simp)).trans (zha w _));have hI:w1.heap[w.heap.size+1]? =some (.cells #[.int .i64 (n:Int)] 3 (0,0)):=(b1.block _ (by simp)).trans (by have:=zha (w.alloc (.cells #[.slice (some ⟨b,off,none⟩) l.length c] 23 (0,0))) (.cells #[.int .i64 (n:Int)] 3 (0,0));rw[Yah] at this;exact this);have hx1:w.heap.size<w1.heap.size:=by omega
  have hx2:w.heap.size+1<w1.heap.size:=by omega
  have l0:=Ydb hL;have i0:=Ydb hI;have HL:=zhi hL;have HI:=zhi hI;clear hL hI;cases hcr:(Qg l n).crit with
  |false=>
   rw[hcr] at c4;have Hr':Hid (rSw l n=none):=by rw[Hid,Hr.out,hcr];rfl
   go_wp2_with fail;go_ret2;exact⟨by rw[Hr'.out];rfl,bal hB1 _⟩
  |true=>
   rw[hcr] at c4;have Hr':Hid (rSw l n=qdu (Vu l low n) (Qg l n).high (Qg l n).due):=by rw[Hid,Hr.out,hcr];rfl
   clear hcr;go_wp2_with fail;have hB2:Below w.heap.size w (w1.alloc (.cells #[.int .i64 low] 3 (0,0))):=bal hB1 _;have hL2:=(Yaj w1 (.cells #[.int .i64 low] 3 (0,0)) _ hx1).trans HL.out;have hI2:=(Yaj w1 (.cells #[.int .i64 low] 3 (0,0)) _ hx2).trans HI.out;have hW2:=zha w1 (.cells #[.int .i64 low] 3 (0,0));have hz2:(w1.alloc (.cells #[.int .i64 low] 3 (0,0))).heap.size=w1.heap.size+1:=Yah _ _;obtain⟨b2,off2,e2,hbl2,hc2⟩:=h.keep hB2 (by omega);cases e2
   clear l0 i0 c0 c1 c2 c3 c4;generalize World.alloc w1 _=w2 at*;obtain⟨c0,c1,c2,c3,c4⟩:=Qv hc2 n hlt;clear hc2;have hy1:w.heap.size<w2.heap.size:=by omega
   have hy2:w.heap.size+1<w2.heap.size:=by omega
   have hy3:w1.heap.size<w2.heap.size:=by omega
   have l0:=Ydb hL2;have i0:=Ydb hI2;have HL2:=zhi hL2;have HI2:=zhi hI2;have HW2:=zhi hW2;have Hz2:=zhi hz2;clear hL2 hI2 hW2 hz2;obtain⟨p,q,hro⟩: ∃p q,qes (qdu (Vu l low n) (Qg l n).high (Qg l n).due)=.tuple #[.int .i64 p,.bool q]:=by cases qdu (Vu l low n) (Qg l n).high (Qg l n).due<;>exact⟨_,_,rfl⟩
   go_region_held3 (fun w'=>w'.cell? ⟨w.heap.size,0,none⟩=some (.slice (some ⟨b,off,none⟩) l.length c)∧w'.cell? ⟨w.heap.size+1,0,none⟩=some (.int .i64 (n:Int))∧w'.cell? ⟨b,off+n*5+1,none⟩=some (.int .i64 (Qg l n).high)∧w'.cell? ⟨b,off+n*5+2,none⟩=some (.int .i64 (Qg l n).due)∧Below w2.heap.size w2 w')
    ((first|exact⟨l0,i0,c1,c2,zdr br⟩|exact⟨(B5.cell (p:=⟨w.heap.size,0,none⟩) hy1).trans l0,(B5.cell (p:=⟨w.heap.size+1,0,none⟩) hy2).trans i0,(B5.cell (p:=⟨b,off+n*5+1,none⟩) hbl2).trans c1,(B5.cell (p:=⟨b,off+n*5+2,none⟩) hbl2).trans c2,B5⟩))
    (first
     |(go_at_call 182;refine(qra (some ⟨b,off,none⟩) l c n w.heap.size (w.heap.size+1) w1.heap.size low _ (h.keep (zdr hB2)) Hs.out hlt hlc (by omega) (by omega) HL2.out HI2.out HW2.out hy1 hy2 hy3).mono ?_;rintro e w5 ⟨rfl,b5⟩;have B5:Below w2.heap.size w2 w5:=Qa (zdr br) b5;rw[hro]))
   go_wp2_with fail;go_ret2;exact⟨by rw[Hr'.out,hro];simp,Qa hB2 B5⟩
theorem qet(w:World){ops:Array Oper}{rest:List Oper}{o:Oper}{a:Act}{Q:Exit→Act→World→Prop}(hgd:o.guard=none)(s x:Operand)
  (ho:o.op=.call {callee:=.builtin .append,args:=#[s,x],argTypes:=#[23,23]})
  (base:Nat) (A:ZA) (l:List Tk) (c:Nat) (hs:a.eval s=.slice A l.length c) (hown:OT base w A c l)
  (ad:Addr) (c1:Nat) (m:List Tk) (hx:a.eval x=.slice (some ad) m.length c1) (hm:TS w (some ad) m)
  (hl:l.length≤2000000) (hlm:m.length≤2000000) (hbase:base≤w.heap.size)
  (h: ∀A' c' w',OT base w' A' c' (l++m)→w.grownBy w' (Value.slice A l.length c).ownBlock→Below base w w'→wpList Tryz.prog ops Q rest (a.put o.dst (.slice A' (l.length+m.length) c')) w'):wpList Tryz.prog ops Q (o::rest) a w:=by
 obtain⟨i0,hi,hz0,hz1,hz2⟩:=Ybv qhx
 refine wpList_append_own w hgd s x 23 ho base 58 i0 _ 5 40 Tryz.underlying23 hi hz0 hz1 hz2 rfl (by decide) (.slice A l.length c) l.length (qcw l) hs hown
  ad m.length c1 (qcw m) hx (by rw[qbd,Yct]) ?_ ?_ (by unfold maxLen;omega) (by omega) hbase ?_
 ·intro j u hj
  have hpos:0<m.length:=by
   have:=(List.getElem?_eq_some_iff.1 hj).1;rw[qbd] at this;omega
  obtain⟨b,off,hA,_,hc⟩:=hm hpos;cases hA
  rw[Ycg];exact hc j u hj
 ·intro u hu;simp only[qcw,Yed,Tk.cells,Ybz,Yca,or_false] at hu;obtain⟨t,_,rfl|rfl|rfl|rfl|rfl⟩:=hu<;>rfl
 ·intro v' w' hown' hg _;obtain⟨A',c',rfl⟩:=qcx hown';refine h A' c' w' ?_ hg (qad hown hg hbase);unfold OT;rw[Yaa,qfd];exact hown'
theorem qh2(w:World){ops:Array Oper}{rest:List Oper}{o:Oper}{a:Act}{Q:Exit→Act→World→Prop}(hgd:o.guard=none)(s x:Operand)
  (ho:o.op=.call {callee:=.builtin .append,args:=#[s,x],argTypes:=#[27,27]})
  (base:Nat) (A:ZA) (l:List Int) (c:Nat) (hs:a.eval s=.slice A l.length c) (hown:OI base w A c l)
  (ad:Addr) (c1:Nat) (m:List Int) (hx:a.eval x=.slice (some ad) m.length c1) (hm:IS w (some ad) m)
  (hl:l.length≤2000000) (hlm:m.length≤2000000) (hbase:base≤w.heap.size)
  (h: ∀A' c' w',OI base w' A' c' (l++m)→w.grownBy w' (Value.slice A l.length c).ownBlock→Below base w w'→wpList Tryz.prog ops Q rest (a.put o.dst (.slice A' (l.length+m.length) c')) w'):wpList Tryz.prog ops Q (o::rest) a w:=by
 obtain⟨i0,hi,hz0,hz1,hz2⟩:=Ybv qd6
 refine wpList_append_own w hgd s x 27 ho base 3 i0 _ 1 8 Tryz.underlying27 hi hz0 hz1 hz2 rfl (by decide) (.slice A l.length c) l.length (l.map (.int .i64)) hs hown
  ad m.length c1 (m.map (.int .i64)) hx (by simp) ?_ ?_ (by unfold maxLen;omega) (by omega) hbase ?_
 ·intro j u hj;rw[Ycv] at hj;obtain⟨y,hy,rfl⟩:=Option.map_eq_some_iff.1 hj
  have hpos:0<m.length:=by
   have:=(List.getElem?_eq_some_iff.1 hy).1;omega
  obtain⟨b,off,hA,_,hc⟩:=hm hpos;cases hA
  rw[Ycg];exact hc j y hy
 ·intro u hu;obtain⟨y,_,rfl⟩:=List.mem_map.1 hu;rfl
 ·intro v' w' hown' hg _;obtain⟨A',c',rfl⟩:=qcx hown';refine h A' c' w' ?_ hg (qad hown hg hbase);unfold OI;rw[Yaa,Ybg];exact hown'
theorem q5i{w:World}{l:List Tk}(h:TS w none l):l=[]:=by
 cases l with
 |nil=>rfl
 |cons t l=>obtain⟨b,off,hA,_⟩:=h (by simp);cases hA
theorem q5j{w:World}{l:List Int}(h:IS w none l):l=[]:=by
 cases l with
 |nil=>rfl
 |cons t l=>obtain⟨b,off,hA,_⟩:=h (by simp);cases hA
theorem qba(A:ZA)(l:List Tk)(c:Nat)(w:World)(h:TS w A l)(hl:l.length≤2000000):
  Calls Tryz.prog 172 #[.slice A l.length c] w (q2t w l):=by
 have hnil:=Lib.run_eql_slice_nil (P:=Tryz.prog) (t:=23) (e:=58) (a:=A) (n:=l.length) (c:=c) (n':=0) (c':=0) (h:=Tryz.underlying23);cases A with
 |none=>
  have e:=q5i h;subst e;simp only[Ybl,Option.isNone_none] at hnil⊢;clear h hl;go_enter Tryz.func172,Tryz.ntmps172;go_wp2_with fail;go_ret;exact⟨none,0,rfl,qf3 _ _,br⟩
 |some ad=>
  simp only[Option.isNone_some] at hnil;go_enter Tryz.func172,Tryz.ntmps172;go_wp2_with (at_builtin;refine qet _ rfl _ _ rfl w.heap.size (some ⟨w.heap.size,0,none⟩) [] 0 rfl (Q8 w _ (zlr _)) ad c l rfl (h.keep (bal br _)) (by simp) (by omega) (by simp) ?_;intro A' c' w1 o1 g1 b1;rw[Ycj] at o1)
  have B1:Below w.heap.size w w1:=(bal br _).trans b1;go_wp2_with fail;go_ret;exact⟨A',c',rfl,o1,B1⟩
def qur:List Value→Nat→List Value→List Value
 |xs,_,[]=>xs
 |xs,o,v::r=>qur (xs.set o v) (o+1) r
theorem qhc(xs:List Value)(o:Nat)(vs:List Value):(qur xs o vs).length=xs.length:=by
 induction vs generalizing xs o with
 |nil=>rfl
 |cons v r ih=>rw[qur,ih,Ybc]
theorem qzt(xs:List Value)(o:Nat)(vs:List Value)(j:Nat)(h:o+vs.length≤xs.length):(qur xs o vs)[j]? =if o≤j∧j<o+vs.length then vs[j-o]? else xs[j]? :=by
 induction vs generalizing xs o with
 |nil=>rw[qur,Yaq (by simp only[Ybl];omega)]
 |cons v r ih=>
  simp only[Yau] at h;rw[qur,ih (xs.set o v) (o+1) (by rw[Ybc];omega)];simp only[Yau];by_cases h1:j=o
  ·subst h1;rw[Yaq (by omega),Yav (by omega),Ycc,List.getElem?_set_self (by omega)];rfl
  ·by_cases h2:o+1≤j∧j<o+1+r.length
   ·rw[Yav h2,Yav (by omega),show j-o=(j-(o+1))+1 by omega];simp
   ·rw[Yaq h2,Yaq (by omega),List.getElem?_set_ne (by omega)]
theorem qei{base:Nat}{t:TypeId}{size g n cap:Nat}: ∀(vs:List Value) (o:Nat) {w:World} {xs:List Value},w.ownsRow base t size (.slice (some ⟨g,0,none⟩) n cap) n xs→(w.setCells g o vs).ownsRow base t size (.slice (some ⟨g,0,none⟩) n cap) n (qur xs o vs)
 |[],_,_,_,h=>h
 |v::r,o,_,_,h=>qei r (o+1) (h.stored o v).1
theorem qfl{g:Nat}: ∀(vs:List Value) (o:Nat) {a w:World},a.grownBy w (some g)→a.grownBy (w.setCells g o vs) (some g)
 |[],_,_,_,h=>h
 |v::r,o,a,w,h=>qfl r (o+1) (a:=a) (w:=w.setCell ⟨g,o,none⟩ v) ⟨h.os,h.tape,h.output,by simp[World.setCell];exact h.size,fun i hi hne=>(Yal w _ v i (fun e=>hne (by rw[e]))).trans (h.block i hi hne)⟩
theorem qsu(l:List Tk)(k:Nat)(hk:k≤l.length):(qcw l).drop (k*5)=qcw (l.drop k):=by
 have e:qcw l=qcw (l.take k)++qcw (l.drop k):=by rw[←qfd,Yco]
 rw[e,List.drop_left' (by rw[qbd,Yap];omega)]
theorem qp1(l:List Tk): ∀u∈qcw l,u.oneCell'=true:=by
 intro u hu;simp only[qcw,Yed,Tk.cells,Ybz,Yca,or_false] at hu;obtain⟨t,_,rfl|rfl|rfl|rfl|rfl⟩:=hu<;>rfl
theorem qsv(xs:List Value)(o:Nat)(vs:List Value)(h:o+vs.length≤xs.length):(qur xs o vs).take (o+vs.length)=xs.take o++vs:=by
 apply Yck
 intro j;by_cases hj:j<o+vs.length
 ·rw[Ycl hj,qzt xs o vs j h];by_cases h1:o≤j
  ·rw[Yav ⟨h1,hj⟩,Ybd (by simp;omega)];congr 1
   simp;omega
  ·rw[Yaq (by omega),Yba (by simp;omega),Ycl (by omega)]
 ·rw[Yce (by simp;omega),Yce (by simp;omega)]
theorem qmb(xs:List Value)(o n:Nat)(vs:List Value)(h:o+vs.length≤xs.length)(hn:n≤o):(qur xs o vs).take n=xs.take n:=by
 apply Yck
 intro j;by_cases hj:j<n
 ·rw[Ycl hj,qzt xs o vs j h,Yaq (by omega),Ycl hj]
 ·rw[Yce (by simp;omega),Yce (by simp;omega)]
theorem qi8(l:List Tk)(k:Nat):l.eraseIdx k=l.take k++l.drop (k+1):=Ydg l k
theorem qyb(l:List Tk)(k:Nat)(hk:k<l.length)(z:List Value)(hz:z.length=5):
  (qur (qur (qcw l) (k*5) (qcw (l.drop (k+1)))) ((l.length-1)*5) z).take ((l.length-1)*5)=qcw (l.eraseIdx k):=by
 have hl:=qbd l;have hd:(qcw (l.drop (k+1))).length=(l.length-1-k)*5:=by rw[qbd,Ybm];omega
 rw[qmb _ _ _ _ (by rw[qhc];omega) (zlr _)];have e:(l.length-1)*5=k*5+(qcw (l.drop (k+1))).length:=by rw[hd];omega
 rw[e,qsv _ _ _ (by omega),qsk,←qfd,←qi8]
theorem qoz(w:World)(ty:TypeId)(b o c:Nat)(hc: ∀j,j<5→(w.cell? ⟨b,o+j,none⟩).isSome=true)(hf: ∀j,j<5→w.frozen? ⟨b,o+j,none⟩=false):
  (Builtin.clear_ #[23] ty #[.slice (some ⟨b,o,none⟩) 1 c]).run Tryz.prog w=.ok (.tuple #[]) (w.setCells b o [.int .i64 0,.int .i64 0,.int .i64 0,.int .i64 0,.bool false]):=by
 have hzc:(Builtin.zeroCells (Value.agg #[.int .i64 0,.int .i64 0,.int .i64 0,.int .i64 0,.bool false]).cells 1).toList=[.int .i64 0,.int .i64 0,.int .i64 0,.int .i64 0,.bool false]:=by kernel_rfl
 have hst:=run_storeCells_cells (P:=Tryz.prog) b o [.int .i64 0,.int .i64 0,.int .i64 0,.int .i64 0,.bool false] 0 w (by simpa using hc) (by simpa using hf) (by intro v hv;simp at hv;rcases hv with rfl|rfl<;>rfl);have hv: ∀w,(zeroValue 58).run Tryz.prog w=.ok (.agg #[.int .i64 0,.int .i64 0,.int .i64 0,.int .i64 0,.bool false]) w:=fun _=>by kernel_rfl
 simp only[Nat.add_zero] at hst;simp[Builtin.clear_,run_underlying Tryz.underlying23,hv,hzc,hst]
theorem qd7(base b c k:Nat)(l:List Tk)(w:World)(h:OT base w (some ⟨b,0,none⟩) c l)(hk:k<l.length)(hl:l.length≤2000000):
  Calls Tryz.prog 191 #[.slice (some ⟨b,0,none⟩) l.length c,.int .i64 (k:Int),.int .i64 ((k:Int)+1)] w fun e w'=>
   e=.returned (.slice (some ⟨b,0,none⟩) (l.eraseIdx k).length c)∧OT base w' (some ⟨b,0,none⟩) c (l.eraseIdx k)∧w.grownBy w' (some b):=by
 have hlen:(l.eraseIdx k).length=l.length-1:=Ybs hk;have hsz:=Qo h;obtain⟨hsz1,hsz2⟩:=hsz;unfold maxLen at hsz2;have hx:=h.1;obtain⟨i0,hi0,hz0,hz1,hz2⟩:=Ybv qhx;have hcell: ∀(j:Nat),j<l.length*5→w.cell? ⟨b,j,none⟩=(qcw l)[j]? :=fun j hj=>h.cellAt _ (by omega)
 have hfro: ∀j,w.frozen? ⟨b,j,none⟩=false:=fun j=>h.frozenAt j
 obtain⟨news,hnews⟩: ∃news,news=qcw (l.drop (k+1)):=⟨_,rfl⟩;have hnl:news.length=(l.length-(k+1))*5:=by rw[hnews,qbd,Ybm];omega
 obtain⟨A,hA,hsrc⟩: ∃A:Addr,(if c=k+1 then(some (⟨b,0,none⟩:Addr)) else some ⟨b,(k+1)*5,none⟩)=some A∧Hid (∀t u,news[t]? =some u→w.drew.cell? (A.add t)=some u):=by
  by_cases h1:c=k+1
  ·refine⟨⟨b,0,none⟩,by simp[h1],fun t u hu=>?_⟩;have h0:news.length=0:=by rw[hnl];omega
   rw[List.length_eq_zero_iff.1 h0] at hu;simp at hu
  ·refine⟨⟨b,(k+1)*5,none⟩,by simp[h1],fun t u hu=>?_⟩
   have ht:t<(l.length-(k+1))*5:=by
    have:=(List.getElem?_eq_some_iff.1 hu).1;rwa [hnl] at this
   rw[Ycg];show w.cell? _=_;rw[hcell _ (by omega),←hu,hnews,←qsu l (k+1) (by omega),Ydq]
 have s1:Hid (news.length=(l.length-(k+1))*5):=hnl;have s2:Hid (∀u∈news,u.oneCell'=true):=by rw[hnews];exact qp1 _
 have s3:Hid (∀t,t<news.length→(w.drew.cell? ⟨b,0+k*5+t,none⟩).isSome=true∧w.drew.frozen? ⟨b,0+k*5+t,none⟩=false):=by
  intro t ht;rw[hnl] at ht;refine⟨?_,hfro _⟩;show(w.cell? _).isSome=true;rw[hcell _ (by omega),Ybb (by omega)];rfl
 obtain⟨W1,hW1⟩: ∃W1,W1=w.drew.setCells b (0+k*5) news:=⟨_,rfl⟩
 have hO1:W1.ownsRow base 58 5 (.slice (some ⟨b,0,none⟩) l.length c) l.length (qur (qcw l) (k*5) news):=by
  rw[hW1,Ybj];exact qei news (k*5) (qdi h (zdr br))
 have hcl: ∀ty,(Builtin.clear_ #[23] ty #[.slice (some ⟨b,(k+(l.length-(k+1)))*5,none⟩) (l.length-(k+(l.length-(k+1)))) (c-(k+(l.length-(k+1))))]).run Tryz.prog W1=.ok (.tuple #[]) (W1.setCells b ((l.length-1)*5) [.int .i64 0,.int .i64 0,.int .i64 0,.int .i64 0,.bool false]):=
  fun ty=>by
   rw[show k+(l.length-(k+1))=l.length-1 by omega,show l.length-(l.length-1)=1 by omega];exact qoz W1 ty b _ _ (fun j hj=>by rw[hO1.cellAt _ (by omega),Ybb (by rw[qhc];omega)];rfl) (fun j _=>hO1.frozenAt _)
 have hO2:=qei [.int .i64 0,.int .i64 0,.int .i64 0,.int .i64 0,.bool false] ((l.length-1)*5) hO1;have hO3:=qws hO2 (l.length-1) (by omega);rw[hnews,qyb l k hk _ rfl] at hO3
 have hG:w.grownBy (W1.setCells b ((l.length-1)*5) [.int .i64 0,.int .i64 0,.int .i64 0,.int .i64 0,.bool false]) (some b):=by
  refine qfl _ _ ?_;rw[hW1];exact qfl _ _ ⟨rfl,rfl,rfl,zlr _,fun _ _ _=>rfl⟩
 have HO:Hid (OT base (W1.setCells b ((l.length-1)*5) [.int .i64 0,.int .i64 0,.int .i64 0,.int .i64 0,.bool false]) (some ⟨b,0,none⟩) c (l.eraseIdx k)):=by
  rw[Hid,OT,hlen];exact hO3
 have HG:=zhi hG;have hW:Hid (W1=w.drew.setCells b (0+k*5) news):=hW1;have HL:=zhi hlen;have hic:k≤c:=by omega
 have hjc:k+1≤c:=by omega
 clear hW1 hO1 hO2 hO3 hG hcell hfro hnews hnl hx h hlen;go_enter Tryz.func191,Tryz.ntmps191;go_wp2_with fail;have q1:(0:Int)≤(k:Int)+1:=by omega
 have q2:(k:Int)+1≤(l.length:Int):=by omega
 go_region_law (refine step_append_room rfl (.tmp 22) (.tmp 25) 23 rfl 58 i0 5 Tryz.underlying23 hi0 hz1 b 0 k c (by simp[Act.eval,Act.put]) A (l.length-(k+1)) (c-(k+1)) news (by simp[Act.eval,Act.put]) s1.out hsrc.out s2.out (by omega) s3.out ?_;rw[←hW.out])
 go_wp2_with fail;go_ret;exact⟨by rw[HL.out,show l.length-1=k+(l.length-(k+1)) by omega];rfl,HO.out,HG.out⟩
theorem qzu(l:List Int)(k:Nat)(hk:k<l.length)(z:List Value)(hz:z.length=1):
  (qur (qur (l.map (.int .i64)) k ((l.drop (k+1)).map (.int .i64))) (l.length-1) z).take (l.length-1)=(l.eraseIdx k).map (.int .i64):=by
 have hl:(l.map (Value.int .i64)).length=l.length:=Ybh ..;have hd:((l.drop (k+1)).map (Value.int .i64)).length=l.length-1-k:=by rw[Ybh,Ybm];omega
 have e1:=qmb (qur (l.map (Value.int .i64)) k ((l.drop (k+1)).map (Value.int .i64))) (l.length-1) (l.length-1) z (by rw[qhc];omega) (zlr _);rw[e1];have e:l.length-1=k+((l.drop (k+1)).map (Value.int .i64)).length:=by rw[hd];omega
 rw[e,qsv _ _ _ (by omega),←List.map_take,←Ybg,←Ydg]
theorem qo0(base b c k:Nat)(l:List Int)(w:World)(h:OI base w (some ⟨b,0,none⟩) c l)(hk:k<l.length)(hl:l.length≤2000000):
  Calls Tryz.prog 178 #[.slice (some ⟨b,0,none⟩) l.length c,.int .i64 (k:Int),.int .i64 ((k:Int)+1)] w fun e w'=>
   e=.returned (.slice (some ⟨b,0,none⟩) (l.eraseIdx k).length c)∧OI base w' (some ⟨b,0,none⟩) c (l.eraseIdx k)∧w.grownBy w' (some b):=by
 have hlen:(l.eraseIdx k).length=l.length-1:=Ybs hk;have hsz:=Qo h;obtain⟨hsz1,hsz2⟩:=hsz;unfold maxLen at hsz2;have hx:=h.1;obtain⟨i0,hi0,hz0,hz1,hz2⟩:=Ybv qd6;have hcell: ∀(j:Nat),j<l.length→w.cell? ⟨b,j,none⟩=(l.map (Value.int .i64))[j]? :=fun j hj=>h.cellAt _ (by omega)
 have hfro: ∀j,w.frozen? ⟨b,j,none⟩=false:=fun j=>h.frozenAt j
 obtain⟨news,hnews⟩: ∃news,news=(l.drop (k+1)).map (Value.int .i64):=⟨_,rfl⟩;have hnl:news.length=(l.length-(k+1)):=by rw[hnews,Ybh,Ybm]
 obtain⟨A,hA,hsrc⟩: ∃A:Addr,(if c=k+1 then(some (⟨b,0,none⟩:Addr)) else some ⟨b,(k+1),none⟩)=some A∧Hid (∀t u,news[t]? =some u→w.drew.cell? (A.add t)=some u):=by
  by_cases h1:c=k+1
  ·refine⟨⟨b,0,none⟩,by simp[h1],fun t u hu=>?_⟩;have h0:news.length=0:=by rw[hnl];omega
   rw[List.length_eq_zero_iff.1 h0] at hu;simp at hu
  ·refine⟨⟨b,(k+1),none⟩,by simp[h1],fun t u hu=>?_⟩
   have ht:t<(l.length-(k+1)):=by
    have:=(List.getElem?_eq_some_iff.1 hu).1;rwa [hnl] at this
   rw[Ycg];show w.cell? _=_;rw[hcell _ (by omega),←hu,hnews,List.map_drop,Ydq]
 have s1:Hid (news.length=(l.length-(k+1))):=hnl
 have s2:Hid (∀u∈news,u.oneCell'=true):=by
  rw[hnews];intro u hu;obtain⟨y,_,rfl⟩:=List.mem_map.1 hu;rfl
 have s3:Hid (∀t,t<news.length→(w.drew.cell? ⟨b,0+k*1+t,none⟩).isSome=true∧w.drew.frozen? ⟨b,0+k*1+t,none⟩=false):=by
  intro t ht;rw[hnl] at ht;refine⟨?_,hfro _⟩;show(w.cell? _).isSome=true;rw[hcell _ (by omega),Ybb (by omega)];rfl
 obtain⟨W1,hW1⟩: ∃W1,W1=w.drew.setCells b (0+k*1) news:=⟨_,rfl⟩
 have hO1:W1.ownsRow base 3 1 (.slice (some ⟨b,0,none⟩) l.length c) l.length (qur (l.map (.int .i64)) (k) news):=by
  rw[hW1,Ybj,Nat.mul_one];exact qei news (k) (qdi h (zdr br))
 have hcl: ∀ty,(Builtin.clear_ #[27] ty #[.slice (some ⟨b,(k+(l.length-(k+1))),none⟩) (l.length-(k+(l.length-(k+1)))) (c-(k+(l.length-(k+1))))]).run Tryz.prog W1=.ok (.tuple #[]) (W1.setCells b ((l.length-1)) [.int .i64 0]):=
  fun ty=>by
   rw[show k+(l.length-(k+1))=l.length-1 by omega,show l.length-(l.length-1)=1 by omega];exact Lib.run_clear_slice W1 _ _ ty _ Tryz.underlying27 (fun _=>by kernel_rfl) rfl rfl b _ 1 _ (by omega) (fun j hj=>by rw[hO1.cellAt _ (by omega),Ybb (by rw[qhc,Ybh];omega)];rfl) (fun j _=>hO1.frozenAt _)
 have hO2:=qei [.int .i64 0] ((l.length-1)) hO1;have hO3:=qws hO2 (l.length-1) (by omega);rw[hnews,Nat.mul_one,qzu l k hk _ rfl] at hO3
 have hG:w.grownBy (W1.setCells b ((l.length-1)) [.int .i64 0]) (some b):=by
  refine qfl _ _ ?_;rw[hW1];exact qfl _ _ ⟨rfl,rfl,rfl,zlr _,fun _ _ _=>rfl⟩
 have HO:Hid (OI base (W1.setCells b ((l.length-1)) [.int .i64 0]) (some ⟨b,0,none⟩) c (l.eraseIdx k)):=by
  rw[Hid,OI,hlen];exact hO3
 have HG:=zhi hG;have hW:Hid (W1=w.drew.setCells b (0+k*1) news):=hW1;have HL:=zhi hlen;have hic:k≤c:=by omega
 have hjc:k+1≤c:=by omega
 clear hW1 hO1 hO2 hO3 hG hcell hfro hnews hnl hx h hlen;go_enter Tryz.func178,Tryz.ntmps178;go_wp2_with fail;have q1:(0:Int)≤(k:Int)+1:=by omega
 have q2:(k:Int)+1≤(l.length:Int):=by omega
 go_region_law (refine step_append_room rfl (.tmp 22) (.tmp 25) 27 rfl 3 i0 1 Tryz.underlying27 hi0 hz1 b 0 k c (by simp[Act.eval,Act.put]) A (l.length-(k+1)) (c-(k+1)) news (by simp[Act.eval,Act.put]) (by rw[Nat.mul_one];exact s1.out) hsrc.out s2.out (by omega) s3.out ?_;rw[←hW.out])
 go_wp2_with fail;go_ret;exact⟨by rw[HL.out,show l.length-1=k+(l.length-(k+1)) by omega];rfl,HO.out,HG.out⟩
theorem qkh{w w':World}{b base:Nat}(h:w.grownBy w' (some b))(hb:base≤b)(hs:base≤w.heap.size):Below base w w':=(Below.refl _ _).grown h hs (fun k e=>by cases e;exact hb)
theorem qld{w:World}{A:ZA}{l:List Tk}(h:TS w A l)(k:Nat):TS w A (l.take k):=by
 intro hl;rw[Yap] at hl;obtain⟨b,off,hA,hb,hc⟩:=h (by omega);refine⟨b,off,hA,hb,fun j u hu=>hc j u ?_⟩;rw[←qsk,Ydp] at hu;split at hu
 ·exact hu
 ·cases hu
theorem q5k{w:World}{A:ZA}{l:List Int}(h:IS w A l)(k:Nat):IS w A (l.take k):=by
 intro hl;rw[Yap] at hl;obtain⟨b,off,hA,hb,hc⟩:=h (by omega);refine⟨b,off,hA,hb,fun j u hu=>hc j u ?_⟩;rw[Ydp] at hu;split at hu
 ·exact hu
 ·cases hu
theorem qzv{w:World}{b off c:Nat}{l:List Tk}(h:TS w (some ⟨b,off,none⟩) l)(k:Nat)(hlc:l.length≤c): ∃A:Addr,(if c=k then(some (⟨b,off,none⟩:Addr)) else some ⟨b,off+k*5,none⟩)=some A∧TS w (some A) (l.drop k):=by
 by_cases hc:c=k
 ·refine⟨⟨b,off,none⟩,by simp[hc],fun hl=>?_⟩;rw[Ybm] at hl;omega
 ·refine⟨⟨b,off+k*5,none⟩,by simp[hc],fun hl=>?_⟩;rw[Ybm] at hl;obtain⟨b',off',hA,hb,hcell⟩:=h (by omega);cases hA
  refine⟨b,off+k*5,rfl,hb,fun j u hu=>?_⟩;rw[←qsu l k (by omega),Ydq] at hu;rw[Nat.add_assoc];exact hcell _ u hu
theorem q5l{w:World}{b off c:Nat}{l:List Int}(h:IS w (some ⟨b,off,none⟩) l)(k:Nat)(hlc:l.length≤c): ∃A:Addr,(if c=k then(some (⟨b,off,none⟩:Addr)) else some ⟨b,off+k,none⟩)=some A∧IS w (some A) (l.drop k):=by
 by_cases hc:c=k
 ·refine⟨⟨b,off,none⟩,by simp[hc],fun hl=>?_⟩;rw[Ybm] at hl;omega
 ·refine⟨⟨b,off+k,none⟩,by simp[hc],fun hl=>?_⟩;rw[Ybm] at hl;obtain⟨b',off',hA,hb,hcell⟩:=h (by omega);cases hA
  refine⟨b,off+k,rfl,hb,fun j u hu=>?_⟩;rw[Ydq] at hu;rw[Nat.add_assoc];exact hcell _ u hu
theorem Qy{w:World}{ops:Array Oper}{o:Oper}{a:Act}{K:Act→World→Prop}{Q:Exit→Act→World→Prop}{E:Prop}(hgd:o.guard=none)(s x:Operand)
  (ho:o.op=.call {callee:=.builtin .append,args:=#[s,x],argTypes:=#[23,23]})
  (base:Nat) (A:ZA) (l:List Tk) (n c:Nat) (hn:l.length=n) (hs:a.eval s=.slice A n c) (hown:OT base w A c l)
  (ad:Addr) (j c1:Nat) (m:List Tk) (hj:m.length=j) (hx:a.eval x=.slice (some ad) j c1) (hm:TS w (some ad) m)
  (hl:l.length≤2000000) (hlm:m.length≤2000000) (hbase:base≤w.heap.size)
  (h: ∀A' c' w',OT base w' A' c' (l++m)→w.grownBy w' (Value.slice A n c).ownBlock→Below base w w'→K (a.put o.dst (.slice A' (n+j) c')) w'):
  if Region.wanted o (yielded ops a.tmps)=true then Oper.wp Tryz.prog o a w K Q else E:=by
 subst hn hj;have hw:Region.wanted o (yielded ops a.tmps)=true:=by simp[Region.wanted,hgd]
 rw[Yav hw];obtain⟨i0,hi,hz0,hz1,hz2⟩:=Ybv qhx
 refine wp_append_own w s x 23 ho base 58 i0 _ 5 40 Tryz.underlying23 hi hz0 hz1 hz2 rfl (by decide) (.slice A l.length c) l.length (qcw l) hs hown
  ad m.length c1 (qcw m) hx (by rw[qbd,Yct]) ?_ (qp1 m) (by unfold maxLen;omega) (by omega) hbase ?_
 ·intro j u hj
  have hpos:0<m.length:=by
   have:=(List.getElem?_eq_some_iff.1 hj).1;rw[qbd] at this;omega
  obtain⟨b,off,hA,_,hc⟩:=hm hpos;cases hA
  rw[Ycg];exact hc j u hj
 ·intro v' w' hown' hg _;obtain⟨A',c',rfl⟩:=qcx hown';refine h A' c' w' ?_ hg (qad hown hg hbase);unfold OT;rw[Yaa,qfd];exact hown'
theorem qah{w:World}{ops:Array Oper}{o:Oper}{a:Act}{K:Act→World→Prop}{Q:Exit→Act→World→Prop}{E:Prop}(hgd:o.guard=none)(s x:Operand)
  (ho:o.op=.call {callee:=.builtin .append,args:=#[s,x],argTypes:=#[27,27]})
  (base:Nat) (A:ZA) (l:List Int) (n c:Nat) (hn:l.length=n) (hs:a.eval s=.slice A n c) (hown:OI base w A c l)
  (ad:Addr) (j c1:Nat) (m:List Int) (hj:m.length=j) (hx:a.eval x=.slice (some ad) j c1) (hm:IS w (some ad) m)
  (hl:l.length≤2000000) (hlm:m.length≤2000000) (hbase:base≤w.heap.size)
  (h: ∀A' c' w',OI base w' A' c' (l++m)→w.grownBy w' (Value.slice A n c).ownBlock→Below base w w'→K (a.put o.dst (.slice A' (n+j) c')) w'):
  if Region.wanted o (yielded ops a.tmps)=true then Oper.wp Tryz.prog o a w K Q else E:=by
 subst hn hj;have hw:Region.wanted o (yielded ops a.tmps)=true:=by simp[Region.wanted,hgd]
 rw[Yav hw];obtain⟨i0,hi,hz0,hz1,hz2⟩:=Ybv qd6
 refine wp_append_own w s x 27 ho base 3 i0 _ 1 8 Tryz.underlying27 hi hz0 hz1 hz2 rfl (by decide) (.slice A l.length c) l.length (l.map (.int .i64)) hs hown
  ad m.length c1 (m.map (.int .i64)) hx (by simp) ?_ ?_ (by unfold maxLen;omega) (by omega) hbase ?_
 ·intro j u hj;rw[Ycv] at hj;obtain⟨y,hy,rfl⟩:=Option.map_eq_some_iff.1 hj
  have hpos:0<m.length:=by
   have:=(List.getElem?_eq_some_iff.1 hy).1;omega
  obtain⟨b,off,hA,_,hc⟩:=hm hpos;cases hA
  rw[Ycg];exact hc j y hy
 ·intro u hu;obtain⟨y,_,rfl⟩:=List.mem_map.1 hu;rfl
 ·intro v' w' hown' hg _;obtain⟨A',c',rfl⟩:=qcx hown';refine h A' c' w' ?_ hg (qad hown hg hbase);unfold OI;rw[Yaa,Ybg];exact hown'
theorem qgj(A:ZA)(l:List Tk)(c k:Nat)(w:World)(h:TS w A l)(hk:k<l.length)(hlc:l.length≤c)(hl:l.length≤2000000):
  Calls Tryz.prog 199 #[.slice A l.length c,.int .i64 (k:Int)] w (q2t w (l.eraseIdx k)):=by
 obtain⟨b,off,rfl,hbl,hc⟩:=h (by omega);have hD:=qzv h (k+1) hlc;obtain⟨A2,hA2,hS2⟩:=hD;have hS1:=zhi (qld h k);have HS2:=zhi hS2;have hl1:Hid ((l.take k).length=k):=by simp[Hid];omega
 have hl2:Hid ((l.drop (k+1)).length=l.length-(k+1)):=by simp[Hid]
 have hlen:Hid (l.eraseIdx k=l.take k++l.drop (k+1)):=qi8 l k;clear hS2 hc;have q1:(0:Int)≤(k:Int)+1:=by omega
 have q2:(k:Int)+1≤(l.length:Int):=by omega
 have q3:(k:Int)≤(c:Int):=by omega
 have q0:(0:Int)≤(k:Int):=by omega
 have qw:IntKind.i64.wrap ((k:Int)+1)=(k:Int)+1:=Yai _ (by omega);have hkc:k≤c:=by omega
 go_enter Tryz.func199,Tryz.ntmps199;go_wp2_with fail
 go_region_law (first
  |(refine Qy rfl (.tmp 5) (.tmp 8) rfl w.heap.size (some ⟨w.heap.size,0,none⟩) [] 0 0 rfl (by simp[Act.eval]) (Q8 _ _ (zlr _)) ⟨b,off,none⟩ k c (l.take k) hl1.out (by simp[Act.eval]) (hS1.out.keep (bal (zdr br) _)) (by simp) (by rw[hl1.out];omega) (by simp) ?_;intro A' c' w1 o1 g1 b1)
  |(refine Qy rfl (.tmp 9) (.tmp 13) rfl w.heap.size _ (l.take k) k _ hl1.out (by simp[Act.eval]) o1 A2 (l.length-(k+1)) (c-(k+1)) (l.drop (k+1)) hl2.out (by simp[Act.eval]) (HS2.out.keep ((bal (zdr br) _).trans b1)) (by rw[hl1.out];omega) (by rw[hl2.out];omega) (by have:=b1.size;simp at this;omega) ?_;intro A'' c'' w2 o2 g2 b2))
 go_wp2_with fail;go_ret;refine⟨A'',c'',?_,?_,((bal (zdr br) _).trans b1).trans b2⟩
 ·rw[hlen.out,Yaa,hl1.out,hl2.out];rfl
 ·rw[hlen.out];exact o2
def lvT(l:List Tk)(x:Int):List Tk:=if plc l x then l.eraseIdx x.toNat else []
theorem qo1(A:ZA)(l:List Tk)(c:Nat)(x:Int)(w:World)(h:TS w A l)(hm:l.length≤maxLen)(hlc:l.length≤c):
  Calls Tryz.prog 156 #[.slice A l.length c,.int .i64 x] w (qq2 w (lvT l x) (plc l x)):=by
 cases hP:plc l x with
 |false=>
  have hv:lvT l x=[]:=by simp[lvT,hP]
  rw[hv];clear hv;go_enter Tryz.func156,Tryz.ntmps156;go_wp2_with fail;refine(qca A l c x _ h hm).mono ?_;rw[hP];rintro e w1 ⟨rfl,b1⟩;go_wp2_with fail;go_ret2;exact⟨_,0,rfl,Q8 w1 _ b1.size,bal b1 _⟩
 |true=>
  obtain⟨hs,hl5,hlt,hx⟩:=qbk hP;have hv:lvT l x=l.eraseIdx x.toNat:=by simp[lvT,hP]
  rw[hv];obtain⟨n,rfl⟩: ∃n:Nat,x=(n:Int):=⟨_,hx⟩;rw[Yam] at*;clear hx hs hv;go_enter Tryz.func156,Tryz.ntmps156;go_wp2_with fail;refine(qca A l c n _ h hm).mono ?_;rw[hP];rintro e w1 ⟨rfl,b1⟩;go_wp2_with fail;refine(qgj A l c n _ (h.keep b1) hlt hlc (by omega)).mono ?_;rintro e w2 ⟨A2,c2,rfl,o2,b2⟩;go_wp2_with fail;go_ret2;exact⟨A2,c2,rfl,Ql o2 b1.size,Qa b1 b2⟩
theorem qi9(A:ZA)(l:List Tk)(c:Nat)(x:Int)(w:World)(h:TS w A l):
  Calls Tryz.prog 137 #[.slice A l.length c,.int .i64 x] w (qq2 w (lvT l x) (plc l x)):=by
 cases hP:plc l x with
 |false=>
  have hv:lvT l x=[]:=by simp[lvT,hP]
  rw[hv];clear hv;go_enter Tryz.func137,Tryz.ntmps137;go_wp2_with fail;refine(Vs A l c x _ h).mono ?_;rw[hP];rintro e w1 ⟨rfl,b1⟩;go_wp2_with fail;go_ret2;exact⟨none,0,rfl,qf3 _ _,b1⟩
 |true=>
  obtain⟨hs,hl5,hlt,hx⟩:=qbk hP;have hv:lvT l x=l.eraseIdx x.toNat:=by simp[lvT,hP]
  rw[hv];obtain⟨n,rfl⟩: ∃n:Nat,x=(n:Int):=⟨_,hx⟩;rw[Yam] at*;clear hx hs hv;go_enter Tryz.func137,Tryz.ntmps137;go_wp2_with fail;refine(Vs A l c n _ h).mono ?_;rw[hP];rintro e w1 ⟨rfl,b1⟩;go_wp2_with fail;refine(qba A l c _ (h.keep b1) (by omega)).mono ?_;rintro e w2 ⟨A2,c2,rfl,o2,b2⟩;obtain⟨b,rfl,hb1,hb2⟩:=qep o2 (by omega);go_wp2_with fail;refine(qd7 _ b c2 n l _ o2 hlt (by omega)).mono ?_;rintro e w3 ⟨rfl,o3,g3⟩;go_wp2_with fail;go_ret2;have B3:Below w1.heap.size w1 w3:=b2.trans (qkh g3 hb1 b2.size);exact⟨_,c2,rfl,Ql o3 b1.size,Qa b1 B3⟩
end Go.Proofs.YtmkjmancmiphfaaGreatDoor
