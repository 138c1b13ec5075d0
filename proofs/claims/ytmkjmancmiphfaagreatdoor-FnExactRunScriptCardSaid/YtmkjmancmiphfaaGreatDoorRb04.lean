/-
  The reference's SetValid: what it returns.
  The walks of ResponseLow, the reference's.
  The walks of ResponseLow, the program's: the closure, rises.
  The walks of ResponseSwitch.
  The walks of ResponseSwitch, the program's.
  slices.Clone and slices.Delete (of one element): the walks of the library's own text, at tasks and at integers.
  l4Without, LeaveTask: the tasks without one.
-/
import Derived.Test.YtmkjmancmiphfaaGreatDoorRb01
import Derived.Deep.RegionHeld3
import Derived.Deep.RegionLaw
namespace Go.Proofs.YtmkjmancmiphfaaGreatDoor
set_option maxHeartbeats 8000000
set_option maxRecDepth 1000000
open Go.RowKit
theorem qac(A:ZA)(l:List Tk)(c:Nat)(w:World)(h:TS w A l)(hm:l.length≤9223372036854775807):
  Calls Tryz.prog 55 #[.slice A l.length c] w fun e w'=>e=.returned (.bool (qad l))∧Below w.heap.size w w':=by
 go_enter Tryz.func55,Tryz.ntmps55;go_wp2
 go_loopw [3] (fun i wr=> ∃k:Nat,k≤l.length∧k≤6∧i=.int .i64 k∧Hid ((l.take k).all vld=true)∧Below w.heap.size w wr) (fun i _=>l.length-(intOf i).toNat)
 case atStart=>exact⟨0,Nat.zero_le _,by omega,rfl,by simp[Hid],br⟩
 case round=>
  obtain⟨k,hk,hk6,rfl,hall,hb⟩:=hrel;by_cases hlt:k<l.length∧k≤5
  ·obtain⟨hlt,h5⟩:=hlt;obtain⟨b,off,rfl,hbl,hc⟩:=h.keep hb (by omega);obtain⟨c0,c1,c2,c3,c4⟩:=qby hc k hlt;clear hc;go_wp2_with (go_at_call 99;refine(qdo _ _).mono ?_;rintro e w' ⟨rfl,hb2⟩)
   ·have hv:(!vld l[k])=true:=by assumption
    go_ret;refine⟨?_,qaa hb hb2⟩;have:l.all vld=false:=List.all_eq_false.2 ⟨l[k],List.getElem_mem _,by simpa using hv⟩;simp[qad,this]
   ·have hv:(!vld l[k])=false:=by assumption
    go_roundw
    case rel=>exact⟨k+1,by omega,by omega,by go_num,by rw[Hid,qlp l k hlt,hall.out];simpa using hv,qaa hb hb2⟩
    case measure=>simp[intOf];omega
  ·by_cases hlen:k<l.length
   ·have h5:5<k:=by omega
    have h5':5<l.length:=by omega
    go_wp2
    go_ret;refine⟨?_,hb⟩;have e:decide (l.length≤5)=false:=by simp;omega
    simp[qad,e];omega
   ·have h5':l.length≤6:=by omega
    go_wp2
    go_ret;refine⟨?_,hb⟩;have:=hall.out;rw[List.take_of_length_le (by omega)] at this;simp[qad,this];omega
def qgb(r:Option Int):Value:=
 match r with
 |none=>.tuple #[.int .i64 0,.bool false]
 |some x=>.tuple #[.int .i64 x,.bool true]
theorem qav{w:World}{b off:Nat}{l:List Tk}(hc: ∀j u,(qeg l)[j]? =some u→w.cell? ⟨b,off+j,none⟩=some u)(k:Nat)(hk:k<l.length):
  w.cell? ⟨b,off+k*5,none⟩=some (.int .i64 (qag l k).low)∧w.cell? ⟨b,off+k*5+1,none⟩=some (.int .i64 (qag l k).high)∧w.cell? ⟨b,off+k*5+2,none⟩=some (.int .i64 (qag l k).due)∧
  w.cell? ⟨b,off+k*5+3,none⟩=some (.int .i64 (qag l k).every)∧w.cell? ⟨b,off+k*5+4,none⟩=some (.bool (qag l k).crit):=by
 rw[qc3 l k hk];exact qby hc k hk
theorem qc6{l:List Tk}{x:Int}(h:plc l x=true):qad l=true∧l.length≤5∧x.toNat<l.length∧x=(x.toNat:Int):=by
 simp only[plc,Bool.and_eq_true,decide_eq_true_eq] at h;exact⟨h.1.1,(qaj h.1.1).1,by omega,by omega⟩
theorem qbo(A:ZA)(l:List Tk)(c:Nat)(x:Int)(w:World)(h:TS w A l):
  Calls Tryz.prog 100 #[.slice A l.length c,.int .i64 x] w fun e w'=>e=.returned (.bool (plc l x))∧Below w.heap.size w w':=by
 cases hS:qad l with
 |false=>
  go_enter Tryz.func100,Tryz.ntmps100;go_wp2_with fail;refine(qae A l c _ h).mono ?_;rw[hS];rintro e w1 ⟨rfl,b1⟩;go_wp2_with fail;go_ret;exact⟨by simp[plc,hS],b1⟩
 |true=>
  by_cases h0:0≤x
  ·have e0:decide (0≤x)=true:=decide_eq_true h0;go_enter Tryz.func100,Tryz.ntmps100;go_wp2_with fail;refine(qae A l c _ h).mono ?_;rw[hS];rintro e w1 ⟨rfl,b1⟩;go_wp2_with fail;go_ret;exact⟨by simp[plc,hS,h0],b1⟩
  ·have e0:decide (0≤x)=false:=decide_eq_false h0;have ef:plc l x=false:=by simp[plc,h0]
   have Ef:=zhi ef;clear ef;go_enter Tryz.func100,Tryz.ntmps100;go_wp2_with fail;refine(qae A l c _ h).mono ?_;rw[hS];rintro e w1 ⟨rfl,b1⟩;go_wp2_with fail;go_ret;exact⟨by rw[Ef.out];simp,b1⟩
theorem qdx(A:ZA)(l:List Tk)(c:Nat)(x:Int)(w:World)(h:TS w A l)(hm:l.length≤maxLen):
  Calls Tryz.prog 198 #[.slice A l.length c,.int .i64 x] w fun e w'=>e=.returned (.bool (plc l x))∧Below w.heap.size w w':=by
 cases hS:qad l with
 |false=>
  go_enter Tryz.func198,Tryz.ntmps198;go_wp2_with fail;refine(qac A l c _ h hm).mono ?_;rw[hS];rintro e w1 ⟨rfl,b1⟩;go_wp2_with fail;go_ret;exact⟨by simp[plc,hS],b1⟩
 |true=>
  by_cases h0:0≤x
  ·have e0:decide (0≤x)=true:=decide_eq_true h0;go_enter Tryz.func198,Tryz.ntmps198;go_wp2_with fail;refine(qac A l c _ h hm).mono ?_;rw[hS];rintro e w1 ⟨rfl,b1⟩;go_wp2_with fail;go_ret;exact⟨by simp[plc,hS,h0],b1⟩
  ·have e0:decide (0≤x)=false:=decide_eq_false h0;have ef:plc l x=false:=by simp[plc,h0]
   have Ef:=zhi ef;clear ef;go_enter Tryz.func198,Tryz.ntmps198;go_wp2_with fail;refine(qac A l c _ h hm).mono ?_;rw[hS];rintro e w1 ⟨rfl,b1⟩;go_wp2_with fail;go_ret;exact⟨by rw[Ef.out];simp,b1⟩
theorem qek(A:ZA)(l:List Tk)(c:Nat)(x:Int)(w:World)(h:TS w A l)(hm:l.length≤maxLen):
  Calls Tryz.prog 149 #[.slice A l.length c,.int .i64 x] w fun e w'=>e=.returned (qgb (qmh l x))∧Below w.heap.size w w':=by
 cases hP:plc l x with
 |false=>
  go_enter Tryz.func149,Tryz.ntmps149;go_wp2_with fail;refine(qdx A l c x _ h hm).mono ?_;rw[hP];rintro e w1 ⟨rfl,b1⟩;go_wp2_with fail;go_ret2;exact⟨by simp[qmh,hP,qgb],b1⟩
 |true=>
  obtain⟨hs,hl5,hlt,hx⟩:=qc6 hP;have Hs:=zhi hs;have Hr:Hid (qmh l x=qc4 l x.toNat):=by simp[Hid,qmh,hP]
  obtain⟨n,rfl⟩: ∃n:Nat,x=(n:Int):=⟨_,hx⟩;rw[Int.toNat_natCast] at*;clear hx hs;have hv:=qaq Hs.out hlt;obtain⟨n1,n2,n3,n4,n5⟩:=qbz hv;go_enter Tryz.func149,Tryz.ntmps149;go_wp2_with fail;refine(qdx A l c _ _ h hm).mono ?_;rw[hP];clear hP;rintro e w1 ⟨rfl,b1⟩;obtain⟨b,off,rfl,hbl,hc⟩:=h.keep b1 (by omega);obtain⟨c0,c1,c2,c3,c4⟩:=qav hc n hlt;clear hc;go_wp2_with fail;clear c0 c1 c2 c3 c4;go_loopw [6] (fun i wr=> ∃v:Int,i=.int .i64 v∧(qag l n).low≤v∧v≤2020∧Hid (qc4 l n=qfd (qbl l n) v (qag l n).due)∧Hid (v≤qbl l n v)∧Below w.heap.size w wr) (fun i _=>((qag l n).due+1-intOf i).toNat)
  case atStart=>
   refine⟨_,rfl,Int.le_refl _,by omega,rfl,?_,b1⟩;have:=qig Hs.out (show n≤l.length by omega) (show 0≤(qag l n).low by omega) (by omega);simp only[Hid,qbl];omega
  case round=>
   obtain⟨v,rfl,hv1,hv2,hR,hN,hb⟩:=hrel;obtain⟨b',off',e',hbl',hc⟩:=h.keep hb (by omega);cases e'
   obtain⟨c0,c1,c2,c3,c4⟩:=qav hc n hlt;clear hc;by_cases hle:v≤(qag l n).due
   ·go_wp2_with fail;clear c0 c1 c2 c3 c4;go_loopw [7,8] (fun i j wx=> ∃k:Nat,k≤n∧j=.int .i64 (k:Int)∧i=.int .i64 ((qag l n).low+qgh l k v)∧Below w.heap.size w wx) (fun _ j _=>n-(intOf j).toNat)
    case atStart=>exact⟨0,by omega,rfl,by simp[qgh,qid],hb⟩
    case round=>
     obtain⟨k,hk,rfl,rfl,hbx⟩:=hrel;have hsm:=qig Hs.out (show k≤l.length by omega) (show 0≤v by omega) (by omega);obtain⟨s0,s1⟩:=hsm;by_cases hkn:k<n
     ·obtain⟨b',off',e',hbl',hc⟩:=h.keep hbx (by omega);cases e'
      obtain⟨c0,c1,c2,c3,c4⟩:=qav hc k (by omega);clear hc;have hvk:=zhi (qaq Hs.out (show k<l.length by omega));have hd:=qh0 hvk.out false (show 0≤v by omega);obtain⟨d0,d1⟩:=hd;have hst:Hid (qgh l (k+1) v=qgh l k v+qnw (qag l k) v false):=rfl;go_wp2_with fail;refine(qiu (qag l k) v false _ hvk.out (by omega) (by omega)).mono ?_;rintro e w5 ⟨rfl,b5⟩;clear c0 c1 c2 c3 c4;go_wp2_with fail;go_roundw
      case rel=>exact⟨k+1,by omega,by go_num,by rw[hst.out];go_num,qaa hbx b5⟩
      case measure=>simp[intOf];omega
     ·have hk':k=n:=by omega
      subst hk';have hnx:(qag l k).low+qgh l k v=qbl l k v:=rfl;have hN':=hN.out;rw[hnx];have hb2:qbl l k v≤2020:=by rw[←hnx];omega
      clear s0 s1;have Hnx:=zhi hnx;clear hnx;by_cases hfix:qbl l k v=v
      ·have hfin:Hid (qc4 l k=some v):=by
        have:=hR.out;rw[qji hle hfix] at this;exact this
       have hfb:(qbl l k v==v)=true:=beq_iff_eq.2 hfix;have Hfix:=zhi hfix;clear hfix hN';go_wp2_with fail;go_ret2;exact⟨by rw[Hr.out,hfin.out];rfl,hbx⟩
      ·have hR2:Hid (qc4 l k=qfd (qbl l k) (qbl l k v) (qag l k).due):=by
        rw[Hid,hR.out];exact qie hle (by omega) fun a b hab=>qf0 Hs.out (by omega) hab
       have hN2:Hid (qbl l k v≤qbl l k (qbl l k v)):=qf0 Hs.out (by omega) hN';have hfb:(qbl l k v==v)=false:=beq_eq_false_iff_ne.2 hfix;go_wp2_with fail;go_roundw
       case rel=>exact⟨_,rfl,by omega,hb2,hR2,hN2,hbx⟩
       case measure=>simp[intOf];omega
   ·have hfin:Hid (qc4 l n=none):=by
     have:=hR.out;rw[qif (by omega)] at this;exact this
    go_wp2_with fail;go_ret2;exact⟨by rw[Hr.out,hfin.out];rfl,hb⟩
theorem qlr(A:ZA)(l:List Tk)(c n L I:Nat)(v:Int)(w:World)(h:TS w A l)(hs:qad l=true)(hn:n<l.length)(hlc:l.length≤c)(h0:0≤v)(h1:v≤20)
  (hL:w.heap[L]? =some (.cells #[.slice A l.length c] 23 (0,0))) (hI:w.heap[I]? =some (.cells #[.int .i64 (n:Int)] 3 (0,0))):
  Calls Tryz.prog 183 #[.int .i64 v,.pointer (some ⟨L,0,none⟩),.pointer (some ⟨I,0,none⟩)] w fun e w'=>e=.returned (.int .i64 (qbl l n v))∧Below w.heap.size w w':=by
 have hl5:=(qaj hs).1;have Hs:=zhi hs;have HL:=zhi hL;have HI:=zhi hI;have l0:=cell_of_one hL;have i0:=cell_of_one hI;clear hL hI hs;obtain⟨b,off,rfl,hbl,hc⟩:=h (by omega);obtain⟨c0,c1,c2,c3,c4⟩:=qav hc n hn;clear hc;go_enter Tryz.func183,Tryz.ntmps183;go_wp2_with fail;clear c0 c1 c2 c3 c4;go_loopw [5,17] (fun i j wx=> ∃k:Nat,k≤n∧j=.int .i64 (k:Int)∧i=.int .i64 ((qag l n).low+qgh l k v)∧Below w.heap.size w wx) (fun _ j _=>n-(intOf j).toNat)
 case atStart=>exact⟨0,by omega,rfl,by simp[qgh,qid],br⟩
 case round=>
  obtain⟨k,hk,rfl,rfl,hbx⟩:=hrel;have hvn:=qbz (qaq Hs.out hn);have hsm:=qig Hs.out (show k≤l.length by omega) h0 h1;obtain⟨s0,s1⟩:=hsm;obtain⟨n1,n2,n3,n4,n5⟩:=hvn;by_cases hkn:k<n
  ·obtain⟨b',off',e',hbl',hc⟩:=h.keep hbx (by omega);cases e'
   obtain⟨c0,c1,c2,c3,c4⟩:=qav hc k (by omega);clear hc;have hvk:=zhi (qaq Hs.out (show k<l.length by omega));have hd:=qh0 hvk.out false h0;obtain⟨d0,d1⟩:=hd;have hst:Hid (qgh l (k+1) v=qgh l k v+qnw (qag l k) v false):=rfl;go_wp2_with fail;refine(qkx (qag l k) v false _ hvk.out (by omega) (by omega)).mono ?_;rintro e w5 ⟨rfl,b5⟩;clear c0 c1 c2 c3 c4;go_wp2_with fail;go_roundw
   case rel=>exact⟨k+1,by omega,by go_num,by rw[hst.out];go_num,qaa (bal hbx _) b5⟩
   case measure=>simp[intOf];omega
  ·have hk':k=n:=by omega
   subst hk';go_wp2_with fail;go_ret;exact⟨rfl,hbx⟩
theorem qp6(A:ZA)(l:List Tk)(c n L I:Nat)(w:World)(h:TS w A l)(hs:qad l=true)(hn:n<l.length)(hlc:l.length≤c)
  (hL:w.heap[L]? =some (.cells #[.slice A l.length c] 23 (0,0))) (hI:w.heap[I]? =some (.cells #[.int .i64 (n:Int)] 3 (0,0))) (hLl:L<w.heap.size) (hIl:I<w.heap.size):
  Calls Tryz.prog 182 #[.int .i64 (qag l n).low,.int .i64 (qag l n).due,.func (.func 183) #[] #[.pointer (some ⟨L,0,none⟩),.pointer (some ⟨I,0,none⟩)]] w fun e w'=>e=.returned (qgb (qc4 l n))∧Below w.heap.size w w':=by
 have hv:=qaq hs hn;obtain⟨n1,n2,n3,n4,n5⟩:=qbz hv;have hl5:=(qaj hs).1;have Hs:=zhi hs;have HL:=zhi hL;have HI:=zhi hI;clear hL hI hs;go_enter Tryz.func182,Tryz.ntmps182;go_wp2_with fail;go_loopw [8] (fun i wr=> ∃v:Int,i=.int .i64 v∧(qag l n).low≤v∧v≤2020∧Hid (qc4 l n=qfd (qbl l n) v (qag l n).due)∧Hid (v≤qbl l n v)∧Below w.heap.size w wr) (fun i _=>((qag l n).due+1-intOf i).toNat)
 case atStart=>
  refine⟨_,rfl,Int.le_refl _,by omega,rfl,?_,br⟩;have:=qig Hs.out (show n≤l.length by omega) (show 0≤(qag l n).low by omega) (by omega);simp only[Hid,qbl];omega
 case round=>
  obtain⟨v,rfl,hv1,hv2,hR,hN,hb⟩:=hrel;by_cases hle:v≤(qag l n).due
  ·have hsm:=qig Hs.out (show n≤l.length by omega) (show 0≤v by omega) (by omega);have hnx:(qag l n).low+qgh l n v=qbl l n v:=rfl;have hN':=hN.out;have hb2:qbl l n v≤2020:=by rw[←hnx];omega
   clear hsm hnx;go_wp2_with fail;refine(qlr A l c n L I v _ (h.keep hb) Hs.out hn hlc (by omega) (by omega) ((hb.block _ hLl).trans HL.out) ((hb.block _ hIl).trans HI.out)).mono ?_;rintro e w5 ⟨rfl,b5⟩;have hbx:=qaa hb b5;by_cases hfix:qbl l n v=v
   ·have hfin:Hid (qc4 l n=some v):=by
     have:=hR.out;rw[qji hle hfix] at this;exact this
    have hfb:(qbl l n v==v)=true:=beq_iff_eq.2 hfix;have Hfix:=zhi hfix;clear hfix hN';go_wp2_with fail;go_ret2;exact⟨by rw[hfin.out];rfl,hbx⟩
   ·have hR2:Hid (qc4 l n=qfd (qbl l n) (qbl l n v) (qag l n).due):=by
     rw[Hid,hR.out];exact qie hle (by omega) fun a b hab=>qf0 Hs.out (by omega) hab
    have hN2:Hid (qbl l n v≤qbl l n (qbl l n v)):=qf0 Hs.out (by omega) hN';have hfb:(qbl l n v==v)=false:=beq_eq_false_iff_ne.2 hfix;go_wp2_with fail;go_roundw
    case rel=>exact⟨_,rfl,by omega,hb2,hR2,hN2,hbx⟩
    case measure=>simp[intOf];omega
  ·have hfin:Hid (qc4 l n=none):=by
    have:=hR.out;rw[qif (by omega)] at this;exact this
   go_wp2_with fail;go_ret2;exact⟨by rw[hfin.out];rfl,hb⟩
theorem qel(A:ZA)(l:List Tk)(c:Nat)(x:Int)(w:World)(h:TS w A l)(hlc:l.length≤c):
  Calls Tryz.prog 126 #[.slice A l.length c,.int .i64 x] w fun e w'=>e=.returned (qgb (qmh l x))∧Below w.heap.size w w':=by
 cases hP:plc l x with
 |false=>
  go_enter Tryz.func126,Tryz.ntmps126;go_wp2_with fail;refine(qbo A l c x _ (h.keep (bal (bal br _) _))).mono ?_;rw[hP];rintro e w1 ⟨rfl,b1⟩;go_wp2_with fail;go_ret2;exact⟨by simp[qmh,hP,qgb],qaa (bal (bal br _) _) b1⟩
 |true=>
  obtain⟨hs,hl5,hlt,hx⟩:=qc6 hP;have Hs:=zhi hs;have Hr:Hid (qmh l x=qc4 l x.toNat):=by simp[Hid,qmh,hP]
  obtain⟨n,rfl⟩: ∃n:Nat,x=(n:Int):=⟨_,hx⟩;rw[Int.toNat_natCast] at*;clear hx hs;go_enter Tryz.func126,Tryz.ntmps126;go_wp2_with fail;refine(qbo A l c _ _ (h.keep (bal (bal br _) _))).mono ?_;rw[hP];clear hP;rintro e w1 ⟨rfl,b1⟩;have hB1:=qaa (bal (bal (Below.refl w.heap.size w) _) _) b1;have hz1:=b1.size;simp only[World.size_alloc] at hz1;obtain⟨b,off,rfl,hbl,hc⟩:=h.keep hB1 (by omega);obtain⟨c0,c1,c2,c3,c4⟩:=qav hc n hlt;clear hc;have hL:w1.heap[w.heap.size]? =some (.cells #[.slice (some ⟨b,off,none⟩) l.length c] 23 (0,0)):=(b1.block _ (by simp;omega)).trans ((Below.heap_alloc _ _ _ (by simp)).trans (zha w _));have hI:w1.heap[w.heap.size+1]? =some (.cells #[.int .i64 (n:Int)] 3 (0,0)):=(b1.block _ (by simp)).trans (by have:=zha (w.alloc (.cells #[.slice (some ⟨b,off,none⟩) l.length c] 23 (0,0))) (.cells #[.int .i64 (n:Int)] 3 (0,0));rw[World.size_alloc] at this;exact this);have hx1:w.heap.size<w1.heap.size:=by omega
  have hx2:w.heap.size+1<w1.heap.size:=by omega
  have l0:=cell_of_one hL;have i0:=cell_of_one hI;have HL:=zhi hL;have HI:=zhi hI;clear hL hI;go_wp2_with fail;obtain⟨p,q,hro⟩: ∃p q,qgb (qc4 l n)=.tuple #[.int .i64 p,.bool q]:=by cases qc4 l n<;>exact⟨_,_,rfl⟩
  go_region_held3 (fun w'=>w'.cell? ⟨w.heap.size,0,none⟩=some (.slice (some ⟨b,off,none⟩) l.length c)∧w'.cell? ⟨w.heap.size+1,0,none⟩=some (.int .i64 (n:Int))∧w'.cell? ⟨b,off+n*5,none⟩=some (.int .i64 (qag l n).low)∧w'.cell? ⟨b,off+n*5+2,none⟩=some (.int .i64 (qag l n).due)∧Below w1.heap.size w1 w')
   ((first|exact⟨l0,i0,c0,c2,zdr br⟩|exact⟨(B5.cell (p:=⟨w.heap.size,0,none⟩) hx1).trans l0,(B5.cell (p:=⟨w.heap.size+1,0,none⟩) hx2).trans i0,(B5.cell (p:=⟨b,off+n*5,none⟩) hbl).trans c0,(B5.cell (p:=⟨b,off+n*5+2,none⟩) hbl).trans c2,B5⟩))
   (first
    |(go_at_call 182;refine(qp6 (some ⟨b,off,none⟩) l c n w.heap.size (w.heap.size+1) _ (h.keep (zdr hB1)) Hs.out hlt hlc HL.out HI.out hx1 hx2).mono ?_;rintro e w5 ⟨rfl,b5⟩;have B5:Below w1.heap.size w1 w5:=qaa (zdr br) b5;rw[hro]))
  go_wp2_with fail;go_ret2;exact⟨by rw[Hr.out,hro];simp,qaa hB1 B5⟩
theorem qjj(t:Tk)(b:Bool)(h:t.crit=b):(⟨t.low,t.high,t.due,t.every,b⟩:Tk)=t:=by subst h;rfl
theorem qmm{l:List Tk}(hs:qad l=true){n:Nat}(hn:n<l.length){r:Int}(h:qc4 l n=some r):(qag l n).low≤r∧r≤(qag l n).due:=by
 have hv:=qbz (qaq hs hn);have h0:=(qig hs (show n≤l.length by omega) (show 0≤(qag l n).low by omega) (by omega)).1;have:=(qq5 (fun a b hab=>qf0 hs (show n≤l.length by omega) hab) (by simp only[qbl];omega) r).1 h;exact⟨this.1,this.2.1⟩
theorem qls{l:List Tk}{x low:Int}(h:qmh l x=some low):plc l x=true∧qc4 l x.toNat=some low:=by
 unfold qmh at h;by_cases hp:plc l x=true
 ·rw[if_pos hp] at h;exact⟨hp,h⟩
 ·rw[if_neg hp] at h;cases h
theorem qsd{l:List Tk}{x:Int}(h:qmh l x=none):rSw l x=none:=by
 unfold rSw;by_cases hp:plc l x=true
 ·rw[if_pos hp];unfold qmh at h;rw[if_pos hp] at h;simp[qq7,h]
 ·rw[if_neg hp]
theorem qse{l:List Tk}{x low:Int}(h:qmh l x=some low):rSw l x=if(qag l x.toNat).crit then qfd (qbq l low x.toNat) (qag l x.toNat).high (qag l x.toNat).due else none:=by
 obtain⟨hp,hl⟩:=qls h;unfold rSw;rw[if_pos hp];simp[qq7,hl]
theorem qg2(A:ZA)(l:List Tk)(c:Nat)(x:Int)(w:World)(h:TS w A l)(hm:l.length≤maxLen):
  Calls Tryz.prog 150 #[.slice A l.length c,.int .i64 x] w fun e w'=>e=.returned (qgb (rSw l x))∧Below w.heap.size w w':=by
 cases hR0:qmh l x with
 |none=>
  rw[qsd hR0];go_enter Tryz.func150,Tryz.ntmps150;go_wp2_with fail;refine(qek A l c x _ h hm).mono ?_;rw[hR0];simp only[qgb];rintro e w1 ⟨rfl,b1⟩;go_wp2_with fail;go_ret2;exact⟨by simp[qgb],b1⟩
 |some low=>
  obtain⟨hP,hlow⟩:=qls hR0;obtain⟨hs,hl5,hlt,hx⟩:=qc6 hP;have hbd:=qmm hs hlt hlow;have Hs:=zhi hs;have Hr:=zhi (qse hR0);have HR0:=zhi hR0;clear hlow hR0;obtain⟨n,rfl⟩: ∃n:Nat,x=(n:Int):=⟨_,hx⟩;rw[Int.toNat_natCast] at*;clear hx hs hP;have hv:=qaq Hs.out hlt;obtain⟨n1,n2,n3,n4,n5⟩:=qbz hv;obtain⟨l1,l2⟩:=hbd;go_enter Tryz.func150,Tryz.ntmps150;go_wp2_with fail;refine(qek A l c n _ h hm).mono ?_;rw[HR0.out];simp only[qgb];rintro e w1 ⟨rfl,b1⟩;obtain⟨b,off,rfl,hbl,hc⟩:=h.keep b1 (by omega);obtain⟨c0,c1,c2,c3,c4⟩:=qav hc n hlt;clear hc;cases hcr:(qag l n).crit with
  |false=>
   rw[hcr] at c4;have Hr':Hid (rSw l n=none):=by rw[Hid,Hr.out,hcr];rfl
   go_wp2_with fail;go_ret2;exact⟨by rw[Hr'.out];rfl,b1⟩
  |true=>
   rw[hcr] at c4;have Hr':Hid (rSw l n=qfd (qbq l low n) (qag l n).high (qag l n).due):=by rw[Hid,Hr.out,hcr];rfl
   clear hcr;go_wp2_with fail;clear c0 c1 c2 c3 c4;go_loopw [8] (fun i wr=> ∃v:Int,i=.int .i64 v∧(qag l n).high≤v∧v≤2020∧Hid (rSw l n=qfd (qbq l low n) v (qag l n).due)∧Hid (v≤qbq l low n v)∧Below w.heap.size w wr) (fun i _=>((qag l n).due+1-intOf i).toNat)
   case atStart=>
    refine⟨_,rfl,Int.le_refl _,by omega,Hr'.out,?_,b1⟩;have:=qj6 Hs.out (show 0≤low by omega) (by omega) (show n≤l.length by omega) (show 0≤(qag l n).high by omega) (by omega);simp only[Hid,qbq];omega
   case round=>
    obtain⟨v,rfl,hv1,hv2,hR,hN,hb⟩:=hrel;obtain⟨b',off',e',hbl',hc⟩:=h.keep hb (by omega);cases e'
    obtain⟨c0,c1,c2,c3,c4⟩:=qav hc n hlt;clear hc;by_cases hle:v≤(qag l n).due
    ·go_wp2_with fail;clear c0 c1 c2 c3 c4;go_loopw [9,10] (fun i j wx=> ∃k:Nat,k≤n∧j=.int .i64 (k:Int)∧i=.int .i64 ((qag l n).high+qkh l low k v)∧Below w.heap.size w wx) (fun _ j _=>n-(intOf j).toNat)
     case atStart=>exact⟨0,by omega,rfl,by simp[qkh,qid],hb⟩
     case round=>
      obtain⟨k,hk,rfl,rfl,hbx⟩:=hrel;have hsm:=qj6 Hs.out (show 0≤low by omega) (by omega) (show k≤l.length by omega) (show 0≤v by omega) (by omega);obtain⟨s0,s1⟩:=hsm;by_cases hkn:k<n
      ·obtain⟨b',off',e',hbl',hc⟩:=h.keep hbx (by omega);cases e'
       obtain⟨c0,c1,c2,c3,c4⟩:=qav hc k (by omega);clear hc;have hvk:=zhi (qaq Hs.out (show k<l.length by omega));have hst:Hid (qkh l low (k+1) v=qkh l low k v+qf9 (qag l k) low v):=rfl;cases hck:(qag l k).crit with
       |true=>
        have hd:=qh0 hvk.out true (show 0≤v by omega);obtain⟨d0,d1⟩:=hd;have hsd:Hid (qf9 (qag l k) low v=qnw (qag l k) v true):=by simp[Hid,qf9,hck]
        rw[hck] at c4;have Hck:=zhi hck;clear hck;go_wp2_with fail;refine(qiu ⟨(qag l k).low,(qag l k).high,(qag l k).due,(qag l k).every,true⟩ v true _ (by rw[qjj _ _ Hck.out];exact hvk.out) (by omega) (by omega)).mono ?_;rw[qjj _ _ Hck.out];rintro e w5 ⟨rfl,b5⟩;clear c0 c1 c2 c3 c4;go_wp2_with fail;go_roundw
        case rel=>exact⟨k+1,by omega,by go_num,by rw[hst.out,hsd.out];go_num,qaa hbx b5⟩
        case measure=>simp[intOf];omega
       |false=>
        have hd:=qh0 hvk.out false (show 0≤low by omega);obtain⟨d0,d1⟩:=hd;have hsd:Hid (qf9 (qag l k) low v=qnw (qag l k) low false):=by simp[Hid,qf9,hck]
        rw[hck] at c4;have Hck:=zhi hck;clear hck;go_wp2_with fail;refine(qiu ⟨(qag l k).low,(qag l k).high,(qag l k).due,(qag l k).every,false⟩ low false _ (by rw[qjj _ _ Hck.out];exact hvk.out) (by omega) (by omega)).mono ?_;rw[qjj _ _ Hck.out];rintro e w5 ⟨rfl,b5⟩;clear c0 c1 c2 c3 c4;go_wp2_with fail;go_roundw
        case rel=>exact⟨k+1,by omega,by go_num,by rw[hst.out,hsd.out];go_num,qaa hbx b5⟩
        case measure=>simp[intOf];omega
      ·have hk':k=n:=by omega
       subst hk';have hnx:(qag l k).high+qkh l low k v=qbq l low k v:=rfl;have hN':=hN.out;rw[hnx];have hb2:qbq l low k v≤2020:=by rw[←hnx];omega
       clear s0 s1;have Hnx:=zhi hnx;clear hnx;by_cases hfix:qbq l low k v=v
       ·have hfin:Hid (rSw l k=some v):=by
         have:=hR.out;rw[qji hle hfix] at this;exact this
        have hfb:(qbq l low k v==v)=true:=beq_iff_eq.2 hfix;have Hfix:=zhi hfix;clear hfix hN';go_wp2_with fail;go_ret2;exact⟨by rw[hfin.out];rfl,hbx⟩
       ·have hR2:Hid (rSw l k=qfd (qbq l low k) (qbq l low k v) (qag l k).due):=by
         rw[Hid,hR.out];exact qie hle (by omega) fun a b hab=>qg1 Hs.out low (by omega) hab
        have hN2:Hid (qbq l low k v≤qbq l low k (qbq l low k v)):=qg1 Hs.out low (by omega) hN';have hfb:(qbq l low k v==v)=false:=beq_eq_false_iff_ne.2 hfix;go_wp2_with fail;go_roundw
        case rel=>exact⟨_,rfl,by omega,hb2,hR2,hN2,hbx⟩
        case measure=>simp[intOf];omega
    ·have hfin:Hid (rSw l n=none):=by
      have:=hR.out;rw[qif (by omega)] at this;exact this
     go_wp2_with fail;go_ret2;exact⟨by rw[hfin.out];rfl,hb⟩
theorem qjk(A:ZA)(l:List Tk)(c n L I W:Nat)(v low:Int)(w:World)(h:TS w A l)(hs:qad l=true)(hn:n<l.length)(hlc:l.length≤c)(h0:0≤v)(h1:v≤20)(hl0:0≤low)(hl1:low≤20)
  (hL:w.heap[L]? =some (.cells #[.slice A l.length c] 23 (0,0))) (hI:w.heap[I]? =some (.cells #[.int .i64 (n:Int)] 3 (0,0))) (hW:w.heap[W]? =some (.cells #[.int .i64 low] 3 (0,0))) (hWl:W<w.heap.size):
  Calls Tryz.prog 185 #[.int .i64 v,.pointer (some ⟨L,0,none⟩),.pointer (some ⟨I,0,none⟩),.pointer (some ⟨W,0,none⟩)] w fun e w'=>e=.returned (.int .i64 (qbq l low n v))∧Below w.heap.size w w':=by
 have hl5:=(qaj hs).1;have Hs:=zhi hs;have HW:=zhi hW;have l0:=cell_of_one hL;have i0:=cell_of_one hI;clear hL hI hs hW;obtain⟨b,off,rfl,hbl,hc⟩:=h (by omega);obtain⟨c0,c1,c2,c3,c4⟩:=qav hc n hn;clear hc;go_enter Tryz.func185,Tryz.ntmps185;go_wp2_with fail;clear c0 c1 c2 c3 c4;go_loopw [6,18] (fun i j wx=> ∃k:Nat,k≤n∧j=.int .i64 (k:Int)∧i=.int .i64 ((qag l n).high+qkh l low k v)∧Below w.heap.size w wx) (fun _ j _=>n-(intOf j).toNat)
 case atStart=>exact⟨0,by omega,rfl,by simp[qkh,qid],br⟩
 case round=>
  obtain⟨k,hk,rfl,rfl,hbx⟩:=hrel;have hvn:=qbz (qaq Hs.out hn);have hsm:=qj6 Hs.out hl0 hl1 (show k≤l.length by omega) h0 h1;obtain⟨s0,s1⟩:=hsm;obtain⟨n1,n2,n3,n4,n5⟩:=hvn;by_cases hkn:k<n
  ·obtain⟨b',off',e',hbl',hc⟩:=h.keep hbx (by omega);cases e'
   obtain⟨c0,c1,c2,c3,c4⟩:=qav hc k (by omega);clear hc;have hzx:=hbx.size;have hWr:W<wr.heap.size:=by omega
   have hWn:W≠wr.heap.size:=by omega
   have wc:=cell_of_one ((hbx.block _ hWl).trans HW.out);have hvk:=zhi (qaq Hs.out (show k<l.length by omega));have hst:Hid (qkh l low (k+1) v=qkh l low k v+qf9 (qag l k) low v):=rfl;cases hck:(qag l k).crit with
   |true=>
    have hd:=qh0 hvk.out true h0;obtain⟨d0,d1⟩:=hd;have hsd:Hid (qf9 (qag l k) low v=qnw (qag l k) v true):=by simp[Hid,qf9,hck]
    rw[hck] at c4;have Hck:=zhi hck;clear hck;go_wp2_with fail;refine(qkx ⟨(qag l k).low,(qag l k).high,(qag l k).due,(qag l k).every,true⟩ v true _ (by rw[qjj _ _ Hck.out];exact hvk.out) (by omega) (by omega)).mono ?_;rw[qjj _ _ Hck.out];rintro e w5 ⟨rfl,b5⟩;clear c0 c1 c2 c3 c4;go_wp2_with fail;go_roundw
    case rel=>exact⟨k+1,by omega,by go_num,by rw[hst.out,hsd.out];go_num,qaa (bal hbx _) b5⟩
    case measure=>simp[intOf];omega
   |false=>
    have hd:=qh0 hvk.out false hl0;obtain⟨d0,d1⟩:=hd;have hsd:Hid (qf9 (qag l k) low v=qnw (qag l k) low false):=by simp[Hid,qf9,hck]
    rw[hck] at c4;have Hck:=zhi hck;clear hck;go_wp2_with fail;refine(qkx ⟨(qag l k).low,(qag l k).high,(qag l k).due,(qag l k).every,false⟩ low false _ (by rw[qjj _ _ Hck.out];exact hvk.out) (by omega) (by omega)).mono ?_;rw[qjj _ _ Hck.out];rintro e w5 ⟨rfl,b5⟩;clear c0 c1 c2 c3 c4;go_wp2_with fail;go_roundw
    case rel=>exact⟨k+1,by omega,by go_num,by rw[hst.out,hsd.out];go_num,qaa (bal hbx _) b5⟩
    case measure=>simp[intOf];omega
  ·have hk':k=n:=by omega
   subst hk';go_wp2_with fail;go_ret;exact⟨rfl,hbx⟩
theorem qsf(A:ZA)(l:List Tk)(c n L I W:Nat)(low:Int)(w:World)(h:TS w A l)(hs:qad l=true)(hn:n<l.length)(hlc:l.length≤c)(hl0:0≤low)(hl1:low≤20)
  (hL:w.heap[L]? =some (.cells #[.slice A l.length c] 23 (0,0))) (hI:w.heap[I]? =some (.cells #[.int .i64 (n:Int)] 3 (0,0))) (hW:w.heap[W]? =some (.cells #[.int .i64 low] 3 (0,0))) (hLl:L<w.heap.size) (hIl:I<w.heap.size) (hWl:W<w.heap.size):
  Calls Tryz.prog 182 #[.int .i64 (qag l n).high,.int .i64 (qag l n).due,.func (.func 185) #[] #[.pointer (some ⟨L,0,none⟩),.pointer (some ⟨I,0,none⟩),.pointer (some ⟨W,0,none⟩)]] w fun e w'=>e=.returned (qgb (qfd (qbq l low n) (qag l n).high (qag l n).due))∧Below w.heap.size w w':=by
 have hv:=qaq hs hn;obtain⟨n1,n2,n3,n4,n5⟩:=qbz hv;have hl5:=(qaj hs).1;have Hs:=zhi hs;have HL:=zhi hL;have HI:=zhi hI;have HW:=zhi hW;clear hL hI hW hs;obtain⟨R,hRR⟩: ∃R,qfd (qbq l low n) (qag l n).high (qag l n).due=R:=⟨_,rfl⟩;rw[hRR];have HRR:=zhi hRR;clear hRR;go_enter Tryz.func182,Tryz.ntmps182;go_wp2_with fail;go_loopw [8] (fun i wr=> ∃v:Int,i=.int .i64 v∧(qag l n).high≤v∧v≤2020∧Hid (R=qfd (qbq l low n) v (qag l n).due)∧Hid (v≤qbq l low n v)∧Below w.heap.size w wr) (fun i _=>((qag l n).due+1-intOf i).toNat)
 case atStart=>
  refine⟨_,rfl,Int.le_refl _,by omega,HRR.out.symm,?_,br⟩;have:=qj6 Hs.out hl0 hl1 (show n≤l.length by omega) (show 0≤(qag l n).high by omega) (by omega);simp only[Hid,qbq];omega
 case round=>
  obtain⟨v,rfl,hv1,hv2,hR,hN,hb⟩:=hrel;by_cases hle:v≤(qag l n).due
  ·have hsm:=qj6 Hs.out hl0 hl1 (show n≤l.length by omega) (show 0≤v by omega) (by omega);have hnx:(qag l n).high+qkh l low n v=qbq l low n v:=rfl;have hN':=hN.out;have hb2:qbq l low n v≤2020:=by rw[←hnx];omega
   clear hsm hnx;go_wp2_with fail;refine(qjk A l c n L I W v low _ (h.keep hb) Hs.out hn hlc (by omega) (by omega) hl0 hl1 ((hb.block _ hLl).trans HL.out) ((hb.block _ hIl).trans HI.out) ((hb.block _ hWl).trans HW.out) (zlt hWl hb.size)).mono ?_;rintro e w5 ⟨rfl,b5⟩;have hbx:=qaa hb b5;by_cases hfix:qbq l low n v=v
   ·have hfin:Hid (R=some v):=by
     have:=hR.out;rw[qji hle hfix] at this;exact this
    have hfb:(qbq l low n v==v)=true:=beq_iff_eq.2 hfix;have Hfix:=zhi hfix;clear hfix hN';go_wp2_with fail;go_ret2;exact⟨by rw[hfin.out];rfl,hbx⟩
   ·have hR2:Hid (R=qfd (qbq l low n) (qbq l low n v) (qag l n).due):=by
     rw[Hid,hR.out];exact qie hle (by omega) fun a b hab=>qg1 Hs.out low (by omega) hab
    have hN2:Hid (qbq l low n v≤qbq l low n (qbq l low n v)):=qg1 Hs.out low (by omega) hN';have hfb:(qbq l low n v==v)=false:=beq_eq_false_iff_ne.2 hfix;go_wp2_with fail;go_roundw
    case rel=>exact⟨_,rfl,by omega,hb2,hR2,hN2,hbx⟩
    case measure=>simp[intOf];omega
  ·have hfin:Hid (R=none):=by
    have:=hR.out;rw[qif (by omega)] at this;exact this
   go_wp2_with fail;go_ret2;exact⟨by rw[hfin.out];rfl,hb⟩
theorem qg3(A:ZA)(l:List Tk)(c:Nat)(x:Int)(w:World)(h:TS w A l)(hlc:l.length≤c):
  Calls Tryz.prog 127 #[.slice A l.length c,.int .i64 x] w fun e w'=>e=.returned (qgb (rSw l x))∧Below w.heap.size w w':=by
 cases hR0:qmh l x with
 |none=>
  rw[qsd hR0];go_enter Tryz.func127,Tryz.ntmps127;go_wp2_with fail;refine(qel A l c x _ (h.keep (bal (bal br _) _)) hlc).mono ?_;rw[hR0];simp only[qgb];rintro e w1 ⟨rfl,b1⟩;go_wp2_with fail;go_ret2;exact⟨by simp[qgb],bal (qaa (bal (bal br _) _) b1) _⟩
 |some low=>
  obtain⟨hP,hlow⟩:=qls hR0;obtain⟨hs,hl5,hlt,hx⟩:=qc6 hP;have hbd:=qmm hs hlt hlow;have Hs:=zhi hs;have Hr:=zhi (qse hR0);have HR0:=zhi hR0;clear hlow hR0;obtain⟨n,rfl⟩: ∃n:Nat,x=(n:Int):=⟨_,hx⟩;rw[Int.toNat_natCast] at*;clear hx hs hP;have hv:=qaq Hs.out hlt;obtain⟨n1,n2,n3,n4,n5⟩:=qbz hv;obtain⟨l1,l2⟩:=hbd;go_enter Tryz.func127,Tryz.ntmps127;go_wp2_with fail;refine(qel A l c n _ (h.keep (bal (bal br _) _)) hlc).mono ?_;rw[HR0.out];simp only[qgb];rintro e w1 ⟨rfl,b1⟩;have hB1:=qaa (bal (bal (Below.refl w.heap.size w) _) _) b1;have hz1:=b1.size;simp only[World.size_alloc] at hz1;obtain⟨b,off,rfl,hbl,hc⟩:=h.keep hB1 (by omega);obtain⟨c0,c1,c2,c3,c4⟩:=qav hc n hlt;clear hc;have hL:w1.heap[w.heap.size]? =some (.cells #[.slice (some ⟨b,off,none⟩) l.length c] 23 (0,0)):=(b1.block _ (by simp;omega)).trans ((Below.heap_alloc _ _ _ (by simp)).trans (zha w _));have hI:w1.heap[w.heap.size+1]? =some (.cells #[.int .i64 (n:Int)] 3 (0,0)):=(b1.block _ (by simp)).trans (by have:=zha (w.alloc (.cells #[.slice (some ⟨b,off,none⟩) l.length c] 23 (0,0))) (.cells #[.int .i64 (n:Int)] 3 (0,0));rw[World.size_alloc] at this;exact this);have hx1:w.heap.size<w1.heap.size:=by omega
  have hx2:w.heap.size+1<w1.heap.size:=by omega
  have l0:=cell_of_one hL;have i0:=cell_of_one hI;have HL:=zhi hL;have HI:=zhi hI;clear hL hI;cases hcr:(qag l n).crit with
  |false=>
   rw[hcr] at c4;have Hr':Hid (rSw l n=none):=by rw[Hid,Hr.out,hcr];rfl
   go_wp2_with fail;go_ret2;exact⟨by rw[Hr'.out];rfl,bal hB1 _⟩
  |true=>
   rw[hcr] at c4;have Hr':Hid (rSw l n=qfd (qbq l low n) (qag l n).high (qag l n).due):=by rw[Hid,Hr.out,hcr];rfl
   clear hcr;go_wp2_with fail;have hB2:Below w.heap.size w (w1.alloc (.cells #[.int .i64 low] 3 (0,0))):=bal hB1 _;have hL2:=(Below.heap_alloc w1 (.cells #[.int .i64 low] 3 (0,0)) _ hx1).trans HL.out;have hI2:=(Below.heap_alloc w1 (.cells #[.int .i64 low] 3 (0,0)) _ hx2).trans HI.out;have hW2:=zha w1 (.cells #[.int .i64 low] 3 (0,0));have hz2:(w1.alloc (.cells #[.int .i64 low] 3 (0,0))).heap.size=w1.heap.size+1:=World.size_alloc _ _;obtain⟨b2,off2,e2,hbl2,hc2⟩:=h.keep hB2 (by omega);cases e2
   clear l0 i0 c0 c1 c2 c3 c4;generalize World.alloc w1 _=w2 at*;obtain⟨c0,c1,c2,c3,c4⟩:=qav hc2 n hlt;clear hc2;have hy1:w.heap.size<w2.heap.size:=by omega
   have hy2:w.heap.size+1<w2.heap.size:=by omega
   have hy3:w1.heap.size<w2.heap.size:=by omega
   have l0:=cell_of_one hL2;have i0:=cell_of_one hI2;have HL2:=zhi hL2;have HI2:=zhi hI2;have HW2:=zhi hW2;have Hz2:=zhi hz2;clear hL2 hI2 hW2 hz2;obtain⟨p,q,hro⟩: ∃p q,qgb (qfd (qbq l low n) (qag l n).high (qag l n).due)=.tuple #[.int .i64 p,.bool q]:=by cases qfd (qbq l low n) (qag l n).high (qag l n).due<;>exact⟨_,_,rfl⟩
   go_region_held3 (fun w'=>w'.cell? ⟨w.heap.size,0,none⟩=some (.slice (some ⟨b,off,none⟩) l.length c)∧w'.cell? ⟨w.heap.size+1,0,none⟩=some (.int .i64 (n:Int))∧w'.cell? ⟨b,off+n*5+1,none⟩=some (.int .i64 (qag l n).high)∧w'.cell? ⟨b,off+n*5+2,none⟩=some (.int .i64 (qag l n).due)∧Below w2.heap.size w2 w')
    ((first|exact⟨l0,i0,c1,c2,zdr br⟩|exact⟨(B5.cell (p:=⟨w.heap.size,0,none⟩) hy1).trans l0,(B5.cell (p:=⟨w.heap.size+1,0,none⟩) hy2).trans i0,(B5.cell (p:=⟨b,off+n*5+1,none⟩) hbl2).trans c1,(B5.cell (p:=⟨b,off+n*5+2,none⟩) hbl2).trans c2,B5⟩))
    (first
     |(go_at_call 182;refine(qsf (some ⟨b,off,none⟩) l c n w.heap.size (w.heap.size+1) w1.heap.size low _ (h.keep (zdr hB2)) Hs.out hlt hlc (by omega) (by omega) HL2.out HI2.out HW2.out hy1 hy2 hy3).mono ?_;rintro e w5 ⟨rfl,b5⟩;have B5:Below w2.heap.size w2 w5:=qaa (zdr br) b5;rw[hro]))
   go_wp2_with fail;go_ret2;exact⟨by rw[Hr'.out,hro];simp,qaa hB2 B5⟩
theorem qgc(w:World){ops:Array Oper}{rest:List Oper}{o:Oper}{a:Act}{Q:Exit→Act→World→Prop}(hgd:o.guard=none)(s x:Operand)
  (ho:o.op=.call {callee:=.builtin .append,args:=#[s,x],argTypes:=#[23,23]})
  (base:Nat) (A:ZA) (l:List Tk) (c:Nat) (hs:a.eval s=.slice A l.length c) (hown:OT base w A c l)
  (ad:Addr) (c1:Nat) (m:List Tk) (hx:a.eval x=.slice (some ad) m.length c1) (hm:TS w (some ad) m)
  (hl:l.length≤2000000) (hlm:m.length≤2000000) (hbase:base≤w.heap.size)
  (h: ∀A' c' w',OT base w' A' c' (l++m)→w.grownBy w' (Value.slice A l.length c).ownBlock→Below base w w'→wpList Tryz.prog ops Q rest (a.put o.dst (.slice A' (l.length+m.length) c')) w'):wpList Tryz.prog ops Q (o::rest) a w:=by
 obtain⟨i0,hi,hz0,hz1,hz2⟩:=info_parts qjg
 refine wpList_append_own w hgd s x 23 ho base 58 i0 _ 5 40 Tryz.underlying23 hi hz0 hz1 hz2 rfl (by decide) (.slice A l.length c) l.length (qeg l) hs hown
  ad m.length c1 (qeg m) hx (by rw[qcx,Nat.mul_comm]) ?_ ?_ (by unfold maxLen;omega) (by omega) hbase ?_
 ·intro j u hj
  have hpos:0<m.length:=by
   have:=(List.getElem?_eq_some_iff.1 hj).1;rw[qcx] at this;omega
  obtain⟨b,off,hA,_,hc⟩:=hm hpos;cases hA
  rw[Go.WideShapes.add_plain];exact hc j u hj
 ·intro u hu;simp only[qeg,List.mem_flatMap,Tk.cells,List.mem_cons,List.not_mem_nil,or_false] at hu;obtain⟨t,_,rfl|rfl|rfl|rfl|rfl⟩:=hu<;>rfl
 ·intro v' w' hown' hg _;obtain⟨A',c',rfl⟩:=qeh hown';refine h A' c' w' ?_ hg (qb0 hown hg hbase);unfold OT;rw[List.length_append,qgw];exact hown'
theorem qjl(w:World){ops:Array Oper}{rest:List Oper}{o:Oper}{a:Act}{Q:Exit→Act→World→Prop}(hgd:o.guard=none)(s x:Operand)
  (ho:o.op=.call {callee:=.builtin .append,args:=#[s,x],argTypes:=#[27,27]})
  (base:Nat) (A:ZA) (l:List Int) (c:Nat) (hs:a.eval s=.slice A l.length c) (hown:OI base w A c l)
  (ad:Addr) (c1:Nat) (m:List Int) (hx:a.eval x=.slice (some ad) m.length c1) (hm:IS w (some ad) m)
  (hl:l.length≤2000000) (hlm:m.length≤2000000) (hbase:base≤w.heap.size)
  (h: ∀A' c' w',OI base w' A' c' (l++m)→w.grownBy w' (Value.slice A l.length c).ownBlock→Below base w w'→wpList Tryz.prog ops Q rest (a.put o.dst (.slice A' (l.length+m.length) c')) w'):wpList Tryz.prog ops Q (o::rest) a w:=by
 obtain⟨i0,hi,hz0,hz1,hz2⟩:=info_parts qfp
 refine wpList_append_own w hgd s x 27 ho base 3 i0 _ 1 8 Tryz.underlying27 hi hz0 hz1 hz2 rfl (by decide) (.slice A l.length c) l.length (l.map (.int .i64)) hs hown
  ad m.length c1 (m.map (.int .i64)) hx (by simp) ?_ ?_ (by unfold maxLen;omega) (by omega) hbase ?_
 ·intro j u hj;rw[List.getElem?_map] at hj;obtain⟨y,hy,rfl⟩:=Option.map_eq_some_iff.1 hj
  have hpos:0<m.length:=by
   have:=(List.getElem?_eq_some_iff.1 hy).1;omega
  obtain⟨b,off,hA,_,hc⟩:=hm hpos;cases hA
  rw[Go.WideShapes.add_plain];exact hc j y hy
 ·intro u hu;obtain⟨y,_,rfl⟩:=List.mem_map.1 hu;rfl
 ·intro v' w' hown' hg _;obtain⟨A',c',rfl⟩:=qeh hown';refine h A' c' w' ?_ hg (qb0 hown hg hbase);unfold OI;rw[List.length_append,List.map_append];exact hown'
theorem q5z{w:World}{l:List Tk}(h:TS w none l):l=[]:=by
 cases l with
 |nil=>rfl
 |cons t l=>obtain⟨b,off,hA,_⟩:=h (by simp);cases hA
theorem q50{w:World}{l:List Int}(h:IS w none l):l=[]:=by
 cases l with
 |nil=>rfl
 |cons t l=>obtain⟨b,off,hA,_⟩:=h (by simp);cases hA
theorem qcu(A:ZA)(l:List Tk)(c:Nat)(w:World)(h:TS w A l)(hl:l.length≤2000000):
  Calls Tryz.prog 172 #[.slice A l.length c] w (q3d w l):=by
 have hnil:=Lib.run_eql_slice_nil (P:=Tryz.prog) (t:=23) (e:=58) (a:=A) (n:=l.length) (c:=c) (n':=0) (c':=0) (h:=Tryz.underlying23);cases A with
 |none=>
  have e:=q5z h;subst e;simp only[List.length_nil,Option.isNone_none] at hnil⊢;clear h hl;go_enter Tryz.func172,Tryz.ntmps172;go_wp2_with fail;go_ret;exact⟨none,0,rfl,qhn _ _,br⟩
 |some ad=>
  simp only[Option.isNone_some] at hnil;go_enter Tryz.func172,Tryz.ntmps172;go_wp2_with (at_builtin;refine qgc _ rfl _ _ rfl w.heap.size (some ⟨w.heap.size,0,none⟩) [] 0 rfl (qa7 w _ (zlr _)) ad c l rfl (h.keep (bal br _)) (by simp) (by omega) (by simp) ?_;intro A' c' w1 o1 g1 b1;rw[List.nil_append] at o1)
  have B1:Below w.heap.size w w1:=(bal br _).trans b1;go_wp2_with fail;go_ret;exact⟨A',c',rfl,o1,B1⟩
def qvu:List Value→Nat→List Value→List Value
 |xs,_,[]=>xs
 |xs,o,v::r=>qvu (xs.set o v) (o+1) r
theorem qiv(xs:List Value)(o:Nat)(vs:List Value):(qvu xs o vs).length=xs.length:=by
 induction vs generalizing xs o with
 |nil=>rfl
 |cons v r ih=>rw[qvu,ih,List.length_set]
theorem q0h(xs:List Value)(o:Nat)(vs:List Value)(j:Nat)(h:o+vs.length≤xs.length):(qvu xs o vs)[j]? =if o≤j∧j<o+vs.length then vs[j-o]? else xs[j]? :=by
 induction vs generalizing xs o with
 |nil=>rw[qvu,if_neg (by simp only[List.length_nil];omega)]
 |cons v r ih=>
  simp only[List.length_cons] at h;rw[qvu,ih (xs.set o v) (o+1) (by rw[List.length_set];omega)];simp only[List.length_cons];by_cases h1:j=o
  ·subst h1;rw[if_neg (by omega),if_pos (by omega),Nat.sub_self,List.getElem?_set_self (by omega)];rfl
  ·by_cases h2:o+1≤j∧j<o+1+r.length
   ·rw[if_pos h2,if_pos (by omega),show j-o=(j-(o+1))+1 by omega];simp
   ·rw[if_neg h2,if_neg (by omega),List.getElem?_set_ne (by omega)]
theorem qf2{base:Nat}{t:TypeId}{size g n cap:Nat}: ∀(vs:List Value) (o:Nat) {w:World} {xs:List Value},w.ownsRow base t size (.slice (some ⟨g,0,none⟩) n cap) n xs→(w.setCells g o vs).ownsRow base t size (.slice (some ⟨g,0,none⟩) n cap) n (qvu xs o vs)
 |[],_,_,_,h=>h
 |v::r,o,_,_,h=>qf2 r (o+1) (h.stored o v).1
theorem qg4{g:Nat}: ∀(vs:List Value) (o:Nat) {a w:World},a.grownBy w (some g)→a.grownBy (w.setCells g o vs) (some g)
 |[],_,_,_,h=>h
 |v::r,o,a,w,h=>qg4 r (o+1) (a:=a) (w:=w.setCell ⟨g,o,none⟩ v) ⟨h.os,h.tape,h.output,by simp[World.setCell];exact h.size,fun i hi hne=>(Below.heap_setCell w _ v i (fun e=>hne (by rw[e]))).trans (h.block i hi hne)⟩
theorem qtx(l:List Tk)(k:Nat)(hk:k≤l.length):(qeg l).drop (k*5)=qeg (l.drop k):=by
 have e:qeg l=qeg (l.take k)++qeg (l.drop k):=by rw[←qgw,List.take_append_drop]
 rw[e,List.drop_left' (by rw[qcx,List.length_take];omega)]
theorem qq9(l:List Tk): ∀u∈qeg l,u.oneCell'=true:=by
 intro u hu;simp only[qeg,List.mem_flatMap,Tk.cells,List.mem_cons,List.not_mem_nil,or_false] at hu;obtain⟨t,_,rfl|rfl|rfl|rfl|rfl⟩:=hu<;>rfl
theorem qty(xs:List Value)(o:Nat)(vs:List Value)(h:o+vs.length≤xs.length):(qvu xs o vs).take (o+vs.length)=xs.take o++vs:=by
 apply List.ext_getElem?
 intro j;by_cases hj:j<o+vs.length
 ·rw[List.getElem?_take_of_lt hj,q0h xs o vs j h];by_cases h1:o≤j
  ·rw[if_pos ⟨h1,hj⟩,List.getElem?_append_right (by simp;omega)];congr 1
   simp;omega
  ·rw[if_neg (by omega),List.getElem?_append_left (by simp;omega),List.getElem?_take_of_lt (by omega)]
 ·rw[List.getElem?_eq_none (by simp;omega),List.getElem?_eq_none (by simp;omega)]
theorem qnl(xs:List Value)(o n:Nat)(vs:List Value)(h:o+vs.length≤xs.length)(hn:n≤o):(qvu xs o vs).take n=xs.take n:=by
 apply List.ext_getElem?
 intro j;by_cases hj:j<n
 ·rw[List.getElem?_take_of_lt hj,q0h xs o vs j h,if_neg (by omega),List.getElem?_take_of_lt hj]
 ·rw[List.getElem?_eq_none (by simp;omega),List.getElem?_eq_none (by simp;omega)]
theorem qkl(l:List Tk)(k:Nat):l.eraseIdx k=l.take k++l.drop (k+1):=List.eraseIdx_eq_take_drop_succ l k
theorem qy6(l:List Tk)(k:Nat)(hk:k<l.length)(z:List Value)(hz:z.length=5):
  (qvu (qvu (qeg l) (k*5) (qeg (l.drop (k+1)))) ((l.length-1)*5) z).take ((l.length-1)*5)=qeg (l.eraseIdx k):=by
 have hl:=qcx l;have hd:(qeg (l.drop (k+1))).length=(l.length-1-k)*5:=by rw[qcx,List.length_drop];omega
 rw[qnl _ _ _ _ (by rw[qiv];omega) (zlr _)];have e:(l.length-1)*5=k*5+(qeg (l.drop (k+1))).length:=by rw[hd];omega
 rw[e,qty _ _ _ (by omega),qto,←qgw,←qkl]
theorem qp7(w:World)(ty:TypeId)(b o c:Nat)(hc: ∀j,j<5→(w.cell? ⟨b,o+j,none⟩).isSome=true)(hf: ∀j,j<5→w.frozen? ⟨b,o+j,none⟩=false):
  (Builtin.clear_ #[23] ty #[.slice (some ⟨b,o,none⟩) 1 c]).run Tryz.prog w=.ok (.tuple #[]) (w.setCells b o [.int .i64 0,.int .i64 0,.int .i64 0,.int .i64 0,.bool false]):=by
 have hzc:(Builtin.zeroCells (Value.agg #[.int .i64 0,.int .i64 0,.int .i64 0,.int .i64 0,.bool false]).cells 1).toList=[.int .i64 0,.int .i64 0,.int .i64 0,.int .i64 0,.bool false]:=by kernel_rfl
 have hst:=run_storeCells_cells (P:=Tryz.prog) b o [.int .i64 0,.int .i64 0,.int .i64 0,.int .i64 0,.bool false] 0 w (by simpa using hc) (by simpa using hf) (by intro v hv;simp at hv;rcases hv with rfl|rfl<;>rfl);have hv: ∀w,(zeroValue 58).run Tryz.prog w=.ok (.agg #[.int .i64 0,.int .i64 0,.int .i64 0,.int .i64 0,.bool false]) w:=fun _=>by kernel_rfl
 simp only[Nat.add_zero] at hst;simp[Builtin.clear_,run_underlying Tryz.underlying23,hv,hzc,hst]
theorem qfq(base b c k:Nat)(l:List Tk)(w:World)(h:OT base w (some ⟨b,0,none⟩) c l)(hk:k<l.length)(hl:l.length≤2000000):
  Calls Tryz.prog 191 #[.slice (some ⟨b,0,none⟩) l.length c,.int .i64 (k:Int),.int .i64 ((k:Int)+1)] w fun e w'=>
   e=.returned (.slice (some ⟨b,0,none⟩) (l.eraseIdx k).length c)∧OT base w' (some ⟨b,0,none⟩) c (l.eraseIdx k)∧w.grownBy w' (some b):=by
 have hlen:(l.eraseIdx k).length=l.length-1:=List.length_eraseIdx_of_lt hk;have hsz:=qao h;obtain⟨hsz1,hsz2⟩:=hsz;unfold maxLen at hsz2;have hx:=h.1;obtain⟨i0,hi0,hz0,hz1,hz2⟩:=info_parts qjg;have hcell: ∀(j:Nat),j<l.length*5→w.cell? ⟨b,j,none⟩=(qeg l)[j]? :=fun j hj=>h.cellAt _ (by omega)
 have hfro: ∀j,w.frozen? ⟨b,j,none⟩=false:=fun j=>h.frozenAt j
 obtain⟨news,hnews⟩: ∃news,news=qeg (l.drop (k+1)):=⟨_,rfl⟩;have hnl:news.length=(l.length-(k+1))*5:=by rw[hnews,qcx,List.length_drop];omega
 obtain⟨A,hA,hsrc⟩: ∃A:Addr,(if c=k+1 then(some (⟨b,0,none⟩:Addr)) else some ⟨b,(k+1)*5,none⟩)=some A∧Hid (∀t u,news[t]? =some u→w.drew.cell? (A.add t)=some u):=by
  by_cases h1:c=k+1
  ·refine⟨⟨b,0,none⟩,by simp[h1],fun t u hu=>?_⟩;have h0:news.length=0:=by rw[hnl];omega
   rw[List.length_eq_zero_iff.1 h0] at hu;simp at hu
  ·refine⟨⟨b,(k+1)*5,none⟩,by simp[h1],fun t u hu=>?_⟩
   have ht:t<(l.length-(k+1))*5:=by
    have:=(List.getElem?_eq_some_iff.1 hu).1;rwa [hnl] at this
   rw[Go.WideShapes.add_plain];show w.cell? _=_;rw[hcell _ (by omega),←hu,hnews,←qtx l (k+1) (by omega),List.getElem?_drop]
 have s1:Hid (news.length=(l.length-(k+1))*5):=hnl;have s2:Hid (∀u∈news,u.oneCell'=true):=by rw[hnews];exact qq9 _
 have s3:Hid (∀t,t<news.length→(w.drew.cell? ⟨b,0+k*5+t,none⟩).isSome=true∧w.drew.frozen? ⟨b,0+k*5+t,none⟩=false):=by
  intro t ht;rw[hnl] at ht;refine⟨?_,hfro _⟩;show(w.cell? _).isSome=true;rw[hcell _ (by omega),List.getElem?_eq_getElem (by omega)];rfl
 obtain⟨W1,hW1⟩: ∃W1,W1=w.drew.setCells b (0+k*5) news:=⟨_,rfl⟩
 have hO1:W1.ownsRow base 58 5 (.slice (some ⟨b,0,none⟩) l.length c) l.length (qvu (qeg l) (k*5) news):=by
  rw[hW1,Nat.zero_add];exact qf2 news (k*5) (qe2 h (zdr br))
 have hcl: ∀ty,(Builtin.clear_ #[23] ty #[.slice (some ⟨b,(k+(l.length-(k+1)))*5,none⟩) (l.length-(k+(l.length-(k+1)))) (c-(k+(l.length-(k+1))))]).run Tryz.prog W1=.ok (.tuple #[]) (W1.setCells b ((l.length-1)*5) [.int .i64 0,.int .i64 0,.int .i64 0,.int .i64 0,.bool false]):=
  fun ty=>by
   rw[show k+(l.length-(k+1))=l.length-1 by omega,show l.length-(l.length-1)=1 by omega];exact qp7 W1 ty b _ _ (fun j hj=>by rw[hO1.cellAt _ (by omega),List.getElem?_eq_getElem (by rw[qiv];omega)];rfl) (fun j _=>hO1.frozenAt _)
 have hO2:=qf2 [.int .i64 0,.int .i64 0,.int .i64 0,.int .i64 0,.bool false] ((l.length-1)*5) hO1;have hO3:=qxw hO2 (l.length-1) (by omega);rw[hnews,qy6 l k hk _ rfl] at hO3
 have hG:w.grownBy (W1.setCells b ((l.length-1)*5) [.int .i64 0,.int .i64 0,.int .i64 0,.int .i64 0,.bool false]) (some b):=by
  refine qg4 _ _ ?_;rw[hW1];exact qg4 _ _ ⟨rfl,rfl,rfl,zlr _,fun _ _ _=>rfl⟩
 have HO:Hid (OT base (W1.setCells b ((l.length-1)*5) [.int .i64 0,.int .i64 0,.int .i64 0,.int .i64 0,.bool false]) (some ⟨b,0,none⟩) c (l.eraseIdx k)):=by
  rw[Hid,OT,hlen];exact hO3
 have HG:=zhi hG;have hW:Hid (W1=w.drew.setCells b (0+k*5) news):=hW1;have HL:=zhi hlen;have hic:k≤c:=by omega
 have hjc:k+1≤c:=by omega
 clear hW1 hO1 hO2 hO3 hG hcell hfro hnews hnl hx h hlen;go_enter Tryz.func191,Tryz.ntmps191;go_wp2_with fail;have q1:(0:Int)≤(k:Int)+1:=by omega
 have q2:(k:Int)+1≤(l.length:Int):=by omega
 go_region_law (refine step_append_room rfl (.tmp 22) (.tmp 25) 23 rfl 58 i0 5 Tryz.underlying23 hi0 hz1 b 0 k c (by simp[Act.eval,Act.put]) A (l.length-(k+1)) (c-(k+1)) news (by simp[Act.eval,Act.put]) s1.out hsrc.out s2.out (by omega) s3.out ?_;rw[←hW.out])
 go_wp2_with fail;go_ret;exact⟨by rw[HL.out,show l.length-1=k+(l.length-(k+1)) by omega];rfl,HO.out,HG.out⟩
theorem q0i(l:List Int)(k:Nat)(hk:k<l.length)(z:List Value)(hz:z.length=1):
  (qvu (qvu (l.map (.int .i64)) k ((l.drop (k+1)).map (.int .i64))) (l.length-1) z).take (l.length-1)=(l.eraseIdx k).map (.int .i64):=by
 have hl:(l.map (Value.int .i64)).length=l.length:=List.length_map ..;have hd:((l.drop (k+1)).map (Value.int .i64)).length=l.length-1-k:=by rw[List.length_map,List.length_drop];omega
 have e1:=qnl (qvu (l.map (Value.int .i64)) k ((l.drop (k+1)).map (Value.int .i64))) (l.length-1) (l.length-1) z (by rw[qiv];omega) (zlr _);rw[e1];have e:l.length-1=k+((l.drop (k+1)).map (Value.int .i64)).length:=by rw[hd];omega
 rw[e,qty _ _ _ (by omega),←List.map_take,←List.map_append,←List.eraseIdx_eq_take_drop_succ]
theorem qp8(base b c k:Nat)(l:List Int)(w:World)(h:OI base w (some ⟨b,0,none⟩) c l)(hk:k<l.length)(hl:l.length≤2000000):
  Calls Tryz.prog 178 #[.slice (some ⟨b,0,none⟩) l.length c,.int .i64 (k:Int),.int .i64 ((k:Int)+1)] w fun e w'=>
   e=.returned (.slice (some ⟨b,0,none⟩) (l.eraseIdx k).length c)∧OI base w' (some ⟨b,0,none⟩) c (l.eraseIdx k)∧w.grownBy w' (some b):=by
 have hlen:(l.eraseIdx k).length=l.length-1:=List.length_eraseIdx_of_lt hk;have hsz:=qao h;obtain⟨hsz1,hsz2⟩:=hsz;unfold maxLen at hsz2;have hx:=h.1;obtain⟨i0,hi0,hz0,hz1,hz2⟩:=info_parts qfp;have hcell: ∀(j:Nat),j<l.length→w.cell? ⟨b,j,none⟩=(l.map (Value.int .i64))[j]? :=fun j hj=>h.cellAt _ (by omega)
 have hfro: ∀j,w.frozen? ⟨b,j,none⟩=false:=fun j=>h.frozenAt j
 obtain⟨news,hnews⟩: ∃news,news=(l.drop (k+1)).map (Value.int .i64):=⟨_,rfl⟩;have hnl:news.length=(l.length-(k+1)):=by rw[hnews,List.length_map,List.length_drop]
 obtain⟨A,hA,hsrc⟩: ∃A:Addr,(if c=k+1 then(some (⟨b,0,none⟩:Addr)) else some ⟨b,(k+1),none⟩)=some A∧Hid (∀t u,news[t]? =some u→w.drew.cell? (A.add t)=some u):=by
  by_cases h1:c=k+1
  ·refine⟨⟨b,0,none⟩,by simp[h1],fun t u hu=>?_⟩;have h0:news.length=0:=by rw[hnl];omega
   rw[List.length_eq_zero_iff.1 h0] at hu;simp at hu
  ·refine⟨⟨b,(k+1),none⟩,by simp[h1],fun t u hu=>?_⟩
   have ht:t<(l.length-(k+1)):=by
    have:=(List.getElem?_eq_some_iff.1 hu).1;rwa [hnl] at this
   rw[Go.WideShapes.add_plain];show w.cell? _=_;rw[hcell _ (by omega),←hu,hnews,List.map_drop,List.getElem?_drop]
 have s1:Hid (news.length=(l.length-(k+1))):=hnl
 have s2:Hid (∀u∈news,u.oneCell'=true):=by
  rw[hnews];intro u hu;obtain⟨y,_,rfl⟩:=List.mem_map.1 hu;rfl
 have s3:Hid (∀t,t<news.length→(w.drew.cell? ⟨b,0+k*1+t,none⟩).isSome=true∧w.drew.frozen? ⟨b,0+k*1+t,none⟩=false):=by
  intro t ht;rw[hnl] at ht;refine⟨?_,hfro _⟩;show(w.cell? _).isSome=true;rw[hcell _ (by omega),List.getElem?_eq_getElem (by omega)];rfl
 obtain⟨W1,hW1⟩: ∃W1,W1=w.drew.setCells b (0+k*1) news:=⟨_,rfl⟩
 have hO1:W1.ownsRow base 3 1 (.slice (some ⟨b,0,none⟩) l.length c) l.length (qvu (l.map (.int .i64)) (k) news):=by
  rw[hW1,Nat.zero_add,Nat.mul_one];exact qf2 news (k) (qe2 h (zdr br))
 have hcl: ∀ty,(Builtin.clear_ #[27] ty #[.slice (some ⟨b,(k+(l.length-(k+1))),none⟩) (l.length-(k+(l.length-(k+1)))) (c-(k+(l.length-(k+1))))]).run Tryz.prog W1=.ok (.tuple #[]) (W1.setCells b ((l.length-1)) [.int .i64 0]):=
  fun ty=>by
   rw[show k+(l.length-(k+1))=l.length-1 by omega,show l.length-(l.length-1)=1 by omega];exact Lib.run_clear_slice W1 _ _ ty _ Tryz.underlying27 (fun _=>by kernel_rfl) rfl rfl b _ 1 _ (by omega) (fun j hj=>by rw[hO1.cellAt _ (by omega),List.getElem?_eq_getElem (by rw[qiv,List.length_map];omega)];rfl) (fun j _=>hO1.frozenAt _)
 have hO2:=qf2 [.int .i64 0] ((l.length-1)) hO1;have hO3:=qxw hO2 (l.length-1) (by omega);rw[hnews,Nat.mul_one,q0i l k hk _ rfl] at hO3
 have hG:w.grownBy (W1.setCells b ((l.length-1)) [.int .i64 0]) (some b):=by
  refine qg4 _ _ ?_;rw[hW1];exact qg4 _ _ ⟨rfl,rfl,rfl,zlr _,fun _ _ _=>rfl⟩
 have HO:Hid (OI base (W1.setCells b ((l.length-1)) [.int .i64 0]) (some ⟨b,0,none⟩) c (l.eraseIdx k)):=by
  rw[Hid,OI,hlen];exact hO3
 have HG:=zhi hG;have hW:Hid (W1=w.drew.setCells b (0+k*1) news):=hW1;have HL:=zhi hlen;have hic:k≤c:=by omega
 have hjc:k+1≤c:=by omega
 clear hW1 hO1 hO2 hO3 hG hcell hfro hnews hnl hx h hlen;go_enter Tryz.func178,Tryz.ntmps178;go_wp2_with fail;have q1:(0:Int)≤(k:Int)+1:=by omega
 have q2:(k:Int)+1≤(l.length:Int):=by omega
 go_region_law (refine step_append_room rfl (.tmp 22) (.tmp 25) 27 rfl 3 i0 1 Tryz.underlying27 hi0 hz1 b 0 k c (by simp[Act.eval,Act.put]) A (l.length-(k+1)) (c-(k+1)) news (by simp[Act.eval,Act.put]) (by rw[Nat.mul_one];exact s1.out) hsrc.out s2.out (by omega) s3.out ?_;rw[←hW.out])
 go_wp2_with fail;go_ret;exact⟨by rw[HL.out,show l.length-1=k+(l.length-(k+1)) by omega];rfl,HO.out,HG.out⟩
theorem qlt{w w':World}{b base:Nat}(h:w.grownBy w' (some b))(hb:base≤b)(hs:base≤w.heap.size):Below base w w':=(Below.refl _ _).grown h hs (fun k e=>by cases e;exact hb)
theorem qmn{w:World}{A:ZA}{l:List Tk}(h:TS w A l)(k:Nat):TS w A (l.take k):=by
 intro hl;rw[List.length_take] at hl;obtain⟨b,off,hA,hb,hc⟩:=h (by omega);refine⟨b,off,hA,hb,fun j u hu=>hc j u ?_⟩;rw[←qto,List.getElem?_take] at hu;split at hu
 ·exact hu
 ·cases hu
theorem q51{w:World}{A:ZA}{l:List Int}(h:IS w A l)(k:Nat):IS w A (l.take k):=by
 intro hl;rw[List.length_take] at hl;obtain⟨b,off,hA,hb,hc⟩:=h (by omega);refine⟨b,off,hA,hb,fun j u hu=>hc j u ?_⟩;rw[List.getElem?_take] at hu;split at hu
 ·exact hu
 ·cases hu
theorem q0j{w:World}{b off c:Nat}{l:List Tk}(h:TS w (some ⟨b,off,none⟩) l)(k:Nat)(hlc:l.length≤c): ∃A:Addr,(if c=k then(some (⟨b,off,none⟩:Addr)) else some ⟨b,off+k*5,none⟩)=some A∧TS w (some A) (l.drop k):=by
 by_cases hc:c=k
 ·refine⟨⟨b,off,none⟩,by simp[hc],fun hl=>?_⟩;rw[List.length_drop] at hl;omega
 ·refine⟨⟨b,off+k*5,none⟩,by simp[hc],fun hl=>?_⟩;rw[List.length_drop] at hl;obtain⟨b',off',hA,hb,hcell⟩:=h (by omega);cases hA
  refine⟨b,off+k*5,rfl,hb,fun j u hu=>?_⟩;rw[←qtx l k (by omega),List.getElem?_drop] at hu;rw[Nat.add_assoc];exact hcell _ u hu
theorem q52{w:World}{b off c:Nat}{l:List Int}(h:IS w (some ⟨b,off,none⟩) l)(k:Nat)(hlc:l.length≤c): ∃A:Addr,(if c=k then(some (⟨b,off,none⟩:Addr)) else some ⟨b,off+k,none⟩)=some A∧IS w (some A) (l.drop k):=by
 by_cases hc:c=k
 ·refine⟨⟨b,off,none⟩,by simp[hc],fun hl=>?_⟩;rw[List.length_drop] at hl;omega
 ·refine⟨⟨b,off+k,none⟩,by simp[hc],fun hl=>?_⟩;rw[List.length_drop] at hl;obtain⟨b',off',hA,hb,hcell⟩:=h (by omega);cases hA
  refine⟨b,off+k,rfl,hb,fun j u hu=>?_⟩;rw[List.getElem?_drop] at hu;rw[Nat.add_assoc];exact hcell _ u hu
theorem qay{w:World}{ops:Array Oper}{o:Oper}{a:Act}{K:Act→World→Prop}{Q:Exit→Act→World→Prop}{E:Prop}(hgd:o.guard=none)(s x:Operand)
  (ho:o.op=.call {callee:=.builtin .append,args:=#[s,x],argTypes:=#[23,23]})
  (base:Nat) (A:ZA) (l:List Tk) (n c:Nat) (hn:l.length=n) (hs:a.eval s=.slice A n c) (hown:OT base w A c l)
  (ad:Addr) (j c1:Nat) (m:List Tk) (hj:m.length=j) (hx:a.eval x=.slice (some ad) j c1) (hm:TS w (some ad) m)
  (hl:l.length≤2000000) (hlm:m.length≤2000000) (hbase:base≤w.heap.size)
  (h: ∀A' c' w',OT base w' A' c' (l++m)→w.grownBy w' (Value.slice A n c).ownBlock→Below base w w'→K (a.put o.dst (.slice A' (n+j) c')) w'):
  if Region.wanted o (yielded ops a.tmps)=true then Oper.wp Tryz.prog o a w K Q else E:=by
 subst hn hj;have hw:Region.wanted o (yielded ops a.tmps)=true:=by simp[Region.wanted,hgd]
 rw[if_pos hw];obtain⟨i0,hi,hz0,hz1,hz2⟩:=info_parts qjg
 refine wp_append_own w s x 23 ho base 58 i0 _ 5 40 Tryz.underlying23 hi hz0 hz1 hz2 rfl (by decide) (.slice A l.length c) l.length (qeg l) hs hown
  ad m.length c1 (qeg m) hx (by rw[qcx,Nat.mul_comm]) ?_ (qq9 m) (by unfold maxLen;omega) (by omega) hbase ?_
 ·intro j u hj
  have hpos:0<m.length:=by
   have:=(List.getElem?_eq_some_iff.1 hj).1;rw[qcx] at this;omega
  obtain⟨b,off,hA,_,hc⟩:=hm hpos;cases hA
  rw[Go.WideShapes.add_plain];exact hc j u hj
 ·intro v' w' hown' hg _;obtain⟨A',c',rfl⟩:=qeh hown';refine h A' c' w' ?_ hg (qb0 hown hg hbase);unfold OT;rw[List.length_append,qgw];exact hown'
theorem qb4{w:World}{ops:Array Oper}{o:Oper}{a:Act}{K:Act→World→Prop}{Q:Exit→Act→World→Prop}{E:Prop}(hgd:o.guard=none)(s x:Operand)
  (ho:o.op=.call {callee:=.builtin .append,args:=#[s,x],argTypes:=#[27,27]})
  (base:Nat) (A:ZA) (l:List Int) (n c:Nat) (hn:l.length=n) (hs:a.eval s=.slice A n c) (hown:OI base w A c l)
  (ad:Addr) (j c1:Nat) (m:List Int) (hj:m.length=j) (hx:a.eval x=.slice (some ad) j c1) (hm:IS w (some ad) m)
  (hl:l.length≤2000000) (hlm:m.length≤2000000) (hbase:base≤w.heap.size)
  (h: ∀A' c' w',OI base w' A' c' (l++m)→w.grownBy w' (Value.slice A n c).ownBlock→Below base w w'→K (a.put o.dst (.slice A' (n+j) c')) w'):
  if Region.wanted o (yielded ops a.tmps)=true then Oper.wp Tryz.prog o a w K Q else E:=by
 subst hn hj;have hw:Region.wanted o (yielded ops a.tmps)=true:=by simp[Region.wanted,hgd]
 rw[if_pos hw];obtain⟨i0,hi,hz0,hz1,hz2⟩:=info_parts qfp
 refine wp_append_own w s x 27 ho base 3 i0 _ 1 8 Tryz.underlying27 hi hz0 hz1 hz2 rfl (by decide) (.slice A l.length c) l.length (l.map (.int .i64)) hs hown
  ad m.length c1 (m.map (.int .i64)) hx (by simp) ?_ ?_ (by unfold maxLen;omega) (by omega) hbase ?_
 ·intro j u hj;rw[List.getElem?_map] at hj;obtain⟨y,hy,rfl⟩:=Option.map_eq_some_iff.1 hj
  have hpos:0<m.length:=by
   have:=(List.getElem?_eq_some_iff.1 hy).1;omega
  obtain⟨b,off,hA,_,hc⟩:=hm hpos;cases hA
  rw[Go.WideShapes.add_plain];exact hc j y hy
 ·intro u hu;obtain⟨y,_,rfl⟩:=List.mem_map.1 hu;rfl
 ·intro v' w' hown' hg _;obtain⟨A',c',rfl⟩:=qeh hown';refine h A' c' w' ?_ hg (qb0 hown hg hbase);unfold OI;rw[List.length_append,List.map_append];exact hown'
theorem qh2(A:ZA)(l:List Tk)(c k:Nat)(w:World)(h:TS w A l)(hk:k<l.length)(hlc:l.length≤c)(hl:l.length≤2000000):
  Calls Tryz.prog 199 #[.slice A l.length c,.int .i64 (k:Int)] w (q3d w (l.eraseIdx k)):=by
 obtain⟨b,off,rfl,hbl,hc⟩:=h (by omega);have hD:=q0j h (k+1) hlc;obtain⟨A2,hA2,hS2⟩:=hD;have hS1:=zhi (qmn h k);have HS2:=zhi hS2;have hl1:Hid ((l.take k).length=k):=by simp[Hid];omega
 have hl2:Hid ((l.drop (k+1)).length=l.length-(k+1)):=by simp[Hid]
 have hlen:Hid (l.eraseIdx k=l.take k++l.drop (k+1)):=qkl l k;clear hS2 hc;have q1:(0:Int)≤(k:Int)+1:=by omega
 have q2:(k:Int)+1≤(l.length:Int):=by omega
 have q3:(k:Int)≤(c:Int):=by omega
 have q0:(0:Int)≤(k:Int):=by omega
 have qw:IntKind.i64.wrap ((k:Int)+1)=(k:Int)+1:=IntWalk.i64_in _ (by omega);have hkc:k≤c:=by omega
 go_enter Tryz.func199,Tryz.ntmps199;go_wp2_with fail
 go_region_law (first
  |(refine qay rfl (.tmp 5) (.tmp 8) rfl w.heap.size (some ⟨w.heap.size,0,none⟩) [] 0 0 rfl (by simp[Act.eval]) (qa7 _ _ (zlr _)) ⟨b,off,none⟩ k c (l.take k) hl1.out (by simp[Act.eval]) (hS1.out.keep (bal (zdr br) _)) (by simp) (by rw[hl1.out];omega) (by simp) ?_;intro A' c' w1 o1 g1 b1)
  |(refine qay rfl (.tmp 9) (.tmp 13) rfl w.heap.size _ (l.take k) k _ hl1.out (by simp[Act.eval]) o1 A2 (l.length-(k+1)) (c-(k+1)) (l.drop (k+1)) hl2.out (by simp[Act.eval]) (HS2.out.keep ((bal (zdr br) _).trans b1)) (by rw[hl1.out];omega) (by rw[hl2.out];omega) (by have:=b1.size;simp at this;omega) ?_;intro A'' c'' w2 o2 g2 b2))
 go_wp2_with fail;go_ret;refine⟨A'',c'',?_,?_,((bal (zdr br) _).trans b1).trans b2⟩
 ·rw[hlen.out,List.length_append,hl1.out,hl2.out];rfl
 ·rw[hlen.out];exact o2
def lvT(l:List Tk)(x:Int):List Tk:=if plc l x then l.eraseIdx x.toNat else []
theorem qp9(A:ZA)(l:List Tk)(c:Nat)(x:Int)(w:World)(h:TS w A l)(hm:l.length≤maxLen)(hlc:l.length≤c):
  Calls Tryz.prog 156 #[.slice A l.length c,.int .i64 x] w (qr9 w (lvT l x) (plc l x)):=by
 cases hP:plc l x with
 |false=>
  have hv:lvT l x=[]:=by simp[lvT,hP]
  rw[hv];clear hv;go_enter Tryz.func156,Tryz.ntmps156;go_wp2_with fail;refine(qdx A l c x _ h hm).mono ?_;rw[hP];rintro e w1 ⟨rfl,b1⟩;go_wp2_with fail;go_ret2;exact⟨_,0,rfl,qa7 w1 _ b1.size,bal b1 _⟩
 |true=>
  obtain⟨hs,hl5,hlt,hx⟩:=qc6 hP;have hv:lvT l x=l.eraseIdx x.toNat:=by simp[lvT,hP]
  rw[hv];obtain⟨n,rfl⟩: ∃n:Nat,x=(n:Int):=⟨_,hx⟩;rw[Int.toNat_natCast] at*;clear hx hs hv;go_enter Tryz.func156,Tryz.ntmps156;go_wp2_with fail;refine(qdx A l c n _ h hm).mono ?_;rw[hP];rintro e w1 ⟨rfl,b1⟩;go_wp2_with fail;refine(qh2 A l c n _ (h.keep b1) hlt hlc (by omega)).mono ?_;rintro e w2 ⟨A2,c2,rfl,o2,b2⟩;go_wp2_with fail;go_ret2;exact⟨A2,c2,rfl,qal o2 b1.size,qaa b1 b2⟩
theorem qkm(A:ZA)(l:List Tk)(c:Nat)(x:Int)(w:World)(h:TS w A l):
  Calls Tryz.prog 137 #[.slice A l.length c,.int .i64 x] w (qr9 w (lvT l x) (plc l x)):=by
 cases hP:plc l x with
 |false=>
  have hv:lvT l x=[]:=by simp[lvT,hP]
  rw[hv];clear hv;go_enter Tryz.func137,Tryz.ntmps137;go_wp2_with fail;refine(qbo A l c x _ h).mono ?_;rw[hP];rintro e w1 ⟨rfl,b1⟩;go_wp2_with fail;go_ret2;exact⟨none,0,rfl,qhn _ _,b1⟩
 |true=>
  obtain⟨hs,hl5,hlt,hx⟩:=qc6 hP;have hv:lvT l x=l.eraseIdx x.toNat:=by simp[lvT,hP]
  rw[hv];obtain⟨n,rfl⟩: ∃n:Nat,x=(n:Int):=⟨_,hx⟩;rw[Int.toNat_natCast] at*;clear hx hs hv;go_enter Tryz.func137,Tryz.ntmps137;go_wp2_with fail;refine(qbo A l c n _ h).mono ?_;rw[hP];rintro e w1 ⟨rfl,b1⟩;go_wp2_with fail;refine(qcu A l c _ (h.keep b1) (by omega)).mono ?_;rintro e w2 ⟨A2,c2,rfl,o2,b2⟩;obtain⟨b,rfl,hb1,hb2⟩:=qf8 o2 (by omega);go_wp2_with fail;refine(qfq _ b c2 n l _ o2 hlt (by omega)).mono ?_;rintro e w3 ⟨rfl,o3,g3⟩;go_wp2_with fail;go_ret2;have B3:Below w1.heap.size w1 w3:=b2.trans (qlt g3 hb1 b2.size);exact⟨_,c2,rfl,qal o3 b1.size,qaa b1 B3⟩
end Go.Proofs.YtmkjmancmiphfaaGreatDoor
