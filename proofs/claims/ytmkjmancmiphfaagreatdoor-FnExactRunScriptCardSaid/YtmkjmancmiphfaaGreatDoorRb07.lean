/-
  The walks of holds, FirstBad, HoldsBoth: the program's and the reference's.
  The walks of FirstBad and HoldsBoth.
  The walks of Implicit, plus, times, fits.
  The virtual deadlines' factor in plain Lean: how great its numbers are.
  Holding by a policy, in plain Lean: fewer tasks, smaller needs.
  The greatest need with which tasks hold, in plain Lean.
  The machine's run in plain Lean: with deadlines, what holds is in time.
  The machine in plain Lean, tick by tick; what holds is in time; who misses.
  CanBeLast: the program's and the reference's.
-/
import Derived.Test.YtmkjmancmiphfaaGreatDoorRb06
namespace Go.Proofs.YtmkjmancmiphfaaGreatDoor
set_option maxHeartbeats 8000000
set_option maxRecDepth 1000000
open Go.RowKit
theorem qj7(r:Option Int): ∃p,qgb r=.tuple #[.int .i64 p,.bool r.isSome]:=by cases r<;>exact⟨_,rfl⟩
theorem qv6{l:List Tk}(hs:qad l=true){n:Nat}(hn:n<l.length):plc l (n:Int)=true:=by simp[plc,hs,hn]
theorem qok{l:List Tk}{n:Nat}(hp:plc l (n:Int)=true)(hc:(qag l n).crit=true):qkk l (n:Int)=(rSw l (n:Int)).isSome:=by
 simp[qkk,hp,qer,hc,rSw]
theorem qrd{l:List Tk}{n:Nat}(hp:plc l (n:Int)=true)(hc:(qag l n).crit=false):qkk l (n:Int)=(qmh l (n:Int)).isSome:=by
 simp[qkk,hp,qer,hc,qmh]
theorem qmt{l:List Tk}(hs:qad l=true){n:Nat}(hn:n<l.length):qkk l (n:Int)=qer l n:=by
 simp[qkk,qv6 hs hn]
theorem qmu(A:ZA)(l:List Tk)(c:Nat)(x:Int)(w:World)(h:TS w A l)(hlc:l.length≤c):
  Calls Tryz.prog 226 #[.slice A l.length c,.int .i64 x] w fun e w'=>e=.returned (.bool (qkk l x))∧Below w.heap.size w w':=by
 cases hP:plc l x with
 |false=>
  have hf:Hid (qkk l x=false):=by simp[Hid,qkk,hP]
  go_enter Tryz.func226,Tryz.ntmps226;go_wp2_with fail;refine(qbo A l c x _ h).mono ?_;rw[hP];rintro e w1 ⟨rfl,b1⟩;go_wp2_with fail;go_ret;exact⟨by rw[hf.out];rfl,b1⟩
 |true=>
  obtain⟨hs,hl5,hlt,hx⟩:=qc6 hP;have Hs:=zhi hs;have HP:=zhi hP;obtain⟨n,rfl⟩: ∃n:Nat,x=(n:Int):=⟨_,hx⟩;rw[Int.toNat_natCast] at*;clear hx hs hP;obtain⟨p,hp⟩:=qj7 (rSw l n);obtain⟨q,hq⟩:=qj7 (qmh l n);have Hp:=zhi hp;have Hq:=zhi hq;clear hp hq;go_enter Tryz.func226,Tryz.ntmps226;go_wp2_with fail;refine(qbo A l c n _ h).mono ?_;rw[HP.out];rintro e w1 ⟨rfl,b1⟩;obtain⟨b,off,rfl,hbl,hc⟩:=h.keep b1 (by omega);obtain⟨c0,c1,c2,c3,c4⟩:=qav hc n hlt;clear hc;cases hcr:(qag l n).crit with
  |true=>
   rw[hcr] at c4;have hf:=zhi (qok HP.out hcr);clear hcr;go_wp2_with fail;refine(qg3 _ l c n _ (h.keep b1) hlc).mono ?_;rw[Hp.out];rintro e w2 ⟨rfl,b2⟩;go_wp2_with fail;go_ret;exact⟨by rw[hf.out];rfl,qaa b1 b2⟩
  |false=>
   rw[hcr] at c4;have hf:=zhi (qrd HP.out hcr);clear hcr;go_wp2_with fail;refine(qel _ l c n _ (h.keep b1) hlc).mono ?_;rw[Hq.out];rintro e w2 ⟨rfl,b2⟩;go_wp2_with fail;go_ret;exact⟨by rw[hf.out];rfl,qaa b1 b2⟩
theorem qy9(A:ZA)(l:List Tk)(c:Nat)(x:Int)(w:World)(h:TS w A l)(hm:l.length≤maxLen):
  Calls Tryz.prog 237 #[.slice A l.length c,.int .i64 x] w fun e w'=>e=.returned (.bool (qmh l x).isSome)∧Below w.heap.size w w':=by
 obtain⟨q,hq⟩:=qj7 (qmh l x);have Hq:=zhi hq;clear hq;go_enter Tryz.func237,Tryz.ntmps237;go_wp2_with fail;refine(qek _ l c x _ h hm).mono ?_;rw[Hq.out];rintro e w2 ⟨rfl,b2⟩;go_wp2_with fail;go_ret;exact⟨rfl,b2⟩
theorem qk0(A:ZA)(l:List Tk)(c n:Nat)(w:World)(h:TS w A l)(hs:qad l=true)(hn:n<l.length):
  Calls Tryz.prog 200 #[.slice A l.length c,.int .i64 (n:Int)] w fun e w'=>e=.returned (.bool (qer l n))∧Below w.heap.size w w':=by
 have hl5:=(qaj hs).1;have hm:l.length≤maxLen:=by unfold maxLen;omega
 have HP:=zhi (qv6 hs hn);have Hx:=zhi (qmt hs hn);clear hs;obtain⟨p,hp⟩:=qj7 (rSw l n);have Hp:=zhi hp;clear hp;obtain⟨b,off,rfl,hbl,hc⟩:=h (by omega);obtain⟨c0,c1,c2,c3,c4⟩:=qav hc n hn;clear hc;cases hcr:(qag l n).crit with
 |true=>
  rw[hcr] at c4;have hf:=zhi (qok HP.out hcr);clear hcr;go_enter Tryz.func200,Tryz.ntmps200;go_wp2_with fail;refine(qg2 _ l c n _ h hm).mono ?_;rw[Hp.out];rintro e w2 ⟨rfl,b2⟩;go_wp2_with fail;go_ret;exact⟨by rw[←Hx.out,hf.out];rfl,b2⟩
 |false=>
  rw[hcr] at c4;have hf:=zhi (qrd HP.out hcr);clear hcr;go_enter Tryz.func200,Tryz.ntmps200;go_wp2_with fail;refine(qy9 _ l c n _ h hm).mono ?_;rintro e w2 ⟨rfl,b2⟩;go_wp2_with fail;go_ret;exact⟨by rw[←Hx.out,hf.out];rfl,b2⟩
def q0b(l:List Tk)(n:Nat):Bool:=(List.range n).all (qer l)
theorem qx3{l:List Tk}{n:Nat}:q0b l n=true↔ ∀k,k<n→qer l k=true:=by simp[q0b]
theorem qt3{l:List Tk}{n:Nat}(h:q0b l n=true)(hk:qer l n=true):q0b l (n+1)=true:=by
 rw[qx3] at h⊢;intro k h1;by_cases e:k=n
 ·subst e;exact hk
 ·exact h k (by omega)
theorem qx4{l:List Tk}{n k:Nat}(hk:k<n)(h:qer l k=false):q0b l n=false:=by
 cases e:q0b l n with
 |false=>rfl
 |true=>rw[qx3.1 e k hk] at h;cases h
theorem qre{l:List Tk}(h:qad l=false):qga l=false:=by simp[qga,h]
theorem qol{l:List Tk}(h:qad l=true):qga l=q0b l l.length:=by simp[qga,q0b,h]
theorem qlv(A:ZA)(l:List Tk)(c:Nat)(w:World)(h:TS w A l)(hlc:l.length≤c):
  Calls Tryz.prog 227 #[.slice A l.length c] w fun e w'=>(∃r:Int,e=.returned (.tuple #[.int .i64 r,.bool (qad l&& !q0b l l.length)]))∧Below w.heap.size w w':=by
 cases hS:qad l with
 |false=>
  go_enter Tryz.func227,Tryz.ntmps227;go_wp2_with fail;refine(qae A l c _ h).mono ?_;rw[hS];rintro e w1 ⟨rfl,b1⟩;go_wp2_with fail;go_ret2;exact⟨⟨0,rfl⟩,b1⟩
 |true=>
  have hl5:=(qaj hS).1;have Hs:=zhi hS;go_enter Tryz.func227,Tryz.ntmps227;go_wp2_with fail;refine(qae A l c _ h).mono ?_;rw[hS];clear hS;rintro e w1 ⟨rfl,b1⟩;go_wp2_with fail;go_loopw [10] (fun i wr=> ∃k:Nat,k≤l.length∧i=.int .i64 (k:Int)∧Hid (q0b l k=true)∧Below w.heap.size w wr) (fun i _=>l.length-(intOf i).toNat)
  case atStart=>exact⟨0,by omega,rfl,rfl,b1⟩
  case round=>
   obtain⟨k,hk,rfl,hall,hb⟩:=hrel;by_cases hlt:k<l.length
   ·have hx:=zhi (qmt Hs.out hlt);cases hh:qer l k with
    |false=>
     have hbad:=zhi (qx4 hlt hh);have Hh:=zhi hh;clear hh;go_wp2_with fail;refine(qmu A l c k _ (h.keep hb) hlc).mono ?_;rw[hx.out,Hh.out];rintro e w2 ⟨rfl,b2⟩;go_wp2_with fail;go_ret2;exact⟨⟨(k:Int),by rw[hbad.out];rfl⟩,qaa hb b2⟩
    |true=>
     have hgood:=zhi (qt3 hall.out hh);have Hh:=zhi hh;clear hh;go_wp2_with fail;refine(qmu A l c k _ (h.keep hb) hlc).mono ?_;rw[hx.out,Hh.out];rintro e w2 ⟨rfl,b2⟩;go_wp2_with fail;go_roundw
     case rel=>exact⟨k+1,by omega,by go_num,hgood,qaa hb b2⟩
     case measure=>simp[intOf];omega
   ·have hk':Hid (k=l.length):=show k=l.length by omega
    go_wp2_with fail;go_ret2;have ha:=hall.out;rw[hk'.out] at ha;exact⟨⟨0,by rw[ha];rfl⟩,hb⟩
theorem qqb(A:ZA)(l:List Tk)(c:Nat)(w:World)(h:TS w A l)(hlc:l.length≤c):
  Calls Tryz.prog 180 #[.slice A l.length c] w fun e w'=>e=.returned (.bool (qga l))∧Below w.heap.size w w':=by
 cases hS:qad l with
 |false=>
  have Hf:=zhi (qre hS);go_enter Tryz.func180,Tryz.ntmps180;go_wp2_with fail;refine(qlv A l c _ h hlc).mono ?_;rintro e w1 ⟨⟨r,rfl⟩,b1⟩;go_wp2_with fail;refine(qae A l c _ (h.keep b1)).mono ?_;rw[hS];rintro e w2 ⟨rfl,b2⟩;go_wp2_with fail;go_ret;exact⟨by rw[Hf.out];rfl,qaa b1 b2⟩
 |true=>
  have Hf:=zhi (qol hS);go_enter Tryz.func180,Tryz.ntmps180;go_wp2_with fail;refine(qlv A l c _ h hlc).mono ?_;rw[hS];generalize q0b l l.length=y at*;simp only[Bool.true_and];rintro e w1 ⟨⟨r,rfl⟩,b1⟩;go_wp2_with fail;refine(qae A l c _ (h.keep b1)).mono ?_;rw[hS];rintro e w2 ⟨rfl,b2⟩;go_wp2_with fail;go_ret;exact⟨by rw[Hf.out];simp,qaa b1 b2⟩
theorem qqc(A:ZA)(l:List Tk)(c:Nat)(w:World)(h:TS w A l)(hm:l.length≤maxLen):
  Calls Tryz.prog 147 #[.slice A l.length c] w fun e w'=>e=.returned (.bool (qga l))∧Below w.heap.size w w':=by
 cases hS:qad l with
 |false=>
  have Hf:=zhi (qre hS)
  have hne:0<l.length:=by
   cases l with
   |nil=>simp[qad] at hS
   |cons=>simp
  go_enter Tryz.func147,Tryz.ntmps147;go_wp2_with fail;go_loopw [3] (fun i wr=>i=.int .i64 0∧Below w.heap.size w wr) (fun _ _=>0)
  case atStart=>exact⟨rfl,br⟩
  case round=>
   obtain⟨rfl,hb⟩:=hrel;go_wp2_with fail;refine(qac A l c _ (h.keep hb) hm).mono ?_;rw[hS];rintro e w1 ⟨rfl,b1⟩;go_wp2_with fail;refine(qac A l c _ (h.keep (qaa hb b1)) hm).mono ?_;rw[hS];rintro e w2 ⟨rfl,b2⟩;go_wp2_with fail;go_ret;exact⟨by rw[Hf.out];rfl,qaa (qaa hb b1) b2⟩
 |true=>
  have hl5:=(qaj hS).1;have Hs:=zhi hS;have Hf:=zhi (qol hS);clear hS;go_enter Tryz.func147,Tryz.ntmps147;go_wp2_with fail;go_loopw [3] (fun i wr=> ∃k:Nat,k≤l.length∧i=.int .i64 (k:Int)∧Hid (q0b l k=true)∧Below w.heap.size w wr) (fun i _=>l.length-(intOf i).toNat)
  case atStart=>exact⟨0,by omega,rfl,rfl,br⟩
  case round=>
   obtain⟨k,hk,rfl,hall,hb⟩:=hrel;by_cases hlt:k<l.length
   ·cases hh:qer l k with
    |false=>
     have hbad:=zhi (qx4 hlt hh);have Hh:=zhi hh;clear hh;go_wp2_with fail;refine(qac A l c _ (h.keep hb) hm).mono ?_;rw[Hs.out];rintro e w1 ⟨rfl,b1⟩;go_wp2_with fail;refine(qk0 A l c k _ (h.keep (qaa hb b1)) Hs.out hlt).mono ?_;rw[Hh.out];rintro e w2 ⟨rfl,b2⟩;go_wp2_with fail;go_ret;exact⟨by rw[Hf.out,hbad.out];rfl,qaa (qaa hb b1) b2⟩
    |true=>
     have hgood:=zhi (qt3 hall.out hh);have Hh:=zhi hh;clear hh;go_wp2_with fail;refine(qac A l c _ (h.keep hb) hm).mono ?_;rw[Hs.out];rintro e w1 ⟨rfl,b1⟩;go_wp2_with fail;refine(qk0 A l c k _ (h.keep (qaa hb b1)) Hs.out hlt).mono ?_;rw[Hh.out];rintro e w2 ⟨rfl,b2⟩;go_wp2_with fail;go_roundw
     case rel=>exact⟨k+1,by omega,by go_num,hgood,qaa (qaa hb b1) b2⟩
     case measure=>simp[intOf];omega
   ·have hk':Hid (k=l.length):=show k=l.length by omega
    go_wp2_with fail;refine(qac A l c _ (h.keep hb) hm).mono ?_;rw[Hs.out];rintro e w1 ⟨rfl,b1⟩;go_wp2_with fail;go_ret;have ha:=hall.out;rw[hk'.out] at ha;exact⟨by rw[Hf.out,ha];rfl,qaa hb b1⟩
def qjn(l:List Tk)(n:Nat):Bool:=(List.range n).all (fun k=>decide ((qag l k).due=(qag l k).every))
def qec(l:List Tk):Bool:=qad l&&qjn l l.length
theorem qom{l:List Tk}{n:Nat}(h:qjn l n=true)(hk:(qag l n).due=(qag l n).every):qjn l (n+1)=true:=by
 simp only[qjn,List.all_eq_true,List.mem_range,decide_eq_true_eq] at h⊢;intro k h1;by_cases e:k=n
 ·subst e;exact hk
 ·exact h k (by omega)
theorem qrf{l:List Tk}{n k:Nat}(hk:k<n)(h: ¬(qag l k).due=(qag l k).every):qjn l n=false:=by
 cases e:qjn l n with
 |false=>rfl
 |true=>
  simp only[qjn,List.all_eq_true,List.mem_range,decide_eq_true_eq] at e;exact absurd (e k hk) h
theorem qgm(A:ZA)(l:List Tk)(c:Nat)(w:World)(h:TS w A l)(hm:l.length≤maxLen):
  Calls Tryz.prog 60 #[.slice A l.length c] w fun e w'=>e=.returned (.bool (qec l))∧Below w.heap.size w w':=by
 have hm':=hm;unfold maxLen at hm';go_enter Tryz.func60,Tryz.ntmps60;go_wp2_with fail;go_loopw [7] (fun i wr=> ∃k:Nat,k≤l.length∧i=.int .i64 (k:Int)∧Hid (qjn l k=true)∧Below w.heap.size w wr) (fun i _=>l.length-(intOf i).toNat)
 case atStart=>exact⟨0,by omega,rfl,rfl,br⟩
 case round=>
  obtain⟨k,hk,rfl,hall,hb⟩:=hrel;by_cases hlt:k<l.length
  ·obtain⟨b,off,rfl,hbl,hc⟩:=h.keep hb (by omega);obtain⟨c0,c1,c2,c3,c4⟩:=qav hc k hlt;clear hc;by_cases he:(qag l k).due=(qag l k).every
   ·have hne:((qag l k).due !=(qag l k).every)=false:=by simp[he]
    have hgood:=zhi (qom hall.out he);have He:=zhi he;clear he;go_wp2_with fail;go_roundw
    case rel=>exact⟨k+1,by omega,by go_num,hgood,bal hb _⟩
    case measure=>simp[intOf];omega
   ·have hne:((qag l k).due !=(qag l k).every)=true:=by simp[he]
    have hbad:=zhi (qrf hlt he);have He:=zhi he;clear he;go_wp2_with fail;go_ret;exact⟨by rw[qec,hbad.out,Bool.and_false];rfl,bal hb _⟩
  ·have hk':Hid (k=l.length):=show k=l.length by omega
   go_wp2_with fail;refine(qae A l c _ (h.keep hb)).mono ?_;rintro e w1 ⟨rfl,b1⟩;go_wp2_with fail;go_ret;have ha:=hall.out;rw[hk'.out] at ha;exact⟨by rw[qec,ha,Bool.and_true];rfl,qaa hb b1⟩
theorem qdy{a:Rat}(h:RIn a):0≤a.num∧a.num≤1000000000∧1≤(a.den:Int)∧(a.den:Int)≤1000000000:=by
 obtain⟨h1,h2,h3⟩:=h;have:=a.den_pos;omega
theorem qza(a b:Rat)(w:World)(ha:RIn a)(hb:RIn b):
  Calls Tryz.prog 228 #[rv a,rv b] w fun e w'=>e=.returned (rv (a*b))∧Below w.heap.size w w':=by
 obtain⟨a0,a1,a2,a3⟩:=qdy ha;obtain⟨b0,b1,b2,b3⟩:=qdy hb;have m1:=qdb a0 a1 b0 b1 (by omega);have m3:=qdb (show 0≤(a.den:Int) by omega) a3 (show 0≤(b.den:Int) by omega) b3 (by omega);have m4:1≤(a.den:Int)*(b.den:Int):=by have:=Int.mul_pos (show(0:Int)<a.den by omega) (show(0:Int)<b.den by omega);omega
 obtain⟨m10,m11⟩:=m1;obtain⟨m30,m31⟩:=m3;go_enter Tryz.func228,Tryz.ntmps228;go_wp2_with fail;refine(qgl _ _ _ (by omega) (by omega) (by omega) (by omega)).mono ?_;rw[mk_mul];rintro e w3 ⟨rfl,c3⟩;obtain⟨hA0,hB0,hC0⟩:=q5w w (.cells #[.int .i64 a.num,.int .i64 (a.den:Int)] 54) (.cells #[.int .i64 b.num,.int .i64 (b.den:Int)] 54) (.cells #[.int .i64 0,.int .i64 0] 54);have hz3:=c3.size;simp only[World.size_alloc] at hz3;have hC3:=(c3.block (w.heap.size+1+1) (by simp)).trans hC0;obtain⟨x0,x1,xf⟩:=qak hC3;clear hA0 hB0 hC0 hC3;obtain⟨r,hr⟩: ∃r,a*b=r:=⟨_,rfl⟩;rw[hr];have Hr:=zhi hr;clear hr;go_wp2_with fail;refine bodyPost_ret (v:=rv r) (by simp[results,Tryz.results228,go_sem,x0,x1]) rfl ⟨by rw[Hr.out],?_⟩;exact bst (bst (qaa (bal (bal (bal br _) _) _) c3) (p:=⟨w.heap.size+1+1,0,none⟩) (by show w.heap.size≤w.heap.size+1+1;omega) _) (p:=⟨w.heap.size+1+1,1,none⟩) (by show w.heap.size≤w.heap.size+1+1;omega) _
theorem qon(a b:Rat)(w:World)(ha:RIn a)(hb:RIn b):
  Calls Tryz.prog 64 #[rv a,rv b] w fun e w'=>e=.returned (rv (a+b))∧Below w.heap.size w w':=by
 obtain⟨a0,a1,a2,a3⟩:=qdy ha;obtain⟨b0,b1,b2,b3⟩:=qdy hb;have m1:=qdb a0 a1 (show 0≤(b.den:Int) by omega) b3 (by omega);have m2:=qdb b0 b1 (show 0≤(a.den:Int) by omega) a3 (by omega);obtain⟨m20,m21⟩:=m2;have m3:=qdb (show 0≤(a.den:Int) by omega) a3 (show 0≤(b.den:Int) by omega) b3 (by omega);have m4:1≤(a.den:Int)*(b.den:Int):=by have:=Int.mul_pos (show(0:Int)<a.den by omega) (show(0:Int)<b.den by omega);omega
 obtain⟨m10,m11⟩:=m1;obtain⟨m30,m31⟩:=m3;go_enter Tryz.func64,Tryz.ntmps64;go_wp2_with fail;refine(qgl _ _ _ (by omega) (by omega) (by omega) (by omega)).mono ?_;rw[mk_add];rintro e w3 ⟨rfl,c3⟩;obtain⟨hA0,hB0,hC0⟩:=q5w w (.cells #[.int .i64 a.num,.int .i64 (a.den:Int)] 54) (.cells #[.int .i64 b.num,.int .i64 (b.den:Int)] 54) (.cells #[.int .i64 0,.int .i64 0] 54);have hz3:=c3.size;simp only[World.size_alloc] at hz3;have hC3:=(c3.block (w.heap.size+1+1) (by simp)).trans hC0;obtain⟨x0,x1,xf⟩:=qak hC3;clear hA0 hB0 hC0 hC3;obtain⟨r,hr⟩: ∃r,a+b=r:=⟨_,rfl⟩;rw[hr];have Hr:=zhi hr;clear hr;go_wp2_with fail;refine bodyPost_ret (v:=rv r) (by simp[results,Tryz.results64,go_sem,x0,x1]) rfl ⟨by rw[Hr.out],?_⟩;exact bst (bst (qaa (bal (bal (bal br _) _) _) c3) (p:=⟨w.heap.size+1+1,0,none⟩) (by show w.heap.size≤w.heap.size+1+1;omega) _) (p:=⟨w.heap.size+1+1,1,none⟩) (by show w.heap.size≤w.heap.size+1+1;omega) _
def qk1(r:Rat):Bool:=decide (r.num≤(r.den:Int))
theorem qoo(a:Rat)(w:World):
  Calls Tryz.prog 63 #[rv a] w fun e w'=>e=.returned (.bool (qk1 a))∧Below w.heap.size w w':=by
 go_enter Tryz.func63,Tryz.ntmps63;go_wp2_with fail;go_ret;exact⟨rfl,bal br _⟩
theorem qt4(r:Rat):qk1 r=true↔r≤1:=by
 simp only[qk1,decide_eq_true_eq,Rat.le_iff];simp
theorem qk2(r:Rat):r*(r.den:Rat)=(r.num:Rat):=by
 have h:(r.num:Rat)/(r.den:Rat)=r:=by rw[←Rat.mkRat_eq_div,Rat.mkRat_self]
 have h0:((r.den:Nat):Rat)≠0:=by
  intro e;exact r.den_nz (by exact_mod_cast e)
 grind
theorem qkn{r:Rat}{M:Nat}(hM:M≠0){k:Int}(h:r*(M:Rat)=(k:Rat)):r.den∣M:=by
 have hM':((M:Nat):Rat)≠0:=by
  intro e;exact hM (by exact_mod_cast e)
 have e:r=mkRat k M:=by
  rw[Rat.mkRat_eq_div,←h];grind
 rw[e];exact qdj _ _ hM
theorem qko{r:Rat}{M:Nat}(h:r.den∣M): ∃k:Int,r*(M:Rat)=(k:Rat):=by
 obtain⟨c,rfl⟩:=h;refine⟨r.num*c,?_⟩;have:=qk2 r;simp only[Rat.intCast_mul,Rat.natCast_mul,Rat.intCast_natCast];grind
theorem qk3{a b:Rat}{M:Nat}(hM:M≠0)(ha:a.den∣M)(hb:b.den∣M):(a+b).den∣M:=by
 obtain⟨k,hk⟩:=qko ha;obtain⟨j,hj⟩:=qko hb;exact qkn hM (k:=k+j) (by rw[Rat.intCast_add,Rat.add_mul,hk,hj])
def qdz(crit:Bool):List Tk→Nat
 |[]=>1
 |t::l=>(if t.crit=crit then t.every.toNat else 1)*qdz crit l
theorem qij(crit:Bool)(l:List Tk)(h: ∀t∈l,vld t=true):0<qdz crit l:=by
 induction l with
 |nil=>simp[qdz]
 |cons t l ih=>
  have h1:=ih (fun s hs=>h s (List.mem_cons_of_mem _ hs));have h2:=qcb (h t (by simp));simp only[qdz];refine Nat.mul_pos ?_ h1;split<;>omega
theorem qt5(l:List Tk)(h: ∀t∈l,vld t=true):qdz true l*qdz false l≤20^l.length:=by
 induction l with
 |nil=>simp[qdz]
 |cons t l ih=>
  have h1:=ih (fun s hs=>h s (List.mem_cons_of_mem _ hs));have h2:=qcb (h t (by simp));have h3:t.every.toNat≤20:=by omega
  simp only[qdz,List.length_cons,Nat.pow_succ];rw[Nat.mul_comm (20^l.length) 20];cases t.crit
  ·simp
   calc qdz true l*(t.every.toNat*qdz false l)=t.every.toNat*(qdz true l*qdz false l):=by ac_rfl
    _≤20*20^l.length:=Nat.mul_le_mul h3 h1
  ·simp
   calc t.every.toNat*qdz true l*qdz false l=t.every.toNat*(qdz true l*qdz false l):=by ac_rfl
    _≤20*20^l.length:=Nat.mul_le_mul h3 h1
theorem qgs(crit high:Bool)(l:List Tk)(h: ∀t∈l,vld t=true):(qau crit high l).den∣qdz crit l:=by
 induction l with
 |nil=>simp[qau,qdz]
 |cons t l ih=>
  have h1:=ih (fun s hs=>h s (List.mem_cons_of_mem _ hs));have h2:=qcb (h t (by simp));have h3:=qij crit l (fun s hs=>h s (List.mem_cons_of_mem _ hs));simp only[qau,qdz]
  have hx:(if t.crit=crit then shr high t else 0).den∣(if t.crit=crit then t.every.toNat else 1):=by
   split
   ·exact qdj _ _ (by omega)
   ·simp
  refine qk3 (Nat.mul_ne_zero ?_ (by omega)) (Nat.dvd_trans hx (Nat.dvd_mul_right _ _)) (Nat.dvd_trans h1 (Nat.dvd_mul_left _ _));split<;>omega
def ua(l:List Tk):Rat:=qau false false l
def ub(l:List Tk):Rat:=qau true false l
def uh(l:List Tk):Rat:=qau true true l
def qbh(l:List Tk):Bool:=qec l&&qk1 (ua l+uh l)
def qgn(l:List Tk):Bool:= !qk1 (ua l+ub l)||(ua l).num==((ua l).den:Int)
def qn9(l:List Tk):Rat:=mkRat ((ub l).num*(ua l).den) (((ub l).den:Int)*((ua l).den-(ua l).num)).toNat
def qd0(l:List Tk):Bool:=qbh l||(qec l&& !qgn l&&qk1 (qn9 l*ua l+uh l))
theorem qx5{n:Nat}(h:n≤5):20^n≤3200000:=zll (Nat.pow_le_pow_right (by omega) h) (by decide)
structure FacOk (l:List Tk):Prop where
 a0:0≤(ua l).num
 a1:(ua l).num<((ua l).den:Int)
 b0:0≤(ub l).num
 b1:(ub l).num≤((ub l).den:Int)
 ab:((ua l).den:Int)*((ub l).den:Int)≤3200000
 n0:0≤(ub l).num*((ua l).den:Int)
 n1:(ub l).num*((ua l).den:Int)≤3200000
 d0:1≤((ub l).den:Int)*(((ua l).den:Int)-(ua l).num)
 d1:((ub l).den:Int)*(((ua l).den:Int)-(ua l).num)≤3200000
 facIn:RIn (qn9 l)
 mulIn:RIn (qn9 l*ua l)
 sumIn:RIn (qn9 l*ua l+uh l)
theorem qrg{r:Rat}(h:r≤1):r.num≤(r.den:Int):=by
 have:=qho (r:=r) (n:=1) (by simpa using h);omega
theorem qj8{r:Rat}{n:Nat}(h0:0≤r)(h1:r≤(n:Rat))(hn:n≤6)(hd:r.den≤3200000):RIn r:=by
 have h3:=qho h1;have h5:(n:Int)*(r.den:Int)≤6*(r.den:Int):=Int.mul_le_mul_of_nonneg_right (by omega) (by omega);exact⟨qic h0,by omega,by omega⟩
theorem q3u{x y z f:Rat}{Et Ef:Nat}(hx:0≤x)(hy:0≤y)(hz:0≤z)(hz5:z≤5)(dx:x.den∣Ef)(dy:y.den∣Et)(dz:z.den∣Et)(pe:0<Et)(pf:0<Ef)(hm:Et*Ef≤3200000)
  (hxy:x+y≤1) (hne:x.num≠(x.den:Int)) (hf:f=mkRat (y.num*x.den) ((y.den:Int)*(x.den-x.num)).toNat):
  0≤x.num∧x.num<(x.den:Int)∧0≤y.num∧y.num≤(y.den:Int)∧(x.den:Int)*(y.den:Int)≤3200000∧0≤y.num*(x.den:Int)∧y.num*(x.den:Int)≤3200000∧
   1≤(y.den:Int)*((x.den:Int)-x.num)∧(y.den:Int)*((x.den:Int)-x.num)≤3200000∧RIn f∧RIn (f*x)∧RIn (f*x+z):=by
 have px:=x.den_pos;have py:=y.den_pos;have a0:=qic hx;have b0:=qic hy;have a1:x.num≤(x.den:Int):=qrg (by grind);have b1:y.num≤(y.den:Int):=qrg (by grind);have hAE:=Nat.le_of_dvd pf dx;have hBE:=Nat.le_of_dvd pe dy;have hABn:x.den*y.den≤3200000:=zll (Nat.mul_le_mul hAE hBE) (by rw[Nat.mul_comm];exact hm);have hAB:(x.den:Int)*(y.den:Int)≤3200000:=by rw[←Int.natCast_mul];omega
 have n0:0≤y.num*(x.den:Int):=Int.mul_nonneg b0 (by omega);have n1:y.num*(x.den:Int)≤(y.den:Int)*(x.den:Int):=Int.mul_le_mul_of_nonneg_right b1 (by omega);have c1:(y.den:Int)*(x.den:Int)=(x.den:Int)*(y.den:Int):=Int.mul_comm _ _;have d0:0<(y.den:Int)*((x.den:Int)-x.num):=Int.mul_pos (by omega) (by omega);have d1:(y.den:Int)*((x.den:Int)-x.num)≤(y.den:Int)*(x.den:Int):=Int.mul_le_mul_of_nonneg_left (by omega) (by omega);obtain⟨D,hD⟩: ∃D:Nat,((y.den:Int)*(x.den-x.num)).toNat=D:=⟨_,rfl⟩;have hDI:(D:Int)=(y.den:Int)*((x.den:Int)-x.num):=by omega
 have hD0:D≠0:=by omega
 rw[hD] at hf
 have hDR:((D:Nat):Rat)=(y.den:Rat)*((x.den:Rat)-(x.num:Rat)):=by
  have h1:(((D:Nat):Int):Rat)=(((y.den:Int)*((x.den:Int)-x.num):Int):Rat):=by rw[hDI]
  simpa [Rat.intCast_mul,Rat.intCast_sub,Rat.intCast_natCast] using h1
 have hDR0:((D:Nat):Rat)≠0:=by
  intro e;exact hD0 (by exact_mod_cast e)
 have ex:=qk2 x;have ey:=qk2 y
 have ef:f*(D:Rat)=(y.num:Rat)*(x.den:Rat):=by
  have h1:f=((y.num*(x.den:Int):Int):Rat)/((D:Nat):Rat):=by rw[hf,Rat.mkRat_eq_div]
  have h2:((y.num*(x.den:Int):Int):Rat)=(y.num:Rat)*(x.den:Rat):=by rw[Rat.intCast_mul,Rat.intCast_natCast]
  rw[h2] at h1;grind
 have efx:f*x*(D:Rat)=((y.num*x.num:Int):Rat):=by
  rw[Rat.intCast_mul];grind
 have f0:0≤f:=by rw[hf];exact qll n0 _ hD0
 have xd0:((x.den:Nat):Rat)≠0:=by
  intro e;exact x.den_nz (by exact_mod_cast e)
 have yd0:((y.den:Nat):Rat)≠0:=by
  intro e;exact y.den_nz (by exact_mod_cast e)
 have hfx:f*(1-x)=y:=by
  have h1:(f*(1-x)-y)*((y.den:Rat)*(x.den:Rat))=0:=by
   rw[hDR,←ex,←ey] at ef;grind
  rcases Rat.mul_eq_zero.1 h1 with h|h
  ·grind
  ·rcases Rat.mul_eq_zero.1 h with h|h
   ·exact absurd h yd0
   ·exact absurd h xd0
 have xne:x≠1:=by
  intro e;apply hne
  rw[e];rfl
 have x1:x<1:=by grind
 have f1:f≤1:=by
  apply Classical.byContradiction
  intro h;have h1:0<(f-1)*(1-x):=Rat.mul_pos (by grind) (by grind);grind
 have fx0:0≤f*x:=Rat.mul_nonneg f0 hx;have fx1:f*x≤1:=by grind
 have dD:D≤3200000:=by omega
 have hfd:f.den∣D:=by rw[hf];exact qdj _ _ hD0
 have hfxd:(f*x).den∣D:=qkn hD0 efx;obtain⟨S,hS⟩: ∃S:Nat,(S:Int)=(x.den:Int)-x.num:=⟨((x.den:Int)-x.num).toNat,by omega⟩
 have hDS:D=y.den*S:=by
  have:(D:Int)=((y.den*S:Nat):Int):=by rw[Int.natCast_mul,hS,hDI]
  exact_mod_cast this
 have hM0:Et*S≠0:=Nat.mul_ne_zero (by omega) (by omega);have hMle:Et*S≤3200000:=zll (Nat.mul_le_mul_left _ (show S≤Ef by omega)) hm;have hsd:(f*x+z).den∣Et*S:=qk3 hM0 (Nat.dvd_trans hfxd (by rw[hDS];exact Nat.mul_dvd_mul_right dy _)) (Nat.dvd_trans dz (Nat.dvd_mul_right _ _));refine⟨a0,by omega,b0,b1,hAB,n0,by omega,by omega,by omega,?_,?_,?_⟩
 ·exact qj8 f0 (n:=1) (by simpa using f1) (by omega) (zll (Nat.le_of_dvd (by omega) hfd) dD)
 ·exact qj8 fx0 (n:=1) (by simpa using fx1) (by omega) (zll (Nat.le_of_dvd (by omega) hfxd) dD)
 ·exact qj8 (by grind) (n:=6) (by simp;grind) (by omega) (zll (Nat.le_of_dvd (by omega) hsd) hMle)
theorem qzb{l:List Tk}(hs:qad l=true)(hf:qgn l=false):FacOk l:=by
 obtain⟨hl5,hall⟩:=qaj hs;have hbd1:=qgy false false l hall;have hbd2:=qgy true false l hall;have hbd3:=qgy true true l hall;have hdv1:=qgs false false l hall;have hdv2:=qgs true false l hall;have hdv3:=qgs true true l hall;have hp1:=qij false l hall;have hp2:=qij true l hall;have hpl:=zll (qt5 l hall) (qx5 hl5);simp only[qgn,Bool.or_eq_false_iff,Bool.not_eq_false',beq_eq_false_iff_ne] at hf;obtain⟨hfit,hne⟩:=hf;rw[qt4] at hfit;have hfr:qn9 l=mkRat ((ub l).num*(ua l).den) (((ub l).den:Int)*((ua l).den-(ua l).num)).toNat:=rfl;change 0≤ua l∧_ at hbd1;change 0≤ub l∧_ at hbd2;change 0≤uh l∧_ at hbd3;change(ua l).den∣_ at hdv1;change(ub l).den∣_ at hdv2;change(uh l).den∣_ at hdv3;have h5:((l.length:Nat):Rat)≤5:=by exact_mod_cast hl5
 have hz5:uh l≤5:=Rat.le_trans hbd3.2 h5;obtain⟨m1,m2,m3,m4,m5,m6,m7,m8,m9,m10,m11,m12⟩:=q3u hbd1.1 hbd2.1 hbd3.1 hz5 hdv1 hdv2 hdv3 hp2 hp1 hpl hfit hne hfr;exact⟨m1,m2,m3,m4,m5,m6,m7,m8,m9,m10,m11,m12⟩
theorem q3v(l:List Tk):qec l=true↔qad l=true∧ ∀t∈l,t.due=t.every:=by
 simp only[qec,Bool.and_eq_true,qjn,List.all_eq_true,List.mem_range,decide_eq_true_eq];constructor
 ·rintro⟨h1,h2⟩;refine⟨h1,fun t ht=>?_⟩;obtain⟨k,hk,rfl⟩:=List.getElem_of_mem ht;have:=h2 k hk;rwa [qc3 l k hk] at this
 ·rintro⟨h1,h2⟩;exact⟨h1,fun k hk=>by rw[qc3 l k hk];exact h2 _ (List.getElem_mem hk)⟩
theorem qgo{l:List Tk}(h:qec l=true):qad l=true:=((q3v l).1 h).1
theorem qt6(l:List Tk):qbh l=true↔qec l=true∧ua l+uh l≤1:=by
 simp only[qbh,Bool.and_eq_true,qt4]
theorem qv7{l:List Tk}(h:qd0 l=true):qad l=true:=by
 simp only[qd0,Bool.or_eq_true,Bool.and_eq_true] at h;rcases h with h|h
 ·exact qgo ((qt6 l).1 h).1
 ·exact qgo h.1.1
def qb2(l:List Tk)(p:Int):Bool:=if p=0 then qga l else if p=1 then qd0 l else false
def qnm(l:List Tk)(p:Int):Bool:=if p=0 then(qbb l).isSome else qb2 l p
theorem qop{l:List Tk}{p:Int}(h:qb2 l p=true):qad l=true:=by
 unfold qb2 at h;split at h
 ·rw[qrb,Bool.and_eq_true] at h;exact h.1
 ·split at h
  ·exact qv7 h
  ·cases h
structure Eas (s t:Tk):Prop where
 crit:s.crit=t.crit
 low:s.low≤t.low
 high:s.high≤t.high
 due:t.due≤s.due
 every:s.every=t.every
theorem Eas.refl(t:Tk):Eas t t:=⟨rfl,Int.le_refl _,Int.le_refl _,Int.le_refl _,rfl⟩
theorem Eas.dem{s t:Tk}(h:Eas s t)(ht:vld t=true)(b:Bool){w:Int}(hw:0≤w):qnw s w b≤qnw t w b:=by
 have hj:=(qlo ht hw).1;have e:qg0 s w=qg0 t w:=by simp only[qg0,h.every]
 unfold qnw;rw[e];refine Int.mul_le_mul_of_nonneg_left ?_ hj;have:=h.low;have:=h.high;cases b<;>simp[qln]<;>omega
theorem Eas.sw{s t:Tk}(h:Eas s t)(ht:vld t=true){low w:Int}(hl:0≤low)(hw:0≤w):qf9 s low w≤qf9 t low w:=by
 unfold qf9;rw[h.crit];split
 ·exact h.dem ht _ hw
 ·exact h.dem ht _ hl
def qlw(t:Tk)(n:Int):Tk:={t with high:=n}
def qcc(l:List Tk)(k:Nat)(n:Int):List Tk:=l.set k (qlw (qag l k) n)
theorem at_vld{l:List Tk}{k:Nat}{t:Tk}(hk:k<l.length)(h:qad (l.set k t)=true):vld t=true:=
 (qaj h).2 t (List.mem_set hk t)
theorem qt7(l:List Tk)(k:Nat)(hk:k<l.length):qcc l k (qag l k).high=l:=by
 have:qlw (qag l k) (qag l k).high=l[k]:=by rw[qc3 l k hk];rfl
 rw[qcc,this,List.set_getElem_self]
def qj9(g:Int→Bool):Nat→Option Int
 |0=>none
 |n+1=>if g ((n:Int)+1) then some ((n:Int)+1) else qj9 g n
theorem qv8{g:Int→Bool}{n:Nat}{k:Int}(h:qj9 g n=some k):1≤k∧k≤n∧g k=true∧ ∀j:Int,k<j→j≤n→g j=false:=by
 induction n with
 |zero=>simp[qj9] at h
 |succ n ih=>
  simp only[qj9] at h;split at h
  ·cases h
   exact⟨by omega,by omega,by assumption,fun j h1 h2=>by omega⟩
  ·obtain⟨h0,h1,h2,h3⟩:=ih h;refine⟨h0,by omega,h2,fun j h4 h5=>?_⟩;by_cases e:j=(n:Int)+1
   ·subst e;simpa using ‹¬ g ((n:Int)+1)=true›
   ·exact h3 j h4 (by omega)
theorem q6b{g:Int→Bool}{n:Nat}{k:Int}(h1:1≤k)(h2:k≤n)(h:g k=true): ∃m,qj9 g n=some m∧k≤m:=by
 induction n with
 |zero=>omega
 |succ n ih=>
  simp only[qj9];split
  ·exact⟨_,rfl,by omega⟩
  ·rename_i hn
   by_cases e:k=(n:Int)+1
   ·subst e;exact absurd h hn
   ·exact ih (by omega)
theorem q3w{g:Int→Bool}{n m:Nat}(hm:m≤n)(h: ∀j:Int,(m:Int)<j→j≤n→g j=false):qj9 g n=qj9 g m:=by
 induction n with
 |zero=>
  obtain rfl:m=0:=by omega
  rfl
 |succ n ih=>
  by_cases e:m=n+1
  ·rw[e]
  ·simp only[qj9];rw[h ((n:Int)+1) (by omega) (by omega)];simp only[Bool.false_eq_true,if_false];exact ih (by omega) (fun j h1 h2=>h j h1 (by omega))
def qnx(l:List Tk)(k:Nat)(p:Int):Option Int:=qj9 (fun n=>qb2 (qcc l k n) p) 20
def qbk(l:List Tk)(x:Int)(p:Int):Option Int:=if plc l x&&(qag l x.toNat).crit&&qb2 l p then qnx l x.toNat p else none
theorem qmv{l:List Tk}{k:Nat}{n p:Int}(hk:k<l.length)(h:qb2 (qcc l k n) p=true):(qag l k).low≤n∧n≤(qag l k).due:=by
 have:=qbz (at_vld hk (qop h));simp only[qlw] at this;omega
theorem q0q{l:List Tk}{k:Nat}(hk:k<l.length)(hl:qad l=true)(p:Int):qnx l k p=qj9 (fun n=>qb2 (qcc l k n) p) (qag l k).due.toNat:=by
 have:=qbz (qaq hl hk);refine q3w (by omega) fun j h1 h2=>?_
 cases e:qb2 (qcc l k j) p with
 |false=>rfl
 |true=>have:=qmv hk e;omega
theorem qgp{l:List Tk}{x p n:Int}(h:qbk l x p=some n):
  plc l x=true∧(qag l x.toNat).crit=true∧qb2 l p=true∧qb2 (qcc l x.toNat n) p=true∧qb2 (qcc l x.toNat (n+1)) p=false∧(qag l x.toNat).high≤n∧n≤(qag l x.toNat).due∧n≤20:=by
 simp only[qbk] at h;split at h
 ·rename_i hc
  simp only[Bool.and_eq_true] at hc;obtain⟨⟨hp,hcr⟩,hh⟩:=hc
  have hk:x.toNat<l.length:=by
   simp only[plc,Bool.and_eq_true,decide_eq_true_eq] at hp;omega
  have hvl:=qop hh;have hv:=qbz (qaq hvl hk);obtain⟨h1,h2,h3,h4⟩:=qv8 h;have hb:=qmv hk h3;refine⟨hp,hcr,hh,h3,?_,?_,hb.2,by omega⟩
  ·by_cases e:n+1≤20
   ·exact h4 (n+1) (by omega) (by omega)
   ·cases e':qb2 (qcc l x.toNat (n+1)) p with
    |false=>rfl
    |true=>have:=qmv hk e';omega
  ·obtain⟨m,hm1,hm2⟩:=q6b (g:=fun n=>qb2 (qcc l x.toNat n) p) (n:=20) (k:=(qag l x.toNat).high) (by omega) (by omega) (by
    show qb2 (qcc l x.toNat _) p=true;rw[qt7 l _ hk];exact hh)
   rw[qnx,hm1] at h;cases h
   exact hm2
 ·cases h
section
def qmj(l:List Tk)(js:List Jb)(num den:Int)(mode:Bool)(i:Nat):Int:=
 if(qag l (jK js i)).crit&& !mode then jA js i*den+(qag l (jK js i)).due*num else(jA js i+(qag l (jK js i)).due)*den
section
variable {l:List Tk} {js:List Jb} {num den:Int} {x:Rat} {lv cm:Nat→Nat→Prop} {hi md:Nat→Bool} {run:Nat→Option Nat} {dn:Nat→Nat→Int}
theorem Sch.still{key:Bool→Nat→Int}(S:Sch l js key lv cm hi md run dn){s i:Nat}: ∀k,(∀t,s≤t→t<s+k→run t≠some i)→dn (s+k) i=dn s i:=by
 intro k;induction k with
 |zero=>exact fun _=>rfl
 |succ k ih=>
  intro h;rw[←Nat.add_assoc,S.dnS,if_neg (h (s+k) (by omega) (by omega)),ih (fun t a b=>h t a (by omega)),Int.add_zero]
end
end
section
structure Mc where
 en:List Int
 dn:List Int
 lf:List Nat
 tr:List Int
 sw:List Int
 hi:Bool
def q0r(l:List Tk)(js:List Jb)(tick:Int)(hi:Bool)(i:Nat)(s:List Int×List Nat):List Int×List Nat:=
 if jA js i=tick then(if hi&& !(qag l (jK js i)).crit then(s.1.set i (-2),s.2) else(s.1,s.2++[i])) else s
def qdk(l:List Tk)(js:List Jb)(tick:Int)(hi:Bool)(s:List Int×List Nat):Nat→List Int×List Nat
 |0=>s
 |k+1=>q0r l js tick hi k (qdk l js tick hi s k)
def qi9(g:Nat→Nat→Bool)(lf:List Nat):Nat→Nat
 |0=>lf.getD 0 0
 |k+1=>if g (lf.getD (k+1) 0) (qi9 g lf k) then lf.getD (k+1) 0 else qi9 g lf k
def q0s(js:List Jb)(a b:Nat):Bool:=if(qat js a).task=(qat js b).task then decide (jA js a<jA js b) else decide ((qat js a).task<(qat js b).task)
def qgd(l:List Tk)(js:List Jb)(num den pol:Int)(hi:Bool)(a b:Nat):Bool:=
 if pol=1∧qmj l js num den hi a≠qmj l js num den hi b then decide (qmj l js num den hi a<qmj l js num den hi b) else q0s js a b
def qdc(l:List Tk)(js:List Jb)(lf:List Nat)(en:List Int):Nat→List Int
 |0=>en
 |k+1=>if(qag l (jK js (lf.getD k 0))).crit then qdc l js lf en k else(qdc l js lf en k).set (lf.getD k 0) (-2)
def qb6(en:List Int)(lf:List Nat):Nat→List Nat
 |0=>[]
 |k+1=>qb6 en lf k++(if en.getD (lf.getD k 0) 0= -1 then [lf.getD k 0] else [])
def qca(s:Mc):Bool:=if s.lf=[] then false else s.hi
def qck(l:List Tk)(js:List Jb)(tick:Nat)(s:Mc):List Int×List Nat:=qdk l js tick (qca s) (s.en,s.lf) js.length
def qjo(l:List Tk)(js:List Jb)(num den pol:Int)(hi:Bool)(lf:List Nat):Nat:=qi9 (qgd l js num den pol hi) lf (lf.length-1)
def qf3(l:List Tk)(js:List Jb)(tick:Nat)(hi:Bool)(en:List Int)(lf:List Nat)(sw:List Int)(r:Nat)(d:Int):List Int×Bool×List Int:=
 if d=jN js r then(en.set r ((tick:Int)+1),hi,sw)
 else if !hi&&(qag l (jK js r)).crit&&decide (d=(qag l (jK js r)).low) then(qdc l js lf en lf.length,true,sw++[(tick:Int)+1])
 else(en,hi,sw)
def qg5(l:List Tk)(js:List Jb)(num den pol:Int)(tick:Nat)(s:Mc):Mc:=
 let a:=qck l js tick s
 if a.2=[] then⟨a.1,s.dn,[],s.tr++[-1],s.sw,qca s⟩
 else
  let r:=qjo l js num den pol (qca s) a.2
  let d:=s.dn.getD r 0+1
  let e:=qf3 l js tick (qca s) a.1 a.2 s.sw r d
  ⟨e.1,s.dn.set r d,qb6 e.1 a.2 a.2.length,s.tr++[(qat js r).task],e.2.2,e.2.1⟩
def qd1(l:List Tk)(js:List Jb)(num den pol:Int):Nat→Mc
 |0=>⟨List.replicate js.length (-1),List.replicate js.length 0,[],[],[],false⟩
 |t+1=>qg5 l js num den pol t (qd1 l js num den pol t)
def qsg(l:List Tk)(js:List Jb)(en:List Int)(T:Int)(i:Nat):Bool:=
 decide (jA js i+(qag l (jK js i)).due<en.getD i 0)||(decide (en.getD i 0= -1)&&decide (jA js i+(qag l (jK js i)).due≤T))
def qc0(l:List Tk)(js:List Jb)(en:List Int)(T:Int):Nat→List Nat
 |0=>[]
 |k+1=>qc0 l js en T k++(if qsg l js en T k then [k] else [])
theorem qfr{l:List Tk}{js:List Jb}(h:qa6 l js=true):Apart l js:=by
 simp only[qa6,Bool.and_eq_true,List.all_eq_true,List.mem_range,decide_eq_true_eq] at h;obtain⟨⟨hS,h60⟩,hall⟩:=h
 have hj: ∀i,i<js.length→qbw l (qat js i)=true:=fun i hi=>by
  have:=hall i hi;simp only[qeb,Bool.and_eq_true] at this;exact this.1.1
 have hj': ∀i,i<js.length→0≤jA js i∧jK js i<l.length∧1≤jN js i∧jN js i≤(qag l (jK js i)).high∧(qat js i).task=(jK js i:Int):=by
  intro i hi;have h1:=hj i hi;simp only[qbw,plc,Bool.and_eq_true,decide_eq_true_eq] at h1;obtain⟨⟨⟨⟨⟨⟨_,h2⟩,h3⟩,h4⟩,h5⟩,h6⟩,h7⟩:=h1;exact⟨h4,by unfold jK;omega,h6,h7,by unfold jK;omega⟩
 refine⟨fun i hi=>(hj' i hi).1,fun i hi=>(hj' i hi).2.1,fun i hi=>⟨(hj' i hi).2.2.1,(hj' i hi).2.2.2.1⟩,?_⟩;intro i j hij hjl hk;have h1:=hall j hjl;simp only[qeb,Bool.and_eq_true,List.all_eq_true] at h1
 have h2:=h1.1.2 (qat js i) (by
  rw[qbv js i (by omega)];exact List.mem_take_iff_getElem.2 ⟨i,by omega,rfl⟩)
 have e1:=(hj' i (by omega)).2.2.2.2;have e2:=(hj' j hjl).2.2.2.2;simp only[qy5,Bool.not_eq_true',Bool.and_eq_false_iff,decide_eq_false_iff_not] at h2
 have e3:(qag l (qat js j).task.toNat).every=(qag l (jK js i)).every:=by
  rw[hk];rfl
 rw[e3] at h2;unfold jA;rcases h2 with h2|h2<;>omega
theorem qem(l:List Int)(i j:Nat)(x:Int):(l.set i x).getD j 0=if i=j∧i<l.length then x else l.getD j 0:=by
 rw[List.getD_eq_getElem?_getD,List.getD_eq_getElem?_getD,List.getElem?_set];by_cases h:i=j
 ·subst h;by_cases h2:i<l.length
  ·simp[h2]
  ·simp[h2]
 ·simp[h]
theorem q0t(l:List Tk)(js:List Jb)(tick:Int)(hi:Bool)(s:List Int×List Nat)(k i:Nat):
  i∈(qdk l js tick hi s k).2↔i∈s.2∨(i<k∧jA js i=tick∧(hi=true→(qag l (jK js i)).crit=true)):=by
 induction k with
 |zero=>simp[qdk]
 |succ k ih=>
  simp only[qdk,q0r];split
  ·rename_i ht
   split
   ·rename_i hc
    simp only[Bool.and_eq_true,Bool.not_eq_true'] at hc;rw[ih];constructor
    ·rintro(h|⟨h1,h2⟩)
     ·exact .inl h
     ·exact .inr ⟨by omega,h2⟩
    ·rintro(h|⟨h1,h2,h3⟩)
     ·exact .inl h
     ·refine .inr ⟨?_,h2,h3⟩;apply Classical.byContradiction
      intro hn;obtain rfl:i=k:=by omega
      have:=h3 hc.1;rw[hc.2] at this;cases this
   ·rename_i hc
    rw[List.mem_append,List.mem_singleton,ih];constructor
    ·rintro((h|⟨h1,h2⟩)|rfl)
     ·exact .inl h
     ·exact .inr ⟨by omega,h2⟩
     ·refine .inr ⟨by omega,ht,fun hh=>?_⟩;subst hh;simpa using hc
    ·rintro(h|⟨h1,h2,h3⟩)
     ·exact .inl (.inl h)
     ·by_cases e:i=k
      ·exact .inr e
      ·exact .inl (.inr ⟨by omega,h2,h3⟩)
  ·rename_i ht
   rw[ih];constructor
   ·rintro(h|⟨h1,h2⟩)
    ·exact .inl h
    ·exact .inr ⟨by omega,h2⟩
   ·rintro(h|⟨h1,h2,h3⟩)
    ·exact .inl h
    ·refine .inr ⟨?_,h2,h3⟩;apply Classical.byContradiction
     intro hn;obtain rfl:i=k:=by omega
     exact ht h2
theorem qv9(l:List Tk)(js:List Jb)(tick:Int)(hi:Bool)(s:List Int×List Nat)(k:Nat):(qdk l js tick hi s k).1.length=s.1.length:=by
 induction k with
 |zero=>rfl
 |succ k ih=>
  simp only[qdk,q0r];split
  ·split
   ·rw[List.length_set,ih]
   ·exact ih
  ·exact ih
theorem q0u(l:List Tk)(js:List Jb)(tick:Int)(hi:Bool)(s:List Int×List Nat)(k i:Nat)(hi':i<s.1.length):
  (qdk l js tick hi s k).1.getD i 0=if i<k∧jA js i=tick∧(hi&& !(qag l (jK js i)).crit)=true then-2 else s.1.getD i 0:=by
 induction k with
 |zero=>simp[qdk]
 |succ k ih=>
  simp only[qdk,q0r];split
  ·rename_i ht
   split
   ·rename_i hc
    rw[qem,qv9,ih];by_cases e:k=i
    ·subst e;rw[if_pos ⟨rfl,hi'⟩,if_pos ⟨by omega,ht,hc⟩]
    ·rw[if_neg (fun h=>e h.1)]
     have:i<k∧jA js i=tick∧(hi&& !(qag l (jK js i)).crit)=true↔i<k+1∧jA js i=tick∧(hi&& !(qag l (jK js i)).crit)=true:=by
      constructor
      ·rintro⟨a,b⟩;exact⟨by omega,b⟩
      ·rintro⟨a,b⟩;exact⟨by omega,b⟩
     simp only[this]
   ·rename_i hc
    dsimp only;rw[ih]
    have:i<k∧jA js i=tick∧(hi&& !(qag l (jK js i)).crit)=true↔i<k+1∧jA js i=tick∧(hi&& !(qag l (jK js i)).crit)=true:=by
     constructor
     ·rintro⟨a,b⟩;exact⟨by omega,b⟩
     ·rintro⟨a,b,c⟩;refine⟨?_,b,c⟩;apply Classical.byContradiction
      intro hn;obtain rfl:i=k:=by omega
      exact hc c
    simp only[this]
  ·rename_i ht
   rw[ih]
   have:i<k∧jA js i=tick∧(hi&& !(qag l (jK js i)).crit)=true↔i<k+1∧jA js i=tick∧(hi&& !(qag l (jK js i)).crit)=true:=by
    constructor
    ·rintro⟨a,b⟩;exact⟨by omega,b⟩
    ·rintro⟨a,b,c⟩;refine⟨?_,b,c⟩;apply Classical.byContradiction
     intro hn;obtain rfl:i=k:=by omega
     exact ht b
   simp only[this]
theorem qlx(l:List Tk)(js:List Jb)(lf:List Nat)(en:List Int)(k:Nat):(qdc l js lf en k).length=en.length:=by
 induction k with
 |zero=>rfl
 |succ k ih=>
  simp only[qdc];split
  ·exact ih
  ·rw[List.length_set,ih]
theorem qwa(l:List Tk)(js:List Jb)(lf:List Nat)(en:List Int)(k i:Nat)(hi:i<en.length):
  (qdc l js lf en k).getD i 0=if(∃j,j<k∧lf.getD j 0=i)∧(qag l (jK js i)).crit=false then-2 else en.getD i 0:=by
 induction k with
 |zero=>
  rw[if_neg (fun h=>by obtain⟨⟨j,hj,_⟩,_⟩:=h;omega)];rfl
 |succ k ih=>
  simp only[qdc];by_cases e:lf.getD k 0=i
  ·rw[e];cases hc:(qag l (jK js i)).crit with
   |true=>
    rw[if_pos rfl,ih,if_neg (fun h=>by rw[hc] at h;exact absurd h.2 (by simp)),if_neg (fun h=>absurd h.2 (by simp))]
   |false=>
    rw[if_neg (by simp),qem,if_pos ⟨rfl,by rw[qlx];exact hi⟩,if_pos ⟨⟨k,by omega,e⟩,rfl⟩]
  ·have hx:(∃j,j<k∧lf.getD j 0=i)↔(∃j,j<k+1∧lf.getD j 0=i):=by
    constructor
    ·rintro⟨j,hj,h⟩;exact⟨j,by omega,h⟩
    ·rintro⟨j,hj,h⟩;refine⟨j,?_,h⟩;apply Classical.byContradiction
     intro hn;obtain rfl:j=k:=by omega
     exact e h
   simp only[←hx];split
   ·exact ih
   ·rw[qem,if_neg (fun h=>e h.1)];exact ih
theorem q0v(en:List Int)(lf:List Nat)(k i:Nat):i∈qb6 en lf k↔(∃j,j<k∧lf.getD j 0=i)∧en.getD i 0= -1:=by
 induction k with
 |zero=>
  constructor
  ·intro h;cases h
  ·rintro⟨⟨j,hj,_⟩,_⟩;omega
 |succ k ih=>
  simp only[qb6,List.mem_append,ih];constructor
  ·rintro(⟨⟨j,hj,h1⟩,h2⟩|h)
   ·exact⟨⟨j,by omega,h1⟩,h2⟩
   ·split at h
    ·rename_i hc
     rw[List.mem_singleton] at h;exact⟨⟨k,by omega,h.symm⟩,by rw[h];exact hc⟩
    ·cases h
  ·rintro⟨⟨j,hj,h1⟩,h2⟩;by_cases e:j=k
   ·subst e;right
    rw[h1,if_pos h2];simp
   ·exact .inl ⟨⟨j,by omega,h1⟩,h2⟩
theorem qe5(lf:List Nat)(i:Nat):(∃j,j<lf.length∧lf.getD j 0=i)↔i∈lf:=by
 rw[List.mem_iff_getElem];constructor
 ·rintro⟨j,hj,h⟩;exact⟨j,hj,by simpa [hj] using h⟩
 ·rintro⟨j,hj,h⟩;exact⟨j,hj,by simpa [hj] using h⟩
theorem qsh(g:Nat→Nat→Bool)(lf:List Nat)(k:Nat)(hk:k<lf.length):qi9 g lf k∈lf:=by
 induction k with
 |zero=>exact(qe5 lf _).1 ⟨0,hk,rfl⟩
 |succ k ih=>
  simp only[qi9];split
  ·exact(qe5 lf _).1 ⟨k+1,hk,rfl⟩
  ·exact ih (by omega)
structure MInv (l:List Tk) (js:List Jb) (t:Nat) (s:Mc):Prop where
 enL:s.en.length=js.length
 dnL:s.dn.length=js.length
 lfI: ∀i,i∈s.lf→i<js.length∧jA js i<(t:Int)∧s.en.getD i 0= -1∧s.dn.getD i 0<jN js i∧(s.hi=false→(qag l (jK js i)).crit=true→s.dn.getD i 0<(qag l (jK js i)).low)∧(s.hi=true→(qag l (jK js i)).crit=true)
 fut: ∀i,i<js.length→(t:Int)≤jA js i→s.en.getD i 0= -1∧s.dn.getD i 0=0
 dnLe: ∀i,i<js.length→0≤s.dn.getD i 0∧s.dn.getD i 0≤jN js i
 gone: ∀i,i<js.length→jA js i<(t:Int)→i∉s.lf→s.en.getD i 0≠ -1
theorem q6c{s:Mc}{i:Nat}(h:i∈s.lf):qca s=s.hi:=by
 unfold qca;rw[if_neg (fun e=>by rw[e] at h;cases h)]
section
variable {l:List Tk} {js:List Jb} {num den pol:Int}
theorem qt8{t:Nat}{s:Mc}(i:Nat):i∈(qck l js t s).2↔i∈s.lf∨(i<js.length∧jA js i=(t:Int)∧(qca s=true→(qag l (jK js i)).crit=true)):=q0t l js t (qca s) (s.en,s.lf) js.length i
theorem MInv.come{t:Nat}{s:Mc}(I:MInv l js t s)(A:Apart l js)(hv: ∀k,k<l.length→vld (qag l k)=true){i:Nat}(h:i∈(qck l js t s).2):
  i<js.length∧jA js i≤(t:Int)∧(qck l js t s).1.getD i 0= -1∧s.dn.getD i 0<jN js i∧(qca s=false→(qag l (jK js i)).crit=true→s.dn.getD i 0<(qag l (jK js i)).low)∧(qca s=true→(qag l (jK js i)).crit=true):=by
 have hen:=fun hi=>q0u l js t (qca s) (s.en,s.lf) js.length i hi
 rcases(qt8 i).1 h with h|⟨h1,h2,h3⟩
 ·obtain⟨a1,a2,a3,a4,a5,a6⟩:=I.lfI i h;rw[q6c h];refine⟨a1,by omega,?_,a4,a5,a6⟩;unfold qck;rw[hen (by show i<s.en.length;rw[I.enL];exact a1),if_neg (fun e=>by omega)];exact a3
 ·obtain⟨b1,b2⟩:=I.fut i h1 (by omega);have hn:=(A.need i h1).1;have hb:=qcb (hv _ (A.tk i h1));refine⟨h1,by omega,?_,by omega,fun _ _=>by omega,h3⟩;unfold qck;rw[hen (by show i<s.en.length;rw[I.enL];exact h1),if_neg]
  ·exact b1
  ·rintro⟨_,_,e⟩;simp only[Bool.and_eq_true,Bool.not_eq_true'] at e;have:=h3 e.1;rw[e.2] at this;cases this
theorem MInv.goneA{t:Nat}{s:Mc}(I:MInv l js t s){i:Nat}(hi:i<js.length)(ha:jA js i≤(t:Int))(h:i∉(qck l js t s).2):(qck l js t s).1.getD i 0≠ -1:=by
 have hen:=q0u l js t (qca s) (s.en,s.lf) js.length i (by show i<s.en.length;rw[I.enL];exact hi);rw[qt8] at h;unfold qck;rw[hen];by_cases e:jA js i=(t:Int)
 ·have hc:(qca s&& !(qag l (jK js i)).crit)=true:=by
   apply Classical.byContradiction
   intro hn;apply h
   refine .inr ⟨hi,e,fun hm=>?_⟩;rw[hm] at hn;simpa using hn
  rw[if_pos ⟨hi,e,hc⟩];decide
 ·rw[if_neg (fun h=>e h.2.1)];exact I.gone i hi (by omega) (fun h'=>h (.inl h'))
theorem qt9{t:Nat}{s:Mc}(I:MInv l js t s):(qck l js t s).1.length=js.length:=(qv9 ..).trans I.enL
theorem q6d(t:Nat)(hi:Bool)(en:List Int)(lf:List Nat)(sw:List Int)(r:Nat)(d:Int):(qf3 l js t hi en lf sw r d).1.length=en.length:=by
 unfold qf3;split
 ·exact List.length_set
 ·split
  ·exact qlx ..
  ·rfl
theorem end_en(t:Nat)(hi:Bool)(en:List Int)(lf:List Nat)(sw:List Int)(r:Nat)(d:Int){i:Nat}(hi':i<en.length):
  (qf3 l js t hi en lf sw r d).1.getD i 0=en.getD i 0∨(i=r∧d=jN js r∧(qf3 l js t hi en lf sw r d).1.getD i 0=(t:Int)+1)∨(i∈lf∧(qag l (jK js i)).crit=false∧(qf3 l js t hi en lf sw r d).1.getD i 0= -2):=by
 unfold qf3;split
 ·rename_i hd
  dsimp only;rw[qem];split
  ·rename_i h
   exact .inr (.inl ⟨h.1.symm,hd,rfl⟩)
  ·exact .inl rfl
 ·split
  ·dsimp only;rw[qwa _ _ _ _ _ _ hi'];split
   ·rename_i h
    exact .inr (.inr ⟨(qe5 lf i).1 h.1,h.2,rfl⟩)
   ·exact .inl rfl
  ·exact .inl rfl
theorem MInv.step(A:Apart l js)(hv: ∀k,k<l.length→vld (qag l k)=true){t:Nat}{s:Mc}(I:MInv l js t s):MInv l js (t+1) (qg5 l js num den pol t s):=by
 have hC:=fun {i} (h:i∈(qck l js t s).2)=>I.come A hv h
 have hG:=fun {i} (h1:i<js.length) (h2:jA js i≤(t:Int)) (h3:i∉(qck l js t s).2)=>I.goneA h1 h2 h3
 have hL:=qt9 I
 have hfutA: ∀i,i<js.length→((t:Int)+1)≤jA js i→(qck l js t s).1.getD i 0= -1:=by
  intro i h1 h2;unfold qck;rw[q0u l js t (qca s) (s.en,s.lf) js.length i (by show i<s.en.length;rw[I.enL];exact h1),if_neg (fun e=>by omega)];exact(I.fut i h1 (by omega)).1
 unfold qg5;by_cases he:(qck l js t s).2=[]
 ·simp only[he,if_true];refine⟨hL,I.dnL,fun i h=>(by cases h),fun i h1 h2=>⟨hfutA i h1 (by omega),(I.fut i h1 (by omega)).2⟩,I.dnLe,fun i h1 h2 _=>hG h1 (by omega) (by rw[he];simp)⟩
 ·simp only[he,if_false]
  have hlen:0<(qck l js t s).2.length:=by
   apply Nat.pos_of_ne_zero
   intro e;exact he (List.eq_nil_of_length_eq_zero e)
  have hr:=qsh (qgd l js num den pol (qca s)) (qck l js t s).2 ((qck l js t s).2.length-1) (by omega);change qjo l js num den pol (qca s) (qck l js t s).2∈_ at hr;generalize qjo l js num den pol (qca s) (qck l js t s).2=r at hr;obtain⟨r1,r2,r3,r4,r5,r6⟩:=hC hr
  have hdn: ∀i,(s.dn.set r (s.dn.getD r 0+1)).getD i 0=if r=i then s.dn.getD r 0+1 else s.dn.getD i 0:=by
   intro i;rw[qem];by_cases e:r=i
   ·subst e;rw[if_pos rfl,if_pos ⟨rfl,by rw[I.dnL];exact r1⟩]
   ·rw[if_neg e,if_neg (fun h=>e h.1)]
  have hen:=fun {i} (hi':i<js.length)=>end_en (l:=l) (js:=js) t (qca s) (qck l js t s).1 (qck l js t s).2 s.sw r (s.dn.getD r 0+1) (i:=i) (by rw[hL];exact hi')
  have hst: ∀i,i∈qb6 (qf3 l js t (qca s) (qck l js t s).1 (qck l js t s).2 s.sw r (s.dn.getD r 0+1)).1 (qck l js t s).2 (qck l js t s).2.length↔i∈(qck l js t s).2∧(qf3 l js t (qca s) (qck l js t s).1 (qck l js t s).2 s.sw r (s.dn.getD r 0+1)).1.getD i 0= -1:=by
   intro i;rw[q0v,qe5]
  refine⟨by rw[q6d];exact hL,by rw[List.length_set];exact I.dnL,?_,?_,?_,?_⟩
  ·intro i h;rw[hst] at h;obtain⟨h1,h2⟩:=h;obtain⟨a1,a2,a3,a4,a5,a6⟩:=hC h1;rw[hdn];refine⟨a1,by omega,h2,?_⟩;unfold qf3 at h2⊢;by_cases hd:s.dn.getD r 0+1=jN js r
   ·rw[if_pos hd] at h2⊢;dsimp only at h2⊢
    have hne: ¬r=i:=by
     intro e;subst e;rw[qem,if_pos ⟨rfl,by rw[hL];exact a1⟩] at h2;omega
    rw[if_neg hne];exact⟨a4,a5,a6⟩
   ·rw[if_neg hd] at h2⊢;split at h2
    ·rename_i hsw
     rw[if_pos hsw];dsimp only at h2⊢;rw[qwa _ _ _ _ _ _ (by rw[hL];exact a1)] at h2
     have hcr:(qag l (jK js i)).crit=true:=by
      cases hcr:(qag l (jK js i)).crit with
      |true=>rfl
      |false=>
       rw[if_pos ⟨(qe5 _ i).2 h1,hcr⟩] at h2;cases h2
     refine⟨?_,fun h=>(by cases h),fun _=>hcr⟩;split
     ·rename_i e
      subst e;omega
     ·exact a4
    ·rename_i hsw
     rw[if_neg hsw];dsimp only at h2⊢;by_cases e:r=i
     ·subst e;rw[if_pos rfl];refine⟨by omega,fun hm hc=>?_,a6⟩;have h7:=a5 hm hc;apply Classical.byContradiction
      intro hn;apply hsw
      have hc':(qag l (jK js r)).crit=true:=hc;simp only[hm,hc',Bool.not_false,Bool.true_and,decide_eq_true_eq];omega
     ·rw[if_neg e];exact⟨a4,a5,a6⟩
  ·intro i h1 h2;have hni:i∉(qck l js t s).2:=fun h=>by have:=(hC h).2.1;omega
   refine⟨?_,?_⟩
   ·rcases hen h1 with h|⟨h,_⟩|⟨h,_⟩
    ·rw[h];exact hfutA i h1 (by omega)
    ·exact absurd (h▸hr) hni
    ·exact absurd h hni
   ·rw[hdn,if_neg (fun e:r=i=>hni (e▸hr))];exact(I.fut i h1 (by omega)).2
  ·intro i h1;rw[hdn];have:=I.dnLe i h1;split
   ·rename_i e
    subst e;omega
   ·exact this
  ·intro i h1 h2 h3;by_cases hia:i∈(qck l js t s).2
   ·intro h4;exact h3 ((hst i).2 ⟨hia,h4⟩)
   ·rcases hen h1 with h|⟨h,_⟩|⟨h,_⟩
    ·rw[h];exact hG h1 (by omega) hia
    ·exact absurd (h▸hr) hia
    ·exact absurd h hia
theorem minv(A:Apart l js)(hv: ∀k,k<l.length→vld (qag l k)=true)(t:Nat):MInv l js t (qd1 l js num den pol t):=by
 induction t with
 |zero=>
  refine⟨by simp[qd1],by simp[qd1],fun i h=>(by cases h),fun i h1 _=>by simp[qd1,h1],fun i h1=>?_,fun i h1 h2=>?_⟩
  ·have:=(A.need i h1).1;simp[qd1,h1];omega
  ·have:=A.at0 i h1;omega
 |succ t ih=>exact ih.step A hv
end
def facQ(l:List Tk):Rat:=if qbh l then 1 else qn9 l
theorem q0w(l:List Tk)(js:List Jb)(tick:Int)(hi:Bool)(s:List Int×List Nat)(k:Nat):(qdk l js tick hi s k).2.length≤s.2.length+k:=by
 induction k with
 |zero=>exact zlr _
 |succ k ih=>
  simp only[qdk,q0r];split
  ·split
   ·dsimp only;omega
   ·simp only[List.length_append,List.length_singleton];omega
  ·omega
theorem q3x(en:List Int)(lf:List Nat)(k:Nat):(qb6 en lf k).length≤k:=by
 induction k with
 |zero=>exact zlr _
 |succ k ih=>
  simp only[qb6,List.length_append];split<;>simp<;>omega
theorem qka{l:List Tk}{js:List Jb}{num den pol:Int}(h:js.length≤60)(k:Nat):(qd1 l js num den pol k).tr.length=k∧(qd1 l js num den pol k).sw.length≤k∧(qd1 l js num den pol k).lf.length≤60*k:=by
 induction k with
 |zero=>exact⟨rfl,zlr _,zlr _⟩
 |succ k ih=>
  obtain⟨h1,h2,h3⟩:=ih;have ha:=q0w l js k (qca (qd1 l js num den pol k)) ((qd1 l js num den pol k).en,(qd1 l js num den pol k).lf) js.length;have ha:(qck l js k (qd1 l js num den pol k)).2.length≤(qd1 l js num den pol k).lf.length+js.length:=ha;show(qg5 l js num den pol k (qd1 l js num den pol k)).tr.length=_∧(qg5 l js num den pol k (qd1 l js num den pol k)).sw.length≤_∧(qg5 l js num den pol k (qd1 l js num den pol k)).lf.length≤_;unfold qg5;by_cases he:(qck l js k (qd1 l js num den pol k)).2=[]
  ·simp only[he,if_true];exact⟨by simp[h1],by omega,by simp⟩
  ·simp only[he,if_false];refine⟨by simp[h1],?_,?_⟩
   ·unfold qf3;split
    ·show(qd1 l js num den pol k).sw.length≤_;omega
    ·split
     ·simp;omega
     ·show(qd1 l js num den pol k).sw.length≤_;omega
   ·exact zll (q3x _ _ _) (by omega)
theorem qly{l:List Tk}{js:List Jb}{num den pol:Int}{k:Nat}{s:Mc}{en en':List Int}{lf st:List Nat}{r:Nat}{d:Int}{hi:Bool}{sw:List Int}(ha:qck l js k s=(en,lf))(hne:lf≠[])(hr:qjo l js num den pol (qca s) lf=r)(hd:s.dn.getD r 0+1=d)
  (he:qf3 l js k (qca s) en lf s.sw r d=(en',hi,sw)) (hst:qb6 en' lf lf.length=st):qg5 l js num den pol k s=⟨en',s.dn.set r d,st,s.tr++[(qat js r).task],sw,hi⟩:=by
 unfold qg5;simp only[ha,hne,if_false,hr,hd,he,hst]
theorem qrh{l:List Tk}{js:List Jb}{num den pol:Int}{k:Nat}{s:Mc}{en:List Int}(ha:qck l js k s=(en,[])):qg5 l js num den pol k s=⟨en,s.dn,[],s.tr++[-1],s.sw,qca s⟩:=by
 unfold qg5;simp only[ha,if_true]
end
def qge(l:List Tk)(x:Int):Bool:=plc l x&&qgi l x.toNat
theorem qzc{l:List Tk}{k:Nat}(hk:k<l.length):(l.eraseIdx k++[qag l k]).Perm l:=by
 rw[qc3 l k hk];exact(List.perm_append_comm (l₁:=l.eraseIdx k) (l₂:=[l[k]])).trans (qx2 l k hk)
theorem qua{l:List Tk}(hs:qad l=true){k:Nat}(hk:k<l.length):qad (l.eraseIdx k++[qag l k])=true:=qih (Sub.perm (qzc hk)) hs
theorem q0x{l:List Tk}{k:Nat}:qer (l.eraseIdx k++[qag l k]) (l.eraseIdx k).length=qgi l k:=by
 have e:qag (l.eraseIdx k++[qag l k]) (l.eraseIdx k).length=qag l k:=by
  rw[qc3 _ _ (by simp)];simp
 rw[qmp (by simp),e,List.take_left,qgi]
theorem qzd{l:List Tk}(hs:qad l=true){k:Nat}(hk:k<l.length):qkk (l.eraseIdx k++[qag l k]) (((l.eraseIdx k).length:Nat):Int)=qgi l k:=by
 rw[qmt (qua hs hk) (by simp),q0x]
theorem qhr{w:World}{b:Nat}{t:Tk}{ty:TypeId}{cs:Array Value}(h:w.heap[b]? =some (.cells cs ty (0,0)))(hcs:cs.toList=t.cells):TS w (some ⟨b,0,none⟩) [t]:=by
 intro _;refine⟨b,0,rfl,(bl h),fun j u hu=>?_⟩;rw[Nat.zero_add,cell_of_row w b j cs ty (0,0) h,←Array.getElem?_toList,hcs];simpa [qeg] using hu
theorem qqd(A:ZA)(l:List Tk)(c:Nat)(x:Int)(w:World)(h:TS w A l)(hm:l.length≤maxLen)(hlc:l.length≤c):
  Calls Tryz.prog 146 #[.slice A l.length c,.int .i64 x] w fun e w'=>e=.returned (.bool (qge l x))∧Below w.heap.size w w':=by
 cases hP:plc l x with
 |false=>
  have hv:Hid (qge l x=false):=by simp[Hid,qge,hP]
  go_enter Tryz.func146,Tryz.ntmps146;go_wp2_with fail;refine(qdx A l c x _ h hm).mono ?_;rw[hP];rintro e w1 ⟨rfl,b1⟩;go_wp2_with fail;go_ret;exact⟨by rw[hv.out];rfl,b1⟩
 |true=>
  obtain⟨hs,hl5,hlt,hx⟩:=qc6 hP;have hv:Hid (qge l x=qgi l x.toNat):=by simp[Hid,qge,hP]
  obtain⟨n,rfl⟩: ∃n:Nat,x=(n:Int):=⟨_,hx⟩;rw[Int.toNat_natCast] at*;have HS:=zhi hs;clear hx hs;go_enter Tryz.func146,Tryz.ntmps146;go_wp2_with fail;refine(qdx A l c n _ h hm).mono ?_;rw[hP];clear hP;rintro e w1 ⟨rfl,b1⟩;obtain⟨b,off,rfl,hbl,hc⟩:=h.keep b1 (by omega);obtain⟨c0,c1,c2,c3,c4⟩:=qav hc n hlt;clear hc
  have S_of: ∀w':World,Below w1.heap.size w1 w'→w'.cell? ⟨b,off+n*5,none⟩=some (.int .i64 (qag l n).low)∧w'.cell? ⟨b,off+n*5+1,none⟩=some (.int .i64 (qag l n).high)∧w'.cell? ⟨b,off+n*5+2,none⟩=some (.int .i64 (qag l n).due)∧
    w'.cell? ⟨b,off+n*5+3,none⟩=some (.int .i64 (qag l n).every)∧w'.cell? ⟨b,off+n*5+4,none⟩=some (.bool (qag l n).crit)∧Below w1.heap.size w1 w':=fun w' hw=>
   ⟨(hw.cell (p:=⟨b,off+n*5,none⟩) hbl).trans c0,(hw.cell (p:=⟨b,off+n*5+1,none⟩) hbl).trans c1,(hw.cell (p:=⟨b,off+n*5+2,none⟩) hbl).trans c2,(hw.cell (p:=⟨b,off+n*5+3,none⟩) hbl).trans c3,(hw.cell (p:=⟨b,off+n*5+4,none⟩) hbl).trans c4,hw⟩
  have q0:(0:Int)≤(n:Int):=by omega
  have q1:(n:Int)<(l.length:Int):=by omega
  have el:Hid ((l.eraseIdx n).length=l.length-1):=List.length_eraseIdx_of_lt hlt;have el5:(l.eraseIdx n).length≤5:=by rw[el.out];omega
  clear c0 c1 c2 c3 c4;go_wp2_with fail
  go_region_held3 (fun w'=>w'.cell? ⟨b,off+n*5,none⟩=some (.int .i64 (qag l n).low)∧w'.cell? ⟨b,off+n*5+1,none⟩=some (.int .i64 (qag l n).high)∧w'.cell? ⟨b,off+n*5+2,none⟩=some (.int .i64 (qag l n).due)∧
    w'.cell? ⟨b,off+n*5+3,none⟩=some (.int .i64 (qag l n).every)∧w'.cell? ⟨b,off+n*5+4,none⟩=some (.bool (qag l n).crit)∧Below w1.heap.size w1 w')
   ((refine S_of _ ?_;first|assumption|exact zdr br|exact zdr (bal br _)|exact(by assumption:_∧_∧_∧_∧_∧Below w1.heap.size w1 _).2.2.2.2.2|(refine bal ?_ _;first|assumption|exact(by assumption:_∧_∧_∧_∧_∧Below w1.heap.size w1 _).2.2.2.2.2)))
   (first
    |(go_at_call 199;refine(qh2 (some ⟨b,off,none⟩) l c n (World.drew (World.alloc _ _)) (h.keep (qaa b1 (by first|assumption|exact(by assumption:_∧_∧_∧_∧_∧Below w1.heap.size w1 _).2.2.2.2.2))) hlt hlc (by omega)).mono ?_;rintro e w5 ⟨A5,c5,rfl,o5,b5⟩;have o5:OT w1.heap.size w5 A5 c5 (l.eraseIdx n):=qal o5 (by simp);have HN:=zhi ((b5.block w1.heap.size (by show w1.heap.size<(World.alloc w1 _).heap.size;rw[World.size_alloc];exact Nat.lt_succ_self _)).trans (zha w1 _));have B5:Below w1.heap.size w1 w5:=qaa (by first|assumption|exact(by assumption:_∧_∧_∧_∧_∧Below w1.heap.size w1 _).2.2.2.2.2) b5)
    |(go_at_call 199;refine(qh2 (some ⟨b,off,none⟩) l c n _ (h.keep (qaa b1 (by first|assumption|exact(by assumption:_∧_∧_∧_∧_∧Below w1.heap.size w1 _).2.2.2.2.2))) hlt hlc (by omega)).mono ?_;rintro e w5 ⟨A5,c5,rfl,o5,b5⟩;have B5:Below w1.heap.size w1 w5:=qaa (by first|assumption|exact(by assumption:_∧_∧_∧_∧_∧Below w1.heap.size w1 _).2.2.2.2.2) b5;have o5:OT w1.heap.size w5 A5 c5 (l.eraseIdx n):=qal o5 (by simp))
    |(have hsrc:=HN.out;refine qay rfl (.tmp 12) (.tmp 17) rfl w1.heap.size A5 (l.eraseIdx n) _ c5 rfl (by simp[Act.eval]) o5 ⟨w1.heap.size,0,none⟩ 1 1 [qag l n] rfl (by simp[Act.eval]) (qhr hsrc rfl) (by rw[el.out];omega) (by simp) B5.size ?_;intro A7 c7 w7 o7 g7 b7;clear hsrc;have B7:Below w1.heap.size w1 w7:=B5.trans b7)
    |(refine qay rfl (.tmp 12) (.tmp 17) rfl w1.heap.size A5 (l.eraseIdx n) _ c5 rfl (by simp[Act.eval]) (qbf o5 _) ⟨w5.heap.size,0,none⟩ 1 1 [qag l n] rfl (by simp[Act.eval]) (qhr (zha w5 _) rfl) (by rw[el.out];omega) (by simp) (by have:=B5.size;rw[World.size_alloc];omega) ?_;intro A7 c7 w7 o7 g7 b7;have B7:Below w1.heap.size w1 w7:=(bal B5 _).trans b7))
  all_goals go_wp2_with fail
  all_goals
   have K:=qk0 A7 (l.eraseIdx n++[qag l n]) c7 (l.eraseIdx n).length w7 o7.ts (qua HS.out hlt) (by simp);rw[q0x,show(l.eraseIdx n++[qag l n]).length=(l.eraseIdx n).length+1 by simp] at K;refine K.mono ?_;rintro e w8 ⟨rfl,b8⟩;go_wp2_with fail;go_ret;exact⟨by rw[hv.out];rfl,qaa b1 (qaa B7 b8)⟩
theorem qqe(A:ZA)(l:List Tk)(c:Nat)(x:Int)(w:World)(h:TS w A l)(_hlc:l.length≤c):
  Calls Tryz.prog 177 #[.slice A l.length c,.int .i64 x] w fun e w'=>e=.returned (.bool (qge l x))∧Below w.heap.size w w':=by
 cases hP:plc l x with
 |false=>
  have hv:Hid (qge l x=false):=by simp[Hid,qge,hP]
  go_enter Tryz.func177,Tryz.ntmps177;go_wp2_with fail;refine(qbo A l c x _ h).mono ?_;rw[hP];rintro e w1 ⟨rfl,b1⟩;go_wp2_with fail;go_ret;exact⟨by rw[hv.out];rfl,b1⟩
 |true=>
  obtain⟨hs,hl5,hlt,hx⟩:=qc6 hP;have hv:Hid (qge l x=qgi l x.toNat):=by simp[Hid,qge,hP]
  obtain⟨n,rfl⟩: ∃n:Nat,x=(n:Int):=⟨_,hx⟩;rw[Int.toNat_natCast] at*;have HS:=zhi hs;clear hx hs;go_enter Tryz.func177,Tryz.ntmps177;go_wp2_with fail;refine(qbo A l c n _ h).mono ?_;rw[hP];clear hP;rintro e w1 ⟨rfl,b1⟩;obtain⟨b,off,rfl,hbl,hc⟩:=h.keep b1 (by omega);obtain⟨c0,c1,c2,c3,c4⟩:=qav hc n hlt;clear hc
  have S_of: ∀w':World,Below w1.heap.size w1 w'→w'.cell? ⟨b,off+n*5,none⟩=some (.int .i64 (qag l n).low)∧w'.cell? ⟨b,off+n*5+1,none⟩=some (.int .i64 (qag l n).high)∧w'.cell? ⟨b,off+n*5+2,none⟩=some (.int .i64 (qag l n).due)∧
    w'.cell? ⟨b,off+n*5+3,none⟩=some (.int .i64 (qag l n).every)∧w'.cell? ⟨b,off+n*5+4,none⟩=some (.bool (qag l n).crit)∧Below w1.heap.size w1 w':=fun w' hw=>
   ⟨(hw.cell (p:=⟨b,off+n*5,none⟩) hbl).trans c0,(hw.cell (p:=⟨b,off+n*5+1,none⟩) hbl).trans c1,(hw.cell (p:=⟨b,off+n*5+2,none⟩) hbl).trans c2,(hw.cell (p:=⟨b,off+n*5+3,none⟩) hbl).trans c3,(hw.cell (p:=⟨b,off+n*5+4,none⟩) hbl).trans c4,hw⟩
  have q0:(0:Int)≤(n:Int):=by omega
  have q1:(n:Int)<(l.length:Int):=by omega
  have qw:IntKind.i64.wrap ((n:Int)+1)=(n:Int)+1:=IntWalk.i64_in _ (by omega);have el:Hid ((l.eraseIdx n).length=l.length-1):=List.length_eraseIdx_of_lt hlt;have el5:(l.eraseIdx n).length≤5:=by rw[el.out];omega
  clear c0 c1 c2 c3 c4;go_wp2_with fail
  go_region_held3 (fun w'=>w'.cell? ⟨b,off+n*5,none⟩=some (.int .i64 (qag l n).low)∧w'.cell? ⟨b,off+n*5+1,none⟩=some (.int .i64 (qag l n).high)∧w'.cell? ⟨b,off+n*5+2,none⟩=some (.int .i64 (qag l n).due)∧
    w'.cell? ⟨b,off+n*5+3,none⟩=some (.int .i64 (qag l n).every)∧w'.cell? ⟨b,off+n*5+4,none⟩=some (.bool (qag l n).crit)∧Below w1.heap.size w1 w')
   ((refine S_of _ ?_;first|assumption|exact zdr br|exact zdr (bal br _)|exact(by assumption:_∧_∧_∧_∧_∧Below w1.heap.size w1 _).2.2.2.2.2|(refine bal ?_ _;first|assumption|exact(by assumption:_∧_∧_∧_∧_∧Below w1.heap.size w1 _).2.2.2.2.2)))
   (first
    |(go_at_call 172;refine(qcu (some ⟨b,off,none⟩) l c (World.drew (World.alloc _ _)) (h.keep (qaa b1 (by first|assumption|exact(by assumption:_∧_∧_∧_∧_∧Below w1.heap.size w1 _).2.2.2.2.2))) (by omega)).mono ?_;rintro e w5 ⟨A5,c5,rfl,o5,b5⟩;obtain⟨g5,rfl,hg5',hl5⟩:=qf8 o5 (by omega);have hne5:w1.heap.size≠g5:=Nat.ne_of_lt (zlt (by show w1.heap.size<(World.alloc w1 _).heap.size;rw[World.size_alloc];exact Nat.lt_succ_self _) hg5');have hg5:w1.heap.size≤g5:=zll (by show w1.heap.size≤(World.alloc w1 _).heap.size;rw[World.size_alloc];exact Nat.le_succ _) hg5';have o5:OT w1.heap.size w5 (some ⟨g5,0,none⟩) c5 l:=qal o5 (by simp);have HN:=zhi ((b5.block w1.heap.size (by show w1.heap.size<(World.alloc w1 _).heap.size;rw[World.size_alloc];exact Nat.lt_succ_self _)).trans (zha w1 _));have hz5:w1.heap.size<w5.heap.size:=zlt (by show w1.heap.size<(World.alloc w1 _).heap.size;rw[World.size_alloc];exact Nat.lt_succ_self _) b5.size;have B5:Below w1.heap.size w1 w5:=qaa (by first|assumption|exact(by assumption:_∧_∧_∧_∧_∧Below w1.heap.size w1 _).2.2.2.2.2) b5)
    |(go_at_call 172;refine(qcu (some ⟨b,off,none⟩) l c _ (h.keep (qaa b1 (by first|assumption|exact(by assumption:_∧_∧_∧_∧_∧Below w1.heap.size w1 _).2.2.2.2.2))) (by omega)).mono ?_;rintro e w5 ⟨A5,c5,rfl,o5,b5⟩;have B5:Below w1.heap.size w1 w5:=qaa (by first|assumption|exact(by assumption:_∧_∧_∧_∧_∧Below w1.heap.size w1 _).2.2.2.2.2) b5;have o5:OT w1.heap.size w5 A5 c5 l:=qal o5 (by simp);obtain⟨g5,rfl,hg5,hl5⟩:=qf8 o5 (by omega))
    |(go_at_call 191;have hn5:=HN.out;refine(qfq w1.heap.size g5 c5 n l _ o5 hlt (by omega)).mono ?_;rintro e w6 ⟨rfl,o6,gr6⟩;have HN6:=zhi ((gr6.block w1.heap.size hz5 (fun e=>hne5 (Option.some.inj e))).trans hn5);clear hn5;have B6:Below w1.heap.size w1 w6:=B5.trans (qlt gr6 hg5 B5.size))
    |(go_at_call 191;refine(qfq w1.heap.size g5 c5 n l (World.alloc _ _) (qbf o5 _) hlt (by omega)).mono ?_;rintro e w6 ⟨rfl,o6,gr6⟩;have HN6:=zhi ((gr6.block w5.heap.size (by rw[World.size_alloc];exact Nat.lt_succ_self _) (fun e=>Nat.ne_of_gt hl5 (Option.some.inj e))).trans (zha w5 _));have B6:Below w1.heap.size w1 w6:=(bal B5 _).trans (qlt gr6 hg5 (bal B5 _).size))
    |(go_at_call 191;refine(qfq w1.heap.size g5 c5 n l _ o5 hlt (by omega)).mono ?_;rintro e w6 ⟨rfl,o6,gr6⟩;have B6:Below w1.heap.size w1 w6:=B5.trans (qlt gr6 hg5 B5.size))
    |(have hsrc:=HN6.out;refine qay rfl (.tmp 15) (.tmp 20) rfl w1.heap.size (some ⟨g5,0,none⟩) (l.eraseIdx n) _ c5 rfl (by simp[Act.eval]) o6 ⟨_,0,none⟩ 1 1 [qag l n] rfl (by simp[Act.eval]) (qhr hsrc rfl) (by rw[el.out];omega) (by simp) B6.size ?_;intro A7 c7 w7 o7 g7 b7;clear hsrc;have B7:Below w1.heap.size w1 w7:=B6.trans b7)
    |(refine qay rfl (.tmp 15) (.tmp 20) rfl w1.heap.size (some ⟨g5,0,none⟩) (l.eraseIdx n) _ c5 rfl (by simp[Act.eval]) (qbf o6 _) ⟨w6.heap.size,0,none⟩ 1 1 [qag l n] rfl (by simp[Act.eval]) (qhr (zha w6 _) rfl) (by rw[el.out];omega) (by simp) (by have:=B6.size;rw[World.size_alloc];omega) ?_;intro A7 c7 w7 o7 g7 b7;have B7:Below w1.heap.size w1 w7:=(bal B6 _).trans b7))
  all_goals go_wp2_with fail
  all_goals
   have h7:=qao o7;have K:=qmu A7 (l.eraseIdx n++[qag l n]) c7 ((l.eraseIdx n).length:Nat) w7 o7.ts h7.1;rw[qzd HS.out hlt,show(l.eraseIdx n++[qag l n]).length=(l.eraseIdx n).length+1 by simp] at K;clear h7;refine K.mono ?_;rintro e w8 ⟨rfl,b8⟩;go_wp2_with fail;go_ret;exact⟨by rw[hv.out];rfl,qaa b1 (qaa B7 b8)⟩
end Go.Proofs.YtmkjmancmiphfaaGreatDoor
