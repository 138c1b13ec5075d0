/-
  The walks of holds, FirstBad, HoldsBoth: the program's and the reference's.
  The walks of FirstBad and HoldsBoth.
  The walks of Implicit, plus, times, fits.
  The virtual deadlines' factor in plain Lean: how great its numbers are.
  Holding by a policy, in plain Lean: fewer tasks, smaller needs.
  The greatest need with which tasks hold, in plain Lean.
  The machine's run in plain Lean: with deadlines, what holds is in time.
  The machine in plain Lean, tick by tick; what holds is in time; who misses.
  CanBeLast: the program's and the reference's.
-/
import Derived.Test.YtmkjmancmiphfaaGreatDoorRc06
namespace Go.Proofs.YtmkjmancmiphfaaGreatDoor
set_option maxHeartbeats 8000000
set_option maxRecDepth 1000000
open Go.RowKit
theorem qit(r:Option Int): ∃p,qes r=.tuple #[.int .i64 p,.bool r.isSome]:=by cases r<;>exact⟨_,rfl⟩
theorem qu5{l:List Tk}(hs:Qe l=true){n:Nat}(hn:n<l.length):plc l (n:Int)=true:=by simp[plc,hs,hn]
theorem qnb{l:List Tk}{n:Nat}(hp:plc l (n:Int)=true)(hc:(Qg l n).crit=true):qi7 l (n:Int)=(rSw l (n:Int)).isSome:=by
 simp[qi7,hp,qc7,hc,rSw]
theorem qp5{l:List Tk}{n:Nat}(hp:plc l (n:Int)=true)(hc:(Qg l n).crit=false):qi7 l (n:Int)=(qk7 l (n:Int)).isSome:=by
 simp[qi7,hp,qc7,hc,qk7]
theorem qli{l:List Tk}(hs:Qe l=true){n:Nat}(hn:n<l.length):qi7 l (n:Int)=qc7 l n:=by
 simp[qi7,qu5 hs hn]
theorem qlj(A:ZA)(l:List Tk)(c:Nat)(x:Int)(w:World)(h:TS w A l)(hlc:l.length≤c):
  Calls Tryz.prog 226 #[.slice A l.length c,.int .i64 x] w fun e w'=>e=.returned (.bool (qi7 l x))∧Below w.heap.size w w':=by
 cases hP:plc l x with
 |false=>
  have hf:Hid (qi7 l x=false):=by simp[Hid,qi7,hP]
  go_enter Tryz.func226,Tryz.ntmps226;go_wp2_with fail;refine(Vs A l c x _ h).mono ?_;rw[hP];rintro e w1 ⟨rfl,b1⟩;go_wp2_with fail;go_ret;exact⟨by rw[hf.out];rfl,b1⟩
 |true=>
  obtain⟨hs,hl5,hlt,hx⟩:=qbk hP;have Hs:=zhi hs;have HP:=zhi hP;obtain⟨n,rfl⟩: ∃n:Nat,x=(n:Int):=⟨_,hx⟩;rw[Yam] at*;clear hx hs hP;obtain⟨p,hp⟩:=qit (rSw l n);obtain⟨q,hq⟩:=qit (qk7 l n);have Hp:=zhi hp;have Hq:=zhi hq;clear hp hq;go_enter Tryz.func226,Tryz.ntmps226;go_wp2_with fail;refine(Vs A l c n _ h).mono ?_;rw[HP.out];rintro e w1 ⟨rfl,b1⟩;obtain⟨b,off,rfl,hbl,hc⟩:=h.keep b1 (by omega);obtain⟨c0,c1,c2,c3,c4⟩:=Qv hc n hlt;clear hc;cases hcr:(Qg l n).crit with
  |true=>
   rw[hcr] at c4;have hf:=zhi (qnb HP.out hcr);clear hcr;go_wp2_with fail;refine(qfk _ l c n _ (h.keep b1) hlc).mono ?_;rw[Hp.out];rintro e w2 ⟨rfl,b2⟩;go_wp2_with fail;go_ret;exact⟨by rw[hf.out];rfl,Qa b1 b2⟩
  |false=>
   rw[hcr] at c4;have hf:=zhi (qp5 HP.out hcr);clear hcr;go_wp2_with fail;refine(qc1 _ l c n _ (h.keep b1) hlc).mono ?_;rw[Hq.out];rintro e w2 ⟨rfl,b2⟩;go_wp2_with fail;go_ret;exact⟨by rw[hf.out];rfl,Qa b1 b2⟩
theorem qye(A:ZA)(l:List Tk)(c:Nat)(x:Int)(w:World)(h:TS w A l)(hm:l.length≤maxLen):
  Calls Tryz.prog 237 #[.slice A l.length c,.int .i64 x] w fun e w'=>e=.returned (.bool (qk7 l x).isSome)∧Below w.heap.size w w':=by
 obtain⟨q,hq⟩:=qit (qk7 l x);have Hq:=zhi hq;clear hq;go_enter Tryz.func237,Tryz.ntmps237;go_wp2_with fail;refine(qc0 _ l c x _ h hm).mono ?_;rw[Hq.out];rintro e w2 ⟨rfl,b2⟩;go_wp2_with fail;go_ret;exact⟨rfl,b2⟩
theorem qjp(A:ZA)(l:List Tk)(c n:Nat)(w:World)(h:TS w A l)(hs:Qe l=true)(hn:n<l.length):
  Calls Tryz.prog 200 #[.slice A l.length c,.int .i64 (n:Int)] w fun e w'=>e=.returned (.bool (qc7 l n))∧Below w.heap.size w w':=by
 have hl5:=(Qj hs).1;have hm:l.length≤maxLen:=by unfold maxLen;omega
 have HP:=zhi (qu5 hs hn);have Hx:=zhi (qli hs hn);clear hs;obtain⟨p,hp⟩:=qit (rSw l n);have Hp:=zhi hp;clear hp;obtain⟨b,off,rfl,hbl,hc⟩:=h (by omega);obtain⟨c0,c1,c2,c3,c4⟩:=Qv hc n hn;clear hc;cases hcr:(Qg l n).crit with
 |true=>
  rw[hcr] at c4;have hf:=zhi (qnb HP.out hcr);clear hcr;go_enter Tryz.func200,Tryz.ntmps200;go_wp2_with fail;refine(qfj _ l c n _ h hm).mono ?_;rw[Hp.out];rintro e w2 ⟨rfl,b2⟩;go_wp2_with fail;go_ret;exact⟨by rw[←Hx.out,hf.out];rfl,b2⟩
 |false=>
  rw[hcr] at c4;have hf:=zhi (qp5 HP.out hcr);clear hcr;go_enter Tryz.func200,Tryz.ntmps200;go_wp2_with fail;refine(qye _ l c n _ h hm).mono ?_;rintro e w2 ⟨rfl,b2⟩;go_wp2_with fail;go_ret;exact⟨by rw[←Hx.out,hf.out];rfl,b2⟩
def qzk(l:List Tk)(n:Nat):Bool:=(List.range n).all (qc7 l)
theorem qwz{l:List Tk}{n:Nat}:qzk l n=true↔ ∀k,k<n→qc7 l k=true:=by simp[qzk]
theorem qs0{l:List Tk}{n:Nat}(h:qzk l n=true)(hk:qc7 l n=true):qzk l (n+1)=true:=by
 rw[qwz] at h⊢;intro k h1;by_cases e:k=n
 ·subst e;exact hk
 ·exact h k (by omega)
theorem qw0{l:List Tk}{n k:Nat}(hk:k<n)(h:qc7 l k=false):qzk l n=false:=by
 cases e:qzk l n with
 |false=>rfl
 |true=>rw[qwz.1 e k hk] at h;cases h
theorem qp6{l:List Tk}(h:Qe l=false):qer l=false:=by simp[qer,h]
theorem qnc{l:List Tk}(h:Qe l=true):qer l=qzk l l.length:=by simp[qer,qzk,h]
theorem qkj(A:ZA)(l:List Tk)(c:Nat)(w:World)(h:TS w A l)(hlc:l.length≤c):
  Calls Tryz.prog 227 #[.slice A l.length c] w fun e w'=>(∃r:Int,e=.returned (.tuple #[.int .i64 r,.bool (Qe l&& !qzk l l.length)]))∧Below w.heap.size w w':=by
 cases hS:Qe l with
 |false=>
  go_enter Tryz.func227,Tryz.ntmps227;go_wp2_with fail;refine(Qf A l c _ h).mono ?_;rw[hS];rintro e w1 ⟨rfl,b1⟩;go_wp2_with fail;go_ret2;exact⟨⟨0,rfl⟩,b1⟩
 |true=>
  have hl5:=(Qj hS).1;have Hs:=zhi hS;go_enter Tryz.func227,Tryz.ntmps227;go_wp2_with fail;refine(Qf A l c _ h).mono ?_;rw[hS];clear hS;rintro e w1 ⟨rfl,b1⟩;go_wp2_with fail;go_loopw [10] (fun i wr=> ∃k:Nat,k≤l.length∧i=.int .i64 (k:Int)∧Hid (qzk l k=true)∧Below w.heap.size w wr) (fun i _=>l.length-(intOf i).toNat)
  case atStart=>exact⟨0,by omega,rfl,rfl,b1⟩
  case round=>
   obtain⟨k,hk,rfl,hall,hb⟩:=hrel;by_cases hlt:k<l.length
   ·have hx:=zhi (qli Hs.out hlt);cases hh:qc7 l k with
    |false=>
     have hbad:=zhi (qw0 hlt hh);have Hh:=zhi hh;clear hh;go_wp2_with fail;refine(qlj A l c k _ (h.keep hb) hlc).mono ?_;rw[hx.out,Hh.out];rintro e w2 ⟨rfl,b2⟩;go_wp2_with fail;go_ret2;exact⟨⟨(k:Int),by rw[hbad.out];rfl⟩,Qa hb b2⟩
    |true=>
     have hgood:=zhi (qs0 hall.out hh);have Hh:=zhi hh;clear hh;go_wp2_with fail;refine(qlj A l c k _ (h.keep hb) hlc).mono ?_;rw[hx.out,Hh.out];rintro e w2 ⟨rfl,b2⟩;go_wp2_with fail;go_roundw
     case rel=>exact⟨k+1,by omega,by go_num,hgood,Qa hb b2⟩
     case measure=>simp[intOf];omega
   ·have hk':Hid (k=l.length):=show k=l.length by omega
    go_wp2_with fail;go_ret2;have ha:=hall.out;rw[hk'.out] at ha;exact⟨⟨0,by rw[ha];rfl⟩,hb⟩
theorem qo3(A:ZA)(l:List Tk)(c:Nat)(w:World)(h:TS w A l)(hlc:l.length≤c):
  Calls Tryz.prog 180 #[.slice A l.length c] w fun e w'=>e=.returned (.bool (qer l))∧Below w.heap.size w w':=by
 cases hS:Qe l with
 |false=>
  have Hf:=zhi (qp6 hS);go_enter Tryz.func180,Tryz.ntmps180;go_wp2_with fail;refine(qkj A l c _ h hlc).mono ?_;rintro e w1 ⟨⟨r,rfl⟩,b1⟩;go_wp2_with fail;refine(Qf A l c _ (h.keep b1)).mono ?_;rw[hS];rintro e w2 ⟨rfl,b2⟩;go_wp2_with fail;go_ret;exact⟨by rw[Hf.out];rfl,Qa b1 b2⟩
 |true=>
  have Hf:=zhi (qnc hS);go_enter Tryz.func180,Tryz.ntmps180;go_wp2_with fail;refine(qkj A l c _ h hlc).mono ?_;rw[hS];generalize qzk l l.length=y at*;simp only[Ycy];rintro e w1 ⟨⟨r,rfl⟩,b1⟩;go_wp2_with fail;refine(Qf A l c _ (h.keep b1)).mono ?_;rw[hS];rintro e w2 ⟨rfl,b2⟩;go_wp2_with fail;go_ret;exact⟨by rw[Hf.out];simp,Qa b1 b2⟩
theorem qo4(A:ZA)(l:List Tk)(c:Nat)(w:World)(h:TS w A l)(hm:l.length≤maxLen):
  Calls Tryz.prog 147 #[.slice A l.length c] w fun e w'=>e=.returned (.bool (qer l))∧Below w.heap.size w w':=by
 cases hS:Qe l with
 |false=>
  have Hf:=zhi (qp6 hS)
  have hne:0<l.length:=by
   cases l with
   |nil=>simp[Qe] at hS
   |cons=>simp
  go_enter Tryz.func147,Tryz.ntmps147;go_wp2_with fail;go_loopw [3] (fun i wr=>i=.int .i64 0∧Below w.heap.size w wr) (fun _ _=>0)
  case atStart=>exact⟨rfl,br⟩
  case round=>
   obtain⟨rfl,hb⟩:=hrel;go_wp2_with fail;refine(Qd A l c _ (h.keep hb) hm).mono ?_;rw[hS];rintro e w1 ⟨rfl,b1⟩;go_wp2_with fail;refine(Qd A l c _ (h.keep (Qa hb b1)) hm).mono ?_;rw[hS];rintro e w2 ⟨rfl,b2⟩;go_wp2_with fail;go_ret;exact⟨by rw[Hf.out];rfl,Qa (Qa hb b1) b2⟩
 |true=>
  have hl5:=(Qj hS).1;have Hs:=zhi hS;have Hf:=zhi (qnc hS);clear hS;go_enter Tryz.func147,Tryz.ntmps147;go_wp2_with fail;go_loopw [3] (fun i wr=> ∃k:Nat,k≤l.length∧i=.int .i64 (k:Int)∧Hid (qzk l k=true)∧Below w.heap.size w wr) (fun i _=>l.length-(intOf i).toNat)
  case atStart=>exact⟨0,by omega,rfl,rfl,br⟩
  case round=>
   obtain⟨k,hk,rfl,hall,hb⟩:=hrel;by_cases hlt:k<l.length
   ·cases hh:qc7 l k with
    |false=>
     have hbad:=zhi (qw0 hlt hh);have Hh:=zhi hh;clear hh;go_wp2_with fail;refine(Qd A l c _ (h.keep hb) hm).mono ?_;rw[Hs.out];rintro e w1 ⟨rfl,b1⟩;go_wp2_with fail;refine(qjp A l c k _ (h.keep (Qa hb b1)) Hs.out hlt).mono ?_;rw[Hh.out];rintro e w2 ⟨rfl,b2⟩;go_wp2_with fail;go_ret;exact⟨by rw[Hf.out,hbad.out];rfl,Qa (Qa hb b1) b2⟩
    |true=>
     have hgood:=zhi (qs0 hall.out hh);have Hh:=zhi hh;clear hh;go_wp2_with fail;refine(Qd A l c _ (h.keep hb) hm).mono ?_;rw[Hs.out];rintro e w1 ⟨rfl,b1⟩;go_wp2_with fail;refine(qjp A l c k _ (h.keep (Qa hb b1)) Hs.out hlt).mono ?_;rw[Hh.out];rintro e w2 ⟨rfl,b2⟩;go_wp2_with fail;go_roundw
     case rel=>exact⟨k+1,by omega,by go_num,hgood,Qa (Qa hb b1) b2⟩
     case measure=>simp[intOf];omega
   ·have hk':Hid (k=l.length):=show k=l.length by omega
    go_wp2_with fail;refine(Qd A l c _ (h.keep hb) hm).mono ?_;rw[Hs.out];rintro e w1 ⟨rfl,b1⟩;go_wp2_with fail;go_ret;have ha:=hall.out;rw[hk'.out] at ha;exact⟨by rw[Hf.out,ha];rfl,Qa hb b1⟩
def qh4(l:List Tk)(n:Nat):Bool:=(List.range n).all (fun k=>decide ((Qg l k).due=(Qg l k).every))
def qcp(l:List Tk):Bool:=Qe l&&qh4 l l.length
theorem qnd{l:List Tk}{n:Nat}(h:qh4 l n=true)(hk:(Qg l n).due=(Qg l n).every):qh4 l (n+1)=true:=by
 simp only[qh4,Yaz,Ybu,Yae] at h⊢;intro k h1;by_cases e:k=n
 ·subst e;exact hk
 ·exact h k (by omega)
theorem qp7{l:List Tk}{n k:Nat}(hk:k<n)(h: ¬(Qg l k).due=(Qg l k).every):qh4 l n=false:=by
 cases e:qh4 l n with
 |false=>rfl
 |true=>
  simp only[qh4,Yaz,Ybu,Yae] at e;exact absurd (e k hk) h
theorem qe3(A:ZA)(l:List Tk)(c:Nat)(w:World)(h:TS w A l)(hm:l.length≤maxLen):
  Calls Tryz.prog 60 #[.slice A l.length c] w fun e w'=>e=.returned (.bool (qcp l))∧Below w.heap.size w w':=by
 have hm':=hm;unfold maxLen at hm';go_enter Tryz.func60,Tryz.ntmps60;go_wp2_with fail;go_loopw [7] (fun i wr=> ∃k:Nat,k≤l.length∧i=.int .i64 (k:Int)∧Hid (qh4 l k=true)∧Below w.heap.size w wr) (fun i _=>l.length-(intOf i).toNat)
 case atStart=>exact⟨0,by omega,rfl,rfl,br⟩
 case round=>
  obtain⟨k,hk,rfl,hall,hb⟩:=hrel;by_cases hlt:k<l.length
  ·obtain⟨b,off,rfl,hbl,hc⟩:=h.keep hb (by omega);obtain⟨c0,c1,c2,c3,c4⟩:=Qv hc k hlt;clear hc;by_cases he:(Qg l k).due=(Qg l k).every
   ·have hne:((Qg l k).due !=(Qg l k).every)=false:=by simp[he]
    have hgood:=zhi (qnd hall.out he);have He:=zhi he;clear he;go_wp2_with fail;go_roundw
    case rel=>exact⟨k+1,by omega,by go_num,hgood,bal hb _⟩
    case measure=>simp[intOf];omega
   ·have hne:((Qg l k).due !=(Qg l k).every)=true:=by simp[he]
    have hbad:=zhi (qp7 hlt he);have He:=zhi he;clear he;go_wp2_with fail;go_ret;exact⟨by rw[qcp,hbad.out,Bool.and_false];rfl,bal hb _⟩
  ·have hk':Hid (k=l.length):=show k=l.length by omega
   go_wp2_with fail;refine(Qf A l c _ (h.keep hb)).mono ?_;rintro e w1 ⟨rfl,b1⟩;go_wp2_with fail;go_ret;have ha:=hall.out;rw[hk'.out] at ha;exact⟨by rw[qcp,ha,Bool.and_true];rfl,Qa hb b1⟩
theorem qcb{a:Rat}(h:RIn a):0≤a.num∧a.num≤1000000000∧1≤(a.den:Int)∧(a.den:Int)≤1000000000:=by
 obtain⟨h1,h2,h3⟩:=h;have:=a.den_pos;omega
theorem qyf(a b:Rat)(w:World)(ha:RIn a)(hb:RIn b):
  Calls Tryz.prog 228 #[rv a,rv b] w fun e w'=>e=.returned (rv (a*b))∧Below w.heap.size w w':=by
 obtain⟨a0,a1,a2,a3⟩:=qcb ha;obtain⟨b0,b1,b2,b3⟩:=qcb hb;have m1:=qbp a0 a1 b0 b1 (by omega);have m3:=qbp (show 0≤(a.den:Int) by omega) a3 (show 0≤(b.den:Int) by omega) b3 (by omega);have m4:1≤(a.den:Int)*(b.den:Int):=by have:=Int.mul_pos (show(0:Int)<a.den by omega) (show(0:Int)<b.den by omega);omega
 obtain⟨m10,m11⟩:=m1;obtain⟨m30,m31⟩:=m3;go_enter Tryz.func228,Tryz.ntmps228;go_wp2_with fail;refine(qe2 _ _ _ (by omega) (by omega) (by omega) (by omega)).mono ?_;rw[q62];rintro e w3 ⟨rfl,c3⟩;obtain⟨hA0,hB0,hC0⟩:=q5g w (.cells #[.int .i64 a.num,.int .i64 (a.den:Int)] 54) (.cells #[.int .i64 b.num,.int .i64 (b.den:Int)] 54) (.cells #[.int .i64 0,.int .i64 0] 54);have hz3:=c3.size;simp only[Yah] at hz3;have hC3:=(c3.block (w.heap.size+1+1) (by simp)).trans hC0;obtain⟨x0,x1,xf⟩:=Qk hC3;clear hA0 hB0 hC0 hC3;obtain⟨r,hr⟩: ∃r,a*b=r:=⟨_,rfl⟩;rw[hr];have Hr:=zhi hr;clear hr;go_wp2_with fail;refine bodyPost_ret (v:=rv r) (by simp[results,Tryz.results228,go_sem,x0,x1]) rfl ⟨by rw[Hr.out],?_⟩;exact bst (bst (Qa (bal (bal (bal br _) _) _) c3) (p:=⟨w.heap.size+1+1,0,none⟩) (by show w.heap.size≤w.heap.size+1+1;omega) _) (p:=⟨w.heap.size+1+1,1,none⟩) (by show w.heap.size≤w.heap.size+1+1;omega) _
theorem qnf(a b:Rat)(w:World)(ha:RIn a)(hb:RIn b):
  Calls Tryz.prog 64 #[rv a,rv b] w fun e w'=>e=.returned (rv (a+b))∧Below w.heap.size w w':=by
 obtain⟨a0,a1,a2,a3⟩:=qcb ha;obtain⟨b0,b1,b2,b3⟩:=qcb hb;have m1:=qbp a0 a1 (show 0≤(b.den:Int) by omega) b3 (by omega);have m2:=qbp b0 b1 (show 0≤(a.den:Int) by omega) a3 (by omega);obtain⟨m20,m21⟩:=m2;have m3:=qbp (show 0≤(a.den:Int) by omega) a3 (show 0≤(b.den:Int) by omega) b3 (by omega);have m4:1≤(a.den:Int)*(b.den:Int):=by have:=Int.mul_pos (show(0:Int)<a.den by omega) (show(0:Int)<b.den by omega);omega
 obtain⟨m10,m11⟩:=m1;obtain⟨m30,m31⟩:=m3;go_enter Tryz.func64,Tryz.ntmps64;go_wp2_with fail;refine(qe2 _ _ _ (by omega) (by omega) (by omega) (by omega)).mono ?_;rw[q61];rintro e w3 ⟨rfl,c3⟩;obtain⟨hA0,hB0,hC0⟩:=q5g w (.cells #[.int .i64 a.num,.int .i64 (a.den:Int)] 54) (.cells #[.int .i64 b.num,.int .i64 (b.den:Int)] 54) (.cells #[.int .i64 0,.int .i64 0] 54);have hz3:=c3.size;simp only[Yah] at hz3;have hC3:=(c3.block (w.heap.size+1+1) (by simp)).trans hC0;obtain⟨x0,x1,xf⟩:=Qk hC3;clear hA0 hB0 hC0 hC3;obtain⟨r,hr⟩: ∃r,a+b=r:=⟨_,rfl⟩;rw[hr];have Hr:=zhi hr;clear hr;go_wp2_with fail;refine bodyPost_ret (v:=rv r) (by simp[results,Tryz.results64,go_sem,x0,x1]) rfl ⟨by rw[Hr.out],?_⟩;exact bst (bst (Qa (bal (bal (bal br _) _) _) c3) (p:=⟨w.heap.size+1+1,0,none⟩) (by show w.heap.size≤w.heap.size+1+1;omega) _) (p:=⟨w.heap.size+1+1,1,none⟩) (by show w.heap.size≤w.heap.size+1+1;omega) _
def qjq(r:Rat):Bool:=decide (r.num≤(r.den:Int))
theorem qng(a:Rat)(w:World):
  Calls Tryz.prog 63 #[rv a] w fun e w'=>e=.returned (.bool (qjq a))∧Below w.heap.size w w':=by
 go_enter Tryz.func63,Tryz.ntmps63;go_wp2_with fail;go_ret;exact⟨rfl,bal br _⟩
theorem qs1(r:Rat):qjq r=true↔r≤1:=by
 simp only[qjq,Yae,Rat.le_iff];simp
theorem qjr(r:Rat):r*(r.den:Rat)=(r.num:Rat):=by
 have h:(r.num:Rat)/(r.den:Rat)=r:=by rw[←Rat.mkRat_eq_div,Rat.mkRat_self]
 have h0:((r.den:Nat):Rat)≠0:=by
  intro e;exact r.den_nz (by exact_mod_cast e)
 grind
theorem qja{r:Rat}{M:Nat}(hM:M≠0){k:Int}(h:r*(M:Rat)=(k:Rat)):r.den∣M:=by
 have hM':((M:Nat):Rat)≠0:=by
  intro e;exact hM (by exact_mod_cast e)
 have e:r=mkRat k M:=by
  rw[Rat.mkRat_eq_div,←h];grind
 rw[e];exact qbx _ _ hM
theorem qjb{r:Rat}{M:Nat}(h:r.den∣M): ∃k:Int,r*(M:Rat)=(k:Rat):=by
 obtain⟨c,rfl⟩:=h;refine⟨r.num*c,?_⟩;have:=qjr r;simp only[Rat.intCast_mul,Rat.natCast_mul,Rat.intCast_natCast];grind
theorem qjs{a b:Rat}{M:Nat}(hM:M≠0)(ha:a.den∣M)(hb:b.den∣M):(a+b).den∣M:=by
 obtain⟨k,hk⟩:=qjb ha;obtain⟨j,hj⟩:=qjb hb;exact qja hM (k:=k+j) (by rw[Rat.intCast_add,Rat.add_mul,hk,hj])
def qcc(crit:Bool):List Tk→Nat
 |[]=>1
 |t::l=>(if t.crit=crit then t.every.toNat else 1)*qcc crit l
theorem qg0(crit:Bool)(l:List Tk)(h: ∀t∈l,vld t=true):0<qcc crit l:=by
 induction l with
 |nil=>simp[qcc]
 |cons t l ih=>
  have h1:=ih (fun s hs=>h s (Ybn _ hs));have h2:=qao (h t (by simp));simp only[qcc];refine Nat.mul_pos ?_ h1;split<;>omega
theorem qs2(l:List Tk)(h: ∀t∈l,vld t=true):qcc true l*qcc false l≤20^l.length:=by
 induction l with
 |nil=>simp[qcc]
 |cons t l ih=>
  have h1:=ih (fun s hs=>h s (Ybn _ hs));have h2:=qao (h t (by simp));have h3:t.every.toNat≤20:=by omega
  simp only[qcc,Yau,Ydt];rw[Yct (20^l.length) 20];cases t.crit
  ·simp
   calc qcc true l*(t.every.toNat*qcc false l)=t.every.toNat*(qcc true l*qcc false l):=by ac_rfl
    _≤20*20^l.length:=Ycu h3 h1
  ·simp
   calc t.every.toNat*qcc true l*qcc false l=t.every.toNat*(qcc true l*qcc false l):=by ac_rfl
    _≤20*20^l.length:=Ycu h3 h1
theorem qe9(crit high:Bool)(l:List Tk)(h: ∀t∈l,vld t=true):(Qu crit high l).den∣qcc crit l:=by
 induction l with
 |nil=>simp[Qu,qcc]
 |cons t l ih=>
  have h1:=ih (fun s hs=>h s (Ybn _ hs));have h2:=qao (h t (by simp));have h3:=qg0 crit l (fun s hs=>h s (Ybn _ hs));simp only[Qu,qcc]
  have hx:(if t.crit=crit then shr high t else 0).den∣(if t.crit=crit then t.every.toNat else 1):=by
   split
   ·exact qbx _ _ (by omega)
   ·simp
  refine qjs (Nat.mul_ne_zero ?_ (by omega)) (Nat.dvd_trans hx (Nat.dvd_mul_right _ _)) (Nat.dvd_trans h1 (Nat.dvd_mul_left _ _));split<;>omega
def ua(l:List Tk):Rat:=Qu false false l
def ub(l:List Tk):Rat:=Qu true false l
def uh(l:List Tk):Rat:=Qu true true l
def Vj(l:List Tk):Bool:=qcp l&&qjq (ua l+uh l)
def qe4(l:List Tk):Bool:= !qjq (ua l+ub l)||(ua l).num==((ua l).den:Int)
def qm1(l:List Tk):Rat:=mkRat ((ub l).num*(ua l).den) (((ub l).den:Int)*((ua l).den-(ua l).num)).toNat
def qcd(l:List Tk):Bool:=Vj l||(qcp l&& !qe4 l&&qjq (qm1 l*ua l+uh l))
theorem qw5{n:Nat}(h:n≤5):20^n≤3200000:=zll (Nat.pow_le_pow_right (by omega) h) (by decide)
structure FacOk (l:List Tk):Prop where
 a0:0≤(ua l).num
 a1:(ua l).num<((ua l).den:Int)
 b0:0≤(ub l).num
 b1:(ub l).num≤((ub l).den:Int)
 ab:((ua l).den:Int)*((ub l).den:Int)≤3200000
 n0:0≤(ub l).num*((ua l).den:Int)
 n1:(ub l).num*((ua l).den:Int)≤3200000
 d0:1≤((ub l).den:Int)*(((ua l).den:Int)-(ua l).num)
 d1:((ub l).den:Int)*(((ua l).den:Int)-(ua l).num)≤3200000
 facIn:RIn (qm1 l)
 mulIn:RIn (qm1 l*ua l)
 sumIn:RIn (qm1 l*ua l+uh l)
theorem qp8{r:Rat}(h:r≤1):r.num≤(r.den:Int):=by
 have:=qf4 (r:=r) (n:=1) (by simpa using h);omega
theorem qiu{r:Rat}{n:Nat}(h0:0≤r)(h1:r≤(n:Rat))(hn:n≤6)(hd:r.den≤3200000):RIn r:=by
 have h3:=qf4 h1;have h5:(n:Int)*(r.den:Int)≤6*(r.den:Int):=Ycq (by omega) (by omega);exact⟨qgt h0,by omega,by omega⟩
theorem q3d{x y z f:Rat}{Et Ef:Nat}(hx:0≤x)(hy:0≤y)(hz:0≤z)(hz5:z≤5)(dx:x.den∣Ef)(dy:y.den∣Et)(dz:z.den∣Et)(pe:0<Et)(pf:0<Ef)(hm:Et*Ef≤3200000)
  (hxy:x+y≤1) (hne:x.num≠(x.den:Int)) (hf:f=mkRat (y.num*x.den) ((y.den:Int)*(x.den-x.num)).toNat):
  0≤x.num∧x.num<(x.den:Int)∧0≤y.num∧y.num≤(y.den:Int)∧(x.den:Int)*(y.den:Int)≤3200000∧0≤y.num*(x.den:Int)∧y.num*(x.den:Int)≤3200000∧
   1≤(y.den:Int)*((x.den:Int)-x.num)∧(y.den:Int)*((x.den:Int)-x.num)≤3200000∧RIn f∧RIn (f*x)∧RIn (f*x+z):=by
 have px:=x.den_pos;have py:=y.den_pos;have a0:=qgt hx;have b0:=qgt hy;have a1:x.num≤(x.den:Int):=qp8 (by grind);have b1:y.num≤(y.den:Int):=qp8 (by grind);have hAE:=Ycm pf dx;have hBE:=Ycm pe dy;have hABn:x.den*y.den≤3200000:=zll (Ycu hAE hBE) (by rw[Yct];exact hm);have hAB:(x.den:Int)*(y.den:Int)≤3200000:=by rw[←Ybr];omega
 have n0:0≤y.num*(x.den:Int):=Int.mul_nonneg b0 (by omega);have n1:y.num*(x.den:Int)≤(y.den:Int)*(x.den:Int):=Ycq b1 (by omega);have c1:(y.den:Int)*(x.den:Int)=(x.den:Int)*(y.den:Int):=Int.mul_comm _ _;have d0:0<(y.den:Int)*((x.den:Int)-x.num):=Int.mul_pos (by omega) (by omega);have d1:(y.den:Int)*((x.den:Int)-x.num)≤(y.den:Int)*(x.den:Int):=Ydl (by omega) (by omega);obtain⟨D,hD⟩: ∃D:Nat,((y.den:Int)*(x.den-x.num)).toNat=D:=⟨_,rfl⟩;have hDI:(D:Int)=(y.den:Int)*((x.den:Int)-x.num):=by omega
 have hD0:D≠0:=by omega
 rw[hD] at hf
 have hDR:((D:Nat):Rat)=(y.den:Rat)*((x.den:Rat)-(x.num:Rat)):=by
  have h1:(((D:Nat):Int):Rat)=(((y.den:Int)*((x.den:Int)-x.num):Int):Rat):=by rw[hDI]
  simpa [Rat.intCast_mul,Rat.intCast_sub,Rat.intCast_natCast] using h1
 have hDR0:((D:Nat):Rat)≠0:=by
  intro e;exact hD0 (by exact_mod_cast e)
 have ex:=qjr x;have ey:=qjr y
 have ef:f*(D:Rat)=(y.num:Rat)*(x.den:Rat):=by
  have h1:f=((y.num*(x.den:Int):Int):Rat)/((D:Nat):Rat):=by rw[hf,Rat.mkRat_eq_div]
  have h2:((y.num*(x.den:Int):Int):Rat)=(y.num:Rat)*(x.den:Rat):=by rw[Rat.intCast_mul,Rat.intCast_natCast]
  rw[h2] at h1;grind
 have efx:f*x*(D:Rat)=((y.num*x.num:Int):Rat):=by
  rw[Rat.intCast_mul];grind
 have f0:0≤f:=by rw[hf];exact qj9 n0 _ hD0
 have xd0:((x.den:Nat):Rat)≠0:=by
  intro e;exact x.den_nz (by exact_mod_cast e)
 have yd0:((y.den:Nat):Rat)≠0:=by
  intro e;exact y.den_nz (by exact_mod_cast e)
 have hfx:f*(1-x)=y:=by
  have h1:(f*(1-x)-y)*((y.den:Rat)*(x.den:Rat))=0:=by
   rw[hDR,←ex,←ey] at ef;grind
  rcases Rat.mul_eq_zero.1 h1 with h|h
  ·grind
  ·rcases Rat.mul_eq_zero.1 h with h|h
   ·exact absurd h yd0
   ·exact absurd h xd0
 have xne:x≠1:=by
  intro e;apply hne
  rw[e];rfl
 have x1:x<1:=by grind
 have f1:f≤1:=by
  apply Ybp
  intro h;have h1:0<(f-1)*(1-x):=Rat.mul_pos (by grind) (by grind);grind
 have fx0:0≤f*x:=Rat.mul_nonneg f0 hx;have fx1:f*x≤1:=by grind
 have dD:D≤3200000:=by omega
 have hfd:f.den∣D:=by rw[hf];exact qbx _ _ hD0
 have hfxd:(f*x).den∣D:=qja hD0 efx;obtain⟨S,hS⟩: ∃S:Nat,(S:Int)=(x.den:Int)-x.num:=⟨((x.den:Int)-x.num).toNat,by omega⟩
 have hDS:D=y.den*S:=by
  have:(D:Int)=((y.den*S:Nat):Int):=by rw[Ybr,hS,hDI]
  exact_mod_cast this
 have hM0:Et*S≠0:=Nat.mul_ne_zero (by omega) (by omega);have hMle:Et*S≤3200000:=zll (Nat.mul_le_mul_left _ (show S≤Ef by omega)) hm;have hsd:(f*x+z).den∣Et*S:=qjs hM0 (Nat.dvd_trans hfxd (by rw[hDS];exact Nat.mul_dvd_mul_right dy _)) (Nat.dvd_trans dz (Nat.dvd_mul_right _ _));refine⟨a0,by omega,b0,b1,hAB,n0,by omega,by omega,by omega,?_,?_,?_⟩
 ·exact qiu f0 (n:=1) (by simpa using f1) (by omega) (zll (Ycm (by omega) hfd) dD)
 ·exact qiu fx0 (n:=1) (by simpa using fx1) (by omega) (zll (Ycm (by omega) hfxd) dD)
 ·exact qiu (by grind) (n:=6) (by simp;grind) (by omega) (zll (Ycm (by omega) hsd) hMle)
theorem qyg{l:List Tk}(hs:Qe l=true)(hf:qe4 l=false):FacOk l:=by
 obtain⟨hl5,hall⟩:=Qj hs;have hbd1:=qff false false l hall;have hbd2:=qff true false l hall;have hbd3:=qff true true l hall;have hdv1:=qe9 false false l hall;have hdv2:=qe9 true false l hall;have hdv3:=qe9 true true l hall;have hp1:=qg0 false l hall;have hp2:=qg0 true l hall;have hpl:=zll (qs2 l hall) (qw5 hl5);simp only[qe4,Bool.or_eq_false_iff,Bool.not_eq_false',beq_eq_false_iff_ne] at hf;obtain⟨hfit,hne⟩:=hf;rw[qs1] at hfit;have hfr:qm1 l=mkRat ((ub l).num*(ua l).den) (((ub l).den:Int)*((ua l).den-(ua l).num)).toNat:=rfl;change 0≤ua l∧_ at hbd1;change 0≤ub l∧_ at hbd2;change 0≤uh l∧_ at hbd3;change(ua l).den∣_ at hdv1;change(ub l).den∣_ at hdv2;change(uh l).den∣_ at hdv3;have h5:((l.length:Nat):Rat)≤5:=by exact_mod_cast hl5
 have hz5:uh l≤5:=Rat.le_trans hbd3.2 h5;obtain⟨m1,m2,m3,m4,m5,m6,m7,m8,m9,m10,m11,m12⟩:=q3d hbd1.1 hbd2.1 hbd3.1 hz5 hdv1 hdv2 hdv3 hp2 hp1 hpl hfit hne hfr;exact⟨m1,m2,m3,m4,m5,m6,m7,m8,m9,m10,m11,m12⟩
theorem q3e(l:List Tk):qcp l=true↔Qe l=true∧ ∀t∈l,t.due=t.every:=by
 simp only[qcp,Yac,qh4,Yaz,Ybu,Yae];constructor
 ·rintro⟨h1,h2⟩;refine⟨h1,fun t ht=>?_⟩;obtain⟨k,hk,rfl⟩:=Ycw ht;have:=h2 k hk;rwa [qbi l k hk] at this
 ·rintro⟨h1,h2⟩;exact⟨h1,fun k hk=>by rw[qbi l k hk];exact h2 _ (Yao hk)⟩
theorem qe5{l:List Tk}(h:qcp l=true):Qe l=true:=((q3e l).1 h).1
theorem qs3(l:List Tk):Vj l=true↔qcp l=true∧ua l+uh l≤1:=by
 simp only[Vj,Yac,qs1]
theorem qu6{l:List Tk}(h:qcd l=true):Qe l=true:=by
 simp only[qcd,Ydw,Yac] at h;rcases h with h|h
 ·exact qe5 ((qs3 l).1 h).1
 ·exact qe5 h.1.1
def qaf(l:List Tk)(p:Int):Bool:=if p=0 then qer l else if p=1 then qcd l else false
def qmc(l:List Tk)(p:Int):Bool:=if p=0 then(Ve l).isSome else qaf l p
theorem qnh{l:List Tk}{p:Int}(h:qaf l p=true):Qe l=true:=by
 unfold qaf at h;split at h
 ·rw[qp3,Yac] at h;exact h.1
 ·split at h
  ·exact qu6 h
  ·cases h
structure Eas (s t:Tk):Prop where
 crit:s.crit=t.crit
 low:s.low≤t.low
 high:s.high≤t.high
 due:t.due≤s.due
 every:s.every=t.every
theorem Eas.refl(t:Tk):Eas t t:=⟨rfl,Ycs _,Ycs _,Ycs _,rfl⟩
theorem Eas.dem{s t:Tk}(h:Eas s t)(ht:vld t=true)(b:Bool){w:Int}(hw:0≤w):qmo s w b≤qmo t w b:=by
 have hj:=(qkc ht hw).1;have e:qfh s w=qfh t w:=by simp only[qfh,h.every]
 unfold qmo;rw[e];refine Ydl ?_ hj;have:=h.low;have:=h.high;cases b<;>simp[qkb]<;>omega
theorem Eas.sw{s t:Tk}(h:Eas s t)(ht:vld t=true){low w:Int}(hl:0≤low)(hw:0≤w):qeq s low w≤qeq t low w:=by
 unfold qeq;rw[h.crit];split
 ·exact h.dem ht _ hw
 ·exact h.dem ht _ hl
def qkk(t:Tk)(n:Int):Tk:={t with high:=n}
def qap(l:List Tk)(k:Nat)(n:Int):List Tk:=l.set k (qkk (Qg l k) n)
theorem q66{l:List Tk}{k:Nat}{t:Tk}(hk:k<l.length)(h:Qe (l.set k t)=true):vld t=true:=
 (Qj h).2 t (List.mem_set hk t)
theorem qs4(l:List Tk)(k:Nat)(hk:k<l.length):qap l k (Qg l k).high=l:=by
 have:qkk (Qg l k) (Qg l k).high=l[k]:=by rw[qbi l k hk];rfl
 rw[qap,this,List.set_getElem_self]
def qiv(g:Int→Bool):Nat→Option Int
 |0=>none
 |n+1=>if g ((n:Int)+1) then some ((n:Int)+1) else qiv g n
theorem qu7{g:Int→Bool}{n:Nat}{k:Int}(h:qiv g n=some k):1≤k∧k≤n∧g k=true∧ ∀j:Int,k<j→j≤n→g j=false:=by
 induction n with
 |zero=>simp[qiv] at h
 |succ n ih=>
  simp only[qiv] at h;split at h
  ·cases h
   exact⟨by omega,by omega,by assumption,fun j h1 h2=>by omega⟩
  ·obtain⟨h0,h1,h2,h3⟩:=ih h;refine⟨h0,by omega,h2,fun j h4 h5=>?_⟩;by_cases e:j=(n:Int)+1
   ·subst e;simpa using ‹¬ g ((n:Int)+1)=true›
   ·exact h3 j h4 (by omega)
theorem q5u{g:Int→Bool}{n:Nat}{k:Int}(h1:1≤k)(h2:k≤n)(h:g k=true): ∃m,qiv g n=some m∧k≤m:=by
 induction n with
 |zero=>omega
 |succ n ih=>
  simp only[qiv];split
  ·exact⟨_,rfl,by omega⟩
  ·rename_i hn
   by_cases e:k=(n:Int)+1
   ·subst e;exact absurd h hn
   ·exact ih (by omega)
theorem q3f{g:Int→Bool}{n m:Nat}(hm:m≤n)(h: ∀j:Int,(m:Int)<j→j≤n→g j=false):qiv g n=qiv g m:=by
 induction n with
 |zero=>
  obtain rfl:m=0:=by omega
  rfl
 |succ n ih=>
  by_cases e:m=n+1
  ·rw[e]
  ·simp only[qiv];rw[h ((n:Int)+1) (by omega) (by omega)];simp only[Yci,Ydh];exact ih (by omega) (fun j h1 h2=>h j h1 (by omega))
def qmp(l:List Tk)(k:Nat)(p:Int):Option Int:=qiv (fun n=>qaf (qap l k n) p) 20
def Vm(l:List Tk)(x:Int)(p:Int):Option Int:=if plc l x&&(Qg l x.toNat).crit&&qaf l p then qmp l x.toNat p else none
theorem qlk{l:List Tk}{k:Nat}{n p:Int}(hk:k<l.length)(h:qaf (qap l k n) p=true):(Qg l k).low≤n∧n≤(Qg l k).due:=by
 have:=qac (q66 hk (qnh h));simp only[qkk] at this;omega
theorem qz2{l:List Tk}{k:Nat}(hk:k<l.length)(hl:Qe l=true)(p:Int):qmp l k p=qiv (fun n=>qaf (qap l k n) p) (Qg l k).due.toNat:=by
 have:=qac (Qs hl hk);refine q3f (by omega) fun j h1 h2=>?_
 cases e:qaf (qap l k j) p with
 |false=>rfl
 |true=>have:=qlk hk e;omega
theorem qe6{l:List Tk}{x p n:Int}(h:Vm l x p=some n):
  plc l x=true∧(Qg l x.toNat).crit=true∧qaf l p=true∧qaf (qap l x.toNat n) p=true∧qaf (qap l x.toNat (n+1)) p=false∧(Qg l x.toNat).high≤n∧n≤(Qg l x.toNat).due∧n≤20:=by
 simp only[Vm] at h;split at h
 ·rename_i hc
  simp only[Yac] at hc;obtain⟨⟨hp,hcr⟩,hh⟩:=hc
  have hk:x.toNat<l.length:=by
   simp only[plc,Yac,Yae] at hp;omega
  have hvl:=qnh hh;have hv:=qac (Qs hvl hk);obtain⟨h1,h2,h3,h4⟩:=qu7 h;have hb:=qlk hk h3;refine⟨hp,hcr,hh,h3,?_,?_,hb.2,by omega⟩
  ·by_cases e:n+1≤20
   ·exact h4 (n+1) (by omega) (by omega)
   ·cases e':qaf (qap l x.toNat (n+1)) p with
    |false=>rfl
    |true=>have:=qlk hk e';omega
  ·obtain⟨m,hm1,hm2⟩:=q5u (g:=fun n=>qaf (qap l x.toNat n) p) (n:=20) (k:=(Qg l x.toNat).high) (by omega) (by omega) (by
    show qaf (qap l x.toNat _) p=true;rw[qs4 l _ hk];exact hh)
   rw[qmp,hm1] at h;cases h
   exact hm2
 ·cases h
section
def qk9(l:List Tk)(js:List Jb)(num den:Int)(mode:Bool)(i:Nat):Int:=
 if(Qg l (jK js i)).crit&& !mode then jA js i*den+(Qg l (jK js i)).due*num else(jA js i+(Qg l (jK js i)).due)*den
section
variable {l:List Tk} {js:List Jb} {num den:Int} {x:Rat} {lv cm:Nat→Nat→Prop} {hi md:Nat→Bool} {run:Nat→Option Nat} {dn:Nat→Nat→Int}
theorem Sch.still{key:Bool→Nat→Int}(S:Sch l js key lv cm hi md run dn){s i:Nat}: ∀k,(∀t,s≤t→t<s+k→run t≠some i)→dn (s+k) i=dn s i:=by
 intro k;induction k with
 |zero=>exact fun _=>rfl
 |succ k ih=>
  intro h;rw[←Nat.add_assoc,S.dnS,Yaq (h (s+k) (by omega) (by omega)),ih (fun t a b=>h t a (by omega)),Int.add_zero]
end
end
section
structure Mc where
 en:List Int
 dn:List Int
 lf:List Nat
 tr:List Int
 sw:List Int
 hi:Bool
def qz3(l:List Tk)(js:List Jb)(tick:Int)(hi:Bool)(i:Nat)(s:List Int×List Nat):List Int×List Nat:=
 if jA js i=tick then(if hi&& !(Qg l (jK js i)).crit then(s.1.set i (-2),s.2) else(s.1,s.2++[i])) else s
def qby(l:List Tk)(js:List Jb)(tick:Int)(hi:Bool)(s:List Int×List Nat):Nat→List Int×List Nat
 |0=>s
 |k+1=>qz3 l js tick hi k (qby l js tick hi s k)
def qhq(g:Nat→Nat→Bool)(lf:List Nat):Nat→Nat
 |0=>lf.getD 0 0
 |k+1=>if g (lf.getD (k+1) 0) (qhq g lf k) then lf.getD (k+1) 0 else qhq g lf k
def qz4(js:List Jb)(a b:Nat):Bool:=if(Qt js a).task=(Qt js b).task then decide (jA js a<jA js b) else decide ((Qt js a).task<(Qt js b).task)
def qeu(l:List Tk)(js:List Jb)(num den pol:Int)(hi:Bool)(a b:Nat):Bool:=
 if pol=1∧qk9 l js num den hi a≠qk9 l js num den hi b then decide (qk9 l js num den hi a<qk9 l js num den hi b) else qz4 js a b
def qbq(l:List Tk)(js:List Jb)(lf:List Nat)(en:List Int):Nat→List Int
 |0=>en
 |k+1=>if(Qg l (jK js (lf.getD k 0))).crit then qbq l js lf en k else(qbq l js lf en k).set (lf.getD k 0) (-2)
def qaj(en:List Int)(lf:List Nat):Nat→List Nat
 |0=>[]
 |k+1=>qaj en lf k++(if en.getD (lf.getD k 0) 0= -1 then [lf.getD k 0] else [])
def qan(s:Mc):Bool:=if s.lf=[] then false else s.hi
def qaz(l:List Tk)(js:List Jb)(tick:Nat)(s:Mc):List Int×List Nat:=qby l js tick (qan s) (s.en,s.lf) js.length
def qh5(l:List Tk)(js:List Jb)(num den pol:Int)(hi:Bool)(lf:List Nat):Nat:=qhq (qeu l js num den pol hi) lf (lf.length-1)
def qej(l:List Tk)(js:List Jb)(tick:Nat)(hi:Bool)(en:List Int)(lf:List Nat)(sw:List Int)(r:Nat)(d:Int):List Int×Bool×List Int:=
 if d=jN js r then(en.set r ((tick:Int)+1),hi,sw)
 else if !hi&&(Qg l (jK js r)).crit&&decide (d=(Qg l (jK js r)).low) then(qbq l js lf en lf.length,true,sw++[(tick:Int)+1])
 else(en,hi,sw)
def qfm(l:List Tk)(js:List Jb)(num den pol:Int)(tick:Nat)(s:Mc):Mc:=
 let a:=qaz l js tick s
 if a.2=[] then⟨a.1,s.dn,[],s.tr++[-1],s.sw,qan s⟩
 else
  let r:=qh5 l js num den pol (qan s) a.2
  let d:=s.dn.getD r 0+1
  let e:=qej l js tick (qan s) a.1 a.2 s.sw r d
  ⟨e.1,s.dn.set r d,qaj e.1 a.2 a.2.length,s.tr++[(Qt js r).task],e.2.2,e.2.1⟩
def qce(l:List Tk)(js:List Jb)(num den pol:Int):Nat→Mc
 |0=>⟨List.replicate js.length (-1),List.replicate js.length 0,[],[],[],false⟩
 |t+1=>qfm l js num den pol t (qce l js num den pol t)
def qrb(l:List Tk)(js:List Jb)(en:List Int)(T:Int)(i:Nat):Bool:=
 decide (jA js i+(Qg l (jK js i)).due<en.getD i 0)||(decide (en.getD i 0= -1)&&decide (jA js i+(Qg l (jK js i)).due≤T))
def qbg(l:List Tk)(js:List Jb)(en:List Int)(T:Int):Nat→List Nat
 |0=>[]
 |k+1=>qbg l js en T k++(if qrb l js en T k then [k] else [])
theorem qd8{l:List Tk}{js:List Jb}(h:Q9 l js=true):Apart l js:=by
 simp only[Q9,Yac,Yaz,Ybu,Yae] at h;obtain⟨⟨hS,h60⟩,hall⟩:=h
 have hj: ∀i,i<js.length→Vy l (Qt js i)=true:=fun i hi=>by
  have:=hall i hi;simp only[qco,Yac] at this;exact this.1.1
 have hj': ∀i,i<js.length→0≤jA js i∧jK js i<l.length∧1≤jN js i∧jN js i≤(Qg l (jK js i)).high∧(Qt js i).task=(jK js i:Int):=by
  intro i hi;have h1:=hj i hi;simp only[Vy,plc,Yac,Yae] at h1;obtain⟨⟨⟨⟨⟨⟨_,h2⟩,h3⟩,h4⟩,h5⟩,h6⟩,h7⟩:=h1;exact⟨h4,by unfold jK;omega,h6,h7,by unfold jK;omega⟩
 refine⟨fun i hi=>(hj' i hi).1,fun i hi=>(hj' i hi).2.1,fun i hi=>⟨(hj' i hi).2.2.1,(hj' i hi).2.2.2.1⟩,?_⟩;intro i j hij hjl hk;have h1:=hall j hjl;simp only[qco,Yac,Yaz] at h1
 have h2:=h1.1.2 (Qt js i) (by
  rw[Vx js i (by omega)];exact List.mem_take_iff_getElem.2 ⟨i,by omega,rfl⟩)
 have e1:=(hj' i (by omega)).2.2.2.2;have e2:=(hj' j hjl).2.2.2.2;simp only[qya,Ycn,Ydx,decide_eq_false_iff_not] at h2
 have e3:(Qg l (Qt js j).task.toNat).every=(Qg l (jK js i)).every:=by
  rw[hk];rfl
 rw[e3] at h2;unfold jA;rcases h2 with h2|h2<;>omega
theorem qc2(l:List Int)(i j:Nat)(x:Int):(l.set i x).getD j 0=if i=j∧i<l.length then x else l.getD j 0:=by
 rw[Ydz,Ydz,List.getElem?_set];by_cases h:i=j
 ·subst h;by_cases h2:i<l.length
  ·simp[h2]
  ·simp[h2]
 ·simp[h]
theorem qz5(l:List Tk)(js:List Jb)(tick:Int)(hi:Bool)(s:List Int×List Nat)(k i:Nat):
  i∈(qby l js tick hi s k).2↔i∈s.2∨(i<k∧jA js i=tick∧(hi=true→(Qg l (jK js i)).crit=true)):=by
 induction k with
 |zero=>simp[qby]
 |succ k ih=>
  simp only[qby,qz3];split
  ·rename_i ht
   split
   ·rename_i hc
    simp only[Yac,Ycn] at hc;rw[ih];constructor
    ·rintro(h|⟨h1,h2⟩)
     ·exact .inl h
     ·exact .inr ⟨by omega,h2⟩
    ·rintro(h|⟨h1,h2,h3⟩)
     ·exact .inl h
     ·refine .inr ⟨?_,h2,h3⟩;apply Ybp
      intro hn;obtain rfl:i=k:=by omega
      have:=h3 hc.1;rw[hc.2] at this;cases this
   ·rename_i hc
    rw[Ybq,Yaw,ih];constructor
    ·rintro((h|⟨h1,h2⟩)|rfl)
     ·exact .inl h
     ·exact .inr ⟨by omega,h2⟩
     ·refine .inr ⟨by omega,ht,fun hh=>?_⟩;subst hh;simpa using hc
    ·rintro(h|⟨h1,h2,h3⟩)
     ·exact .inl (.inl h)
     ·by_cases e:i=k
      ·exact .inr e
      ·exact .inl (.inr ⟨by omega,h2,h3⟩)
  ·rename_i ht
   rw[ih];constructor
   ·rintro(h|⟨h1,h2⟩)
    ·exact .inl h
    ·exact .inr ⟨by omega,h2⟩
   ·rintro(h|⟨h1,h2,h3⟩)
    ·exact .inl h
    ·refine .inr ⟨?_,h2,h3⟩;apply Ybp
     intro hn;obtain rfl:i=k:=by omega
     exact ht h2
theorem qu8(l:List Tk)(js:List Jb)(tick:Int)(hi:Bool)(s:List Int×List Nat)(k:Nat):(qby l js tick hi s k).1.length=s.1.length:=by
 induction k with
 |zero=>rfl
 |succ k ih=>
  simp only[qby,qz3];split
  ·split
   ·rw[Ybc,ih]
   ·exact ih
  ·exact ih
theorem qz6(l:List Tk)(js:List Jb)(tick:Int)(hi:Bool)(s:List Int×List Nat)(k i:Nat)(hi':i<s.1.length):
  (qby l js tick hi s k).1.getD i 0=if i<k∧jA js i=tick∧(hi&& !(Qg l (jK js i)).crit)=true then-2 else s.1.getD i 0:=by
 induction k with
 |zero=>simp[qby]
 |succ k ih=>
  simp only[qby,qz3];split
  ·rename_i ht
   split
   ·rename_i hc
    rw[qc2,qu8,ih];by_cases e:k=i
    ·subst e;rw[Yav ⟨rfl,hi'⟩,Yav ⟨by omega,ht,hc⟩]
    ·rw[Yaq (fun h=>e h.1)]
     have:i<k∧jA js i=tick∧(hi&& !(Qg l (jK js i)).crit)=true↔i<k+1∧jA js i=tick∧(hi&& !(Qg l (jK js i)).crit)=true:=by
      constructor
      ·rintro⟨a,b⟩;exact⟨by omega,b⟩
      ·rintro⟨a,b⟩;exact⟨by omega,b⟩
     simp only[this]
   ·rename_i hc
    dsimp only;rw[ih]
    have:i<k∧jA js i=tick∧(hi&& !(Qg l (jK js i)).crit)=true↔i<k+1∧jA js i=tick∧(hi&& !(Qg l (jK js i)).crit)=true:=by
     constructor
     ·rintro⟨a,b⟩;exact⟨by omega,b⟩
     ·rintro⟨a,b,c⟩;refine⟨?_,b,c⟩;apply Ybp
      intro hn;obtain rfl:i=k:=by omega
      exact hc c
    simp only[this]
  ·rename_i ht
   rw[ih]
   have:i<k∧jA js i=tick∧(hi&& !(Qg l (jK js i)).crit)=true↔i<k+1∧jA js i=tick∧(hi&& !(Qg l (jK js i)).crit)=true:=by
    constructor
    ·rintro⟨a,b⟩;exact⟨by omega,b⟩
    ·rintro⟨a,b,c⟩;refine⟨?_,b,c⟩;apply Ybp
     intro hn;obtain rfl:i=k:=by omega
     exact ht b
   simp only[this]
theorem qkl(l:List Tk)(js:List Jb)(lf:List Nat)(en:List Int)(k:Nat):(qbq l js lf en k).length=en.length:=by
 induction k with
 |zero=>rfl
 |succ k ih=>
  simp only[qbq];split
  ·exact ih
  ·rw[Ybc,ih]
theorem qu9(l:List Tk)(js:List Jb)(lf:List Nat)(en:List Int)(k i:Nat)(hi:i<en.length):
  (qbq l js lf en k).getD i 0=if(∃j,j<k∧lf.getD j 0=i)∧(Qg l (jK js i)).crit=false then-2 else en.getD i 0:=by
 induction k with
 |zero=>
  rw[Yaq (fun h=>by obtain⟨⟨j,hj,_⟩,_⟩:=h;omega)];rfl
 |succ k ih=>
  simp only[qbq];by_cases e:lf.getD k 0=i
  ·rw[e];cases hc:(Qg l (jK js i)).crit with
   |true=>
    rw[Yav rfl,ih,Yaq (fun h=>by rw[hc] at h;exact absurd h.2 (by simp)),Yaq (fun h=>absurd h.2 (by simp))]
   |false=>
    rw[Yaq (by simp),qc2,Yav ⟨rfl,by rw[qkl];exact hi⟩,Yav ⟨⟨k,by omega,e⟩,rfl⟩]
  ·have hx:(∃j,j<k∧lf.getD j 0=i)↔(∃j,j<k+1∧lf.getD j 0=i):=by
    constructor
    ·rintro⟨j,hj,h⟩;exact⟨j,by omega,h⟩
    ·rintro⟨j,hj,h⟩;refine⟨j,?_,h⟩;apply Ybp
     intro hn;obtain rfl:j=k:=by omega
     exact e h
   simp only[←hx];split
   ·exact ih
   ·rw[qc2,Yaq (fun h=>e h.1)];exact ih
theorem qz7(en:List Int)(lf:List Nat)(k i:Nat):i∈qaj en lf k↔(∃j,j<k∧lf.getD j 0=i)∧en.getD i 0= -1:=by
 induction k with
 |zero=>
  constructor
  ·intro h;cases h
  ·rintro⟨⟨j,hj,_⟩,_⟩;omega
 |succ k ih=>
  simp only[qaj,Ybq,ih];constructor
  ·rintro(⟨⟨j,hj,h1⟩,h2⟩|h)
   ·exact⟨⟨j,by omega,h1⟩,h2⟩
   ·split at h
    ·rename_i hc
     rw[Yaw] at h;exact⟨⟨k,by omega,h.symm⟩,by rw[h];exact hc⟩
    ·cases h
  ·rintro⟨⟨j,hj,h1⟩,h2⟩;by_cases e:j=k
   ·subst e;right
    rw[h1,Yav h2];simp
   ·exact .inl ⟨⟨j,by omega,h1⟩,h2⟩
theorem qdm(lf:List Nat)(i:Nat):(∃j,j<lf.length∧lf.getD j 0=i)↔i∈lf:=by
 rw[List.mem_iff_getElem];constructor
 ·rintro⟨j,hj,h⟩;exact⟨j,hj,by simpa [hj] using h⟩
 ·rintro⟨j,hj,h⟩;exact⟨j,hj,by simpa [hj] using h⟩
theorem qrc(g:Nat→Nat→Bool)(lf:List Nat)(k:Nat)(hk:k<lf.length):qhq g lf k∈lf:=by
 induction k with
 |zero=>exact(qdm lf _).1 ⟨0,hk,rfl⟩
 |succ k ih=>
  simp only[qhq];split
  ·exact(qdm lf _).1 ⟨k+1,hk,rfl⟩
  ·exact ih (by omega)
structure MInv (l:List Tk) (js:List Jb) (t:Nat) (s:Mc):Prop where
 enL:s.en.length=js.length
 dnL:s.dn.length=js.length
 lfI: ∀i,i∈s.lf→i<js.length∧jA js i<(t:Int)∧s.en.getD i 0= -1∧s.dn.getD i 0<jN js i∧(s.hi=false→(Qg l (jK js i)).crit=true→s.dn.getD i 0<(Qg l (jK js i)).low)∧(s.hi=true→(Qg l (jK js i)).crit=true)
 fut: ∀i,i<js.length→(t:Int)≤jA js i→s.en.getD i 0= -1∧s.dn.getD i 0=0
 dnLe: ∀i,i<js.length→0≤s.dn.getD i 0∧s.dn.getD i 0≤jN js i
 gone: ∀i,i<js.length→jA js i<(t:Int)→i∉s.lf→s.en.getD i 0≠ -1
theorem q5v{s:Mc}{i:Nat}(h:i∈s.lf):qan s=s.hi:=by
 unfold qan;rw[Yaq (fun e=>by rw[e] at h;cases h)]
section
variable {l:List Tk} {js:List Jb} {num den pol:Int}
theorem qs5{t:Nat}{s:Mc}(i:Nat):i∈(qaz l js t s).2↔i∈s.lf∨(i<js.length∧jA js i=(t:Int)∧(qan s=true→(Qg l (jK js i)).crit=true)):=qz5 l js t (qan s) (s.en,s.lf) js.length i
theorem MInv.come{t:Nat}{s:Mc}(I:MInv l js t s)(A:Apart l js)(hv: ∀k,k<l.length→vld (Qg l k)=true){i:Nat}(h:i∈(qaz l js t s).2):
  i<js.length∧jA js i≤(t:Int)∧(qaz l js t s).1.getD i 0= -1∧s.dn.getD i 0<jN js i∧(qan s=false→(Qg l (jK js i)).crit=true→s.dn.getD i 0<(Qg l (jK js i)).low)∧(qan s=true→(Qg l (jK js i)).crit=true):=by
 have hen:=fun hi=>qz6 l js t (qan s) (s.en,s.lf) js.length i hi
 rcases(qs5 i).1 h with h|⟨h1,h2,h3⟩
 ·obtain⟨a1,a2,a3,a4,a5,a6⟩:=I.lfI i h;rw[q5v h];refine⟨a1,by omega,?_,a4,a5,a6⟩;unfold qaz;rw[hen (by show i<s.en.length;rw[I.enL];exact a1),Yaq (fun e=>by omega)];exact a3
 ·obtain⟨b1,b2⟩:=I.fut i h1 (by omega);have hn:=(A.need i h1).1;have hb:=qao (hv _ (A.tk i h1));refine⟨h1,by omega,?_,by omega,fun _ _=>by omega,h3⟩;unfold qaz;rw[hen (by show i<s.en.length;rw[I.enL];exact h1),Yaq]
  ·exact b1
  ·rintro⟨_,_,e⟩;simp only[Yac,Ycn] at e;have:=h3 e.1;rw[e.2] at this;cases this
theorem MInv.goneA{t:Nat}{s:Mc}(I:MInv l js t s){i:Nat}(hi:i<js.length)(ha:jA js i≤(t:Int))(h:i∉(qaz l js t s).2):(qaz l js t s).1.getD i 0≠ -1:=by
 have hen:=qz6 l js t (qan s) (s.en,s.lf) js.length i (by show i<s.en.length;rw[I.enL];exact hi);rw[qs5] at h;unfold qaz;rw[hen];by_cases e:jA js i=(t:Int)
 ·have hc:(qan s&& !(Qg l (jK js i)).crit)=true:=by
   apply Ybp
   intro hn;apply h
   refine .inr ⟨hi,e,fun hm=>?_⟩;rw[hm] at hn;simpa using hn
  rw[Yav ⟨hi,e,hc⟩];decide
 ·rw[Yaq (fun h=>e h.2.1)];exact I.gone i hi (by omega) (fun h'=>h (.inl h'))
theorem qs6{t:Nat}{s:Mc}(I:MInv l js t s):(qaz l js t s).1.length=js.length:=(qu8 ..).trans I.enL
theorem q5w(t:Nat)(hi:Bool)(en:List Int)(lf:List Nat)(sw:List Int)(r:Nat)(d:Int):(qej l js t hi en lf sw r d).1.length=en.length:=by
 unfold qej;split
 ·exact Ybc
 ·split
  ·exact qkl ..
  ·rfl
theorem q67(t:Nat)(hi:Bool)(en:List Int)(lf:List Nat)(sw:List Int)(r:Nat)(d:Int){i:Nat}(hi':i<en.length):
  (qej l js t hi en lf sw r d).1.getD i 0=en.getD i 0∨(i=r∧d=jN js r∧(qej l js t hi en lf sw r d).1.getD i 0=(t:Int)+1)∨(i∈lf∧(Qg l (jK js i)).crit=false∧(qej l js t hi en lf sw r d).1.getD i 0= -2):=by
 unfold qej;split
 ·rename_i hd
  dsimp only;rw[qc2];split
  ·rename_i h
   exact .inr (.inl ⟨h.1.symm,hd,rfl⟩)
  ·exact .inl rfl
 ·split
  ·dsimp only;rw[qu9 _ _ _ _ _ _ hi'];split
   ·rename_i h
    exact .inr (.inr ⟨(qdm lf i).1 h.1,h.2,rfl⟩)
   ·exact .inl rfl
  ·exact .inl rfl
theorem MInv.step(A:Apart l js)(hv: ∀k,k<l.length→vld (Qg l k)=true){t:Nat}{s:Mc}(I:MInv l js t s):MInv l js (t+1) (qfm l js num den pol t s):=by
 have hC:=fun {i} (h:i∈(qaz l js t s).2)=>I.come A hv h
 have hG:=fun {i} (h1:i<js.length) (h2:jA js i≤(t:Int)) (h3:i∉(qaz l js t s).2)=>I.goneA h1 h2 h3
 have hL:=qs6 I
 have hfutA: ∀i,i<js.length→((t:Int)+1)≤jA js i→(qaz l js t s).1.getD i 0= -1:=by
  intro i h1 h2;unfold qaz;rw[qz6 l js t (qan s) (s.en,s.lf) js.length i (by show i<s.en.length;rw[I.enL];exact h1),Yaq (fun e=>by omega)];exact(I.fut i h1 (by omega)).1
 unfold qfm;by_cases he:(qaz l js t s).2=[]
 ·simp only[he,if_true];refine⟨hL,I.dnL,fun i h=>(by cases h),fun i h1 h2=>⟨hfutA i h1 (by omega),(I.fut i h1 (by omega)).2⟩,I.dnLe,fun i h1 h2 _=>hG h1 (by omega) (by rw[he];simp)⟩
 ·simp only[he,Ydh]
  have hlen:0<(qaz l js t s).2.length:=by
   apply Nat.pos_of_ne_zero
   intro e;exact he (Ydk e)
  have hr:=qrc (qeu l js num den pol (qan s)) (qaz l js t s).2 ((qaz l js t s).2.length-1) (by omega);change qh5 l js num den pol (qan s) (qaz l js t s).2∈_ at hr;generalize qh5 l js num den pol (qan s) (qaz l js t s).2=r at hr;obtain⟨r1,r2,r3,r4,r5,r6⟩:=hC hr
  have hdn: ∀i,(s.dn.set r (s.dn.getD r 0+1)).getD i 0=if r=i then s.dn.getD r 0+1 else s.dn.getD i 0:=by
   intro i;rw[qc2];by_cases e:r=i
   ·subst e;rw[Yav rfl,Yav ⟨rfl,by rw[I.dnL];exact r1⟩]
   ·rw[Yaq e,Yaq (fun h=>e h.1)]
  have hen:=fun {i} (hi':i<js.length)=>q67 (l:=l) (js:=js) t (qan s) (qaz l js t s).1 (qaz l js t s).2 s.sw r (s.dn.getD r 0+1) (i:=i) (by rw[hL];exact hi')
  have hst: ∀i,i∈qaj (qej l js t (qan s) (qaz l js t s).1 (qaz l js t s).2 s.sw r (s.dn.getD r 0+1)).1 (qaz l js t s).2 (qaz l js t s).2.length↔i∈(qaz l js t s).2∧(qej l js t (qan s) (qaz l js t s).1 (qaz l js t s).2 s.sw r (s.dn.getD r 0+1)).1.getD i 0= -1:=by
   intro i;rw[qz7,qdm]
  refine⟨by rw[q5w];exact hL,by rw[Ybc];exact I.dnL,?_,?_,?_,?_⟩
  ·intro i h;rw[hst] at h;obtain⟨h1,h2⟩:=h;obtain⟨a1,a2,a3,a4,a5,a6⟩:=hC h1;rw[hdn];refine⟨a1,by omega,h2,?_⟩;unfold qej at h2⊢;by_cases hd:s.dn.getD r 0+1=jN js r
   ·rw[Yav hd] at h2⊢;dsimp only at h2⊢
    have hne: ¬r=i:=by
     intro e;subst e;rw[qc2,Yav ⟨rfl,by rw[hL];exact a1⟩] at h2;omega
    rw[Yaq hne];exact⟨a4,a5,a6⟩
   ·rw[Yaq hd] at h2⊢;split at h2
    ·rename_i hsw
     rw[Yav hsw];dsimp only at h2⊢;rw[qu9 _ _ _ _ _ _ (by rw[hL];exact a1)] at h2
     have hcr:(Qg l (jK js i)).crit=true:=by
      cases hcr:(Qg l (jK js i)).crit with
      |true=>rfl
      |false=>
       rw[Yav ⟨(qdm _ i).2 h1,hcr⟩] at h2;cases h2
     refine⟨?_,fun h=>(by cases h),fun _=>hcr⟩;split
     ·rename_i e
      subst e;omega
     ·exact a4
    ·rename_i hsw
     rw[Yaq hsw];dsimp only at h2⊢;by_cases e:r=i
     ·subst e;rw[Yav rfl];refine⟨by omega,fun hm hc=>?_,a6⟩;have h7:=a5 hm hc;apply Ybp
      intro hn;apply hsw
      have hc':(Qg l (jK js r)).crit=true:=hc;simp only[hm,hc',Bool.not_false,Ycy,Yae];omega
     ·rw[Yaq e];exact⟨a4,a5,a6⟩
  ·intro i h1 h2;have hni:i∉(qaz l js t s).2:=fun h=>by have:=(hC h).2.1;omega
   refine⟨?_,?_⟩
   ·rcases hen h1 with h|⟨h,_⟩|⟨h,_⟩
    ·rw[h];exact hfutA i h1 (by omega)
    ·exact absurd (h▸hr) hni
    ·exact absurd h hni
   ·rw[hdn,Yaq (fun e:r=i=>hni (e▸hr))];exact(I.fut i h1 (by omega)).2
  ·intro i h1;rw[hdn];have:=I.dnLe i h1;split
   ·rename_i e
    subst e;omega
   ·exact this
  ·intro i h1 h2 h3;by_cases hia:i∈(qaz l js t s).2
   ·intro h4;exact h3 ((hst i).2 ⟨hia,h4⟩)
   ·rcases hen h1 with h|⟨h,_⟩|⟨h,_⟩
    ·rw[h];exact hG h1 (by omega) hia
    ·exact absurd (h▸hr) hia
    ·exact absurd h hia
theorem q68(A:Apart l js)(hv: ∀k,k<l.length→vld (Qg l k)=true)(t:Nat):MInv l js t (qce l js num den pol t):=by
 induction t with
 |zero=>
  refine⟨by simp[qce],by simp[qce],fun i h=>(by cases h),fun i h1 _=>by simp[qce,h1],fun i h1=>?_,fun i h1 h2=>?_⟩
  ·have:=(A.need i h1).1;simp[qce,h1];omega
  ·have:=A.at0 i h1;omega
 |succ t ih=>exact ih.step A hv
end
def q7v(l:List Tk):Rat:=if Vj l then 1 else qm1 l
theorem qz8(l:List Tk)(js:List Jb)(tick:Int)(hi:Bool)(s:List Int×List Nat)(k:Nat):(qby l js tick hi s k).2.length≤s.2.length+k:=by
 induction k with
 |zero=>exact zlr _
 |succ k ih=>
  simp only[qby,qz3];split
  ·split
   ·dsimp only;omega
   ·simp only[Yaa,Yat];omega
  ·omega
theorem q3g(en:List Int)(lf:List Nat)(k:Nat):(qaj en lf k).length≤k:=by
 induction k with
 |zero=>exact zlr _
 |succ k ih=>
  simp only[qaj,Yaa];split<;>simp<;>omega
theorem qiw{l:List Tk}{js:List Jb}{num den pol:Int}(h:js.length≤60)(k:Nat):(qce l js num den pol k).tr.length=k∧(qce l js num den pol k).sw.length≤k∧(qce l js num den pol k).lf.length≤60*k:=by
 induction k with
 |zero=>exact⟨rfl,zlr _,zlr _⟩
 |succ k ih=>
  obtain⟨h1,h2,h3⟩:=ih;have ha:=qz8 l js k (qan (qce l js num den pol k)) ((qce l js num den pol k).en,(qce l js num den pol k).lf) js.length;have ha:(qaz l js k (qce l js num den pol k)).2.length≤(qce l js num den pol k).lf.length+js.length:=ha;show(qfm l js num den pol k (qce l js num den pol k)).tr.length=_∧(qfm l js num den pol k (qce l js num den pol k)).sw.length≤_∧(qfm l js num den pol k (qce l js num den pol k)).lf.length≤_;unfold qfm;by_cases he:(qaz l js k (qce l js num den pol k)).2=[]
  ·simp only[he,if_true];exact⟨by simp[h1],by omega,by simp⟩
  ·simp only[he,Ydh];refine⟨by simp[h1],?_,?_⟩
   ·unfold qej;split
    ·show(qce l js num den pol k).sw.length≤_;omega
    ·split
     ·simp;omega
     ·show(qce l js num den pol k).sw.length≤_;omega
   ·exact zll (q3g _ _ _) (by omega)
theorem qkm{l:List Tk}{js:List Jb}{num den pol:Int}{k:Nat}{s:Mc}{en en':List Int}{lf st:List Nat}{r:Nat}{d:Int}{hi:Bool}{sw:List Int}(ha:qaz l js k s=(en,lf))(hne:lf≠[])(hr:qh5 l js num den pol (qan s) lf=r)(hd:s.dn.getD r 0+1=d)
  (he:qej l js k (qan s) en lf s.sw r d=(en',hi,sw)) (hst:qaj en' lf lf.length=st):qfm l js num den pol k s=⟨en',s.dn.set r d,st,s.tr++[(Qt js r).task],sw,hi⟩:=by
 unfold qfm;simp only[ha,hne,Ydh,hr,hd,he,hst]
theorem qp9{l:List Tk}{js:List Jb}{num den pol:Int}{k:Nat}{s:Mc}{en:List Int}(ha:qaz l js k s=(en,[])):qfm l js num den pol k s=⟨en,s.dn,[],s.tr++[-1],s.sw,qan s⟩:=by
 unfold qfm;simp only[ha,if_true]
end
def qev(l:List Tk)(x:Int):Bool:=plc l x&&qez l x.toNat
theorem qyh{l:List Tk}{k:Nat}(hk:k<l.length):(l.eraseIdx k++[Qg l k]).Perm l:=by
 rw[qbi l k hk];exact(List.perm_append_comm (l₁:=l.eraseIdx k) (l₂:=[l[k]])).trans (qwy l k hk)
theorem qs7{l:List Tk}(hs:Qe l=true){k:Nat}(hk:k<l.length):Qe (l.eraseIdx k++[Qg l k])=true:=qgy (Sub.perm (qyh hk)) hs
theorem qz9{l:List Tk}{k:Nat}:qc7 (l.eraseIdx k++[Qg l k]) (l.eraseIdx k).length=qez l k:=by
 have e:Qg (l.eraseIdx k++[Qg l k]) (l.eraseIdx k).length=Qg l k:=by
  rw[qbi _ _ (by simp)];simp
 rw[qlf (by simp),e,List.take_left,qez]
theorem qyi{l:List Tk}(hs:Qe l=true){k:Nat}(hk:k<l.length):qi7 (l.eraseIdx k++[Qg l k]) (((l.eraseIdx k).length:Nat):Int)=qez l k:=by
 rw[qli (qs7 hs hk) (by simp),qz9]
theorem qf7{w:World}{b:Nat}{t:Tk}{ty:TypeId}{cs:Array Value}(h:w.heap[b]? =some (.cells cs ty (0,0)))(hcs:cs.toList=t.cells):TS w (some ⟨b,0,none⟩) [t]:=by
 intro _;refine⟨b,0,rfl,(bl h),fun j u hu=>?_⟩;rw[Ybj,Ybf w b j cs ty (0,0) h,←Ybk,hcs];simpa [qcw] using hu
theorem qo5(A:ZA)(l:List Tk)(c:Nat)(x:Int)(w:World)(h:TS w A l)(hm:l.length≤maxLen)(hlc:l.length≤c):
  Calls Tryz.prog 146 #[.slice A l.length c,.int .i64 x] w fun e w'=>e=.returned (.bool (qev l x))∧Below w.heap.size w w':=by
 cases hP:plc l x with
 |false=>
  have hv:Hid (qev l x=false):=by simp[Hid,qev,hP]
  go_enter Tryz.func146,Tryz.ntmps146;go_wp2_with fail;refine(qca A l c x _ h hm).mono ?_;rw[hP];rintro e w1 ⟨rfl,b1⟩;go_wp2_with fail;go_ret;exact⟨by rw[hv.out];rfl,b1⟩
 |true=>
  obtain⟨hs,hl5,hlt,hx⟩:=qbk hP;have hv:Hid (qev l x=qez l x.toNat):=by simp[Hid,qev,hP]
  obtain⟨n,rfl⟩: ∃n:Nat,x=(n:Int):=⟨_,hx⟩;rw[Yam] at*;have HS:=zhi hs;clear hx hs;go_enter Tryz.func146,Tryz.ntmps146;go_wp2_with fail;refine(qca A l c n _ h hm).mono ?_;rw[hP];clear hP;rintro e w1 ⟨rfl,b1⟩;obtain⟨b,off,rfl,hbl,hc⟩:=h.keep b1 (by omega);obtain⟨c0,c1,c2,c3,c4⟩:=Qv hc n hlt;clear hc
  have S_of: ∀w':World,Below w1.heap.size w1 w'→w'.cell? ⟨b,off+n*5,none⟩=some (.int .i64 (Qg l n).low)∧w'.cell? ⟨b,off+n*5+1,none⟩=some (.int .i64 (Qg l n).high)∧w'.cell? ⟨b,off+n*5+2,none⟩=some (.int .i64 (Qg l n).due)∧
    w'.cell? ⟨b,off+n*5+3,none⟩=some (.int .i64 (Qg l n).every)∧w'.cell? ⟨b,off+n*5+4,none⟩=some (.bool (Qg l n).crit)∧Below w1.heap.size w1 w':=fun w' hw=>
   ⟨(hw.cell (p:=⟨b,off+n*5,none⟩) hbl).trans c0,(hw.cell (p:=⟨b,off+n*5+1,none⟩) hbl).trans c1,(hw.cell (p:=⟨b,off+n*5+2,none⟩) hbl).trans c2,(hw.cell (p:=⟨b,off+n*5+3,none⟩) hbl).trans c3,(hw.cell (p:=⟨b,off+n*5+4,none⟩) hbl).trans c4,hw⟩
  have q0:(0:Int)≤(n:Int):=by omega
  have q1:(n:Int)<(l.length:Int):=by omega
  have el:Hid ((l.eraseIdx n).length=l.length-1):=Ybs hlt;have el5:(l.eraseIdx n).length≤5:=by rw[el.out];omega
  clear c0 c1 c2 c3 c4;go_wp2_with fail
  go_region_held3 (fun w'=>w'.cell? ⟨b,off+n*5,none⟩=some (.int .i64 (Qg l n).low)∧w'.cell? ⟨b,off+n*5+1,none⟩=some (.int .i64 (Qg l n).high)∧w'.cell? ⟨b,off+n*5+2,none⟩=some (.int .i64 (Qg l n).due)∧
    w'.cell? ⟨b,off+n*5+3,none⟩=some (.int .i64 (Qg l n).every)∧w'.cell? ⟨b,off+n*5+4,none⟩=some (.bool (Qg l n).crit)∧Below w1.heap.size w1 w')
   ((refine S_of _ ?_;first|assumption|exact zdr br|exact zdr (bal br _)|exact(by assumption:_∧_∧_∧_∧_∧Below w1.heap.size w1 _).2.2.2.2.2|(refine bal ?_ _;first|assumption|exact(by assumption:_∧_∧_∧_∧_∧Below w1.heap.size w1 _).2.2.2.2.2)))
   (first
    |(go_at_call 199;refine(qgj (some ⟨b,off,none⟩) l c n (World.drew (World.alloc _ _)) (h.keep (Qa b1 (by first|assumption|exact(by assumption:_∧_∧_∧_∧_∧Below w1.heap.size w1 _).2.2.2.2.2))) hlt hlc (by omega)).mono ?_;rintro e w5 ⟨A5,c5,rfl,o5,b5⟩;have o5:OT w1.heap.size w5 A5 c5 (l.eraseIdx n):=Ql o5 (by simp);have HN:=zhi ((b5.block w1.heap.size (by show w1.heap.size<(World.alloc w1 _).heap.size;rw[Yah];exact Ybe _)).trans (zha w1 _));have B5:Below w1.heap.size w1 w5:=Qa (by first|assumption|exact(by assumption:_∧_∧_∧_∧_∧Below w1.heap.size w1 _).2.2.2.2.2) b5)
    |(go_at_call 199;refine(qgj (some ⟨b,off,none⟩) l c n _ (h.keep (Qa b1 (by first|assumption|exact(by assumption:_∧_∧_∧_∧_∧Below w1.heap.size w1 _).2.2.2.2.2))) hlt hlc (by omega)).mono ?_;rintro e w5 ⟨A5,c5,rfl,o5,b5⟩;have B5:Below w1.heap.size w1 w5:=Qa (by first|assumption|exact(by assumption:_∧_∧_∧_∧_∧Below w1.heap.size w1 _).2.2.2.2.2) b5;have o5:OT w1.heap.size w5 A5 c5 (l.eraseIdx n):=Ql o5 (by simp))
    |(have hsrc:=HN.out;refine Qy rfl (.tmp 12) (.tmp 17) rfl w1.heap.size A5 (l.eraseIdx n) _ c5 rfl (by simp[Act.eval]) o5 ⟨w1.heap.size,0,none⟩ 1 1 [Qg l n] rfl (by simp[Act.eval]) (qf7 hsrc rfl) (by rw[el.out];omega) (by simp) B5.size ?_;intro A7 c7 w7 o7 g7 b7;clear hsrc;have B7:Below w1.heap.size w1 w7:=B5.trans b7)
    |(refine Qy rfl (.tmp 12) (.tmp 17) rfl w1.heap.size A5 (l.eraseIdx n) _ c5 rfl (by simp[Act.eval]) (Vb o5 _) ⟨w5.heap.size,0,none⟩ 1 1 [Qg l n] rfl (by simp[Act.eval]) (qf7 (zha w5 _) rfl) (by rw[el.out];omega) (by simp) (by have:=B5.size;rw[Yah];omega) ?_;intro A7 c7 w7 o7 g7 b7;have B7:Below w1.heap.size w1 w7:=(bal B5 _).trans b7))
  all_goals go_wp2_with fail
  all_goals
   have K:=qjp A7 (l.eraseIdx n++[Qg l n]) c7 (l.eraseIdx n).length w7 o7.ts (qs7 HS.out hlt) (by simp);rw[qz9,show(l.eraseIdx n++[Qg l n]).length=(l.eraseIdx n).length+1 by simp] at K;refine K.mono ?_;rintro e w8 ⟨rfl,b8⟩;go_wp2_with fail;go_ret;exact⟨by rw[hv.out];rfl,Qa b1 (Qa B7 b8)⟩
theorem qo6(A:ZA)(l:List Tk)(c:Nat)(x:Int)(w:World)(h:TS w A l)(_hlc:l.length≤c):
  Calls Tryz.prog 177 #[.slice A l.length c,.int .i64 x] w fun e w'=>e=.returned (.bool (qev l x))∧Below w.heap.size w w':=by
 cases hP:plc l x with
 |false=>
  have hv:Hid (qev l x=false):=by simp[Hid,qev,hP]
  go_enter Tryz.func177,Tryz.ntmps177;go_wp2_with fail;refine(Vs A l c x _ h).mono ?_;rw[hP];rintro e w1 ⟨rfl,b1⟩;go_wp2_with fail;go_ret;exact⟨by rw[hv.out];rfl,b1⟩
 |true=>
  obtain⟨hs,hl5,hlt,hx⟩:=qbk hP;have hv:Hid (qev l x=qez l x.toNat):=by simp[Hid,qev,hP]
  obtain⟨n,rfl⟩: ∃n:Nat,x=(n:Int):=⟨_,hx⟩;rw[Yam] at*;have HS:=zhi hs;clear hx hs;go_enter Tryz.func177,Tryz.ntmps177;go_wp2_with fail;refine(Vs A l c n _ h).mono ?_;rw[hP];clear hP;rintro e w1 ⟨rfl,b1⟩;obtain⟨b,off,rfl,hbl,hc⟩:=h.keep b1 (by omega);obtain⟨c0,c1,c2,c3,c4⟩:=Qv hc n hlt;clear hc
  have S_of: ∀w':World,Below w1.heap.size w1 w'→w'.cell? ⟨b,off+n*5,none⟩=some (.int .i64 (Qg l n).low)∧w'.cell? ⟨b,off+n*5+1,none⟩=some (.int .i64 (Qg l n).high)∧w'.cell? ⟨b,off+n*5+2,none⟩=some (.int .i64 (Qg l n).due)∧
    w'.cell? ⟨b,off+n*5+3,none⟩=some (.int .i64 (Qg l n).every)∧w'.cell? ⟨b,off+n*5+4,none⟩=some (.bool (Qg l n).crit)∧Below w1.heap.size w1 w':=fun w' hw=>
   ⟨(hw.cell (p:=⟨b,off+n*5,none⟩) hbl).trans c0,(hw.cell (p:=⟨b,off+n*5+1,none⟩) hbl).trans c1,(hw.cell (p:=⟨b,off+n*5+2,none⟩) hbl).trans c2,(hw.cell (p:=⟨b,off+n*5+3,none⟩) hbl).trans c3,(hw.cell (p:=⟨b,off+n*5+4,none⟩) hbl).trans c4,hw⟩
  have q0:(0:Int)≤(n:Int):=by omega
  have q1:(n:Int)<(l.length:Int):=by omega
  have qw:IntKind.i64.wrap ((n:Int)+1)=(n:Int)+1:=Yai _ (by omega);have el:Hid ((l.eraseIdx n).length=l.length-1):=Ybs hlt;have el5:(l.eraseIdx n).length≤5:=by rw[el.out];omega
  clear c0 c1 c2 c3 c4;go_wp2_with fail
  go_region_held3 (fun w'=>w'.cell? ⟨b,off+n*5,none⟩=some (.int .i64 (Qg l n).low)∧w'.cell? ⟨b,off+n*5+1,none⟩=some (.int .i64 (Qg l n).high)∧w'.cell? ⟨b,off+n*5+2,none⟩=some (.int .i64 (Qg l n).due)∧
    w'.cell? ⟨b,off+n*5+3,none⟩=some (.int .i64 (Qg l n).every)∧w'.cell? ⟨b,off+n*5+4,none⟩=some (.bool (Qg l n).crit)∧Below w1.heap.size w1 w')
   ((refine S_of _ ?_;first|assumption|exact zdr br|exact zdr (bal br _)|exact(by assumption:_∧_∧_∧_∧_∧Below w1.heap.size w1 _).2.2.2.2.2|(refine bal ?_ _;first|assumption|exact(by assumption:_∧_∧_∧_∧_∧Below w1.heap.size w1 _).2.2.2.2.2)))
   (first
    |(go_at_call 172;refine(qba (some ⟨b,off,none⟩) l c (World.drew (World.alloc _ _)) (h.keep (Qa b1 (by first|assumption|exact(by assumption:_∧_∧_∧_∧_∧Below w1.heap.size w1 _).2.2.2.2.2))) (by omega)).mono ?_;rintro e w5 ⟨A5,c5,rfl,o5,b5⟩;obtain⟨g5,rfl,hg5',hl5⟩:=qep o5 (by omega);have hne5:w1.heap.size≠g5:=Nat.ne_of_lt (zlt (by show w1.heap.size<(World.alloc w1 _).heap.size;rw[Yah];exact Ybe _) hg5');have hg5:w1.heap.size≤g5:=zll (by show w1.heap.size≤(World.alloc w1 _).heap.size;rw[Yah];exact Ydr _) hg5';have o5:OT w1.heap.size w5 (some ⟨g5,0,none⟩) c5 l:=Ql o5 (by simp);have HN:=zhi ((b5.block w1.heap.size (by show w1.heap.size<(World.alloc w1 _).heap.size;rw[Yah];exact Ybe _)).trans (zha w1 _));have hz5:w1.heap.size<w5.heap.size:=zlt (by show w1.heap.size<(World.alloc w1 _).heap.size;rw[Yah];exact Ybe _) b5.size;have B5:Below w1.heap.size w1 w5:=Qa (by first|assumption|exact(by assumption:_∧_∧_∧_∧_∧Below w1.heap.size w1 _).2.2.2.2.2) b5)
    |(go_at_call 172;refine(qba (some ⟨b,off,none⟩) l c _ (h.keep (Qa b1 (by first|assumption|exact(by assumption:_∧_∧_∧_∧_∧Below w1.heap.size w1 _).2.2.2.2.2))) (by omega)).mono ?_;rintro e w5 ⟨A5,c5,rfl,o5,b5⟩;have B5:Below w1.heap.size w1 w5:=Qa (by first|assumption|exact(by assumption:_∧_∧_∧_∧_∧Below w1.heap.size w1 _).2.2.2.2.2) b5;have o5:OT w1.heap.size w5 A5 c5 l:=Ql o5 (by simp);obtain⟨g5,rfl,hg5,hl5⟩:=qep o5 (by omega))
    |(go_at_call 191;have hn5:=HN.out;refine(qd7 w1.heap.size g5 c5 n l _ o5 hlt (by omega)).mono ?_;rintro e w6 ⟨rfl,o6,gr6⟩;have HN6:=zhi ((gr6.block w1.heap.size hz5 (fun e=>hne5 (Option.some.inj e))).trans hn5);clear hn5;have B6:Below w1.heap.size w1 w6:=B5.trans (qkh gr6 hg5 B5.size))
    |(go_at_call 191;refine(qd7 w1.heap.size g5 c5 n l (World.alloc _ _) (Vb o5 _) hlt (by omega)).mono ?_;rintro e w6 ⟨rfl,o6,gr6⟩;have HN6:=zhi ((gr6.block w5.heap.size (by rw[Yah];exact Ybe _) (fun e=>Nat.ne_of_gt hl5 (Option.some.inj e))).trans (zha w5 _));have B6:Below w1.heap.size w1 w6:=(bal B5 _).trans (qkh gr6 hg5 (bal B5 _).size))
    |(go_at_call 191;refine(qd7 w1.heap.size g5 c5 n l _ o5 hlt (by omega)).mono ?_;rintro e w6 ⟨rfl,o6,gr6⟩;have B6:Below w1.heap.size w1 w6:=B5.trans (qkh gr6 hg5 B5.size))
    |(have hsrc:=HN6.out;refine Qy rfl (.tmp 15) (.tmp 20) rfl w1.heap.size (some ⟨g5,0,none⟩) (l.eraseIdx n) _ c5 rfl (by simp[Act.eval]) o6 ⟨_,0,none⟩ 1 1 [Qg l n] rfl (by simp[Act.eval]) (qf7 hsrc rfl) (by rw[el.out];omega) (by simp) B6.size ?_;intro A7 c7 w7 o7 g7 b7;clear hsrc;have B7:Below w1.heap.size w1 w7:=B6.trans b7)
    |(refine Qy rfl (.tmp 15) (.tmp 20) rfl w1.heap.size (some ⟨g5,0,none⟩) (l.eraseIdx n) _ c5 rfl (by simp[Act.eval]) (Vb o6 _) ⟨w6.heap.size,0,none⟩ 1 1 [Qg l n] rfl (by simp[Act.eval]) (qf7 (zha w6 _) rfl) (by rw[el.out];omega) (by simp) (by have:=B6.size;rw[Yah];omega) ?_;intro A7 c7 w7 o7 g7 b7;have B7:Below w1.heap.size w1 w7:=(bal B6 _).trans b7))
  all_goals go_wp2_with fail
  all_goals
   have h7:=Qo o7;have K:=qlj A7 (l.eraseIdx n++[Qg l n]) c7 ((l.eraseIdx n).length:Nat) w7 o7.ts h7.1;rw[qyi HS.out hlt,show(l.eraseIdx n++[Qg l n]).length=(l.eraseIdx n).length+1 by simp] at K;clear h7;refine K.mono ?_;rintro e w8 ⟨rfl,b8⟩;go_wp2_with fail;go_ret;exact⟨by rw[hv.out];rfl,Qa b1 (Qa B7 b8)⟩
end Go.Proofs.YtmkjmancmiphfaaGreatDoor
