/-
  The worst jobs: the program's.
  The worst jobs: the reference's.
  Texts of jobs, cut into their parts: in plain Lean.
-/
import Derived.Test.YtmkjmancmiphfaaGreatDoorRc23
namespace Go.Proofs.YtmkjmancmiphfaaGreatDoor
set_option maxHeartbeats 8000000
set_option maxRecDepth 1000000
open Go.RowKit
theorem qtq{l:List Tk}{n:Int}{high:Bool}{k:Nat}(hk:(k:Int)<n){j:Nat}(hj:j≤l.length)(h:60<(qeh l high k++qov l (k:Int) high j).length):qay l n high=none:=by
 have h1:=q5h l (k:Int) high hj;have h2:=q23 l high (show k+1≤n.toNat by omega);have h3:(qeh l high (k+1)).length=(qeh l high k).length+(qov l (k:Int) high l.length).length:=by simp[qeh]
 rw[Yaa] at h;have h4: ¬(qeh l high n.toNat).length≤60:=by omega
 simp[qay,h4]
theorem qea(A:ZA)(l:List Tk)(c:Nat)(n:Int)(high:Bool)(w:World)(h:TS w A l):
  Calls Tryz.prog 139 #[.slice A l.length c,.int .i64 n,.bool high] w (q21 w (qcl l n high) (qay l n high).isSome):=by
 by_cases hok:Qe l=true∧0≤n∧n≤200
 case neg=>
  have hw:qay l n high=none:=by
   unfold qay;rw[Yaq];simp only[Yac,Yae];intro e;exact hok ⟨e.1.1.1,e.1.1.2,e.1.2⟩
  have HW:Hid (qcl l n high=[]∧(qay l n high).isSome=false):=by simp[Hid,qcl,hw]
  clear hw;cases hS:Qe l with
  |false=>
   go_enter Tryz.func139,Tryz.ntmps139;go_wp2_with fail;refine(Qf A l c _ h).mono ?_;rw[hS];rintro e w1 ⟨rfl,b1⟩;go_wp2_with fail;go_ret2;rw[HW.out.1,HW.out.2];exact⟨none,0,rfl,qsm _ _,b1⟩
  |true=>
   by_cases h0:n<0
   ·clear hok;go_enter Tryz.func139,Tryz.ntmps139;go_wp2_with fail;refine(Qf A l c _ h).mono ?_;rw[hS];rintro e w1 ⟨rfl,b1⟩;go_wp2_with fail;go_ret2;rw[HW.out.1,HW.out.2];exact⟨none,0,rfl,qsm _ _,b1⟩
   ·have h2:200<n:=by
     rcases Int.lt_or_le 200 n with h2|h2
     ·exact h2
     ·exact absurd ⟨hS,by omega,h2⟩ hok
    clear hok;go_enter Tryz.func139,Tryz.ntmps139;go_wp2_with fail;refine(Qf A l c _ h).mono ?_;rw[hS];rintro e w1 ⟨rfl,b1⟩;go_wp2_with fail;go_ret2;rw[HW.out.1,HW.out.2];exact⟨none,0,rfl,qsm _ _,b1⟩
 obtain⟨hS,h0,h2⟩:=hok;obtain⟨m,rfl⟩: ∃m:Nat,n=(m:Int):=⟨n.toNat,(Yay h0).symm⟩;obtain⟨hl5,hall⟩:=Qj hS;have Hall:=zhi hall;have HS:=zhi hS;clear hall hS;go_enter Tryz.func139,Tryz.ntmps139;go_wp2_with fail;refine(Qf A l c _ h).mono ?_;rw[HS.out];rintro e w1 ⟨rfl,b1⟩;go_wp2_with fail;go_loopg [8,26] m (fun g v i wr=> ∃(k bo c':Nat) (xs:List Jb),g+k=m∧i=.int .i64 (k:Int)∧v=.slice (some ⟨bo,0,none⟩) xs.length c'∧Hid (qeh l high k=xs)∧xs.length≤60∧OJ w.heap.size wr (some ⟨bo,0,none⟩) c' xs∧Below w.heap.size w wr)
 case atStart=>exact⟨0,_,0,[],by omega,rfl,rfl,rfl,by simp,qcy w1 _ b1.size,bal b1 _⟩
 case round=>
  obtain⟨k,bo,c',xs,hg,rfl,rfl,hxs,hx60,hO,hb⟩:=hrel;by_cases hlt:k<m
  ·go_wp2_with fail;go_loopg [8,31] l.length (fun g v i wy=> ∃(j bo2 c2:Nat) (ys:List Jb),g+j=l.length∧i=.int .i64 (j:Int)∧v=.slice (some ⟨bo2,0,none⟩) ys.length c2∧Hid (qeh l high k++qov l (k:Int) high j=ys)∧ys.length≤60∧OJ w.heap.size wy (some ⟨bo2,0,none⟩) c2 ys∧Below w.heap.size w wy)
   case atStart=>exact⟨0,bo,c',xs,by omega,rfl,rfl,by rw[Hid,hxs.out];simp[qov],hx60,hO,hb⟩
   case round=>
    clear hO hb hx60;obtain⟨j,bo2,c2,ys,hg2,rfl,rfl,hys,hy60,hO2,hb2⟩:=hrel;by_cases hj:j<l.length
    ·obtain⟨b,off,rfl,hbl,hc⟩:=h.keep hb2 (by omega);obtain⟨k0,k1,k2,k3,k4⟩:=qaa hc j hj;clear hc;have hv:=qao (Hall.out _ (Yao hj));have htk:=qbi l j hj
     have hstep:qeh l high k++qov l (k:Int) high (j+1)=ys++(if(k:Int) % l[j].every=0 then [⟨(j:Int),(k:Int),if high then l[j].high else l[j].low⟩] else []):=by
      rw[←hys.out,Yax];simp only[qov,htk]
     generalize l[j]=t at k0 k1 k2 k3 k4 hv hstep;obtain⟨v1,v2,v3,v4,v5⟩:=hv;by_cases hm:(k:Int) % t.every=0
     ·rw[Yav hm] at hstep;by_cases h60:ys.length=60
      ·have hn:=qtq (n:=(m:Int)) (k:=k) (by omega) (show j+1≤l.length by omega) (by rw[hstep];simp[h60]);have HW:Hid (qcl l (m:Int) high=[]∧(qay l (m:Int) high).isSome=false):=by simp[Hid,qcl,hn]
       have e60:((ys.length:Int)==60)=true:=by rw[Yef];omega
       have em:((k:Int) % t.every !=0)=false:=by simp[hm]
       clear hn hstep h60;go_wp2_with fail;go_ret2;rw[HW.out.1,HW.out.2];exact⟨none,0,rfl,qsm _ _,by first|exact bal hb2 _|exact hb2⟩
      ·have e60:((ys.length:Int)==60)=false:=beq_eq_false_iff_ne.2 (by omega);have em:((k:Int) % t.every !=0)=false:=by simp[hm]
       have HN:=zhi hstep;clear hstep hm;cases high with
       |true=>
        have HN':Hid (qeh l true k++qov l (k:Int) true (j+1)=ys++[⟨(j:Int),(k:Int),t.high⟩]):=HN.out;have hA:=zha (wr.alloc (.cells #[.int .i64 t.low,.int .i64 t.high,.int .i64 t.due,.int .i64 t.every,.bool t.crit] 58 (0,0))) (.cells #[.int .i64 (j:Int),.int .i64 (k:Int),.int .i64 t.high] 60 (0,0));rw[show(wr.alloc (.cells #[.int .i64 t.low,.int .i64 t.high,.int .i64 t.due,.int .i64 t.every,.bool t.crit] 58 (0,0))).heap.size=wr.heap.size+1 by simp] at hA;go_wp2_with (at_builtin;refine qbe _ rfl _ _ rfl w.heap.size (some ⟨bo2,0,none⟩) ys ys.length c2 rfl rfl (qa3 (qa3 hO2 _) _) (wr.heap.size+1) 1 ⟨(j:Int),(k:Int),t.high⟩ _ 60 rfl hA rfl (by omega) (by have:=hb2.size;simp;omega) ?_;intro A3 c3 w3 o3 g3 b3)
        obtain⟨b4,rfl,_,_⟩:=qlb o3 (by simp);go_roundg (l.length-(j+1))
        case measure=>omega
        case rel=>exact⟨j+1,b4,c3,_,by omega,by go_num,by rw[Yaa];rfl,HN'.out,by simp;omega,o3,(bal (bal hb2 _) _).trans b3⟩
       |false=>
        have HN':Hid (qeh l false k++qov l (k:Int) false (j+1)=ys++[⟨(j:Int),(k:Int),t.low⟩]):=HN.out;have hA:=zha (wr.alloc (.cells #[.int .i64 t.low,.int .i64 t.high,.int .i64 t.due,.int .i64 t.every,.bool t.crit] 58 (0,0))) (.cells #[.int .i64 (j:Int),.int .i64 (k:Int),.int .i64 t.low] 60 (0,0));rw[show(wr.alloc (.cells #[.int .i64 t.low,.int .i64 t.high,.int .i64 t.due,.int .i64 t.every,.bool t.crit] 58 (0,0))).heap.size=wr.heap.size+1 by simp] at hA;go_wp2_with (at_builtin;refine qbe _ rfl _ _ rfl w.heap.size (some ⟨bo2,0,none⟩) ys ys.length c2 rfl rfl (qa3 (qa3 hO2 _) _) (wr.heap.size+1) 1 ⟨(j:Int),(k:Int),t.low⟩ _ 60 rfl hA rfl (by omega) (by have:=hb2.size;simp;omega) ?_;intro A3 c3 w3 o3 g3 b3)
        obtain⟨b4,rfl,_,_⟩:=qlb o3 (by simp);go_roundg (l.length-(j+1))
        case measure=>omega
        case rel=>exact⟨j+1,b4,c3,_,by omega,by go_num,by rw[Yaa];rfl,HN'.out,by simp;omega,o3,(bal (bal hb2 _) _).trans b3⟩
     ·rw[Yaq hm,Ybx] at hstep;have em:((k:Int) % t.every !=0)=true:=by simpa using hm
      have HN:=zhi hstep;clear hstep hm;go_wp2_with fail;go_roundg (l.length-(j+1))
      case measure=>omega
      case rel=>exact⟨j+1,bo2,c2,ys,by omega,by go_num,rfl,HN.out,hy60,by first|exact qa3 hO2 _|exact hO2,by first|exact bal hb2 _|exact hb2⟩
    ·obtain rfl:j=l.length:=by omega
     have hnx:Hid (qeh l high (k+1)=ys):=hys;go_wp2_with fail;go_roundg (m-(k+1))
     case measure=>omega
     case rel=>exact⟨k+1,bo2,c2,ys,by omega,by go_num,rfl,hnx,hy60,hO2,hb2⟩
  ·obtain rfl:k=m:=by omega
   have hwk:qay l (k:Int) high=some xs:=by
    unfold qay;rw[Yav]
    ·rw[Yam,hxs.out]
    ·rw[Yam,hxs.out,HS.out];simp[hx60,h2]
   have HW:Hid (qcl l (k:Int) high=xs∧(qay l (k:Int) high).isSome=true):=by simp[Hid,qcl,hwk]
   clear hwk;go_wp2_with fail;go_ret2;rw[HW.out.1,HW.out.2];exact⟨_,c',rfl,hO,hb⟩
theorem qjc(A:ZA)(l:List Tk)(c:Nat)(n:Int)(high:Bool)(w:World)(h:TS w A l)(hm:l.length≤maxLen):
  Calls Tryz.prog 101 #[.slice A l.length c,.int .i64 n,.bool high] w (q21 w (qcl l n high) (qay l n high).isSome):=by
 by_cases hok:Qe l=true∧0≤n∧n≤200
 case neg=>
  have hw:qay l n high=none:=by
   unfold qay;rw[Yaq];simp only[Yac,Yae];intro e;exact hok ⟨e.1.1.1,e.1.1.2,e.1.2⟩
  have HW:Hid (qcl l n high=[]∧(qay l n high).isSome=false):=by simp[Hid,qcl,hw]
  clear hw;cases hS:Qe l with
  |false=>
   go_enter Tryz.func101,Tryz.ntmps101;go_wp2_with fail;refine(Qd A l c _ (h.keep (bal br _)) hm).mono ?_;rw[hS];rintro e w1 ⟨rfl,b1⟩;go_wp2_with fail;go_ret2;rw[HW.out.1,HW.out.2];exact⟨_,0,rfl,qdk (qcy w _ (zlr _)) b1,Qa (bal br _) b1⟩
  |true=>
   by_cases h0:n<0
   ·clear hok;go_enter Tryz.func101,Tryz.ntmps101;go_wp2_with fail;refine(Qd A l c _ (h.keep (bal br _)) hm).mono ?_;rw[hS];rintro e w1 ⟨rfl,b1⟩;go_wp2_with fail;go_ret2;rw[HW.out.1,HW.out.2];exact⟨_,0,rfl,qdk (qcy w _ (zlr _)) b1,Qa (bal br _) b1⟩
   ·have h2:200<n:=by
     rcases Int.lt_or_le 200 n with h2|h2
     ·exact h2
     ·exact absurd ⟨hS,by omega,h2⟩ hok
    clear hok;go_enter Tryz.func101,Tryz.ntmps101;go_wp2_with fail;refine(Qd A l c _ (h.keep (bal br _)) hm).mono ?_;rw[hS];rintro e w1 ⟨rfl,b1⟩;go_wp2_with fail;go_ret2;rw[HW.out.1,HW.out.2];exact⟨_,0,rfl,qdk (qcy w _ (zlr _)) b1,Qa (bal br _) b1⟩
 obtain⟨hS,h0,h2⟩:=hok;obtain⟨m,rfl⟩: ∃m:Nat,n=(m:Int):=⟨n.toNat,(Yay h0).symm⟩;obtain⟨hl5,hall⟩:=Qj hS;have Hall:=zhi hall;have HS:=zhi hS;clear hall hS;go_enter Tryz.func101,Tryz.ntmps101;go_wp2_with fail;refine(Qd A l c _ (h.keep (bal br _)) hm).mono ?_;rw[HS.out];rintro e w1 ⟨rfl,b1⟩;go_wp2_with fail;go_loopg [8,9] m (fun g v i wr=> ∃(k bo c':Nat) (xs:List Jb),g+k=m∧i=.int .i64 (k:Int)∧v=.slice (some ⟨bo,0,none⟩) xs.length c'∧Hid (qeh l high k=xs)∧xs.length≤60∧OJ w.heap.size wr (some ⟨bo,0,none⟩) c' xs∧Below w.heap.size w wr)
 case atStart=>exact⟨0,_,0,[],by omega,rfl,rfl,rfl,by simp,qdk (qcy w _ (zlr _)) b1,Qa (bal br _) b1⟩
 case round=>
  obtain⟨k,bo,c',xs,hg,rfl,rfl,hxs,hx60,hO,hb⟩:=hrel;by_cases hlt:k<m
  ·go_wp2_with fail;go_loopg [8,10] l.length (fun g v i wy=> ∃(j bo2 c2:Nat) (ys:List Jb),g+j=l.length∧i=.int .i64 (j:Int)∧v=.slice (some ⟨bo2,0,none⟩) ys.length c2∧Hid (qeh l high k++qov l (k:Int) high j=ys)∧ys.length≤60∧OJ w.heap.size wy (some ⟨bo2,0,none⟩) c2 ys∧Below w.heap.size w wy)
   case atStart=>exact⟨0,bo,c',xs,by omega,rfl,rfl,by rw[Hid,hxs.out];simp[qov],hx60,hO,hb⟩
   case round=>
    clear hO hb hx60;obtain⟨j,bo2,c2,ys,hg2,rfl,rfl,hys,hy60,hO2,hb2⟩:=hrel;by_cases hj:j<l.length
    ·obtain⟨b,off,rfl,hbl,hc⟩:=h.keep hb2 (by omega);obtain⟨k0,k1,k2,k3,k4⟩:=qaa hc j hj;clear hc;have hv:=qao (Hall.out _ (Yao hj));have htk:=qbi l j hj
     have hstep:qeh l high k++qov l (k:Int) high (j+1)=ys++(if(k:Int) % l[j].every=0 then [⟨(j:Int),(k:Int),if high then l[j].high else l[j].low⟩] else []):=by
      rw[←hys.out,Yax];simp only[qov,htk]
     generalize l[j]=t at k0 k1 k2 k3 k4 hv hstep;obtain⟨v1,v2,v3,v4,v5⟩:=hv;by_cases hm:(k:Int) % t.every=0
     ·rw[Yav hm] at hstep;by_cases h60:ys.length=60
      ·have hn:=qtq (n:=(m:Int)) (k:=k) (by omega) (show j+1≤l.length by omega) (by rw[hstep];simp[h60]);have HW:Hid (qcl l (m:Int) high=[]∧(qay l (m:Int) high).isSome=false):=by simp[Hid,qcl,hn]
       have e60:((ys.length:Int)==60)=true:=by rw[Yef];omega
       have em:((k:Int) % t.every !=0)=false:=by simp[hm]
       clear hn hstep h60;go_wp2_with fail;go_ret2;rw[HW.out.1,HW.out.2];exact⟨_,0,rfl,qcy wr _ hb2.size,bal hb2 _⟩
      ·have e60:((ys.length:Int)==60)=false:=beq_eq_false_iff_ne.2 (by omega);have em:((k:Int) % t.every !=0)=false:=by simp[hm]
       have HN:=zhi hstep;clear hstep hm;cases high with
       |true=>
        have HN':Hid (qeh l true k++qov l (k:Int) true (j+1)=ys++[⟨(j:Int),(k:Int),t.high⟩]):=HN.out;have hA:=zha (wr.alloc (.cells #[.int .i64 (j:Int),.int .i64 (k:Int),.int .i64 t.high] 60 (0,0))) (.cells #[.int .i64 (j:Int),.int .i64 (k:Int),.int .i64 t.high] 60 (0,0));rw[show(wr.alloc (.cells #[.int .i64 (j:Int),.int .i64 (k:Int),.int .i64 t.high] 60 (0,0))).heap.size=wr.heap.size+1 by simp] at hA;go_wp2_with (at_builtin;refine qbe _ rfl _ _ rfl w.heap.size (some ⟨bo2,0,none⟩) ys ys.length c2 rfl rfl (qa3 (qa3 hO2 _) _) (wr.heap.size+1) 1 ⟨(j:Int),(k:Int),t.high⟩ _ 60 rfl hA rfl (by omega) (by have:=hb2.size;simp;omega) ?_;intro A3 c3 w3 o3 g3 b3)
        obtain⟨b4,rfl,_,_⟩:=qlb o3 (by simp);go_roundg (l.length-(j+1))
        case measure=>omega
        case rel=>exact⟨j+1,b4,c3,_,by omega,by go_num,by rw[Yaa];rfl,HN'.out,by simp;omega,o3,(bal (bal hb2 _) _).trans b3⟩
       |false=>
        have HN':Hid (qeh l false k++qov l (k:Int) false (j+1)=ys++[⟨(j:Int),(k:Int),t.low⟩]):=HN.out;have hA:=zha (wr.alloc (.cells #[.int .i64 (j:Int),.int .i64 (k:Int),.int .i64 t.low] 60 (0,0))) (.cells #[.int .i64 (j:Int),.int .i64 (k:Int),.int .i64 t.low] 60 (0,0));rw[show(wr.alloc (.cells #[.int .i64 (j:Int),.int .i64 (k:Int),.int .i64 t.low] 60 (0,0))).heap.size=wr.heap.size+1 by simp] at hA;go_wp2_with (at_builtin;refine qbe _ rfl _ _ rfl w.heap.size (some ⟨bo2,0,none⟩) ys ys.length c2 rfl rfl (qa3 (qa3 hO2 _) _) (wr.heap.size+1) 1 ⟨(j:Int),(k:Int),t.low⟩ _ 60 rfl hA rfl (by omega) (by have:=hb2.size;simp;omega) ?_;intro A3 c3 w3 o3 g3 b3)
        obtain⟨b4,rfl,_,_⟩:=qlb o3 (by simp);go_roundg (l.length-(j+1))
        case measure=>omega
        case rel=>exact⟨j+1,b4,c3,_,by omega,by go_num,by rw[Yaa];rfl,HN'.out,by simp;omega,o3,(bal (bal hb2 _) _).trans b3⟩
     ·rw[Yaq hm,Ybx] at hstep;have em:((k:Int) % t.every !=0)=true:=by simpa using hm
      have HN:=zhi hstep;clear hstep hm;go_wp2_with fail;go_roundg (l.length-(j+1))
      case measure=>omega
      case rel=>exact⟨j+1,bo2,c2,ys,by omega,by go_num,rfl,HN.out,hy60,by first|exact qa3 hO2 _|exact hO2,by first|exact bal hb2 _|exact hb2⟩
    ·obtain rfl:j=l.length:=by omega
     have hnx:Hid (qeh l high (k+1)=ys):=hys;go_wp2_with fail;go_roundg (m-(k+1))
     case measure=>omega
     case rel=>exact⟨k+1,bo2,c2,ys,by omega,by go_num,rfl,hnx,hy60,hO2,hb2⟩
  ·obtain rfl:k=m:=by omega
   have hwk:qay l (k:Int) high=some xs:=by
    unfold qay;rw[Yav]
    ·rw[Yam,hxs.out]
    ·rw[Yam,hxs.out,HS.out];simp[hx60,h2]
   have HW:Hid (qcl l (k:Int) high=xs∧(qay l (k:Int) high).isSome=true):=by simp[Hid,qcl,hwk]
   clear hwk;go_wp2_with fail;go_ret2;rw[HW.out.1,HW.out.2];exact⟨_,c',rfl,hO,hb⟩
def qfb(j:Jb):List UInt8:=num j.task++(64::[])++(num j.at_++(58::[])++num j.need)
def qbv(j:Jb):Bool:=decide (0≤j.task)&&decide (j.task≤4)&&decide (0≤j.at_)&&decide (j.at_≤200)&&decide (1≤j.need)&&decide (j.need≤20)
def qdg(js:List Jb):Bool:=js.all qbv&&decide (js.length≤60)
def qfu(js:List Jb):List UInt8:=Lib.join (js.map qfb) [32]
def Vf(js:List Jb):List UInt8:=if qdg js then qfu js else []
theorem qbo(j:Jb):qbv j=true↔0≤j.task∧j.task≤4∧0≤j.at_∧j.at_≤200∧1≤j.need∧j.need≤20:=by
 simp only[qbv,Yac,Yae,and_assoc]
theorem qro(j:Jb):Lib.cut (qfb j) [64]=(num j.task,num j.at_++(58::[])++num j.need,true):=qlo 64 [] _ _ (qcg 64 _ (by decide))
theorem qnw(j:Jb):Lib.cut (num j.at_++(58::[])++num j.need) [58]=(num j.at_,num j.need,true):=qlo 58 [] _ _ (qcg 58 _ (by decide))
theorem q54(c:UInt8)(j:Jb)(h:c=32∨c=10):c∉qfb j:=by
 have hc:c.toNat<48∨57<c.toNat:=by rcases h with rfl|rfl<;>decide
 have hn: ∀n,c∉num n:=fun n=>qcg c n hc
 rcases h with rfl|rfl<;>simp[qfb,hn]
theorem qxj{j:Jb}(h:qbv j=true):(qfb j).length≤65:=by
 rw[qbo] at h;have h1:=Qp j.task (by omega);have h2:=Qp j.at_ (by omega);have h3:=Qp j.need (by omega);simp[qfb];omega
theorem qmi{js:List Jb}(h:js≠[]):Qq [32] (qfu js)=js.map qfb:=by
 refine qjw 32 [] _ ?_ (by simpa using h);intro x hx;obtain⟨t,_,rfl⟩:=List.mem_map.1 hx;exact q54 32 t (.inl rfl)
theorem qfc(js:List Jb):(Vf js).length≤3960:=by
 unfold Vf;split
 ·rename_i h
  simp only[qdg,Yac,Yae,Yaz] at h
  have:=q0m [32] 65 (js.map qfb) (by
   intro x hx;obtain⟨t,ht,rfl⟩:=List.mem_map.1 hx;exact qxj (h.1 t ht))
  rw[Ybh] at this;simp only[Yat] at this;unfold qfu;omega
 ·simp
theorem qxk{js:List Jb}(h:js≠[]):qfu js≠[]:=by
 cases js with
 |nil=>exact absurd rfl h
 |cons a r=>
  have hn:=qtp a.task.toNat;simp[qfu,Lib.join_cons,qfb,num,hn]
theorem qqi{l:List Tk}{js:List Jb}(h:Q9 l js=true):qdg js=true:=by
 simp only[Q9,Yac,Yae,Yaz,Ybu] at h;obtain⟨⟨hs,hl⟩,ha⟩:=h;simp only[qdg,Yac,Yae,Yaz];refine⟨?_,hl⟩;intro j hj;obtain⟨i,hi,rfl⟩:=Ycw hj;have:=ha i hi;simp only[qco,Yac] at this;have:=this.1.1;rw[Vx js i hi] at this;simp only[Vy,Yac,Yae] at this;obtain⟨⟨⟨⟨hp,h0⟩,h1⟩,h2⟩,h3⟩:=this;have hp':=hp;simp only[plc,Yac,Yae] at hp';have hl5:=Vl hs;have hv:=Qs hs (k:=js[i].task.toNat) (by omega);have:=qao hv;rw[qbo];omega
end Go.Proofs.YtmkjmancmiphfaaGreatDoor
