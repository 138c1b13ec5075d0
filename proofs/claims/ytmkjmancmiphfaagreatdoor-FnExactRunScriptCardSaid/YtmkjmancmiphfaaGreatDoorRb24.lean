/-
  The worst jobs: the program's.
  The worst jobs: the reference's.
  Texts of jobs, cut into their parts: in plain Lean.
-/
import Derived.Test.YtmkjmancmiphfaaGreatDoorRb23
namespace Go.Proofs.YtmkjmancmiphfaaGreatDoor
set_option maxHeartbeats 8000000
set_option maxRecDepth 1000000
open Go.RowKit
theorem qut{l:List Tk}{n:Int}{high:Bool}{k:Nat}(hk:(k:Int)<n){j:Nat}(hj:j≤l.length)(h:60<(qf1 l high k++qp2 l (k:Int) high j).length):qcj l n high=none:=by
 have h1:=q5x l (k:Int) high hj;have h2:=q3n l high (show k+1≤n.toNat by omega);have h3:(qf1 l high (k+1)).length=(qf1 l high k).length+(qp2 l (k:Int) high l.length).length:=by simp[qf1]
 rw[List.length_append] at h;have h4: ¬(qf1 l high n.toNat).length≤60:=by omega
 simp[qcj,h4]
theorem qfu(A:ZA)(l:List Tk)(c:Nat)(n:Int)(high:Bool)(w:World)(h:TS w A l):
  Calls Tryz.prog 139 #[.slice A l.length c,.int .i64 n,.bool high] w (q3l w (qd8 l n high) (qcj l n high).isSome):=by
 by_cases hok:qad l=true∧0≤n∧n≤200
 case neg=>
  have hw:qcj l n high=none:=by
   unfold qcj;rw[if_neg];simp only[Bool.and_eq_true,decide_eq_true_eq];intro e;exact hok ⟨e.1.1.1,e.1.1.2,e.1.2⟩
  have HW:Hid (qd8 l n high=[]∧(qcj l n high).isSome=false):=by simp[Hid,qd8,hw]
  clear hw;cases hS:qad l with
  |false=>
   go_enter Tryz.func139,Tryz.ntmps139;go_wp2_with fail;refine(qae A l c _ h).mono ?_;rw[hS];rintro e w1 ⟨rfl,b1⟩;go_wp2_with fail;go_ret2;rw[HW.out.1,HW.out.2];exact⟨none,0,rfl,qtq _ _,b1⟩
  |true=>
   by_cases h0:n<0
   ·clear hok;go_enter Tryz.func139,Tryz.ntmps139;go_wp2_with fail;refine(qae A l c _ h).mono ?_;rw[hS];rintro e w1 ⟨rfl,b1⟩;go_wp2_with fail;go_ret2;rw[HW.out.1,HW.out.2];exact⟨none,0,rfl,qtq _ _,b1⟩
   ·have h2:200<n:=by
     rcases Int.lt_or_le 200 n with h2|h2
     ·exact h2
     ·exact absurd ⟨hS,by omega,h2⟩ hok
    clear hok;go_enter Tryz.func139,Tryz.ntmps139;go_wp2_with fail;refine(qae A l c _ h).mono ?_;rw[hS];rintro e w1 ⟨rfl,b1⟩;go_wp2_with fail;go_ret2;rw[HW.out.1,HW.out.2];exact⟨none,0,rfl,qtq _ _,b1⟩
 obtain⟨hS,h0,h2⟩:=hok;obtain⟨m,rfl⟩: ∃m:Nat,n=(m:Int):=⟨n.toNat,(Int.toNat_of_nonneg h0).symm⟩;obtain⟨hl5,hall⟩:=qaj hS;have Hall:=zhi hall;have HS:=zhi hS;clear hall hS;go_enter Tryz.func139,Tryz.ntmps139;go_wp2_with fail;refine(qae A l c _ h).mono ?_;rw[HS.out];rintro e w1 ⟨rfl,b1⟩;go_wp2_with fail;go_loopg [8,26] m (fun g v i wr=> ∃(k bo c':Nat) (xs:List Jb),g+k=m∧i=.int .i64 (k:Int)∧v=.slice (some ⟨bo,0,none⟩) xs.length c'∧Hid (qf1 l high k=xs)∧xs.length≤60∧OJ w.heap.size wr (some ⟨bo,0,none⟩) c' xs∧Below w.heap.size w wr)
 case atStart=>exact⟨0,_,0,[],by omega,rfl,rfl,rfl,by simp,qei w1 _ b1.size,bal b1 _⟩
 case round=>
  obtain⟨k,bo,c',xs,hg,rfl,rfl,hxs,hx60,hO,hb⟩:=hrel;by_cases hlt:k<m
  ·go_wp2_with fail;go_loopg [8,31] l.length (fun g v i wy=> ∃(j bo2 c2:Nat) (ys:List Jb),g+j=l.length∧i=.int .i64 (j:Int)∧v=.slice (some ⟨bo2,0,none⟩) ys.length c2∧Hid (qf1 l high k++qp2 l (k:Int) high j=ys)∧ys.length≤60∧OJ w.heap.size wy (some ⟨bo2,0,none⟩) c2 ys∧Below w.heap.size w wy)
   case atStart=>exact⟨0,bo,c',xs,by omega,rfl,rfl,by rw[Hid,hxs.out];simp[qp2],hx60,hO,hb⟩
   case round=>
    clear hO hb hx60;obtain⟨j,bo2,c2,ys,hg2,rfl,rfl,hys,hy60,hO2,hb2⟩:=hrel;by_cases hj:j<l.length
    ·obtain⟨b,off,rfl,hbl,hc⟩:=h.keep hb2 (by omega);obtain⟨k0,k1,k2,k3,k4⟩:=qby hc j hj;clear hc;have hv:=qcb (Hall.out _ (List.getElem_mem hj));have htk:=qc3 l j hj
     have hstep:qf1 l high k++qp2 l (k:Int) high (j+1)=ys++(if(k:Int) % l[j].every=0 then [⟨(j:Int),(k:Int),if high then l[j].high else l[j].low⟩] else []):=by
      rw[←hys.out,List.append_assoc];simp only[qp2,htk]
     generalize l[j]=t at k0 k1 k2 k3 k4 hv hstep;obtain⟨v1,v2,v3,v4,v5⟩:=hv;by_cases hm:(k:Int) % t.every=0
     ·rw[if_pos hm] at hstep;by_cases h60:ys.length=60
      ·have hn:=qut (n:=(m:Int)) (k:=k) (by omega) (show j+1≤l.length by omega) (by rw[hstep];simp[h60]);have HW:Hid (qd8 l (m:Int) high=[]∧(qcj l (m:Int) high).isSome=false):=by simp[Hid,qd8,hn]
       have e60:((ys.length:Int)==60)=true:=by rw[beq_iff_eq];omega
       have em:((k:Int) % t.every !=0)=false:=by simp[hm]
       clear hn hstep h60;go_wp2_with fail;go_ret2;rw[HW.out.1,HW.out.2];exact⟨none,0,rfl,qtq _ _,by first|exact bal hb2 _|exact hb2⟩
      ·have e60:((ys.length:Int)==60)=false:=beq_eq_false_iff_ne.2 (by omega);have em:((k:Int) % t.every !=0)=false:=by simp[hm]
       have HN:=zhi hstep;clear hstep hm;cases high with
       |true=>
        have HN':Hid (qf1 l true k++qp2 l (k:Int) true (j+1)=ys++[⟨(j:Int),(k:Int),t.high⟩]):=HN.out;have hA:=zha (wr.alloc (.cells #[.int .i64 t.low,.int .i64 t.high,.int .i64 t.due,.int .i64 t.every,.bool t.crit] 58 (0,0))) (.cells #[.int .i64 (j:Int),.int .i64 (k:Int),.int .i64 t.high] 60 (0,0));rw[show(wr.alloc (.cells #[.int .i64 t.low,.int .i64 t.high,.int .i64 t.due,.int .i64 t.every,.bool t.crit] 58 (0,0))).heap.size=wr.heap.size+1 by simp] at hA;go_wp2_with (at_builtin;refine qcy _ rfl _ _ rfl w.heap.size (some ⟨bo2,0,none⟩) ys ys.length c2 rfl rfl (qcn (qcn hO2 _) _) (wr.heap.size+1) 1 ⟨(j:Int),(k:Int),t.high⟩ _ 60 rfl hA rfl (by omega) (by have:=hb2.size;simp;omega) ?_;intro A3 c3 w3 o3 g3 b3)
        obtain⟨b4,rfl,_,_⟩:=qml o3 (by simp);go_roundg (l.length-(j+1))
        case measure=>omega
        case rel=>exact⟨j+1,b4,c3,_,by omega,by go_num,by rw[List.length_append];rfl,HN'.out,by simp;omega,o3,(bal (bal hb2 _) _).trans b3⟩
       |false=>
        have HN':Hid (qf1 l false k++qp2 l (k:Int) false (j+1)=ys++[⟨(j:Int),(k:Int),t.low⟩]):=HN.out;have hA:=zha (wr.alloc (.cells #[.int .i64 t.low,.int .i64 t.high,.int .i64 t.due,.int .i64 t.every,.bool t.crit] 58 (0,0))) (.cells #[.int .i64 (j:Int),.int .i64 (k:Int),.int .i64 t.low] 60 (0,0));rw[show(wr.alloc (.cells #[.int .i64 t.low,.int .i64 t.high,.int .i64 t.due,.int .i64 t.every,.bool t.crit] 58 (0,0))).heap.size=wr.heap.size+1 by simp] at hA;go_wp2_with (at_builtin;refine qcy _ rfl _ _ rfl w.heap.size (some ⟨bo2,0,none⟩) ys ys.length c2 rfl rfl (qcn (qcn hO2 _) _) (wr.heap.size+1) 1 ⟨(j:Int),(k:Int),t.low⟩ _ 60 rfl hA rfl (by omega) (by have:=hb2.size;simp;omega) ?_;intro A3 c3 w3 o3 g3 b3)
        obtain⟨b4,rfl,_,_⟩:=qml o3 (by simp);go_roundg (l.length-(j+1))
        case measure=>omega
        case rel=>exact⟨j+1,b4,c3,_,by omega,by go_num,by rw[List.length_append];rfl,HN'.out,by simp;omega,o3,(bal (bal hb2 _) _).trans b3⟩
     ·rw[if_neg hm,List.append_nil] at hstep;have em:((k:Int) % t.every !=0)=true:=by simpa using hm
      have HN:=zhi hstep;clear hstep hm;go_wp2_with fail;go_roundg (l.length-(j+1))
      case measure=>omega
      case rel=>exact⟨j+1,bo2,c2,ys,by omega,by go_num,rfl,HN.out,hy60,by first|exact qcn hO2 _|exact hO2,by first|exact bal hb2 _|exact hb2⟩
    ·obtain rfl:j=l.length:=by omega
     have hnx:Hid (qf1 l high (k+1)=ys):=hys;go_wp2_with fail;go_roundg (m-(k+1))
     case measure=>omega
     case rel=>exact⟨k+1,bo2,c2,ys,by omega,by go_num,rfl,hnx,hy60,hO2,hb2⟩
  ·obtain rfl:k=m:=by omega
   have hwk:qcj l (k:Int) high=some xs:=by
    unfold qcj;rw[if_pos]
    ·rw[Int.toNat_natCast,hxs.out]
    ·rw[Int.toNat_natCast,hxs.out,HS.out];simp[hx60,h2]
   have HW:Hid (qd8 l (k:Int) high=xs∧(qcj l (k:Int) high).isSome=true):=by simp[Hid,qd8,hwk]
   clear hwk;go_wp2_with fail;go_ret2;rw[HW.out.1,HW.out.2];exact⟨_,c',rfl,hO,hb⟩
theorem qkp(A:ZA)(l:List Tk)(c:Nat)(n:Int)(high:Bool)(w:World)(h:TS w A l)(hm:l.length≤maxLen):
  Calls Tryz.prog 101 #[.slice A l.length c,.int .i64 n,.bool high] w (q3l w (qd8 l n high) (qcj l n high).isSome):=by
 by_cases hok:qad l=true∧0≤n∧n≤200
 case neg=>
  have hw:qcj l n high=none:=by
   unfold qcj;rw[if_neg];simp only[Bool.and_eq_true,decide_eq_true_eq];intro e;exact hok ⟨e.1.1.1,e.1.1.2,e.1.2⟩
  have HW:Hid (qd8 l n high=[]∧(qcj l n high).isSome=false):=by simp[Hid,qd8,hw]
  clear hw;cases hS:qad l with
  |false=>
   go_enter Tryz.func101,Tryz.ntmps101;go_wp2_with fail;refine(qac A l c _ (h.keep (bal br _)) hm).mono ?_;rw[hS];rintro e w1 ⟨rfl,b1⟩;go_wp2_with fail;go_ret2;rw[HW.out.1,HW.out.2];exact⟨_,0,rfl,qe4 (qei w _ (zlr _)) b1,qaa (bal br _) b1⟩
  |true=>
   by_cases h0:n<0
   ·clear hok;go_enter Tryz.func101,Tryz.ntmps101;go_wp2_with fail;refine(qac A l c _ (h.keep (bal br _)) hm).mono ?_;rw[hS];rintro e w1 ⟨rfl,b1⟩;go_wp2_with fail;go_ret2;rw[HW.out.1,HW.out.2];exact⟨_,0,rfl,qe4 (qei w _ (zlr _)) b1,qaa (bal br _) b1⟩
   ·have h2:200<n:=by
     rcases Int.lt_or_le 200 n with h2|h2
     ·exact h2
     ·exact absurd ⟨hS,by omega,h2⟩ hok
    clear hok;go_enter Tryz.func101,Tryz.ntmps101;go_wp2_with fail;refine(qac A l c _ (h.keep (bal br _)) hm).mono ?_;rw[hS];rintro e w1 ⟨rfl,b1⟩;go_wp2_with fail;go_ret2;rw[HW.out.1,HW.out.2];exact⟨_,0,rfl,qe4 (qei w _ (zlr _)) b1,qaa (bal br _) b1⟩
 obtain⟨hS,h0,h2⟩:=hok;obtain⟨m,rfl⟩: ∃m:Nat,n=(m:Int):=⟨n.toNat,(Int.toNat_of_nonneg h0).symm⟩;obtain⟨hl5,hall⟩:=qaj hS;have Hall:=zhi hall;have HS:=zhi hS;clear hall hS;go_enter Tryz.func101,Tryz.ntmps101;go_wp2_with fail;refine(qac A l c _ (h.keep (bal br _)) hm).mono ?_;rw[HS.out];rintro e w1 ⟨rfl,b1⟩;go_wp2_with fail;go_loopg [8,9] m (fun g v i wr=> ∃(k bo c':Nat) (xs:List Jb),g+k=m∧i=.int .i64 (k:Int)∧v=.slice (some ⟨bo,0,none⟩) xs.length c'∧Hid (qf1 l high k=xs)∧xs.length≤60∧OJ w.heap.size wr (some ⟨bo,0,none⟩) c' xs∧Below w.heap.size w wr)
 case atStart=>exact⟨0,_,0,[],by omega,rfl,rfl,rfl,by simp,qe4 (qei w _ (zlr _)) b1,qaa (bal br _) b1⟩
 case round=>
  obtain⟨k,bo,c',xs,hg,rfl,rfl,hxs,hx60,hO,hb⟩:=hrel;by_cases hlt:k<m
  ·go_wp2_with fail;go_loopg [8,10] l.length (fun g v i wy=> ∃(j bo2 c2:Nat) (ys:List Jb),g+j=l.length∧i=.int .i64 (j:Int)∧v=.slice (some ⟨bo2,0,none⟩) ys.length c2∧Hid (qf1 l high k++qp2 l (k:Int) high j=ys)∧ys.length≤60∧OJ w.heap.size wy (some ⟨bo2,0,none⟩) c2 ys∧Below w.heap.size w wy)
   case atStart=>exact⟨0,bo,c',xs,by omega,rfl,rfl,by rw[Hid,hxs.out];simp[qp2],hx60,hO,hb⟩
   case round=>
    clear hO hb hx60;obtain⟨j,bo2,c2,ys,hg2,rfl,rfl,hys,hy60,hO2,hb2⟩:=hrel;by_cases hj:j<l.length
    ·obtain⟨b,off,rfl,hbl,hc⟩:=h.keep hb2 (by omega);obtain⟨k0,k1,k2,k3,k4⟩:=qby hc j hj;clear hc;have hv:=qcb (Hall.out _ (List.getElem_mem hj));have htk:=qc3 l j hj
     have hstep:qf1 l high k++qp2 l (k:Int) high (j+1)=ys++(if(k:Int) % l[j].every=0 then [⟨(j:Int),(k:Int),if high then l[j].high else l[j].low⟩] else []):=by
      rw[←hys.out,List.append_assoc];simp only[qp2,htk]
     generalize l[j]=t at k0 k1 k2 k3 k4 hv hstep;obtain⟨v1,v2,v3,v4,v5⟩:=hv;by_cases hm:(k:Int) % t.every=0
     ·rw[if_pos hm] at hstep;by_cases h60:ys.length=60
      ·have hn:=qut (n:=(m:Int)) (k:=k) (by omega) (show j+1≤l.length by omega) (by rw[hstep];simp[h60]);have HW:Hid (qd8 l (m:Int) high=[]∧(qcj l (m:Int) high).isSome=false):=by simp[Hid,qd8,hn]
       have e60:((ys.length:Int)==60)=true:=by rw[beq_iff_eq];omega
       have em:((k:Int) % t.every !=0)=false:=by simp[hm]
       clear hn hstep h60;go_wp2_with fail;go_ret2;rw[HW.out.1,HW.out.2];exact⟨_,0,rfl,qei wr _ hb2.size,bal hb2 _⟩
      ·have e60:((ys.length:Int)==60)=false:=beq_eq_false_iff_ne.2 (by omega);have em:((k:Int) % t.every !=0)=false:=by simp[hm]
       have HN:=zhi hstep;clear hstep hm;cases high with
       |true=>
        have HN':Hid (qf1 l true k++qp2 l (k:Int) true (j+1)=ys++[⟨(j:Int),(k:Int),t.high⟩]):=HN.out;have hA:=zha (wr.alloc (.cells #[.int .i64 (j:Int),.int .i64 (k:Int),.int .i64 t.high] 60 (0,0))) (.cells #[.int .i64 (j:Int),.int .i64 (k:Int),.int .i64 t.high] 60 (0,0));rw[show(wr.alloc (.cells #[.int .i64 (j:Int),.int .i64 (k:Int),.int .i64 t.high] 60 (0,0))).heap.size=wr.heap.size+1 by simp] at hA;go_wp2_with (at_builtin;refine qcy _ rfl _ _ rfl w.heap.size (some ⟨bo2,0,none⟩) ys ys.length c2 rfl rfl (qcn (qcn hO2 _) _) (wr.heap.size+1) 1 ⟨(j:Int),(k:Int),t.high⟩ _ 60 rfl hA rfl (by omega) (by have:=hb2.size;simp;omega) ?_;intro A3 c3 w3 o3 g3 b3)
        obtain⟨b4,rfl,_,_⟩:=qml o3 (by simp);go_roundg (l.length-(j+1))
        case measure=>omega
        case rel=>exact⟨j+1,b4,c3,_,by omega,by go_num,by rw[List.length_append];rfl,HN'.out,by simp;omega,o3,(bal (bal hb2 _) _).trans b3⟩
       |false=>
        have HN':Hid (qf1 l false k++qp2 l (k:Int) false (j+1)=ys++[⟨(j:Int),(k:Int),t.low⟩]):=HN.out;have hA:=zha (wr.alloc (.cells #[.int .i64 (j:Int),.int .i64 (k:Int),.int .i64 t.low] 60 (0,0))) (.cells #[.int .i64 (j:Int),.int .i64 (k:Int),.int .i64 t.low] 60 (0,0));rw[show(wr.alloc (.cells #[.int .i64 (j:Int),.int .i64 (k:Int),.int .i64 t.low] 60 (0,0))).heap.size=wr.heap.size+1 by simp] at hA;go_wp2_with (at_builtin;refine qcy _ rfl _ _ rfl w.heap.size (some ⟨bo2,0,none⟩) ys ys.length c2 rfl rfl (qcn (qcn hO2 _) _) (wr.heap.size+1) 1 ⟨(j:Int),(k:Int),t.low⟩ _ 60 rfl hA rfl (by omega) (by have:=hb2.size;simp;omega) ?_;intro A3 c3 w3 o3 g3 b3)
        obtain⟨b4,rfl,_,_⟩:=qml o3 (by simp);go_roundg (l.length-(j+1))
        case measure=>omega
        case rel=>exact⟨j+1,b4,c3,_,by omega,by go_num,by rw[List.length_append];rfl,HN'.out,by simp;omega,o3,(bal (bal hb2 _) _).trans b3⟩
     ·rw[if_neg hm,List.append_nil] at hstep;have em:((k:Int) % t.every !=0)=true:=by simpa using hm
      have HN:=zhi hstep;clear hstep hm;go_wp2_with fail;go_roundg (l.length-(j+1))
      case measure=>omega
      case rel=>exact⟨j+1,bo2,c2,ys,by omega,by go_num,rfl,HN.out,hy60,by first|exact qcn hO2 _|exact hO2,by first|exact bal hb2 _|exact hb2⟩
    ·obtain rfl:j=l.length:=by omega
     have hnx:Hid (qf1 l high (k+1)=ys):=hys;go_wp2_with fail;go_roundg (m-(k+1))
     case measure=>omega
     case rel=>exact⟨k+1,bo2,c2,ys,by omega,by go_num,rfl,hnx,hy60,hO2,hb2⟩
  ·obtain rfl:k=m:=by omega
   have hwk:qcj l (k:Int) high=some xs:=by
    unfold qcj;rw[if_pos]
    ·rw[Int.toNat_natCast,hxs.out]
    ·rw[Int.toNat_natCast,hxs.out,HS.out];simp[hx60,h2]
   have HW:Hid (qd8 l (k:Int) high=xs∧(qcj l (k:Int) high).isSome=true):=by simp[Hid,qd8,hwk]
   clear hwk;go_wp2_with fail;go_ret2;rw[HW.out.1,HW.out.2];exact⟨_,c',rfl,hO,hb⟩
def qgu(j:Jb):List UInt8:=num j.task++(64::[])++(num j.at_++(58::[])++num j.need)
def qdh(j:Jb):Bool:=decide (0≤j.task)&&decide (j.task≤4)&&decide (0≤j.at_)&&decide (j.at_≤200)&&decide (1≤j.need)&&decide (j.need≤20)
def qe0(js:List Jb):Bool:=js.all qdh&&decide (js.length≤60)
def qhe(js:List Jb):List UInt8:=Lib.join (js.map qgu) [32]
def qbc(js:List Jb):List UInt8:=if qe0 js then qhe js else []
theorem qda(j:Jb):qdh j=true↔0≤j.task∧j.task≤4∧0≤j.at_∧j.at_≤200∧1≤j.need∧j.need≤20:=by
 simp only[qdh,Bool.and_eq_true,decide_eq_true_eq,and_assoc]
theorem qst(j:Jb):Lib.cut (qgu j) [64]=(num j.task,num j.at_++(58::[])++num j.need,true):=qmy 64 [] _ _ (qd3 64 _ (by decide))
theorem qo4(j:Jb):Lib.cut (num j.at_++(58::[])++num j.need) [58]=(num j.at_,num j.need,true):=qmy 58 [] _ _ (qd3 58 _ (by decide))
theorem q6l(c:UInt8)(j:Jb)(h:c=32∨c=10):c∉qgu j:=by
 have hc:c.toNat<48∨57<c.toNat:=by rcases h with rfl|rfl<;>decide
 have hn: ∀n,c∉num n:=fun n=>qd3 c n hc
 rcases h with rfl|rfl<;>simp[qgu,hn]
theorem qyj{j:Jb}(h:qdh j=true):(qgu j).length≤65:=by
 rw[qda] at h;have h1:=qap j.task (by omega);have h2:=qap j.at_ (by omega);have h3:=qap j.need (by omega);simp[qgu];omega
theorem qns{js:List Jb}(h:js≠[]):qar [32] (qhe js)=js.map qgu:=by
 refine qk8 32 [] _ ?_ (by simpa using h);intro x hx;obtain⟨t,_,rfl⟩:=List.mem_map.1 hx;exact q6l 32 t (.inl rfl)
theorem qgv(js:List Jb):(qbc js).length≤3960:=by
 unfold qbc;split
 ·rename_i h
  simp only[qe0,Bool.and_eq_true,decide_eq_true_eq,List.all_eq_true] at h
  have:=q1a [32] 65 (js.map qgu) (by
   intro x hx;obtain⟨t,ht,rfl⟩:=List.mem_map.1 hx;exact qyj (h.1 t ht))
  rw[List.length_map] at this;simp only[List.length_singleton] at this;unfold qhe;omega
 ·simp
theorem qyk{js:List Jb}(h:js≠[]):qhe js≠[]:=by
 cases js with
 |nil=>exact absurd rfl h
 |cons a r=>
  have hn:=qus a.task.toNat;simp[qhe,Lib.join_cons,qgu,num,hn]
theorem qrq{l:List Tk}{js:List Jb}(h:qa6 l js=true):qe0 js=true:=by
 simp only[qa6,Bool.and_eq_true,decide_eq_true_eq,List.all_eq_true,List.mem_range] at h;obtain⟨⟨hs,hl⟩,ha⟩:=h;simp only[qe0,Bool.and_eq_true,decide_eq_true_eq,List.all_eq_true];refine⟨?_,hl⟩;intro j hj;obtain⟨i,hi,rfl⟩:=List.getElem_of_mem hj;have:=ha i hi;simp only[qeb,Bool.and_eq_true] at this;have:=this.1.1;rw[qbv js i hi] at this;simp only[qbw,Bool.and_eq_true,decide_eq_true_eq] at this;obtain⟨⟨⟨⟨hp,h0⟩,h1⟩,h2⟩,h3⟩:=this;have hp':=hp;simp only[plc,Bool.and_eq_true,decide_eq_true_eq] at hp';have hl5:=qbj hs;have hv:=qaq hs (k:=js[i].task.toNat) (by omega);have:=qcb hv;rw[qda];omega
end Go.Proofs.YtmkjmancmiphfaaGreatDoor
