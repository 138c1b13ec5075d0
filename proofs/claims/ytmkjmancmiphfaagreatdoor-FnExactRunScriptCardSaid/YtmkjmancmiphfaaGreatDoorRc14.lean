/-
  Texts of tasks: the program's and the reference's.
  Texts of lists of tasks: the program's and the reference's.
  Runs, their texts, who is late and who was dropped: in plain Lean.
-/
import Derived.Test.YtmkjmancmiphfaaGreatDoorRc12
import Derived.Test.YtmkjmancmiphfaaGreatDoorShelf
import Derived.Test.YtmkjmancmiphfaaGreatDoorRc10
namespace Go.Proofs.YtmkjmancmiphfaaGreatDoor
set_option maxHeartbeats 8000000
set_option maxRecDepth 1000000
open Go.RowKit
def qhd(t:Tk):List UInt8:=if t.crit then 47::num t.high else []
def qsj(t:Tk):List UInt8:=if t.due<t.every then [32,98,121,32]++num t.due else []
def Vp(t:Tk):List UInt8:=num t.low++qhd t++([32,101,118,101,114,121,32]++num t.every)++qsj t
def Qr(t:Tk):List UInt8:=if vld t then Vp t else []
theorem q5y(n:Nat)(h:n≤9223372036854775807):(Lib.decDigits n).length≤21:=by
 have:=Lib.itoa_length_le (n:Int) (by omega) (by omega);rwa [Lib.itoa,Yaq (by omega),Yam] at this
theorem Qp(n:Int)(h:n≤9223372036854775807):(num n).length≤21:=q5y _ (by omega)
theorem q0k{t:Tk}(h:vld t=true):(Vp t).length≤100:=by
 obtain⟨a,b,c,d,e⟩:=qao h;have h1:=Qp t.low (by omega);have h2:=Qp t.high (by omega);have h3:=Qp t.due (by omega);have h4:=Qp t.every (by omega)
 have hh:(qhd t).length≤22:=by
  unfold qhd;split<;>simp<;>omega
 have hd:(qsj t).length≤25:=by
  unfold qsj;split<;>simp<;>omega
 simp only[Vp,Yaa,Yau,Ybl];omega
theorem qhe(t:Tk):(Qr t).length≤100:=by
 unfold Qr;split
 ·exact q0k (by assumption)
 ·simp
theorem qck(n:Int)(h0:0≤n)(h1:n<100)(w:World):
  Calls Tryz.prog 38 #[.int .i64 n] w fun e w'=>e=.returned (.string ⟨(num n).toArray⟩)∧w'=w:=by
 have K:=Tryz.strconv_Itoa_small n.toNat (by omega) w;rw[Yay h0] at K;exact K
theorem qdy(n:Int)(h0:0≤n)(h1:n<100)(w:World):
  Calls Tryz.prog 91 #[.int .i64 n] w fun e w'=>e=.returned (.string ⟨(num n).toArray⟩)∧Below w.heap.size w w':=by
 have K:=qjt n.toNat (by omega) w;rw[Yay h0] at K;exact K
theorem Vz(t:Tk)(w:World):
  Calls Tryz.prog 35 #[t.val] w fun e w'=>e=.returned (.string ⟨(Qr t).toArray⟩)∧Below w.heap.size w w':=by
 cases hv:vld t with
 |false=>
  have HF:Hid (Qr t=[]):=by simp[Hid,Qr,hv]
  go_enter Tryz.func35,Tryz.ntmps35;go_wp2_with fail;refine(Vc t _).mono ?_;rw[hv];rintro e w1 ⟨rfl,b1⟩;go_wp2_with fail;go_ret;exact⟨by rw[HF.out];rfl,Qa (bal br _) b1⟩
 |true=>
  obtain⟨h1,h2,h3,h4,h5⟩:=qao hv;have HF:Hid (Qr t=Vp t):=by simp[Hid,Qr,hv]
  have HV:=zhi hv;clear hv;have l1:=Qp t.low (by omega);have l2:=Qp t.high (by omega);have l3:=Qp t.due (by omega);have l4:=Qp t.every (by omega);cases hc:t.crit with
  |true=>
   have HC:=zhi hc;clear hc;by_cases hd:t.due<t.every
   ·have HR:Hid (Vp t=num t.low++([47]++num t.high)++([32,101,118,101,114,121,32]++num t.every)++([32,98,121,32]++num t.due)):=by
     rw[Hid,Vp,qhd,qsj,HC.out];simp[hd]
    go_enter Tryz.func35,Tryz.ntmps35;go_wp2_with fail;refine(Vc t _).mono ?_;rw[HV.out];rintro e w1 ⟨rfl,b1⟩;have hN:=(b1.block w.heap.size (by simp)).trans (zha w _);obtain⟨k0,k1,k2,k3,k4,_⟩:=Qc hN;rw[HC.out] at k4;have B:=Qa (bal (Below.refl w.heap.size w) _) b1;have hlt:w.heap.size<w1.heap.size:=zlt (by simp) b1.size;clear hN b1;go_wp2_with fail;refine(qck t.low (by omega) (by omega) _).mono ?_;rintro e w2 ⟨rfl,rfl⟩;go_wp2_with fail;refine(qck t.high (by omega) (by omega) _).mono ?_;rintro e w3 ⟨rfl,rfl⟩;go_wp2_with fail;refine(qck t.every (by omega) (by omega) _).mono ?_;rintro e w4 ⟨rfl,rfl⟩;go_wp2_with fail;refine(qck t.due (by omega) (by omega) _).mono ?_;rintro e w5 ⟨rfl,rfl⟩;go_wp2_with fail;go_ret;refine⟨?_,B⟩;rw[HF.out,HR.out];have e:num t.low++([47]++num t.high)++([32,101,118,101,114,121,32]++num t.every)++([32,98,121,32]++num t.due)=(((num t.low++([47]++num t.high))++([32,101,118,101,114,121,32]++num t.every))++([32,98,121,32]++num t.due)):=by simp[List.append_assoc]
    rw[e];simp only[←Qn];rfl
   ·have HR:Hid (Vp t=num t.low++([47]++num t.high)++([32,101,118,101,114,121,32]++num t.every)++([])):=by
     rw[Hid,Vp,qhd,qsj,HC.out];simp[hd]
    go_enter Tryz.func35,Tryz.ntmps35;go_wp2_with fail;refine(Vc t _).mono ?_;rw[HV.out];rintro e w1 ⟨rfl,b1⟩;have hN:=(b1.block w.heap.size (by simp)).trans (zha w _);obtain⟨k0,k1,k2,k3,k4,_⟩:=Qc hN;rw[HC.out] at k4;have B:=Qa (bal (Below.refl w.heap.size w) _) b1;have hlt:w.heap.size<w1.heap.size:=zlt (by simp) b1.size;clear hN b1;go_wp2_with fail;refine(qck t.low (by omega) (by omega) _).mono ?_;rintro e w2 ⟨rfl,rfl⟩;go_wp2_with fail;refine(qck t.high (by omega) (by omega) _).mono ?_;rintro e w3 ⟨rfl,rfl⟩;go_wp2_with fail;refine(qck t.every (by omega) (by omega) _).mono ?_;rintro e w4 ⟨rfl,rfl⟩;go_wp2_with fail;go_ret;refine⟨?_,B⟩;rw[HF.out,HR.out];have e:num t.low++([47]++num t.high)++([32,101,118,101,114,121,32]++num t.every)++([])=((num t.low++([47]++num t.high))++([32,101,118,101,114,121,32]++num t.every)):=by simp[List.append_assoc]
    rw[e];simp only[←Qn];rfl
  |false=>
   have HC:=zhi hc;clear hc;by_cases hd:t.due<t.every
   ·have HR:Hid (Vp t=num t.low++([])++([32,101,118,101,114,121,32]++num t.every)++([32,98,121,32]++num t.due)):=by
     rw[Hid,Vp,qhd,qsj,HC.out];simp[hd]
    go_enter Tryz.func35,Tryz.ntmps35;go_wp2_with fail;refine(Vc t _).mono ?_;rw[HV.out];rintro e w1 ⟨rfl,b1⟩;have hN:=(b1.block w.heap.size (by simp)).trans (zha w _);obtain⟨k0,k1,k2,k3,k4,_⟩:=Qc hN;rw[HC.out] at k4;have B:=Qa (bal (Below.refl w.heap.size w) _) b1;have hlt:w.heap.size<w1.heap.size:=zlt (by simp) b1.size;clear hN b1;go_wp2_with fail;refine(qck t.low (by omega) (by omega) _).mono ?_;rintro e w2 ⟨rfl,rfl⟩;go_wp2_with fail;refine(qck t.every (by omega) (by omega) _).mono ?_;rintro e w3 ⟨rfl,rfl⟩;go_wp2_with fail;refine(qck t.due (by omega) (by omega) _).mono ?_;rintro e w4 ⟨rfl,rfl⟩;go_wp2_with fail;go_ret;refine⟨?_,B⟩;rw[HF.out,HR.out];have e:num t.low++([])++([32,101,118,101,114,121,32]++num t.every)++([32,98,121,32]++num t.due)=((num t.low++([32,101,118,101,114,121,32]++num t.every))++([32,98,121,32]++num t.due)):=by simp[List.append_assoc]
    rw[e];simp only[←Qn];rfl
   ·have HR:Hid (Vp t=num t.low++([])++([32,101,118,101,114,121,32]++num t.every)++([])):=by
     rw[Hid,Vp,qhd,qsj,HC.out];simp[hd]
    go_enter Tryz.func35,Tryz.ntmps35;go_wp2_with fail;refine(Vc t _).mono ?_;rw[HV.out];rintro e w1 ⟨rfl,b1⟩;have hN:=(b1.block w.heap.size (by simp)).trans (zha w _);obtain⟨k0,k1,k2,k3,k4,_⟩:=Qc hN;rw[HC.out] at k4;have B:=Qa (bal (Below.refl w.heap.size w) _) b1;have hlt:w.heap.size<w1.heap.size:=zlt (by simp) b1.size;clear hN b1;go_wp2_with fail;refine(qck t.low (by omega) (by omega) _).mono ?_;rintro e w2 ⟨rfl,rfl⟩;go_wp2_with fail;refine(qck t.every (by omega) (by omega) _).mono ?_;rintro e w3 ⟨rfl,rfl⟩;go_wp2_with fail;go_ret;refine⟨?_,B⟩;rw[HF.out,HR.out];have e:num t.low++([])++([32,101,118,101,114,121,32]++num t.every)++([])=(num t.low++([32,101,118,101,114,121,32]++num t.every)):=by simp
    rw[e];simp only[←Qn];rfl
theorem qdn(t:Tk)(w:World):
  Calls Tryz.prog 51 #[t.val] w fun e w'=>e=.returned (.string ⟨(Qr t).toArray⟩)∧Below w.heap.size w w':=by
 cases hv:vld t with
 |false=>
  have HF:Hid (Qr t=[]):=by simp[Hid,Qr,hv]
  go_enter Tryz.func51,Tryz.ntmps51;go_wp2_with fail;refine(qb1 t _).mono ?_;rw[hv];rintro e w1 ⟨rfl,b1⟩;go_wp2_with fail;go_ret;exact⟨by rw[HF.out];rfl,Qa (bal br _) b1⟩
 |true=>
  obtain⟨h1,h2,h3,h4,h5⟩:=qao hv;have HF:Hid (Qr t=Vp t):=by simp[Hid,Qr,hv]
  have HV:=zhi hv;clear hv;have l1:=Qp t.low (by omega);have l2:=Qp t.high (by omega);have l3:=Qp t.due (by omega);have l4:=Qp t.every (by omega);cases hc:t.crit with
  |true=>
   have HC:=zhi hc;clear hc;by_cases hd:t.due<t.every
   ·have HR:Hid (Vp t=num t.low++([47]++num t.high)++([32,101,118,101,114,121,32]++num t.every)++([32,98,121,32]++num t.due)):=by
     rw[Hid,Vp,qhd,qsj,HC.out];simp[hd]
    go_enter Tryz.func51,Tryz.ntmps51;go_wp2_with fail;refine(qb1 t _).mono ?_;rw[HV.out];rintro e w1 ⟨rfl,b1⟩;have hN:=(b1.block w.heap.size (by simp)).trans (zha w _);obtain⟨k0,k1,k2,k3,k4,_⟩:=Qc hN;rw[HC.out] at k4;have B:=Qa (bal (Below.refl w.heap.size w) _) b1;have hlt:w.heap.size<w1.heap.size:=zlt (by simp) b1.size;clear hN b1;go_wp2_with fail;refine(qdy t.low (by omega) (by omega) _).mono ?_;rintro e w2 ⟨rfl,b2⟩;have k0:=(b2.cell (p:=⟨w.heap.size,0,none⟩) hlt).trans k0;have k1:=(b2.cell (p:=⟨w.heap.size,1,none⟩) hlt).trans k1;have k2:=(b2.cell (p:=⟨w.heap.size,2,none⟩) hlt).trans k2;have k3:=(b2.cell (p:=⟨w.heap.size,3,none⟩) hlt).trans k3;have k4:=(b2.cell (p:=⟨w.heap.size,4,none⟩) hlt).trans k4;have hlt:w.heap.size<w2.heap.size:=zlt hlt b2.size;have B:=Qa B b2;go_wp2_with fail;refine(qdy t.high (by omega) (by omega) _).mono ?_;rintro e w3 ⟨rfl,b3⟩;have k0:=(b3.cell (p:=⟨w.heap.size,0,none⟩) hlt).trans k0;have k1:=(b3.cell (p:=⟨w.heap.size,1,none⟩) hlt).trans k1;have k2:=(b3.cell (p:=⟨w.heap.size,2,none⟩) hlt).trans k2;have k3:=(b3.cell (p:=⟨w.heap.size,3,none⟩) hlt).trans k3;have k4:=(b3.cell (p:=⟨w.heap.size,4,none⟩) hlt).trans k4;have hlt:w.heap.size<w3.heap.size:=zlt hlt b3.size;have B:=Qa B b3;go_wp2_with fail;refine(qdy t.every (by omega) (by omega) _).mono ?_;rintro e w4 ⟨rfl,b4⟩;have k0:=(b4.cell (p:=⟨w.heap.size,0,none⟩) hlt).trans k0;have k1:=(b4.cell (p:=⟨w.heap.size,1,none⟩) hlt).trans k1;have k2:=(b4.cell (p:=⟨w.heap.size,2,none⟩) hlt).trans k2;have k3:=(b4.cell (p:=⟨w.heap.size,3,none⟩) hlt).trans k3;have k4:=(b4.cell (p:=⟨w.heap.size,4,none⟩) hlt).trans k4;have hlt:w.heap.size<w4.heap.size:=zlt hlt b4.size;have B:=Qa B b4;go_wp2_with fail;refine(qdy t.due (by omega) (by omega) _).mono ?_;rintro e w5 ⟨rfl,b5⟩;have k0:=(b5.cell (p:=⟨w.heap.size,0,none⟩) hlt).trans k0;have k1:=(b5.cell (p:=⟨w.heap.size,1,none⟩) hlt).trans k1;have k2:=(b5.cell (p:=⟨w.heap.size,2,none⟩) hlt).trans k2;have k3:=(b5.cell (p:=⟨w.heap.size,3,none⟩) hlt).trans k3;have k4:=(b5.cell (p:=⟨w.heap.size,4,none⟩) hlt).trans k4;have hlt:w.heap.size<w5.heap.size:=zlt hlt b5.size;have B:=Qa B b5;go_wp2_with fail;go_ret;refine⟨?_,B⟩;rw[HF.out,HR.out];have e:num t.low++([47]++num t.high)++([32,101,118,101,114,121,32]++num t.every)++([32,98,121,32]++num t.due)=((((((num t.low++[47])++num t.high)++[32,101,118,101,114,121,32])++num t.every)++[32,98,121,32])++num t.due):=by simp[List.append_assoc]
    rw[e];simp only[←Qn];rfl
   ·have HR:Hid (Vp t=num t.low++([47]++num t.high)++([32,101,118,101,114,121,32]++num t.every)++([])):=by
     rw[Hid,Vp,qhd,qsj,HC.out];simp[hd]
    go_enter Tryz.func51,Tryz.ntmps51;go_wp2_with fail;refine(qb1 t _).mono ?_;rw[HV.out];rintro e w1 ⟨rfl,b1⟩;have hN:=(b1.block w.heap.size (by simp)).trans (zha w _);obtain⟨k0,k1,k2,k3,k4,_⟩:=Qc hN;rw[HC.out] at k4;have B:=Qa (bal (Below.refl w.heap.size w) _) b1;have hlt:w.heap.size<w1.heap.size:=zlt (by simp) b1.size;clear hN b1;go_wp2_with fail;refine(qdy t.low (by omega) (by omega) _).mono ?_;rintro e w2 ⟨rfl,b2⟩;have k0:=(b2.cell (p:=⟨w.heap.size,0,none⟩) hlt).trans k0;have k1:=(b2.cell (p:=⟨w.heap.size,1,none⟩) hlt).trans k1;have k2:=(b2.cell (p:=⟨w.heap.size,2,none⟩) hlt).trans k2;have k3:=(b2.cell (p:=⟨w.heap.size,3,none⟩) hlt).trans k3;have k4:=(b2.cell (p:=⟨w.heap.size,4,none⟩) hlt).trans k4;have hlt:w.heap.size<w2.heap.size:=zlt hlt b2.size;have B:=Qa B b2;go_wp2_with fail;refine(qdy t.high (by omega) (by omega) _).mono ?_;rintro e w3 ⟨rfl,b3⟩;have k0:=(b3.cell (p:=⟨w.heap.size,0,none⟩) hlt).trans k0;have k1:=(b3.cell (p:=⟨w.heap.size,1,none⟩) hlt).trans k1;have k2:=(b3.cell (p:=⟨w.heap.size,2,none⟩) hlt).trans k2;have k3:=(b3.cell (p:=⟨w.heap.size,3,none⟩) hlt).trans k3;have k4:=(b3.cell (p:=⟨w.heap.size,4,none⟩) hlt).trans k4;have hlt:w.heap.size<w3.heap.size:=zlt hlt b3.size;have B:=Qa B b3;go_wp2_with fail;refine(qdy t.every (by omega) (by omega) _).mono ?_;rintro e w4 ⟨rfl,b4⟩;have k0:=(b4.cell (p:=⟨w.heap.size,0,none⟩) hlt).trans k0;have k1:=(b4.cell (p:=⟨w.heap.size,1,none⟩) hlt).trans k1;have k2:=(b4.cell (p:=⟨w.heap.size,2,none⟩) hlt).trans k2;have k3:=(b4.cell (p:=⟨w.heap.size,3,none⟩) hlt).trans k3;have k4:=(b4.cell (p:=⟨w.heap.size,4,none⟩) hlt).trans k4;have hlt:w.heap.size<w4.heap.size:=zlt hlt b4.size;have B:=Qa B b4;go_wp2_with fail;go_ret;refine⟨?_,B⟩;rw[HF.out,HR.out];have e:num t.low++([47]++num t.high)++([32,101,118,101,114,121,32]++num t.every)++([])=((((num t.low++[47])++num t.high)++[32,101,118,101,114,121,32])++num t.every):=by simp[List.append_assoc]
    rw[e];simp only[←Qn];rfl
  |false=>
   have HC:=zhi hc;clear hc;by_cases hd:t.due<t.every
   ·have HR:Hid (Vp t=num t.low++([])++([32,101,118,101,114,121,32]++num t.every)++([32,98,121,32]++num t.due)):=by
     rw[Hid,Vp,qhd,qsj,HC.out];simp[hd]
    go_enter Tryz.func51,Tryz.ntmps51;go_wp2_with fail;refine(qb1 t _).mono ?_;rw[HV.out];rintro e w1 ⟨rfl,b1⟩;have hN:=(b1.block w.heap.size (by simp)).trans (zha w _);obtain⟨k0,k1,k2,k3,k4,_⟩:=Qc hN;rw[HC.out] at k4;have B:=Qa (bal (Below.refl w.heap.size w) _) b1;have hlt:w.heap.size<w1.heap.size:=zlt (by simp) b1.size;clear hN b1;go_wp2_with fail;refine(qdy t.low (by omega) (by omega) _).mono ?_;rintro e w2 ⟨rfl,b2⟩;have k0:=(b2.cell (p:=⟨w.heap.size,0,none⟩) hlt).trans k0;have k1:=(b2.cell (p:=⟨w.heap.size,1,none⟩) hlt).trans k1;have k2:=(b2.cell (p:=⟨w.heap.size,2,none⟩) hlt).trans k2;have k3:=(b2.cell (p:=⟨w.heap.size,3,none⟩) hlt).trans k3;have k4:=(b2.cell (p:=⟨w.heap.size,4,none⟩) hlt).trans k4;have hlt:w.heap.size<w2.heap.size:=zlt hlt b2.size;have B:=Qa B b2;go_wp2_with fail;refine(qdy t.every (by omega) (by omega) _).mono ?_;rintro e w3 ⟨rfl,b3⟩;have k0:=(b3.cell (p:=⟨w.heap.size,0,none⟩) hlt).trans k0;have k1:=(b3.cell (p:=⟨w.heap.size,1,none⟩) hlt).trans k1;have k2:=(b3.cell (p:=⟨w.heap.size,2,none⟩) hlt).trans k2;have k3:=(b3.cell (p:=⟨w.heap.size,3,none⟩) hlt).trans k3;have k4:=(b3.cell (p:=⟨w.heap.size,4,none⟩) hlt).trans k4;have hlt:w.heap.size<w3.heap.size:=zlt hlt b3.size;have B:=Qa B b3;go_wp2_with fail;refine(qdy t.due (by omega) (by omega) _).mono ?_;rintro e w4 ⟨rfl,b4⟩;have k0:=(b4.cell (p:=⟨w.heap.size,0,none⟩) hlt).trans k0;have k1:=(b4.cell (p:=⟨w.heap.size,1,none⟩) hlt).trans k1;have k2:=(b4.cell (p:=⟨w.heap.size,2,none⟩) hlt).trans k2;have k3:=(b4.cell (p:=⟨w.heap.size,3,none⟩) hlt).trans k3;have k4:=(b4.cell (p:=⟨w.heap.size,4,none⟩) hlt).trans k4;have hlt:w.heap.size<w4.heap.size:=zlt hlt b4.size;have B:=Qa B b4;go_wp2_with fail;go_ret;refine⟨?_,B⟩;rw[HF.out,HR.out];have e:num t.low++([])++([32,101,118,101,114,121,32]++num t.every)++([32,98,121,32]++num t.due)=((((num t.low++[32,101,118,101,114,121,32])++num t.every)++[32,98,121,32])++num t.due):=by simp[List.append_assoc]
    rw[e];simp only[←Qn];rfl
   ·have HR:Hid (Vp t=num t.low++([])++([32,101,118,101,114,121,32]++num t.every)++([])):=by
     rw[Hid,Vp,qhd,qsj,HC.out];simp[hd]
    go_enter Tryz.func51,Tryz.ntmps51;go_wp2_with fail;refine(qb1 t _).mono ?_;rw[HV.out];rintro e w1 ⟨rfl,b1⟩;have hN:=(b1.block w.heap.size (by simp)).trans (zha w _);obtain⟨k0,k1,k2,k3,k4,_⟩:=Qc hN;rw[HC.out] at k4;have B:=Qa (bal (Below.refl w.heap.size w) _) b1;have hlt:w.heap.size<w1.heap.size:=zlt (by simp) b1.size;clear hN b1;go_wp2_with fail;refine(qdy t.low (by omega) (by omega) _).mono ?_;rintro e w2 ⟨rfl,b2⟩;have k0:=(b2.cell (p:=⟨w.heap.size,0,none⟩) hlt).trans k0;have k1:=(b2.cell (p:=⟨w.heap.size,1,none⟩) hlt).trans k1;have k2:=(b2.cell (p:=⟨w.heap.size,2,none⟩) hlt).trans k2;have k3:=(b2.cell (p:=⟨w.heap.size,3,none⟩) hlt).trans k3;have k4:=(b2.cell (p:=⟨w.heap.size,4,none⟩) hlt).trans k4;have hlt:w.heap.size<w2.heap.size:=zlt hlt b2.size;have B:=Qa B b2;go_wp2_with fail;refine(qdy t.every (by omega) (by omega) _).mono ?_;rintro e w3 ⟨rfl,b3⟩;have k0:=(b3.cell (p:=⟨w.heap.size,0,none⟩) hlt).trans k0;have k1:=(b3.cell (p:=⟨w.heap.size,1,none⟩) hlt).trans k1;have k2:=(b3.cell (p:=⟨w.heap.size,2,none⟩) hlt).trans k2;have k3:=(b3.cell (p:=⟨w.heap.size,3,none⟩) hlt).trans k3;have k4:=(b3.cell (p:=⟨w.heap.size,4,none⟩) hlt).trans k4;have hlt:w.heap.size<w3.heap.size:=zlt hlt b3.size;have B:=Qa B b3;go_wp2_with fail;go_ret;refine⟨?_,B⟩;rw[HF.out,HR.out];have e:num t.low++([])++([32,101,118,101,114,121,32]++num t.every)++([])=((num t.low++[32,101,118,101,114,121,32])++num t.every):=by simp[List.append_assoc]
    rw[e];simp only[←Qn];rfl
theorem q0l:(Tryz.prog.info? 9).map (fun i=>(i.zero,i.size,i.bytes))=some (some (.string ⟨#[]⟩),1,16):=by kernel_rfl
def qzl(xs:List (List UInt8)):List Value:=xs.map (fun x=>Value.string ⟨x.toArray⟩)
def OS(base:Nat)(w:World)(A:ZA)(c:Nat)(xs:List (List UInt8)):Prop:=w.ownsRow base 9 1 (.slice A xs.length c) xs.length (qzl xs)
theorem qre(w:World)(base:Nat)(hb:base≤w.heap.size):OS base (w.alloc (.cells #[] 9)) (some ⟨w.heap.size,0,none⟩) 0 []:=qef w _ 1 base hb
theorem qf9{base:Nat}{w:World}{A:ZA}{c:Nat}{xs:List (List UInt8)}(h:OS base w A c xs)(o:Obj):OS base (w.alloc o) A c xs:=World.ownsRow.alloc h o
theorem qnk{base:Nat}{w w':World}{A:ZA}{c:Nat}{xs:List (List UInt8)}(h:OS base w A c xs)(hb:Below w.heap.size w w'):OS base w' A c xs:=qdi h hb
theorem qve{base:Nat}{w:World}{A:ZA}{c:Nat}{xs:List (List UInt8)}(h:OS base w A c xs)(hl:0<xs.length): ∃b,A=some ⟨b,0,none⟩∧base≤b∧b<w.heap.size:=by
 rcases h.2 with⟨_,h0⟩|⟨g,cap,cur,hv,hg,hh,_⟩
 ·omega
 ·injection hv with hA
  exact⟨g,hA,hg,(bl hh)⟩
theorem qgk(w:World){ops:Array Oper}{rest:List Oper}{o:Oper}{a:Act}{Q:Exit→Act→World→Prop}(hgd:o.guard=none)(s x:Operand)
  (ho:o.op=.call {callee:=.builtin .append,args:=#[s,x],argTypes:=#[69,69]})
  (base:Nat) (A:ZA) (l:List (List UInt8)) (n c:Nat) (hn:l.length=n) (hs:a.eval s=.slice A n c) (hown:OS base w A c l)
  (b c1:Nat) (y:List UInt8) (ty:TypeId) (hx:a.eval x=.slice (some ⟨b,0,none⟩) 1 c1) (hb:w.heap[b]? =some (.cells #[.string ⟨y.toArray⟩] ty (0,0)))
  (hl:l.length≤2000000) (hbase:base≤w.heap.size)
  (h: ∀A' c' w',OS base w' A' c' (l++[y])→w.grownBy w' (Value.slice A n c).ownBlock→Below base w w'→wpList Tryz.prog ops Q rest (a.put o.dst (.slice A' (n+1) c')) w'):wpList Tryz.prog ops Q (o::rest) a w:=by
 subst hn;obtain⟨i0,hi,hz0,hz1,hz2⟩:=Ybv q0l
 refine wpList_append_own w hgd s x 69 ho base 9 i0 _ 1 16 Tryz.underlying69 hi hz0 hz1 hz2 rfl (by decide) (.slice A l.length c) l.length (qzl l) hs hown
  ⟨b,0,none⟩ 1 c1 [.string ⟨y.toArray⟩] hx rfl ?_ ?_ (by unfold maxLen;omega) (by omega) hbase ?_
 ·intro j u hj;rw[qai,Ybf w b j _ ty (0,0) hb,←Ybk];exact hj
 ·intro u hu;simp at hu;subst hu;rfl
 ·intro v' w' hown' hg _;obtain⟨A',c',rfl⟩:=qcx hown';refine h A' c' w' ?_ hg (qad hown hg hbase);unfold OS;rw[Yaa,Yat];have e:qzl (l++[y])=qzl l++[.string ⟨y.toArray⟩]:=by simp[qzl]
  rw[e];exact hown'
theorem qrf(sep:List UInt8)(r:List (List UInt8))(y:List UInt8):Lib.joinTail sep (r++[y])=Lib.joinTail sep r++(sep++y):=by simp[Lib.joinTail]
theorem qtg(xs:List (List UInt8))(y sep:List UInt8)(h:0<xs.length):Lib.join (xs++[y]) sep=(Lib.join xs sep++sep)++y:=by
 cases xs with
 |nil=>simp at h
 |cons x r=>rw[Ybw,Lib.join_cons,Lib.join_cons,qrf];simp[List.append_assoc]
theorem qvf(sep:List UInt8)(m:Nat)(r:List (List UInt8))(h: ∀x∈r,x.length≤m):(Lib.joinTail sep r).length≤r.length*(m+sep.length):=by
 induction r with
 |nil=>simp[Lib.joinTail]
 |cons x r ih=>
  have h1:=ih (fun y hy=>h y (Ybn _ hy));have h2:=h x (by simp);have e:Lib.joinTail sep (x::r)=(sep++x)++Lib.joinTail sep r:=by simp[Lib.joinTail]
  rw[e,Yaa,Yaa,Yau,Nat.succ_mul];omega
theorem q0m(sep:List UInt8)(m:Nat)(r:List (List UInt8))(h: ∀x∈r,x.length≤m):(Lib.join r sep).length≤r.length*(m+sep.length):=by
 cases r with
 |nil=>simp[Lib.join_nil]
 |cons x r=>
  rw[Lib.join_cons,Yaa,Yau,Nat.succ_mul];have h1:=qvf sep m r (fun y hy=>h y (Ybn _ hy));have h2:=h x (by simp);omega
def qqd(l:List Tk):List UInt8:=Lib.join (l.map Qr) [59,32]
def Va(l:List Tk):List UInt8:=if Qe l then qqd l else []
theorem qvg(l:List Tk):(qqd l).length≤l.length*102:=by
 have:=q0m [59,32] 100 (l.map Qr) (by
  intro x hx;obtain⟨t,_,rfl⟩:=List.mem_map.1 hx;exact qhe t)
 rw[Ybh] at this;exact this
theorem Vl{l:List Tk}(h:Qe l=true):l.length≤5:=by
 simp only[Qe,Yac,Yae] at h;exact h.1
theorem qcq(l:List Tk):(Va l).length≤510:=by
 unfold Va;split
 ·rename_i h
  have h1:=qvg l;have h2:=Vl h;omega
 ·simp
theorem qgl(A:ZA)(l:List Tk)(c:Nat)(w:World)(h:TS w A l):
  Calls Tryz.prog 11 #[.slice A l.length c] w fun e w'=>e=.returned (.string ⟨(Va l).toArray⟩)∧Below w.heap.size w w':=by
 cases hS:Qe l with
 |false=>
  have HF:Hid (Va l=[]):=by simp[Hid,Va,hS]
  go_enter Tryz.func11,Tryz.ntmps11;go_wp2_with fail;refine(Qf A l c _ h).mono ?_;rw[hS];rintro e w1 ⟨rfl,b1⟩;go_wp2_with fail;go_ret;exact⟨by rw[HF.out];rfl,b1⟩
 |true=>
  have hl5:=Vl hS;have HF:Hid (Va l=qqd l):=by simp[Hid,Va,hS]
  have hsl:=qvg l;have HS:=zhi hS;clear hS;go_enter Tryz.func11,Tryz.ntmps11;go_wp2_with fail;refine(Qf A l c _ h).mono ?_;rw[HS.out];rintro e w1 ⟨rfl,b1⟩;go_wp2_with fail;go_loopw [3,12] (fun v i wr=> ∃(k bo c':Nat),i=.int .i64 (k:Int)∧v=.slice (some ⟨bo,0,none⟩) k c'∧k≤l.length∧OS w.heap.size wr (some ⟨bo,0,none⟩) c' ((l.take k).map Qr)∧Below w.heap.size w wr) (fun _ i _=>l.length-(intOf i).toNat)
  case atStart=>exact⟨0,_,0,rfl,rfl,by omega,qre w1 _ b1.size,bal b1 _⟩
  case round=>
   obtain⟨k,bo,c',rfl,rfl,hk,hO,hb⟩:=hrel;by_cases hlt:k<l.length
   ·obtain⟨b,off,rfl,hbl,hc⟩:=h.keep hb (by omega);obtain⟨k0,k1,k2,k3,k4⟩:=qaa hc k hlt;clear hc;have hnx0:(l.take k).map Qr++[Qr l[k]]=(l.take (k+1)).map Qr:=by rw[Yad hlt,Ybg];rfl
    generalize l[k]=t at k0 k1 k2 k3 k4 hnx0;have hnx:=zhi hnx0;clear hnx0;have hkl:Hid (((l.take k).map Qr).length=k):=by rw[Hid,Ybh,Yap];omega
    have B1:=bal (Below.refl wr.heap.size wr) (.cells #[.int .i64 t.low,.int .i64 t.high,.int .i64 t.due,.int .i64 t.every,.bool t.crit] 58);go_wp2_with fail;refine(Vz t _).mono ?_;rintro e w2 ⟨rfl,b2⟩;have hO2:=qnk (qf9 hO _) b2;have B2:Below w.heap.size w w2:=Qa (bal hb _) b2;clear k0 k1 k2 k3 k4 hO;generalize(l.take k).map Qr=xs at*;go_wp2_with (at_builtin;refine qgk _ rfl _ _ rfl w.heap.size (some ⟨bo,0,none⟩) xs k c' hkl.out rfl (qf9 hO2 _) w2.heap.size 1 (Qr t) 9 rfl (zha w2 _) (by rw[hkl.out];omega) (by have:=B2.size;simp;omega) ?_;intro A3 c3 w3 o3 g3 b3)
    obtain⟨b4,rfl,_,_⟩:=qve o3 (by simp);rw[hnx.out] at o3;go_roundw
    case rel=>exact⟨k+1,b4,c3,by go_num,rfl,by omega,o3,(bal B2 _).trans b3⟩
    case measure=>simp[intOf];omega
   ·obtain rfl:k=l.length:=by omega
    rw[Ybi] at hO;have hlen:(l.map Qr).length=l.length:=Ybh ..;have hsz:=Qo hO;obtain⟨hs1,hs2⟩:=hsz
    have hcell: ∀(j:Nat) x,(l.map (fun t=>(⟨(Qr t).toArray⟩:ByteArray)))[j]? =some x→wr.cell? ⟨bo,0+j,none⟩=some (.string x):=by
     intro j x hj
     have:=World.ownsRow.cells hO (g:=bo) rfl j (.string x) (by
      simp only[qzl,Ycv] at hj⊢;cases e:l[j]? with
      |none=>rw[e] at hj;cases hj
      |some t=>rw[e] at hj;simp at hj⊢;exact hj)
     rw[Ybj];rwa [qai] at this
    have hbw:bo<wr.heap.size:=by
     rcases hO.2 with⟨hv,_⟩|⟨g,cap,cur,hv,hg,hh,_⟩
     ·cases hv
     ·cases hv
      exact(bl hh)
    have K:=Tryz.strings_Join bo 0 c' (l.map (fun t=>(⟨(Qr t).toArray⟩:ByteArray))) ⟨#[59,32]⟩ wr hcell hbw (by simp;omega) (by simp;omega);have e1:(l.map (fun t=>(⟨(Qr t).toArray⟩:ByteArray))).map (·.data.toList)=l.map Qr:=by simp
    rw[e1] at K;have e2:(l.map (fun t=>(⟨(Qr t).toArray⟩:ByteArray))).length=l.length:=Ybh ..;have K2:=K (by show(qqd l).length≤_;omega);rw[e2] at K2;clear K e1 e2 hcell hO hs1 hs2;go_wp2_with fail;refine K2.mono ?_;rintro e w4 ⟨rfl,b4⟩;go_wp2_with fail;go_ret;exact⟨by rw[HF.out];rfl,Qa hb b4⟩
theorem qcr(A:ZA)(l:List Tk)(c:Nat)(w:World)(h:TS w A l)(hm:l.length≤9223372036854775807):
  Calls Tryz.prog 48 #[.slice A l.length c] w fun e w'=>e=.returned (.string ⟨(Va l).toArray⟩)∧Below w.heap.size w w':=by
 cases hS:Qe l with
 |false=>
  have HF:Hid (Va l=[]):=by simp[Hid,Va,hS]
  go_enter Tryz.func48,Tryz.ntmps48;go_wp2_with fail;refine(Qd A l c _ h hm).mono ?_;rw[hS];rintro e w1 ⟨rfl,b1⟩;go_wp2_with fail;go_ret;exact⟨by rw[HF.out];rfl,b1⟩
 |true=>
  have hl5:=Vl hS;have HF:Hid (Va l=qqd l):=by simp[Hid,Va,hS]
  have HS:=zhi hS;clear hS;go_enter Tryz.func48,Tryz.ntmps48;go_wp2_with fail;refine(Qd A l c _ h hm).mono ?_;rw[HS.out];rintro e w1 ⟨rfl,b1⟩;go_wp2_with fail;go_loopw [3,4] (fun v i wr=> ∃(k:Nat) (T:List UInt8),i=.int .i64 (k:Int)∧v=.string ⟨T.toArray⟩∧k≤l.length∧Hid (T=qqd (l.take k))∧Below w.heap.size w wr) (fun _ i _=>l.length-(intOf i).toNat)
  case atStart=>exact⟨0,[],rfl,rfl,by omega,rfl,b1⟩
  case round=>
   obtain⟨k,T,rfl,rfl,hk,hT,hb⟩:=hrel
   have hTl:T.length≤600:=by
    rw[hT.out];have:=qvg (l.take k);rw[Yap] at this;omega
   by_cases hlt:k<l.length
   ·obtain⟨b,off,rfl,hbl,hc⟩:=h.keep hb (by omega);obtain⟨k0,k1,k2,k3,k4⟩:=qaa hc k hlt;clear hc;have hnx0:(l.take k).map Qr++[Qr l[k]]=(l.take (k+1)).map Qr:=by rw[Yad hlt,Ybg];rfl
    generalize l[k]=t at k0 k1 k2 k3 k4 hnx0;have htl:=qhe t;by_cases h0:k=0
    ·subst h0
     have hnx:Hid (T++Qr t=qqd (l.take (0+1))):=by
      rw[Hid,hT.out,qqd,qqd,←hnx0];simp[Lib.join_nil,Lib.join_one]
     clear hnx0;simp only[Nat.zero_mul,Nat.add_zero] at k0 k1 k2 k3 k4;go_wp2_with fail;refine(qdn t _).mono ?_;rintro e w2 ⟨rfl,b2⟩;clear k0 k1 k2 k3 k4;go_wp2_with fail;go_roundw
     case rel=>exact⟨0+1,_,by go_num,by rw[Qn],by omega,hnx,Qa hb b2⟩
     case measure=>simp[intOf];omega
    ·have hnx:Hid ((T++[59,32])++Qr t=qqd (l.take (k+1))):=by
      rw[Hid,hT.out,qqd,qqd,←hnx0];exact(qtg _ _ _ (by simp;omega)).symm
     clear hnx0;have hk0:(0:Int)<(k:Int):=by omega
     go_wp2_with fail;refine(qdn t _).mono ?_;rintro e w2 ⟨rfl,b2⟩;clear k0 k1 k2 k3 k4;go_wp2_with fail;go_roundw
     case rel=>exact⟨k+1,_,by go_num,by rw[←Qn,←Qn],by omega,hnx,Qa hb b2⟩
     case measure=>simp[intOf];omega
   ·obtain rfl:k=l.length:=by omega
    rw[Ybi] at hT;have HR:=hT;go_wp2_with fail;go_ret;exact⟨by rw[HF.out,←HR.out];rfl,hb⟩
def q2u(l:List Tk)(pol:Int):Int:=if pol=0 then 1 else qgp l
def q2v(l:List Tk)(pol:Int):Int:=if pol=0 then 1 else qgq l
def qi5(l:List Tk)(pol:Int):Bool:=if pol=0 then true else qsi l&&decide (pol=1)
theorem q70{l:List Tk}{js:List Jb}(h:Q9 l js=true)(pol:Int):JobsIn l js (q2u l pol) (q2v l pol):=by
 have V:=qnj h;unfold q2u q2v;split
 ·exact⟨V.v,V.job,by decide,by decide,by decide,by decide⟩
 ·exact V
theorem q3l(l:List Tk)(js:List Jb)(pol:Int)(hp:pol=0∨pol=1)(t:Nat):qce l js (q2u l pol) (q2v l pol) pol t=qce l js (qgp l) (qgq l) pol t:=by
 rcases hp with rfl|rfl
 ·exact q7y ..
 ·rfl
def qrg(l:List Tk)(js:List Jb)(pol tk:Int):Bool:=Q9 l js&&qi5 l pol&&decide (0≤tk)&&decide (tk≤200)
def trT(tr:List Int):List UInt8:=tr.map (fun t=>if t= -1 then 46 else UInt8.ofNat (48+t.toNat))
theorem qxd(tr:List Int)(t:Int):trT (tr++[t])=trT tr++[if t= -1 then 46 else UInt8.ofNat (48+t.toNat)]:=by simp[trT]
theorem qnl(tr:List Int):(trT tr).length=tr.length:=by simp[trT]
def qbn(xs:List Int):List UInt8:=xs.flatMap (fun n=>32::num n)
theorem qqe(xs:List Int)(n:Int):qbn (xs++[n])=qbn xs++(32::num n):=by simp[qbn]
theorem qcf(xs:List Int)(h: ∀n∈xs,n≤1000000000):(qbn xs).length≤22*xs.length:=by
 induction xs with
 |nil=>simp[qbn]
 |cons a r ih=>
  have h1:=Qp a (by have:=h a (by simp);omega);have h2:=ih (fun n hn=>h n (Ybn _ hn));have e:qbn (a::r)=(32::num a)++qbn r:=by simp[qbn]
  rw[e,Yaa,Yau,Yau];omega
def qfr(en:List Int):Nat→List Nat
 |0=>[]
 |k+1=>qfr en k++(if en.getD k 0= -2 then [k] else [])
theorem qrh(en:List Int)(k:Nat):(qfr en k).length≤k:=by
 induction k with
 |zero=>simp[qfr]
 |succ k ih=>
  simp only[qfr];split<;>simp<;>omega
theorem qri(en:List Int)(k:Nat): ∀i∈qfr en k,i<k:=by
 induction k with
 |zero=>intro i hi;cases hi
 |succ k ih=>
  intro i hi;simp only[qfr,Ybq] at hi;rcases hi with hi|hi
  ·have:=ih i hi;omega
  ·split at hi
   ·rw[Yaw] at hi;omega
   ·cases hi
abbrev mR(l:List Tk)(js:List Jb)(pol:Int)(n:Nat):Mc:=qce l js (qgp l) (qgq l) pol n
def q0n(l:List Tk)(js:List Jb)(pol:Int)(n:Nat):List UInt8:=
 (([116,114,97,99,101,32]++trT (mR l js pol n).tr)++[10])++(([115,119,105,116,99,104,101,115]++qbn (mR l js pol n).sw)++[10])++(([108,97,116,101]++qbn (Vv (qbg l js (mR l js pol n).en n js.length)))++[10])++(([100,114,111,112,112,101,100]++qbn (Vv (qfr (mR l js pol n).en js.length)))++[10])
theorem qvh(l:List Tk)(js:List Jb)(en:List Int)(T:Int)(k:Nat): ∀i∈qbg l js en T k,i<k:=by
 induction k with
 |zero=>intro i hi;cases hi
 |succ k ih=>
  intro i hi;simp only[qbg,Ybq] at hi;rcases hi with hi|hi
  ·have:=ih i hi;omega
  ·split at hi
   ·rw[Yaw] at hi;omega
   ·cases hi
theorem qvi(l:List Tk)(js:List Jb)(en:List Int)(T:Int)(k:Nat):(qbg l js en T k).length≤k:=by
 induction k with
 |zero=>simp[qbg]
 |succ k ih=>
  simp only[qbg];split<;>simp<;>omega
theorem qvj{l:List Tk}{js:List Jb}(hV:Q9 l js=true)(num den pol:Int)(t:Nat):(∀x∈(qce l js num den pol t).tr,x= -1∨(0≤x∧x≤4))∧(∀x∈(qce l js num den pol t).sw,0≤x∧x≤(t:Int)):=by
 have hS:Qe l=true:=by
  simp only[Q9,Yac] at hV;exact hV.1.1
 have h5:=Vl hS;have V:=qnj hV;induction t with
 |zero=>exact⟨fun x hx=>(by simp[qce] at hx),fun x hx=>(by simp[qce] at hx)⟩
 |succ t ih=>
  have I:=q68 (num:=num) (den:=den) (pol:=pol) (qd8 hV) (fun k hk=>Qs hS hk) t;obtain⟨ih1,ih2⟩:=ih;have hm:qce l js num den pol (t+1)=qfm l js num den pol t (qce l js num den pol t):=rfl;rw[hm];generalize qce l js num den pol t=s at ih1 ih2 I
  have ih2': ∀x∈s.sw,0≤x∧x≤((t+1:Nat):Int):=fun x hx=>by
   have:=ih2 x hx;omega
  unfold qfm;by_cases he:(qaz l js t s).2=[]
  ·simp only[he,if_true];refine⟨fun x hx=>?_,ih2'⟩;rcases Ybq.1 hx with hx|hx
   ·exact ih1 x hx
   ·rw[Yaw] at hx;exact .inl hx
  ·simp only[he,Ydh];refine⟨fun x hx=>?_,fun x hx=>?_⟩
   ·rcases Ybq.1 hx with hx|hx
    ·exact ih1 x hx
    ·rw[Yaw] at hx
     have hlen:0<(qaz l js t s).2.length:=by
      cases hh:(qaz l js t s).2 with
      |nil=>exact absurd hh he
      |cons a r=>simp
     have hb:=qrc (qeu l js num den pol (qan s)) (qaz l js t s).2 ((qaz l js t s).2.length-1) (by omega);have hi:=(I.come (qd8 hV) (fun k hk=>Qs hS hk) hb).1;have:=V.job _ hi;unfold qh5 at hx;refine .inr ?_;omega
   ·unfold qej at hx;split at hx
    ·exact ih2' x hx
    ·split at hx
     ·rcases Ybq.1 hx with hx|hx
      ·exact ih2' x hx
      ·rw[Yaw] at hx;omega
     ·exact ih2' x hx
end Go.Proofs.YtmkjmancmiphfaaGreatDoor
