/-
  Texts read: ParseTask and ParseSet of texts that FormatTask and FormatSet have made: the program's. (Printed by gen_parse.py.)
  ParseSet of texts that FormatSet has made: the program's. (Printed by gen_parse.py.)
  What words do at the desk: tasks, show, places, deadlines, leave.
  AssignOrder: the reference's.
-/
import Derived.Test.YtmkjmancmiphfaaGreatDoorRc23
namespace Go.Proofs.YtmkjmancmiphfaaGreatDoor
set_option maxHeartbeats 8000000
set_option maxRecDepth 1000000
open Go.RowKit
structure Bx (w:World) (g:Nat) (wx:World) (t:Tk):Prop where
 t:wx.heap[g]? =some (.cells #[.int .i64 t.low,.int .i64 t.high,.int .i64 t.due,.int .i64 t.every,.bool t.crit] 58 (0,0))
 r:wx.heap[w.heap.size]? =some (.cells #[.int .i64 0,.int .i64 0,.int .i64 0,.int .i64 0,.bool false] 58 (0,0))
 b:Below w.heap.size w wx
 lt:w.heap.size<g
theorem Bx.keep{w wx wy:World}{g:Nat}{t:Tk}(h:Bx w g wx t)(hb:Below wx.heap.size wx wy):Bx w g wy t:=
 ⟨bh hb h.t,bh hb h.r,Qa h.b hb,h.lt⟩
theorem Bx.st{w wx:World}{g:Nat}{t t':Tk}(h:Bx w g wx t)(i:Nat)(v:Value)(e:(#[.int .i64 t.low,.int .i64 t.high,.int .i64 t.due,.int .i64 t.every,.bool t.crit]:Array Value).setIfInBounds i v= #[.int .i64 t'.low,.int .i64 t'.high,.int .i64 t'.due,.int .i64 t'.every,.bool t'.crit]):Bx w g (wx.setCell ⟨g,i,none⟩ v) t':=
 ⟨by rw[qa5 h.t v,e],(Yal wx ⟨g,i,none⟩ v w.heap.size (by have:=h.lt;simp;omega)).trans h.r,h.b.setCell (p:=⟨g,i,none⟩) (Nat.le_of_lt h.lt) v,h.lt⟩
theorem qo9(t:Tk)(hv:vld t=true)(w:World)(hM:Mx w.heap.size w):
  Calls Tryz.prog 131 #[.string ⟨(Vp t).toArray⟩] w fun e w'=>e=.returned (.tuple #[t.val,.bool true])∧Below w.heap.size w w':=by
 obtain⟨h1,h2,h3,h4,h5⟩:=qao hv;have hfl:=qhe t;have C1:=qnu t;have hF:Qr t=Vp t:=by simp[Qr,hv]
 have hff:=hF;rw[hF] at hfl;have l1:=Qp t.low (by omega);have l2:=Qp t.high (by omega);have l3:=Qp t.due (by omega);have l4:=Qp t.every (by omega);have ln:(qcm t).length≤50:=by unfold qcm qhd;split<;>simp<;>omega
 have lr:(qjx t).length≤50:=by unfold qjx qsj;split<;>simp<;>omega
 have hvv:=hv;simp only[vld,Yac] at hvv;obtain⟨_,hcl⟩:=hvv;cases hc:t.crit with
 |true=>
  have hN:=qiz hc;by_cases hd:t.due<t.every
  ·have hR:=qib hd;obtain⟨low,high,due,every,crit⟩:=t;simp only at*;subst hc;obtain⟨F,hFF⟩: ∃F,Vp ⟨low,high,due,every,true⟩=F:=⟨_,rfl⟩;obtain⟨N,hNN⟩: ∃N,qcm ⟨low,high,due,every,true⟩=N:=⟨_,rfl⟩;obtain⟨R,hRR⟩: ∃R,qjx ⟨low,high,due,every,true⟩=R:=⟨_,rfl⟩;rw[hFF,hNN,hRR] at C1;rw[hNN] at hN ln;rw[hRR] at hR lr;rw[hFF] at hff hfl⊢;have HC1:=zhi C1;have HN:=zhi hN;have HR:=zhi hR;have HV:=zhi hv;have HF:=zhi hff;clear C1 hN hR hv hff hF hFF hNN hRR hcl;go_enter Tryz.func131,Tryz.ntmps131;go_wp2_with fail;refine(qb0 HC1.out (hM.keep (bal br _)) (by omega)).mono ?_;rintro e w1 ⟨rfl,b1⟩;have X:Bx w w1.heap.size (w1.alloc (.cells #[.int .i64 0,.int .i64 0,.int .i64 0,.int .i64 0,.bool false] 58 (0,0))) ⟨0,0,0,0,false⟩:=⟨zha _ _,(Yaj w1 _ w.heap.size (zlt (by simp) b1.size)).trans ((b1.block w.heap.size (by simp)).trans (zha w _)),bal (Qa (bal (Below.refl w.heap.size w) _) b1) _,zlt (by simp) b1.size⟩;clear b1;go_wp2_with fail;refine(qb0 HN.out (hM.keep X.b) (by omega)).mono ?_;rintro e w2 ⟨rfl,b2⟩;replace X:=X.keep b2;clear b2;go_wp2_with fail;refine(qb0 HR.out (hM.keep X.b) (by omega)).mono ?_;rintro e w3 ⟨rfl,b3⟩;replace X:=X.keep b3;clear b3;generalize w1.heap.size=g at X⊢;go_wp2_with fail;refine(qc9 low (by omega) (by omega) _).mono ?_;rintro e w4 ⟨rfl,b4⟩;replace X:=X.keep b4;clear b4;obtain⟨t0,t1,t2,t3,t4,tf⟩:=Qc X.t;go_wp2_with fail;clear t0 t1 t2 t3 t4 tf;replace X:=X.st (t':=⟨low,0,0,0,false⟩) 0 (.int .i64 low) rfl;replace X:=X.st (t':=⟨low,low,0,0,false⟩) 1 (.int .i64 low) rfl;refine(qc9 high (by omega) (by omega) _).mono ?_;rintro e w5 ⟨rfl,b5⟩;replace X:=X.keep b5;clear b5;obtain⟨t0,t1,t2,t3,t4,tf⟩:=Qc X.t;go_wp2_with fail;clear t0 t1 t2 t3 t4 tf;replace X:=X.st (t':=⟨low,high,0,0,false⟩) 1 (.int .i64 high) rfl;replace X:=X.st (t':=⟨low,high,0,0,true⟩) 4 (.bool true) rfl;refine(qc9 every (by omega) (by omega) _).mono ?_;rintro e w6 ⟨rfl,b6⟩;replace X:=X.keep b6;clear b6;obtain⟨t0,t1,t2,t3,t4,tf⟩:=Qc X.t;go_wp2_with fail;clear t0 t1 t2 t3 t4 tf;replace X:=X.st (t':=⟨low,high,0,every,true⟩) 3 (.int .i64 every) rfl;replace X:=X.st (t':=⟨low,high,every,every,true⟩) 2 (.int .i64 every) rfl;refine(qc9 due (by omega) (by omega) _).mono ?_;rintro e w7 ⟨rfl,b7⟩;replace X:=X.keep b7;clear b7;obtain⟨t0,t1,t2,t3,t4,tf⟩:=Qc X.t;go_wp2_with fail;clear t0 t1 t2 t3 t4 tf;replace X:=X.st (t':=⟨low,high,due,every,true⟩) 2 (.int .i64 due) rfl;refine(Vc ⟨low,high,due,every,true⟩ _).mono ?_;rw[HV.out];rintro e w8 ⟨rfl,b8⟩;replace X:=X.keep b8;clear b8;obtain⟨t0,t1,t2,t3,t4,tf⟩:=Qc X.t;go_wp2_with fail;clear t0 t1 t2 t3 t4 tf;refine(Vz ⟨low,high,due,every,true⟩ _).mono ?_;rw[HF.out];rintro e w9 ⟨rfl,b9⟩;replace X:=X.keep b9;clear b9;obtain⟨t0,t1,t2,t3,t4,tf⟩:=Qc X.t;obtain⟨r0,r1,r2,r3,r4,rf⟩:=Qc X.r;have hlt:=X.lt;go_wp2_with fail;refine bodyPost_ret (v:=.tuple #[Tk.val ⟨low,high,due,every,true⟩,.bool true]) (by simp[results,Tryz.results131,go_sem,r0,r1,r2,r3,r4]) rfl ⟨rfl,?_⟩;exact bst (bst (bst (bst (bst X.b (p:=⟨w.heap.size,0,none⟩) (zlr _) _) (p:=⟨w.heap.size,1,none⟩) (zlr _) _) (p:=⟨w.heap.size,2,none⟩) (zlr _) _) (p:=⟨w.heap.size,3,none⟩) (zlr _) _) (p:=⟨w.heap.size,4,none⟩) (zlr _) _
  ·have hR:=qic hd;obtain⟨low,high,due,every,crit⟩:=t;simp only at*;subst hc;obtain rfl:due=every:=by omega
   obtain⟨F,hFF⟩: ∃F,Vp ⟨low,high,due,due,true⟩=F:=⟨_,rfl⟩;obtain⟨N,hNN⟩: ∃N,qcm ⟨low,high,due,due,true⟩=N:=⟨_,rfl⟩;obtain⟨R,hRR⟩: ∃R,qjx ⟨low,high,due,due,true⟩=R:=⟨_,rfl⟩;rw[hFF,hNN,hRR] at C1;rw[hNN] at hN ln;rw[hRR] at hR lr;rw[hFF] at hff hfl⊢;have HC1:=zhi C1;have HN:=zhi hN;have HR:=zhi hR;have HV:=zhi hv;have HF:=zhi hff;clear C1 hN hR hv hff hF hFF hNN hRR hcl;go_enter Tryz.func131,Tryz.ntmps131;go_wp2_with fail;refine(qb0 HC1.out (hM.keep (bal br _)) (by omega)).mono ?_;rintro e w1 ⟨rfl,b1⟩;have X:Bx w w1.heap.size (w1.alloc (.cells #[.int .i64 0,.int .i64 0,.int .i64 0,.int .i64 0,.bool false] 58 (0,0))) ⟨0,0,0,0,false⟩:=⟨zha _ _,(Yaj w1 _ w.heap.size (zlt (by simp) b1.size)).trans ((b1.block w.heap.size (by simp)).trans (zha w _)),bal (Qa (bal (Below.refl w.heap.size w) _) b1) _,zlt (by simp) b1.size⟩;clear b1;go_wp2_with fail;refine(qb0 HN.out (hM.keep X.b) (by omega)).mono ?_;rintro e w2 ⟨rfl,b2⟩;replace X:=X.keep b2;clear b2;go_wp2_with fail;refine(qb0 HR.out (hM.keep X.b) (by omega)).mono ?_;rintro e w3 ⟨rfl,b3⟩;replace X:=X.keep b3;clear b3;generalize w1.heap.size=g at X⊢;go_wp2_with fail;refine(qc9 low (by omega) (by omega) _).mono ?_;rintro e w4 ⟨rfl,b4⟩;replace X:=X.keep b4;clear b4;obtain⟨t0,t1,t2,t3,t4,tf⟩:=Qc X.t;go_wp2_with fail;clear t0 t1 t2 t3 t4 tf;replace X:=X.st (t':=⟨low,0,0,0,false⟩) 0 (.int .i64 low) rfl;replace X:=X.st (t':=⟨low,low,0,0,false⟩) 1 (.int .i64 low) rfl;refine(qc9 high (by omega) (by omega) _).mono ?_;rintro e w5 ⟨rfl,b5⟩;replace X:=X.keep b5;clear b5;obtain⟨t0,t1,t2,t3,t4,tf⟩:=Qc X.t;go_wp2_with fail;clear t0 t1 t2 t3 t4 tf;replace X:=X.st (t':=⟨low,high,0,0,false⟩) 1 (.int .i64 high) rfl;replace X:=X.st (t':=⟨low,high,0,0,true⟩) 4 (.bool true) rfl;refine(qc9 due (by omega) (by omega) _).mono ?_;rintro e w6 ⟨rfl,b6⟩;replace X:=X.keep b6;clear b6;obtain⟨t0,t1,t2,t3,t4,tf⟩:=Qc X.t;go_wp2_with fail;clear t0 t1 t2 t3 t4 tf;replace X:=X.st (t':=⟨low,high,0,due,true⟩) 3 (.int .i64 due) rfl;replace X:=X.st (t':=⟨low,high,due,due,true⟩) 2 (.int .i64 due) rfl;refine(Vc ⟨low,high,due,due,true⟩ _).mono ?_;rw[HV.out];rintro e w7 ⟨rfl,b7⟩;replace X:=X.keep b7;clear b7;obtain⟨t0,t1,t2,t3,t4,tf⟩:=Qc X.t;go_wp2_with fail;clear t0 t1 t2 t3 t4 tf;refine(Vz ⟨low,high,due,due,true⟩ _).mono ?_;rw[HF.out];rintro e w8 ⟨rfl,b8⟩;replace X:=X.keep b8;clear b8;obtain⟨t0,t1,t2,t3,t4,tf⟩:=Qc X.t;obtain⟨r0,r1,r2,r3,r4,rf⟩:=Qc X.r;have hlt:=X.lt;go_wp2_with fail;refine bodyPost_ret (v:=.tuple #[Tk.val ⟨low,high,due,due,true⟩,.bool true]) (by simp[results,Tryz.results131,go_sem,r0,r1,r2,r3,r4]) rfl ⟨rfl,?_⟩;exact bst (bst (bst (bst (bst X.b (p:=⟨w.heap.size,0,none⟩) (zlr _) _) (p:=⟨w.heap.size,1,none⟩) (zlr _) _) (p:=⟨w.heap.size,2,none⟩) (zlr _) _) (p:=⟨w.heap.size,3,none⟩) (zlr _) _) (p:=⟨w.heap.size,4,none⟩) (zlr _) _
 |false=>
  have hN:=qks hc;by_cases hd:t.due<t.every
  ·have hR:=qib hd;obtain⟨low,high,due,every,crit⟩:=t;simp only at*;subst hc;obtain rfl:low=high:=by simpa using hcl
   obtain⟨F,hFF⟩: ∃F,Vp ⟨low,low,due,every,false⟩=F:=⟨_,rfl⟩;obtain⟨N,hNN⟩: ∃N,qcm ⟨low,low,due,every,false⟩=N:=⟨_,rfl⟩;obtain⟨R,hRR⟩: ∃R,qjx ⟨low,low,due,every,false⟩=R:=⟨_,rfl⟩;rw[hFF,hNN,hRR] at C1;rw[hNN] at hN ln;rw[hRR] at hR lr;rw[hFF] at hff hfl⊢;have HC1:=zhi C1;have HN:=zhi hN;have HR:=zhi hR;have HV:=zhi hv;have HF:=zhi hff;clear C1 hN hR hv hff hF hFF hNN hRR hcl;go_enter Tryz.func131,Tryz.ntmps131;go_wp2_with fail;refine(qb0 HC1.out (hM.keep (bal br _)) (by omega)).mono ?_;rintro e w1 ⟨rfl,b1⟩;have X:Bx w w1.heap.size (w1.alloc (.cells #[.int .i64 0,.int .i64 0,.int .i64 0,.int .i64 0,.bool false] 58 (0,0))) ⟨0,0,0,0,false⟩:=⟨zha _ _,(Yaj w1 _ w.heap.size (zlt (by simp) b1.size)).trans ((b1.block w.heap.size (by simp)).trans (zha w _)),bal (Qa (bal (Below.refl w.heap.size w) _) b1) _,zlt (by simp) b1.size⟩;clear b1;go_wp2_with fail;refine(qb0 HN.out (hM.keep X.b) (by omega)).mono ?_;rintro e w2 ⟨rfl,b2⟩;replace X:=X.keep b2;clear b2;go_wp2_with fail;refine(qb0 HR.out (hM.keep X.b) (by omega)).mono ?_;rintro e w3 ⟨rfl,b3⟩;replace X:=X.keep b3;clear b3;generalize w1.heap.size=g at X⊢;go_wp2_with fail;refine(qc9 low (by omega) (by omega) _).mono ?_;rintro e w4 ⟨rfl,b4⟩;replace X:=X.keep b4;clear b4;obtain⟨t0,t1,t2,t3,t4,tf⟩:=Qc X.t;go_wp2_with fail;clear t0 t1 t2 t3 t4 tf;replace X:=X.st (t':=⟨low,0,0,0,false⟩) 0 (.int .i64 low) rfl;replace X:=X.st (t':=⟨low,low,0,0,false⟩) 1 (.int .i64 low) rfl;replace X:=X.st (t':=⟨low,low,0,0,false⟩) 4 (.bool false) rfl;refine(qc9 every (by omega) (by omega) _).mono ?_;rintro e w5 ⟨rfl,b5⟩;replace X:=X.keep b5;clear b5;obtain⟨t0,t1,t2,t3,t4,tf⟩:=Qc X.t;go_wp2_with fail;clear t0 t1 t2 t3 t4 tf;replace X:=X.st (t':=⟨low,low,0,every,false⟩) 3 (.int .i64 every) rfl;replace X:=X.st (t':=⟨low,low,every,every,false⟩) 2 (.int .i64 every) rfl;refine(qc9 due (by omega) (by omega) _).mono ?_;rintro e w6 ⟨rfl,b6⟩;replace X:=X.keep b6;clear b6;obtain⟨t0,t1,t2,t3,t4,tf⟩:=Qc X.t;go_wp2_with fail;clear t0 t1 t2 t3 t4 tf;replace X:=X.st (t':=⟨low,low,due,every,false⟩) 2 (.int .i64 due) rfl;refine(Vc ⟨low,low,due,every,false⟩ _).mono ?_;rw[HV.out];rintro e w7 ⟨rfl,b7⟩;replace X:=X.keep b7;clear b7;obtain⟨t0,t1,t2,t3,t4,tf⟩:=Qc X.t;go_wp2_with fail;clear t0 t1 t2 t3 t4 tf;refine(Vz ⟨low,low,due,every,false⟩ _).mono ?_;rw[HF.out];rintro e w8 ⟨rfl,b8⟩;replace X:=X.keep b8;clear b8;obtain⟨t0,t1,t2,t3,t4,tf⟩:=Qc X.t;obtain⟨r0,r1,r2,r3,r4,rf⟩:=Qc X.r;have hlt:=X.lt;go_wp2_with fail;refine bodyPost_ret (v:=.tuple #[Tk.val ⟨low,low,due,every,false⟩,.bool true]) (by simp[results,Tryz.results131,go_sem,r0,r1,r2,r3,r4]) rfl ⟨rfl,?_⟩;exact bst (bst (bst (bst (bst X.b (p:=⟨w.heap.size,0,none⟩) (zlr _) _) (p:=⟨w.heap.size,1,none⟩) (zlr _) _) (p:=⟨w.heap.size,2,none⟩) (zlr _) _) (p:=⟨w.heap.size,3,none⟩) (zlr _) _) (p:=⟨w.heap.size,4,none⟩) (zlr _) _
  ·have hR:=qic hd;obtain⟨low,high,due,every,crit⟩:=t;simp only at*;subst hc;obtain rfl:low=high:=by simpa using hcl
   obtain rfl:due=every:=by omega
   obtain⟨F,hFF⟩: ∃F,Vp ⟨low,low,due,due,false⟩=F:=⟨_,rfl⟩;obtain⟨N,hNN⟩: ∃N,qcm ⟨low,low,due,due,false⟩=N:=⟨_,rfl⟩;obtain⟨R,hRR⟩: ∃R,qjx ⟨low,low,due,due,false⟩=R:=⟨_,rfl⟩;rw[hFF,hNN,hRR] at C1;rw[hNN] at hN ln;rw[hRR] at hR lr;rw[hFF] at hff hfl⊢;have HC1:=zhi C1;have HN:=zhi hN;have HR:=zhi hR;have HV:=zhi hv;have HF:=zhi hff;clear C1 hN hR hv hff hF hFF hNN hRR hcl;go_enter Tryz.func131,Tryz.ntmps131;go_wp2_with fail;refine(qb0 HC1.out (hM.keep (bal br _)) (by omega)).mono ?_;rintro e w1 ⟨rfl,b1⟩;have X:Bx w w1.heap.size (w1.alloc (.cells #[.int .i64 0,.int .i64 0,.int .i64 0,.int .i64 0,.bool false] 58 (0,0))) ⟨0,0,0,0,false⟩:=⟨zha _ _,(Yaj w1 _ w.heap.size (zlt (by simp) b1.size)).trans ((b1.block w.heap.size (by simp)).trans (zha w _)),bal (Qa (bal (Below.refl w.heap.size w) _) b1) _,zlt (by simp) b1.size⟩;clear b1;go_wp2_with fail;refine(qb0 HN.out (hM.keep X.b) (by omega)).mono ?_;rintro e w2 ⟨rfl,b2⟩;replace X:=X.keep b2;clear b2;go_wp2_with fail;refine(qb0 HR.out (hM.keep X.b) (by omega)).mono ?_;rintro e w3 ⟨rfl,b3⟩;replace X:=X.keep b3;clear b3;generalize w1.heap.size=g at X⊢;go_wp2_with fail;refine(qc9 low (by omega) (by omega) _).mono ?_;rintro e w4 ⟨rfl,b4⟩;replace X:=X.keep b4;clear b4;obtain⟨t0,t1,t2,t3,t4,tf⟩:=Qc X.t;go_wp2_with fail;clear t0 t1 t2 t3 t4 tf;replace X:=X.st (t':=⟨low,0,0,0,false⟩) 0 (.int .i64 low) rfl;replace X:=X.st (t':=⟨low,low,0,0,false⟩) 1 (.int .i64 low) rfl;replace X:=X.st (t':=⟨low,low,0,0,false⟩) 4 (.bool false) rfl;refine(qc9 due (by omega) (by omega) _).mono ?_;rintro e w5 ⟨rfl,b5⟩;replace X:=X.keep b5;clear b5;obtain⟨t0,t1,t2,t3,t4,tf⟩:=Qc X.t;go_wp2_with fail;clear t0 t1 t2 t3 t4 tf;replace X:=X.st (t':=⟨low,low,0,due,false⟩) 3 (.int .i64 due) rfl;replace X:=X.st (t':=⟨low,low,due,due,false⟩) 2 (.int .i64 due) rfl;refine(Vc ⟨low,low,due,due,false⟩ _).mono ?_;rw[HV.out];rintro e w6 ⟨rfl,b6⟩;replace X:=X.keep b6;clear b6;obtain⟨t0,t1,t2,t3,t4,tf⟩:=Qc X.t;go_wp2_with fail;clear t0 t1 t2 t3 t4 tf;refine(Vz ⟨low,low,due,due,false⟩ _).mono ?_;rw[HF.out];rintro e w7 ⟨rfl,b7⟩;replace X:=X.keep b7;clear b7;obtain⟨t0,t1,t2,t3,t4,tf⟩:=Qc X.t;obtain⟨r0,r1,r2,r3,r4,rf⟩:=Qc X.r;have hlt:=X.lt;go_wp2_with fail;refine bodyPost_ret (v:=.tuple #[Tk.val ⟨low,low,due,due,false⟩,.bool true]) (by simp[results,Tryz.results131,go_sem,r0,r1,r2,r3,r4]) rfl ⟨rfl,?_⟩;exact bst (bst (bst (bst (bst X.b (p:=⟨w.heap.size,0,none⟩) (zlr _) _) (p:=⟨w.heap.size,1,none⟩) (zlr _) _) (p:=⟨w.heap.size,2,none⟩) (zlr _) _) (p:=⟨w.heap.size,3,none⟩) (zlr _) _) (p:=⟨w.heap.size,4,none⟩) (zlr _) _
theorem qm8{w w':World}{b:Nat}{x:Obj}{row:Option Nat}(h:w.heap[b]? =some x)(hg:w.grownBy w' row)(hne:row≠some b):w'.heap[b]? =some x:=
 (hg.block b (bl h) (fun e=>hne e.symm)).trans h
theorem qxl{w:World}{base:Nat}{t t':TypeId}{size:Nat}{v:Value}{n:Nat}{xs:List Value}(h:w.ownsRow base t size v n xs){b:Nat}{cs:Array Value}{fz:Nat×Nat}(hb:w.heap[b]? =some (.cells cs t' fz))(hne:t'≠t):v.ownBlock≠some b:=by
 rcases h.2 with⟨rfl,_⟩|⟨g,cap,cur,rfl,_,hh,_⟩
 ·simp[Value.ownBlock]
 ·intro e;have:g=b:=by simpa [Value.ownBlock] using e
  subst this;rw[hb] at hh;injection hh with hh
  injection hh with _ ht _
  exact hne ht
theorem qmt(w:World){ops:Array Oper}{rest:List Oper}{o:Oper}{a:Act}{Q:Exit→Act→World→Prop}(hgd:o.guard=none)(s x:Operand)
  (ho:o.op=.call {callee:=.builtin .append,args:=#[s,x],argTypes:=#[23,23]})
  (base:Nat) (A:ZA) (l:List Tk) (n c:Nat) (hn:l.length=n) (hs:a.eval s=.slice A n c) (hown:OT base w A c l)
  (b c1:Nat) (t:Tk) (cs:Array Value) (ty:TypeId) (hx:a.eval x=.slice (some ⟨b,0,none⟩) 1 c1) (hb:w.heap[b]? =some (.cells cs ty (0,0))) (hcs:cs.toList=t.cells)
  (hl:l.length≤2000000) (hbase:base≤w.heap.size)
  (h: ∀A' c' w',OT base w' A' c' (l++[t])→w.grownBy w' (Value.slice A n c).ownBlock→Below base w w'→wpList Tryz.prog ops Q rest (a.put o.dst (.slice A' (n+1) c')) w'):wpList Tryz.prog ops Q (o::rest) a w:=by
 subst hn;exact qa1 w hgd s x ho base A l c hs hown b c1 t cs ty hx hb hcs hl hbase h
theorem qe0.cells{B b:Nat}{w:World}{s:St}(h:qe0 B b w s): ∃A c jv,w.cell? ⟨b,0,none⟩=some (.slice A s.l.length c)∧w.cell? ⟨b,1,none⟩=some jv∧w.cell? ⟨b,2,none⟩=some (.int .i64 s.pol)∧
  w.frozen? ⟨b,0,none⟩=false∧w.frozen? ⟨b,1,none⟩=false∧w.frozen? ⟨b,2,none⟩=false∧OT B w A c s.l∧s.l.length≤c:=by
 obtain⟨hB,A,c,jv,p,v,hk,hp,hv,hO,hJ⟩:=h;exact⟨A,c,jv,by rw[Yak hk];rfl,by rw[Yak hk];rfl,by rw[Yak hk];rfl,zfz hk 0,zfz hk 1,zfz hk 2,hO,(Qo hO).1⟩
theorem qe0.setPol{B b:Nat}{w:World}{s:St}(h:qe0 B b w s)(p':Int):qe0 B b (w.setCell ⟨b,2,none⟩ (.int .i64 p')) {s with pol:=p'}∧Frm B b w (w.setCell ⟨b,2,none⟩ (.int .i64 p')):=by
 obtain⟨hB,A,c,jv,p,v,hk,hp,hv,hO,hJ⟩:=h;have g0:=qdz w b 2 (.int .i64 p')
 have hvb:v.ownBlock≠some b:=by
  intro e;obtain⟨cs,fz,hc⟩:=Ybt hv b e;rw[hk] at hc;injection hc with hc
  injection hc with _ ht _
  exact tn3 ht
 exact⟨⟨hB,A,c,jv,p,v,qhg hk 2 _,hp,hv.kept g0 (.inr hvb),qae hO _ g0 (fun g hg=>by cases hg;exact⟨_,_,_,hk,tn1⟩),qae hJ _ g0 (fun g hg=>by cases hg;exact⟨_,_,_,hk,tn4⟩)⟩,⟨qde g0,(Below.refl B w).setCell (p:=⟨b,2,none⟩) hB _⟩⟩
theorem qtr(s:St)(ho:s.out.length≤700000):qcn [112,108,97,99,101,115] s {s with pol:=0,out:=s.out++[111,107,10]}:=by
 intro B b w hM D hBw;have D0:=D;obtain⟨A,c,jv,c0,c1,c2,f0,f1,f2,hO,hlc⟩:=D0.cells;go_enter Tryz.func77,Tryz.ntmps77;have DP:=D.setPol 0;obtain⟨D1,F1⟩:=DP;go_wp2_with fail;refine(Q2 D1 [111,107] _ rfl (by simp;omega) (zll hBw F1.size)).mono ?_;rintro e w2 ⟨rfl,D2,F2⟩;go_wp2_with fail;go_ret;exact⟨rfl,D2,F1.trans F2⟩
theorem qnx(s:St)(ho:s.out.length≤700000):qcn [100,101,97,100,108,105,110,101,115] s {s with pol:=1,out:=s.out++[111,107,10]}:=by
 intro B b w hM D hBw;have D0:=D;obtain⟨A,c,jv,c0,c1,c2,f0,f1,f2,hO,hlc⟩:=D0.cells;go_enter Tryz.func77,Tryz.ntmps77;have DP:=D.setPol 0;obtain⟨D1,F1⟩:=DP;have DQ:=D1.setPol 1;obtain⟨D2,F2⟩:=DQ;go_wp2_with fail;refine(Q2 D2 [111,107] _ rfl (by simp;omega) (zll hBw (F1.trans F2).size)).mono ?_;rintro e w3 ⟨rfl,D3,F3⟩;go_wp2_with fail;go_ret;exact⟨rfl,D3,(F1.trans F2).trans F3⟩
theorem qvs(n:Int)(s:St)(hP:plc s.l n=true)(ho:s.out.length≤700000):qda [108,101,97,118,101] n s ⟨lvT s.l n,0,[],s.pol,s.out++(Va (lvT s.l n)++[10])⟩:=by
 intro B b w hM D hBw;have D0:=D;obtain⟨A,c,jv,c0,c1,c2,f0,f1,f2,hO,hlc⟩:=D0.cells;go_enter Tryz.func80,Tryz.ntmps80;go_wp2_with fail;refine(qi9 A s.l c n _ hO.ts).mono ?_;rw[hP];rintro e w1 ⟨A1,c1',rfl,o1,b1⟩;have D1:=D.keep b1;have F1:=(Frm.refl B b w).thru hBw b1;go_wp2_with fail;refine(qd0 D1 A1 _ c1' (Ql o1 hBw) (by omega) (zll hBw b1.size)).mono ?_;rintro e w2 ⟨rfl,D2,F2⟩;go_wp2_with fail;go_ret;exact⟨rfl,D2,F1.trans F2⟩
theorem qpa(n:Int)(s:St)(hP:plc s.l n=false)(ho:s.out.length≤700000):qda [108,101,97,118,101] n s {s with out:=s.out++[110,111,10]}:=by
 intro B b w hM D hBw;have D0:=D;obtain⟨A,c,jv,c0,c1,c2,f0,f1,f2,hO,hlc⟩:=D0.cells;go_enter Tryz.func80,Tryz.ntmps80;go_wp2_with fail;refine(qi9 A s.l c n _ hO.ts).mono ?_;rw[hP];rintro e w1 ⟨A1,c1',rfl,o1,b1⟩;have D1:=D.keep b1;have F1:=(Frm.refl B b w).thru hBw b1;go_wp2_with fail;refine(qi0 D1 _ (by omega) (zll hBw b1.size)).mono ?_;rintro e w2 ⟨rfl,D2,F2⟩;go_wp2_with fail;go_ret;exact⟨rfl,D2,F1.trans F2⟩
theorem q7g(w:World)(base:Nat)(x:Int)(hb:base≤w.heap.size):OI base (w.alloc (.cells #[.int .i64 x] 3)) (some ⟨w.heap.size,0,none⟩) 1 [x]:=
 ⟨by simp,.inr ⟨w.heap.size,1,#[.int .i64 x],rfl,hb,zha w _,zlr _,by unfold maxLen;simp,by simp,by simp⟩⟩
theorem qhr(w:World){ops:Array Oper}{rest:List Oper}{o:Oper}{a:Act}{Q:Exit→Act→World→Prop}(hgd:o.guard=none)(s x:Operand)
  (ho:o.op=.call {callee:=.builtin .append,args:=#[s,x],argTypes:=#[27,27]})
  (base:Nat) (A:ZA) (l:List Int) (n c:Nat) (hn:l.length=n) (hs:a.eval s=.slice A n c) (hown:OI base w A c l)
  (ad:Addr) (j c1:Nat) (m:List Int) (hj:m.length=j) (hx:a.eval x=.slice (some ad) j c1) (hm:IS w (some ad) m)
  (hl:l.length≤2000000) (hlm:m.length≤2000000) (hbase:base≤w.heap.size)
  (h: ∀A' c' w',OI base w' A' c' (l++m)→w.grownBy w' (Value.slice A n c).ownBlock→Below base w w'→wpList Tryz.prog ops Q rest (a.put o.dst (.slice A' (n+j) c')) w'):wpList Tryz.prog ops Q (o::rest) a w:=by
 subst hn hj;exact qh2 w hgd s x ho base A l c hs hown ad c1 m hx hm hl hlm hbase h
def lenOf:Value→Nat
 | .slice _ m _=>m
 |_=>0
def Srch(p:Nat→Bool)(n:Nat)(v i:Value):Prop:=
 (∃q:Nat,v=.int .i64 (-1)∧i=.int .i64 ((q:Int)-1)∧q≤n∧Hid (qsz p n=qsz p q))∨(∃r:Nat,v=.int .i64 (r:Int)∧i=.int .i64 ((r:Int)-1)∧r<n∧Hid (qsz p n=some r))
theorem qc3(A:ZA)(l:List Tk)(c:Nat)(w:World)(h:TS w A l)(hm:l.length≤maxLen):
  Calls Tryz.prog 83 #[.slice A l.length c] w (qx6 w (qmd l) (Ve l).isSome):=by
 cases hS:Qe l with
 |false=>
  rw[(qm2 hS).1,(qm2 hS).2];go_enter Tryz.func83,Tryz.ntmps83;go_wp2_with fail;refine(Qd A l c _ h hm).mono ?_;rw[hS];rintro e w1 ⟨rfl,b1⟩;go_wp2_with fail;go_ret2;exact⟨_,0,rfl,Vh w1 _ b1.size,bal b1 _⟩
 |true=>
  have hl5:=(Qj hS).1;have HS:=zhi hS;clear hS;go_enter Tryz.func83,Tryz.ntmps83;go_wp2_with fail;refine(Qd A l c _ h hm).mono ?_;rw[HS.out];rintro e w1 ⟨rfl,b1⟩;go_wp2_with fail;have hz1:=b1.size;go_loopw [4,5] (fun v i wr=> ∃(k:Nat) (A':ZA) (c':Nat),i=.int .i64 (k:Int)∧v=.slice A' k c'∧k≤l.length∧OI w.heap.size wr A' c' (Vv (List.range k))∧Below w.heap.size w wr) (fun _ i _=>l.length-(intOf i).toNat)
  case atStart=>exact⟨0,_,0,rfl,rfl,by omega,Vh w1 _ hz1,bal b1 _⟩
  case round=>
   obtain⟨k,A',c',rfl,rfl,hk,hO,hb⟩:=hrel;have hbz:=hb.size;by_cases hlt:k<l.length
   ·have hlr:Hid ((Vv (List.range k)).length=k):=by simp[Hid,Qh]
    have hrs:Hid (Vv (List.range (k+1))=Vv (List.range k)++[(k:Int)]):=by rw[Hid,List.range_succ,qbl]
    go_wp2_with (at_builtin;refine qfn _ rfl _ _ rfl w.heap.size A' (Vv (List.range k)) k c' hlr.out rfl (Q4 hO _) wr.heap.size 1 (k:Int) 3 rfl (zha wr _) (by rw[hlr.out];omega) (by simp;omega) ?_;intro A3 c3' w3 hO3 hg3 hb3)
    go_roundw
    case rel=>exact⟨k+1,A3,c3',by go_num,rfl,by omega,by rw[hrs.out];exact hO3,(bal hb _).trans hb3⟩
    case measure=>simp[intOf];omega
   ·obtain rfl:k=l.length:=by omega
    go_wp2_with fail;obtain⟨wb,rfl⟩: ∃wb:World,wb=wr:=⟨_,rfl⟩;have hs0:Hid (aud l l.length (List.range l.length) []=Ve l):=by simp[Hid,Ve,HS.out]
    have hO0:=Vh wb w.heap.size hbz;have hL0:=Q4 hO (.cells #[] 3);have hB0:=bal hb (.cells #[] 3)
    go_loopw [4,6] (fun v i wx=> ∃(m:Nat) (A5:ZA) (c5:Nat) (left acc:List Nat) (ad:Addr) (c6:Nat),v=.slice A5 m c5∧i=.slice (some ad) acc.length c6∧m≤l.length∧Hid (left.length=m)∧Hid (aud l m left acc=Ve l)∧Hid ((left++acc).Perm (List.range l.length))∧
     OI w.heap.size wx A5 c5 (Vv left)∧OI w.heap.size wx (some ad) c6 (Vv acc)∧Below w.heap.size w wx) (fun v _ _=>lenOf v)
    case atStart=>exact⟨l.length,A',c',List.range l.length,[],⟨wb.heap.size,0,none⟩,0,rfl,rfl,by omega,by simp[Hid],hs0,by simp[Hid],hL0,hO0,hB0⟩
    case round=>
     clear hO hs0 hO0 hL0 hB0 hb hbz;obtain⟨m,A5,c5,left,acc,ad,c6,rfl,rfl,hm5,hlm,ha,hperm,hL,hA6,hT⟩:=hrel
     have hacl:acc.length≤5:=by
      have:=hperm.out.length_eq;simp at this;omega
     cases m with
     |zero=>
      have hfin:Ve l=some acc:=by rw[←ha.out];rfl
      have E1:Hid (qmd l=Vv acc):=by simp[Hid,qmd,hfin]
      have E2:Hid ((Ve l).isSome=true):=by rw[Hid,hfin];rfl
      clear hfin;go_wp2_with fail;go_ret2;exact⟨some ad,c6,by rw[E1.out,E2.out,Qh];rfl,by rw[E1.out];exact hA6,hT⟩
     |succ j=>
      obtain⟨wo,rfl⟩: ∃wo:World,wo=wr:=⟨_,rfl⟩;have hvp:Hid (Qe (qb5 l left)=true):=qgy (qw6 hperm.out) HS.out;have hpl:Hid ((qb5 l left).length=j+1):=by rw[Hid,qdv];exact hlm.out
      have hil:Hid ((Vv left).length=j+1):=by rw[Hid,Qh];exact hlm.out
      have hlt: ∀x∈left,x<l.length:=fun x hx=>by
       have:=hperm.out.mem_iff.1 (List.mem_append_left acc hx);simpa using this
      have hPut:=qlh A A5 l left c c5 wo (h.keep hT) hL.is hlt (by omega) (by rw[hlm.out];omega);rw[hlm.out] at hPut;clear hlt;go_wp2_with fail;refine hPut.mono ?_;clear hPut;rintro e wz ⟨A',c',rfl,hO8,b8⟩;have hsz8:=Qo hO8;rw[hpl.out] at hsz8⊢;obtain⟨hsz8,_⟩:=hsz8;go_wp2_with fail;go_loopw [7,9] (fun v i wy=>Srch (qez (qb5 l left)) (j+1) v i∧Below wz.heap.size wz wy) (fun _ i _=>(intOf i+1).toNat)
      case atStart=>exact⟨.inl ⟨j+1,rfl,by go_num,by omega,rfl⟩,br⟩
      case round=>
       obtain⟨hsr,hby⟩:=hrel;have hTy:=Qa hT (Qa b8 hby);rcases hsr with⟨q,rfl,rfl,hq,htop⟩|⟨r,rfl,rfl,hrj,htop⟩
       case inr=>
        have H9:=Qa b8 hby;have hL9:=Q3 hL H9;have hA9:=Q3 hA6 H9;obtain⟨b5,rfl,hb5,hl5'⟩:=qdj hL9 (by rw[hil.out];omega);have d0:=hL9.cellAt' r (left.getD r 0) (by rw[qu3 (by rw[hlm.out];omega)];exact qjn left r (by rw[hlm.out];omega));have hrl:Hid (r<left.length):=by rw[Hid,hlm.out];omega
        obtain⟨x,hx⟩: ∃x,left.getD r 0=x:=⟨_,rfl⟩;rw[hx] at d0
        have hst:Hid (aud l j (left.eraseIdx r) (x::acc)=Ve l):=by
         rw[Hid,←ha.out,←hx];refine(qw9 ?_).symm;rw[hlm.out,htop.out]
        have hll:Hid ((left.eraseIdx r).length=j):=by rw[Hid,Ybs hrl.out,hlm.out];rfl
        have hpe:Hid ((left.eraseIdx r++(x::acc)).Perm (List.range l.length)):=by rw[←hx];exact qs8 hrl.out hperm.out
        have hsz5:=Qo hL9;rw[hil.out] at hsz5;obtain⟨hsz5,_⟩:=hsz5;have hD:=q5l (hL9.is) (r+1) (c:=c5) (by rw[hil.out];exact hsz5);obtain⟨A2,hA2,hS2⟩:=hD;rw[Ybj] at hA2;have hS1:=zhi (q5k hL9.is r);have HS2:=zhi hS2;have hl1:Hid (((Vv left).take r).length=r):=by rw[Hid,Yap,hil.out];omega
        have hl2:Hid (((Vv left).drop (r+1)).length=j-r):=by rw[Hid,Ybm,hil.out];omega
        have hlen:Hid (Vv (left.eraseIdx r)=(Vv left).take r++(Vv left).drop (r+1)):=by rw[Hid,qqa,Ydg]
        have q1:(0:Int)≤(r:Int)+1:=by omega
        have q2:(r:Int)+1≤((j+1:Nat):Int):=by omega
        have q3:(r:Int)≤(c5:Int):=by omega
        have q0:(0:Int)≤(r:Int):=by omega
        have qw:IntKind.i64.wrap ((r:Int)+1)=(r:Int)+1:=Yai _ (by omega);have hkc:r≤c5:=by omega
        have qj:r≤j:=by omega
        clear hS2 hx;go_wp2_with (at_builtin;refine qhr _ rfl _ _ rfl wr.heap.size (some ⟨wr.heap.size,0,none⟩) [(x:Int)] 1 1 rfl rfl (q7g _ _ _ (zlr _)) ad acc.length c6 (Vv acc) (Qh _) rfl (hA9.is.keep (bal br _)) (by simp) (by rw[Qh];omega) (by simp) ?_;intro A7 c7 w10 o7 g7 b7)
        all_goals
         have B10:Below wr.heap.size wr w10:=(bal br _).trans b7;have hz10:=B10.size;obtain⟨b7',rfl,_,_⟩:=qdj o7 (by simp);have hzw:=hTy.size
         go_region_law (first
          |(refine qah rfl (.tmp 57) (.tmp 60) rfl w10.heap.size (some ⟨w10.heap.size,0,none⟩) [] 0 0 rfl (by simp[Act.eval]) (Vh _ _ (zlr _)) ⟨b5,0,none⟩ r c5 ((Vv left).take r) hl1.out (by simp[Act.eval]) (hS1.out.keep (B10.trans ((bal (zdr br) _).mono hz10))) (by simp) (by rw[hl1.out];omega) (by simp) ?_;intro A' c' w1' o1 g1 b1')
          |(refine qah rfl (.tmp 61) (.tmp 65) rfl w10.heap.size _ ((Vv left).take r) r _ hl1.out (by simp[Act.eval]) o1 A2 (j-r) (c5-(r+1)) ((Vv left).drop (r+1)) hl2.out (by simp[Act.eval]) (HS2.out.keep (B10.trans (((bal (zdr br) _).trans b1').mono hz10))) (by rw[hl1.out];omega) (by rw[hl2.out];omega) (by have:=b1'.size;simp at this;omega) ?_;intro A'' c'' w2' o2 g2 b2'))
         have H12:Below w10.heap.size w10 w2':=((bal (zdr br) _).trans b1').trans b2';have oL:OI w.heap.size w2' A'' c'' (Vv (left.eraseIdx r)):=by rw[hlen.out];exact Ql o2 (by omega)
         have oA:OI w.heap.size w2' (some ⟨b7',0,none⟩) c7 (Vv (x::acc)):=Ql (Q3 o7 H12) hzw;have HT:=Qa (Qa hTy B10) H12;clear o1 o2 o7 b1' b2' g1 g2 g7 b7 B10 H12;go_wp2_with fail;go_roundw
         case rel=>((repeat apply Exists.intro);exact⟨⟨j,A'',c'',left.eraseIdx r,x::acc,⟨b7',0,none⟩,c7,rfl,by rw[Yau,Nat.add_comm],by omega,hll,hst,hpe,oL,oA,HT⟩,rfl⟩)
         case measure=>exact Ybe j
       cases q with
       |zero=>
        rw[show(((0:Nat):Int)-1)= -1 from rfl]
        have hno:Ve l=none:=by
         rw[←ha.out];refine qw8 ?_;rw[hlm.out,htop.out];rfl
        have E1:Hid (qmd l=[]):=by simp[Hid,qmd,hno]
        have E2:Hid ((Ve l).isSome=false):=by simp[Hid,hno]
        clear hno;go_wp2_with fail;go_ret2;exact⟨_,0,by rw[E1.out,E2.out];rfl,by rw[E1.out];exact Vh wr _ hTy.size,bal hTy _⟩
       |succ r=>
        rw[show(((r+1:Nat):Int)-1)=(r:Int) by omega];have hK:=qo5 A' (qb5 l left) c' (r:Int) wr (hO8.ts.keep hby) (by rw[hpl.out];unfold maxLen;omega) (by rw[hpl.out];exact hsz8);rw[hpl.out,qni hvp.out (by rw[hpl.out];omega)] at hK;cases hlo:qez (qb5 l left) r with
        |false=>
         rw[hlo] at hK;have hmi:=zhi (qs9 hlo);clear hlo;go_wp2_with (go_at_call 146;refine hK.mono ?_;rintro e w9 ⟨rfl,b9⟩)
         go_roundw
         case rel=>exact⟨.inl ⟨r,rfl,by go_num,by omega,by rw[Hid,htop.out,hmi.out]⟩,Qa hby b9⟩
         case measure=>simp[intOf]
        |true=>
         rw[hlo] at hK;have hhi:=zhi (qw7 hlo);clear hlo;go_wp2_with (go_at_call 146;refine hK.mono ?_;rintro e w9 ⟨rfl,b9⟩)
         go_roundw
         case rel=>exact⟨.inr ⟨r,rfl,by go_num,by omega,by rw[Hid,htop.out,hhi.out]⟩,Qa hby b9⟩
         case measure=>simp[intOf]
end Go.Proofs.YtmkjmancmiphfaaGreatDoor
