/-
  The program's ParseTask at any text.
  The program's ParseSet at any text.
  ParseJobs of texts that FormatJobs has made; the word jobs.
-/
import Derived.Test.YtmkjmancmiphfaaGreatDoorRb41
namespace Go.Proofs.YtmkjmancmiphfaaGreatDoor
set_option maxHeartbeats 8000000
set_option maxRecDepth 1000000
open Go.RowKit
theorem qr7(s sep:List UInt8):(Lib.cut s sep).1.length≤s.length∧(Lib.cut s sep).2.1.length≤s.length:=by
 unfold Lib.cut;split
 ·simp;exact Nat.min_le_right _ _
 ·simp
theorem qnb(s:List UInt8)(hl:s.length≤1000000)(w:World)(hM:Mz w.heap.size w)(hN:tkO s=none):
  Calls Tryz.prog 131 #[.string ⟨s.toArray⟩] w fun e w'=>e=.returned (qmk none)∧Below w.heap.size w w':=by
 have HN:=zhi hN;obtain⟨a,b,f1,hC1⟩: ∃a b f1,Lib.cut s [32,101,118,101,114,121,32]=(a,b,f1):=⟨_,_,_,rfl⟩;obtain⟨a1,a2,f2,hC2⟩: ∃a1 a2 f2,Lib.cut a [47]=(a1,a2,f2):=⟨_,_,_,rfl⟩;obtain⟨b1',b2',f3,hC3⟩: ∃b1 b2 f3,Lib.cut b [32,98,121,32]=(b1,b2,f3):=⟨_,_,_,rfl⟩;have l1:=qr7 s [32,101,118,101,114,121,32];have l2:=qr7 a [47];have l3:=qr7 b [32,98,121,32];rw[hC1] at l1;rw[hC2] at l2;rw[hC3] at l3;dsimp only at l1 l2 l3;obtain⟨l11,l12⟩:=l1;obtain⟨l21,l22⟩:=l2;obtain⟨l31,l32⟩:=l3;have HC1:=zhi hC1;have HC2:=zhi hC2;have HC3:=zhi hC3;clear hC1 hC2 hC3 hN;go_enter Tryz.func131,Tryz.ntmps131;go_wp2_with fail;refine(qdn HC1.out (hM.mx.keep (bal br _)) (by omega)).mono ?_;rintro e w1 ⟨rfl,b1⟩;cases f1 with
 |false=>
  have B1:=qaa (bal (Below.refl w.heap.size w) _) b1;have r1:=(b1.block w.heap.size (by simp)).trans (zha w (.cells #[.int .i64 0,.int .i64 0,.int .i64 0,.int .i64 0,.bool false] 58 (0,0)));obtain⟨r0,r1,r2,r3,r4,rf⟩:=qaf r1;clear b1;go_wp2_with fail;refine bodyPost_ret (v:=qmk none) (by simp[results,Tryz.results131,go_sem,r0,r1,r2,r3,r4];rfl) rfl ⟨rfl,?_⟩;exact bst (bst (bst (bst (bst B1 (p:=⟨w.heap.size,0,none⟩) (zlr _) _) (p:=⟨w.heap.size,1,none⟩) (zlr _) _) (p:=⟨w.heap.size,2,none⟩) (zlr _) _) (p:=⟨w.heap.size,3,none⟩) (zlr _) _) (p:=⟨w.heap.size,4,none⟩) (zlr _) _
 |true=>
  have X:Bx w w1.heap.size (w1.alloc (.cells #[.int .i64 0,.int .i64 0,.int .i64 0,.int .i64 0,.bool false] 58 (0,0))) ⟨0,0,0,0,false⟩:=⟨zha _ _,(Below.heap_alloc w1 _ w.heap.size (zlt (by simp) b1.size)).trans ((b1.block w.heap.size (by simp)).trans (zha w _)),bal (qaa (bal br _) b1) _,zlt (by simp) b1.size⟩;clear b1;go_wp2_with fail;refine(qdn HC2.out (hM.mx.keep X.b) (by omega)).mono ?_;rintro e w2 ⟨rfl,b2⟩;replace X:=X.keep b2;clear b2;go_wp2_with fail;refine(qdn HC3.out (hM.mx.keep X.b) (by omega)).mono ?_;rintro e w3 ⟨rfl,b3⟩;replace X:=X.keep b3;clear b3;generalize w1.heap.size=g at X⊢;cases f2 with
  |true=>
   cases f3 with
   |true=>
    go_wp2_with fail;refine(qdi a1 (by omega) (hM.keep X.b)).mono ?_;rintro e w4 ⟨⟨lo,er4,rfl⟩,b4⟩;replace X:=X.keep b4;clear b4;obtain⟨t0,t1,t2,t3,t4,tf⟩:=qaf X.t;go_wp2_with fail;clear t0 t1 t2 t3 t4 tf;replace X:=X.st (t':=⟨lo,0,0,0,false⟩) 0 (.int .i64 lo) rfl;replace X:=X.st (t':=⟨lo,lo,0,0,false⟩) 1 (.int .i64 lo) rfl;refine(qdi a2 (by omega) (hM.keep X.b)).mono ?_;rintro e w5 ⟨⟨hi,er5,rfl⟩,b5⟩;replace X:=X.keep b5;clear b5;obtain⟨t0,t1,t2,t3,t4,tf⟩:=qaf X.t;go_wp2_with fail;clear t0 t1 t2 t3 t4 tf;replace X:=X.st (t':=⟨lo,hi,0,0,false⟩) 1 (.int .i64 hi) rfl;replace X:=X.st (t':=⟨lo,hi,0,0,true⟩) 4 (.bool true) rfl;refine(qdi b1' (by omega) (hM.keep X.b)).mono ?_;rintro e w6 ⟨⟨ev,er6,rfl⟩,b6⟩;replace X:=X.keep b6;clear b6;obtain⟨t0,t1,t2,t3,t4,tf⟩:=qaf X.t;go_wp2_with fail;clear t0 t1 t2 t3 t4 tf;replace X:=X.st (t':=⟨lo,hi,0,ev,true⟩) 3 (.int .i64 ev) rfl;replace X:=X.st (t':=⟨lo,hi,ev,ev,true⟩) 2 (.int .i64 ev) rfl;refine(qdi b2' (by omega) (hM.keep X.b)).mono ?_;rintro e w7 ⟨⟨du,er7,rfl⟩,b7⟩;replace X:=X.keep b7;clear b7;obtain⟨t0,t1,t2,t3,t4,tf⟩:=qaf X.t;go_wp2_with fail;clear t0 t1 t2 t3 t4 tf;replace X:=X.st (t':=⟨lo,hi,du,ev,true⟩) 2 (.int .i64 du) rfl;refine(qa8 ⟨lo,hi,du,ev,true⟩ _).mono ?_
    have HN2:Hid (vld ⟨lo,hi,du,ev,true⟩=true→qas ⟨lo,hi,du,ev,true⟩≠s):=by
     intro hv;rw[qcz hv];exact qi2 HN.out _ hv
    generalize(⟨lo,hi,du,ev,true⟩:Tk)=u at X HN2⊢;cases hv:vld u with
    |false=>
     rintro e w8 ⟨rfl,b8⟩;replace X:=X.keep b8;clear b8 hv;obtain⟨t0,t1,t2,t3,t4,tf⟩:=qaf X.t;obtain⟨r0,r1,r2,r3,r4,rf⟩:=qaf X.r;go_wp2_with fail;refine bodyPost_ret (v:=qmk none) (by simp[results,Tryz.results131,go_sem,r0,r1,r2,r3,r4];rfl) rfl ⟨rfl,?_⟩;exact bst (bst (bst (bst (bst X.b (p:=⟨w.heap.size,0,none⟩) (zlr _) _) (p:=⟨w.heap.size,1,none⟩) (zlr _) _) (p:=⟨w.heap.size,2,none⟩) (zlr _) _) (p:=⟨w.heap.size,3,none⟩) (zlr _) _) (p:=⟨w.heap.size,4,none⟩) (zlr _) _
    |true=>
     rintro e w8 ⟨rfl,b8⟩;replace X:=X.keep b8;have hF:=HN2.out hv;clear b8 hv;obtain⟨t0,t1,t2,t3,t4,tf⟩:=qaf X.t;go_wp2_with fail;clear t0 t1 t2 t3 t4 tf;refine(qbx u _).mono ?_;rintro e w9 ⟨rfl,b9⟩;have hq:(qas u==s)=false:=beq_eq_false_iff_ne.2 hF;generalize qas u=F at hq⊢;clear hF;replace X:=X.keep b9;clear b9;obtain⟨t0,t1,t2,t3,t4,tf⟩:=qaf X.t;obtain⟨r0,r1,r2,r3,r4,rf⟩:=qaf X.r;go_wp2_with fail;refine bodyPost_ret (v:=qmk none) (by simp[results,Tryz.results131,go_sem,r0,r1,r2,r3,r4];rfl) rfl ⟨rfl,?_⟩;exact bst (bst (bst (bst (bst X.b (p:=⟨w.heap.size,0,none⟩) (zlr _) _) (p:=⟨w.heap.size,1,none⟩) (zlr _) _) (p:=⟨w.heap.size,2,none⟩) (zlr _) _) (p:=⟨w.heap.size,3,none⟩) (zlr _) _) (p:=⟨w.heap.size,4,none⟩) (zlr _) _
   |false=>
    go_wp2_with fail;refine(qdi a1 (by omega) (hM.keep X.b)).mono ?_;rintro e w4 ⟨⟨lo,er4,rfl⟩,b4⟩;replace X:=X.keep b4;clear b4;obtain⟨t0,t1,t2,t3,t4,tf⟩:=qaf X.t;go_wp2_with fail;clear t0 t1 t2 t3 t4 tf;replace X:=X.st (t':=⟨lo,0,0,0,false⟩) 0 (.int .i64 lo) rfl;replace X:=X.st (t':=⟨lo,lo,0,0,false⟩) 1 (.int .i64 lo) rfl;refine(qdi a2 (by omega) (hM.keep X.b)).mono ?_;rintro e w5 ⟨⟨hi,er5,rfl⟩,b5⟩;replace X:=X.keep b5;clear b5;obtain⟨t0,t1,t2,t3,t4,tf⟩:=qaf X.t;go_wp2_with fail;clear t0 t1 t2 t3 t4 tf;replace X:=X.st (t':=⟨lo,hi,0,0,false⟩) 1 (.int .i64 hi) rfl;replace X:=X.st (t':=⟨lo,hi,0,0,true⟩) 4 (.bool true) rfl;refine(qdi b1' (by omega) (hM.keep X.b)).mono ?_;rintro e w6 ⟨⟨ev,er6,rfl⟩,b6⟩;replace X:=X.keep b6;clear b6;obtain⟨t0,t1,t2,t3,t4,tf⟩:=qaf X.t;go_wp2_with fail;clear t0 t1 t2 t3 t4 tf;replace X:=X.st (t':=⟨lo,hi,0,ev,true⟩) 3 (.int .i64 ev) rfl;replace X:=X.st (t':=⟨lo,hi,ev,ev,true⟩) 2 (.int .i64 ev) rfl;refine(qa8 ⟨lo,hi,ev,ev,true⟩ _).mono ?_
    have HN2:Hid (vld ⟨lo,hi,ev,ev,true⟩=true→qas ⟨lo,hi,ev,ev,true⟩≠s):=by
     intro hv;rw[qcz hv];exact qi2 HN.out _ hv
    generalize(⟨lo,hi,ev,ev,true⟩:Tk)=u at X HN2⊢;cases hv:vld u with
    |false=>
     rintro e w8 ⟨rfl,b8⟩;replace X:=X.keep b8;clear b8 hv;obtain⟨t0,t1,t2,t3,t4,tf⟩:=qaf X.t;obtain⟨r0,r1,r2,r3,r4,rf⟩:=qaf X.r;go_wp2_with fail;refine bodyPost_ret (v:=qmk none) (by simp[results,Tryz.results131,go_sem,r0,r1,r2,r3,r4];rfl) rfl ⟨rfl,?_⟩;exact bst (bst (bst (bst (bst X.b (p:=⟨w.heap.size,0,none⟩) (zlr _) _) (p:=⟨w.heap.size,1,none⟩) (zlr _) _) (p:=⟨w.heap.size,2,none⟩) (zlr _) _) (p:=⟨w.heap.size,3,none⟩) (zlr _) _) (p:=⟨w.heap.size,4,none⟩) (zlr _) _
    |true=>
     rintro e w8 ⟨rfl,b8⟩;replace X:=X.keep b8;have hF:=HN2.out hv;clear b8 hv;obtain⟨t0,t1,t2,t3,t4,tf⟩:=qaf X.t;go_wp2_with fail;clear t0 t1 t2 t3 t4 tf;refine(qbx u _).mono ?_;rintro e w9 ⟨rfl,b9⟩;have hq:(qas u==s)=false:=beq_eq_false_iff_ne.2 hF;generalize qas u=F at hq⊢;clear hF;replace X:=X.keep b9;clear b9;obtain⟨t0,t1,t2,t3,t4,tf⟩:=qaf X.t;obtain⟨r0,r1,r2,r3,r4,rf⟩:=qaf X.r;go_wp2_with fail;refine bodyPost_ret (v:=qmk none) (by simp[results,Tryz.results131,go_sem,r0,r1,r2,r3,r4];rfl) rfl ⟨rfl,?_⟩;exact bst (bst (bst (bst (bst X.b (p:=⟨w.heap.size,0,none⟩) (zlr _) _) (p:=⟨w.heap.size,1,none⟩) (zlr _) _) (p:=⟨w.heap.size,2,none⟩) (zlr _) _) (p:=⟨w.heap.size,3,none⟩) (zlr _) _) (p:=⟨w.heap.size,4,none⟩) (zlr _) _
  |false=>
   cases f3 with
   |true=>
    go_wp2_with fail;refine(qdi a1 (by omega) (hM.keep X.b)).mono ?_;rintro e w4 ⟨⟨lo,er4,rfl⟩,b4⟩;replace X:=X.keep b4;clear b4;obtain⟨t0,t1,t2,t3,t4,tf⟩:=qaf X.t;go_wp2_with fail;clear t0 t1 t2 t3 t4 tf;replace X:=X.st (t':=⟨lo,0,0,0,false⟩) 0 (.int .i64 lo) rfl;replace X:=X.st (t':=⟨lo,lo,0,0,false⟩) 1 (.int .i64 lo) rfl;replace X:=X.st (t':=⟨lo,lo,0,0,false⟩) 4 (.bool false) rfl;refine(qdi b1' (by omega) (hM.keep X.b)).mono ?_;rintro e w6 ⟨⟨ev,er6,rfl⟩,b6⟩;replace X:=X.keep b6;clear b6;obtain⟨t0,t1,t2,t3,t4,tf⟩:=qaf X.t;go_wp2_with fail;clear t0 t1 t2 t3 t4 tf;replace X:=X.st (t':=⟨lo,lo,0,ev,false⟩) 3 (.int .i64 ev) rfl;replace X:=X.st (t':=⟨lo,lo,ev,ev,false⟩) 2 (.int .i64 ev) rfl;refine(qdi b2' (by omega) (hM.keep X.b)).mono ?_;rintro e w7 ⟨⟨du,er7,rfl⟩,b7⟩;replace X:=X.keep b7;clear b7;obtain⟨t0,t1,t2,t3,t4,tf⟩:=qaf X.t;go_wp2_with fail;clear t0 t1 t2 t3 t4 tf;replace X:=X.st (t':=⟨lo,lo,du,ev,false⟩) 2 (.int .i64 du) rfl;refine(qa8 ⟨lo,lo,du,ev,false⟩ _).mono ?_
    have HN2:Hid (vld ⟨lo,lo,du,ev,false⟩=true→qas ⟨lo,lo,du,ev,false⟩≠s):=by
     intro hv;rw[qcz hv];exact qi2 HN.out _ hv
    generalize(⟨lo,lo,du,ev,false⟩:Tk)=u at X HN2⊢;cases hv:vld u with
    |false=>
     rintro e w8 ⟨rfl,b8⟩;replace X:=X.keep b8;clear b8 hv;obtain⟨t0,t1,t2,t3,t4,tf⟩:=qaf X.t;obtain⟨r0,r1,r2,r3,r4,rf⟩:=qaf X.r;go_wp2_with fail;refine bodyPost_ret (v:=qmk none) (by simp[results,Tryz.results131,go_sem,r0,r1,r2,r3,r4];rfl) rfl ⟨rfl,?_⟩;exact bst (bst (bst (bst (bst X.b (p:=⟨w.heap.size,0,none⟩) (zlr _) _) (p:=⟨w.heap.size,1,none⟩) (zlr _) _) (p:=⟨w.heap.size,2,none⟩) (zlr _) _) (p:=⟨w.heap.size,3,none⟩) (zlr _) _) (p:=⟨w.heap.size,4,none⟩) (zlr _) _
    |true=>
     rintro e w8 ⟨rfl,b8⟩;replace X:=X.keep b8;have hF:=HN2.out hv;clear b8 hv;obtain⟨t0,t1,t2,t3,t4,tf⟩:=qaf X.t;go_wp2_with fail;clear t0 t1 t2 t3 t4 tf;refine(qbx u _).mono ?_;rintro e w9 ⟨rfl,b9⟩;have hq:(qas u==s)=false:=beq_eq_false_iff_ne.2 hF;generalize qas u=F at hq⊢;clear hF;replace X:=X.keep b9;clear b9;obtain⟨t0,t1,t2,t3,t4,tf⟩:=qaf X.t;obtain⟨r0,r1,r2,r3,r4,rf⟩:=qaf X.r;go_wp2_with fail;refine bodyPost_ret (v:=qmk none) (by simp[results,Tryz.results131,go_sem,r0,r1,r2,r3,r4];rfl) rfl ⟨rfl,?_⟩;exact bst (bst (bst (bst (bst X.b (p:=⟨w.heap.size,0,none⟩) (zlr _) _) (p:=⟨w.heap.size,1,none⟩) (zlr _) _) (p:=⟨w.heap.size,2,none⟩) (zlr _) _) (p:=⟨w.heap.size,3,none⟩) (zlr _) _) (p:=⟨w.heap.size,4,none⟩) (zlr _) _
   |false=>
    go_wp2_with fail;refine(qdi a1 (by omega) (hM.keep X.b)).mono ?_;rintro e w4 ⟨⟨lo,er4,rfl⟩,b4⟩;replace X:=X.keep b4;clear b4;obtain⟨t0,t1,t2,t3,t4,tf⟩:=qaf X.t;go_wp2_with fail;clear t0 t1 t2 t3 t4 tf;replace X:=X.st (t':=⟨lo,0,0,0,false⟩) 0 (.int .i64 lo) rfl;replace X:=X.st (t':=⟨lo,lo,0,0,false⟩) 1 (.int .i64 lo) rfl;replace X:=X.st (t':=⟨lo,lo,0,0,false⟩) 4 (.bool false) rfl;refine(qdi b1' (by omega) (hM.keep X.b)).mono ?_;rintro e w6 ⟨⟨ev,er6,rfl⟩,b6⟩;replace X:=X.keep b6;clear b6;obtain⟨t0,t1,t2,t3,t4,tf⟩:=qaf X.t;go_wp2_with fail;clear t0 t1 t2 t3 t4 tf;replace X:=X.st (t':=⟨lo,lo,0,ev,false⟩) 3 (.int .i64 ev) rfl;replace X:=X.st (t':=⟨lo,lo,ev,ev,false⟩) 2 (.int .i64 ev) rfl;refine(qa8 ⟨lo,lo,ev,ev,false⟩ _).mono ?_
    have HN2:Hid (vld ⟨lo,lo,ev,ev,false⟩=true→qas ⟨lo,lo,ev,ev,false⟩≠s):=by
     intro hv;rw[qcz hv];exact qi2 HN.out _ hv
    generalize(⟨lo,lo,ev,ev,false⟩:Tk)=u at X HN2⊢;cases hv:vld u with
    |false=>
     rintro e w8 ⟨rfl,b8⟩;replace X:=X.keep b8;clear b8 hv;obtain⟨t0,t1,t2,t3,t4,tf⟩:=qaf X.t;obtain⟨r0,r1,r2,r3,r4,rf⟩:=qaf X.r;go_wp2_with fail;refine bodyPost_ret (v:=qmk none) (by simp[results,Tryz.results131,go_sem,r0,r1,r2,r3,r4];rfl) rfl ⟨rfl,?_⟩;exact bst (bst (bst (bst (bst X.b (p:=⟨w.heap.size,0,none⟩) (zlr _) _) (p:=⟨w.heap.size,1,none⟩) (zlr _) _) (p:=⟨w.heap.size,2,none⟩) (zlr _) _) (p:=⟨w.heap.size,3,none⟩) (zlr _) _) (p:=⟨w.heap.size,4,none⟩) (zlr _) _
    |true=>
     rintro e w8 ⟨rfl,b8⟩;replace X:=X.keep b8;have hF:=HN2.out hv;clear b8 hv;obtain⟨t0,t1,t2,t3,t4,tf⟩:=qaf X.t;go_wp2_with fail;clear t0 t1 t2 t3 t4 tf;refine(qbx u _).mono ?_;rintro e w9 ⟨rfl,b9⟩;have hq:(qas u==s)=false:=beq_eq_false_iff_ne.2 hF;generalize qas u=F at hq⊢;clear hF;replace X:=X.keep b9;clear b9;obtain⟨t0,t1,t2,t3,t4,tf⟩:=qaf X.t;obtain⟨r0,r1,r2,r3,r4,rf⟩:=qaf X.r;go_wp2_with fail;refine bodyPost_ret (v:=qmk none) (by simp[results,Tryz.results131,go_sem,r0,r1,r2,r3,r4];rfl) rfl ⟨rfl,?_⟩;exact bst (bst (bst (bst (bst X.b (p:=⟨w.heap.size,0,none⟩) (zlr _) _) (p:=⟨w.heap.size,1,none⟩) (zlr _) _) (p:=⟨w.heap.size,2,none⟩) (zlr _) _) (p:=⟨w.heap.size,3,none⟩) (zlr _) _) (p:=⟨w.heap.size,4,none⟩) (zlr _) _
theorem qfc(s:List UInt8)(hl:s.length≤1000000)(w:World)(hM:Mz w.heap.size w):
  Calls Tryz.prog 131 #[.string ⟨s.toArray⟩] w fun e w'=>e=.returned (qmk (tkO s))∧Below w.heap.size w w':=by
 cases h:tkO s with
 |none=>exact qnb s hl w hM h
 |some t=>
  obtain⟨hv,hs⟩:=qi1 h;rw[←hs];exact qqh t hv w hM.mx
theorem q24(sep:List UInt8)(r:List (List UInt8))(x:List UInt8)(hx:x∈r):x.length≤(Lib.joinTail sep r).length:=by
 unfold Lib.joinTail;induction r with
 |nil=>cases hx
 |cons a r ih=>
  simp only[List.map_cons,List.flatten_cons,List.length_append] at ih⊢;rcases List.mem_cons.1 hx with rfl|hx
  ·omega
  ·have:=ih hx;omega
theorem qnc(c:UInt8)(sep s:List UInt8): ∀x∈qar (c::sep) s,x.length≤s.length:=by
 intro x hx;have hb:=qfk c sep _ s (zlr _);generalize qar (c::sep) s=ps at hx hb;cases ps with
 |nil=>cases hx
 |cons a r=>
  rw[←hb,Lib.join_cons,List.length_append];rcases List.mem_cons.1 hx with rfl|hx
  ·omega
  ·have:=q24 (c::sep) r x hx;omega
theorem q49{s:List UInt8}{l:List Tk}(h0:s≠[])(hl:(qar [59,32] s).length≤5)(h:qlk tkO (qar [59,32] s)=some l):qjb s=some l:=by
 unfold qjb;rw[if_neg h0,if_pos hl];exact h
theorem q5a{s:List UInt8}(h0:s≠[])(h:qlk tkO (qar [59,32] s)=none):qjb s=none:=by
 unfold qjb;rw[if_neg h0,h];split<;>rfl
theorem qku(s:List UInt8)(hl:s.length≤1000000)(w:World)(hM:Mz w.heap.size w):
  Calls Tryz.prog 130 #[.string ⟨s.toArray⟩] w (q6u w (qjb s)):=by
 by_cases h0:s=[]
 ·subst h0;have HS:Hid (qjb []=some []):=rfl;go_enter Tryz.func130,Tryz.ntmps130;go_wp2_with fail;go_ret2;rw[HS.out];exact⟨_,0,rfl,qa7 w _ (zlr _),bal br _⟩
 have hFn:s.isEmpty=false:=by simpa using h0
 have hle:=qnc 59 [32] s;have HN:=zhi (q5a (s:=s) h0)
 have HN5:Hid (¬(qar [59,32] s).length≤5→qjb s=none):=by
  intro h;unfold qjb;rw[if_neg h0,if_neg h]
 have HE:=zhi (fun l=>q49 (s:=s) (l:=l) h0)
 have hlen:(qar [59,32] s).length≤s.length+1:=by
  rw[qim [59,32] s (by simp)];have h1:=Go.Lib.countB_le ⟨[59,32].toArray⟩ (by rw[Go.Lib.size_eq];simp) _ ⟨s.toArray⟩ (zlr _);rw[Go.Lib.size_eq] at h1;exact Nat.succ_le_succ h1
 obtain⟨ps,hps⟩: ∃ps,qar [59,32] s=ps:=⟨_,rfl⟩;rw[hps] at hle HN HN5 HE hlen;have HP:=zhi hps;clear h0 hps;go_enter Tryz.func130,Tryz.ntmps130;go_wp2_with fail;refine(qog s 59 [32] _ HP.out (hM.mx.keep (bal br _)) (by omega)).mono ?_;rintro e w1 ⟨rfl,rfl⟩;have hP0:=zha (w.alloc (.cells #[] 58)) (.cells (ps.map (fun x=>Value.string ⟨x.toArray⟩)).toArray 9 (0,0));have hsz0:(w.alloc (.cells #[] 58)).heap.size=w.heap.size+1:=by simp
 go_wp2_with fail;go_loopg [4,16] ps.length (fun gg v i wr=> ∃(k:Nat) (bo c':Nat) (ts:List Tk),gg+k=ps.length∧i=.int .i64 (k:Int)∧v=.slice (some ⟨bo,0,none⟩) k c'∧k≤5∧OT w.heap.size wr (some ⟨bo,0,none⟩) c' ts∧Hid (ts.length=k)∧Hid (qlk tkO (ps.take k)=some ts)∧Hid (wr.heap[w.heap.size+1]? =some (.cells (ps.map (fun x=>Value.string ⟨x.toArray⟩)).toArray 9 (0,0)))∧Below w.heap.size w wr)
 case atStart=>exact⟨0,_,0,[],by omega,rfl,rfl,by omega,qbf (qa7 w _ (zlr _)) _,rfl,rfl,by rw[hsz0] at hP0;simpa [Hid] using hP0,bal (bal br _) _⟩
 case round=>
  obtain⟨k,bo,c',ts,hgk,rfl,rfl,hk5,hO,hTl,hI,hP,hb⟩:=hrel;clear hP0 hsz0;by_cases hlt:k<ps.length
  ·have hx:=qof hP.out k hlt;have hkI:(k:Int)<(ps.length:Int):=by omega
   have hxl:=hle ps[k] (List.getElem_mem hlt);have HA:=zhi (fun h=>q2q (f:=tkO) hlt h);have HB:=zhi (fun a=>qu8 (f:=tkO) (a:=a) hlt hI.out);generalize ps[k]=x at hx hxl HA HB;have hPT:=qfc x (by omega) wr ((hM.keep hb).up hb.size);cases hj:tkO x with
   |none=>
    have HF:=zhi (HN.out (HA.out hj));rw[hj,show qmk (none:Option Tk)=.tuple #[.agg #[.int .i64 0,.int .i64 0,.int .i64 0,.int .i64 0,.bool false],.bool false] from rfl] at hPT;clear hj;go_wp2_with fail;refine hPT.mono ?_;rintro e w2 ⟨rfl,b2⟩;clear hPT;have B2:=bal (qaa hb b2) (.cells #[.int .i64 0,.int .i64 0,.int .i64 0,.int .i64 0,.bool false] 58 (0,0));go_upto_region 8 with fail;generalize World.alloc w2 _=w3 at B2⊢;go_wp2_with fail;go_ret2;exact qhy w HF.out (qhn _ _) B2
   |some t=>
    have HD:=zhi (HB.out t hj);rw[hj,show qmk (some t)=.tuple #[.agg #[.int .i64 t.low,.int .i64 t.high,.int .i64 t.due,.int .i64 t.every,.bool t.crit],.bool true] from rfl] at hPT;clear hj;by_cases h5:k=5
    ·have HF:=zhi (HN5.out (by omega));subst h5;clear HA HB;go_wp2_with fail;refine hPT.mono ?_;rintro e w2 ⟨rfl,b2⟩;clear hPT;have B2:=bal (qaa hb b2) (.cells #[.int .i64 t.low,.int .i64 t.high,.int .i64 t.due,.int .i64 t.every,.bool t.crit] 58 (0,0));go_upto_region 8 with fail;generalize World.alloc w2 _=w3 at B2⊢;go_wp2_with fail;go_ret2;exact qhy w HF.out (qhn _ _) B2
    ·have e5:((k:Int)==5)=false:=beq_eq_false_iff_ne.2 (by omega);have hk4:k≤4:=by omega
     have HTk:=zhi hTl.out;clear h5;go_wp2_with fail;refine hPT.mono ?_;rintro e w2 ⟨rfl,b2⟩;have hO2:=qa3 hO b2;have B2:=qaa hb b2;have hP2:=zhi (bh b2 hP.out);clear hO hP hx hPT HN HN5 HE HA HB hI hTl;have hT0:=zha w2 (.cells #[.int .i64 t.low,.int .i64 t.high,.int .i64 t.due,.int .i64 t.every,.bool t.crit] 58 (0,0));have hB0:=bal (Below.refl w2.heap.size w2) (.cells #[.int .i64 t.low,.int .i64 t.high,.int .i64 t.due,.int .i64 t.every,.bool t.crit] 58 (0,0));go_upto_region 10 with fail;generalize World.alloc w2 _=w2b at hT0 hB0⊢;have HT0:w2b.heap[w2.heap.size]? =some (.cells #[.int .i64 t.low,.int .i64 t.high,.int .i64 t.due,.int .i64 t.every,.bool t.crit] 58 (0,0)):=hT0;obtain⟨t0,t1,t2,t3,t4,tf⟩:=qaf HT0;have hO2b:=qa3 hO2 hB0;have B2b:=qaa B2 hB0;have hP2b:=zhi (bh hB0 hP2.out);clear hT0 HT0 hB0 hO2 hP2;go_wp2_with (at_builtin;go_loud (refine qn1 _ rfl _ _ rfl w.heap.size (some ⟨bo,0,none⟩) ts k c' HTk.out rfl (qbf hO2b _) w2b.heap.size 1 t _ 58 rfl (zha w2b _) rfl (by rw[HTk.out];omega) (by have:=B2b.size;simp;omega) ?_);intro A3 c3 w3 o3 g3 b3)
     have hP3:=zhi (qoh ((Below.heap_alloc w2b (.cells #[.int .i64 t.low,.int .i64 t.high,.int .i64 t.due,.int .i64 t.every,.bool t.crit] 58 (0,0)) _ (Array.getElem?_eq_some_iff.1 hP2b.out).1).trans hP2b.out) g3 (qyl (qbf hO2b (.cells #[.int .i64 t.low,.int .i64 t.high,.int .i64 t.due,.int .i64 t.every,.bool t.crit] 58 (0,0))) ((Below.heap_alloc w2b (.cells #[.int .i64 t.low,.int .i64 t.high,.int .i64 t.due,.int .i64 t.every,.bool t.crit] 58 (0,0)) _ (Array.getElem?_eq_some_iff.1 hP2b.out).1).trans hP2b.out) (by decide)));obtain⟨b4,rfl,_,_⟩:=qf8 o3 (by simp);go_roundg (gk-1)
     case measure=>omega
     case rel=>exact⟨k+1,b4,c3,ts++[t],by omega,by go_num,rfl,by omega,o3,by rw[Hid,List.length_append,HTk.out];rfl,HD,hP3,(bal B2b _).trans b3⟩
  ·obtain rfl:k=ps.length:=by omega
   have hI2:=hI.out;rw[List.take_length] at hI2;have HJ:=zhi (HE.out ts hk5 hI2);have HT2:=zhi hTl.out;clear hI hI2 HE HN HN5 hTl;go_wp2_with fail;go_ret2;rw[HJ.out];refine⟨some ⟨bo,0,none⟩,c',?_,hO,hb⟩;rw[←HT2.out];rfl
structure Bj (w:World) (g:Nat) (wx:World) (t:Jb):Prop where
 t:wx.heap[g]? =some (.cells #[.int .i64 t.task,.int .i64 t.at_,.int .i64 t.need] 60 (0,0))
 b:Below w.heap.size w wx
 lt:w.heap.size≤g
theorem Bj.keep{w wx wy:World}{g:Nat}{t:Jb}(h:Bj w g wx t)(hb:Below wx.heap.size wx wy):Bj w g wy t:=
 ⟨bh hb h.t,qaa h.b hb,h.lt⟩
theorem Bj.st{w wx:World}{g:Nat}{t t':Jb}(h:Bj w g wx t)(i:Nat)(v:Value)(e:(#[.int .i64 t.task,.int .i64 t.at_,.int .i64 t.need]:Array Value).setIfInBounds i v= #[.int .i64 t'.task,.int .i64 t'.at_,.int .i64 t'.need]):Bj w g (wx.setCell ⟨g,i,none⟩ v) t':=
 ⟨by rw[qc5 h.t v,e],h.b.setCell (p:=⟨g,i,none⟩) h.lt v,h.lt⟩
theorem Bj.cells{w wx:World}{g:Nat}{t:Jb}(h:Bj w g wx t):wx.cell? ⟨g,0,none⟩=some (.int .i64 t.task)∧wx.cell? ⟨g,1,none⟩=some (.int .i64 t.at_)∧wx.cell? ⟨g,2,none⟩=some (.int .i64 t.need)∧ ∀i,wx.frozen? ⟨g,i,none⟩=false:=
 ⟨(qmi h.t).1,(qmi h.t).2.1,(qmi h.t).2.2,fun i=>zfz h.t i⟩
theorem qqy(js:List Jb)(ht:qe0 js=true)(w:World)(hM:Mx w.heap.size w):
  Calls Tryz.prog 133 #[.string ⟨(qbc js).toArray⟩] w (q3l w js true):=by
 obtain⟨hl60,hall⟩:=qfv ht;have hf:qbc js=qhe js:=by simp[qbc,ht]
 have hsl:=qgv js;have HFm:=zhi hf;have HT:=zhi ht;rw[hf] at hsl⊢;clear ht;by_cases h0:js=[]
 ·subst h0;go_enter Tryz.func133,Tryz.ntmps133;go_wp2_with fail;go_ret2;exact⟨_,0,rfl,qei w _ (zlr _),bal br _⟩
 ·have hp:=qns h0;have hne:=qyk h0;obtain⟨F,hF⟩: ∃F,qhe js=F:=⟨_,rfl⟩;rw[hF] at hp hne hsl hf⊢;have HFm:=zhi hf;have hFn:F.isEmpty=false:=by simpa using hne
  have HA:=zhi hall;clear hall hF hf hne;go_enter Tryz.func133,Tryz.ntmps133;go_wp2_with fail;refine(qog F 32 [] _ hp (hM.keep (bal br _)) (by omega)).mono ?_;rintro e w1 ⟨rfl,rfl⟩;rw[List.length_map];have hP0:=zha (w.alloc (.cells #[] 60)) (.cells ((js.map qgu).map (fun x=>Value.string ⟨x.toArray⟩)).toArray 9 (0,0));have hsz0:(w.alloc (.cells #[] 60)).heap.size=w.heap.size+1:=by simp
  go_wp2_with fail;go_loopw [4,21] (fun v i wr=> ∃(k bo c':Nat),i=.int .i64 (k:Int)∧v=.slice (some ⟨bo,0,none⟩) k c'∧k≤js.length∧OJ w.heap.size wr (some ⟨bo,0,none⟩) c' (js.take k)∧Hid (wr.heap[w.heap.size+1]? =some (.cells ((js.map qgu).map (fun x=>Value.string ⟨x.toArray⟩)).toArray 9 (0,0)))∧Below w.heap.size w wr) (fun _ i _=>js.length-(intOf i).toNat)
  case atStart=>exact⟨0,_,0,rfl,rfl,by omega,qcn (qei w _ (zlr _)) _,by rw[hsz0] at hP0;simpa [Hid] using hP0,bal (bal br _) _⟩
  case round=>
   obtain⟨k,bo,c',rfl,rfl,hk,hO,hP,hb⟩:=hrel;clear hP0;by_cases hlt:k<js.length
   ·have hx:=qof hP.out k (by simpa using hlt);have hvt:=HA.out js[k] (List.getElem_mem hlt);simp only[List.getElem_map] at hx;have hnx0:js.take k++[js[k]]=js.take (k+1):=by rw[List.take_succ_eq_append_getElem hlt]
    generalize js[k]=t at hx hvt hnx0;have hnx:=zhi hnx0;have hkl:Hid ((js.take k).length=k):=by rw[Hid,List.length_take];omega
    have hC1:=qst t;have hC2:=qo4 t;have hL:=qyj hvt;rw[qda] at hvt;obtain⟨q,a,n⟩:=t;dsimp only at*
    have hL2:(num a++(58::[])++num n).length≤100:=by
     have h2:=qap a (by omega);have h3:=qap n (by omega);simp;omega
    generalize num a++(58::[])++num n=R at hC1 hC2 hL2;generalize qgu ⟨q,a,n⟩=X at hx hC1 hL;have HC1:=zhi hC1;have HC2:=zhi hC2;clear hnx0 hC1 hC2;go_wp2_with fail;refine(qdn HC1.out ((hM.keep hb).up hb.size) (by omega)).mono ?_;rintro e w2 ⟨rfl,b2⟩;go_wp2_with fail;refine(qdn HC2.out ((hM.keep (qaa hb b2)).up (qaa hb b2).size) (by omega)).mono ?_;rintro e w3 ⟨rfl,b3⟩;have hO3:=qe4 hO (qaa b2 b3);have B3:=qaa hb (qaa b2 b3);have hP3:=zhi (((qaa b2 b3).block _ (Array.getElem?_eq_some_iff.1 hP.out).1).trans hP.out);clear hO hP hx b2 b3;have X:Bj w3 w3.heap.size (w3.alloc (.cells #[.int .i64 0,.int .i64 0,.int .i64 0] 60 (0,0))) ⟨0,0,0⟩:=⟨zha _ _,bal br _,zlr _⟩;go_upto_region 10 with fail;generalize w3.heap.size=g at X⊢;generalize World.alloc w3 _=v0 at X⊢;go_wp2_with fail;refine(qet q (by omega) (by omega) _).mono ?_;rintro e v1 ⟨rfl,bv1⟩;replace X:=X.keep bv1;clear bv1;obtain⟨t0,t1,t2,tf⟩:=X.cells;go_upto_region 11 with fail;replace X:=X.st (t':=⟨q,0,0⟩) 0 (.int .i64 q) rfl;clear t0 t1 t2 tf;generalize World.setCell v1 _ _=v2 at X⊢;go_wp2_with fail;refine(qet a (by omega) (by omega) _).mono ?_;rintro e v3 ⟨rfl,bv3⟩;replace X:=X.keep bv3;clear bv3;obtain⟨t0,t1,t2,tf⟩:=X.cells;go_upto_region 12 with fail;replace X:=X.st (t':=⟨q,a,0⟩) 1 (.int .i64 a) rfl;clear t0 t1 t2 tf;generalize World.setCell v3 _ _=v4 at X⊢;go_wp2_with fail;refine(qet n (by omega) (by omega) _).mono ?_;rintro e v5 ⟨rfl,bv5⟩;replace X:=X.keep bv5;clear bv5;obtain⟨t0,t1,t2,tf⟩:=X.cells;go_upto_region 13 with fail;replace X:=X.st (t':=⟨q,a,n⟩) 2 (.int .i64 n) rfl;clear t0 t1 t2 tf;generalize World.setCell v5 _ _=v6 at X⊢;obtain⟨t0,t1,t2,tf⟩:=X.cells;have hO4:=qe4 hO3 X.b;have B4:=qaa B3 X.b;have hP4:=zhi (bh X.b hP3.out);clear hO3 hP3;go_wp2_with (at_builtin;go_loud (refine qcy _ rfl _ _ rfl w.heap.size (some ⟨bo,0,none⟩) (js.take k) k c' hkl.out rfl (qcn hO4 _) v6.heap.size 1 ⟨q,a,n⟩ _ 60 rfl (zha v6 _) rfl (by rw[hkl.out];omega) (by have:=B4.size;simp;omega) ?_);intro A3 c3 w9 o3 g3 b3)
    have hP9:=zhi (qoh ((Below.heap_alloc v6 (.cells #[.int .i64 q,.int .i64 a,.int .i64 n] 60 (0,0)) _ (Array.getElem?_eq_some_iff.1 hP4.out).1).trans hP4.out) g3 (qyl (qcn hO4 _) ((Below.heap_alloc v6 (.cells #[.int .i64 q,.int .i64 a,.int .i64 n] 60 (0,0)) _ (Array.getElem?_eq_some_iff.1 hP4.out).1).trans hP4.out) (by decide)));obtain⟨b4,rfl,_,_⟩:=qml o3 (by simp);rw[hnx.out] at o3;go_roundw
    case rel=>exact⟨k+1,b4,c3,by go_num,rfl,by omega,o3,hP9,(bal B4 _).trans b3⟩
    case measure=>simp[intOf];omega
   ·obtain rfl:k=js.length:=by omega
    rw[List.take_length] at hO;go_wp2_with fail;refine(qhg (some ⟨bo,0,none⟩) js c' _ hO.js HT.out (hM.keep hb) hb.size).mono ?_;rw[HFm.out];rintro e w8 ⟨rfl,b8⟩;go_wp2_with fail;go_ret2;exact⟨_,c',rfl,qe4 hO b8,qaa hb b8⟩
end Go.Proofs.YtmkjmancmiphfaaGreatDoor
