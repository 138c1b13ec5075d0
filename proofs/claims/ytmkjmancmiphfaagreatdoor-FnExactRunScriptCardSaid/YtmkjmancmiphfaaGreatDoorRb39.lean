/-
  Words of the reference with a number: run, rule, worst, high, pack.
  The reference's words with a number or a text, whatever they are.
  Words of the reference without a rest: one without a rest that is none.
  PackAny: the program's.
-/
import Derived.Test.YtmkjmancmiphfaaGreatDoorRb35
import Derived.Test.YtmkjmancmiphfaaGreatDoorRb38
namespace Go.Proofs.YtmkjmancmiphfaaGreatDoor
set_option maxHeartbeats 8000000
set_option maxRecDepth 1000000
open Go.RowKit
def q5r(s:Ss)(n:Int):Ss×List UInt8:=(s,if qsl s.l s.js s.pol n then q1b s.l s.js s.pol n.toNat else qef)
theorem qvd(s:Ss)(A:ZA)(c:Nat)(J:ZA)(d:Nat)(n:Int)(w:World)(h:TS w A s.l)(g:JS w J s.js)(hlm:s.l.length≤5)(hjm:s.js.length≤60)(hp:s.pol=0∨s.pol=1):
  Calls Tryz.prog 158 #[ssV A s.l.length c J s.js.length d s.pol,.int .i64 n] w fun e w'=>e=.returned (.string ⟨(q5r s n).2.toArray⟩)∧Below w.heap.size w w':=by
 unfold q5r;cases hr:qsl s.l s.js s.pol n with
 |false=>exact qqk s.pol n hr A c J d w h g (by unfold maxLen;omega) (by unfold maxLen;omega)
 |true=>
  have h1:=hr;simp only[qsl,Bool.and_eq_true,decide_eq_true_eq] at h1;have hn:((n.toNat:Nat):Int)=n:=by omega
  have K:=qo8 h1.1.1.1 s.pol hp (qva h1.1.1.2) n.toNat (by omega) A c J d w h g;rw[hn] at K;exact K
theorem qve(s:Ss)(A:ZA)(c:Nat)(J:ZA)(d:Nat)(n:Int)(w:World)(h:TS w A s.l)(g:JS w J s.js)(hA:(A=none→c=0)∧s.l.length≤c)(hlm:s.l.length≤5)(hjm:s.js.length≤60)(hp:s.pol=0∨s.pol=1):
  Calls Tryz.prog 97 #[ssV A s.l.length c J s.js.length d s.pol,.string ⟨([114,117,110]:List UInt8).toArray⟩,.int .i64 n] w (qdd (q5r s n) w):=by
 have KR:=fun w h g=>qvd s A c J d n w h g hlm hjm hp
 have HE0:Hid (q5r s n=(s,(q5r s n).2)):=rfl;obtain⟨X,hX⟩: ∃X,(q5r s n).2=X:=⟨_,rfl⟩;rw[hX] at KR HE0;have HE:=HE0;clear hX HE0;have HA:=zhi hA;clear hA;obtain⟨gb,r,hgb,hrE,hr0,hg1,B0,hgw,hgw0,hgr⟩:=qo7 w (ssC A s.l.length c J s.js.length d s.pol) (ssC none 0 0 none 0 0 0);go_enter Tryz.func97,Tryz.ntmps97;go_upto_region 1 with fail;generalize World.alloc (World.alloc w _) _=w0 at hr0 hg1 B0⊢;try simp only[hgb,hrE]
 clear hgb hrE;obtain⟨x0,x1,x2⟩:=qab hg1;go_upto_region 9 with fail;clear x0 x1 x2;refine wp_region_held (S:=fun w'=>w'.heap[gb]? =some (ssC A s.l.length c J s.js.length d s.pol)) (by kernel_rfl) ?_;change wpAnyH _ _ _ _ _ _ _ _ (World.drew _);have K0:Below w.heap.size w (World.drew w0):=zdr B0;have hS0:(World.drew w0).heap[gb]? =some (ssC A s.l.length c J s.js.length d s.pol):=hg1;have hR0:(World.drew w0).heap[r]? =some (ssC none 0 0 none 0 0 0):=hr0;generalize World.drew w0=v0 at K0 hS0 hR0⊢;refine tq 0 51 (ssV A s.l.length c J s.js.length d s.pol) rfl (fun w hS=>by obtain⟨x0,x1,x2⟩:=qab hS;go_simp) hS0 ?_;refine tq 1 52 (ssV A s.l.length c J s.js.length d s.pol) rfl (fun w hS=>by obtain⟨x0,x1,x2⟩:=qab hS;go_simp) hS0 ?_;refine tq 2 53 (.int .i64 n) rfl (fun _ _=>rfl) hS0 ?_;refine tw 3 ?_;refine co 3 54 rfl 158 Tryz.func158 #[ssV A s.l.length c J s.js.length d s.pol,.int .i64 n] (KR _ (h.keep K0) (g.keep K0)) ?_;rintro e v1 ⟨rfl,bz1⟩;have K1:=qaa K0 bz1;have hS1:=bh bz1 hS0;have hR1:=bh bz1 hR0;refine⟨_,rfl,hS1,?_⟩;simp only[lsS,lsZ];refine tw 4 ?_;refine qbp 4 rfl (by rfl) ?_;intro K hK;obtain⟨z0,z1,z2⟩:=qab hR1;have zf:=fun i=>zfz hR1 i
 have BF:=bst (bst (bst K1 (p:=⟨r,0,none⟩) hgw (.slice A s.l.length c)) (p:=⟨r,1,none⟩) hgw (.slice J s.js.length d)) (p:=⟨r,2,none⟩) hgw (.int .i64 s.pol);have hS9:=hS1;rw[←heap_setCell_other _ ⟨r,0,none⟩ gb (.slice A s.l.length c) hgr,←heap_setCell_other _ ⟨r,1,none⟩ gb (.slice J s.js.length d) hgr,←heap_setCell_other _ ⟨r,2,none⟩ gb (.int .i64 s.pol) hgr] at hS9;go_simp
 refine hK _ hS9 ?_;clear hK;refine tq 5 7 (.string ⟨(X).toArray⟩) rfl (fun _ _=>rfl) hS9 ?_;refine wpAnyH_done (by kernel_rfl) ?_ _;have hF:=h.keep BF;have gF:=g.keep BF;go_wp2_with fail;refine bodyPost_ret (v:=.tuple #[ssV A s.l.length c J s.js.length d s.pol,.string ⟨(X).toArray⟩]) (by simp[results,Tryz.results97,go_sem,z0,z1,z2]) rfl (by rw[HE.out];exact⟨A,c,J,d,rfl,HA.out,hF,gF,BF⟩)
def qzx(s:Ss)(n:Int):Ss×List UInt8:=qqm s (qcj s.l n false)
theorem qs7(s:Ss)(A:ZA)(c:Nat)(J:ZA)(d:Nat)(n:Int)(w:World)(h:TS w A s.l)(g:JS w J s.js)(hA:(A=none→c=0)∧s.l.length≤c)(hlm:s.l.length≤5):
  Calls Tryz.prog 97 #[ssV A s.l.length c J s.js.length d s.pol,.string ⟨([114,117,108,101]:List UInt8).toArray⟩,.int .i64 n] w (qdd (qzx s n) w):=by
 have HA:=zhi hA;clear hA;obtain⟨gb,r,hgb,hrE,hr0,hg1,B0,hgw,hgw0,hgr⟩:=qo7 w (ssC A s.l.length c J s.js.length d s.pol) (ssC none 0 0 none 0 0 0);go_enter Tryz.func97,Tryz.ntmps97;go_upto_region 1 with fail;generalize World.alloc (World.alloc w _) _=w0 at hr0 hg1 B0⊢;try simp only[hgb,hrE]
 clear hgb hrE;obtain⟨x0,x1,x2⟩:=qab hg1;have K:Calls Tryz.prog _ _ w0 _:=qkp A s.l c n false w0 (h.keep B0) (by unfold maxLen;omega);cases ho:qcj s.l n false with
 |none=>
  have HE:Hid (qzx s n=(s,qef)):=by simp[Hid,qzx,ho,qqm]
  have e1:(qcj s.l n false).isSome=false:=by simp[ho]
  rw[e1] at K;go_wp2_with fail;refine K.mono ?_;rintro e w3 ⟨A3,c3,rfl,o3,b3⟩;clear ho K e1;have rM:=bh b3 hr0;have gM:=bh b3 hg1;have B2:=qaa B0 b3;clear x0 x1 x2;obtain⟨x0,x1,x2⟩:=qab gM;obtain⟨z0,z1,z2⟩:=qab rM;have zf:=fun i=>zfz rM i
  have BF:=bst (bst (bst B2 (p:=⟨r,0,none⟩) hgw (.slice A s.l.length c)) (p:=⟨r,1,none⟩) hgw (.slice J s.js.length d)) (p:=⟨r,2,none⟩) hgw (.int .i64 s.pol);have hF:=h.keep BF;have gF:=g.keep BF;go_wp2_with fail;refine bodyPost_ret (v:=.tuple #[ssV A s.l.length c J s.js.length d s.pol,.string ⟨(qef).toArray⟩]) (by simp[results,Tryz.results97,go_sem,z0,z1,z2];rfl) rfl (by rw[HE.out];exact⟨A,c,J,d,rfl,HA.out,hF,gF,BF⟩)
 |some js=>
  have HE:Hid (qzx s n=(⟨s.l,js,s.pol⟩,okT)):=by simp[Hid,qzx,ho,qqm]
  have e1:(qcj s.l n false).isSome=true:=by simp[ho]
  have e2:qd8 s.l n false=js:=by simp[qd8,ho]
  rw[e1,e2] at K;go_wp2_with fail;refine K.mono ?_;rintro e w3 ⟨A3,c3,rfl,o3,b3⟩;clear ho K e1 e2;have rM:=bh b3 hr0;have gM:=bh b3 hg1;have B2:=qaa B0 b3;clear x0 x1 x2;obtain⟨x0,x1,x2⟩:=qab gM;have xf:=fun i=>zfz gM i
  have gS:(w3.setCell ⟨gb,1,none⟩ (.slice A3 js.length c3)).heap[gb]? =some (ssC A s.l.length c A3 js.length c3 s.pol):=qc5 gM (i:=1) _;have rS:(w3.setCell ⟨gb,1,none⟩ (.slice A3 js.length c3)).heap[r]? =some (ssC none 0 0 none 0 0 0):=by rw[heap_setCell_other _ _ _ _ hgr.symm];exact rM
  have BS:=bst B2 (p:=⟨gb,1,none⟩) hgw0 (.slice A3 js.length c3);have hr1:=(bl hr0);have hg1':=(bl hg1)
  have OS3:=qxg o3 (w':=(((w3.setCell ⟨gb,1,none⟩ (.slice A3 js.length c3)).setCell ⟨r,0,none⟩ (.slice A s.l.length c)).setCell ⟨r,1,none⟩ (.slice A3 js.length c3)).setCell ⟨r,2,none⟩ (.int .i64 s.pol)) (by simp) (by
   intro b hb;rw[heap_setCell_other _ _ _ _ (by show b≠r;omega),heap_setCell_other _ _ _ _ (by show b≠r;omega),heap_setCell_other _ _ _ _ (by show b≠r;omega),heap_setCell_other _ _ _ _ (by show b≠gb;omega)])
  go_upto_region 16 with fail;generalize World.setCell w3 _ _=w4 at gS rS BS OS3⊢;clear x0 x1 x2 xf;obtain⟨x0,x1,x2⟩:=qab gS;obtain⟨z0,z1,z2⟩:=qab rS;have zf:=fun i=>zfz rS i
  have BF:=bst (bst (bst BS (p:=⟨r,0,none⟩) hgw (.slice A s.l.length c)) (p:=⟨r,1,none⟩) hgw (.slice A3 js.length c3)) (p:=⟨r,2,none⟩) hgw (.int .i64 s.pol);have hF:=h.keep BF;go_wp2_with fail;refine bodyPost_ret (v:=.tuple #[ssV A s.l.length c A3 js.length c3 s.pol,.string ⟨okT.toArray⟩]) (by simp[results,Tryz.results97,go_sem,z0,z1,z2];rfl) rfl (by rw[HE.out];exact⟨A,c,A3,c3,rfl,HA.out,hF,OS3,BF⟩)
def qr6(s:Ss)(n:Int):Ss×List UInt8:=qqm s (qcj s.l n true)
theorem qqu(s:Ss)(A:ZA)(c:Nat)(J:ZA)(d:Nat)(n:Int)(w:World)(h:TS w A s.l)(g:JS w J s.js)(hA:(A=none→c=0)∧s.l.length≤c)(hlm:s.l.length≤5):
  Calls Tryz.prog 97 #[ssV A s.l.length c J s.js.length d s.pol,.string ⟨([119,111,114,115,116]:List UInt8).toArray⟩,.int .i64 n] w (qdd (qr6 s n) w):=by
 have HA:=zhi hA;clear hA;obtain⟨gb,r,hgb,hrE,hr0,hg1,B0,hgw,hgw0,hgr⟩:=qo7 w (ssC A s.l.length c J s.js.length d s.pol) (ssC none 0 0 none 0 0 0);go_enter Tryz.func97,Tryz.ntmps97;go_upto_region 1 with fail;generalize World.alloc (World.alloc w _) _=w0 at hr0 hg1 B0⊢;try simp only[hgb,hrE]
 clear hgb hrE;obtain⟨x0,x1,x2⟩:=qab hg1;have K:Calls Tryz.prog _ _ w0 _:=qkp A s.l c n true w0 (h.keep B0) (by unfold maxLen;omega);cases ho:qcj s.l n true with
 |none=>
  have HE:Hid (qr6 s n=(s,qef)):=by simp[Hid,qr6,ho,qqm]
  have e1:(qcj s.l n true).isSome=false:=by simp[ho]
  rw[e1] at K;go_wp2_with fail;refine K.mono ?_;rintro e w3 ⟨A3,c3,rfl,o3,b3⟩;clear ho K e1;have rM:=bh b3 hr0;have gM:=bh b3 hg1;have B2:=qaa B0 b3;clear x0 x1 x2;obtain⟨x0,x1,x2⟩:=qab gM;obtain⟨z0,z1,z2⟩:=qab rM;have zf:=fun i=>zfz rM i
  have BF:=bst (bst (bst B2 (p:=⟨r,0,none⟩) hgw (.slice A s.l.length c)) (p:=⟨r,1,none⟩) hgw (.slice J s.js.length d)) (p:=⟨r,2,none⟩) hgw (.int .i64 s.pol);have hF:=h.keep BF;have gF:=g.keep BF;go_wp2_with fail;refine bodyPost_ret (v:=.tuple #[ssV A s.l.length c J s.js.length d s.pol,.string ⟨(qef).toArray⟩]) (by simp[results,Tryz.results97,go_sem,z0,z1,z2];rfl) rfl (by rw[HE.out];exact⟨A,c,J,d,rfl,HA.out,hF,gF,BF⟩)
 |some js=>
  have HE:Hid (qr6 s n=(⟨s.l,js,s.pol⟩,okT)):=by simp[Hid,qr6,ho,qqm]
  have e1:(qcj s.l n true).isSome=true:=by simp[ho]
  have e2:qd8 s.l n true=js:=by simp[qd8,ho]
  rw[e1,e2] at K;go_wp2_with fail;refine K.mono ?_;rintro e w3 ⟨A3,c3,rfl,o3,b3⟩;clear ho K e1 e2;have rM:=bh b3 hr0;have gM:=bh b3 hg1;have B2:=qaa B0 b3;clear x0 x1 x2;obtain⟨x0,x1,x2⟩:=qab gM;have xf:=fun i=>zfz gM i
  have gS:(w3.setCell ⟨gb,1,none⟩ (.slice A3 js.length c3)).heap[gb]? =some (ssC A s.l.length c A3 js.length c3 s.pol):=qc5 gM (i:=1) _;have rS:(w3.setCell ⟨gb,1,none⟩ (.slice A3 js.length c3)).heap[r]? =some (ssC none 0 0 none 0 0 0):=by rw[heap_setCell_other _ _ _ _ hgr.symm];exact rM
  have BS:=bst B2 (p:=⟨gb,1,none⟩) hgw0 (.slice A3 js.length c3);have hr1:=(bl hr0);have hg1':=(bl hg1)
  have OS3:=qxg o3 (w':=(((w3.setCell ⟨gb,1,none⟩ (.slice A3 js.length c3)).setCell ⟨r,0,none⟩ (.slice A s.l.length c)).setCell ⟨r,1,none⟩ (.slice A3 js.length c3)).setCell ⟨r,2,none⟩ (.int .i64 s.pol)) (by simp) (by
   intro b hb;rw[heap_setCell_other _ _ _ _ (by show b≠r;omega),heap_setCell_other _ _ _ _ (by show b≠r;omega),heap_setCell_other _ _ _ _ (by show b≠r;omega),heap_setCell_other _ _ _ _ (by show b≠gb;omega)])
  go_upto_region 16 with fail;generalize World.setCell w3 _ _=w4 at gS rS BS OS3⊢;clear x0 x1 x2 xf;obtain⟨x0,x1,x2⟩:=qab gS;obtain⟨z0,z1,z2⟩:=qab rS;have zf:=fun i=>zfz rS i
  have BF:=bst (bst (bst BS (p:=⟨r,0,none⟩) hgw (.slice A s.l.length c)) (p:=⟨r,1,none⟩) hgw (.slice A3 js.length c3)) (p:=⟨r,2,none⟩) hgw (.int .i64 s.pol);have hF:=h.keep BF;go_wp2_with fail;refine bodyPost_ret (v:=.tuple #[ssV A s.l.length c A3 js.length c3 s.pol,.string ⟨okT.toArray⟩]) (by simp[results,Tryz.results97,go_sem,z0,z1,z2];rfl) rfl (by rw[HE.out];exact⟨A,c,A3,c3,rfl,HA.out,hF,OS3,BF⟩)
def qzy(s:Ss)(n:Int):Ss×List UInt8:=(s,match qbk s.l n s.pol with
 |some k=>([104,105,103,104,32]++num k)++[10]
 |none=>qhl)
theorem qs8(s:Ss)(A:ZA)(c:Nat)(J:ZA)(d:Nat)(n:Int)(w:World)(h:TS w A s.l)(g:JS w J s.js)(hA:(A=none→c=0)∧s.l.length≤c)(hlm:s.l.length≤5):
  Calls Tryz.prog 97 #[ssV A s.l.length c J s.js.length d s.pol,.string ⟨([104,105,103,104]:List UInt8).toArray⟩,.int .i64 n] w (qdd (qzy s n) w):=by
 have HA:=zhi hA;clear hA;obtain⟨gb,r,hgb,hrE,hr0,hg1,B0,hgw,hgw0,hgr⟩:=qo7 w (ssC A s.l.length c J s.js.length d s.pol) (ssC none 0 0 none 0 0 0);go_enter Tryz.func97,Tryz.ntmps97;go_upto_region 1 with fail;generalize World.alloc (World.alloc w _) _=w0 at hr0 hg1 B0⊢;try simp only[hgb,hrE]
 clear hgb hrE;obtain⟨x0,x1,x2⟩:=qab hg1;have K:Calls Tryz.prog _ _ w0 _:=qs5 A s.l c n s.pol w0 (h.keep B0) (by unfold maxLen;omega) HA.out.2;cases ho:qbk s.l n s.pol with
 |none=>
  have HE:Hid (qzy s n=(s,qhl)):=by simp[Hid,qzy,ho]
  rw[ho,show qgb none=.tuple #[.int .i64 0,.bool false] from rfl] at K;go_wp2_with fail;refine K.mono ?_;rintro e w3 ⟨rfl,b3⟩;clear ho K;have rM:=bh b3 hr0;have gM:=bh b3 hg1;have B2:=qaa B0 b3;clear x0 x1 x2;obtain⟨x0,x1,x2⟩:=qab gM;obtain⟨z0,z1,z2⟩:=qab rM;have zf:=fun i=>zfz rM i
  have BF:=bst (bst (bst B2 (p:=⟨r,0,none⟩) hgw (.slice A s.l.length c)) (p:=⟨r,1,none⟩) hgw (.slice J s.js.length d)) (p:=⟨r,2,none⟩) hgw (.int .i64 s.pol);have hF:=h.keep BF;have gF:=g.keep BF;go_wp2_with fail;refine bodyPost_ret (v:=.tuple #[ssV A s.l.length c J s.js.length d s.pol,.string ⟨(qhl).toArray⟩]) (by simp[results,Tryz.results97,go_sem,z0,z1,z2];rfl) rfl (by rw[HE.out];exact⟨A,c,J,d,rfl,HA.out,hF,gF,BF⟩)
 |some k=>
  have HE:Hid (qzy s n=(s,([104,105,103,104,32]++num k)++[10])):=by simp[Hid,qzy,ho]
  have hk0:=qnu ho;have hk1:=(qgp ho).2.2.2.2.2.2.2;rw[ho,show qgb (some k)=.tuple #[.int .i64 k,.bool true] from rfl] at K;have hkl:=qap k (by omega);go_wp2_with fail;refine K.mono ?_;rintro e w3 ⟨rfl,b3⟩;clear ho K;have rM:=bh b3 hr0;have gM:=bh b3 hg1;have B2:=qaa B0 b3;clear x0 x1 x2;obtain⟨x0,x1,x2⟩:=qab gM;go_upto_region 21 with fail;clear x0 x1 x2;refine wp_region_held (S:=fun w'=>w'.heap[gb]? =some (ssC A s.l.length c J s.js.length d s.pol)) (by kernel_rfl) ?_;change wpAnyH _ _ _ _ _ _ _ _ (World.drew _);have K0:Below w.heap.size w (World.drew w3):=zdr B2;have hS0:(World.drew w3).heap[gb]? =some (ssC A s.l.length c J s.js.length d s.pol):=gM;have hR0:(World.drew w3).heap[r]? =some (ssC none 0 0 none 0 0 0):=rM;generalize World.drew w3=v0 at K0 hS0 hR0⊢;refine tq 0 87 (ssV A s.l.length c J s.js.length d s.pol) rfl (fun w hS=>by obtain⟨x0,x1,x2⟩:=qab hS;go_simp) hS0 ?_;refine tq 1 88 (.int .i64 k) rfl (fun _ _=>rfl) hS0 ?_;refine tw 2 ?_;refine co 2 89 rfl 91 Tryz.func91 #[.int .i64 k] (qhw k (by omega) (by omega) _) ?_;rintro e v1 ⟨rfl,bz1⟩;have K1:=qaa K0 bz1;have hS1:=bh bz1 hS0;have hR1:=bh bz1 hR0;refine⟨_,rfl,hS1,?_⟩;simp only[lsS,lsZ];refine tq 3 90 (.string ⟨([104,105,103,104,32]++num k).toArray⟩) rfl (fun w _=>by go_simp;rw[if_neg (by simp;omega)];simp[qan]) hS1 ?_;refine tq 4 91 (.string ⟨(([104,105,103,104,32]++num k)++[10]).toArray⟩) rfl (fun w _=>by go_simp;rw[if_neg (by simp;omega)];simp[qan]) hS1 ?_;refine tw 5 ?_;refine qbp 5 rfl (by rfl) ?_;intro K hK;obtain⟨z0,z1,z2⟩:=qab hR1;have zf:=fun i=>zfz hR1 i
  have BF:=bst (bst (bst K1 (p:=⟨r,0,none⟩) hgw (.slice A s.l.length c)) (p:=⟨r,1,none⟩) hgw (.slice J s.js.length d)) (p:=⟨r,2,none⟩) hgw (.int .i64 s.pol);have hS9:=hS1;rw[←heap_setCell_other _ ⟨r,0,none⟩ gb (.slice A s.l.length c) hgr,←heap_setCell_other _ ⟨r,1,none⟩ gb (.slice J s.js.length d) hgr,←heap_setCell_other _ ⟨r,2,none⟩ gb (.int .i64 s.pol) hgr] at hS9;go_simp
  refine hK _ hS9 ?_;clear hK;refine tq 6 7 (.string ⟨(([104,105,103,104,32]++num k)++[10]).toArray⟩) rfl (fun _ _=>rfl) hS9 ?_;refine wpAnyH_done (by kernel_rfl) ?_ _;have hF:=h.keep BF;have gF:=g.keep BF;go_wp2_with fail;refine bodyPost_ret (v:=.tuple #[ssV A s.l.length c J s.js.length d s.pol,.string ⟨(([104,105,103,104,32]++num k)++[10]).toArray⟩]) (by simp[results,Tryz.results97,go_sem,z0,z1,z2]) rfl (by rw[HE.out];exact⟨A,c,J,d,rfl,HA.out,hF,gF,BF⟩)
def qzz(s:Ss)(n:Int):Ss×List UInt8:=(s,match qjc s.l n s.pol with
 |some ws=>qcf s.l ws++[101,110,100,10]
 |none=>qhl)
theorem qs9(s:Ss)(A:ZA)(c:Nat)(J:ZA)(d:Nat)(n:Int)(w:World)(h:TS w A s.l)(g:JS w J s.js)(hA:(A=none→c=0)∧s.l.length≤c)(hlm:s.l.length≤5):
  Calls Tryz.prog 97 #[ssV A s.l.length c J s.js.length d s.pol,.string ⟨([112,97,99,107]:List UInt8).toArray⟩,.int .i64 n] w (qdd (qzz s n) w):=by
 have HA:=zhi hA;clear hA;obtain⟨gb,r,hgb,hrE,hr0,hg1,B0,hgw,hgw0,hgr⟩:=qo7 w (ssC A s.l.length c J s.js.length d s.pol) (ssC none 0 0 none 0 0 0);go_enter Tryz.func97,Tryz.ntmps97;go_upto_region 1 with fail;generalize World.alloc (World.alloc w _) _=w0 at hr0 hg1 B0⊢;try simp only[hgb,hrE]
 clear hgb hrE;obtain⟨x0,x1,x2⟩:=qab hg1;have K:Calls Tryz.prog _ _ w0 _:=qqt A s.l c n s.pol w0 (h.keep B0) (by unfold maxLen;omega) HA.out.2;cases ho:qjc s.l n s.pol with
 |none=>
  have HE:Hid (qzz s n=(s,qhl)):=by simp[Hid,qzz,ho]
  have e1:(qjc s.l n s.pol).isSome=false:=by simp[ho]
  rw[e1] at K;go_wp2_with fail;refine K.mono ?_;rintro e w3 ⟨A3,c3,rfl,o3,b3⟩;clear ho K e1;have rM:=bh b3 hr0;have gM:=bh b3 hg1;have B2:=qaa B0 b3;clear x0 x1 x2;obtain⟨x0,x1,x2⟩:=qab gM;obtain⟨z0,z1,z2⟩:=qab rM;have zf:=fun i=>zfz rM i
  have BF:=bst (bst (bst B2 (p:=⟨r,0,none⟩) hgw (.slice A s.l.length c)) (p:=⟨r,1,none⟩) hgw (.slice J s.js.length d)) (p:=⟨r,2,none⟩) hgw (.int .i64 s.pol);have hF:=h.keep BF;have gF:=g.keep BF;go_wp2_with fail;refine bodyPost_ret (v:=.tuple #[ssV A s.l.length c J s.js.length d s.pol,.string ⟨(qhl).toArray⟩]) (by simp[results,Tryz.results97,go_sem,z0,z1,z2];rfl) rfl (by rw[HE.out];exact⟨A,c,J,d,rfl,HA.out,hF,gF,BF⟩)
 |some ws=>
  have HE:Hid (qzz s n=(s,qcf s.l ws++[101,110,100,10])):=by simp[Hid,qzz,ho]
  have e1:(qjc s.l n s.pol).isSome=true:=by simp[ho]
  have e2:ffL s.l n s.pol=ws:=by simp[ffL,ho]
  have hpl:=qm3 s.l ws;rw[e1,e2] at K;go_wp2_with fail;refine K.mono ?_;rintro e w3 ⟨A3,c3,rfl,o3,b3⟩;clear ho K e1 e2;have rM:=bh b3 hr0;have gM:=bh b3 hg1;have B2:=qaa B0 b3;clear x0 x1 x2;obtain⟨x0,x1,x2⟩:=qab gM;go_upto_region 26 with fail;clear x0 x1 x2;refine wp_region_held (S:=fun w'=>w'.heap[gb]? =some (ssC A s.l.length c J s.js.length d s.pol)) (by kernel_rfl) ?_;change wpAnyH _ _ _ _ _ _ _ _ (World.drew _);have K0:Below w.heap.size w (World.drew w3):=zdr B2;have hS0:(World.drew w3).heap[gb]? =some (ssC A s.l.length c J s.js.length d s.pol):=gM;have hR0:(World.drew w3).heap[r]? =some (ssC none 0 0 none 0 0 0):=rM;have o4:=(qxb o3).keep (zdr (Below.refl w3.heap.size w3));generalize World.drew w3=v0 at K0 hS0 hR0 o4⊢;refine tq 0 106 (ssV A s.l.length c J s.js.length d s.pol) rfl (fun w hS=>by obtain⟨x0,x1,x2⟩:=qab hS;go_simp) hS0 ?_;refine tq 1 107 (.pointer (some ⟨gb,0,none⟩)) rfl (fun w _=>by go_simp) hS0 ?_;refine tq 2 108 (.slice A s.l.length c) rfl (fun w hS=>by obtain⟨x0,x1,x2⟩:=qab hS;go_simp) hS0 ?_;refine tq 3 109 (.slice A3 ws.length c3) rfl (fun _ _=>rfl) hS0 ?_;refine tw 4 ?_;refine co 4 110 rfl 161 Tryz.func161 #[.slice A s.l.length c,.slice A3 ws.length c3] (qpe A A3 s.l ws c c3 _ (h.keep K0) o4 (by omega)) ?_;rintro e v1 ⟨rfl,bz1⟩;have K1:=qaa K0 bz1;have hS1:=bh bz1 hS0;have hR1:=bh bz1 hR0;refine⟨_,rfl,hS1,?_⟩;simp only[lsS,lsZ];refine tq 5 111 (.string ⟨(qcf s.l ws++[101,110,100,10]).toArray⟩) rfl (fun w _=>by go_simp;rw[if_neg (by simp;omega)];simp[qan]) hS1 ?_;refine tw 6 ?_;refine qbp 6 rfl (by rfl) ?_;intro K hK;obtain⟨z0,z1,z2⟩:=qab hR1;have zf:=fun i=>zfz hR1 i
  have BF:=bst (bst (bst K1 (p:=⟨r,0,none⟩) hgw (.slice A s.l.length c)) (p:=⟨r,1,none⟩) hgw (.slice J s.js.length d)) (p:=⟨r,2,none⟩) hgw (.int .i64 s.pol);have hS9:=hS1;rw[←heap_setCell_other _ ⟨r,0,none⟩ gb (.slice A s.l.length c) hgr,←heap_setCell_other _ ⟨r,1,none⟩ gb (.slice J s.js.length d) hgr,←heap_setCell_other _ ⟨r,2,none⟩ gb (.int .i64 s.pol) hgr] at hS9;go_simp
  refine hK _ hS9 ?_;clear hK;refine tq 7 7 (.string ⟨(qcf s.l ws++[101,110,100,10]).toArray⟩) rfl (fun _ _=>rfl) hS9 ?_;refine wpAnyH_done (by kernel_rfl) ?_ _;have hF:=h.keep BF;have gF:=g.keep BF;go_wp2_with fail;refine bodyPost_ret (v:=.tuple #[ssV A s.l.length c J s.js.length d s.pol,.string ⟨(qcf s.l ws++[101,110,100,10]).toArray⟩]) (by simp[results,Tryz.results97,go_sem,z0,z1,z2]) rfl (by rw[HE.out];exact⟨A,c,J,d,rfl,HA.out,hF,gF,BF⟩)
theorem qpn(s:Ss)(hG:Good s)(A:ZA)(c:Nat)(J:ZA)(d:Nat)(x:List UInt8)(n:Int)(w:World)(h:TS w A s.l)(g:JS w J s.js)(hA:(A=none→c=0)∧s.l.length≤c):
  Calls Tryz.prog 97 #[ssV A s.l.length c J s.js.length d s.pol,.string ⟨x.toArray⟩,.int .i64 n] w (qdd (qlf s (qle s x n)) w):=by
 have hlm:=qbj hG.v;have hjm:=(qfv hG.t).1;by_cases h0:x=[108,101,97,118,101]
 ·subst h0;have E:qlf s (qle s [108,101,97,118,101] n)=qr4 s n:=rfl;rw[E];exact qqn s A c J d n w h g hlm hA
 by_cases h1:x=[114,97,105,115,101]
 ·subst h1;have E:qlf s (qle s [114,97,105,115,101] n)=qr5 s n:=rfl;rw[E];exact qqo s A c J d n w h g hlm hA
 by_cases h2:x=[114,117,110]
 ·subst h2
  have E:qlf s (qle s [114,117,110] n)=q5r s n:=by
   show qlf s (if qsl s.l s.js s.pol n then some (s,q1b s.l s.js s.pol n.toNat) else none)=_;unfold q5r;cases qsl s.l s.js s.pol n<;>rfl
  rw[E];exact qve s A c J d n w h g hA hlm hjm hG.p
 by_cases h3:x=[114,117,108,101]
 ·subst h3;have E:qlf s (qle s [114,117,108,101] n)=qzx s n:=rfl;rw[E];exact qs7 s A c J d n w h g hA hlm
 by_cases h4:x=[119,111,114,115,116]
 ·subst h4;have E:qlf s (qle s [119,111,114,115,116] n)=qr6 s n:=rfl;rw[E];exact qqu s A c J d n w h g hA hlm
 by_cases h5:x=[104,105,103,104]
 ·subst h5;have E:qlf s (qle s [104,105,103,104] n)=qzy s n:=rfl;rw[E];exact qs8 s A c J d n w h g hA hlm
 by_cases h6:x=[112,97,99,107]
 ·subst h6;have E:qlf s (qle s [112,97,99,107] n)=qzz s n:=rfl;rw[E];exact qs9 s A c J d n w h g hA hlm
 have E:qle s x n=none:=by simp[qle,h0,h1,h2,h3,h4,h5,h6]
 rw[E];exact qs3 s A c J d x n w h g hA (by simpa using h0) (by simpa using h1) (by simpa using h2) (by simpa using h3) (by simpa using h4) (by simpa using h5) (by simpa using h6)
theorem qm5(s:Ss)(hG:Good s)(A:ZA)(c:Nat)(J:ZA)(d:Nat)(x t:List UInt8)(w:World)(h:TS w A s.l)(g:JS w J s.js)(hl:t.length≤1000000)(hA:(A=none→c=0)∧s.l.length≤c)(n0:(x==([116,97,115,107,115]:List UInt8))=false)(n1:(x==([97,100,109,105,116]:List UInt8))=false)(n2:(x==([106,111,98,115]:List UInt8))=false):
  Calls Tryz.prog 47 #[ssV A s.l.length c J s.js.length d s.pol,.string ⟨x.toArray⟩,.string ⟨t.toArray⟩] w (qdd (match qez t with
   |some n=>qlf s (qle s x n)
   |none=>(s,qef)) w):=by
 have KN:=fun n v h g=>qpn s hG A c J d x n v h g hA
 obtain⟨Q,hQ⟩: ∃Q,(match qez t with
  |some n=>qlf s (qle s x n)
  |none=>(s,qef))=Q:=⟨_,rfl⟩
 rw[hQ];have HA:=zhi hA;clear hA hG;obtain⟨gb,r,hgb,hrE,hr0,hg1,B0,hgw,hgw0,hgr⟩:=qo7 w (ssC A s.l.length c J s.js.length d s.pol) (ssC none 0 0 none 0 0 0);go_enter Tryz.func47,Tryz.ntmps47;go_upto_region 1 with fail;generalize World.alloc (World.alloc w _) _=w0 at hr0 hg1 B0⊢;try simp only[hgb,hrE]
 clear hgb hrE;go_wp2_with fail;have K:=qd4 t w0 hl;cases ho:qez t with
 |none=>
  have HE:Hid (Q=(s,qef)):=by rw[Hid,←hQ,ho]
  rw[ho] at K;refine K.mono ?_;rintro e w3 ⟨m2,rfl,_,b3⟩;simp only[Option.isSome_none];clear hQ K ho KN;have rM:=bh b3 hr0;have gM:=bh b3 hg1;have B2:=qaa B0 b3;obtain⟨x0,x1,x2⟩:=qab gM;obtain⟨z0,z1,z2⟩:=qab rM;have zf:=fun i=>zfz rM i
  have BF:=bst (bst (bst B2 (p:=⟨r,0,none⟩) hgw (.slice A s.l.length c)) (p:=⟨r,1,none⟩) hgw (.slice J s.js.length d)) (p:=⟨r,2,none⟩) hgw (.int .i64 s.pol);have hF:=h.keep BF;have gF:=g.keep BF;go_wp2_with fail;refine bodyPost_ret (v:=.tuple #[ssV A s.l.length c J s.js.length d s.pol,.string ⟨(qef).toArray⟩]) (by simp[results,Tryz.results47,go_sem,z0,z1,z2];rfl) rfl (by rw[HE.out];exact⟨A,c,J,d,rfl,HA.out,hF,gF,BF⟩)
 |some n=>
  have hQ2:qlf s (qle s x n)=Q:=by rw[←hQ,ho]
  rw[ho] at K;refine K.mono ?_;rintro e w3 ⟨m2,rfl,hm2,b3⟩;have hm3:m2=n:=hm2 n rfl;subst m2;clear hm2;simp only[Option.isSome_some];clear hQ K ho;have rM:=bh b3 hr0;have gM:=bh b3 hg1;have B2:=qaa B0 b3;obtain⟨x0,x1,x2⟩:=qab gM;have KM:=KN n _ (h.keep B2) (g.keep B2);rw[hQ2] at KM;clear KN hQ2;go_wp2_with fail;refine KM.mono ?_;rintro e w4 ⟨A5,c5,J5,d5,rfl,hA5,h5,g5,b4⟩;have HA5:=zhi hA5;have rP:=bh b4 rM;have B3:=qaa B2 b4;clear x0 x1 x2 hA5;obtain⟨z0,z1,z2⟩:=qab rP;have zf:=fun i=>zfz rP i
  have BF:=bst (bst (bst B3 (p:=⟨r,0,none⟩) hgw (.slice A5 Q.1.l.length c5)) (p:=⟨r,1,none⟩) hgw (.slice J5 Q.1.js.length d5)) (p:=⟨r,2,none⟩) hgw (.int .i64 Q.1.pol)
  have hb3: ∀(u v y:Value) (b:Nat),b≠r→(((w4.setCell ⟨r,0,none⟩ u).setCell ⟨r,1,none⟩ v).setCell ⟨r,2,none⟩ y).heap[b]? =w4.heap[b]? :=by
   intro u v y b hb;rw[heap_setCell_other _ _ _ _ hb,heap_setCell_other _ _ _ _ hb,heap_setCell_other _ _ _ _ hb]
  have hT:=q2s h5 rP (w':=((w4.setCell ⟨r,0,none⟩ (.slice A5 Q.1.l.length c5)).setCell ⟨r,1,none⟩ (.slice J5 Q.1.js.length d5)).setCell ⟨r,2,none⟩ (.int .i64 Q.1.pol)) (by simp) (hb3 _ _ _);have hJ:=q2t g5 rP (w':=((w4.setCell ⟨r,0,none⟩ (.slice A5 Q.1.l.length c5)).setCell ⟨r,1,none⟩ (.slice J5 Q.1.js.length d5)).setCell ⟨r,2,none⟩ (.int .i64 Q.1.pol)) (by simp) (hb3 _ _ _);clear hb3;go_wp2_with fail;refine bodyPost_ret (v:=.tuple #[ssV A5 Q.1.l.length c5 J5 Q.1.js.length d5 Q.1.pol,.string ⟨Q.2.toArray⟩]) (by simp[results,Tryz.results47,go_sem,z0,z1,z2]) rfl ⟨A5,c5,J5,d5,rfl,HA5.out,hT,hJ,BF⟩
theorem qqv(s:Ss)(hG:Good s)(A:ZA)(c:Nat)(J:ZA)(d:Nat)(x:List UInt8)(t:List UInt8)(hl:t.length≤1000000)(w:World)(h:TS w A s.l)(g:JS w J s.js)(hA:(A=none→c=0)∧s.l.length≤c):
  Calls Tryz.prog 47 #[ssV A s.l.length c J s.js.length d s.pol,.string ⟨x.toArray⟩,.string ⟨t.toArray⟩] w (qdd (qlg s x t) w):=by
 have hlm:=qbj hG.v;have hjm:=(qfv hG.t).1;by_cases h0:x=[116,97,115,107,115]
 ·subst h0
  have E:qlg s [116,97,115,107,115] t=((qjb t).map (fun l=>qew s l)).getD (s,qef):=by
   have E1:qs0 s [116,97,115,107,115] t=(qjb t).map (fun l=>qew s l):=rfl;unfold qlg;rw[E1];cases qjb t with
   |some l=>rfl
   |none=>
    cases qez t with
    |some n=>rfl
    |none=>rfl
  rw[E];exact qn4 s A c J d t w h g hl hA
 by_cases h1:x=[97,100,109,105,116]
 ·subst h1
  have E:qlg s [97,100,109,105,116] t=q4y s t:=by
   have E1:qs0 s [97,100,109,105,116] t=(tkO t).map (fun t=>match qci s.l t s.pol with
    |some l=>qew s l
    |none=>(s,noT)):=rfl
   unfold qlg q4y;rw[E1];cases tkO t with
   |some l=>rfl
   |none=>
    cases qez t with
    |some n=>rfl
    |none=>rfl
  rw[E];exact qn5 s A c J d t w h g hl hlm hA
 by_cases h2:x=[106,111,98,115]
 ·subst h2;have E:qlg s [106,111,98,115] t=qqm s (qu9 s t):=rfl;rw[E];exact qpi s A c J d t w h g hl hlm hA
 have E1:qs0 s x t=none:=by simp[qs0,h0,h1,h2]
 have E:qlg s x t=(match qez t with
   |some n=>qlf s (qle s x n)
   |none=>(s,qef)):=by
  unfold qlg;rw[E1];rfl
 rw[E];exact qm5 s hG A c J d x t w h g hl hA (by simpa using h0) (by simpa using h1) (by simpa using h2)
theorem qta(s:Ss)(A:ZA)(c:Nat)(J:ZA)(d:Nat)(x:List UInt8)(w:World)(h:TS w A s.l)(g:JS w J s.js)(hA:(A=none→c=0)∧s.l.length≤c)(n0:(x==([115,104,111,119]:List UInt8))=false)(n1:(x==([112,108,97,99,101,115]:List UInt8))=false)(n2:(x==([100,101,97,100,108,105,110,101,115]:List UInt8))=false)(n3:(x==([115,111,114,116]:List UInt8))=false)(n4:(x==([97,115,115,105,103,110]:List UInt8))=false)(n5:(x==([104,111,108,100,115]:List UInt8))=false)(n6:(x==([114,101,115,112,111,110,115,101,115]:List UInt8))=false)(n7:(x==([115,104,97,114,101,115]:List UInt8))=false)(n8:(x==([102,97,99,116,111,114]:List UInt8))=false)(n9:(x==([102,101,119,101,115,116]:List UInt8))=false):
  Calls Tryz.prog 46 #[ssV A s.l.length c J s.js.length d s.pol,.string ⟨x.toArray⟩] w (qdd (s,qef) w):=by
 have HA:=zhi hA;clear hA;obtain⟨gb,r,hgb,hrE,hr0,hg1,B0,hgw,hgw0,hgr⟩:=qo7 w (ssC A s.l.length c J s.js.length d s.pol) (ssC none 0 0 none 0 0 0);go_enter Tryz.func46,Tryz.ntmps46;go_upto_region 1 with fail;generalize World.alloc (World.alloc w _) _=w0 at hr0 hg1 B0⊢;try simp only[hgb,hrE]
 clear hgb hrE;obtain⟨x0,x1,x2⟩:=qab hg1;obtain⟨z0,z1,z2⟩:=qab hr0;have zf:=fun i=>zfz hr0 i
 have BF:=bst (bst (bst B0 (p:=⟨r,0,none⟩) hgw (.slice A s.l.length c)) (p:=⟨r,1,none⟩) hgw (.slice J s.js.length d)) (p:=⟨r,2,none⟩) hgw (.int .i64 s.pol);have hF:=h.keep BF;have gF:=g.keep BF;go_wp2_with fail;refine bodyPost_ret (v:=.tuple #[ssV A s.l.length c J s.js.length d s.pol,.string ⟨qef.toArray⟩]) (by simp[results,Tryz.results46,go_sem,z0,z1,z2];rfl) rfl ⟨A,c,J,d,rfl,HA.out,hF,gF,BF⟩
theorem q60{m:Nat}(hm:0<m)(n k:Nat)(hk:k+1=m^n): ∀i,i<n→(way m n k)[i]? =some ((m:Int)-1):=by
 induction n generalizing k with
 |zero=>intro i hi;omega
 |succ n ih=>
  intro i hi;have hl:=qiq m n (k/m);rw[Nat.pow_succ] at hk;have hpos:0<m^n:=Nat.pow_pos hm
  have e0:k=m*(m^n-1)+(m-1):=by
   rw[Nat.mul_sub,Nat.mul_one,Nat.mul_comm m];have:m≤m^n*m:=Nat.le_mul_of_pos_left m hpos;omega
  have e1:k/m=m^n-1:=by rw[e0,Nat.mul_add_div hm,Nat.div_eq_of_lt (by omega)];omega
  have e2:k % m=m-1:=by rw[e0,Nat.mul_add_mod,Nat.mod_eq_of_lt (by omega)]
  simp only[way];by_cases e:i=n
  ·subst e;rw[List.getElem?_append_right (by omega),hl,Nat.sub_self,e2];simp;omega
  ·rw[List.getElem?_append_left (by omega)];exact ih (k/m) (by omega) i (by omega)
theorem q2y(n:Nat):(madeCells (Value.int .i64 0).cells (n*1)).toList=(List.replicate n (0:Int)).map (.int .i64):=by
 apply List.ext_getElem?
 intro j;have e:(Value.int .i64 0).cells= #[.int .i64 0]:=rfl;rw[e,Nat.mul_one];by_cases h:j<n
 ·simp[madeCells,h,Nat.mod_one]
 ·simp[madeCells,h]
def mid(W:List Int)(j n:Nat):List Int:=W.take j++List.replicate (n-j) 0
theorem q2z{W:List Int}{j n:Nat}(hW:W.length=n)(hj:j≤n):(mid W j n).length=n:=by simp[mid];omega
theorem q41{W:List Int}{n:Nat}(hW:W.length=n):mid W n n=W:=by simp[mid,List.take_of_length_le (Nat.le_of_eq hW)]
theorem mid_at{W:List Int}{j n:Nat}(hW:W.length=n)(hj:j<n):(mid W (j+1) n)[j]? =W[j]? :=by
 unfold mid;rw[List.getElem?_append_left (by simp;omega),List.getElem?_take,if_pos (by omega)]
theorem q20{W:List Int}{j n:Nat}(hW:W.length=n)(hj:j<n)(x:Int):(mid W (j+1) n).set j x=W.take j++x::List.replicate (n-j-1) 0:=by
 unfold mid;rw[List.set_append_left _ _ (by simp;omega)]
 have e:(W.take (j+1)).set j x=W.take j++[x]:=by
  rw[List.take_succ_eq_append_getElem (by omega),List.set_append_right _ _ (by simp;omega)];have:(W.take j).length=j:=by simp;omega
  simp[this]
 rw[e,show n-(j+1)=n-j-1 by omega];simp
theorem q42{W:List Int}{j n:Nat}(hW:W.length=n)(hj:j<n):(mid W (j+1) n).set j 0=mid W j n:=by
 rw[q20 hW hj]
 have e:List.replicate (n-j) (0:Int)=0::List.replicate (n-j-1) 0:=by
  have:n-j=(n-j-1)+1:=by omega
  rw[this,List.replicate_succ];simp
 rw[mid,e]
theorem qvf(A:ZA)(l:List Tk)(c:Nat)(m p:Int)(w:World)(h:TS w A l)(_hm:l.length≤maxLen)(_hlc:l.length≤c):
  Calls Tryz.prog 187 #[.slice A l.length c,.int .i64 m,.int .i64 p] w (qy1 w (qry l m p) (qi5 l m p).isSome):=by
 cases hS:qad l with
 |false=>
  have hv:qi5 l m p=none:=by simp[qi5,hS]
  have hv2:qry l m p=[]:=by simp[qry,hv]
  rw[hv,hv2];clear hv hv2;go_enter Tryz.func187,Tryz.ntmps187;go_wp2_with fail;refine(qae A l c _ h).mono ?_;rw[hS];rintro e w1 ⟨rfl,b1⟩;go_wp2_with fail;go_ret2;exact⟨none,0,rfl,qgg _ _,b1⟩
 |true=>
  have hl5:=(qaj hS).1;have HS:=zhi hS;by_cases hn:1≤m∧m≤3
  ·obtain⟨h1m,h3m⟩:=hn;obtain⟨M,rfl⟩: ∃M:Nat,m=(M:Int):=⟨m.toNat,(Int.toNat_of_nonneg (by omega)).symm⟩;have hM:0<M:=by omega
   obtain⟨R,hR⟩: ∃R,qcw (fun k=>pkH l (way M l.length k) (M:Int) p) (M^l.length-0) 0=R:=⟨_,rfl⟩
   have hany:qi5 l (M:Int) p=R.map (way M l.length):=by
    have:qip (M:Int)=true:=by simp[qip];omega
    simp only[qi5,hS,this,Bool.and_self,if_true,anyK,Int.toNat_natCast];rw[Nat.sub_zero] at hR;rw[hR]
   have HA:=zhi hany;have HR:=zhi hR;have hpos:0<M^l.length:=Nat.pow_pos hM;obtain⟨i0,hi,hz0,hz1,hz2⟩:=info_parts qfp
   have hmk: ∀w:World,(Instr.makeSlice 27 (.int .i64 (l.length:Int)) (.int .i64 (l.length:Int))).run Tryz.prog w=.ok (.slice (some ⟨w.heap.size,0,none⟩) l.length l.length) (w.alloc (.cells (madeCells (Value.int .i64 0).cells (l.length*1)) 3)):=by
    intro w
    have hb:(i0.bytes:Int)*(l.length:Int)≤281474976710656:=by
     have h:i0.bytes*l.length≤256*16777216:=Nat.mul_le_mul (by omega) (by omega);have h2:((i0.bytes*l.length:Nat):Int)≤281474976710656:=by omega
     rwa [Int.natCast_mul] at h2
    have hr:=run_make (P:=Tryz.prog) w 27 3 i0 _ Tryz.underlying27 hi hz0 .i64 .i64 l.length l.length (by omega) (by omega) hb (by omega);simp only[Int.toNat_natCast] at hr;rw[←hz1];exact hr
   have hown: ∀w:World,OI w.heap.size (w.alloc (.cells (madeCells (Value.int .i64 0).cells (l.length*1)) 3)) (some ⟨w.heap.size,0,none⟩) l.length (way M l.length 0):=by
    intro w;have:=qr8 (w:=w) (t:=3) (size:=1) (n:=l.length) (row:=madeCells (Value.int .i64 0).cells (l.length*1)) (by rw[size_madeCells]) (by omega);unfold OI;rw[q2y] at this;rw[qiq,q4p];exact this
   have HO:=zhi hown;have hwlen:Hid (∀k,(way M l.length k).length=l.length):=qiq M l.length;clear hS hany hR hi hz0 hz1 hz2 hown;generalize madeCells (Value.int .i64 0).cells (l.length*1)=row at hmk HO;go_enter Tryz.func187,Tryz.ntmps187;go_wp2_with fail;refine(qae A l c _ h).mono ?_;rw[HS.out];rintro e w1 ⟨rfl,b1⟩;go_wp2_with fail;have hO1:OI w.heap.size (w1.alloc (.cells row 3)) (some ⟨w1.heap.size,0,none⟩) l.length (way M l.length 0):=qal (HO.out w1) b1.size;have hB1:=bal b1 (.cells row 3);clear hmk HO;generalize w1.heap.size=b1' at*;go_loopg [9] (M^l.length) (fun g a wr=> ∃k:Nat,g+k=M^l.length∧k<M^l.length∧OI w.heap.size wr (some ⟨b1',0,none⟩) l.length (way M l.length k)∧Hid (qcw (fun k=>pkH l (way M l.length k) (M:Int) p) (M^l.length-k) k=R)∧Below w.heap.size w wr)
   case atStart=>exact⟨0,by omega,hpos,hO1,HR.out,hB1⟩
   case round=>
    clear hO1 hB1;obtain⟨k,hgk,hkM,hO,hfk,hb⟩:=hrel;have hst:=qfm (fun k=>pkH l (way M l.length k) (M:Int) p) (M^l.length) k hkM;obtain⟨W,hW⟩: ∃W,way M l.length k=W:=⟨_,rfl⟩;have hWl:W.length=l.length:=by rw[←hW];exact hwlen.out k
    have hWin: ∀x∈W,0≤x∧x<(M:Int):=by rw[←hW];exact way_in hM _ _
    rw[hW] at hO;have K:=qqr A (some ⟨b1',0,none⟩) l W c l.length (M:Int) p wr (h.keep hb) hO.is;rw[hWl] at K;have HW:=zhi hW;have HWl:=zhi hWl;have HWin:=zhi hWin;cases hk:pkH l W (M:Int) p with
    |true=>
     rw[hk] at K;have hRk:R=some k:=by rw[←hfk.out,hst,hW,hk];rfl
     have hr1:qi5 l (M:Int) p=some W:=by rw[HA.out,hRk,←hW];rfl
     have hr2:Hid (qry l (M:Int) p=W∧(qi5 l (M:Int) p).isSome=true):=by simp[Hid,qry,hr1]
     clear hst hk hRk hr1 hW hWl hWin;go_wp2_with fail;refine K.mono ?_;rintro e w2 ⟨rfl,b2⟩;go_wp2_with fail;go_ret2;rw[hr2.out.1,hr2.out.2];exact⟨some ⟨b1',0,none⟩,l.length,by rw[HWl.out];rfl,qa1 hO b2,qaa hb b2⟩
    |false=>
     rw[hk] at K
     have hnx:Hid (qcw (fun k=>pkH l (way M l.length k) (M:Int) p) (M^l.length-(k+1)) (k+1)=R):=by
      rw[Hid,←hfk.out,hst,hW,hk];rfl
     clear hst hk hW hWl hWin hfk;go_wp2_with fail;refine K.mono ?_;clear K;rintro e w2 ⟨rfl,b2⟩;have hO2:=qa1 hO b2;have B2:=qaa hb b2;clear hO;go_wp2_with fail;go_loopg [9] l.length (fun g a wy=> ∃j:Nat,g=j∧a=.int .i64 ((j:Int)-1)∧j≤l.length∧OI w.heap.size wy (some ⟨b1',0,none⟩) l.length (mid W j l.length)∧Hid (∀i,j≤i→i<l.length→W[i]? =some ((M:Int)-1))∧Below w.heap.size w wy)
     case atStart=>exact⟨l.length,rfl,rfl,zlr _,by rw[q41 HWl.out];exact hO2,fun i h1 h2=>by omega,B2⟩
     case round=>
      clear hO2 B2;obtain⟨j,hgj,rfl,hj,hOj,htop,hby⟩:=hrel;cases j with
      |zero=>
       have hlast:k+1=M^l.length:=q4o hM l.length k hkM (fun i hi=>by rw[HW.out];exact htop.out i (by omega) hi);have hRn:R=none:=by rw[←hnx.out,hlast,Nat.sub_self];rfl
       have hr2:Hid (qry l (M:Int) p=[]∧(qi5 l (M:Int) p).isSome=false):=by
        have e:qi5 l (M:Int) p=none:=by rw[HA.out,hRn];rfl
        simp[Hid,qry,e]
       clear hlast hRn;go_wp2_with fail;go_ret2;rw[hr2.out.1,hr2.out.2];exact⟨none,0,rfl,qgg _ _,hby⟩
      |succ r=>
       have hcast:(((r+1:Nat):Int))-1=(r:Int):=by omega
       rw[hcast];have hrl:r<W.length:=by rw[HWl.out];omega
       have hat:(mid W (r+1) l.length)[r]? =some W[r]:=by rw[mid_at HWl.out (by omega)];exact List.getElem?_eq_getElem hrl
       obtain⟨kc,kf⟩:=qwo hOj r W[r] hat;have hin:=HWin.out W[r] (List.getElem_mem hrl);have hWr:W[r]? =some W[r]:=List.getElem?_eq_getElem hrl;have hz:=quq hOj r 0;rw[q42 HWl.out (by omega)] at hz;have hs:=quq hOj r (W[r]+1);rw[q20 HWl.out (by omega)] at hs;clear hcast hat;generalize W[r]=x at kc hin hWr hs;have hrc:(r:Int)<(l.length:Int):=by omega
       have hr0:(0:Int)≤(r:Int):=by omega
       by_cases hx:x=(M:Int)-1
       ·have hx':(x==(M:Int)-1)=true:=beq_iff_eq.2 hx
        have ht2:Hid (∀i,r≤i→i<l.length→W[i]? =some ((M:Int)-1)):=by
         intro i h1 h2;by_cases e:i=r
         ·subst e;rw[hWr,hx]
         ·exact htop.out i (by omega) h2
        have HZ:=zhi hz;clear hz hs hx hWr;go_wp2_with fail;go_roundg r
        case measure=>omega
        case rel=>exact⟨r,rfl,by go_num,by omega,HZ.out.1,ht2,hby.trans (qlt HZ.out.2 (by
          obtain⟨q,hq,hq2,_⟩:=qe3 hOj (by rw[q2z HWl.out (by omega)];omega);cases hq
          exact hq2) hby.size)⟩
       ·have hx':(x==(M:Int)-1)=false:=beq_eq_false_iff_ne.2 hx;have hsucc:=q4n hM l.length k r (by omega) (fun i h1 h2=>by rw[HW.out];exact htop.out i (by omega) h2) x (by rw[HW.out];exact hWr) hx;rw[HW.out] at hsucc;rw[←hsucc] at hs
        have hk1:k+1<M^l.length:=by
         rcases Nat.lt_or_ge (k+1) (M^l.length) with h1|h1
         ·exact h1
         ·exfalso;have e:=q60 hM l.length k (by omega) r (by omega);rw[HW.out,hWr] at e;injection e with e
          exact hx e
        have hbb:w.heap.size≤b1':=by
         obtain⟨q,hq,hq2,_⟩:=qe3 hOj (by rw[q2z HWl.out (by omega)];omega);cases hq
         exact hq2
        have HS2:=zhi hs;have hw1:IntKind.i64.wrap (x+1)=x+1:=IntWalk.i64_in _ (by omega);clear hz hs hx hWr hsucc;go_wp2_with fail;go_roundg (M^l.length-(k+1))
        case measure=>omega
        case rel=>exact⟨k+1,by omega,hk1,HS2.out.1,hnx,hby.trans (qlt HS2.out.2 hbb hby.size)⟩
  ·have hv:qi5 l m p=none:=by
    have:qip m=false:=by simp[qip];omega
    simp[qi5,this]
   have hv2:qry l m p=[]:=by simp[qry,hv]
   rw[hv,hv2];clear hv hv2 hS;by_cases h1m:1≤m
   ·have h3m: ¬m≤3:=fun e=>hn ⟨h1m,e⟩
    clear hn;go_enter Tryz.func187,Tryz.ntmps187;go_wp2_with fail;refine(qae A l c _ h).mono ?_;rw[HS.out];rintro e w1 ⟨rfl,b1⟩;go_wp2_with fail;go_ret2;exact⟨none,0,rfl,qgg _ _,b1⟩
   ·clear hn;go_enter Tryz.func187,Tryz.ntmps187;go_wp2_with fail;refine(qae A l c _ h).mono ?_;rw[HS.out];rintro e w1 ⟨rfl,b1⟩;go_wp2_with fail;go_ret2;exact⟨none,0,rfl,qgg _ _,b1⟩
end Go.Proofs.YtmkjmancmiphfaaGreatDoor
