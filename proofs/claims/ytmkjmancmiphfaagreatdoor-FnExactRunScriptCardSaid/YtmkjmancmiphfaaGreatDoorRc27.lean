/-
  Texts of jobs: the program's.
  l9Case: drawn tasks, ways, processors and policies; DrawPackValid, DrawGroupOf.
  l1Some: drawn tasks, sometimes ones that are not valid; l3Case, DrawLeaveTask.
  The helpers of the exact laws: copies, comparisons, sizes.
  Jobs compared, drawn, and at the desk: the words rule, worst, show.
-/
import Derived.Test.YtmkjmancmiphfaaGreatDoorRc24
import Derived.Test.YtmkjmancmiphfaaGreatDoorRc26
namespace Go.Proofs.YtmkjmancmiphfaaGreatDoor
set_option maxHeartbeats 8000000
set_option maxRecDepth 1000000
open Go.RowKit
theorem Qb{w:World}{b:Nat}{v0 v1 v2:Value}{t:TypeId}(h:w.heap[b]? =some (.cells #[v0,v1,v2] t (0,0))):
  w.cell? ⟨b,0,none⟩=some v0∧w.cell? ⟨b,1,none⟩=some v1∧w.cell? ⟨b,2,none⟩=some v2:=by
 refine⟨?_,?_,?_⟩<;>(rw[Yak h];rfl)
theorem qeb{js:List Jb}(h:qdg js=true):js.length≤60∧ ∀t∈js,qbv t=true:=by
 simp only[qdg,Yac,Yae,Yaz] at h;exact⟨h.2,h.1⟩
theorem q1a(A:ZA)(js:List Jb)(c:Nat)(w:World)(h:JS w A js)(ht:qdg js=true):
  Calls Tryz.prog 37 #[.slice A js.length c] w fun e w'=>e=.returned (.bool true)∧Below w.heap.size w w':=by
 obtain⟨hl,hall⟩:=qeb ht;have Hall:=zhi hall;clear hall ht;go_enter Tryz.func37,Tryz.ntmps37;go_wp2_with fail;go_loopw [7] (fun i wr=> ∃k:Nat,i=.int .i64 (k:Int)∧k≤js.length∧Below w.heap.size w wr) (fun i _=>js.length-(intOf i).toNat)
 case atStart=>exact⟨0,rfl,by omega,br⟩
 case round=>
  obtain⟨k,rfl,hk,hb⟩:=hrel;by_cases hlt:k<js.length
  ·obtain⟨b,off,rfl,hbl,hc⟩:=h.keep hb (by omega);obtain⟨k0,k1,k2⟩:=Vi hc k hlt;clear hc;have hv:=(qbo _).1 (Hall.out _ (Yao hlt));generalize js[k]=t at k0 k1 k2 hv;obtain⟨v1,v2,v3,v4,v5,v6⟩:=hv;go_wp2_with fail;go_roundw
   case rel=>exact⟨k+1,by go_num,by omega,bal hb _⟩
   case measure=>simp[intOf];omega
  ·obtain rfl:k=js.length:=by omega
   go_wp2_with fail;go_ret;exact⟨by simp;omega,hb⟩
theorem qtu{w:World}{o:Oper}{a:Act}{K:Act→World→Prop}{Q:Exit→Act→World→Prop}(s x:Operand)
  (ho:o.op=.call {callee:=.builtin .append,args:=#[s,x],argTypes:=#[69,69]})
  (base:Nat) (A:ZA) (l:List (List UInt8)) (n c:Nat) (hn:l.length=n) (hs:a.eval s=.slice A n c) (hown:OS base w A c l)
  (b c1:Nat) (y:List UInt8) (ty:TypeId) (hx:a.eval x=.slice (some ⟨b,0,none⟩) 1 c1) (hb:w.heap[b]? =some (.cells #[.string ⟨y.toArray⟩] ty (0,0)))
  (hl:l.length≤2000000) (hbase:base≤w.heap.size)
  (h: ∀A' c' w',OS base w' A' c' (l++[y])→w.grownBy w' (Value.slice A n c).ownBlock→Below base w w'→K (a.put o.dst (.slice A' (n+1) c')) w'):Oper.wp Tryz.prog o a w K Q:=by
 subst hn;obtain⟨i0,hi,hz0,hz1,hz2⟩:=Ybv q0l
 refine wp_append_own w s x 69 ho base 9 i0 _ 1 16 Tryz.underlying69 hi hz0 hz1 hz2 rfl (by decide) (.slice A l.length c) l.length (qzl l) hs hown
  ⟨b,0,none⟩ 1 c1 [.string ⟨y.toArray⟩] hx rfl ?_ ?_ (by unfold maxLen;omega) (by omega) hbase ?_
 ·intro j u hj;rw[qai,Ybf w b j _ ty (0,0) hb,←Ybk];exact hj
 ·intro u hu;simp at hu;subst hu;rfl
 ·intro v' w' hown' hg _;obtain⟨A',c',rfl⟩:=qcx hown';refine h A' c' w' ?_ hg (qad hown hg hbase);unfold OS;rw[Yaa,Yat];have e:qzl (l++[y])=qzl l++[.string ⟨y.toArray⟩]:=by simp[qzl]
  rw[e];exact hown'
theorem qfw{B:Nat}(A:ZA)(js:List Jb)(c:Nat)(w:World)(h:JS w A js)(ht:qdg js=true)(hM:Mx B w)(hB:B≤w.heap.size):
  Calls Tryz.prog 12 #[.slice A js.length c] w fun e w'=>e=.returned (.string ⟨(Vf js).toArray⟩)∧Below w.heap.size w w':=by
 obtain⟨hl,hall⟩:=qeb ht;have HF:Hid (Vf js=qfu js):=by simp[Hid,Vf,ht]
 have hfl:=qfc js;have Hall:=zhi hall;have HT:=zhi ht;clear hall ht;go_enter Tryz.func12,Tryz.ntmps12;go_wp2_with fail;refine(q1a A js c _ h HT.out).mono ?_;rintro e w1 ⟨rfl,b1⟩;go_wp2_with fail;go_loopw [3,12] (fun v i wr=> ∃(k bo c':Nat),i=.int .i64 (k:Int)∧v=.slice (some ⟨bo,0,none⟩) k c'∧k≤js.length∧OS w.heap.size wr (some ⟨bo,0,none⟩) c' ((js.take k).map qfb)∧Below w.heap.size w wr) (fun _ i _=>js.length-(intOf i).toNat)
 case atStart=>exact⟨0,_,0,rfl,rfl,by omega,qre w1 _ b1.size,bal b1 _⟩
 case round=>
  obtain⟨k,bo,c',rfl,rfl,hk,hO,hb⟩:=hrel;by_cases hlt:k<js.length
  ·obtain⟨b,off,rfl,hbl,hc⟩:=h.keep hb (by omega);obtain⟨k0,k1,k2⟩:=Vi hc k hlt;clear hc;have hv:=(qbo _).1 (Hall.out _ (Yao hlt));have hnx0:(js.take k).map qfb++[qfb js[k]]=(js.take (k+1)).map qfb:=by rw[Yad hlt,Ybg];rfl
   generalize js[k]=t at k0 k1 k2 hnx0 hv;obtain⟨v1,v2,v3,v4,v5,v6⟩:=hv;have l1:=Qp t.task (by omega);have l2:=Qp t.at_ (by omega);have l3:=Qp t.need (by omega);have hnx:=zhi hnx0;clear hnx0;have hkl:Hid (((js.take k).map qfb).length=k):=by rw[Hid,Ybh,Yap];omega
   have hT:=zha wr (.cells #[.int .i64 t.task,.int .i64 t.at_,.int .i64 t.need] 60 (0,0));have hba:=bal (Below.refl wr.heap.size wr) (.cells #[.int .i64 t.task,.int .i64 t.at_,.int .i64 t.need] 60 (0,0));have hOa:=qf9 hO (.cells #[.int .i64 t.task,.int .i64 t.at_,.int .i64 t.need] 60 (0,0));clear hO;go_upto_region 7 with fail;generalize World.alloc wr _=wa at hT hba hOa⊢;generalize wr.heap.size=nT at hT⊢;have hlT:=(bl hT);clear k0 k1 k2;refine wp_region_held (S:=fun w'=>w'.heap[nT]? =some (.cells #[.int .i64 t.task,.int .i64 t.at_,.int .i64 t.need] 60 (0,0))) (by kernel_rfl) ?_;change wpAnyH _ _ _ _ _ _ _ _ (World.drew _);have Kz:Below wa.heap.size wa (World.drew wa):=zdr br;have hS0:=(Kz.block nT hlT).trans hT;refine tq 0 16 (.slice (some ⟨bo,0,none⟩) k c') rfl (fun _ _=>rfl) hS0 ?_;refine tq 1 17 (.pointer (some ⟨nT,0,none⟩)) rfl (fun w _=>by go_simp) hS0 ?_;refine tq 2 18 (.int .i64 t.task) rfl (fun w hS=>by obtain⟨h0,h1,h2⟩:=Qb hS;go_simp) hS0 ?_;refine tq 5 21 (.pointer (some ⟨nT,1,none⟩)) rfl (fun w _=>by go_simp) hS0 ?_;refine tq 6 22 (.int .i64 t.at_) rfl (fun w hS=>by obtain⟨h0,h1,h2⟩:=Qb hS;go_simp) hS0 ?_;refine tq 10 26 (.pointer (some ⟨nT,2,none⟩)) rfl (fun w _=>by go_simp) hS0 ?_;refine tq 11 27 (.int .i64 t.need) rfl (fun w hS=>by obtain⟨h0,h1,h2⟩:=Qb hS;go_simp) hS0 ?_;refine qf6 3 19 rfl rfl (by kernel_rfl) (by rfl) 38 Tryz.func38 (by kernel_rfl) rfl _ _ rfl _ ?hv (qbu (hM.keep (Below.mono (Qa hb (Qa hba Kz)) hB)) t.task (by omega) (by omega)) ?_
   case hv=>simp[Act.eval]
   rintro e v1 ⟨rfl,k1⟩;have K1:Below wa.heap.size wa v1:=Qa Kz k1;have S1:=(K1.block nT hlT).trans hT;refine⟨_,rfl,S1,?_⟩;simp only[lsS,lsZ];refine tq 4 20 (.string ⟨(num t.task++[64]).toArray⟩) rfl (fun w _=>by go_simp;rw[Yaq (by omega)];simp[Qn]) S1 ?_;refine qf6 7 23 rfl rfl (by kernel_rfl) (by rfl) 38 Tryz.func38 (by kernel_rfl) rfl _ _ rfl _ ?hv (qbu (hM.keep (Below.mono (Qa hb (Qa hba K1)) hB)) t.at_ (by omega) (by omega)) ?_
   case hv=>simp[Act.eval]
   rintro e v2 ⟨rfl,k2⟩;have K2:Below wa.heap.size wa v2:=Qa K1 k2;have S2:=(K2.block nT hlT).trans hT;refine⟨_,rfl,S2,?_⟩;simp only[lsS,lsZ];refine tq 8 24 (.string ⟨(num t.task++64::num t.at_).toArray⟩) rfl (fun w _=>by go_simp;rw[Yaq (by omega)];simp[Qn]) S2 ?_;refine tq 9 25 (.string ⟨(num t.task++64::(num t.at_++[58])).toArray⟩) rfl (fun w _=>by go_simp;rw[Yaq (by omega)];simp[Qn]) S2 ?_;refine qf6 12 28 rfl rfl (by kernel_rfl) (by rfl) 38 Tryz.func38 (by kernel_rfl) rfl _ _ rfl _ ?hv (qbu (hM.keep (Below.mono (Qa hb (Qa hba K2)) hB)) t.need (by omega) (by omega)) ?_
   case hv=>simp[Act.eval]
   rintro e v3 ⟨rfl,k3⟩;have K3:Below wa.heap.size wa v3:=Qa K2 k3;have S3:=(K3.block nT hlT).trans hT;refine⟨_,rfl,S3,?_⟩;simp only[lsS,lsZ];refine tq 13 29 (.string ⟨(num t.task++64::(num t.at_++58::num t.need)).toArray⟩) rfl (fun w _=>by go_simp;rw[Yaq (by omega)];simp[Qn]) S3 ?_;refine q58 14 30 rfl rfl (by kernel_rfl) (by rfl) ?_;intro K hK;go_simp
   have hX:Hid (num t.task++64::(num t.at_++58::num t.need)=qfb t):=by simp[Hid,qfb]
   have hN3:=zha v3 (.cells #[.string ⟨(num t.task++64::(num t.at_++58::num t.need)).toArray⟩] 9 (0,0));have hS4:=(Yaj v3 (.cells #[.string ⟨(num t.task++64::(num t.at_++58::num t.need)).toArray⟩] 9 (0,0)) nT (bl S3)).trans S3;have K4:=bal K3 (.cells #[.string ⟨(num t.task++64::(num t.at_++58::num t.need)).toArray⟩] 9 (0,0));have hO4:=qnk hOa K4;have B4:Below w.heap.size w _:=Qa (Qa hb hba) K4;refine hK (.slice (some ⟨v3.heap.size,0,none⟩) 1 1) _ hS4 ?_;simp only[lsS,lsZ];generalize World.alloc v3 _=v4 at hN3 hS4 K4 hO4 B4⊢;rw[hX.out] at hN3;clear hK;refine q58 15 31 rfl rfl (by kernel_rfl) (by rfl) ?_;intro K' hK';refine qtu _ _ rfl w.heap.size (some ⟨bo,0,none⟩) ((js.take k).map qfb) k c' hkl.out rfl hO4 v3.heap.size 1 (qfb t) 9 rfl hN3 (by rw[hkl.out];omega) B4.size ?_;intro A5 c5 w5 o5 g5 b5;rw[hnx.out] at o5;have hS5:=qm8 hS4 g5 (qxl hO4 hS4 (by decide));obtain⟨b4,rfl,_,_⟩:=qve o5 (by simp;omega);refine hK' (.slice (some ⟨b4,0,none⟩) (k+1) c5) _ hS5 ?_;simp only[lsS,lsZ];refine tq 16 3 (.slice (some ⟨b4,0,none⟩) (k+1) c5) rfl (fun _ _=>rfl) hS5 ?_;refine wpAnyH_done (by kernel_rfl) ?_ _;go_wp2_with fail;go_roundw
   case rel=>exact⟨k+1,b4,c5,by go_num,rfl,by omega,o5,B4.trans b5⟩
   case measure=>simp[intOf];omega
  ·obtain rfl:k=js.length:=by omega
   rw[Ybi] at hO;have hsz:=Qo hO;obtain⟨hs1,hs2⟩:=hsz
   have hcell: ∀(j:Nat) x,(js.map (fun t=>(⟨(qfb t).toArray⟩:ByteArray)))[j]? =some x→wr.cell? ⟨bo,0+j,none⟩=some (.string x):=by
    intro j x hj
    have:=World.ownsRow.cells hO (g:=bo) rfl j (.string x) (by
     simp only[qzl,Ycv] at hj⊢;cases e:js[j]? with
     |none=>rw[e] at hj;cases hj
     |some t=>rw[e] at hj;simp at hj⊢;exact hj)
    rw[Ybj];rwa [qai] at this
   have hbw:bo<wr.heap.size:=by
    rcases hO.2 with⟨hv,_⟩|⟨g,cap,cur,hv,hg,hh,_⟩
    ·cases hv
    ·cases hv
     exact(bl hh)
   have K:=Tryz.strings_Join bo 0 c' (js.map (fun t=>(⟨(qfb t).toArray⟩:ByteArray))) ⟨#[32]⟩ wr hcell hbw (by simp;omega) (by rw[Ybh] at hs1;simp;omega);have e1:(js.map (fun t=>(⟨(qfb t).toArray⟩:ByteArray))).map (·.data.toList)=js.map qfb:=by simp
   rw[e1] at K;have e2:(js.map (fun t=>(⟨(qfb t).toArray⟩:ByteArray))).length=js.length:=Ybh ..;have K2:=K (by show(qfu js).length≤_;rw[HF.out] at hfl;omega);rw[e2] at K2;clear K e1 e2 hcell hO hs1 hs2;go_wp2_with fail;refine K2.mono ?_;rintro e w4 ⟨rfl,b4⟩;go_wp2_with fail;go_ret;exact⟨by rw[HF.out];rfl,Qa hb b4⟩
theorem q3v{l:List Tk}(hS:Qe l=true)(high:Bool)(a:Int){k:Nat}(hk:k≤l.length): ∀j∈qov l a high k,0≤j.task∧j.task<(k:Int)∧j.at_=a∧1≤j.need∧j.need≤20:=by
 induction k with
 |zero=>simp[qov]
 |succ k ih=>
  intro j hj;rw[qov,Ybq] at hj;rcases hj with hj|hj
  ·have:=ih (by omega) j hj;omega
  ·have hv:=qao (Qs hS (show k<l.length by omega));split at hj
   ·rw[Yaw] at hj;subst hj;cases high<;>simp<;>omega
   ·simp at hj
theorem q1b{l:List Tk}(hS:Qe l=true)(high:Bool)(n:Nat): ∀j∈qeh l high n,0≤j.task∧j.task≤4∧0≤j.at_∧j.at_<(n:Int)∧1≤j.need∧j.need≤20:=by
 have hl5:=(Qj hS).1;induction n with
 |zero=>simp[qeh]
 |succ n ih=>
  intro j hj;rw[qeh,Ybq] at hj;rcases hj with hj|hj
  ·have:=ih j hj;omega
  ·have:=q3v hS high (n:Int) (zlr _) j hj;omega
theorem qqm{l:List Tk}{n:Int}{high:Bool}{js:List Jb}(h:qay l n high=some js):Qe l=true∧0≤n∧n≤200∧qdg js=true:=by
 unfold qay at h;split at h
 ·rename_i hc
  simp only[Yac,Yae] at hc;obtain⟨⟨⟨hS,h0⟩,h2⟩,h60⟩:=hc;injection h with h
  subst h;refine⟨hS,h0,h2,?_⟩;simp only[qdg,Yac,Yae,Yaz];refine⟨fun j hj=>?_,h60⟩;have:=q1b hS high n.toNat j hj;rw[qbo];omega
 ·cases h
theorem qif{B b:Nat}{w:World}{s:St}(h:qe0 B b w s)(A:ZA)(js:List Jb)(c:Nat)(hJ:OJ B w A c js)(hlen:s.out.length≤800000)(hBw:B≤w.heap.size):
  Calls Tryz.prog 134 #[.pointer (some ⟨b,0,none⟩),.slice A js.length c,.bool true] w fun e w'=>e=.returned (.tuple #[])∧qe0 B b w' ⟨s.l,js.length,qfe js,s.pol,s.out++([111,107]++[10])⟩∧Frm B b w w':=by
 obtain⟨hB,A0,c0,jv,p,v,hk,hp,hv,hO0,hJ0⟩:=h;have f1:w.frozen? ⟨b,1,none⟩=false:=zfz hk 1;have c1':w.cell? ⟨b,1,none⟩=some jv:=by rw[Yak hk];rfl
 have g0:=qdz w b 1 (.slice A js.length c);have hk1:=qhg hk 1 (.slice A js.length c)
 have hvb:v.ownBlock≠some b:=by
  intro e;obtain⟨cs,fz,hc⟩:=Ybt hv b e;rw[hk] at hc;injection hc with hc
  injection hc with _ ht _
  exact tn3 ht
 have D1:qe0 B b (w.setCell ⟨b,1,none⟩ (.slice A js.length c)) ⟨s.l,js.length,qfe js,s.pol,s.out⟩:=
  ⟨hB,A0,c0,.slice A js.length c,p,v,hk1,hp,hv.kept g0 (.inr hvb),qae hO0 _ g0 (fun g hg=>by cases hg;exact⟨_,_,_,hk,tn1⟩),qae hJ _ g0 (fun g hg=>by cases hg;exact⟨_,_,_,hk,tn4⟩)⟩
 have F1:Frm B b w (w.setCell ⟨b,1,none⟩ (.slice A js.length c)):=⟨qde g0,(Below.refl B w).setCell (p:=⟨b,1,none⟩) hB _⟩;clear hv hO0 hJ0 g0 hk1 hJ;go_enter Tryz.func134,Tryz.ntmps134;go_wp2_with fail;refine(Q2 D1 [111,107] _ rfl (by simp<;>omega) (zll hBw F1.size)).mono ?_;rintro e w3 ⟨rfl,D3,F3⟩;go_wp2_with fail;go_end0
 exact⟨rfl,D3,F1.trans F3⟩
theorem qe0.jobs{B b:Nat}{w:World}{s:St}(h:qe0 B b w s){js:List Jb}(hn:s.jn=js.length)(hc:s.jc=qfe js): ∃J d,w.cell? ⟨b,1,none⟩=some (.slice J js.length d)∧OJ B w J d js:=by
 obtain⟨hB,A,c,jv,p,v,hk,hp,hv,hO,hJ⟩:=h;rw[hn,hc] at hJ;obtain⟨J,d,rfl⟩:=qcx hJ;exact⟨J,d,by rw[Yak hk];rfl,hJ⟩
theorem qyx(n:Int)(s:St)(js:List Jb)(hr:qay s.l n false=some js)(ho:s.out.length≤700000):qda [114,117,108,101] n s ⟨s.l,js.length,qfe js,s.pol,s.out++([111,107]++[10])⟩:=by
 intro B b w hM D hBw;have D0:=D;obtain⟨A,c,jv,c0,c1,c2,f0,f1,f2,hO,hlc⟩:=D0.cells;go_enter Tryz.func80,Tryz.ntmps80;have e1:qcl s.l n false=js:=by simp[qcl,hr]
 have e2:(qay s.l n false).isSome=true:=by simp[hr]
 go_wp2_with fail;refine(qea A s.l c n false _ hO.ts).mono ?_;rw[e1,e2];rintro e w1 ⟨A1,d1,rfl,o1,b1⟩;have D1:=D.keep b1;have F1:=(Frm.refl B b w).thru hBw b1;go_wp2_with fail;refine(qif D1 A1 js d1 (Ql o1 hBw) (by omega) (zll hBw b1.size)).mono ?_;rintro e w2 ⟨rfl,D2,F2⟩;go_wp2_with fail;go_ret;exact⟨rfl,D2,F1.trans F2⟩
theorem qvx(n:Int)(s:St)(js:List Jb)(hr:qay s.l n true=some js)(ho:s.out.length≤700000):qda [119,111,114,115,116] n s ⟨s.l,js.length,qfe js,s.pol,s.out++([111,107]++[10])⟩:=by
 intro B b w hM D hBw;have D0:=D;obtain⟨A,c,jv,c0,c1,c2,f0,f1,f2,hO,hlc⟩:=D0.cells;go_enter Tryz.func80,Tryz.ntmps80;have e1:qcl s.l n true=js:=by simp[qcl,hr]
 have e2:(qay s.l n true).isSome=true:=by simp[hr]
 go_wp2_with fail;refine(qea A s.l c n true _ hO.ts).mono ?_;rw[e1,e2];rintro e w1 ⟨A1,d1,rfl,o1,b1⟩;have D1:=D.keep b1;have F1:=(Frm.refl B b w).thru hBw b1;go_wp2_with fail;refine(qif D1 A1 js d1 (Ql o1 hBw) (by omega) (zll hBw b1.size)).mono ?_;rintro e w2 ⟨rfl,D2,F2⟩;go_wp2_with fail;go_ret;exact⟨rfl,D2,F1.trans F2⟩
theorem qvy(s:St)(js:List Jb)(hjn:s.jn=js.length)(hjc:s.jc=qfe js)(ht:qdg js=true)(ho:s.out.length≤700000):qcn [115,104,111,119] s {s with out:=s.out++(Va s.l++[10])++(Vf js++[10])}:=by
 intro B b w hM D hBw;have D0:=D;obtain⟨A,c,jv,c0,c1,c2,f0,f1,f2,hO,hlc⟩:=D0.cells;go_enter Tryz.func77,Tryz.ntmps77;have hfl:=qcq s.l;have hjl:=qfc js;have HN:=zhi hjn;have HC:=zhi hjc;clear hjn hjc;go_wp2_with fail;refine(qgl A s.l c _ hO.ts).mono ?_;rintro e w1 ⟨rfl,b1⟩;have D1:=D.keep b1;have F1:=(Frm.refl B b w).thru hBw b1;go_wp2_with fail;refine(Q2 D1 (Va s.l) _ rfl (by omega) (zll hBw F1.size)).mono ?_;rintro e w2 ⟨rfl,D2,F2⟩;obtain⟨J,d,hJ,oJ⟩:=D2.jobs (js:=js) HN.out HC.out;have F2:=F1.trans F2;clear c0 c1 c2;go_wp2_with fail;refine(qfw J js d _ oJ.js ht (hM.keep F2.2) (zll hBw F2.size)).mono ?_;rintro e w3 ⟨rfl,b3⟩;have D3:=D2.keep b3;have F3:=F2.thru hBw b3;go_wp2_with fail;refine(Q2 D3 (Vf js) _ rfl (by simp<;>omega) (zll hBw F3.size)).mono ?_;rintro e w4 ⟨rfl,D4,F4⟩;go_wp2_with fail;go_ret;exact⟨rfl,D4,F3.trans F4⟩
end Go.Proofs.YtmkjmancmiphfaaGreatDoor
