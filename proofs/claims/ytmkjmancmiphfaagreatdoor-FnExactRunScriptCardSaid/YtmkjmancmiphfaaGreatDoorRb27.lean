/-
  Texts of jobs: the program's.
  l9Case: drawn tasks, ways, processors and policies; DrawPackValid, DrawGroupOf.
  l1Some: drawn tasks, sometimes ones that are not valid; l3Case, DrawLeaveTask.
  The helpers of the exact laws: copies, comparisons, sizes.
  Jobs compared, drawn, and at the desk: the words rule, worst, show.
-/
import Derived.Test.YtmkjmancmiphfaaGreatDoorRb24
import Derived.Test.YtmkjmancmiphfaaGreatDoorRb26
namespace Go.Proofs.YtmkjmancmiphfaaGreatDoor
set_option maxHeartbeats 8000000
set_option maxRecDepth 1000000
open Go.RowKit
theorem qab{w:World}{b:Nat}{v0 v1 v2:Value}{t:TypeId}(h:w.heap[b]? =some (.cells #[v0,v1,v2] t (0,0))):
  w.cell? ⟨b,0,none⟩=some v0∧w.cell? ⟨b,1,none⟩=some v1∧w.cell? ⟨b,2,none⟩=some v2:=by
 refine⟨?_,?_,?_⟩<;>(rw[Lib.cell_of_heap h];rfl)
theorem qfv{js:List Jb}(h:qe0 js=true):js.length≤60∧ ∀t∈js,qdh t=true:=by
 simp only[qe0,Bool.and_eq_true,decide_eq_true_eq,List.all_eq_true] at h;exact⟨h.2,h.1⟩
theorem q1y(A:ZA)(js:List Jb)(c:Nat)(w:World)(h:JS w A js)(ht:qe0 js=true):
  Calls Tryz.prog 37 #[.slice A js.length c] w fun e w'=>e=.returned (.bool true)∧Below w.heap.size w w':=by
 obtain⟨hl,hall⟩:=qfv ht;have Hall:=zhi hall;clear hall ht;go_enter Tryz.func37,Tryz.ntmps37;go_wp2_with fail;go_loopw [7] (fun i wr=> ∃k:Nat,i=.int .i64 (k:Int)∧k≤js.length∧Below w.heap.size w wr) (fun i _=>js.length-(intOf i).toNat)
 case atStart=>exact⟨0,rfl,by omega,br⟩
 case round=>
  obtain⟨k,rfl,hk,hb⟩:=hrel;by_cases hlt:k<js.length
  ·obtain⟨b,off,rfl,hbl,hc⟩:=h.keep hb (by omega);obtain⟨k0,k1,k2⟩:=qbg hc k hlt;clear hc;have hv:=(qda _).1 (Hall.out _ (List.getElem_mem hlt));generalize js[k]=t at k0 k1 k2 hv;obtain⟨v1,v2,v3,v4,v5,v6⟩:=hv;go_wp2_with fail;go_roundw
   case rel=>exact⟨k+1,by go_num,by omega,bal hb _⟩
   case measure=>simp[intOf];omega
  ·obtain rfl:k=js.length:=by omega
   go_wp2_with fail;go_ret;exact⟨by simp;omega,hb⟩
theorem quy{w:World}{o:Oper}{a:Act}{K:Act→World→Prop}{Q:Exit→Act→World→Prop}(s x:Operand)
  (ho:o.op=.call {callee:=.builtin .append,args:=#[s,x],argTypes:=#[69,69]})
  (base:Nat) (A:ZA) (l:List (List UInt8)) (n c:Nat) (hn:l.length=n) (hs:a.eval s=.slice A n c) (hown:OS base w A c l)
  (b c1:Nat) (y:List UInt8) (ty:TypeId) (hx:a.eval x=.slice (some ⟨b,0,none⟩) 1 c1) (hb:w.heap[b]? =some (.cells #[.string ⟨y.toArray⟩] ty (0,0)))
  (hl:l.length≤2000000) (hbase:base≤w.heap.size)
  (h: ∀A' c' w',OS base w' A' c' (l++[y])→w.grownBy w' (Value.slice A n c).ownBlock→Below base w w'→K (a.put o.dst (.slice A' (n+1) c')) w'):Oper.wp Tryz.prog o a w K Q:=by
 subst hn;obtain⟨i0,hi,hz0,hz1,hz2⟩:=info_parts q09
 refine wp_append_own w s x 69 ho base 9 i0 _ 1 16 Tryz.underlying69 hi hz0 hz1 hz2 rfl (by decide) (.slice A l.length c) l.length (q0c l) hs hown
  ⟨b,0,none⟩ 1 c1 [.string ⟨y.toArray⟩] hx rfl ?_ ?_ (by unfold maxLen;omega) (by omega) hbase ?_
 ·intro j u hj;rw[qb5,cell_of_row w b j _ ty (0,0) hb,←Array.getElem?_toList];exact hj
 ·intro u hu;simp at hu;subst hu;rfl
 ·intro v' w' hown' hg _;obtain⟨A',c',rfl⟩:=qeh hown';refine h A' c' w' ?_ hg (qb0 hown hg hbase);unfold OS;rw[List.length_append,List.length_singleton];have e:q0c (l++[y])=q0c l++[.string ⟨y.toArray⟩]:=by simp[q0c]
  rw[e];exact hown'
theorem qhg{B:Nat}(A:ZA)(js:List Jb)(c:Nat)(w:World)(h:JS w A js)(ht:qe0 js=true)(hM:Mx B w)(hB:B≤w.heap.size):
  Calls Tryz.prog 12 #[.slice A js.length c] w fun e w'=>e=.returned (.string ⟨(qbc js).toArray⟩)∧Below w.heap.size w w':=by
 obtain⟨hl,hall⟩:=qfv ht;have HF:Hid (qbc js=qhe js):=by simp[Hid,qbc,ht]
 have hfl:=qgv js;have Hall:=zhi hall;have HT:=zhi ht;clear hall ht;go_enter Tryz.func12,Tryz.ntmps12;go_wp2_with fail;refine(q1y A js c _ h HT.out).mono ?_;rintro e w1 ⟨rfl,b1⟩;go_wp2_with fail;go_loopw [3,12] (fun v i wr=> ∃(k bo c':Nat),i=.int .i64 (k:Int)∧v=.slice (some ⟨bo,0,none⟩) k c'∧k≤js.length∧OS w.heap.size wr (some ⟨bo,0,none⟩) c' ((js.take k).map qgu)∧Below w.heap.size w wr) (fun _ i _=>js.length-(intOf i).toNat)
 case atStart=>exact⟨0,_,0,rfl,rfl,by omega,qsj w1 _ b1.size,bal b1 _⟩
 case round=>
  obtain⟨k,bo,c',rfl,rfl,hk,hO,hb⟩:=hrel;by_cases hlt:k<js.length
  ·obtain⟨b,off,rfl,hbl,hc⟩:=h.keep hb (by omega);obtain⟨k0,k1,k2⟩:=qbg hc k hlt;clear hc;have hv:=(qda _).1 (Hall.out _ (List.getElem_mem hlt));have hnx0:(js.take k).map qgu++[qgu js[k]]=(js.take (k+1)).map qgu:=by rw[List.take_succ_eq_append_getElem hlt,List.map_append];rfl
   generalize js[k]=t at k0 k1 k2 hnx0 hv;obtain⟨v1,v2,v3,v4,v5,v6⟩:=hv;have l1:=qap t.task (by omega);have l2:=qap t.at_ (by omega);have l3:=qap t.need (by omega);have hnx:=zhi hnx0;clear hnx0;have hkl:Hid (((js.take k).map qgu).length=k):=by rw[Hid,List.length_map,List.length_take];omega
   have hT:=zha wr (.cells #[.int .i64 t.task,.int .i64 t.at_,.int .i64 t.need] 60 (0,0));have hba:=bal (Below.refl wr.heap.size wr) (.cells #[.int .i64 t.task,.int .i64 t.at_,.int .i64 t.need] 60 (0,0));have hOa:=qht hO (.cells #[.int .i64 t.task,.int .i64 t.at_,.int .i64 t.need] 60 (0,0));clear hO;go_upto_region 7 with fail;generalize World.alloc wr _=wa at hT hba hOa⊢;generalize wr.heap.size=nT at hT⊢;have hlT:=(bl hT);clear k0 k1 k2;refine wp_region_held (S:=fun w'=>w'.heap[nT]? =some (.cells #[.int .i64 t.task,.int .i64 t.at_,.int .i64 t.need] 60 (0,0))) (by kernel_rfl) ?_;change wpAnyH _ _ _ _ _ _ _ _ (World.drew _);have Kz:Below wa.heap.size wa (World.drew wa):=zdr br;have hS0:=(Kz.block nT hlT).trans hT;refine tq 0 16 (.slice (some ⟨bo,0,none⟩) k c') rfl (fun _ _=>rfl) hS0 ?_;refine tq 1 17 (.pointer (some ⟨nT,0,none⟩)) rfl (fun w _=>by go_simp) hS0 ?_;refine tq 2 18 (.int .i64 t.task) rfl (fun w hS=>by obtain⟨h0,h1,h2⟩:=qab hS;go_simp) hS0 ?_;refine tq 5 21 (.pointer (some ⟨nT,1,none⟩)) rfl (fun w _=>by go_simp) hS0 ?_;refine tq 6 22 (.int .i64 t.at_) rfl (fun w hS=>by obtain⟨h0,h1,h2⟩:=qab hS;go_simp) hS0 ?_;refine tq 10 26 (.pointer (some ⟨nT,2,none⟩)) rfl (fun w _=>by go_simp) hS0 ?_;refine tq 11 27 (.int .i64 t.need) rfl (fun w hS=>by obtain⟨h0,h1,h2⟩:=qab hS;go_simp) hS0 ?_;refine qhq 3 19 rfl rfl (by kernel_rfl) (by rfl) 38 Tryz.func38 (by kernel_rfl) rfl _ _ rfl _ ?hv (qdg (hM.keep (Below.mono (qaa hb (qaa hba Kz)) hB)) t.task (by omega) (by omega)) ?_
   case hv=>simp[Act.eval]
   rintro e v1 ⟨rfl,k1⟩;have K1:Below wa.heap.size wa v1:=qaa Kz k1;have S1:=(K1.block nT hlT).trans hT;refine⟨_,rfl,S1,?_⟩;simp only[lsS,lsZ];refine tq 4 20 (.string ⟨(num t.task++[64]).toArray⟩) rfl (fun w _=>by go_simp;rw[if_neg (by omega)];simp[qan]) S1 ?_;refine qhq 7 23 rfl rfl (by kernel_rfl) (by rfl) 38 Tryz.func38 (by kernel_rfl) rfl _ _ rfl _ ?hv (qdg (hM.keep (Below.mono (qaa hb (qaa hba K1)) hB)) t.at_ (by omega) (by omega)) ?_
   case hv=>simp[Act.eval]
   rintro e v2 ⟨rfl,k2⟩;have K2:Below wa.heap.size wa v2:=qaa K1 k2;have S2:=(K2.block nT hlT).trans hT;refine⟨_,rfl,S2,?_⟩;simp only[lsS,lsZ];refine tq 8 24 (.string ⟨(num t.task++64::num t.at_).toArray⟩) rfl (fun w _=>by go_simp;rw[if_neg (by omega)];simp[qan]) S2 ?_;refine tq 9 25 (.string ⟨(num t.task++64::(num t.at_++[58])).toArray⟩) rfl (fun w _=>by go_simp;rw[if_neg (by omega)];simp[qan]) S2 ?_;refine qhq 12 28 rfl rfl (by kernel_rfl) (by rfl) 38 Tryz.func38 (by kernel_rfl) rfl _ _ rfl _ ?hv (qdg (hM.keep (Below.mono (qaa hb (qaa hba K2)) hB)) t.need (by omega) (by omega)) ?_
   case hv=>simp[Act.eval]
   rintro e v3 ⟨rfl,k3⟩;have K3:Below wa.heap.size wa v3:=qaa K2 k3;have S3:=(K3.block nT hlT).trans hT;refine⟨_,rfl,S3,?_⟩;simp only[lsS,lsZ];refine tq 13 29 (.string ⟨(num t.task++64::(num t.at_++58::num t.need)).toArray⟩) rfl (fun w _=>by go_simp;rw[if_neg (by omega)];simp[qan]) S3 ?_;refine q6o 14 30 rfl rfl (by kernel_rfl) (by rfl) ?_;intro K hK;go_simp
   have hX:Hid (num t.task++64::(num t.at_++58::num t.need)=qgu t):=by simp[Hid,qgu]
   have hN3:=zha v3 (.cells #[.string ⟨(num t.task++64::(num t.at_++58::num t.need)).toArray⟩] 9 (0,0));have hS4:=(Below.heap_alloc v3 (.cells #[.string ⟨(num t.task++64::(num t.at_++58::num t.need)).toArray⟩] 9 (0,0)) nT (bl S3)).trans S3;have K4:=bal K3 (.cells #[.string ⟨(num t.task++64::(num t.at_++58::num t.need)).toArray⟩] 9 (0,0));have hO4:=qos hOa K4;have B4:Below w.heap.size w _:=qaa (qaa hb hba) K4;refine hK (.slice (some ⟨v3.heap.size,0,none⟩) 1 1) _ hS4 ?_;simp only[lsS,lsZ];generalize World.alloc v3 _=v4 at hN3 hS4 K4 hO4 B4⊢;rw[hX.out] at hN3;clear hK;refine q6o 15 31 rfl rfl (by kernel_rfl) (by rfl) ?_;intro K' hK';refine quy _ _ rfl w.heap.size (some ⟨bo,0,none⟩) ((js.take k).map qgu) k c' hkl.out rfl hO4 v3.heap.size 1 (qgu t) 9 rfl hN3 (by rw[hkl.out];omega) B4.size ?_;intro A5 c5 w5 o5 g5 b5;rw[hnx.out] at o5;have hS5:=qoh hS4 g5 (qyl hO4 hS4 (by decide));obtain⟨b4,rfl,_,_⟩:=qwf o5 (by simp;omega);refine hK' (.slice (some ⟨b4,0,none⟩) (k+1) c5) _ hS5 ?_;simp only[lsS,lsZ];refine tq 16 3 (.slice (some ⟨b4,0,none⟩) (k+1) c5) rfl (fun _ _=>rfl) hS5 ?_;refine wpAnyH_done (by kernel_rfl) ?_ _;go_wp2_with fail;go_roundw
   case rel=>exact⟨k+1,b4,c5,by go_num,rfl,by omega,o5,B4.trans b5⟩
   case measure=>simp[intOf];omega
  ·obtain rfl:k=js.length:=by omega
   rw[List.take_length] at hO;have hsz:=qao hO;obtain⟨hs1,hs2⟩:=hsz
   have hcell: ∀(j:Nat) x,(js.map (fun t=>(⟨(qgu t).toArray⟩:ByteArray)))[j]? =some x→wr.cell? ⟨bo,0+j,none⟩=some (.string x):=by
    intro j x hj
    have:=World.ownsRow.cells hO (g:=bo) rfl j (.string x) (by
     simp only[q0c,List.getElem?_map] at hj⊢;cases e:js[j]? with
     |none=>rw[e] at hj;cases hj
     |some t=>rw[e] at hj;simp at hj⊢;exact hj)
    rw[Nat.zero_add];rwa [qb5] at this
   have hbw:bo<wr.heap.size:=by
    rcases hO.2 with⟨hv,_⟩|⟨g,cap,cur,hv,hg,hh,_⟩
    ·cases hv
    ·cases hv
     exact(bl hh)
   have K:=Tryz.strings_Join bo 0 c' (js.map (fun t=>(⟨(qgu t).toArray⟩:ByteArray))) ⟨#[32]⟩ wr hcell hbw (by simp;omega) (by rw[List.length_map] at hs1;simp;omega);have e1:(js.map (fun t=>(⟨(qgu t).toArray⟩:ByteArray))).map (·.data.toList)=js.map qgu:=by simp
   rw[e1] at K;have e2:(js.map (fun t=>(⟨(qgu t).toArray⟩:ByteArray))).length=js.length:=List.length_map ..;have K2:=K (by show(qhe js).length≤_;rw[HF.out] at hfl;omega);rw[e2] at K2;clear K e1 e2 hcell hO hs1 hs2;go_wp2_with fail;refine K2.mono ?_;rintro e w4 ⟨rfl,b4⟩;go_wp2_with fail;go_ret;exact⟨by rw[HF.out];rfl,qaa hb b4⟩
theorem q4b{l:List Tk}(hS:qad l=true)(high:Bool)(a:Int){k:Nat}(hk:k≤l.length): ∀j∈qp2 l a high k,0≤j.task∧j.task<(k:Int)∧j.at_=a∧1≤j.need∧j.need≤20:=by
 induction k with
 |zero=>simp[qp2]
 |succ k ih=>
  intro j hj;rw[qp2,List.mem_append] at hj;rcases hj with hj|hj
  ·have:=ih (by omega) j hj;omega
  ·have hv:=qcb (qaq hS (show k<l.length by omega));split at hj
   ·rw[List.mem_singleton] at hj;subst hj;cases high<;>simp<;>omega
   ·simp at hj
theorem q1z{l:List Tk}(hS:qad l=true)(high:Bool)(n:Nat): ∀j∈qf1 l high n,0≤j.task∧j.task≤4∧0≤j.at_∧j.at_<(n:Int)∧1≤j.need∧j.need≤20:=by
 have hl5:=(qaj hS).1;induction n with
 |zero=>simp[qf1]
 |succ n ih=>
  intro j hj;rw[qf1,List.mem_append] at hj;rcases hj with hj|hj
  ·have:=ih j hj;omega
  ·have:=q4b hS high (n:Int) (zlr _) j hj;omega
theorem qru{l:List Tk}{n:Int}{high:Bool}{js:List Jb}(h:qcj l n high=some js):qad l=true∧0≤n∧n≤200∧qe0 js=true:=by
 unfold qcj at h;split at h
 ·rename_i hc
  simp only[Bool.and_eq_true,decide_eq_true_eq] at hc;obtain⟨⟨⟨hS,h0⟩,h2⟩,h60⟩:=hc;injection h with h
  subst h;refine⟨hS,h0,h2,?_⟩;simp only[qe0,Bool.and_eq_true,decide_eq_true_eq,List.all_eq_true];refine⟨fun j hj=>?_,h60⟩;have:=q1z hS high n.toNat j hj;rw[qda];omega
 ·cases h
theorem qjy{B b:Nat}{w:World}{s:St}(h:qgj B b w s)(A:ZA)(js:List Jb)(c:Nat)(hJ:OJ B w A c js)(hlen:s.out.length≤800000)(hBw:B≤w.heap.size):
  Calls Tryz.prog 134 #[.pointer (some ⟨b,0,none⟩),.slice A js.length c,.bool true] w fun e w'=>e=.returned (.tuple #[])∧qgj B b w' ⟨s.l,js.length,qgx js,s.pol,s.out++([111,107]++[10])⟩∧Frm B b w w':=by
 obtain⟨hB,A0,c0,jv,p,v,hk,hp,hv,hO0,hJ0⟩:=h;have f1:w.frozen? ⟨b,1,none⟩=false:=zfz hk 1;have c1':w.cell? ⟨b,1,none⟩=some jv:=by rw[Lib.cell_of_heap hk];rfl
 have g0:=qfi w b 1 (.slice A js.length c);have hk1:=qiy hk 1 (.slice A js.length c)
 have hvb:v.ownBlock≠some b:=by
  intro e;obtain⟨cs,fz,hc⟩:=Lib.ownsRowF_kind hv b e;rw[hk] at hc;injection hc with hc
  injection hc with _ ht _
  exact tn3 ht
 have D1:qgj B b (w.setCell ⟨b,1,none⟩ (.slice A js.length c)) ⟨s.l,js.length,qgx js,s.pol,s.out⟩:=
  ⟨hB,A0,c0,.slice A js.length c,p,v,hk1,hp,hv.kept g0 (.inr hvb),qb1 hO0 _ g0 (fun g hg=>by cases hg;exact⟨_,_,_,hk,tn1⟩),qb1 hJ _ g0 (fun g hg=>by cases hg;exact⟨_,_,_,hk,tn4⟩)⟩
 have F1:Frm B b w (w.setCell ⟨b,1,none⟩ (.slice A js.length c)):=⟨qey g0,(Below.refl B w).setCell (p:=⟨b,1,none⟩) hB _⟩;clear hv hO0 hJ0 g0 hk1 hJ;go_enter Tryz.func134,Tryz.ntmps134;go_wp2_with fail;refine(qa0 D1 [111,107] _ rfl (by simp<;>omega) (zll hBw F1.size)).mono ?_;rintro e w3 ⟨rfl,D3,F3⟩;go_wp2_with fail;go_end0
 exact⟨rfl,D3,F1.trans F3⟩
theorem qgj.jobs{B b:Nat}{w:World}{s:St}(h:qgj B b w s){js:List Jb}(hn:s.jn=js.length)(hc:s.jc=qgx js): ∃J d,w.cell? ⟨b,1,none⟩=some (.slice J js.length d)∧OJ B w J d js:=by
 obtain⟨hB,A,c,jv,p,v,hk,hp,hv,hO,hJ⟩:=h;rw[hn,hc] at hJ;obtain⟨J,d,rfl⟩:=qeh hJ;exact⟨J,d,by rw[Lib.cell_of_heap hk];rfl,hJ⟩
theorem qzq(n:Int)(s:St)(js:List Jb)(hr:qcj s.l n false=some js)(ho:s.out.length≤700000):qeu [114,117,108,101] n s ⟨s.l,js.length,qgx js,s.pol,s.out++([111,107]++[10])⟩:=by
 intro B b w hM D hBw;have D0:=D;obtain⟨A,c,jv,c0,c1,c2,f0,f1,f2,hO,hlc⟩:=D0.cells;go_enter Tryz.func80,Tryz.ntmps80;have e1:qd8 s.l n false=js:=by simp[qd8,hr]
 have e2:(qcj s.l n false).isSome=true:=by simp[hr]
 go_wp2_with fail;refine(qfu A s.l c n false _ hO.ts).mono ?_;rw[e1,e2];rintro e w1 ⟨A1,d1,rfl,o1,b1⟩;have D1:=D.keep b1;have F1:=(Frm.refl B b w).thru hBw b1;go_wp2_with fail;refine(qjy D1 A1 js d1 (qal o1 hBw) (by omega) (zll hBw b1.size)).mono ?_;rintro e w2 ⟨rfl,D2,F2⟩;go_wp2_with fail;go_ret;exact⟨rfl,D2,F1.trans F2⟩
theorem qwx(n:Int)(s:St)(js:List Jb)(hr:qcj s.l n true=some js)(ho:s.out.length≤700000):qeu [119,111,114,115,116] n s ⟨s.l,js.length,qgx js,s.pol,s.out++([111,107]++[10])⟩:=by
 intro B b w hM D hBw;have D0:=D;obtain⟨A,c,jv,c0,c1,c2,f0,f1,f2,hO,hlc⟩:=D0.cells;go_enter Tryz.func80,Tryz.ntmps80;have e1:qd8 s.l n true=js:=by simp[qd8,hr]
 have e2:(qcj s.l n true).isSome=true:=by simp[hr]
 go_wp2_with fail;refine(qfu A s.l c n true _ hO.ts).mono ?_;rw[e1,e2];rintro e w1 ⟨A1,d1,rfl,o1,b1⟩;have D1:=D.keep b1;have F1:=(Frm.refl B b w).thru hBw b1;go_wp2_with fail;refine(qjy D1 A1 js d1 (qal o1 hBw) (by omega) (zll hBw b1.size)).mono ?_;rintro e w2 ⟨rfl,D2,F2⟩;go_wp2_with fail;go_ret;exact⟨rfl,D2,F1.trans F2⟩
theorem qwy(s:St)(js:List Jb)(hjn:s.jn=js.length)(hjc:s.jc=qgx js)(ht:qe0 js=true)(ho:s.out.length≤700000):qea [115,104,111,119] s {s with out:=s.out++(qa9 s.l++[10])++(qbc js++[10])}:=by
 intro B b w hM D hBw;have D0:=D;obtain⟨A,c,jv,c0,c1,c2,f0,f1,f2,hO,hlc⟩:=D0.cells;go_enter Tryz.func77,Tryz.ntmps77;have hfl:=qe6 s.l;have hjl:=qgv js;have HN:=zhi hjn;have HC:=zhi hjc;clear hjn hjc;go_wp2_with fail;refine(qh4 A s.l c _ hO.ts).mono ?_;rintro e w1 ⟨rfl,b1⟩;have D1:=D.keep b1;have F1:=(Frm.refl B b w).thru hBw b1;go_wp2_with fail;refine(qa0 D1 (qa9 s.l) _ rfl (by omega) (zll hBw F1.size)).mono ?_;rintro e w2 ⟨rfl,D2,F2⟩;obtain⟨J,d,hJ,oJ⟩:=D2.jobs (js:=js) HN.out HC.out;have F2:=F1.trans F2;clear c0 c1 c2;go_wp2_with fail;refine(qhg J js d _ oJ.js ht (hM.keep F2.2) (zll hBw F2.size)).mono ?_;rintro e w3 ⟨rfl,b3⟩;have D3:=D2.keep b3;have F3:=F2.thru hBw b3;go_wp2_with fail;refine(qa0 D3 (qbc js) _ rfl (by simp<;>omega) (zll hBw F3.size)).mono ?_;rintro e w4 ⟨rfl,D4,F4⟩;go_wp2_with fail;go_ret;exact⟨rfl,D4,F3.trans F4⟩
end Go.Proofs.YtmkjmancmiphfaaGreatDoor
