/-
  RunJobs: the program's.
-/
import Derived.Test.YtmkjmancmiphfaaGreatDoorRc10
import Derived.Laws.EntriesVeiled
namespace Go.Proofs.YtmkjmancmiphfaaGreatDoor
set_option maxHeartbeats 8000000
set_option maxRecDepth 1000000
open Go.RowKit
theorem q7b(w:World)(A B C D:Obj):((((w.alloc A).alloc B).alloc C).alloc D).heap[w.heap.size]? =some A∧((((w.alloc A).alloc B).alloc C).alloc D).heap[w.heap.size+1]? =some B∧((((w.alloc A).alloc B).alloc C).alloc D).heap[w.heap.size+1+1]? =some C∧((((w.alloc A).alloc B).alloc C).alloc D).heap[w.heap.size+1+1+1]? =some D:=by
 have s1:(w.alloc A).heap.size=w.heap.size+1:=by simp
 have s2:((w.alloc A).alloc B).heap.size=w.heap.size+1+1:=by simp
 have s3:(((w.alloc A).alloc B).alloc C).heap.size=w.heap.size+1+1+1:=by simp
 refine⟨?_,?_,?_,?_⟩
 ·exact(Yaj _ _ _ (by omega)).trans ((Yaj _ _ _ (by omega)).trans ((Yaj _ _ _ (by omega)).trans (zha w A)))
 ·exact(Yaj _ _ _ (by omega)).trans ((Yaj _ _ _ (by omega)).trans (by rw[←s1];exact zha _ B))
 ·exact(Yaj _ _ _ (by omega)).trans (by rw[←s2];exact zha _ C)
 ·rw[←s3];exact zha _ D
def qo7(n k:Nat):List Int:=List.replicate k (-1)++List.replicate (n-k) 0
theorem qtb{n k:Nat}(h:k≤n):(qo7 n k).length=n:=by simp[qo7];omega
theorem q0f{n k:Nat}(h:k<n):(qo7 n k).set k (-1)=qo7 n (k+1):=by
 unfold qo7;obtain⟨m,hm⟩: ∃m,n-k=m+1:=⟨n-k-1,by omega⟩;rw[Yda _ _ (by simp),hm,List.replicate_succ,show n-(k+1)=m by omega];simp[List.replicate_succ']
theorem qyk(n:Nat):qo7 n 0=List.replicate n 0:=by simp[qo7]
theorem q0g(n:Nat):qo7 n n=List.replicate n (-1):=by simp[qo7]
theorem q7c{base:Nat}{w:World}{g:Nat}{x:Int}(h:w.heap[g]? =some (.cells #[.int .i64 x] 3 (0,0)))(hb:base≤g):OI base w (some ⟨g,0,none⟩) 1 [x]:=
 ⟨rfl,.inr ⟨g,1,_,rfl,hb,h,zlr _,by decide,rfl,rfl⟩⟩
theorem qav{n:Nat}{w:World}(h:n≤w.heap.size)(o:Obj):n≤(w.alloc o).heap.size:=zll h (by simp)
theorem qa4{w:World}{b:Nat}{v:Value}{t:TypeId}(h:w.heap[b]? =some (.cells #[v] t (0,0))):w.cell? ⟨b,0,none⟩=some v:=by rw[Yak h];rfl
theorem qmf{l:List Tk}{js:List Jb}(hV:Q9 l js=true)(pol:Int)(hp:pol=0∨pol=1)(hf:pol=1→qsi l=true)(tk:Nat)(htk:tk≤200)(A:ZA)(c:Nat)(B:ZA)(d:Nat)(w:World)(h:TS w A l)(g:JS w B js)(hlm:l.length≤maxLen)(hjd:js.length≤d)(hjm:js.length≤maxLen):
  Calls Tryz.prog 8 #[.slice A l.length c,.slice B js.length d,.int .i64 pol,.int .i64 (tk:Int)] w fun e w'=> ∃ge ce gt ct gs cs,e=.returned (.tuple #[.agg #[sl ge (qce l js (qgp l) (qgq l) pol tk).en.length ce,sl gt (qce l js (qgp l) (qgq l) pol tk).tr.length ct,sl gs (qce l js (qgp l) (qgq l) pol tk).sw.length cs,.bool (qce l js (qgp l) (qgq l) pol tk).hi],.bool true])∧
   IRows w.heap.size w' [(ge,ce,(qce l js (qgp l) (qgq l) pol tk).en),(gt,ct,(qce l js (qgp l) (qgq l) pol tk).tr),(gs,cs,(qce l js (qgp l) (qgq l) pol tk).sw)]∧Below w.heap.size w w':=by
 have V:=qnj hV;have HV:=zhi hV
 have h60:js.length≤60:=by
  simp only[Q9,Yac,Yae] at hV;exact hV.1.2
 clear hV;generalize hnum:qgp l=num at V⊢;generalize hden:qgq l=den at V⊢;have hfv:qkn l=.tuple #[sv num den,.bool (qsi l)]:=by rw[qva,hnum,hden]
 have HF:=zhi hfv;have HP:=zhi hf;clear hnum hden hfv hf;go_enter Tryz.func8,Tryz.ntmps8;go_wp2_with fail;have H4:=q7b w (.cells #[.slice A l.length c] 23 (0,0)) (.cells #[.slice B js.length d] 24 (0,0)) (.cells #[.int .i64 pol] 3 (0,0)) (.cells #[.slice none 0 0,.slice none 0 0,.slice none 0 0,.bool false] RT (0,0));have Bz:=bal (bal (bal (bal (Below.refl w.heap.size w) (.cells #[.slice A l.length c] 23 (0,0))) (.cells #[.slice B js.length d] 24 (0,0))) (.cells #[.int .i64 pol] 3 (0,0))) (.cells #[.slice none 0 0,.slice none 0 0,.slice none 0 0,.bool false] RT (0,0));generalize World.alloc (World.alloc (World.alloc (World.alloc w _) _) _) _=wz at H4 Bz⊢;obtain⟨n,hn⟩: ∃n,w.heap.size=n:=⟨_,rfl⟩;have hnn:=hn;rw[hn] at H4⊢;obtain⟨zL,zJ,zP,zQ⟩:=H4;have hnz:n+1+1+1<wz.heap.size:=(bl zQ);refine(qbs A l c _ (h.keep Bz) hlm).mono ?_;rw[HF.out];rintro e w1 ⟨rfl,b1⟩;have yL:=(b1.block n (by omega)).trans zL;have yJ:=(b1.block (n+1) (by omega)).trans zJ;have yP:=(b1.block (n+1+1) (by omega)).trans zP;have yQ:=(b1.block (n+1+1+1) hnz).trans zQ;have B1:=Qa Bz b1;have hnz1:=zlt hnz b1.size;clear zL zJ zP zQ b1 Bz hnz;go_upto_region 2 with fail;have hX:=zha w1 (.cells #[.int .i64 num,.int .i64 den] 54 (0,0));have bX:=bal (Below.refl w1.heap.size w1) (.cells #[.int .i64 num,.int .i64 den] 54 (0,0));have xL:=(bX.block n (by omega)).trans yL;have xJ:=(bX.block (n+1) (by omega)).trans yJ;have xP:=(bX.block (n+1+1) (by omega)).trans yP;have xQ:=(bX.block (n+1+1+1) hnz1).trans yQ;have B2:=Qa B1 bX;have hnX:=hnz1;generalize World.alloc w1 _=w2 at hX xL xJ xP xQ B2⊢;generalize w1.heap.size=Xb at hX hnX⊢;clear bX yL yJ yP yQ B1 hnz1;have hXl:=(bl hX);go_cut [62] from 35 to 62 (fun v wc=>v=.bool false∧Below w2.heap.size w2 wc)
 case first=>
  have l0:=qa4 xL;have j0:=qa4 xJ;have p0:=qa4 xP;have t0:decide ((tk:Int)<0)=false:=Yaf (by omega);have t1:decide ((200:Int)<(tk:Int))=false:=Yaf (by omega);rcases hp with rfl|rfl
  ·go_wp2_with fail;refine(qb2 A l c B js d _ (h.keep B2) (g.keep B2) hjd hjm).mono ?_;rw[HV.out];rintro e w3 ⟨rfl,b3⟩;have p1:=(b3.cell (p:=⟨n+1+1,0,none⟩) (show n+1+1<w2.heap.size by omega)).trans p0;go_wp2_with fail;go_meet
   exact⟨rfl,b3⟩
  ·have hfb:(!qsi l)=false:=by rw[HP.out rfl];rfl
   go_wp2_with fail;refine(qb2 A l c B js d _ (h.keep B2) (g.keep B2) hjd hjm).mono ?_;rw[HV.out];rintro e w3 ⟨rfl,b3⟩;have p1:=(b3.cell (p:=⟨n+1+1,0,none⟩) (show n+1+1<w2.heap.size by omega)).trans p0;go_wp2_with fail;go_meet
   exact⟨rfl,b3⟩
 case rest=>
  obtain⟨rfl,hcut⟩:=hcut;have xX:=(hcut.block Xb hXl).trans hX;have cL:=(hcut.block n (by omega)).trans xL;have cJ:=(hcut.block (n+1) (by omega)).trans xJ;have cP:=(hcut.block (n+1+1) (by omega)).trans xP;have cQ:=(hcut.block (n+1+1+1) (by omega)).trans xQ;have Bc:=Qa B2 hcut;have hXc:=zlt hXl hcut.size;clear hX xL xJ xP xQ B2 hcut hXl HP HF;obtain⟨row,hmk,hmo⟩:=qz1 js.length (by omega);have HMO:=zhi hmo;clear hmo;have j0:=qa4 cJ;go_upto_region 5 with fail; -- the run's block and its rows
  obtain⟨ge,hge⟩: ∃ge,wc.heap.size=ge:=⟨_,rfl⟩;have R0:IRows n wc [(n+1+1,1,[pol])]:=⟨fun r hr=>by rw[Yaw] at hr;subst hr;exact q7c cP (by omega),by simp⟩;have R1:=R0.new (w':=wc.alloc (.cells row 3)) (Ql (HMO.out wc) (by omega)) (bal br _);have s1:(wc.alloc (.cells row 3)).heap.size=ge+1:=by simp[hge]
  have R2:=R1.new (Vh (wc.alloc (.cells row 3)) n (by omega)) (bal br _);have s2:((wc.alloc (.cells row 3)).alloc (.cells #[] 3)).heap.size=ge+1+1:=by simp[hge]
  have R3:=R2.new (Vh ((wc.alloc (.cells row 3)).alloc (.cells #[] 3)) n (by omega)) (bal br _);have s3:(((wc.alloc (.cells row 3)).alloc (.cells #[] 3)).alloc (.cells #[] 3)).heap.size=ge+1+1+1:=by simp[hge]
  have R4:=R3.keep (bal br (.cells #[.slice (some ⟨wc.heap.size,0,none⟩) js.length js.length,.slice (some ⟨wc.heap.size+1,0,none⟩) 0 0,.slice (some ⟨wc.heap.size+1+1,0,none⟩) 0 0,.bool false] RT (0,0)));have hR:=zha (((wc.alloc (.cells row 3)).alloc (.cells #[] 3)).alloc (.cells #[] 3)) (.cells #[.slice (some ⟨wc.heap.size,0,none⟩) js.length js.length,.slice (some ⟨wc.heap.size+1,0,none⟩) 0 0,.slice (some ⟨wc.heap.size+1+1,0,none⟩) 0 0,.bool false] RT (0,0));have bd:=bal (bal (bal (bal (Below.refl wc.heap.size wc) (.cells row 3)) (.cells #[] 3)) (.cells #[] 3)) (.cells #[.slice (some ⟨wc.heap.size,0,none⟩) js.length js.length,.slice (some ⟨wc.heap.size+1,0,none⟩) 0 0,.slice (some ⟨wc.heap.size+1+1,0,none⟩) 0 0,.bool false] RT (0,0));rw[s3] at hR;rw[s1,s2] at R4;simp only[Ybw,Ycj] at R4;clear R0 R1 R2 R3 s1 s2 s3;generalize World.alloc (World.alloc (World.alloc (World.alloc wc _) _) _) _=wd at R4 hR bd⊢;have hXg:Xb<ge:=by omega
  have dX:=(bd.block Xb hXc).trans xX;have dL:=(bd.block n (by omega)).trans cL;have dJ:=(bd.block (n+1) (by omega)).trans cJ;have dQ:=(bd.block (n+1+1+1) (by omega)).trans cQ;have Bd:=Qa Bc bd;rw[hge] at R4 hR⊢;clear xX cL cJ cP cQ Bc bd j0 hXc hge;have r0:wd.cell? ⟨ge+1+1+1,0,none⟩=some (sl ge js.length js.length):=by rw[Yak hR];rfl
  have hRl:=(bl hR);go_wp2_with fail;clear r0;go_loopg [73] js.length (fun gg i wr=> ∃k:Nat,gg+k=js.length∧i=.int .i64 (k:Int)∧IRows n wr [(n+1+1,1,[pol]),(ge,js.length,qo7 js.length k),(ge+1,0,[]),(ge+1+1,0,[])]∧Lib.OthersKept 3 none wd wr∧Below n wd wr)
  case atStart=>exact⟨0,by omega,rfl,by rw[qyk];exact R4,Lib.OthersKept.refl _ _ _,br⟩
  case round=>
   clear R4;obtain⟨k,hgk,rfl,hRw,hoth,hbe⟩:=hrel;have hR':=hoth _ _ hR (by simp) (by rintro c fz e;injection e with _ e _;exact rt1 e);have r0:wr.cell? ⟨ge+1+1+1,0,none⟩=some (sl ge js.length js.length):=by rw[Yak hR'];rfl
   have hnw:n≤wr.heap.size:=by have:=(hRw.lt (r:=(n+1+1,1,[pol])) (by simp)).2;show n≤_;omega
   by_cases hlt:k<js.length
   ·obtain⟨ck,fk⟩:=qdd (hRw.at 1 rfl) k (by rw[qtb (by omega)];exact hlt);have hst:=hRw.store 1 rfl k (-1);rw[q0f hlt] at hst;have hk:=World.ownsRow.lt (hRw.at 1 rfl) ge rfl;go_wp2_with fail;go_roundg (js.length-(k+1))
    case measure=>omega
    case rel=>exact⟨k+1,by omega,by go_num,hst,hoth.grown (Qx wr ge k _) (fun g hg=>by
     cases hg
     rcases(hRw.at 1 rfl).2 with⟨hv,_⟩|⟨g,cap,cur,hv,_,hh,_⟩
     ·cases hv
     ·cases hv
      exact⟨cur,(0,0),hh⟩),hbe.grown (Qx wr ge k _) hnw (fun g hg=>by cases hg;exact hk.1)⟩
   ·obtain rfl:k=js.length:=by omega
    rw[q0g] at hRw;have bL:=hoth _ _ dL (by simp) (by rintro c fz e;injection e with _ e _;exact rt2 e);have bJ:=hoth _ _ dJ (by simp) (by rintro c fz e;injection e with _ e _;exact rt3 e);have bX:=hoth _ _ dX (by simp) (by rintro c fz e;injection e with _ e _;exact rt4 e);have bQ:=hoth _ _ dQ (by simp) (by rintro c fz e;injection e with _ e _;exact rt1 e);have Bw:Below w.heap.size w wr:=Bd.trans (hbe.mono (by omega));have j0:=qa4 bJ;clear r0 hoth hbe dL dJ dX dQ Bd hlt;obtain⟨gd,hgd⟩: ∃gd,wr.heap.size=gd:=⟨_,rfl⟩;have hRg:ge+1+1+1<gd:=by rw[←hgd];exact(Array.getElem?_eq_some_iff.1 hR').1
    have R1:=hRw.new (w':=wr.alloc (.cells row 3)) (Ql (HMO.out wr) hnw) (bal br _);have s1:(wr.alloc (.cells row 3)).heap.size=gd+1:=by simp[hgd]
    have R2:=R1.new (Vh (wr.alloc (.cells row 3)) n (by omega)) (bal br _);have s2:((wr.alloc (.cells row 3)).alloc (.cells #[] 3)).heap.size=gd+1+1:=by simp[hgd]
    have R3:=R2.keep (bal br (.cells #[fv n (n+1) (ge+1+1+1) Xb] 51 (0,0)));have hF:=zha ((wr.alloc (.cells row 3)).alloc (.cells #[] 3)) (.cells #[fv n (n+1) (ge+1+1+1) Xb] 51 (0,0));have bd:=bal (bal (bal (Below.refl wr.heap.size wr) (.cells row 3)) (.cells #[] 3)) (.cells #[fv n (n+1) (ge+1+1+1) Xb] 51 (0,0));rw[s2] at hF;rw[s1] at R3;simp only[Ybw,Ycj] at R3;clear R1 R2 s1 s2 hRw;go_upto_region 14 with fail;generalize World.alloc (World.alloc (World.alloc wr _) _) _=wS at R3 hF bd⊢;have eL:=(bd.block n (by omega)).trans bL;have eJ:=(bd.block (n+1) (by omega)).trans bJ;have eX:=(bd.block Xb (by omega)).trans bX;have eQ:=(bd.block (n+1+1+1) (by omega)).trans bQ;have eR:=(bd.block (ge+1+1+1) (by omega)).trans hR';have Bw:=Qa Bw bd;rw[hgd] at R3;clear bL bJ bX bQ hR' bd j0 hgd hmk HMO hR hRl hnw;generalize hRR:ge+1+1+1=R at hF eR hRg⊢;have bx:Bxs wS A l c B js d num den n (n+1) R Xb (gd+1+1):=⟨eL,eJ,eX,hF,by omega,by omega,by omega,by omega⟩
    have M0:MR n wS R wS (n+1+1) pol ge js.length (List.replicate js.length (-1)) (ge+1) 0 [] (ge+1+1) 0 [] gd js.length (List.replicate js.length 0) (gd+1) 0 [] false []:=
     ⟨R3,by rw[List.length_replicate];exact eR,Lib.OthersKept.refl _ _ _,br,by omega⟩
    have hQ3:n+1+1+1≠R:=by omega
    have hnJ0:n<n+1:=by omega
    clear R3 eL eJ eX eR hF hRR;generalize hJJ:n+1=J at bx M0 eQ hQ3 hnJ0⊢;generalize hFF:gd+1+1=F at bx⊢;clear hJJ hFF hnX hXg;have hap:=zhi (qd8 HV.out);have hvv:Hid (∀k,k<l.length→vld (Qg l k)=true):=fun k hk=>Qs V.v hk
    go_wp2_with fail;go_loopg [15,88] tk (fun gg v i wr=> ∃(k gt ct gs cs gl cl:Nat) (s:Mc),gg+k=tk∧i=.int .i64 (k:Int)∧v=sl gl s.lf.length cl∧Hid (qce l js num den pol k=s)∧MR n wS R wr (J+1) pol ge js.length s.en gt ct s.tr gs cs s.sw gd js.length s.dn gl cl (Vv s.lf) s.hi [])
    case atStart=>exact⟨0,_,_,_,_,_,_,_,by omega,rfl,rfl,rfl,M0⟩
    case round=>
     clear M0;obtain⟨k,gt,ct,gs,cs,gl,cl,s,hgk,rfl,rfl,hs,M⟩:=hrel;have hI:=q68 (num:=num) (den:=den) (pol:=pol) hap.out hvv.out k;rw[hs.out] at hI;have hln:=qiw (l:=l) (num:=num) (den:=den) (pol:=pol) h60 k;rw[hs.out] at hln;obtain⟨hl1e,hl2,hl3⟩:=hln;have hl1:s.tr.length≤200:=by omega
     clear hl1e;have HI:=zhi hI;have HenL0:=zhi hI.enL;have HdnL:=zhi hI.dnL;clear hI;have hnw:n≤wr.heap.size:=by have:=M.polO.2;omega
     by_cases hlt:k<tk
     ·go_upto_if 93 with fail
      go_cut [] from 94 to 94 (fun wy=>MR n wS R wy (J+1) pol ge js.length s.en gt ct s.tr gs cs s.sw gd js.length s.dn gl cl (Vv s.lf) (qan s) [])
      case first=>
       as_aux_lemma=>
        obtain⟨_,_,_,r3,_,_,f3⟩:=M.cells;by_cases he:s.lf.length=0
        ·have e0:((s.lf.length:Int)==0)=true:=by rw[Yef];omega
         have M2:=M.setHi false;have hmd:Hid (qan s=false):=by simp[Hid,qan,List.eq_nil_of_length_eq_zero he]
         clear he;go_wp2_with fail;go_meet
         rw[hmd.out];exact M2
        ·have e0:((s.lf.length:Int)==0)=false:=beq_eq_false_iff_ne.2 (by omega)
         have hmd:Hid (qan s=s.hi):=by
          have hne:s.lf≠[]:=fun e=>he (by rw[e];rfl)
          simp[Hid,qan,hne]
         clear he;go_wp2_with fail;go_meet
         rw[hmd.out];exact M
      case rest=>
       have M:=hcut;have M:=hcut;clear hcut;obtain⟨hbL,hbJ,hbX,hbF⟩:=M.boxes bx;have j0:=qa4 hbJ;go_wp2_with fail;go_loopg [15,97] js.length (fun gg v i wy=> ∃(m gl' cl':Nat) (en':List Int) (lf':List Nat),gg+m=js.length∧i=.int .i64 (m:Int)∧v=sl gl' lf'.length cl'∧Hid (qby l js (k:Int) (qan s) (s.en,s.lf) m=(en',lf'))∧MR n wS R wy (J+1) pol ge js.length en' gt ct s.tr gs cs s.sw gd js.length s.dn gl' cl' (Vv lf') (qan s) [])
       case atStart=>exact⟨0,gl,cl,s.en,s.lf,by omega,rfl,rfl,rfl,M⟩
       case round=>
        clear M hbL hbJ hbX hbF j0;obtain⟨m,gl',cl',en',lf',hgm,rfl,rfl,harr,M⟩:=hrel;have hal:=qz8 l js (k:Int) (qan s) (s.en,s.lf) m;rw[harr.out] at hal;have hal:lf'.length≤s.lf.length+m:=hal;have hel:=qu8 l js (k:Int) (qan s) (s.en,s.lf) m;rw[harr.out] at hel;have HenL:Hid (en'.length=js.length):=by rw[Hid,←HenL0.out];exact hel
        clear hel;have hnw:n≤wr.heap.size:=by have:=M.polO.2;omega
        have B2:Below w.heap.size w wr:=Bw.trans (M.bel.mono (by omega));obtain⟨hbL,hbJ,hbX,hbF⟩:=M.boxes bx;have l0:=qa4 hbL;have j0:=qa4 hbJ;obtain⟨r0,r1,r2,r3,f1,f2,f3⟩:=M.cells;rw[HenL.out] at r0;by_cases hml:m<js.length
        ·obtain⟨b,off,hBe,hbl,hc⟩:=g.keep B2 (by omega);obtain⟨k0,k1,k2⟩:=Vi hc m hml;obtain⟨_,_,ht,hx,_,_⟩:=V.job m hml;rw[←Vx js m hml] at k0 k1 k2;have hjA:jA js m=(Qt js m).at_:=rfl;have hstep:qby l js (k:Int) (qan s) (s.en,s.lf) (m+1)=qz3 l js (k:Int) (qan s) m (en',lf'):=by rw[←harr.out];rfl
         unfold qz3 at hstep;rw[hjA] at hstep;rw[ht] at k0;have HST:=zhi hstep;have hmI:(m:Int)<(js.length:Int):=by omega
         clear hstep hjA ht hc;subst hBe;obtain⟨tb,toff,hte,htr,htc⟩:=h.keep B2 (by omega);obtain⟨_,_,_,_,y4⟩:=Qv htc (jK js m) hx;clear htc;subst hte;have hxI:((jK js m:Nat):Int)<(l.length:Int):=by omega
         generalize(Qt js m).at_=a at k1 HST;generalize(Qt js m).need=nd at k2;generalize jK js m=x at k0 y4 hx hxI HST;generalize(Qg l x).crit=cr at y4 HST;have hT:=zha wr (.cells #[.int .i64 (x:Int),.int .i64 a,.int .i64 nd] 60 (0,0));have hba:=bal (Below.refl wr.heap.size wr) (.cells #[.int .i64 (x:Int),.int .i64 a,.int .i64 nd] 60 (0,0));have M1:=M.keep hba hnw;by_cases hat:a=(k:Int)
         ·have e0:(a !=(k:Int))=false:=by simp[hat]
          rw[Hid,Yav hat] at HST;clear hat;go_upto_region 24 with fail;generalize World.alloc wr _=wa at hT hba M1⊢;obtain⟨nB,hnB⟩: ∃nB,wr.heap.size=nB:=⟨_,rfl⟩;rw[hnB] at hT⊢;obtain⟨z0,_,_⟩:=qk8 hT;have hnw1:n≤wa.heap.size:=zll hnw hba.size;replace y4:=(hba.cell (p:=⟨tb,toff+x*5+4,none⟩) htr).trans y4;clear hT hba hnB M l0 j0 r0 r1 r2 r3 f1 f2 f3 k0 k1 k2 hbL hbJ hbX hbF;obtain⟨hbL,_,_,_⟩:=M1.boxes bx;have l0:=qa4 hbL;obtain⟨r0,_,_,r3,_,_,_⟩:=M1.cells;rw[HenL.out] at r0;cases hcd:(qan s&& !cr) with
          |true=>
           rw[hcd,Yav rfl] at HST;simp only[Yac,Ycn] at hcd;obtain⟨hmd,rfl⟩:=hcd;obtain⟨ck,fk⟩:=qdd M1.enO m (by rw[HenL.out];exact hml);have M2:=M1.setEn hnw1 m (-2);rw[hmd] at r3;go_wp2_with fail;go_roundg (js.length-(m+1))
           case measure=>omega
           case rel=>exact⟨m+1,gl',cl',_,lf',by omega,by go_num,rfl,HST,M2⟩
          |false=>
           rw[hcd] at HST;simp only[Yci,Ydh] at HST;have HN:=zhi HST;clear HST;cases hmd:qan s with
           |false=>
            rw[hmd] at r3;clear hcd;have Hmd:=zhi hmd;clear hmd;go_wp2_with (at_builtin;refine Q6 _ rfl _ _ rfl n gl' (Vv lf') lf'.length cl' (Qh lf') rfl (Q4 M1.lfO _) wa.heap.size 1 (m:Int) 3 rfl (zha wa _) (by rw[Qh];omega) (qav hnw1 _) _ rfl ?_;intro g3 c3 w3 o3 gb3 hat3 b3)
            have M3:=(M1.keep (bal br (.cells #[.int .i64 (m:Int)] 3)) hnw1).appLf (qav hnw1 _) o3 gb3 hat3;rw[←qbl] at M3;go_roundg (js.length-(m+1))
            case measure=>omega
            case rel=>exact⟨m+1,g3,c3,en',lf'++[m],by omega,by go_num,by rw[Yaa];rfl,HN.out,M3⟩
           |true=>
            have hcr:cr=true:=by rw[hmd] at hcd;simpa using hcd
            subst hcr;rw[hmd] at r3;clear hcd;have Hmd:=zhi hmd;clear hmd;go_wp2_with (at_builtin;refine Q6 _ rfl _ _ rfl n gl' (Vv lf') lf'.length cl' (Qh lf') rfl (Q4 M1.lfO _) wa.heap.size 1 (m:Int) 3 rfl (zha wa _) (by rw[Qh];omega) (qav hnw1 _) _ rfl ?_;intro g3 c3 w3 o3 gb3 hat3 b3)
            have M3:=(M1.keep (bal br (.cells #[.int .i64 (m:Int)] 3)) hnw1).appLf (qav hnw1 _) o3 gb3 hat3;rw[←qbl] at M3;go_roundg (js.length-(m+1))
            case measure=>omega
            case rel=>exact⟨m+1,g3,c3,en',lf'++[m],by omega,by go_num,by rw[Yaa];rfl,HN.out,M3⟩
         ·have e0:(a !=(k:Int))=true:=by simpa using hat
          rw[Hid,Yaq hat] at HST;clear hat;go_wp2_with fail;go_roundg (js.length-(m+1))
          case measure=>omega
          case rel=>exact⟨m+1,gl',cl',en',lf',by omega,by go_num,rfl,HST,M1⟩
        ·obtain rfl:m=js.length:=by omega
         have hnw:n≤wr.heap.size:=by have:=M.polO.2;omega
         have harr:Hid (qaz l js k s=(en',lf')):=harr;have hlfN:Hid (∀i,i∈lf'→i<js.length):=fun i hi=>(HI.out.come hap.out hvv.out (by rw[harr.out];exact hi)).1
         have hlf3:lf'.length≤20000:=by omega
         clear hal hbF hbX hbL hbJ f2 f3 r2 r3;by_cases hlz:lf'.length=0
         ·have hz:=Ydk hlz;subst hz
          have HM:Hid (qce l js num den pol (k+1)=⟨en',s.dn,[],s.tr++[-1],s.sw,qan s⟩):=by
           show qfm l js num den pol k (qce l js num den pol k)=_;rw[hs.out];exact qp9 harr.out
          clear hlz;go_wp2_with (at_builtin;go_loud (refine Q6 _ rfl _ _ rfl n gt s.tr s.tr.length ct rfl rfl (Q4 M.trO _) wr.heap.size 1 (-1) 3 rfl (zha wr _) (by omega) (qav hnw _) _ rfl ?_;intro g3 c3 w3 o3 gb3 hat3 b3;have M5:=(M.keep (bal br (.cells #[.int .i64 (-1)] 3)) hnw).appTr (qav hnw _) o3 gb3 hat3;have T3:=((M.keep (bal br (.cells #[.int .i64 (-1)] 3)) hnw).turn (r:=(gt,ct,s.tr)) (by simp) gb3 (qav hnw _)).1;have q1:w3.cell? ⟨R,1,none⟩=some (sl gt s.tr.length ct):=(Yak T3 1).trans rfl;have q2:=zfz T3 1))
          simp only[Yaa,Yat] at M5;go_roundg (tk-(k+1))
          case measure=>omega
          case rel=>exact⟨k+1,g3,c3,gs,cs,gl',cl',_,by omega,by go_num,rfl,HM.out,M5⟩
         ·have e0:((lf'.length:Int)==0)=false:=beq_eq_false_iff_ne.2 (by omega);have hne:Hid (lf'≠[]):=fun e=>hlz (by rw[e];rfl)
          obtain⟨z0,_⟩:=qdd M.lfO 0 (by rw[Qh];omega);rw[qg1] at z0;obtain⟨hsz1,hsz2⟩:=Qo M.lfO;rw[Qh] at hsz1;have h1L:1≤lf'.length:=by omega
          have hb0:Hid (qhq (qeu l js num den pol (qan s)) lf' 0=lf'.getD 0 0):=rfl;have hLs:((lf'.length-1:Nat):Int)=(lf'.length:Int)-1:=by omega
          clear hlz;go_upto_region 30 with fail;go_cut [140,141,142] from 139 to 142 (fun v1 v2 v3 wy=>(∃o cc,v1=.slice (some ⟨gl',o,none⟩) (lf'.length-1) cc∧(1<lf'.length→o=1))∧v2=.int .i64 ((lf'.length-1:Nat):Int)∧v3=.int .i64 0∧wy=wr)
          case first=>
           by_cases hcl:cl'=1
           ·subst hcl;go_wp2_with fail;go_meet
            have hL1:lf'.length-1=0:=by omega
            exact⟨⟨0,0,by rw[hL1],fun h=>by omega⟩,congrArg (Value.int .i64) (by omega),rfl,rfl⟩
           ·go_wp2_with fail;go_meet
            exact⟨⟨_,_,rfl,fun _=>rfl⟩,congrArg (Value.int .i64) (by omega),rfl,rfl⟩
          case rest=>
          obtain⟨⟨oo,cc,rfl,hoo⟩,rfl,rfl,rfl⟩:=hcut;have HOO:=zhi hoo;clear z0 hoo;go_wp2_with fail;go_loopg [21,142] (lf'.length-1) (fun gg v i wy=> ∃(m r:Nat),gg+m=lf'.length-1∧i=.int .i64 (m:Int)∧v=.int .i64 (r:Int)∧Hid (qhq (qeu l js num den pol (qan s)) lf' m=r)∧MR n wS R wy (J+1) pol ge js.length en' gt ct s.tr gs cs s.sw gd js.length s.dn gl' cl' (Vv lf') (qan s) [])
          case atStart=>exact⟨0,_,by omega,rfl,rfl,hb0.out,M⟩
          case round=>
           as_aux_lemma=>
            clear M l0 j0 r0 r1 f1 e0;obtain⟨m,r,hgm,rfl,rfl,hbr,M⟩:=hrel;have hnw:n≤wr.heap.size:=by have:=M.polO.2;omega
            have B2:Below w.heap.size w wr:=Bw.trans (M.bel.mono (by omega))
            have hrm:Hid (r∈lf'):=by
             rw[←hbr.out];exact qrc _ _ _ (by omega)
            have hrn:=hlfN.out r hrm.out;by_cases hml:m<lf'.length-1
            ·obtain⟨z0,_⟩:=qdd M.lfO (m+1) (by rw[Qh];omega);rw[qg1,Nat.add_comm m 1] at z0;have hin:=hlfN.out (lf'.getD (1+m) 0) ((qdm lf' _).1 ⟨1+m,by omega,rfl⟩)
             have hstep:qhq (qeu l js num den pol (qan s)) lf' (m+1)=if qeu l js num den pol (qan s) (lf'.getD (1+m) 0) r then lf'.getD (1+m) 0 else r:=by
              rw[←hbr.out,Nat.add_comm 1 m];rfl
             have HST:=zhi hstep;clear hstep;obtain⟨env,hF1,hFl⟩:=M.env bx (h.keep B2) (g.keep B2);obtain⟨hP1,hPl⟩:=M.polO;have hmI:(m:Int)<((lf'.length-1:Nat):Int):=by omega
             have ho:=HOO.out (by omega);subst ho;generalize lf'.getD (1+m) 0=jx at z0 hin HST;have hG:=q0b V jx r hin hrn wr env hP1 hPl hF1 hFl hp;clear env hF1 hFl hP1 hPl;go_wp2_with fail;refine hG.mono ?_;rintro e w5 ⟨rfl,b5⟩;have M5:=M.keep b5 hnw;clear hG z0;cases hgo:qeu l js num den pol (qan s) jx r with
             |true=>
              have HN:Hid (qhq (qeu l js num den pol (qan s)) lf' (m+1)=jx):=by rw[Hid,HST.out,hgo];rfl
              clear hgo;go_wp2_with fail;go_roundg (lf'.length-1-(m+1))
              case measure=>omega
              case rel=>exact⟨m+1,jx,by omega,by go_num,rfl,HN.out,M5⟩
             |false=>
              have HN:Hid (qhq (qeu l js num den pol (qan s)) lf' (m+1)=r):=by rw[Hid,HST.out,hgo];rfl
              clear hgo;go_wp2_with fail;go_roundg (lf'.length-1-(m+1))
              case measure=>omega
              case rel=>exact⟨m+1,r,by omega,by go_num,rfl,HN.out,M5⟩
            ·have Hr:Hid (qh5 l js num den pol (qan s) lf'=r):=by
              have e:m=lf'.length-1:=by omega
              rw[e] at hbr;exact hbr
             have hcm:=HI.out.come hap.out hvv.out (i:=r) (by rw[harr.out];exact hrm.out);obtain⟨_,_,_,hd1,hd2,_⟩:=hcm;have hd0:=(HI.out.dnLe r hrn).1;have hdl:r<s.dn.length:=by rw[HdnL.out];exact hrn
             obtain⟨_,_,ht,hx,hnd1,hnd2⟩:=V.job r hrn;have hxt:Hid ((Qt js r).task=((jK js r:Nat):Int)):=ht;have hN:Hid (jN js r=(Qt js r).need):=rfl;rw[hN.out] at hd1;obtain⟨b,off,hBe,hbl,hc⟩:=g.keep B2 (by omega);obtain⟨k0,_,k2⟩:=Vi hc r hrn;rw[←Vx js r hrn] at k0 k2;rw[ht] at k0;subst hBe;obtain⟨hbL,hbJ,_,_⟩:=M.boxes bx;have j0:=qa4 hbJ;obtain⟨_,r1,_,_,f1,_,_⟩:=M.cells;have hrI:(r:Int)<(js.length:Int):=by omega
             clear hc ht hbL hbJ;obtain⟨x,hxe⟩: ∃x,jK js r=x:=⟨_,rfl⟩;rw[hxe] at hx k0 hxt hd2;have hxq:Hid (jK js r=x):=hxe;obtain⟨nd,hnde⟩: ∃nd,(Qt js r).need=nd:=⟨_,rfl⟩;have HND:=zhi hnde;rw[hnde] at hd1 hnd1 hnd2 k2 hN;obtain⟨d0,hd0e⟩: ∃d0,s.dn.getD r 0=d0:=⟨_,rfl⟩;have Hd0:=zhi hd0e;rw[hd0e] at hd0 hd1 hd2;obtain⟨dd,hdde⟩: ∃dd,d0+1=dd:=⟨_,rfl⟩;have Hd:Hid (s.dn.getD r 0+1=dd):=by rw[Hid,hd0e,hdde]
             have qd:IntKind.i64.wrap (d0+1)=dd:=by rw[hdde];exact Yai _ (by omega)
             have qk:IntKind.i64.wrap ((k:Int)+1)=(k:Int)+1:=Yai _ (by omega);have hdd1:1≤dd∧dd≤nd:=by omega
             clear hd0e hxe hnde hdde;have hlt2: ¬(m:Int)<((lf'.length-1:Nat):Int):=by omega
             go_wp2_with (at_builtin;go_loud (refine Q6 _ rfl _ _ rfl n gt s.tr s.tr.length ct rfl rfl (Q4 M.trO _) wr.heap.size 1 (x:Int) 3 rfl (zha wr _) (by omega) (qav hnw _) _ rfl ?_;intro gt2 ct2 w3 o3 gb3 hat3 b3;have M5:=(M.keep (bal br (.cells #[.int .i64 (x:Int)] 3)) hnw).appTr (qav hnw _) o3 gb3 hat3;have T3:=((M.keep (bal br (.cells #[.int .i64 (x:Int)] 3)) hnw).turn (r:=(gt,ct,s.tr)) (by simp) gb3 (qav hnw _)).1;have q1:w3.cell? ⟨R,1,none⟩=some (sl gt s.tr.length ct):=(Yak T3 1).trans rfl;have q2:=zfz T3 1;have D5:=qdd M5.dnO r hdl;rw[Hd0.out] at D5;simp only[Yaa,Yat] at D5;obtain⟨D50,D51⟩:=D5))
             simp only[Yaa,Yat] at M5;have hn5:n≤(w3.setCell ⟨R,1,none⟩ (sl gt2 (s.tr.length+1) ct2)).heap.size:=by have:=M5.polO.2;omega
             have M6:=M5.setDn hn5 r dd;generalize World.setCell (World.setCell w3 _ _) _ _=wq at M6⊢;clear M5 M q1 q2 D50 D51 T3 o3 gb3 hat3 b3 hn5 r1 f1 j0 k0 k2 hlt2;have B6:Below w.heap.size w wq:=Bw.trans (M6.bel.mono (by omega));have hn6:n≤wq.heap.size:=by have:=M6.polO.2;omega
             obtain⟨b',off',hBe,hbl',hc⟩:=g.keep B6 (by omega);cases hBe
             obtain⟨_,_,k2⟩:=Vi hc r hrn;rw[←Vx js r hrn,HND.out] at k2;obtain⟨y0,_⟩:=qdd M6.dnO r (by rw[Ybc];exact hdl);rw[qc2,Yav ⟨rfl,hdl⟩] at y0;obtain⟨hbL,hbJ,_,_⟩:=M6.boxes bx;have j0:=qa4 hbJ;have hN2:jN js r=nd:=hN.out;clear hc hbL hbJ;have hrI2:(r:Int)<(js.length:Int):=hrI;by_cases hfin:dd=nd
             ·have e1:(dd==nd)=true:=Yef.2 hfin
              have HE:Hid (qej l js k (qan s) en' lf' s.sw r dd=(en'.set r ((k:Int)+1),qan s,s.sw)):=by
               rw[Hid,qej,Yav (by rw[hN2];exact hfin)]
              clear hfin hN2;go_quiet (fail)
              generalize hwv:World.drewN wq _=wv;have M7:MR n wS R wv (J+1) pol ge js.length en' gt2 ct2 (s.tr++[(x:Int)]) gs cs s.sw gd js.length (s.dn.set r dd) gl' cl' (Vv lf') (qan s) []:=by rw[←hwv];exact M6.keep (bdr br _) hn6
              clear hwv y0 k2 j0 M6;have hn7:n≤wv.heap.size:=by have:=M7.polO.2;omega
              obtain⟨r0,_,_,_,_,_,_⟩:=M7.cells;rw[HenL.out] at r0;obtain⟨y0,yf⟩:=qdd M7.enO r (by rw[HenL.out];exact hrn);have M8:=M7.setEn hn7 r ((k:Int)+1);have hsz:(wv.setCell ⟨ge,r,none⟩ (.int .i64 ((k:Int)+1))).heap.size=wv.heap.size:=by simp
              have MB:=M8.blank (by rw[hsz];exact hn7);rw[hsz] at MB;have HenE:Hid ((en'.set r ((k:Int)+1)).length=js.length):=by rw[Hid,Ybc];exact HenL.out
              go_wp2_with fail;go_loopg [27,241] lf'.length (fun gg v i wy=> ∃(m g6 c6:Nat) (st:List Nat),gg+m=lf'.length∧i=.int .i64 (m:Int)∧v=sl g6 st.length c6∧Hid (qaj (en'.set r ((k:Int)+1)) lf' m=st)∧st.length≤m∧MR n wS R wy (J+1) pol ge js.length (en'.set r ((k:Int)+1)) gt2 ct2 (s.tr++[(x:Int)]) gs cs (s.sw) gd js.length (s.dn.set r dd) gl' cl' (Vv lf') (qan s) [(g6,c6,Vv st)])
              case atStart=>exact⟨0,_,0,[],by omega,rfl,rfl,rfl,by simp,MB⟩
              case round=>
               as_aux_lemma=>
                clear MB;obtain⟨m,g6,c6,st,hgm,rfl,rfl,hst,hstl,M6⟩:=hrel;have hn6:n≤wr.heap.size:=by have:=M6.polO.2;omega
                by_cases hml:m<lf'.length
                ·have hi0:=hlfN.out (lf'.getD m 0) ((qdm lf' _).1 ⟨m,hml,rfl⟩);obtain⟨z0,_⟩:=qdd M6.lfO m (by rw[Qh];exact hml);rw[qg1] at z0;obtain⟨y0,_⟩:=qdd M6.enO (lf'.getD m 0) (by rw[HenE.out];exact hi0);obtain⟨r0,_,_,_,_,_,_⟩:=M6.cells;rw[HenE.out] at r0;have hstep:qaj (en'.set r ((k:Int)+1)) lf' (m+1)=st++(if(en'.set r ((k:Int)+1)).getD (lf'.getD m 0) 0= -1 then [lf'.getD m 0] else []):=by rw[←hst.out];rfl
                 have HST:=zhi hstep;clear hstep;have hmI:(m:Int)<(lf'.length:Int):=by omega
                 have hiI:((lf'.getD m 0:Nat):Int)<(js.length:Int):=by omega
                 generalize(en'.set r ((k:Int)+1)).getD (lf'.getD m 0) 0=ev at y0 HST;generalize lf'.getD m 0=jx at z0 y0 hi0 HST hiI;by_cases hev:ev= -1
                 ·have e1:(ev== -1)=true:=Yef.2 hev;have HN:Hid (qaj (en'.set r ((k:Int)+1)) lf' (m+1)=st++[jx]):=by rw[Hid,HST.out,Yav hev]
                  clear hev;go_wp2_with (at_builtin;refine Q6 _ rfl _ _ rfl n g6 (Vv st) st.length c6 (Qh st) rfl (Q4 M6.xO _) wr.heap.size 1 (jx:Int) 3 rfl (zha wr _) (by rw[Qh];omega) (qav hn6 _) _ rfl ?_;intro g7 c7 w7 o7 gb7 hat7 b7)
                  have M7:=(M6.keep (bal (Below.refl wr.heap.size wr) (.cells #[.int .i64 (jx:Int)] 3)) hn6).appX (qav hn6 _) o7 gb7 hat7;rw[←qbl] at M7;go_roundg (lf'.length-(m+1))
                  case measure=>omega
                  case rel=>exact⟨m+1,g7,c7,st++[jx],by omega,by go_num,by rw[Yaa];rfl,HN.out,by simp;omega,M7⟩
                 ·have e1:(ev== -1)=false:=beq_eq_false_iff_ne.2 hev;have HN:Hid (qaj (en'.set r ((k:Int)+1)) lf' (m+1)=st):=by rw[Hid,HST.out,Yaq hev,Ybx]
                  clear hev;go_wp2_with fail;go_roundg (lf'.length-(m+1))
                  case measure=>omega
                  case rel=>exact⟨m+1,g6,c6,st,by omega,by go_num,rfl,HN.out,by omega,M6⟩
                ·obtain rfl:m=lf'.length:=by omega
                 have HM:Hid (qce l js num den pol (k+1)=⟨en'.set r ((k:Int)+1),s.dn.set r dd,st,s.tr++[(x:Int)],s.sw,(qan s)⟩):=by
                  show qfm l js num den pol k (qce l js num den pol k)=_;rw[hs.out,←hxt.out];exact qkm harr.out hne.out Hr.out Hd.out HE.out hst.out
                 go_wp2_with fail;go_roundg (tk-(k+1))
                 case measure=>omega
                 case rel=>exact⟨k+1,_,_,_,_,g6,c6,_,by omega,by go_num,rfl,HM.out,M6.take⟩
             ·have e1:(dd==nd)=false:=beq_eq_false_iff_ne.2 hfin;have hdn0:Hid (¬dd=jN js r):=by rw[hN2];exact hfin
              clear hfin hN2;go_quiet (fail)
              generalize hwv:World.drewN wq _=wv;have M7:MR n wS R wv (J+1) pol ge js.length en' gt2 ct2 (s.tr++[(x:Int)]) gs cs s.sw gd js.length (s.dn.set r dd) gl' cl' (Vv lf') (qan s) []:=by rw[←hwv];exact M6.keep (bdr br _) hn6
              clear hwv y0 k2 j0 M6;have hn7:n≤wv.heap.size:=by have:=M7.polO.2;omega
              go_upto_region 41 with fail;go_cut [186] from 187 to 208 (fun v wc=>v=.bool (decide (dd=(Qg l x).low∧qan s=false∧(Qg l x).crit=true))∧MR n wS R wc (J+1) pol ge js.length en' gt2 ct2 (s.tr++[(x:Int)]) gs cs s.sw gd js.length (s.dn.set r dd) gl' cl' (Vv lf') (qan s) [])
              case first=>
               have B7:Below w.heap.size w wv:=Bw.trans (M7.bel.mono (by omega));obtain⟨_,_,_,r3,_,_,_⟩:=M7.cells;obtain⟨hbL,hbJ,_,_⟩:=M7.boxes bx;have l0:=qa4 hbL;obtain⟨y0,_⟩:=qdd M7.dnO r (by rw[Ybc];exact hdl);rw[qc2,Yav ⟨rfl,hdl⟩] at y0;obtain⟨tb,toff,hte,htr,htc⟩:=h.keep B7 (by omega);obtain⟨t0,_,_,_,t4⟩:=Qv htc x hx;subst hte;have hxI:(x:Int)<(l.length:Int):=by omega
               clear htc hbL hbJ;cases hmd:qan s with
               |true=>
                rw[hmd] at r3;have Hmd:=zhi hmd;clear hmd;go_quiet (fail)
                go_wp2_with fail;go_meet
                refine⟨congrArg Value.bool (Yaf ?_).symm,M7.keep (bdr br _) hn7⟩;rintro⟨_,hh,_⟩;rw[Hmd.out] at hh;cases hh
               |false=>
                rw[hmd] at r3;cases hcr:(Qg l x).crit with
                |false=>
                 rw[hcr] at t4;have Hcr:=zhi hcr;clear hmd hcr;go_quiet (fail)
                 go_wp2_with fail;go_meet
                 refine⟨congrArg Value.bool (Yaf ?_).symm,M7.keep (bdr br _) hn7⟩;rintro⟨_,_,hh⟩;rw[Hcr.out] at hh;cases hh
                |true=>
                 rw[hcr] at t4;have Hmd:=zhi hmd;have Hcr:=zhi hcr;clear hmd hcr;go_quiet (fail)
                 go_wp2_with fail;go_meet
                 refine⟨congrArg Value.bool ?_,M7.keep (bdr br _) hn7⟩;rw[Hmd.out,Hcr.out];by_cases e:dd=(Qg l x).low<;>simp[e]
              case rest=>
               as_aux_lemma=>
                clear M7 hn7;obtain⟨rfl,M7⟩:=hcut;obtain⟨wv,hwv⟩: ∃wv,wc=wv:=⟨_,rfl⟩;subst hwv;have hn7:n≤wc.heap.size:=by have:=M7.polO.2;omega
                by_cases hsw0:dd=(Qg l x).low∧qan s=false∧(Qg l x).crit=true
                ·have es:decide (dd=(Qg l x).low∧qan s=false∧(Qg l x).crit=true)=true:=Yag hsw0;rw[es];clear es; -- the switch
                 have hsw:dd=(Qg l x).low∧qan s=false∧(Qg l x).crit=true:=hsw0
                 have HE:Hid (qej l js k (qan s) en' lf' s.sw r dd=(qbq l js lf' en' lf'.length,true,s.sw++[(k:Int)+1])):=by
                  obtain⟨h1,h2,h3⟩:=hsw;have h4: ¬dd=jN js r:=hdn0.out
                  have h5:(!qan s&&(Qg l (jK js r)).crit&&decide (dd=(Qg l (jK js r)).low))=true:=by
                   rw[hxq.out,h2,h3,←h1];simp
                  rw[Hid,qej,Yaq h4,Yav h5]
                 clear hsw hsw0;have M8:=M7.setHi true;obtain⟨_,_,q2,q3,_,ff2,ff3⟩:=M7.cells;obtain⟨_,_,p2,_,_,gg2,_⟩:=M8.cells;have hn8:n≤(wc.setCell ⟨R,3,none⟩ (.bool true)).heap.size:=by simp;omega
                 go_wp2_with (at_builtin;refine Q6 _ rfl _ _ rfl n gs s.sw s.sw.length cs rfl rfl (Q4 M8.swO _) wc.heap.size 1 ((k:Int)+1) 3 rfl (by rw[show wc.heap.size=(wc.setCell ⟨R,3,none⟩ (.bool true)).heap.size by simp];exact zha _ _) (by omega) (qav hn8 _) _ rfl ?_;intro g3 c3 w3 o3 gb3 hat3 b3;have M9:=(M8.keep (bal br (.cells #[.int .i64 ((k:Int)+1)] 3)) hn8).appSw (qav hn8 _) o3 gb3 hat3;have T9:=((M8.keep (bal br (.cells #[.int .i64 ((k:Int)+1)] 3)) hn8).turn (r:=(gs,cs,s.sw)) (by simp) gb3 (qav hn8 _)).1;have u2:w3.cell? ⟨R,2,none⟩=some (sl gs s.sw.length cs):=(Yak T9 2).trans rfl;have v2:=zfz T9 2)
                 simp only[Yaa,Yat] at M9;generalize World.setCell w3 _ _=w9 at M9⊢;clear o3 gb3 hat3 b3 T9 u2 v2 M8 q2 q3 ff2 ff3 p2 gg2;go_loopg [219] lf'.length (fun gg i wy=> ∃(m:Nat) (en2:List Int),gg+m=lf'.length∧i=.int .i64 (m:Int)∧Hid (qbq l js lf' en' m=en2)∧MR n wS R wy (J+1) pol ge js.length en2 gt2 ct2 (s.tr++[(x:Int)]) g3 c3 (s.sw++[(k:Int)+1]) gd js.length (s.dn.set r dd) gl' cl' (Vv lf') true [])
                 case atStart=>exact⟨0,en',by omega,rfl,rfl,M9⟩
                 case round=>
                  clear M9;obtain⟨m,en2,hgm,rfl,hdr,M⟩:=hrel;have hn6:n≤wr.heap.size:=by have:=M.polO.2;omega
                  have hel:=qkl l js lf' en' m;rw[hdr.out,HenL.out] at hel;have HenE:=zhi hel;clear hel;by_cases hml:m<lf'.length
                  ·have hi0:=hlfN.out (lf'.getD m 0) ((qdm lf' _).1 ⟨m,hml,rfl⟩);obtain⟨z0,_⟩:=qdd M.lfO m (by rw[Qh];exact hml);rw[qg1] at z0;obtain⟨y0,yf⟩:=qdd M.enO (lf'.getD m 0) (by rw[HenE.out];exact hi0);obtain⟨r0,_,_,_,_,_,_⟩:=M.cells;rw[HenE.out] at r0;obtain⟨hbL,hbJ,_,_⟩:=M.boxes bx;have l0:=qa4 hbL;have j0:=qa4 hbJ;clear hbL hbJ;have B2:Below w.heap.size w wr:=Bw.trans (M.bel.mono (by omega));have hstep:qbq l js lf' en' (m+1)=if(Qg l (jK js (lf'.getD m 0))).crit then en2 else en2.set (lf'.getD m 0) (-2):=by rw[←hdr.out];rfl
                   have HST:=zhi hstep;have hset:=fun(w':World) (h':w'.heap.size=wr.heap.size)=>M.setEn hn6 (lf'.getD m 0) (-2)
                   clear hstep hset;have hmI:(m:Int)<(lf'.length:Int):=by omega
                   have hiI:((lf'.getD m 0:Nat):Int)<(js.length:Int):=by omega
                   generalize lf'.getD m 0=jx at z0 y0 yf hi0 HST hiI;obtain⟨b,off,hBe,hbl,hc⟩:=g.keep B2 (by omega);obtain⟨k0,_,_⟩:=Vi hc jx hi0;obtain⟨_,_,ht,hx2,_,_⟩:=V.job jx hi0;rw[←Vx js jx hi0,ht] at k0;cases hBe
                   obtain⟨tb,toff,hte,htr,htc⟩:=h.keep B2 (by omega);obtain⟨_,_,_,_,y4⟩:=Qv htc (jK js jx) hx2;cases hte
                   clear hc ht htc;have hxI:((jK js jx:Nat):Int)<(l.length:Int):=by omega
                   generalize jK js jx=x2 at k0 hx2 y4 HST hxI;cases hcr:(Qg l x2).crit with
                   |true=>
                    rw[hcr] at y4;have HN:Hid (qbq l js lf' en' (m+1)=en2):=by rw[Hid,HST.out,hcr];rfl
                    clear hcr;go_wp2_with fail;go_quiet (fail)
                    go_wp2_with fail;go_roundg (lf'.length-(m+1))
                    case measure=>omega
                    case rel=>exact⟨m+1,en2,by omega,by go_num,HN.out,M.keep (bdr br _) hn6⟩
                   |false=>
                    rw[hcr] at y4;have HN:Hid (qbq l js lf' en' (m+1)=en2.set jx (-2)):=by rw[Hid,HST.out,hcr];rfl
                    clear hcr;go_wp2_with fail;go_quiet (fail)
                    generalize hwx:World.drewN wr _=wx;have Mx:MR n wS R wx (J+1) pol ge js.length en2 gt2 ct2 (s.tr++[(x:Int)]) g3 c3 (s.sw++[(k:Int)+1]) gd js.length (s.dn.set r dd) gl' cl' (Vv lf') true []:=by rw[←hwx];exact M.keep (bdr br _) hn6
                    obtain⟨r0,_,_,_,_,_,_⟩:=Mx.cells;rw[HenE.out] at r0;obtain⟨y0,yf⟩:=qdd Mx.enO jx (by rw[HenE.out];exact hi0);have hnx:n≤wx.heap.size:=by have:=Mx.polO.2;omega
                    have M2:=Mx.setEn hnx jx (-2);clear hwx M;go_wp2_with fail;go_roundg (lf'.length-(m+1))
                    case measure=>omega
                    case rel=>exact⟨m+1,_,by omega,by go_num,HN.out,M2⟩
                  ·obtain rfl:m=lf'.length:=by omega
                   rw[hdr.out] at HE;have MB:=M.blank hn6;go_wp2_with fail;go_loopg [27,241] lf'.length (fun gg v i wy=> ∃(m g6 c6:Nat) (st:List Nat),gg+m=lf'.length∧i=.int .i64 (m:Int)∧v=sl g6 st.length c6∧Hid (qaj (en2) lf' m=st)∧st.length≤m∧MR n wS R wy (J+1) pol ge js.length (en2) gt2 ct2 (s.tr++[(x:Int)]) g3 c3 (s.sw++[(k:Int)+1]) gd js.length (s.dn.set r dd) gl' cl' (Vv lf') true [(g6,c6,Vv st)])
                   case atStart=>exact⟨0,_,0,[],by omega,rfl,rfl,rfl,by simp,MB⟩
                   case round=>
                    clear MB;obtain⟨m,g6,c6,st,hgm,rfl,rfl,hst,hstl,M6⟩:=hrel;have hn6:n≤wr.heap.size:=by have:=M6.polO.2;omega
                    by_cases hml:m<lf'.length
                    ·have hi0:=hlfN.out (lf'.getD m 0) ((qdm lf' _).1 ⟨m,hml,rfl⟩);obtain⟨z0,_⟩:=qdd M6.lfO m (by rw[Qh];exact hml);rw[qg1] at z0;obtain⟨y0,_⟩:=qdd M6.enO (lf'.getD m 0) (by rw[HenE.out];exact hi0);obtain⟨r0,_,_,_,_,_,_⟩:=M6.cells;rw[HenE.out] at r0;have hstep:qaj (en2) lf' (m+1)=st++(if(en2).getD (lf'.getD m 0) 0= -1 then [lf'.getD m 0] else []):=by rw[←hst.out];rfl
                     have HST:=zhi hstep;clear hstep;have hmI:(m:Int)<(lf'.length:Int):=by omega
                     have hiI:((lf'.getD m 0:Nat):Int)<(js.length:Int):=by omega
                     generalize(en2).getD (lf'.getD m 0) 0=ev at y0 HST;generalize lf'.getD m 0=jx at z0 y0 hi0 HST hiI;by_cases hev:ev= -1
                     ·have e1:(ev== -1)=true:=Yef.2 hev;have HN:Hid (qaj (en2) lf' (m+1)=st++[jx]):=by rw[Hid,HST.out,Yav hev]
                      clear hev;go_wp2_with (at_builtin;refine Q6 _ rfl _ _ rfl n g6 (Vv st) st.length c6 (Qh st) rfl (Q4 M6.xO _) wr.heap.size 1 (jx:Int) 3 rfl (zha wr _) (by rw[Qh];omega) (qav hn6 _) _ rfl ?_;intro g7 c7 w7 o7 gb7 hat7 b7)
                      have M7:=(M6.keep (bal (Below.refl wr.heap.size wr) (.cells #[.int .i64 (jx:Int)] 3)) hn6).appX (qav hn6 _) o7 gb7 hat7;rw[←qbl] at M7;go_roundg (lf'.length-(m+1))
                      case measure=>omega
                      case rel=>exact⟨m+1,g7,c7,st++[jx],by omega,by go_num,by rw[Yaa];rfl,HN.out,by simp;omega,M7⟩
                     ·have e1:(ev== -1)=false:=beq_eq_false_iff_ne.2 hev;have HN:Hid (qaj (en2) lf' (m+1)=st):=by rw[Hid,HST.out,Yaq hev,Ybx]
                      clear hev;go_wp2_with fail;go_roundg (lf'.length-(m+1))
                      case measure=>omega
                      case rel=>exact⟨m+1,g6,c6,st,by omega,by go_num,rfl,HN.out,by omega,M6⟩
                    ·obtain rfl:m=lf'.length:=by omega
                     have HM:Hid (qce l js num den pol (k+1)=⟨en2,s.dn.set r dd,st,s.tr++[(x:Int)],s.sw++[(k:Int)+1],true⟩):=by
                      show qfm l js num den pol k (qce l js num den pol k)=_;rw[hs.out,←hxt.out];exact qkm harr.out hne.out Hr.out Hd.out HE.out hst.out
                     go_wp2_with fail;go_roundg (tk-(k+1))
                     case measure=>omega
                     case rel=>exact⟨k+1,_,_,_,_,g6,c6,_,by omega,by go_num,rfl,HM.out,M6.take⟩
                ·have es:decide (dd=(Qg l x).low∧qan s=false∧(Qg l x).crit=true)=false:=Yaf hsw0
                 have HE:Hid (qej l js k (qan s) en' lf' s.sw r dd=(en',qan s,s.sw)):=by
                  have h4: ¬dd=jN js r:=hdn0.out
                  have h5:(!qan s&&(Qg l (jK js r)).crit&&decide (dd=(Qg l (jK js r)).low))=false:=by
                   rw[Bool.eq_false_iff];intro hh;simp only[Yac,Ycn,Yae,hxq.out] at hh;exact hsw0 ⟨hh.2,hh.1.1,hh.1.2⟩
                  rw[Hid,qej,Yaq h4,h5];rfl
                 rw[es];clear es hsw0;have MB:=M7.blank hn7;have HenE:=HenL;go_wp2_with fail;go_loopg [27,241] lf'.length (fun gg v i wy=> ∃(m g6 c6:Nat) (st:List Nat),gg+m=lf'.length∧i=.int .i64 (m:Int)∧v=sl g6 st.length c6∧Hid (qaj (en') lf' m=st)∧st.length≤m∧MR n wS R wy (J+1) pol ge js.length (en') gt2 ct2 (s.tr++[(x:Int)]) gs cs (s.sw) gd js.length (s.dn.set r dd) gl' cl' (Vv lf') (qan s) [(g6,c6,Vv st)])
                 case atStart=>exact⟨0,_,0,[],by omega,rfl,rfl,rfl,by simp,MB⟩
                 case round=>
                  clear MB;obtain⟨m,g6,c6,st,hgm,rfl,rfl,hst,hstl,M6⟩:=hrel;have hn6:n≤wr.heap.size:=by have:=M6.polO.2;omega
                  by_cases hml:m<lf'.length
                  ·have hi0:=hlfN.out (lf'.getD m 0) ((qdm lf' _).1 ⟨m,hml,rfl⟩);obtain⟨z0,_⟩:=qdd M6.lfO m (by rw[Qh];exact hml);rw[qg1] at z0;obtain⟨y0,_⟩:=qdd M6.enO (lf'.getD m 0) (by rw[HenE.out];exact hi0);obtain⟨r0,_,_,_,_,_,_⟩:=M6.cells;rw[HenE.out] at r0;have hstep:qaj (en') lf' (m+1)=st++(if(en').getD (lf'.getD m 0) 0= -1 then [lf'.getD m 0] else []):=by rw[←hst.out];rfl
                   have HST:=zhi hstep;clear hstep;have hmI:(m:Int)<(lf'.length:Int):=by omega
                   have hiI:((lf'.getD m 0:Nat):Int)<(js.length:Int):=by omega
                   generalize(en').getD (lf'.getD m 0) 0=ev at y0 HST;generalize lf'.getD m 0=jx at z0 y0 hi0 HST hiI;by_cases hev:ev= -1
                   ·have e1:(ev== -1)=true:=Yef.2 hev;have HN:Hid (qaj (en') lf' (m+1)=st++[jx]):=by rw[Hid,HST.out,Yav hev]
                    clear hev;go_wp2_with (at_builtin;refine Q6 _ rfl _ _ rfl n g6 (Vv st) st.length c6 (Qh st) rfl (Q4 M6.xO _) wr.heap.size 1 (jx:Int) 3 rfl (zha wr _) (by rw[Qh];omega) (qav hn6 _) _ rfl ?_;intro g7 c7 w7 o7 gb7 hat7 b7)
                    have M7:=(M6.keep (bal (Below.refl wr.heap.size wr) (.cells #[.int .i64 (jx:Int)] 3)) hn6).appX (qav hn6 _) o7 gb7 hat7;rw[←qbl] at M7;go_roundg (lf'.length-(m+1))
                    case measure=>omega
                    case rel=>exact⟨m+1,g7,c7,st++[jx],by omega,by go_num,by rw[Yaa];rfl,HN.out,by simp;omega,M7⟩
                   ·have e1:(ev== -1)=false:=beq_eq_false_iff_ne.2 hev;have HN:Hid (qaj (en') lf' (m+1)=st):=by rw[Hid,HST.out,Yaq hev,Ybx]
                    clear hev;go_wp2_with fail;go_roundg (lf'.length-(m+1))
                    case measure=>omega
                    case rel=>exact⟨m+1,g6,c6,st,by omega,by go_num,rfl,HN.out,by omega,M6⟩
                  ·obtain rfl:m=lf'.length:=by omega
                   have HM:Hid (qce l js num den pol (k+1)=⟨en',s.dn.set r dd,st,s.tr++[(x:Int)],s.sw,(qan s)⟩):=by
                    show qfm l js num den pol k (qce l js num den pol k)=_;rw[hs.out,←hxt.out];exact qkm harr.out hne.out Hr.out Hd.out HE.out hst.out
                   go_wp2_with fail;go_roundg (tk-(k+1))
                   case measure=>omega
                   case rel=>exact⟨k+1,_,_,_,_,g6,c6,_,by omega,by go_num,rfl,HM.out,M6.take⟩
     ·obtain rfl:k=tk:=by omega
      have hQ:=M.oth _ _ eQ (by simpa using hQ3) (by rintro c fz e;injection e with _ e _;exact rt1 e);obtain⟨r0,r1,r2,r3,_,_,_⟩:=M.cells;have hQl:=(bl hQ);have q0:wr.cell? ⟨J+1+1,0,none⟩=some (.slice none 0 0):=(Yak hQ 0).trans rfl;have q1:wr.cell? ⟨J+1+1,1,none⟩=some (.slice none 0 0):=(Yak hQ 1).trans rfl;have q2:wr.cell? ⟨J+1+1,2,none⟩=some (.slice none 0 0):=(Yak hQ 2).trans rfl;have q3:wr.cell? ⟨J+1+1,3,none⟩=some (.bool false):=(Yak hQ 3).trans rfl;have f0:=zfz hQ 0;have f1:=zfz hQ 1;have f2:=zfz hQ 2;have f3:=zfz hQ 3;have Rw:=M.rows.sub (R':=[(ge,js.length,s.en),(gt,ct,s.tr),(gs,cs,s.sw)]) (.cons _ (.cons_cons _ (.cons_cons _ (.cons_cons _ (.cons _ (.cons _ .slnil))))));obtain⟨R1,k1⟩:=Rw.setX hQ rt1 0 (sl ge s.en.length js.length);obtain⟨R2,k2⟩:=R1.setX k1 rt1 1 (sl gt s.tr.length ct);obtain⟨R3,k3⟩:=R2.setX k2 rt1 2 (sl gs s.sw.length cs);obtain⟨R4,k4⟩:=R3.setX k3 rt1 3 (.bool s.hi)
      have B4:Below n wS ((((wr.setCell ⟨J+1+1,0,none⟩ (sl ge s.en.length js.length)).setCell ⟨J+1+1,1,none⟩ (sl gt s.tr.length ct)).setCell ⟨J+1+1,2,none⟩ (sl gs s.sw.length cs)).setCell ⟨J+1+1,3,none⟩ (.bool s.hi)):=
       (((M.bel.setCell (p:=⟨J+1+1,0,none⟩) (by show n≤J+1+1;omega) _).setCell (p:=⟨J+1+1,1,none⟩) (by show n≤J+1+1;omega) _).setCell (p:=⟨J+1+1,2,none⟩) (by show n≤J+1+1;omega) _).setCell (p:=⟨J+1+1,3,none⟩) (by show n≤J+1+1;omega) _
      clear k1 k2 k3 R1 R2 R3;go_wp2_with fail;have w0':((((wr.setCell ⟨J+1+1,0,none⟩ (sl ge s.en.length js.length)).setCell ⟨J+1+1,1,none⟩ (sl gt s.tr.length ct)).setCell ⟨J+1+1,2,none⟩ (sl gs s.sw.length cs)).setCell ⟨J+1+1,3,none⟩ (.bool s.hi)).heap[J+1+1]? =some (.cells #[sl ge s.en.length js.length,sl gt s.tr.length ct,sl gs s.sw.length cs,.bool s.hi] RT (0,0)):=k4;rw[hs.out];generalize World.setCell (World.setCell (World.setCell (World.setCell wr _ _) _ _) _ _) _ _=wf at R4 B4 w0'⊢;have z0:wf.cell? ⟨J+1+1,0,none⟩=some (sl ge s.en.length js.length):=(Yak w0' 0).trans rfl;have z1:wf.cell? ⟨J+1+1,1,none⟩=some (sl gt s.tr.length ct):=(Yak w0' 1).trans rfl;have z2:wf.cell? ⟨J+1+1,2,none⟩=some (sl gs s.sw.length cs):=(Yak w0' 2).trans rfl;have z3:wf.cell? ⟨J+1+1,3,none⟩=some (.bool s.hi):=(Yak w0' 3).trans rfl;refine bodyPost_ret (v:=.tuple #[.agg #[sl ge s.en.length js.length,sl gt s.tr.length ct,sl gs s.sw.length cs,.bool s.hi],.bool true]) (by simp[results,Tryz.results8,go_sem,z0,z1,z2,z3]) rfl ?_;rw[hn];exact⟨_,_,_,_,_,_,rfl,R4,(show Below n w wS by rw[←hn];exact Bw).trans B4⟩
end Go.Proofs.YtmkjmancmiphfaaGreatDoor
