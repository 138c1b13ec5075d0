/-
  The reference's machine: needs become high (l7Switch).
  The reference's machine: the row of works appended to, cut, stored into.
-/
import Derived.Test.YtmkjmancmiphfaaGreatDoorRc18
namespace Go.Proofs.YtmkjmancmiphfaaGreatDoor
set_option maxHeartbeats 8000000
set_option maxRecDepth 1000000
open Go.RowKit
theorem qmq(w:World){ops:Array Oper}{rest:List Oper}{o:Oper}{a:Act}{Q:Exit→Act→World→Prop}(hgd:o.guard=none)(s x:Operand)
  (ho:o.op=.call {callee:=.builtin .append,args:=#[s,x],argTypes:=#[63,63]})
  (base:Nat) (A:ZA) (l:List (Nat×Int)) (n c:Nat) (hn:l.length=n) (hs:a.eval s=.slice A n c) (hown:OW base w A c l)
  (b c1:Nat) (y:Nat×Int) (ty:TypeId) (hx:a.eval x=.slice (some ⟨b,0,none⟩) 1 c1) (hb:w.heap[b]? =some (.cells #[.int .i64 (y.1:Int),.int .i64 y.2] ty (0,0)))
  (hl:l.length≤2000000) (hbase:base≤w.heap.size)
  (h: ∀g c' w',OW base w' (some ⟨g,0,none⟩) c' (l++[y])→w.grownBy w' (bk A)→(bk A=some g∨g=w.heap.size)→Below base w w'→wpList Tryz.prog ops Q rest (a.put o.dst (.slice (some ⟨g,0,none⟩) (n+1) c')) w'):wpList Tryz.prog ops Q (o::rest) a w:=by
 subst hn;obtain⟨i0,hi,hz0,hz1,hz2⟩:=Ybv qrj
 refine wpList_append_lies w hgd s x 63 ho base WT i0 _ 2 16 Tryz.underlying63 hi hz0 hz1 hz2 rfl (by decide) (.slice A l.length c) l.length (qag l) hs hown
  ⟨b,0,none⟩ 1 c1 [.int .i64 (y.1:Int),.int .i64 y.2] hx rfl ?_ ?_ (by omega) (by unfold maxLen;omega) (by omega) hbase _ rfl ?_
 ·intro j u hj;rw[qai,Ybf w b j _ ty (0,0) hb,←Ybk];exact hj
 ·intro u hu;simp at hu;rcases hu with rfl|rfl<;>rfl
 ·intro g c' w' hown' hg hat _;rw[qnp] at hg hat;refine h g c' w' ?_ hg hat (qad hown (by rw[qnp];exact hg) hbase);unfold OW;rw[Yaa,Yat,qh9];have e:qag [y]=[.int .i64 (y.1:Int),.int .i64 y.2]:=by simp[qag]
  rw[e];exact hown'
theorem SRows.side{base:Nat}{w w':World}{Ae:ZA}{ce:Nat}{en:List Int}{At:ZA}{ct:Nat}{tr:List Int}{As:ZA}{cs:Nat}{sw:List Int}{Aw:ZA}{cw:Nat}{wk:List (Nat×Int)}(h:SRows base w Ae ce en At ct tr As cs sw Aw cw wk){A9:ZA}{c9:Nat}{k9:List (Nat×Int)}(ho:OW base w A9 c9 k9)(hf:far Aw A9)(hg:w.grownBy w' (bk A9)):SRows base w' Ae ce en At ct tr As cs sw Aw cw wk:=
 ⟨Qw h.e ho hg (fun e=>wt1 e.symm),Qw h.t ho hg (fun e=>wt1 e.symm),Qw h.s ho hg (fun e=>wt1 e.symm),World.ownsRow.kept h.k hg (by rw[qnp];exact hf),h.et,h.es,h.ts⟩
theorem q0t{base:Nat}{w:World}{t:TypeId}{size n c:Nat}{A A9:ZA}{xs:List Value}(hO:w.ownsRow base t size (.slice A n c) n xs)(hf:far A A9){g:Nat}(hat:bk A9=some g∨g=w.heap.size):far A (some ⟨g,0,none⟩):=by
 unfold far at hf⊢;rcases hf with hf|hf
 ·exact .inl hf
 ·rcases hat with hat|hat
  ·exact .inr (by rw[hat] at hf;exact hf)
  ·refine .inr (fun e=>?_);have e:bk A=some g:=e;obtain⟨_,cs,h3⟩:=qqg hO e;have:=(bl h3);omega
theorem q0u(f:Nat→Bool)(l:List Nat)(k:Nat)(hk:k<l.length):(l.take (k+1)).filter f=(l.take k).filter f++(if f l[k] then [l[k]] else []):=by
 rw[Yad hk,Ycr];cases h:f l[k] with
 |true=>rw[List.filter_cons_of_pos h,List.filter_nil,Yav rfl]
 |false=>rw[List.filter_cons_of_neg (by simp[h]),List.filter_nil,Yaq (by simp)]
theorem qrk{l:List Tk}{js:List Jb}(hV:Q9 l js=true){num den:Int}(V:JobsIn l js num den)(A:ZA)(c:Nat)(B:ZA)(d:Nat)(W0:World)(hTS:TS W0 A l)(hJS:JS W0 B js)(now:Int)(hi:Bool)(nx:Int)(dn:List Int)
  (en:List Int) (lf:List Nat) (hen:en.length=js.length) (hlf:lf.length≤20000) (hmem: ∀i,i∈lf→i<js.length) {sw:List Int} (hsw:sw.length≤1000) {Ae:ZA} {ce:Nat} {At:ZA} {ct:Nat} {tr:List Int} {As:ZA} {cs:Nat} {Aw:ZA} {cw:Nat}
  (w:World) (hB0:Below W0.heap.size W0 w) (h:SRows W0.heap.size w Ae ce en At ct tr As cs sw Aw cw (qe7 dn lf)):
  Calls Tryz.prog 70 #[.slice A l.length c,.slice B js.length d,stV (.slice Ae en.length ce) (.slice At tr.length ct) (.slice As sw.length cs) (.slice Aw lf.length cw) hi nx num den,.int .i64 now] w fun e w'=> ∃As' cs' Aw' cw',e=.returned (stV (.slice Ae en.length ce) (.slice At tr.length ct) (.slice As' (sw.length+1) cs') (.slice Aw' (lf.filter (fun i=>(Qg l (jK js i)).crit)).length cw') true nx num den)∧SRows W0.heap.size w' Ae ce (qbq l js lf en lf.length) At ct tr As' cs' (sw++[now]) Aw' cw' (qe7 dn (lf.filter (fun i=>(Qg l (jK js i)).crit)))∧Kp w w'∧Below W0.heap.size w w':=by
 have h60:js.length≤60:=by
  simp only[Q9,Yac,Yae] at hV;exact hV.1.2
 have hW0:=hB0.size;obtain⟨ne,hne⟩: ∃x,en.length=x:=⟨_,rfl⟩;obtain⟨nt,hnt⟩: ∃x,tr.length=x:=⟨_,rfl⟩;obtain⟨ns,hns⟩: ∃x,sw.length=x:=⟨_,rfl⟩;rw[hne,hnt,hns];have Hne:=zhi (hne.symm.trans hen);have Hns:=zhi hns;clear hne hnt hns
 have hg1:((((w.alloc (stC (.slice Ae ne ce) (.slice At nt ct) (.slice As ns cs) (.slice Aw lf.length cw) hi nx num den)).alloc (.cells #[.slice none 0 0,.slice none 0 0,.slice none 0 0,.bool false,.slice none 0 0,.int .i64 0,.int .i64 0,.int .i64 0] ST))).alloc (.cells #[] WT)).heap[w.heap.size]? =some (stC (.slice Ae ne ce) (.slice At nt ct) (.slice As ns cs) (.slice Aw lf.length cw) hi nx num den):=
  (Yaj _ _ _ (by simp;omega)).trans ((Yaj _ _ _ (by simp)).trans (zha w _))
 have hsz:(w.alloc (stC (.slice Ae ne ce) (.slice At nt ct) (.slice As ns cs) (.slice Aw lf.length cw) hi nx num den)).heap.size=w.heap.size+1:=by simp
 have hg2:=(Yaj ((w.alloc (stC (.slice Ae ne ce) (.slice At nt ct) (.slice As ns cs) (.slice Aw lf.length cw) hi nx num den)).alloc (.cells #[.slice none 0 0,.slice none 0 0,.slice none 0 0,.bool false,.slice none 0 0,.int .i64 0,.int .i64 0,.int .i64 0] ST (0,0))) (.cells #[] WT) _ (by simp)).trans (zha (w.alloc (stC (.slice Ae ne ce) (.slice At nt ct) (.slice As ns cs) (.slice Aw lf.length cw) hi nx num den)) (.cells #[.slice none 0 0,.slice none 0 0,.slice none 0 0,.bool false,.slice none 0 0,.int .i64 0,.int .i64 0,.int .i64 0] ST (0,0)));rw[hsz] at hg2;have bx2:=bal (bal (Below.refl w.heap.size w) (stC (.slice Ae ne ce) (.slice At nt ct) (.slice As ns cs) (.slice Aw lf.length cw) hi nx num den)) (.cells #[.slice none 0 0,.slice none 0 0,.slice none 0 0,.bool false,.slice none 0 0,.int .i64 0,.int .i64 0,.int .i64 0] ST (0,0));have bx:=bal bx2 (.cells #[] WT);have o9:OW W0.heap.size _ (some ⟨((w.alloc (stC (.slice Ae ne ce) (.slice At nt ct) (.slice As ns cs) (.slice Aw lf.length cw) hi nx num den)).alloc (.cells #[.slice none 0 0,.slice none 0 0,.slice none 0 0,.bool false,.slice none 0 0,.int .i64 0,.int .i64 0,.int .i64 0] ST (0,0))).heap.size,0,none⟩) 0 []:=qef ((w.alloc (stC (.slice Ae ne ce) (.slice At nt ct) (.slice As ns cs) (.slice Aw lf.length cw) hi nx num den)).alloc (.cells #[.slice none 0 0,.slice none 0 0,.slice none 0 0,.bool false,.slice none 0 0,.int .i64 0,.int .i64 0,.int .i64 0] ST (0,0))) WT 2 W0.heap.size (by simp;omega);have f9:=q0t (h.keep bx2).k (qm3 Aw).symm (g:=((w.alloc (stC (.slice Ae ne ce) (.slice At nt ct) (.slice As ns cs) (.slice Aw lf.length cw) hi nx num den)).alloc (.cells #[.slice none 0 0,.slice none 0 0,.slice none 0 0,.bool false,.slice none 0 0,.int .i64 0,.int .i64 0,.int .i64 0] ST (0,0))).heap.size) (.inr rfl);have hs2:((w.alloc (stC (.slice Ae ne ce) (.slice At nt ct) (.slice As ns cs) (.slice Aw lf.length cw) hi nx num den)).alloc (.cells #[.slice none 0 0,.slice none 0 0,.slice none 0 0,.bool false,.slice none 0 0,.int .i64 0,.int .i64 0,.int .i64 0] ST (0,0))).heap.size=w.heap.size+1+1:=by simp
 rw[hs2] at o9 f9;have h1:=h.keep bx;have k1:=(Kp.refl w).keep bx;have hb1:=bx.mono hW0;clear bx bx2 hsz hs2 h;go_enter Tryz.func70,Tryz.ntmps70;go_wp2_with fail;generalize World.alloc (World.alloc (World.alloc w _) _) _=w1 at hg1 hg2 o9 h1 k1 hb1⊢;obtain⟨g,hg⟩: ∃g,w.heap.size=g:=⟨_,rfl⟩;rw[hg] at hg1 hg2 o9 f9⊢;go_loopg [9,10] lf.length (fun gg v iv wr=> ∃(k b9 c9:Nat) (lk:List Nat),gg+k=lf.length∧iv=.int .i64 (k:Int)∧v=.slice (some ⟨b9,0,none⟩) lk.length c9∧Hid ((lf.take k).filter (fun i=>(Qg l (jK js i)).crit)=lk)∧Hid (wr.heap[g]? =some (stC (.slice Ae ne ce) (.slice At nt ct) (.slice As ns cs) (.slice Aw lf.length cw) hi nx num den))∧Hid (wr.heap[g+1]? =some (.cells #[.slice none 0 0,.slice none 0 0,.slice none 0 0,.bool false,.slice none 0 0,.int .i64 0,.int .i64 0,.int .i64 0] ST (0,0)))∧SRows W0.heap.size wr Ae ce (qbq l js lf en k) At ct tr As cs sw Aw cw (qe7 dn lf)∧OW W0.heap.size wr (some ⟨b9,0,none⟩) c9 (qe7 dn lk)∧far Aw (some ⟨b9,0,none⟩)∧Kp w wr∧Below W0.heap.size w wr)
 case atStart=>exact⟨0,g+1+1,0,[],by omega,rfl,rfl,rfl,hg1,hg2,h1,o9,f9,k1,hb1⟩
 case round=>
  clear hg1 hg2 h1 o9 f9 k1 hb1;obtain⟨k,b9,c9,lk,hgk,rfl,rfl,hlk,hg1,hg2,h1,o9,f9,k1,hb1⟩:=hrel;have hB1:=hB0.trans hb1;obtain⟨s0,s1,s2,s3,s4,s5,s6,s7⟩:=qb9 hg1.out;have sf:=fun i=>zfz hg1.out i
  by_cases hkl:k<lf.length
  case neg=>
   obtain rfl:k=lf.length:=by omega
   have e0:decide ((lf.length:Int)<(lf.length:Int))=false:=Yaf (by omega);have hlk2:=hlk.out;rw[Ybi] at hlk2;have hle:W0.heap.size≤g:=by omega
   have hWr:=zll hW0 hb1.size;have R1:SRows W0.heap.size wr Ae ce (qbq l js lf en lf.length) At ct tr As cs sw (some ⟨b9,0,none⟩) c9 (qe7 dn lk):=⟨h1.e,h1.t,h1.s,o9,h1.et,h1.es,h1.ts⟩;have p1:=Yan wr g 4 _ _ (.slice (some ⟨b9,0,none⟩) lk.length c9) hg1.out;have R2:=R1.setX hg1.out st1 st2 4 (.slice (some ⟨b9,0,none⟩) lk.length c9);have K2:=k1.setX (by omega) (b:=g) 4 (.slice (some ⟨b9,0,none⟩) lk.length c9);have z2:=(Yal wr ⟨g,4,none⟩ (.slice (some ⟨b9,0,none⟩) lk.length c9) (g+1) (by simp)).trans hg2.out;have B2:=hb1.setCell (p:=⟨g,4,none⟩) hle (.slice (some ⟨b9,0,none⟩) lk.length c9);have p2:((wr.setCell ⟨g,4,none⟩ (.slice (some ⟨b9,0,none⟩) lk.length c9)).setCell ⟨g,3,none⟩ (.bool true)).heap[g]? =some (stC (.slice Ae ne ce) (.slice At nt ct) (.slice As ns cs) (.slice (some ⟨b9,0,none⟩) lk.length c9) true nx num den):=Yan _ g 3 _ _ (.bool true) p1;have R3:=R2.setX p1 st1 st2 3 (.bool true);have K3:=K2.setX (by omega) (b:=g) 3 (.bool true);have z3:=(Yal (wr.setCell ⟨g,4,none⟩ (.slice (some ⟨b9,0,none⟩) lk.length c9)) ⟨g,3,none⟩ (.bool true) (g+1) (by simp)).trans z2;have B3:=B2.setCell (p:=⟨g,3,none⟩) hle (.bool true);clear p1 R2 K2 z2 B2 R1;go_upto_region 11 with fail;generalize World.setCell (World.setCell wr _ _) _ _=w2 at p2 R3 K3 z3 B3⊢;clear s0 s1 s2 s3 s4 s5 s6 s7 sf h1 o9 f9 k1 hb1 hg1 hg2 hB1;obtain⟨s0,s1,s2,s3,s4,s5,s6,s7⟩:=qb9 p2;have sf:=fun i=>zfz p2 i
   have hW2:=zll hW0 B3.size;have hA:=zha w2 (.cells #[.int .i64 now] 3 (0,0));have bA:=bal (Below.refl w2.heap.size w2) (.cells #[.int .i64 now] 3);have R4:=R3.keep bA;have K4:=K3.keep bA;have B4:=B3.trans (bA.mono hW2);have hp1:=bh bA p2;have hp2:=bh bA z3;have HP1:=zhi hp1;have HP2:=zhi hp2;clear bA hp1 hp2 R3 K3 B3;go_upto_region 12 with(at_builtin;refine qdp _ rfl _ _ rfl W0.heap.size As sw ns cs Hns.out ?a1 ?a2 w2.heap.size 1 now 3 ?a3 ?a4 ?a5 ?a6 _ rfl ?_;(case a1=>exact rfl);(case a2=>exact R4.s);(case a3=>exact rfl);(case a4=>exact hA);(case a5=>omega);(case a6=>simp;omega);intro g4 cc4 w4 o4 gb4 hat4 b4;rw[qnp] at gb4 hat4;have qq:=Qm R4.s gb4 HP1.out st1;obtain⟨y0,y1,y2,y3,y4,y5,y6,y7⟩:=qb9 qq;have yf:=fun i=>zfz qq i)
   have p5:(w4.setCell ⟨g,2,none⟩ (.slice (some ⟨g4,0,none⟩) (ns+1) cc4)).heap[g]? =some (stC (.slice Ae ne ce) (.slice At nt ct) (.slice (some ⟨g4,0,none⟩) (ns+1) cc4) (.slice (some ⟨b9,0,none⟩) lk.length c9) true nx num den):=Yan w4 g 2 _ _ _ qq;have R5:=(R4.appS o4 gb4 hat4).setX qq st1 st2 2 (.slice (some ⟨g4,0,none⟩) (ns+1) cc4);have z5:=(Yal w4 ⟨g,2,none⟩ (.slice (some ⟨g4,0,none⟩) (ns+1) cc4) (g+1) (by simp)).trans (Qm R4.s gb4 HP2.out st1);have K5:=(K4.row R4.s (.inl rfl) gb4).setX (by omega) (b:=g) 2 (.slice (some ⟨g4,0,none⟩) (ns+1) cc4);have B5:=(B4.trans b4).setCell (p:=⟨g,2,none⟩) hle (.slice (some ⟨g4,0,none⟩) (ns+1) cc4);generalize World.setCell w4 _ _=w5 at p5 R5 z5 K5 B5⊢;clear s0 s1 s2 s3 s4 s5 s6 s7 sf y0 y1 y2 y3 y4 y5 y6 y7 yf qq o4 gb4 hat4 b4 R4 K4 B4 hA;obtain⟨s0,s1,s2,s3,s4,s5,s6,s7⟩:=qb9 p5;obtain⟨z0,z1,z2,z3',z4,z5',z6,z7⟩:=qb9 z5;have zf:=fun i=>zfz z5 i
   go_wp2_with fail;have hz:=qa2 z5 (.slice Ae ne ce) (.slice At nt ct) (.slice (some ⟨g4,0,none⟩) (ns+1) cc4) (.slice (some ⟨b9,0,none⟩) lk.length c9) true nx num den;obtain⟨hzB,hzG⟩:=hz;obtain⟨y0,y1,y2,y3,y4,y5,y6,y7⟩:=qb9 hzB;refine bodyPost_ret (v:=stV (.slice Ae ne ce) (.slice At nt ct) (.slice (some ⟨g4,0,none⟩) (ns+1) cc4) (.slice (some ⟨b9,0,none⟩) lk.length c9) true nx num den) (by simp[results,Tryz.results70,go_sem,y0,y1,y2,y3,y4,y5,y6,y7]) rfl ?_;rw[hlk2];exact⟨some ⟨g4,0,none⟩,cc4,some ⟨b9,0,none⟩,c9,rfl,R5.gbX hzG z5 st1 st2,K5.gbX hzG (by omega),B5.grown hzG (zll hW0 B5.size) (fun k hk=>by cases hk;omega)⟩
  have e0:decide ((k:Int)<(lf.length:Int))=true:=Yag (by omega);have hkI:(k:Int)<(lf.length:Int):=by omega
  have hm:=hmem lf[k] (Yao hkl);have hwl:(qe7 dn lf).length=lf.length:=qfq _ _;obtain⟨wb,hAw,hwb,hwbl,wc0,wc1,wcf⟩:=qkr h1.k k (by rw[hwl];exact hkl);have hwk:(qe7 dn lf)[k]'(by rw[hwl];exact hkl)=(lf[k],dn.getD lf[k] 0):=by simp[qe7]
  rw[hwk] at wc0 wc1;have hgd:lf.getD k 0=lf[k]:=by simp[hkl]
  have hdr:qbq l js lf en (k+1)=if(Qg l (jK js lf[k])).crit then qbq l js lf en k else(qbq l js lf en k).set lf[k] (-2):=by
   simp only[qbq];rw[hgd]
  have hfl:(lf.take (k+1)).filter (fun i=>(Qg l (jK js i)).crit)=lk++(if(Qg l (jK js lf[k])).crit then [lf[k]] else []):=by
   rw[q0u _ lf k hkl,hlk.out]
  have HDR:=zhi hdr;have HFL:=zhi hfl;clear hdr hfl hgd hwk;generalize lf[k]=i at hm wc0 wc1 HDR HFL;obtain⟨b,off,rfl,hbl,hc⟩:=(hJS.keep hB1) (by omega);obtain⟨q0,q1,q2⟩:=Vi hc i hm;rw[←Vx js i hm] at q0 q1 q2;obtain⟨a0,a1,hta,hk,_,_⟩:=V.job i hm;obtain⟨tb,toff,rfl,htb,htc⟩:=(hTS.keep hB1) (by omega);obtain⟨c0,c1,c2,c3,c4⟩:=Qv htc (jK js i) hk;rw[hta] at q0;clear hc htc c0 c1 c2 c3 q1 q2 a0 a1 hta;have hiI:(i:Int)<(js.length:Int):=by omega
  have hkk:(jK js i:Int)<(l.length:Int):=by omega
  subst hAw;cases hcr:(Qg l (jK js i)).crit with
  |true=>
   rw[hcr] at c4;have hde:Hid (qbq l js lf en (k+1)=qbq l js lf en k):=by rw[Hid,HDR.out,hcr];rfl
   have hfe:Hid ((lf.take (k+1)).filter (fun i=>(Qg l (jK js i)).crit)=lk++[i]):=by rw[Hid,HFL.out,hcr];rfl
   have hlkl:lk.length≤20000:=by
    rw[←hlk.out];exact zll (List.length_filter_le _ _) (by rw[Yap];omega)
   have hwn:qe7 dn (lk++[i])=qe7 dn lk++[(i,dn.getD i 0)]:=by simp[qe7]
   dsimp only at wc0 wc1;have HWN:=zhi hwn;clear hwn;generalize dn.getD i 0=y at wc1 HWN;have bA:=Below.refl wr.heap.size wr;have hA:=zha wr (.cells #[.int .i64 (i:Int),.int .i64 y] WT (0,0));have bA:=bal bA (.cells #[.int .i64 (i:Int),.int .i64 y] WT);have hRa:=h1.keep bA;have kA:=k1.keep bA;have o9a:=q0s o9 bA;have hWr:=zll hW0 hb1.size;have BA:=hb1.trans (bA.mono hWr);have hp1:=bh bA hg1.out;have hp2:=bh bA hg2.out;have HP1:=zhi hp1;have HP2:=zhi hp2;clear bA hp1 hp2;go_wp2_with (at_builtin;refine qmq _ rfl _ _ rfl W0.heap.size (some ⟨b9,0,none⟩) (qe7 dn lk) lk.length c9 (qfq _ _) ?a1 ?a2 wr.heap.size 1 (i,y) WT ?a3 ?a4 ?a5 ?a6 ?_;(case a1=>exact rfl);(case a2=>exact o9a);(case a3=>exact rfl);(case a4=>exact hA);(case a5=>rw[qfq];omega);(case a6=>simp;omega);intro g4 cc4 w4 o4 gb4 hat4 b4)
   have q1':=Qm o9a gb4 HP1.out st2;have q2':=Qm o9a gb4 HP2.out st2;have R4:=hRa.side o9a f9 gb4;have f4:=q0t hRa.k f9 hat4;have K4:=kA.row o9a (.inr rfl) gb4;rw[←HWN.out] at o4;rw[←hde.out] at R4;have hlen:(lk++[i]).length=lk.length+1:=by simp
   go_roundg (gk-1)
   case measure=>omega
   case rel=>exact⟨k+1,g4,cc4,lk++[i],by omega,by go_num,by rw[hlen],hfe,q1',q2',R4,o4,f4,K4,BA.trans b4⟩
  |false=>
   rw[hcr] at c4;have hde:Hid (qbq l js lf en (k+1)=(qbq l js lf en k).set i (-2)):=by rw[Hid,HDR.out,hcr];rfl
   have hfe:Hid ((lf.take (k+1)).filter (fun i=>(Qg l (jK js i)).crit)=lk):=by rw[Hid,HFL.out,hcr];simp
   obtain⟨be,hAe,hbe,hbel,⟨u,hu⟩,hfz,hR,hgE⟩:=h1.setE i (by rw[qkl,hen];exact hm) (-2);subst hAe;rw[←hde.out] at hR;have q1':=Qm h1.e hgE hg1.out st1;have q2':=Qm h1.e hgE hg2.out st1;have kp':=k1.row h1.e (.inl rfl) hgE
   have bl':=hb1.grown hgE (zll hW0 hb1.size) (fun k hk=>by
    have:be=k:=by simpa [bk,Value.ownBlock] using hk
    omega)
   have o9':=Qw o9 h1.e hgE wt1;have hmE:(i:Int)<(ne:Int):=by have:=Hne.out;omega
   go_wp2_with fail;go_roundg (gk-1)
   case measure=>omega
   case rel=>exact⟨k+1,b9,c9,lk,by omega,by go_num,rfl,hfe,q1',q2',hR,o9',f9,kp',bl'⟩
theorem qtl(l:List (Nat×Int)):(qag l).length=2*l.length:=by
 induction l with
 |nil=>rfl
 |cons t l ih=>
  have e:qag (t::l)=(.int .i64 (t.1:Int))::(.int .i64 t.2)::qag l:=by simp[qag]
  rw[e,Yau,Yau,ih,Yau];omega
theorem qvl(l:List (Nat×Int)): ∀u∈qag l,u.oneCell'=true:=by
 intro u hu;simp only[qag,Yed] at hu;obtain⟨p,_,hp⟩:=hu;simp at hp;rcases hp with rfl|rfl<;>rfl
theorem qym(l:List (Nat×Int))(k:Nat):qag (l.take k)=(qag l).take (k*2):=by
 induction l generalizing k with
 |nil=>simp[qag]
 |cons t l ih=>
  have e:qag (t::l)=(.int .i64 (t.1:Int))::(.int .i64 t.2)::qag l:=by simp[qag]
  cases k with
  |zero=>simp[qag]
  |succ k=>
   have e2:qag ((t::l).take (k+1))=(.int .i64 (t.1:Int))::(.int .i64 t.2)::qag (l.take k):=by simp[qag]
   have h1:(k+1)*2=k*2+1+1:=by omega
   rw[e2,e,h1,ih k];simp
theorem qyn(l:List (Nat×Int))(k:Nat):qag (l.drop k)=(qag l).drop (k*2):=by
 induction l generalizing k with
 |nil=>simp[qag]
 |cons t l ih=>
  have e:qag (t::l)=(.int .i64 (t.1:Int))::(.int .i64 t.2)::qag l:=by simp[qag]
  cases k with
  |zero=>simp
  |succ k=>
   have h1:(k+1)*2=k*2+1+1:=by omega
   rw[List.drop_succ_cons,e,h1,ih k];simp
theorem Vg{w:World}{o:Oper}{a:Act}{K:Act→World→Prop}{Q:Exit→Act→World→Prop}(s x:Operand)
  (ho:o.op=.call {callee:=.builtin .append,args:=#[s,x],argTypes:=#[63,63]})
  (base:Nat) (A:ZA) (l:List (Nat×Int)) (n c:Nat) (hn:l.length=n) (hs:a.eval s=.slice A n c) (hown:OW base w A c l)
  (ad:Addr) (j c1:Nat) (m:List (Nat×Int)) (hj:m.length=j) (hx:a.eval x=.slice (some ad) j c1) (hm: ∀k u,(qag m)[k]? =some u→w.cell? (ad.add k)=some u)
  (hl:l.length≤2000000) (hlm:m.length≤2000000) (hbase:base≤w.heap.size)
  (h: ∀A' c' w',OW base w' A' c' (l++m)→w.grownBy w' (bk A)→Below base w w'→K (a.put o.dst (.slice A' (n+j) c')) w'):Oper.wp Tryz.prog o a w K Q:=by
 subst hn hj;obtain⟨i0,hi,hz0,hz1,hz2⟩:=Ybv qrj
 refine wp_append_own w s x 63 ho base WT i0 _ 2 16 Tryz.underlying63 hi hz0 hz1 hz2 rfl (by decide) (.slice A l.length c) l.length (qag l) hs hown
  ad m.length c1 (qag m) hx (by rw[qtl,Yct]) hm (qvl m) (by unfold maxLen;omega) (by omega) hbase ?_
 intro v' w' hown' hg _;obtain⟨A',c',rfl⟩:=qcx hown';have hg2:=hg;rw[qnp] at hg2;refine h A' c' w' ?_ hg2 (qad hown hg hbase);unfold OW;rw[Yaa,qh9];exact hown'
theorem q0v(l:List (Nat×Int))(i:Nat)(hi:i<l.length)(x:Int):qag (l.set i (l[i].1,x))=(qag l).set (i*2+1) (.int .i64 x):=by
 induction l generalizing i with
 |nil=>simp at hi
 |cons t l ih=>
  have e:qag (t::l)=(.int .i64 (t.1:Int))::(.int .i64 t.2)::qag l:=by simp[qag]
  cases i with
  |zero=>simp[qag]
  |succ i=>
   have hi':i<l.length:=by simpa using hi
   have h1:(i+1)*2+1=i*2+1+1+1:=by omega
   have e2:qag ((t::l).set (i+1) ((t::l)[i+1].1,x))=(.int .i64 (t.1:Int))::(.int .i64 t.2)::qag (l.set i (l[i].1,x)):=by simp[qag]
   rw[e2,e,h1,ih i hi'];simp
theorem SRows.setW{base:Nat}{w:World}{Ae:ZA}{ce:Nat}{en:List Int}{At:ZA}{ct:Nat}{tr:List Int}{As:ZA}{cs:Nat}{sw:List Int}{wb cw:Nat}{wk:List (Nat×Int)}(h:SRows base w Ae ce en At ct tr As cs sw (some ⟨wb,0,none⟩) cw wk)(i:Nat)(hi:i<wk.length)(x:Int):
  SRows base (w.setCell ⟨wb,i*2+1,none⟩ (.int .i64 x)) Ae ce en At ct tr As cs sw (some ⟨wb,0,none⟩) cw (wk.set i (wk[i].1,x))∧w.grownBy (w.setCell ⟨wb,i*2+1,none⟩ (.int .i64 x)) (bk (some ⟨wb,0,none⟩)):=by
 have hg:w.grownBy (w.setCell ⟨wb,i*2+1,none⟩ (.int .i64 x)) (bk (some ⟨wb,0,none⟩)):=Qx w wb (i*2+1) (.int .i64 x);have h1:=World.ownsRow.stored h.k (i*2+1) (.int .i64 x);refine⟨h.appW ?_ hg,hg⟩;unfold OW;rw[Ybc,q0v wk i hi x];exact h1.1
theorem q0w{w:World}{base wb cw:Nat}{wk:List (Nat×Int)}(h:OW base w (some ⟨wb,0,none⟩) cw wk)(k:Nat): ∀j u,(qag (wk.take k))[j]? =some u→w.cell? ((⟨wb,0,none⟩:Addr).add j)=some u:=by
 intro j u hu;rw[qym,Ydp] at hu;split at hu
 ·exact World.ownsRow.cells h (g:=wb) rfl j u hu
 ·cases hu
theorem q0x{w:World}{base wb cw:Nat}{wk:List (Nat×Int)}(h:OW base w (some ⟨wb,0,none⟩) cw wk)(k:Nat)(hk:k≤wk.length): ∃A:Addr,(if cw=k then(some (⟨wb,0,none⟩:Addr)) else some ⟨wb,k*2,none⟩)=some A∧ ∀w':World,(∀j u,(qag wk)[j]? =some u→w'.cell? ((⟨wb,0,none⟩:Addr).add j)=some u)→ ∀j u,(qag (wk.drop k))[j]? =some u→w'.cell? (A.add j)=some u:=by
 have hsz:=Qo h;by_cases hc:cw=k
 ·refine⟨⟨wb,0,none⟩,by simp[hc],fun w' _ j u hu=>?_⟩;have:wk.drop k=[]:=List.drop_eq_nil_of_le (by omega);rw[this] at hu;simp[qag] at hu
 ·refine⟨⟨wb,k*2,none⟩,by simp[hc],fun w' hw j u hu=>?_⟩;rw[qyn wk k,Ydq] at hu;have:=hw _ u hu;rw[qai] at this;rw[Ycg];exact this
theorem qm4{base wb cw:Nat}{w:World}{dn:List Int}{lf:List Nat}(h:OW base w (some ⟨wb,0,none⟩) cw (qe7 dn lf))(k:Nat)(hk:k<lf.length):
  w.cell? ⟨wb,k*2,none⟩=some (.int .i64 (lf.getD k 0:Nat))∧w.cell? ⟨wb,k*2+1,none⟩=some (.int .i64 (dn.getD (lf.getD k 0) 0))∧ ∀i,w.frozen? ⟨wb,i,none⟩=false:=by
 obtain⟨b,hA,_,_,c0,c1,cf⟩:=qkr h k (by rw[qfq];exact hk);injection hA with hA
 injection hA with hA _ _
 subst hA;have hwk:(qe7 dn lf)[k]'(by rw[qfq];exact hk)=(lf.getD k 0,dn.getD (lf.getD k 0) 0):=by simp[qe7,hk]
 rw[hwk] at c0 c1;exact⟨c0,c1,cf⟩
theorem qrl{w:World}{js:List Jb}{jb joff:Nat}(h:JS w (some ⟨jb,joff,none⟩) js)(i:Nat)(hi:i<js.length):
  w.cell? ⟨jb,joff+i*3,none⟩=some (.int .i64 (Qt js i).task)∧w.cell? ⟨jb,joff+i*3+1,none⟩=some (.int .i64 (Qt js i).at_)∧w.cell? ⟨jb,joff+i*3+2,none⟩=some (.int .i64 (Qt js i).need):=by
 obtain⟨b,off,hA,_,hc⟩:=h (by omega);injection hA with hA
 injection hA with hA hO _
 subst hA hO;rw[Vx js i hi];exact Vi hc i hi
end Go.Proofs.YtmkjmancmiphfaaGreatDoor
