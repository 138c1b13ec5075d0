/-
  The reference's RunJobs is the machine; where it does not run.
  Texts cut at what does not occur ahead of the cut: index, cut, split: in plain Lean.
  Numbers in decimal read back, and texts of tasks cut into their parts: in plain Lean.
  What the library's walks ask of the world (Mx), and the library's contracts that texts are read with.
  The interpreter's desk: its five cells, and the builder that lies in the last two of them.
  The interpreter's desk tells a line, and takes tasks: (*desk).tell, (*desk).set.
  A line done at the desk: (*desk).do, decimal.
  RunScript: line by line, by what each line does at the desk.
  The program's RunJobs where nothing is run; RunSame of equal runs; FormatTrace, numbers, DroppedOf.
-/
import Derived.Test.YtmkjmancmiphfaaGreatDoorRc20
import Derived.Test.YtmkjmancmiphfaaGreatDoorRc22
import Derived.Lib.AppendIntMem
import Derived.Test.YtmkjmancmiphfaaGreatDoorRc11
namespace Go.Proofs.YtmkjmancmiphfaaGreatDoor
set_option maxHeartbeats 8000000
set_option maxRecDepth 1000000
open Go.RowKit
abbrev qyp:Value:=.agg #[.slice none 0 0,.slice none 0 0,.slice none 0 0,.bool false]
abbrev qln(e t s:Value)(hi:Bool):Obj:=.cells #[e,t,s,.bool hi] RT (0,0)
theorem qdq{w:World}{b:Nat}{v0 v1 v2 v3:Value}{t:TypeId}(h:w.heap[b]? =some (.cells #[v0,v1,v2,v3] t (0,0))):
  w.cell? ⟨b,0,none⟩=some v0∧w.cell? ⟨b,1,none⟩=some v1∧w.cell? ⟨b,2,none⟩=some v2∧w.cell? ⟨b,3,none⟩=some v3:=by
 refine⟨?_,?_,?_,?_⟩<;>(rw[Yak h];rfl)
theorem qft{v:World}{r:Nat}{x0 x1 x2 x3:Value}(h:v.heap[r]? =some (.cells #[x0,x1,x2,x3] RT (0,0)))(e t s:Value)(hi:Bool):
  ((((v.setCell ⟨r,0,none⟩ e).setCell ⟨r,1,none⟩ t).setCell ⟨r,2,none⟩ s).setCell ⟨r,3,none⟩ (.bool hi)).heap[r]? =some (qln e t s hi)∧
   v.grownBy ((((v.setCell ⟨r,0,none⟩ e).setCell ⟨r,1,none⟩ t).setCell ⟨r,2,none⟩ s).setCell ⟨r,3,none⟩ (.bool hi)) (some r):=by
 have h1:(v.setCell ⟨r,0,none⟩ e).heap[r]? =some (.cells #[e,x1,x2,x3] RT (0,0)):=Yan v r 0 _ _ e h;have g1:=Qx v r 0 e;generalize v.setCell ⟨r,0,none⟩ e=v1 at h1 g1⊢;have h2:(v1.setCell ⟨r,1,none⟩ t).heap[r]? =some (.cells #[e,t,x2,x3] RT (0,0)):=Yan v1 r 1 _ _ t h1;have g2:=Qx v1 r 1 t;generalize v1.setCell ⟨r,1,none⟩ t=v2 at h2 g2⊢;have h3:(v2.setCell ⟨r,2,none⟩ s).heap[r]? =some (.cells #[e,t,s,x3] RT (0,0)):=Yan v2 r 2 _ _ s h2;have g3:=Qx v2 r 2 s;generalize v2.setCell ⟨r,2,none⟩ s=v3 at h3 g3⊢;have h4:(v3.setCell ⟨r,3,none⟩ (.bool hi)).heap[r]? =some (.cells #[e,t,s,.bool hi] RT (0,0)):=Yan v3 r 3 _ _ (.bool hi) h3;exact⟨h4,Vo (Vo (Vo g1 g2) g3) (Qx v3 r 3 (.bool hi))⟩
theorem qnr{l:List Tk}{js:List Jb}(pol tk:Int)(hno:qrg l js pol tk=false)(A:ZA)(c:Nat)(B:ZA)(d:Nat)(w:World)(h:TS w A l)(g:JS w B js)(hlm:l.length≤maxLen)(hjm:js.length≤maxLen):
  Calls Tryz.prog 9 #[.slice A l.length c,.slice B js.length d,.int .i64 pol,.int .i64 tk] w fun e w'=>e=.returned (.tuple #[qyp,.bool false])∧Below w.heap.size w w':=by
 have hno:Q9 l js=false∨(Q9 l js=true∧qi5 l pol=false)∨(Q9 l js=true∧qi5 l pol=true∧tk<0)∨(Q9 l js=true∧qi5 l pol=true∧0≤tk∧200<tk):=by
  by_cases a1:Q9 l js=true
  ·by_cases a2:qi5 l pol=true
   ·by_cases a3:0≤tk
    ·by_cases a4:tk≤200
     ·simp[qrg,a1,a2,a3,a4] at hno
     ·exact .inr (.inr (.inr ⟨a1,a2,a3,by omega⟩))
    ·exact .inr (.inr (.inl ⟨a1,a2,by omega⟩))
   ·exact .inr (.inl ⟨a1,by simpa using a2⟩)
  ·exact .inl (by simpa using a1)
 go_enter Tryz.func9,Tryz.ntmps9;go_wp2_with fail;refine(qkq A l c pol _ (h.keep (bal br _)) hlm).mono ?_;rintro e w1 ⟨rfl,b1⟩;have r1:=(b1.block _ (by simp)).trans (zha w (qln (.slice none 0 0) (.slice none 0 0) (.slice none 0 0) false));have B1:=Qa (bal (Below.refl w.heap.size w) _) b1;generalize q2u l pol=num;generalize q2v l pol=den;have r2:=(Yaj w1 (.cells #[.int .i64 num,.int .i64 den] 54) _ (bl r1)).trans r1;have B2:=bal B1 (.cells #[.int .i64 num,.int .i64 den] 54);clear r1 B1 b1;go_upto_region 2 with fail;generalize World.alloc w1 _=w2 at r2 B2⊢;go_wp2_with fail;refine(qd9 A l c B js d _ (h.keep B2) (g.keep B2) hlm hjm).mono ?_;rintro e w3 ⟨rfl,b3⟩;have r3:=bh b3 r2;have B3:=Qa B2 b3;clear r2 B2 b3;obtain⟨s0,s1,s2,s3⟩:=qdq r3;have sf:=fun i=>zfz r3 i
 have hz:=qft r3 (.slice none 0 0) (.slice none 0 0) (.slice none 0 0) false;obtain⟨hzB,hzG⟩:=hz;obtain⟨y0,y1,y2,y3⟩:=qdq hzB;have HB:Below w.heap.size w _:=B3.grown hzG B3.size (fun k hk=>by cases hk;exact zlr _);clear hzB hzG r3;rcases hno with e0|⟨e0,e1⟩|⟨e0,e1,e2⟩|⟨e0,e1,e2,e3⟩
 ·rw[e0];go_wp2_with fail;exact bodyPost_ret (v:=.tuple #[qyp,.bool false]) (by simp[results,Tryz.results9,go_sem,y0,y1,y2,y3]) rfl ⟨rfl,HB⟩
 ·rw[e0,e1];go_wp2_with fail;exact bodyPost_ret (v:=.tuple #[qyp,.bool false]) (by simp[results,Tryz.results9,go_sem,y0,y1,y2,y3]) rfl ⟨rfl,HB⟩
 ·rw[e0,e1];have e4:decide (tk<0)=true:=Yag e2;go_wp2_with fail;exact bodyPost_ret (v:=.tuple #[qyp,.bool false]) (by simp[results,Tryz.results9,go_sem,y0,y1,y2,y3]) rfl ⟨rfl,HB⟩
 ·rw[e0,e1];have e4:decide (tk<0)=false:=Yaf (by omega);have e5:decide (200<tk)=true:=Yag e3;go_wp2_with fail;exact bodyPost_ret (v:=.tuple #[qyp,.bool false]) (by simp[results,Tryz.results9,go_sem,y0,y1,y2,y3]) rfl ⟨rfl,HB⟩
theorem rt6:RT≠WT:=by decide
theorem qmr{l:List Tk}{js:List Jb}(hV:Q9 l js=true)(pol:Int)(hp:pol=0∨pol=1)(hf:pol=1→qsi l=true)(tk:Nat)(htk:tk≤200)(A:ZA)(c:Nat)(B:ZA)(d:Nat)(w:World)(h:TS w A l)(g:JS w B js)(hlm:l.length≤maxLen)(hjm:js.length≤maxLen):
  Calls Tryz.prog 9 #[.slice A l.length c,.slice B js.length d,.int .i64 pol,.int .i64 (tk:Int)] w fun e w'=> ∃Ae ce At ct As cs,e=.returned (.tuple #[.agg #[.slice Ae (qce l js (qgp l) (qgq l) pol tk).en.length ce,.slice At (qce l js (qgp l) (qgq l) pol tk).tr.length ct,.slice As (qce l js (qgp l) (qgq l) pol tk).sw.length cs,.bool (qce l js (qgp l) (qgq l) pol tk).hi],.bool true])∧
   OI w.heap.size w' Ae ce (qce l js (qgp l) (qgq l) pol tk).en∧OI w.heap.size w' At ct (qce l js (qgp l) (qgq l) pol tk).tr∧OI w.heap.size w' As cs (qce l js (qgp l) (qgq l) pol tk).sw∧Below w.heap.size w w':=by
 have hPB:qi5 l pol=true:=by
  unfold qi5;rcases hp with rfl|rfl
  ·rfl
  ·simp[hf rfl]
 have V:=q70 hV pol;have HM:=fun t=>q3l l js pol hp t
 have h60:js.length≤60:=by
  simp only[Q9,Yac,Yae] at hV;exact hV.1.2
 have q0:decide ((tk:Int)<0)=false:=Yaf (by omega);have q1:decide (200<(tk:Int))=false:=Yaf (by omega);go_enter Tryz.func9,Tryz.ntmps9;go_wp2_with fail;refine(qkq A l c pol _ (h.keep (bal br _)) hlm).mono ?_;rw[hPB];rintro e w1 ⟨rfl,b1⟩;have r1:=(b1.block _ (by simp)).trans (zha w (qln (.slice none 0 0) (.slice none 0 0) (.slice none 0 0) false));have B1:=Qa (bal (Below.refl w.heap.size w) _) b1;generalize q2u l pol=num at V HM⊢;generalize q2v l pol=den at V HM⊢;have HM:=zhi HM;have r2:=(Yaj w1 (.cells #[.int .i64 num,.int .i64 den] 54) _ (bl r1)).trans r1;have x2:=zha w1 (.cells #[.int .i64 num,.int .i64 den] 54 (0,0));have B2:=bal B1 (.cells #[.int .i64 num,.int .i64 den] 54);clear r1 B1 b1;go_upto_region 2 with fail;obtain⟨gx,hgx⟩: ∃gx,w1.heap.size=gx:=⟨_,rfl⟩;rw[hgx] at x2⊢;generalize World.alloc w1 _=w2 at r2 x2 B2⊢;clear hgx;go_wp2_with fail;refine(qd9 A l c B js d _ (h.keep B2) (g.keep B2) hlm hjm).mono ?_;rw[hV];rintro e w3 ⟨rfl,b3⟩;have r3:=bh b3 r2;have x3:=bh b3 x2;have B3:=Qa B2 b3;clear r2 x2 B2 b3;obtain⟨s0,s1,xf⟩:=Qk x3;have r4:=(Yaj w3 (stC (.slice none 0 0) (.slice none 0 0) (.slice none 0 0) (.slice none 0 0) false 0 num den) _ (bl r3)).trans r3;have p4:=zha w3 (stC (.slice none 0 0) (.slice none 0 0) (.slice none 0 0) (.slice none 0 0) false 0 num den);have B4:=bal B3 (stC (.slice none 0 0) (.slice none 0 0) (.slice none 0 0) (.slice none 0 0) false 0 num den);have hgs:w.heap.size<w3.heap.size:=(bl r3);go_upto_region 5 with fail;obtain⟨gs,hgsE⟩: ∃gs,w3.heap.size=gs:=⟨_,rfl⟩;rw[hgsE] at p4 hgs⊢;generalize World.alloc w3 _=w4 at r4 p4 B4⊢;clear s0 s1 xf r3 x3 B3 hgsE;go_wp2_with fail;go_loopg [13] js.length (fun gg iv wr=> ∃(k:Nat) (Ae:ZA) (ce:Nat),gg+k=js.length∧iv=.int .i64 (k:Int)∧wr.heap[gs]? =some (stC (.slice Ae k ce) (.slice none 0 0) (.slice none 0 0) (.slice none 0 0) false 0 num den)∧wr.heap[w.heap.size]? =some (qln (.slice none 0 0) (.slice none 0 0) (.slice none 0 0) false)∧OI w.heap.size wr Ae ce (List.replicate k (-1))∧Below w.heap.size w wr)
 case atStart=>exact⟨0,none,0,by omega,rfl,p4,r4,qex _ _,B4⟩
 case round=>
  clear p4 r4 B4;obtain⟨k,Ae,ce,hgk,rfl,p4,r4,hE,B4⟩:=hrel;obtain⟨s0,s1,s2,s3,s4,s5,s6,s7⟩:=qb9 p4;have sf:=fun i=>zfz p4 i
  by_cases hkl:k<js.length
  case pos=>
   have e0:decide ((k:Int)<(js.length:Int))=true:=Yag (by omega);have hA:=zha wr (.cells #[.int .i64 (-1)] 3 (0,0));have bA:=bal (Below.refl wr.heap.size wr) (.cells #[.int .i64 (-1)] 3);have hE2:=Q3 hE bA;have B5:=B4.trans (bA.mono B4.size);have HP1:=zhi (bh bA p4);have HP2:=zhi (bh bA r4);have HK:Hid ((List.replicate k (-1:Int)).length=k):=by simp[Hid]
   have HK2:Hid (List.replicate k (-1:Int)++[-1]=List.replicate (k+1) (-1)):=by rw[Hid,Ydc]
   clear bA;go_wp2_with (at_builtin;refine qdp _ rfl _ _ rfl w.heap.size Ae (List.replicate k (-1)) k ce HK.out ?a1 ?a2 wr.heap.size 1 (-1) 3 ?a3 ?a4 ?a5 ?a6 _ rfl ?_;(case a1=>exact rfl);(case a2=>exact hE2);(case a3=>exact rfl);(case a4=>exact hA);(case a5=>rw[HK.out];omega);(case a6=>have:=B4.size;simp;omega);intro g4 cc4 w5 o4 gb4 hat4 b4;rw[qnp] at gb4 hat4;have qq:=Qm hE2 gb4 HP1.out st1;obtain⟨y0,y1,y2,y3,y4,y5,y6,y7⟩:=qb9 qq;have yf:=fun i=>zfz qq i)
   have r5:=Qm hE2 gb4 HP2.out (show RT≠3 by decide);rw[HK2.out] at o4;go_roundg (gk-1)
   case measure=>omega
   case rel=>exact⟨k+1,some ⟨g4,0,none⟩,cc4,by omega,by go_num,Yan w5 gs 0 _ _ _ qq,(Yal w5 ⟨gs,0,none⟩ _ w.heap.size (by simp;omega)).trans r5,qau o4 (Qx w5 gs 0 _) qq (fun e=>st1 e.symm),(B5.trans b4).setCell (p:=⟨gs,0,none⟩) (Nat.le_of_lt hgs) _⟩
  case neg=>
   obtain rfl:k=js.length:=by omega
   have e0:decide ((js.length:Int)<(js.length:Int))=false:=Yaf (by omega)
   have SR:SRows w.heap.size wr Ae ce (qce l js num den pol 0).en none 0 (qce l js num den pol 0).tr none 0 (qce l js num den pol 0).sw none 0 (qe7 (qce l js num den pol 0).dn (qce l js num den pol 0).lf):=
    ⟨hE,qex _ _,qex _ _,q7f _ _,(qm3 _).symm,(qm3 _).symm,qm3 _⟩
   have I0:=q7z (num:=num) (den:=den) (pol:=pol) hV
   have p5:wr.heap[gs]? =some (stC (.slice Ae (qce l js num den pol 0).en.length ce) (.slice none (qce l js num den pol 0).tr.length 0) (.slice none (qce l js num den pol 0).sw.length 0) (.slice none (qce l js num den pol 0).lf.length 0) (qce l js num den pol 0).hi (0:Nat) num den):=by
    rw[p4];simp[qce,stC]
   clear s0 s1 s2 s3 s4 s5 s6 s7 sf p4 hE;go_wp2_with fail;go_loopg [14] tk (fun gg iv wr=> ∃(t nx:Nat) (s:Mc) (Ae:ZA) (ce:Nat) (At:ZA) (ct:Nat) (As:ZA) (cs:Nat) (Aw:ZA) (cw:Nat),gg+t=tk∧iv=.int .i64 (t:Int)∧Hid (qce l js num den pol t=s)∧SInv l js t s nx∧wr.heap[gs]? =some (stC (.slice Ae s.en.length ce) (.slice At s.tr.length ct) (.slice As s.sw.length cs) (.slice Aw s.lf.length cw) s.hi nx num den)∧wr.heap[w.heap.size]? =some (qln (.slice none 0 0) (.slice none 0 0) (.slice none 0 0) false)∧SRows w.heap.size wr Ae ce s.en At ct s.tr As cs s.sw Aw cw (qe7 s.dn s.lf)∧Below w.heap.size w wr)
   case atStart=>exact⟨0,0,_,Ae,ce,none,0,none,0,none,0,by omega,rfl,rfl,I0,p5,r4,SR,B4⟩
   case round=>
    clear p5 r4 SR B4 I0;obtain⟨t,nx,s,Ae,ce,At,ct,As,cs,Aw,cw,hgk,rfl,hs,I,p4,r4,SR,B4⟩:=hrel;obtain⟨s0,s1,s2,s3,s4,s5,s6,s7⟩:=qb9 p4;have sf:=fun i=>zfz p4 i
    by_cases htl:t<tk
    case pos=>
     have e0:decide ((t:Int)<(tk:Int))=true:=Yag (by omega);have hlen:=qiw (l:=l) (num:=num) (den:=den) (pol:=pol) h60 t;rw[hs.out] at hlen;obtain⟨n1,n2,n3⟩:=hlen;have KT:=qvm hV V hp A c B d w h g t (by omega) s nx I (by omega) (by omega) (by omega) wr B4 SR;clear n1 n2 n3;go_wp2_with fail;refine KT.mono ?_;rintro e w5 ⟨s',At',ct',As',cs',Aw',cw',nx',hs',rfl,R5,N5,K5,B5⟩;have p5:=K5.2 gs _ _ _ p4 st1 st2;have r5:=K5.2 w.heap.size _ _ _ r4 (by decide) rt6;have I5:=SInv.step (num:=num) (den:=den) (pol:=pol) hV I N5;rw[←hs'] at I5
     have HS5:Hid (qce l js num den pol (t+1)=s'):=by
      rw[Hid,hs',←hs.out];rfl
     have BB:=B4.trans B5;clear hs' s0 s1 s2 s3 s4 s5 s6 s7 sf;obtain⟨z0,z1,z2,z3,z4,z5,z6,z7⟩:=qb9 p5;have zf:=fun i=>zfz p5 i
     go_wp2_with fail;have hz:=qa2 p5 (.slice Ae s'.en.length ce) (.slice At' s'.tr.length ct') (.slice As' s'.sw.length cs') (.slice Aw' s'.lf.length cw') s'.hi nx' num den;obtain⟨hzB,hzG⟩:=hz;go_roundg (gk-1)
     case measure=>omega
     case rel=>exact⟨t+1,nx',s',Ae,ce,At',ct',As',cs',Aw',cw',by omega,by go_num,HS5,I5,hzB,(hzG.block w.heap.size (bl r5) (by simp;omega)).trans r5,R5.gbX hzG p5 st1 st2,BB.grown hzG BB.size (fun k hk=>by cases hk;omega)⟩
    case neg=>
     obtain rfl:t=tk:=by omega
     have e0:decide ((t:Int)<(t:Int))=false:=Yaf (by omega);obtain⟨u0,u1,u2,u3⟩:=qdq r4;have uf:=fun i=>zfz r4 i
     go_wp2_with fail;have hz:=qft r4 (.slice Ae s.en.length ce) (.slice At s.tr.length ct) (.slice As s.sw.length cs) s.hi;obtain⟨hzB,hzG⟩:=hz;obtain⟨y0,y1,y2,y3⟩:=qdq hzB;refine bodyPost_ret (v:=.tuple #[.agg #[.slice Ae s.en.length ce,.slice At s.tr.length ct,.slice As s.sw.length cs,.bool s.hi],.bool true]) (by simp[results,Tryz.results9,go_sem,y0,y1,y2,y3]) rfl ?_;rw[←HM.out,hs.out];exact⟨Ae,ce,At,ct,As,cs,rfl,qau SR.e hzG r4 (by decide),qau SR.t hzG r4 (by decide),qau SR.s hzG r4 (by decide),B4.grown hzG B4.size (fun k hk=>by cases hk;exact zlr _)⟩
theorem qto(c:UInt8)(sep x r:List UInt8)(h:c∉x):Go.Lib.index (x++(c::sep)++r) (c::sep)=(x.length:Int):=by
 induction x with
 |nil=>
  rw[Ycj,Ybw,Go.Lib.index,Yav (by simp[List.isPrefixOf])];rfl
 |cons b x ih=>
  have hb:c≠b:=fun e=>h (by simp[e])
  have hx:c∉x:=fun e=>h (by simp[e])
  rw[Ybw,Ybw,Go.Lib.index,Yaq (by simp[List.isPrefixOf,hb]),ih hx,Yaq (by simp)];simp
theorem qxg(c:UInt8)(sep x:List UInt8)(h:c∉x):Go.Lib.index x (c::sep)= -1:=by
 induction x with
 |nil=>rw[Go.Lib.index,Yaq (by simp)]
 |cons b x ih=>
  have hb:c≠b:=fun e=>h (by simp[e])
  have hx:c∉x:=fun e=>h (by simp[e])
  rw[Go.Lib.index,Yaq (by simp[List.isPrefixOf,hb]),ih hx];rfl
theorem qlo(c:UInt8)(sep x r:List UInt8)(h:c∉x):Go.Lib.cut (x++(c::sep)++r) (c::sep)=(x,r,true):=by
 unfold Go.Lib.cut;rw[qto c sep x r h,Yav (by omega),Yam,Yax,List.take_left',←Yax]
 ·rw[←Yaa,List.drop_left'];rfl
 ·rfl
theorem q01(c:UInt8)(sep x:List UInt8)(h:c∉x):Go.Lib.cut x (c::sep)=(x,[],false):=by
 unfold Go.Lib.cut;rw[qxg c sep x h,Yaq (by omega)]
def Qq(sep s:List UInt8):List (List UInt8):=(Go.Lib.splitB ⟨sep.toArray⟩ 0 (Go.Lib.countB ⟨s.toArray⟩ ⟨sep.toArray⟩) ⟨s.toArray⟩).map (fun x=>x.data.toList)
theorem qyq(sep s:List UInt8):(Go.Lib.splitB ⟨sep.toArray⟩ 0 (Go.Lib.countB ⟨s.toArray⟩ ⟨sep.toArray⟩) ⟨s.toArray⟩).map Value.string=(Qq sep s).map (fun x=>Value.string ⟨x.toArray⟩):=by
 unfold Qq;rw[List.map_map];apply Yee
 intro x _;simp[Function.comp]
theorem qat(c:UInt8)(sep x:List UInt8)(h:c∉x):Qq (c::sep) x=[x]:=by
 have hi:Go.Lib.indexB ⟨x.toArray⟩ ⟨(c::sep).toArray⟩= -1:=qxg c sep x h;unfold Qq;rw[Go.Lib.countB_miss _ _ hi,Go.Lib.splitB_zero];rfl
theorem qab(c:UInt8)(sep x r:List UInt8)(h:c∉x):Qq (c::sep) (x++(c::sep)++r)=x::Qq (c::sep) r:=by
 have hi:Go.Lib.indexB ⟨(x++(c::sep)++r).toArray⟩ ⟨(c::sep).toArray⟩=(x.length:Int):=qto c sep x r h
 have e1:(⟨(x++(c::sep)++r).toArray⟩:ByteArray).extract (x.length+(⟨(c::sep).toArray⟩:ByteArray).size) (⟨(x++(c::sep)++r).toArray⟩:ByteArray).size=⟨r.toArray⟩:=by
  rw[Go.Lib.extract_eq,Go.Lib.size_eq,Go.Lib.size_eq];show(⟨((List.drop (x.length+(c::sep).length) (x++(c::sep)++r)).take ((x++(c::sep)++r).length-(x.length+(c::sep).length))).toArray⟩:ByteArray)=_;rw[←Yaa,List.drop_left',Yar]
  ·simp;omega
  ·rfl
 have e0:(⟨(x++(c::sep)++r).toArray⟩:ByteArray).extract 0 (x.length+0)=⟨x.toArray⟩:=by
  rw[Go.Lib.extract_eq];show(⟨((List.drop 0 (x++(c::sep)++r)).take (x.length+0-0)).toArray⟩:ByteArray)=_;rw[List.drop_zero,Yax,Yds,Nat.add_zero,List.take_left'];rfl
 have h1:1≤(⟨(c::sep).toArray⟩:ByteArray).size:=by rw[Go.Lib.size_eq];show 1≤(c::sep).length;simp
 unfold Qq;rw[Go.Lib.countB_hit _ _ _ h1 hi,e1,Nat.add_comm 1,Go.Lib.splitB_hit _ _ _ _ _ hi,e0,e1];rfl
theorem qg3(sep s:List UInt8)(h:sep≠[]):(Qq sep s).length=Go.Lib.countB ⟨s.toArray⟩ ⟨sep.toArray⟩+1:=by
 unfold Qq;rw[Ybh];refine Go.Lib.splitB_all _ ?_ 0 _ _ rfl;rw[Go.Lib.size_eq];show 1≤sep.length;cases sep with
 |nil=>exact absurd rfl h
 |cons=>simp
theorem qjw(c:UInt8)(sep:List UInt8)(xs:List (List UInt8))(hx: ∀x∈xs,c∉x)(h0:xs≠[]):Qq (c::sep) (Go.Lib.join xs (c::sep))=xs:=by
 induction xs with
 |nil=>exact absurd rfl h0
 |cons x r ih=>
  cases r with
  |nil=>
   have:Go.Lib.join [x] (c::sep)=x:=by simp[Go.Lib.join_cons,Go.Lib.joinTail]
   rw[this];exact qat c sep x (hx x (by simp))
  |cons y r=>
   have e:Go.Lib.join (x::y::r) (c::sep)=x++(c::sep)++Go.Lib.join (y::r) (c::sep):=by simp[Go.Lib.join_cons,Go.Lib.joinTail]
   rw[e,qab c sep x _ (hx x (by simp)),ih (fun z hz=>hx z (Ybn _ hz)) (by simp)]
theorem qvo(n:Nat): ∀b∈Lib.decDigits n,48≤b.toNat∧b.toNat≤57:=by
 induction n using Nat.strongRecOn with
 |_ n ih=>
  intro b hb
  have dig: ∀d,d<10→48≤(UInt8.ofNat (48+d)).toNat∧(UInt8.ofNat (48+d)).toNat≤57:=by
   intro d hd;rw[Ycz,Nat.mod_eq_of_lt (by omega)];omega
  by_cases h:n<10
  ·rw[qbm n h,Yaw] at hb;subst hb;exact dig n h
  ·rw[qh7 n h,Ybq,Yaw] at hb;rcases hb with hb|rfl
   ·exact ih (n/10) (by omega) b hb
   ·exact dig _ (by omega)
theorem qmg(l:List UInt8)(b:UInt8)(acc m d:Nat)(h:Lib.decFrom acc l=some m)(hb:Lib.digitVal b=some d):Lib.decFrom acc (l++[b])=some (m*10+d):=by
 induction l generalizing acc with
 |nil=>
  simp only[Lib.decFrom,Option.some.injEq] at h;subst h;simp[Lib.decFrom,hb]
 |cons a t ih=>
  rw[Ybw];simp only[Lib.decFrom] at h⊢;cases ha:Lib.digitVal a with
  |none=>simp[ha] at h
  |some e=>
   simp only[ha] at h⊢;exact ih _ h
theorem qns(d:Nat)(h:d<10):Lib.digitVal (UInt8.ofNat (48+d))=some d:=by
 have e:(UInt8.ofNat (48+d)).toNat=48+d:=by rw[Ycz,Nat.mod_eq_of_lt (by omega)]
 unfold Lib.digitVal;rw[e,Yav (by omega)];congr 1
 omega
theorem qnt(n:Nat):Lib.decFrom 0 (Lib.decDigits n)=some n:=by
 induction n using Nat.strongRecOn with
 |_ n ih=>
  by_cases h:n<10
  ·rw[qbm n h];have:=qmg [] (UInt8.ofNat (48+n)) 0 0 n rfl (qns n h);simpa using this
  ·rw[qh7 n h,qmg _ _ 0 (n/10) (n % 10) (ih (n/10) (by omega)) (qns _ (by omega))];congr 1
   omega
theorem qtp(n:Nat):Lib.decDigits n≠[]:=by
 by_cases h:n<10
 ·rw[qbm n h];simp
 ·rw[qh7 n h];simp
theorem qm6(n:Int)(h:0≤n):Lib.atoi (num n)=some n:=by
 have h1:=qvo n.toNat;have h2:=qnt n.toNat;have h3:=qtp n.toNat;unfold num;cases hl:Lib.decDigits n.toNat with
 |nil=>exact absurd hl h3
 |cons b r=>
  rw[hl] at h1 h2;have hb:=h1 b (by simp)
  have n45:(b==45)=false:=by
   apply beq_eq_false_iff_ne.2
   rintro rfl;revert hb
   decide
  have n43:(b==43)=false:=by
   apply beq_eq_false_iff_ne.2
   rintro rfl;revert hb
   decide
  simp only[Lib.atoi,n45,n43,Yci,Ydh,Lib.decNat,List.isEmpty_cons,h2,Yde,Option.some.injEq];omega
theorem qcg(c:UInt8)(n:Int)(h:c.toNat<48∨57<c.toNat):c∉num n:=by
 intro e;have:=qvo n.toNat c e;omega
def qcm(t:Tk):List UInt8:=num t.low++qhd t
def qjx(t:Tk):List UInt8:=num t.every++qsj t
theorem qnu(t:Tk):Lib.cut (Vp t) [32,101,118,101,114,121,32]=(qcm t,qjx t,true):=by
 have e:Vp t=qcm t++(32::[101,118,101,114,121,32])++qjx t:=by simp[Vp,qcm,qjx]
 rw[e];refine qlo _ _ _ _ ?_;unfold qcm qhd;intro h;rw[Ybq] at h;rcases h with h|h
 ·exact qcg 32 _ (by decide) h
 ·split at h
  ·simp only[Ybz] at h;rcases h with h|h
   ·revert h;decide
   ·exact qcg 32 _ (by decide) h
  ·simp at h
theorem qiz{t:Tk}(h:t.crit=true):Lib.cut (qcm t) [47]=(num t.low,num t.high,true):=by
 have e:qcm t=num t.low++(47::[])++num t.high:=by simp[qcm,qhd,h]
 rw[e];exact qlo _ _ _ _ (qcg 47 _ (by decide))
theorem qks{t:Tk}(h:t.crit=false):Lib.cut (qcm t) [47]=(num t.low,[],false):=by
 have e:qcm t=num t.low:=by simp[qcm,qhd,h]
 rw[e];exact q01 _ _ _ (qcg 47 _ (by decide))
theorem qib{t:Tk}(h:t.due<t.every):Lib.cut (qjx t) [32,98,121,32]=(num t.every,num t.due,true):=by
 have e:qjx t=num t.every++(32::[98,121,32])++num t.due:=by simp[qjx,qsj,h]
 rw[e];exact qlo _ _ _ _ (qcg 32 _ (by decide))
theorem qic{t:Tk}(h: ¬t.due<t.every):Lib.cut (qjx t) [32,98,121,32]=(num t.every,[],false):=by
 have e:qjx t=num t.every:=by simp[qjx,qsj,h]
 rw[e];exact q01 _ _ _ (qcg 32 _ (by decide))
theorem qrn(c:UInt8)(t:Tk)(h:c=59∨c=10):c∉Vp t:=by
 have hc:c.toNat<48∨57<c.toNat:=by rcases h with rfl|rfl<;>decide
 have hn: ∀n,c∉num n:=fun n=>qcg c n hc
 intro hm;unfold Vp qhd qsj at hm;simp only[Ybq,Ybz] at hm;rcases h with rfl|rfl<;>(revert hm;split<;>split<;>simp[hn])
theorem qyr(c:UInt8)(t:Tk)(h:c=59∨c=10):c∉Qr t:=by
 unfold Qr;split
 ·exact qrn c t h
 ·simp
theorem qvp{l:List Tk}(h:l≠[]):Qq [59,32] (qqd l)=l.map Qr:=by
 refine qjw 59 [32] _ ?_ (by simpa using h);intro x hx;obtain⟨t,_,rfl⟩:=List.mem_map.1 hx;exact qyr 59 t (.inl rfl)
structure Mx (B:Nat) (w:World):Prop where
 max: ∃m:Int,w.cell? ⟨0,0,none⟩=some (.int .i64 m)
 maxLt:0<B
 tab:Lib.TabIs Tryz.prog w "internal/strconv.uint64pow10" .u64 Lib.pow10Tab
 tabLt:1<B
theorem Mx.keep{B:Nat}{w w':World}(h:Mx B w)(hb:Below B w w'):Mx B w':=by
 obtain⟨⟨m,h1⟩,h2,h3,h4⟩:=h;refine⟨⟨m,(hb.cell (p:=⟨0,0,none⟩) h2).trans h1⟩,h2,?_,h4⟩;have hn:Tryz.prog.globalNamed "internal/strconv.uint64pow10" =some 1:=by kernel_rfl
 unfold Lib.TabIs World.var? at h3⊢;rw[hn] at h3⊢;simp only[Option.bind_some] at h3⊢;rw[hb.block _ h4];exact h3
theorem Mx.up{B B':Nat}{w:World}(h:Mx B w)(hB:B≤B'):Mx B' w:=⟨h.max,zlt h.maxLt hB,h.tab,zlt h.tabLt hB⟩
theorem qvq{B:Nat}{w w1:World}(h:Below B w w1)(n:Nat):Below B w (w1.drewN n):=⟨h.os,h.tape,h.output,h.size,h.block⟩
theorem qb0{s sep a r:List UInt8}{f:Bool}(h:Lib.cut s sep=(a,r,f)){B:Nat}{w:World}(hM:Mx B w)(hl:s.length≤2000000):
  Calls Tryz.prog 76 #[.string ⟨s.toArray⟩,.string ⟨sep.toArray⟩] w fun e w'=>e=.returned (.tuple #[.string ⟨a.toArray⟩,.string ⟨r.toArray⟩,.bool f])∧Below w.heap.size w w':=by
 obtain⟨⟨m,h1⟩,_,_,_⟩:=hM;refine(Tryz.strings_Cut ⟨s.toArray⟩ ⟨sep.toArray⟩ m w (by rw[Lib.size_eq];show s.length<_;omega) h1).mono ?_;rintro e w' ⟨rfl,n,rfl⟩;refine⟨?_,qvq br n⟩;show Ending.returned (.tuple #[.string ⟨(Lib.cut s sep).1.toArray⟩,.string ⟨(Lib.cut s sep).2.1.toArray⟩,.bool (Lib.cut s sep).2.2])=_;rw[h]
theorem q3p(k n:Nat)(h:n<10^(k+1)):(Lib.decDigits n).length≤k+1:=by
 induction k generalizing n with
 |zero=>rw[qbm n (by simpa using h)];simp
 |succ k ih=>
  by_cases h10:n<10
  ·rw[qbm n h10];simp
  ·rw[qh7 n h10,Yaa,Yat];have:=ih (n/10) (by rw[Ydt] at h;omega);omega
theorem q02(n:Int)(_h0:0≤n)(h1:n≤100000):(num n).length≤18:=by
 have:=q3p 5 n.toNat (by have:(10:Nat)^(5+1)=1000000:=(by decide);omega);unfold num;omega
theorem qc9(n:Int)(h0:0≤n)(h1:n≤100000)(w:World):
  Calls Tryz.prog 136 #[.string ⟨(num n).toArray⟩] w fun e w'=>e=.returned (.tuple #[.int .i64 n,.nilIface])∧Below w.heap.size w w':=by
 refine(Tryz.strconv_Atoi ⟨(num n).toArray⟩ n ?_ (qm6 n h0) w).mono ?_
 ·rw[Lib.size_eq];exact q02 n h0 h1
 ·rintro e w' ⟨rfl,t,rfl⟩;exact⟨rfl,Lib.bytesWorld_below w _ _⟩
theorem qbu{B:Nat}{w:World}(hM:Mx B w)(n:Int)(h0:0≤n)(h1:n≤1000000000):
  Calls Tryz.prog 38 #[.int .i64 n] w fun e w'=>e=.returned (.string ⟨(num n).toArray⟩)∧Below w.heap.size w w':=by
 refine(Tryz.strconv_Itoa n (by omega) (by omega) w hM.tab).mono ?_;rintro e w' ⟨rfl,k,os,rfl⟩;refine⟨?_,Lib.below_grow _ w (zlr _) k os⟩;rw[Lib.itoa,Yaq (by omega)];rfl
theorem qkt{L:List (List UInt8)}{wr:World}{b:Nat}(h:wr.heap[b]? =some (.cells (L.map (fun x=>Value.string ⟨x.toArray⟩)).toArray 9 (0,0)))(k:Nat)(hk:k<L.length):wr.cell? ⟨b,k,none⟩=some (.string ⟨L[k].toArray⟩):=by
 rw[Ybf wr b k _ _ _ h];simp[hk]
theorem qm7(text:List UInt8)(c:UInt8)(sep:List UInt8)(L:List (List UInt8))(hL:Qq (c::sep) text=L){B:Nat}{w:World}(hM:Mx B w)(hl:text.length≤2000000):
  Calls Tryz.prog 39 #[.string ⟨text.toArray⟩,.string ⟨(c::sep).toArray⟩] w fun e w'=>e=.returned (.slice (some ⟨w.heap.size,0,none⟩) L.length L.length)∧w'=w.alloc (.cells (L.map (fun x=>Value.string ⟨x.toArray⟩)).toArray 9 (0,0)):=by
 obtain⟨m,hm⟩:=hM.max;have hcnt:Lib.countB ⟨text.toArray⟩ ⟨(c::sep).toArray⟩+1=L.length:=by rw[←hL,qg3 (c::sep) text (by simp)]
 have hval:(Lib.splitB ⟨(c::sep).toArray⟩ 0 (Lib.countB ⟨text.toArray⟩ ⟨(c::sep).toArray⟩) ⟨text.toArray⟩).map Value.string=L.map (fun x=>Value.string ⟨x.toArray⟩):=by rw[←hL];exact qyq (c::sep) text
 refine(Tryz.strings_Split ⟨text.toArray⟩ ⟨(c::sep).toArray⟩ m w (by rw[Lib.size_eq];show text.length<_;omega) hm (by rw[Lib.size_eq];show 1≤(c::sep).length;simp)).mono ?_;rintro e w' ⟨rfl,rfl⟩;rw[hcnt,hval];exact⟨rfl,rfl⟩
abbrev DT:TypeId:=78
abbrev qg4(b:Nat):Value:=.pointer (some ⟨b,3,none⟩)
theorem qvr:(Tryz.prog.info? 76).map (·.size)=some 2:=by kernel_rfl
theorem q3q:liesAt Tryz.prog Tryz.prog.depth DT (5/Tryz.prog.cellsOf DT) 3 76 1=true:=by kernel_rfl
theorem qxh:(Tryz.prog.info? 5).map (fun i=>(i.zero,i.size,i.bytes))=some (some (.int .u8 0),1,1):=by kernel_rfl
theorem q03:Tryz.prog.cellsOf 5=1:=by kernel_rfl
theorem qdz(w:World)(b i:Nat)(v:Value):w.grownBy (w.setCell ⟨b,i,none⟩ v) (some b):=
 ⟨rfl,rfl,rfl,by simp[World.setCell],fun k _ hk=>Yal _ _ _ _ (fun e=>hk (by simp[e]))⟩
theorem qae{base:Nat}{w w':World}{e:TypeId}{size:Nat}{v:Value}{n:Nat}{xs:List Value}(h:w.ownsRow base e size v n xs)(row:Option Nat)(hg:w.grownBy w' row)
  (hk: ∀g,row=some g→ ∃cs t fz,w.heap[g]? =some (.cells cs t fz)∧t≠e):w'.ownsRow base e size v n xs:=by
 refine World.ownsRow.kept h hg ?_;rcases h.2 with⟨hv,_⟩|⟨g,cap,cur,hv,_,hh,_⟩
 ·exact .inl (by rw[hv];rfl)
 ·refine .inr ?_;rw[hv];cases row with
  |none=>simp[Value.ownBlock]
  |some g2=>
   obtain⟨cs,t,fz,k1,k2⟩:=hk g2 rfl;intro e;have:g=g2:=by simpa [Value.ownBlock] using e
   subst this;rw[hh] at k1;injection k1 with k1
   injection k1 with _ kt _
   exact k2 kt.symm
structure St where
 l:List Tk
 jn:Nat
 jc:List Value
 pol:Int
 out:List UInt8
def qe0(B b:Nat)(w:World)(s:St):Prop:=
 B≤b∧ ∃A c jv p v,w.heap[b]? =some (.cells #[.slice A s.l.length c,jv,.int .i64 s.pol,p,v] DT (0,0))∧(p=.pointer none∨p=qg4 b)∧w.ownsRowF B 5 1 v s.out.length (Lib.byteCells s.out)∧
  OT B w A c s.l∧w.ownsRow B 60 3 jv s.jn s.jc
def Frm(B b:Nat)(w w':World):Prop:=Lib.OthersKept 5 (some b) w w'∧Below B w w'
theorem Frm.refl(B b:Nat)(w:World):Frm B b w w:=⟨Lib.OthersKept.refl _ _ _,br⟩
theorem Frm.trans{B b:Nat}{w w1 w2:World}(h:Frm B b w w1)(k:Frm B b w1 w2):Frm B b w w2:=⟨h.1.trans k.1,h.2.trans k.2⟩
theorem qys{b:Nat}{w w':World}(hb:Below w.heap.size w w'):Lib.OthersKept 5 (some b) w w':=fun _ _ hk _ _=>bh hb hk
theorem Frm.size{B b:Nat}{w w1:World}(h:Frm B b w w1):w.heap.size≤w1.heap.size:=h.2.size
theorem Frm.thru{B b:Nat}{w w1 w2:World}(h:Frm B b w w1)(hB:B≤w.heap.size)(k:Below w1.heap.size w1 w2):Frm B b w w2:=⟨h.1.trans (qys k),h.2.trans (k.mono (zll hB h.2.size))⟩
theorem qde{b:Nat}{w w':World}(h:w.grownBy w' (some b)):Lib.OthersKept 5 (some b) w w':=fun k _ hk hne _=>(h.block k (bl hk) hne).trans hk
theorem qe0.keep{B b:Nat}{w w':World}{s:St}(h:qe0 B b w s)(hb:Below w.heap.size w w'):qe0 B b w' s:=by
 obtain⟨hB,A,c,jv,p,v,hk,hp,hv,hO,hJ⟩:=h;have hlt:b<w.heap.size:=(bl hk);refine⟨hB,A,c,jv,p,v,(hb.block b hlt).trans hk,hp,?_,Q5 hO hb,qdi hJ hb⟩;refine⟨hv.1,?_⟩;rcases hv.2 with hn|⟨g,cap,cur,fz,e,hg,hh,r⟩
 ·exact .inl hn
 ·exact .inr ⟨g,cap,cur,fz,e,hg,bh hb hh,r⟩
theorem qhg{w:World}{b:Nat}{x0 x1 x2 x3 x4:Value}{t:TypeId}(h:w.heap[b]? =some (.cells #[x0,x1,x2,x3,x4] t (0,0)))(i:Nat)(v:Value):
  (w.setCell ⟨b,i,none⟩ v).heap[b]? =some (.cells ((#[x0,x1,x2,x3,x4]:Array Value).setIfInBounds i v) t (0,0)):=Yan w b i _ t v h
theorem qmh(b:Nat)(x0 x1 x2 p v:Value)(w:World)(hk:w.heap[b]? =some (.cells #[x0,x1,x2,p,v] DT (0,0)))(hp:p=.pointer none∨p=qg4 b):
  Calls Tryz.prog 114 #[qg4 b] w fun e w'=>e=.returned (.tuple #[])∧w'.heap[b]? =some (.cells #[x0,x1,x2,qg4 b,v] DT (0,0))∧w.grownBy w' (some b):=by
 obtain⟨j,hj,hjs⟩:=Option.map_eq_some_iff.1 qvr;have c3:w.cell? ⟨b,3,none⟩=some p:=by rw[Yak hk];rfl
 have f3:w.frozen? ⟨b,3,none⟩=false:=zfz hk 3;have hsh:w.shape? b=some (DT,5):=by simp[World.shape?,hk]
 rcases hp with rfl|rfl
 ·go_enter Tryz.func114,Tryz.ntmps114;go_wp2
  rw[Lib.run_to_unsafe w ⟨b,3,none⟩ Tryz.underlying74 Tryz.underlying165 hj (by rw[hjs];decide) hsh (by show 3<5;decide)];simp only[Result.andThen];rw[Oper.upon_value];go_wp2
  rw[run_callFunc_extern Tryz.func162 (by kernel_rfl) (by kernel_rfl) (by kernel_rfl) (e:=Extern.AbiNoEscape.same) (by kernel_rfl)];rw[Lib.run_noEscape];simp only[Result.andThen];rw[Oper.upon_value];go_wp2
  rw[Lib.run_from_unsafe w ⟨b,3,none⟩ Tryz.underlying165 Tryz.underlying74 hj hsh q3q];simp only[Result.andThen];rw[Oper.upon_value];go_wp2
  go_end0
  exact⟨rfl,qhg hk 3 _,qdz w b 3 _⟩
 ·go_enter Tryz.func114,Tryz.ntmps114;go_wp2
  rw[Lib.run_neq_ptr_same w _ Tryz.underlying74 hj];go_wp2
  go_end0
  exact⟨rfl,hk,World.grownBy.refl _ _⟩
theorem tn1:DT≠58:=by decide
theorem tn2:(5:TypeId)≠58:=by decide
theorem tn3:(DT:TypeId)≠5:=by decide
theorem tn4:DT≠60:=by decide
theorem tn5:(5:TypeId)≠60:=by decide
theorem qyt{B b:Nat}{w:World}{s:St}(h:qe0 B b w s)(x:List UInt8)(hlen:s.out.length+x.length≤140737488355328)(hBw:B≤w.heap.size):
  Calls Tryz.prog 73 #[qg4 b,.string ⟨x.toArray⟩] w fun e w'=>e=.returned (.tuple #[.int .i64 (x.length:Int),.nilIface])∧qe0 B b w' {s with out:=s.out++x}∧Frm B b w w':=by
 obtain⟨i0,hi,hz0,hz1,hz2⟩:=Ybv qxh;obtain⟨hB,A,c,jv,p,v,hk,hp,hv,hO,hJ⟩:=h;have hss:(⟨x.toArray⟩:ByteArray).size=x.length:=by rw[Lib.size_eq]
 have e166:(Lib.strCells ⟨x.toArray⟩)=Lib.byteCells x:=by rw[Lib.strCells_eq]
 go_enter Tryz.func73,Tryz.ntmps73;go_wp2_with fail;refine(qmh b _ _ _ p v _ hk hp).mono ?_;rintro e w1 ⟨rfl,hk1,g1⟩;have c0:w1.cell? ⟨b,3,none⟩=some (qg4 b):=by rw[Yak hk1];rfl
 have c1:w1.cell? ⟨b,4,none⟩=some v:=by rw[Yak hk1];rfl
 have hb1:Below B w w1:=(Below.refl B w).grown g1 hBw (fun k hk=>by cases hk;exact hB);have hf1:Frm B b w w1:=⟨qde g1,hb1⟩
 have hvb:v.ownBlock≠some b:=by
  intro e;obtain⟨cs,fz,hc⟩:=Ybt hv b e;rw[hk] at hc;injection hc with hc
  injection hc with _ ht _
  exact tn3 ht
 have hv1:w1.ownsRowF B 5 1 v s.out.length (Lib.byteCells s.out):=hv.kept g1 (.inr hvb);have hO1:OT B w1 A c s.l:=qae hO _ g1 (fun g hg=>by cases hg;exact⟨_,_,_,hk,tn1⟩);have hJ1:=qae hJ _ g1 (fun g hg=>by cases hg;exact⟨_,_,_,hk,tn4⟩);clear hk hv hO hJ;go_wp2_with (at_builtin;refine Lib.wpList_append_own_stringF _ rfl _ _ 22 9 rfl B 5 i0 Tryz.underlying22 Tryz.underlying9 hi hz0 hz1 hz2 _ _ _ rfl hv1 ⟨x.toArray⟩ rfl ?c3 ?c4 ?c5 ?_)
 case c3=>rw[hss];unfold maxLen;omega
 case c4=>rw[hss];omega
 case c5=>have:=hb1.size;omega
 intro v' w2 hown' hgrow _;have hlt:b<w1.heap.size:=(bl hk1)
 have hk2:w2.heap[b]? =some (.cells #[.slice A s.l.length c,jv,.int .i64 s.pol,qg4 b,v] DT (0,0)):=by
  rw[hgrow.block b hlt (fun e=>hvb e.symm)];exact hk1
 have d0:w2.cell? ⟨b,3,none⟩=some (qg4 b):=by rw[Yak hk2];rfl
 have d1:w2.cell? ⟨b,4,none⟩=some v:=by rw[Yak hk2];rfl
 have f1:w2.frozen? ⟨b,4,none⟩=false:=zfz hk2 4
 have hO2:OT B w2 A c s.l:=qae hO1 _ hgrow (fun g hg=>by
  obtain⟨cs,fz,hc⟩:=Ybt hv1 g hg;exact⟨_,_,_,hc,tn2⟩)
 have hJ2:=qae hJ1 _ hgrow (fun g hg=>by
  obtain⟨cs,fz,hc⟩:=Ybt hv1 g hg;exact⟨_,_,_,hc,tn5⟩)
 have hb2:Below B w w2:=hb1.grown hgrow (by have:=hb1.size;omega) (fun k hk=>(hv1.lt k hk).1);have hf2:Frm B b w w2:=⟨hf1.1.grown hgrow (Ybt hv1),hb2⟩
 have hown':w2.ownsRowF B 5 1 v' (s.out.length+x.length) (Lib.byteCells s.out++Lib.byteCells x):=by
  first
   |exact hown'
   |(rw[e166,hss] at hown';exact hown')
   |(rw[hss] at hown';exact hown')
   |(rw[e166] at hown';exact hown')
 obtain⟨ao,n',cap,rfl⟩: ∃ao n' cap,v'=.slice ao n' cap:=by
  rcases hown'.2 with⟨hv,_⟩|⟨g,cap,cur,fz,hv,_⟩
  ·exact⟨_,_,_,hv⟩
  ·exact⟨_,_,_,hv⟩
 go_wp2
 go_ret2
 have hne:(Value.slice ao n' cap).ownBlock≠some b:=by
  intro e;obtain⟨cs,fz,hc⟩:=Ybt hown' b e;rw[hk2] at hc;injection hc with hc
  injection hc with _ ht _
  exact tn3 ht
 have g3:=qdz w2 b 4 (.slice ao n' cap);refine⟨rfl,⟨hB,A,c,jv,qg4 b,_,qhg hk2 4 _,.inr rfl,?_,qae hO2 _ g3 (fun g hg=>by cases hg;exact⟨_,_,_,hk2,tn1⟩),qae hJ2 _ g3 (fun g hg=>by cases hg;exact⟨_,_,_,hk2,tn4⟩)⟩,⟨hf2.1.trans (qde g3),hb2.setCell (p:=⟨b,4,none⟩) hB _⟩⟩;show(w2.setCell ⟨b,4,none⟩ (.slice ao n' cap)).ownsRowF B 5 1 (.slice ao n' cap) (s.out++x).length (Lib.byteCells (s.out++x));rw[Yaa,Lib.byteCells_append];exact hown'.kept g3 (.inr hne)
theorem qxi{B b:Nat}{w:World}{s:St}(h:qe0 B b w s):
  Calls Tryz.prog 40 #[qg4 b] w fun e w'=>e=.returned (.int .i64 (s.out.length:Int))∧w'=w:=by
 obtain⟨hB,A,c,jv,p,v,hk,hp,hv,hO,_⟩:=h
 obtain⟨ao,cap,rfl⟩: ∃ao cap,v=.slice ao s.out.length cap:=by
  rcases hv.2 with⟨hv,h0⟩|⟨g,cap,cur,fz,hv,_⟩
  ·exact⟨none,0,by rw[hv,h0]⟩
  ·exact⟨_,_,hv⟩
 have c1:w.cell? ⟨b,4,none⟩=some (.slice ao s.out.length cap):=by rw[Yak hk];rfl
 go_enter Tryz.func40,Tryz.ntmps40;go_wp2
 go_ret;exact⟨rfl,rfl⟩
theorem qjy{B b:Nat}{w:World}{s:St}(h:qe0 B b w s)(h0:s.out≠[]):
  Calls Tryz.prog 43 #[qg4 b] w fun e w'=>e=.returned (.string ⟨s.out.toArray⟩)∧Below B w w':=by
 obtain⟨hB,A,c,jv,p,v,hk,hp,hv,hO,_⟩:=h;have hl0:s.out.length≠0:=by simpa using h0
 obtain⟨g,cap,cur,fz,rfl,hbg,hg,hfz,hnc,hcm,hcs,htake⟩: ∃g cap cur fz,v=.slice (some ⟨g,0,none⟩) s.out.length cap∧B≤g∧w.heap[g]? =some (.cells cur 5 fz)∧fz.2≤s.out.length*1∧s.out.length≤cap∧cap≤maxLen∧cur.size=cap*1∧cur.toList.take (s.out.length*1)=Lib.byteCells s.out:=by
  rcases hv.2 with⟨_,hz⟩|⟨g,cap,cur,fz,hv,r⟩
  ·exact absurd hz hl0
  ·exact⟨g,cap,cur,fz,hv,r⟩
 have c1:w.drew.cell? ⟨b,4,none⟩=some (.slice (some ⟨g,0,none⟩) s.out.length cap):=by
  have:w.drew.heap[b]? =some (.cells #[.slice A s.l.length c,jv,.int .i64 s.pol,p,.slice (some ⟨g,0,none⟩) s.out.length cap] DT (0,0)):=hk;rw[Yak this];rfl
 have hSD:(Builtin.unsafeSliceData_ #[22] 121 #[.slice (some ⟨g,0,none⟩) s.out.length cap]).run Tryz.prog w.drew=.ok (.pointer (some ⟨g,0,none⟩)) w.drew:=
  Lib.run_unsafeSliceData_row _ _ _ _ _ _ (by omega)
 have hUS:(Builtin.unsafeString_ #[121,3] 9 #[.pointer (some ⟨g,0,none⟩),.int .i64 s.out.length]).run Tryz.prog w.drew=.ok (.string ⟨s.out.toArray⟩) (w.drew.freeze ⟨g,0,none⟩ s.out.length):=by
  refine Lib.run_unsafeString_row w.drew 121 3 9 5 Tryz.underlying121 q03 g cur.size (by have hg':w.drew.heap[g]? =some (.cells cur 5 fz):=hg;simp[World.shape?,hg']) s.out h0 (by omega) (by unfold maxLen at hcm;omega) ?_;intro j x hx;have:=hv.cells (g:=g) rfl j (.int .u8 x.toNat) (by simp[Lib.byteCells,hx]);exact this
 have mixed:Tryz.prog.follows Departure.mixedOrders=true:=by kernel_rfl
 go_enter Tryz.func43,Tryz.ntmps43;go_wp2
 go_region_o
 all_goals(go_wp2;go_ret;exact⟨rfl,Lib.below_freeze (zdr (Below.refl B w)) (p:=⟨g,0,none⟩) hbg _⟩)
theorem qnv{B b:Nat}{w:World}{s:St}(h:qe0 B b w s)(x:List UInt8)(S:ByteArray)(hS:S=⟨x.toArray⟩)(hlen:s.out.length+x.length≤1000000)(hBw:B≤w.heap.size):
  Calls Tryz.prog 73 #[qg4 b,.string S] w fun e w'=>e=.returned (.tuple #[.int .i64 (x.length:Int),.nilIface])∧qe0 B b w' {s with out:=s.out++x}∧Frm B b w w':=by
 subst hS;exact qyt h x (by omega) hBw
theorem Q2{B b:Nat}{w:World}{s:St}(h:qe0 B b w s)(x:List UInt8)(S:ByteArray)(hS:S=⟨x.toArray⟩)(hlen:s.out.length+x.length≤900000)(hBw:B≤w.heap.size):
  Calls Tryz.prog 41 #[.pointer (some ⟨b,0,none⟩),.string S] w fun e w'=>e=.returned (.tuple #[])∧qe0 B b w' {s with out:=s.out++(x++[10])}∧Frm B b w w':=by
 subst hS;have hx:x.length≤900000:=by omega
 go_enter Tryz.func41,Tryz.ntmps41;go_wp2_with fail;refine(qnv h (x++[10]) _ (Qn x [10]) (by simp;omega) hBw).mono ?_;rintro e w1 ⟨rfl,D,F⟩;go_wp2_with fail;go_end0
 exact⟨rfl,D,F⟩
theorem qi0{B b:Nat}{w:World}{s:St}(h:qe0 B b w s)(v:Value)(hlen:s.out.length≤800000)(hBw:B≤w.heap.size):
  Calls Tryz.prog 121 #[.pointer (some ⟨b,0,none⟩),v,.bool false] w fun e w'=>e=.returned (.tuple #[])∧qe0 B b w' {s with out:=s.out++[110,111,10]}∧Frm B b w w':=by
 go_enter Tryz.func121,Tryz.ntmps121;go_wp2_with fail;refine(Q2 h [110,111] _ rfl (by simp;omega) hBw).mono ?_;rintro e w1 ⟨rfl,D,F⟩;go_wp2_with fail;(try simp only[Exit.inBlock,Exit.then])
 refine bodyPost_ret (results_none rfl _ _ _) rfl ?_;exact⟨rfl,D,F⟩
theorem qd0{B b:Nat}{w:World}{s:St}(h:qe0 B b w s)(A:ZA)(l:List Tk)(c:Nat)(hO:OT B w A c l)(hlen:s.out.length≤800000)(hBw:B≤w.heap.size):
  Calls Tryz.prog 121 #[.pointer (some ⟨b,0,none⟩),.slice A l.length c,.bool true] w fun e w'=>e=.returned (.tuple #[])∧qe0 B b w' ⟨l,0,[],s.pol,s.out++(Va l++[10])⟩∧Frm B b w w':=by
 obtain⟨hB,A0,c0,jv,p,v,hk,hp,hv,hO0,hJ⟩:=h;have f0:w.frozen? ⟨b,0,none⟩=false:=zfz hk 0;have f1:w.frozen? ⟨b,1,none⟩=false:=zfz hk 1;have c0':w.cell? ⟨b,0,none⟩=some (.slice A0 s.l.length c0):=by rw[Yak hk];rfl
 have c1':w.cell? ⟨b,1,none⟩=some jv:=by rw[Yak hk];rfl
 have g0:=qdz w b 0 (.slice A l.length c);have hk1:=qhg hk 0 (.slice A l.length c);have g1:=qdz (w.setCell ⟨b,0,none⟩ (.slice A l.length c)) b 1 (.slice none 0 0);have hk2:=qhg hk1 1 (.slice none 0 0)
 have hvb:v.ownBlock≠some b:=by
  intro e;obtain⟨cs,fz,hc⟩:=Ybt hv b e;rw[hk] at hc;injection hc with hc
  injection hc with _ ht _
  exact tn3 ht
 have hO1:OT B _ A c l:=qae (qae hO _ g0 (fun g hg=>by cases hg;exact⟨_,_,_,hk,tn1⟩)) _ g1 (fun g hg=>by cases hg;exact⟨_,_,_,hk1,tn1⟩);have hv1:=(hv.kept g0 (.inr hvb)).kept g1 (.inr hvb)
 have D1:qe0 B b ((w.setCell ⟨b,0,none⟩ (.slice A l.length c)).setCell ⟨b,1,none⟩ (.slice none 0 0)) ⟨l,0,[],s.pol,s.out⟩:=
  ⟨hB,A,c,.slice none 0 0,p,v,hk2,hp,hv1,hO1,Ydf _ _ _ _⟩
 have F1:Frm B b w ((w.setCell ⟨b,0,none⟩ (.slice A l.length c)).setCell ⟨b,1,none⟩ (.slice none 0 0)):=
  ⟨(qde g0).trans (qde g1),((Below.refl B w).setCell (p:=⟨b,0,none⟩) hB _).setCell (p:=⟨b,1,none⟩) hB _⟩
 have hfl:=qcq l;clear hv hO0 hJ g0 g1 hv1 hk1 hk2 hO;go_enter Tryz.func121,Tryz.ntmps121;go_wp2_with fail;refine(qgl A l c _ hO1.ts).mono ?_;rintro e w2 ⟨rfl,b2⟩;have D2:=D1.keep b2;have F2:=F1.thru hBw b2;go_wp2_with fail;refine(Q2 D2 (Va l) _ rfl (by simp;omega) (zll hBw F2.size)).mono ?_;rintro e w3 ⟨rfl,D3,F3⟩;go_wp2_with fail;go_end0
 exact⟨rfl,D3,F2.trans F3⟩
def qcn(x:List UInt8)(s s':St):Prop:=
 ∀(B b:Nat) (w:World),Mx B w→qe0 B b w s→B≤w.heap.size→Calls Tryz.prog 77 #[.pointer (some ⟨b,0,none⟩),.string ⟨x.toArray⟩] w fun e w'=>e=.returned (.bool true)∧qe0 B b w' s'∧Frm B b w w'
def q45(x r:List UInt8)(s s':St):Prop:=
 ∀(B b:Nat) (w:World),Mx B w→qe0 B b w s→B≤w.heap.size→Calls Tryz.prog 78 #[.pointer (some ⟨b,0,none⟩),.string ⟨x.toArray⟩,.string ⟨r.toArray⟩] w fun e w'=>e=.returned (.bool true)∧qe0 B b w' s'∧Frm B b w w'
def qda(x:List UInt8)(n:Int)(s s':St):Prop:=
 ∀(B b:Nat) (w:World),Mx B w→qe0 B b w s→B≤w.heap.size→Calls Tryz.prog 80 #[.pointer (some ⟨b,0,none⟩),.string ⟨x.toArray⟩,.int .i64 n] w fun e w'=>e=.returned (.bool true)∧qe0 B b w' s'∧Frm B b w w'
theorem tn6:(9:TypeId)≠5:=by decide
theorem qid{l:List Tk}{js:List Jb}(pol tk:Int)(hno:qrg l js pol tk=false)(A:ZA)(c:Nat)(B:ZA)(d:Nat)(w:World)(h:TS w A l)(g:JS w B js)(hlm:l.length≤maxLen)(hjd:js.length≤d)(hjm:js.length≤maxLen):
  Calls Tryz.prog 8 #[.slice A l.length c,.slice B js.length d,.int .i64 pol,.int .i64 tk] w fun e w'=>e=.returned (.tuple #[qyp,.bool false])∧Below w.heap.size w w':=by
 have hno:Q9 l js=false∨(Q9 l js=true∧pol≠0∧pol≠1)∨(Q9 l js=true∧(pol=0∨pol=1)∧tk<0)∨(Q9 l js=true∧(pol=0∨pol=1)∧0≤tk∧200<tk)∨(Q9 l js=true∧pol=1∧qsi l=false∧0≤tk∧tk≤200):=by
  by_cases a1:Q9 l js=true
  ·by_cases a2:pol=0∨pol=1
   ·by_cases a3:0≤tk
    ·by_cases a4:tk≤200
     ·rcases a2 with rfl|rfl
      ·simp[qrg,qi5,a1,a3,a4] at hno
      ·refine .inr (.inr (.inr (.inr ⟨a1,rfl,?_,a3,a4⟩)));cases hb:qsi l with
       |false=>rfl
       |true=>simp[qrg,qi5,a1,a3,a4,hb] at hno
     ·exact .inr (.inr (.inr (.inl ⟨a1,a2,a3,by omega⟩)))
    ·exact .inr (.inr (.inl ⟨a1,a2,by omega⟩))
   ·exact .inr (.inl ⟨a1,by omega,by omega⟩)
  ·exact .inl (by simpa using a1)
 go_enter Tryz.func8,Tryz.ntmps8;go_wp2_with fail;have H4:=q7b w (.cells #[.slice A l.length c] 23 (0,0)) (.cells #[.slice B js.length d] 24 (0,0)) (.cells #[.int .i64 pol] 3 (0,0)) (.cells #[.slice none 0 0,.slice none 0 0,.slice none 0 0,.bool false] RT (0,0));have Bz:=bal (bal (bal (bal (Below.refl w.heap.size w) (.cells #[.slice A l.length c] 23 (0,0))) (.cells #[.slice B js.length d] 24 (0,0))) (.cells #[.int .i64 pol] 3 (0,0))) (.cells #[.slice none 0 0,.slice none 0 0,.slice none 0 0,.bool false] RT (0,0));generalize World.alloc (World.alloc (World.alloc (World.alloc w _) _) _) _=wz at H4 Bz⊢;obtain⟨n,hn⟩: ∃n,w.heap.size=n:=⟨_,rfl⟩;have hnn:=zhi hn;rw[hn] at H4⊢;obtain⟨zL,zJ,zP,zQ⟩:=H4;refine(qbs A l c wz (h.keep Bz) hlm).mono ?_;rw[qva];rintro e w1 ⟨rfl,b1⟩;have b1a:=bal b1 (.cells #[.int .i64 (qgp l),.int .i64 (qgq l)] 54 (0,0));have zL1:=bh b1a zL;have zJ1:=bh b1a zJ;have zP1:=bh b1a zP;have zQ1:=bh b1a zQ;have B1:=Qa Bz b1a;clear zL zJ zP zQ Bz b1 b1a;generalize qgp l=num at*;generalize qgq l=den at*;go_upto_region 2 with fail;generalize World.alloc w1 _=w2 at zL1 zJ1 zP1 zQ1 B1⊢;have cL:=qa4 zL1;have cJ:=qa4 zJ1;have cP:=qa4 zP1;go_wp2_with fail;refine(qb2 A l c B js d _ (h.keep B1) (g.keep B1) hjd hjm).mono ?_;rintro e w3 ⟨rfl,b3⟩;have zP3:=bh b3 zP1;have zQ3:=bh b3 zQ1;have B3:=Qa B1 b3;clear zL1 zJ1 zP1 zQ1 B1 b3 cL cJ cP;have cP:=qa4 zP3;have sf:=fun i=>zfz zQ3 i
 obtain⟨u0,u1,u2,u3⟩:=qdq zQ3;have hz:=qft zQ3 (.slice none 0 0) (.slice none 0 0) (.slice none 0 0) false;obtain⟨hzB,hzG⟩:=hz;obtain⟨y0,y1,y2,y3⟩:=qdq hzB;have HB:Below w.heap.size w _:=B3.grown hzG B3.size (fun k hk=>by have:=hnn.out;cases hk;omega);clear hzB hzG zQ3 zP3;rcases hno with e0|⟨e0,e1,e2⟩|⟨e0,e1,e2⟩|⟨e0,e1,e2,e3⟩|⟨e0,e1,e2,e3,e4⟩
 ·rw[e0];go_wp2_with fail;exact bodyPost_ret (v:=.tuple #[qyp,.bool false]) (by simp[results,Tryz.results8,go_sem,y0,y1,y2,y3]) rfl ⟨rfl,HB⟩
 ·rw[e0];have d1:(pol !=0)=true:=by simpa using e1
  have d2:(pol !=1)=true:=by simpa using e2
  go_wp2_with fail;exact bodyPost_ret (v:=.tuple #[qyp,.bool false]) (by simp[results,Tryz.results8,go_sem,y0,y1,y2,y3]) rfl ⟨rfl,HB⟩
 ·rw[e0];have d3:decide (tk<0)=true:=Yag e2;rcases e1 with rfl|rfl
  ·go_wp2_with fail;exact bodyPost_ret (v:=.tuple #[qyp,.bool false]) (by simp[results,Tryz.results8,go_sem,y0,y1,y2,y3]) rfl ⟨rfl,HB⟩
  ·go_wp2_with fail;exact bodyPost_ret (v:=.tuple #[qyp,.bool false]) (by simp[results,Tryz.results8,go_sem,y0,y1,y2,y3]) rfl ⟨rfl,HB⟩
 ·rw[e0];have d3:decide (tk<0)=false:=Yaf (by omega);have d4:decide (200<tk)=true:=Yag e3;rcases e1 with rfl|rfl
  ·go_wp2_with fail;exact bodyPost_ret (v:=.tuple #[qyp,.bool false]) (by simp[results,Tryz.results8,go_sem,y0,y1,y2,y3]) rfl ⟨rfl,HB⟩
  ·go_wp2_with fail;exact bodyPost_ret (v:=.tuple #[qyp,.bool false]) (by simp[results,Tryz.results8,go_sem,y0,y1,y2,y3]) rfl ⟨rfl,HB⟩
 ·subst e1;rw[e0,e2];have d3:decide (tk<0)=false:=Yaf (by omega);have d4:decide (200<tk)=false:=Yaf (by omega);go_wp2_with fail;exact bodyPost_ret (v:=.tuple #[qyp,.bool false]) (by simp[results,Tryz.results8,go_sem,y0,y1,y2,y3]) rfl ⟨rfl,HB⟩
theorem qms{B:Nat}(E T S:ZA)(ne c nt d ns f:Nat)(tr:List Int)(hi:Bool)(w:World)(hnt:tr.length=nt)(ht:IS w T tr)(hl:nt≤200)(hok: ∀t∈tr,t= -1∨(0≤t∧t≤4))(hM:Mx B w)(hBw:B≤w.heap.size):
  Calls Tryz.prog 15 #[.agg #[.slice E ne c,.slice T nt d,.slice S ns f,.bool hi]] w fun e w'=>e=.returned (.string ⟨(trT tr).toArray⟩)∧Below w.heap.size w w':=by
 have hA:=zha w (qln (.slice E ne c) (.slice T nt d) (.slice S ns f) hi);have hb:=bal (Below.refl w.heap.size w) (qln (.slice E ne c) (.slice T nt d) (.slice S ns f) hi);have q0:decide (200<(nt:Int))=false:=Yaf (by omega);go_enter Tryz.func15,Tryz.ntmps15;go_upto_region 1 with fail;generalize World.alloc w _=w1 at hA hb⊢;obtain⟨a0,a1,a2,a3⟩:=qdq hA;go_wp2_with fail;clear a0 a1 a2 a3 hA;go_loopg [3,13] nt (fun gg v i wr=> ∃k:Nat,gg+k=nt∧i=.int .i64 (k:Int)∧v=.string ⟨(trT (tr.take k)).toArray⟩∧Below w1.heap.size w1 wr)
 case atStart=>exact⟨0,by omega,rfl,rfl,br⟩
 case round=>
  obtain⟨k,hgk,rfl,rfl,hbr⟩:=hrel;have hB2:=Qa hb hbr;by_cases hkl:k<nt
  ·have e0:decide ((k:Int)<(nt:Int))=true:=Yag (by omega);have hkI:(k:Int)<(nt:Int):=by omega
   have hkl2:k<tr.length:=by omega
   obtain⟨b,off,rfl,hbl,hc⟩:=(ht.keep hB2) (by omega);have hc0:=hc k tr[k] (by simp[hkl2]);have ho:=hok tr[k] (Yao hkl2);have hst:tr.take (k+1)=tr.take k++[tr[k]]:=by rw[Yad hkl2]
   have htl:(trT (tr.take k)).length≤200:=by rw[qnl,Yap];omega
   have hTS:=qxd (tr.take k) tr[k];rw[←hst] at hTS;clear hst hc;generalize tr[k]=t at hc0 ho hTS;generalize trT (tr.take k)=P at htl hTS⊢;by_cases h1:t= -1
   ·subst h1;have HT:Hid (trT (tr.take (k+1))=P++[46]):=by rw[Hid,hTS];rfl
    clear hTS ho;go_wp2_with fail;go_roundg (gk-1)
    case measure=>omega
    case rel=>exact⟨k+1,by omega,by go_num,by rw[HT.out,←Qn],hbr⟩
   ·have d1:(t== -1)=false:=by simpa using h1
    have d2:decide (0≤t)=true:=Yag (by omega);have d3:decide (t≤4)=true:=Yag (by omega);have hnum:num t=[UInt8.ofNat (48+t.toNat)]:=qbm t.toNat (by omega);have HT:Hid (trT (tr.take (k+1))=P++num t):=by rw[Hid,hTS,Yaq h1,hnum]
    have hnl:=Qp t (by omega);have hIt:=qbu (hM.keep (hB2.mono hBw)) t (by omega) (by omega);clear hTS h1 hnum;go_wp2_with fail;refine hIt.mono ?_;rintro e w4 ⟨rfl,b4⟩;go_wp2_with fail;go_roundg (gk-1)
    case measure=>omega
    case rel=>exact⟨k+1,by omega,by go_num,by rw[HT.out,←Qn],Qa hbr b4⟩
  ·obtain rfl:k=nt:=by omega
   have e0:decide ((k:Int)<(k:Int))=false:=Yaf (by omega);have htk:tr.take k=tr:=Yar (by omega);rw[htk];go_wp2_with fail;go_ret;exact⟨rfl,hB2⟩
theorem qie{B:Nat}(T:ZA)(n d:Nat)(xs:List Int)(w:World)(hn:xs.length=n)(ht:IS w T xs)(hl:n≤300)(hok: ∀t∈xs,0≤t∧t≤1000000000)(hM:Mx B w)(hBw:B≤w.heap.size):
  Calls Tryz.prog 140 #[.slice T n d] w fun e w'=>e=.returned (.string ⟨(qbn xs).toArray⟩)∧Below w.heap.size w w':=by
 go_enter Tryz.func140,Tryz.ntmps140;go_wp2_with fail;go_loopg [3,8] n (fun gg v i wr=> ∃k:Nat,gg+k=n∧i=.int .i64 (k:Int)∧v=.string ⟨(qbn (xs.take k)).toArray⟩∧Below w.heap.size w wr)
 case atStart=>exact⟨0,by omega,rfl,rfl,br⟩
 case round=>
  obtain⟨k,hgk,rfl,rfl,hbr⟩:=hrel;by_cases hkl:k<n
  ·have e0:decide ((k:Int)<(n:Int))=true:=Yag (by omega);have hkI:(k:Int)<(n:Int):=by omega
   have hkl2:k<xs.length:=by omega
   obtain⟨b,off,rfl,hbl,hc⟩:=(ht.keep hbr) (by omega);have hc0:=hc k xs[k] (by simp[hkl2]);have ho:=hok xs[k] (Yao hkl2);have hst:xs.take (k+1)=xs.take k++[xs[k]]:=by rw[Yad hkl2]
   have htl:(qbn (xs.take k)).length≤22*300:=by
    have:=qcf (xs.take k) (fun n hn=>(hok n (Ydd hn)).2);rw[Yap] at this;omega
   have hTS:=qqe (xs.take k) xs[k];rw[←hst] at hTS;clear hst hc;generalize xs[k]=t at hc0 ho hTS;generalize qbn (xs.take k)=P at htl hTS⊢;have HT:=zhi hTS;have hnl:=Qp t (by omega);have hIt:=qbu (hM.keep (hbr.mono hBw)) t (by omega) (by omega);clear hTS;go_wp2_with fail;refine hIt.mono ?_;rintro e w4 ⟨rfl,b4⟩;go_wp2_with fail;go_roundg (gk-1)
   case measure=>omega
   case rel=>exact⟨k+1,by omega,by go_num,by rw[HT.out,←Qn];rfl,Qa hbr b4⟩
  ·obtain rfl:k=n:=by omega
   have e0:decide ((k:Int)<(k:Int))=false:=Yaf (by omega);have htk:xs.take k=xs:=Yar (by omega);rw[htk];go_wp2_with fail;go_ret;exact⟨rfl,hbr⟩
theorem qo8(E T S:ZA)(ne c nt d ns f:Nat)(en:List Int)(hi:Bool)(w:World)(hne:en.length=ne)(he:IS w E en)(hl:ne≤100000):
  Calls Tryz.prog 141 #[.agg #[.slice E ne c,.slice T nt d,.slice S ns f,.bool hi]] w (qzj w (Vv (qfr en ne))):=by
 have hA:=zha w (qln (.slice E ne c) (.slice T nt d) (.slice S ns f) hi);have hb:=bal (Below.refl w.heap.size w) (qln (.slice E ne c) (.slice T nt d) (.slice S ns f) hi);go_enter Tryz.func141,Tryz.ntmps141;go_upto_region 1 with fail;generalize World.alloc w _=w1 at hA hb⊢;obtain⟨a0,a1,a2,a3⟩:=qdq hA;have hA1:=(Yaj w1 (.cells #[] 3) _ (bl hA)).trans hA;go_upto_region 2 with fail;have O0:=Vh w1 w1.heap.size (zlr _);have b0:=bal (Below.refl w1.heap.size w1) (.cells #[] 3);clear a0 a1 a2 a3 hA;obtain⟨a0,a1,a2,a3⟩:=qdq hA1;go_wp2_with fail;go_loopg [3,10] ne (fun gg v i wr=> ∃(k bo c':Nat) (xs:List Nat),gg+k=ne∧i=.int .i64 (k:Int)∧v=.slice (some ⟨bo,0,none⟩) xs.length c'∧Hid (qfr en k=xs)∧xs.length≤k∧OI w1.heap.size wr (some ⟨bo,0,none⟩) c' (Vv xs)∧Below w1.heap.size w1 wr)
 case atStart=>exact⟨0,_,0,[],by omega,rfl,rfl,rfl,by simp,O0,b0⟩
 case round=>
  clear a0 a1 a2 a3 hA1 O0 b0;obtain⟨k,bo,c',xs,hgk,rfl,rfl,hxs,hxl,hO,hbr⟩:=hrel;have hB2:=Qa hb hbr;by_cases hkl:k<ne
  ·have e0:decide ((k:Int)<(ne:Int))=true:=Yag (by omega);have hkI:(k:Int)<(ne:Int):=by omega
   have hkl2:k<en.length:=by omega
   obtain⟨b,off,rfl,hbl,hc⟩:=(he.keep hB2) (by omega);have hc0:=hc k (en.getD k 0) (by simp[hkl2]);have hst:qfr en (k+1)=xs++(if en.getD k 0= -2 then [k] else []):=by rw[←hxs.out];rfl
   clear hc;generalize en.getD k 0=t at hc0 hst;by_cases h1:t= -2
   ·subst h1;have HT:Hid (qfr en (k+1)=xs++[k]):=hst;clear hst;go_wp2_with (at_builtin;refine Q6 _ rfl _ _ rfl w1.heap.size bo (Vv xs) xs.length c' (Qh xs) rfl (Q4 hO _) wr.heap.size 1 (k:Int) 3 rfl (zha wr _) (by rw[Qh];omega) (by have:=hbr.size;simp;omega) _ rfl ?_;intro g3 c3 w3 o3 gb3 hat3 b3)
    rw[←qbl] at o3;go_roundg (gk-1)
    case measure=>omega
    case rel=>exact⟨k+1,g3,c3,xs++[k],by omega,by go_num,by rw[Yaa];rfl,HT,by simp;omega,o3,(bal hbr _).trans b3⟩
   ·have d1:(t== -2)=false:=by simpa using h1
    have HT:Hid (qfr en (k+1)=xs):=by rw[Hid,hst,Yaq h1,Ybx]
    clear hst h1;go_wp2_with fail;go_roundg (gk-1)
    case measure=>omega
    case rel=>exact⟨k+1,bo,c',xs,by omega,by go_num,rfl,HT,by omega,hO,hbr⟩
  ·obtain rfl:k=ne:=by omega
   have e0:decide ((k:Int)<(k:Int))=false:=Yaf (by omega);go_wp2_with fail;go_ret;unfold qzj;rw[hxs.out];exact⟨_,c',by rw[Qh];rfl,Ql hO hb.size,hB2⟩
end Go.Proofs.YtmkjmancmiphfaaGreatDoor
