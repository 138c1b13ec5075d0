/-
  Drawn tasks: l11Open, l1Task, l1Wrong.
-/
import Derived.Test.YtmkjmancmiphfaaGreatDoorRc02
import Derived.Deep.RegionWith
namespace Go.Proofs.YtmkjmancmiphfaaGreatDoor
set_option maxHeartbeats 8000000
set_option maxRecDepth 1000000
open Go.RowKit
theorem qzr(w:World)(l:List Int)(cs:Array Value)(t:TypeId)(b:Nat)(h:cs=(l.map (Value.int .i64)).toArray)(hb:b=w.heap.size):IS (w.alloc (.cells cs t)) (some ⟨b,0,none⟩) l:=by
 subst h hb;intro hl;refine⟨w.heap.size,0,rfl,by simp,fun j u hu=>?_⟩;rw[World.cell?_alloc_new];simp[hu]
def Sm(t:Tk):Prop:=(-100≤t.low∧t.low≤100)∧(-100≤t.high∧t.high≤100)∧(-100≤t.due∧t.due≤100)∧(-100≤t.every∧t.every≤100)
theorem qb7{w w':World}{b g:Nat}{o:Obj}(h:w.heap[b]? =some o)(hg:w.grownBy w' (some g))(hne:b≠g):w'.heap[b]? =some o:=
 (hg.block b (bl h) (fun e=>hne (by injection e))).trans h
theorem Qc{w:World}{b:Nat}{v0 v1 v2 v3 v4:Value}{t:TypeId}(h:w.heap[b]? =some (.cells #[v0,v1,v2,v3,v4] t (0,0))):
  w.cell? ⟨b,0,none⟩=some v0∧w.cell? ⟨b,1,none⟩=some v1∧w.cell? ⟨b,2,none⟩=some v2∧w.cell? ⟨b,3,none⟩=some v3∧w.cell? ⟨b,4,none⟩=some v4∧ ∀i,w.frozen? ⟨b,i,none⟩=false:=
 ⟨by rw[Ybf w b 0 _ _ _ h];rfl,by rw[Ybf w b 1 _ _ _ h];rfl,by rw[Ybf w b 2 _ _ _ h];rfl,by rw[Ybf w b 3 _ _ _ h];rfl,by rw[Ybf w b 4 _ _ _ h];rfl,fun i=>frozen_of_row w b i _ _ h⟩
theorem RD.set{W w:World}{g p:Nat}(h:RD W w g p){a:Addr}(hne:g≠a.block)(hb:W.heap.size≤a.block)(u:Value):RD W (w.setCell a u) g p:=by
 obtain⟨A,l,c,hh,hs,hl⟩:=h.src;exact⟨h.below.setCell hb u,h.new,⟨A,l,c,(Yal w a u g hne).trans hh,hs,hl⟩,h.small⟩
theorem qdl{a w:World}{g:Nat}(h:a.grownBy w (some g)){p:Addr}(hp:a.heap.size≤p.block)(u:Value):a.grownBy (w.setCell p u) (some g):=
 ⟨h.os,h.tape,h.output,by simpa [World.setCell] using h.size,fun i hi hne=>(Yal w p u i (by omega)).trans (h.block i hi hne)⟩
theorem RD.set5{W w:World}{g p:Nat}(h:RD W w g p){b i0 i1 i2 i3 i4:Nat}(hne:g≠b)(hb:W.heap.size≤b)(u0 u1 u2 u3 u4:Value):RD W (((((w.setCell ⟨b,i0,none⟩ u0).setCell ⟨b,i1,none⟩ u1).setCell ⟨b,i2,none⟩ u2).setCell ⟨b,i3,none⟩ u3).setCell ⟨b,i4,none⟩ u4) g p:=
 ((((h.set (a:=⟨b,i0,none⟩) hne hb u0).set (a:=⟨b,i1,none⟩) hne hb u1).set (a:=⟨b,i2,none⟩) hne hb u2).set (a:=⟨b,i3,none⟩) hne hb u3).set (a:=⟨b,i4,none⟩) hne hb u4
theorem qis{a w:World}{g:Nat}(h:a.grownBy w (some g)){b i0 i1 i2 i3 i4:Nat}(hb:a.heap.size≤b)(u0 u1 u2 u3 u4:Value):a.grownBy (((((w.setCell ⟨b,i0,none⟩ u0).setCell ⟨b,i1,none⟩ u1).setCell ⟨b,i2,none⟩ u2).setCell ⟨b,i3,none⟩ u3).setCell ⟨b,i4,none⟩ u4) (some g):=
 qdl (qdl (qdl (qdl (qdl h (p:=⟨b,i0,none⟩) hb u0) (p:=⟨b,i1,none⟩) hb u1) (p:=⟨b,i2,none⟩) hb u2) (p:=⟨b,i3,none⟩) hb u3) (p:=⟨b,i4,none⟩) hb u4
theorem qa5{w:World}{b i:Nat}{cs:Array Value}{t:TypeId}(h:w.heap[b]? =some (.cells cs t (0,0)))(u:Value):(w.setCell ⟨b,i,none⟩ u).heap[b]? =some (.cells (cs.setIfInBounds i u) t (0,0)):=
 Yan w b i cs t u h
def q26(W w:World)(g p k:Nat)(e:Ending)(w':World):Prop:= ∃t:Tk,∃q:Nat,e=.returned t.val∧Sm t∧q≤p+k∧RD W w' g q∧w.grownBy w' (some g)
def qzs(W w:World)(g p k:Nat)(e:Ending)(w':World):Prop:= ∃t:Tk,∃q:Nat,e=.returned t.val∧Sm t∧vld t=true∧q≤p+k∧RD W w' g q∧w.grownBy w' (some g)
theorem qma(W w:World)(g p:Nat)(h:RD W w g p)(hp:p+6≤1099511627776):
  Calls Tryz.prog 52 #[.pointer (some ⟨g,0,none⟩)] w (qzs W w g p 6):=by
 have hgl:=h.lt;go_enter Tryz.func52,Tryz.ntmps52;go_wp2_with fail;refine(qq7 W _ g p _ [8,10,5,4,12,20,6,2] _ (h.grow (bal (bal br _) _)) (by omega) (qzr _ _ _ _ _ rfl (by simp)) (by simp) (by simp) (by rintro a ⟨⟩;simp;omega)).mono ?_;rintro e w1 ⟨ev,hev,rfl,hr1,hg1⟩;have hev:2≤ev∧ev≤20:=by simp at hev;omega
 obtain⟨hev0,hev1⟩:=hev;have hB1:Hid (w1.heap[w.heap.size]? =some (.cells #[.int .i64 0,.int .i64 0,.int .i64 0,.int .i64 0,.bool false] 58 (0,0))):=qb7 ((Yaj _ _ _ (by simp)).trans (zha _ _)) hg1 (by omega);have hG1:Hid (w.grownBy w1 (some g)):=Vo (qir (qir (World.grownBy.refl _ _) _) _) hg1;have hs1:w.heap.size+2≤w1.heap.size:=by have:=hg1.size;simp at this;omega
 clear hg1;go_wp2_with fail;refine(qa9 W _ g (p+1) _ hr1 (by omega)).mono ?_;rintro e w2 ⟨x2,rfl,hx20,hx21,_,hr2,hg2⟩;have hx21:=hx21 (by omega);have hB2:=qb7 hB1.out hg2 (by omega);have hG2:Hid (w.grownBy w2 (some g)):=Vo hG1.out hg2;have hs2:w.heap.size+2≤w2.heap.size:=zll hs1 hg2.size;have HB2:=zhi hB2;clear hg2 hB2 hB1 hG1 hs1 hr1;go_wp2_with fail;refine(qa9 W _ g (p+1+1) _ (hr2.grow (bal br _)) (by omega)).mono ?_;rintro e w3 ⟨x3,rfl,hx30,hx31,_,hr3,hg3⟩;have hgl2:g<w2.heap.size:=hr2.lt;have hB3:=zhi (qb7 ((Yaj _ _ _ (by omega)).trans HB2.out) hg3 (by omega));have hT3:=zhi (qb7 (zha w2 _) hg3 (by omega));have hG3:Hid (w.grownBy w3 (some g)):=Vo (qir hG2.out _) hg3;have hne:w2.heap.size≠w.heap.size:=by omega
 have hs3:w2.heap.size<w3.heap.size:=by have:=hg3.size;simp at this;omega
 have hx31:=hx31 (by omega);clear hg3 HB2 hG2 hr2;obtain⟨t0,t1,t2,t3,t4,tf⟩:=Qc hT3.out;obtain⟨b0,b1,b2,b3,b4,bf⟩:=Qc hB3.out;rcases(show x3=0∨x3=1 from by omega) with rfl|rfl
 ·go_wp2_with fail;have hT3':=zhi (qa5 (i:=4) hT3.out (.bool true));have hB3':=zhi ((Yal w3 ⟨w2.heap.size,4,none⟩ (.bool true) w.heap.size (by simp;omega)).trans hB3.out);have hG3':Hid (w.grownBy (w3.setCell ⟨w2.heap.size,4,none⟩ (.bool true)) (some g)):=qdl hG3.out (by simp;omega) _;refine(qa9 W _ g _ _ (hr3.set (a:=⟨w2.heap.size,4,none⟩) (by simp;omega) (by have:=h.below.size;simp;omega) _) (by omega)).mono ?_;rintro e w4 ⟨x4,rfl,hx40,hx41,_,hr4,hg4⟩;have hx41:=hx41 (by omega);have hB4:=zhi (qb7 hB3'.out hg4 (by omega));have hT4:=zhi (qb7 hT3'.out hg4 (by omega));have hG4:Hid (w.grownBy w4 (some g)):=Vo hG3'.out hg4;have hs4:w2.heap.size<w4.heap.size:=by have:=hg4.size;simp at this;omega
  clear hg4 hB3' hT3' hG3' hB3 hT3 hG3 hr3 t0 t1 t2 t3 t4 tf b0 b1 b2 b3 b4 bf;obtain⟨t0,t1,t2,t3,t4,tf⟩:=Qc hT4.out;go_wp2_with fail;have hT4':=zhi (qa5 (i:=1) hT4.out (.int .i64 (1+x2+x4)));have hB4':=zhi ((Yal w4 ⟨w2.heap.size,1,none⟩ (.int .i64 (1+x2+x4)) w.heap.size (by simp;omega)).trans hB4.out);have hG4':Hid (w.grownBy (w4.setCell ⟨w2.heap.size,1,none⟩ (.int .i64 (1+x2+x4))) (some g)):=qdl hG4.out (by simp;omega) _;refine(qa9 W _ g _ _ (hr4.set (a:=⟨w2.heap.size,1,none⟩) (by simp;omega) (by have:=h.below.size;simp;omega) _) (by omega)).mono ?_;rintro e w5 ⟨x5,rfl,hx50,hx51,_,hr5,hg5⟩;have hx51:=hx51 (by omega);have hB5:=zhi (qb7 hB4'.out hg5 (by omega));have hT5:=zhi (qb7 hT4'.out hg5 (by omega));have hG5:Hid (w.grownBy w5 (some g)):=Vo hG4'.out hg5;have hs5:w2.heap.size<w5.heap.size:=by have:=hg5.size;simp at this;omega
  clear hg5 t0 t1 t2 t3 t4 tf hB4 hT4 hG4 hB4' hT4' hG4' hr4;obtain⟨t0,t1,t2,t3,t4,tf⟩:=Qc hT5.out;obtain⟨b0,b1,b2,b3,b4,bf⟩:=Qc hB5.out;by_cases h50:x5=0
  ·subst h50;go_wp2_with fail;have wa:IntKind.i64.wrap (ev-(1+x2+x4))=ev-(1+x2+x4):=Yai _ (by omega);have wb:IntKind.i64.wrap (ev-(1+x2+x4)+1)=ev-(1+x2+x4)+1:=Yai _ (by omega);go_region_with (go_at_call 25;refine(qa9 W _ g _ _ (hr5.drewN 1) (by omega)).mono ?_;rintro e w6 ⟨x6,rfl,hx60,hx61,_,hr6,hg6⟩;have hx61:=hx61 (by omega);replace hg6:w5.grownBy w6 (some g):=Vo (qq6 (World.grownBy.refl _ _) 1) hg6;obtain⟨t0',t1',t2',t3',t4',tf'⟩:=Qc (qb7 hT5.out hg6 (by omega));obtain⟨b0',b1',b2',b3',b4',bf'⟩:=Qc (qb7 hB5.out hg6 (by omega)))
   all_goals go_wp2_with fail
   all_goals refine bodyPost_ret (v:=Tk.val ⟨1+x2,1+x2+x4,1+x2+x4+x6,ev,true⟩) (by simp[results,Tryz.results52,go_sem,b0',b1',b2',b3',b4']) rfl ⟨⟨1+x2,1+x2+x4,1+x2+x4+x6,ev,true⟩,_,rfl,by simp only[Sm];omega,by simp[vld];omega,?_,(hr6.set (a:=⟨w2.heap.size,2,none⟩) (by simp;omega) (by have:=h.below.size;simp;omega) _).set5 (by omega) h.below.size _ _ _ _ _,qis (qdl (Vo hG5.out hg6) (p:=⟨w2.heap.size,2,none⟩) (by simp;omega) _) (zlr _) _ _ _ _ _⟩
   all_goals omega
  ·have h50:(x5==0)=false:=beq_eq_false_iff_ne.2 h50;go_wp2_with fail;refine bodyPost_ret (v:=Tk.val ⟨1+x2,1+x2+x4,ev,ev,true⟩) (by simp[results,Tryz.results52,go_sem,b0,b1,b2,b3,b4]) rfl ⟨⟨1+x2,1+x2+x4,ev,ev,true⟩,_,rfl,by simp only[Sm];omega,by simp[vld];omega,by omega,hr5.set5 (by omega) h.below.size _ _ _ _ _,qis hG5.out (zlr _) _ _ _ _ _⟩
 ·go_wp2_with fail;refine(qa9 W _ g _ _ hr3 (by omega)).mono ?_;rintro e w5 ⟨x5,rfl,hx50,hx51,_,hr5,hg5⟩;have hx51:=hx51 (by omega);have hB5:=zhi (qb7 hB3.out hg5 (by omega));have hT5:=zhi (qb7 hT3.out hg5 (by omega));have hG5:Hid (w.grownBy w5 (some g)):=Vo hG3.out hg5;have hs5:w2.heap.size<w5.heap.size:=zlt hs3 hg5.size;clear hg5 t0 t1 t2 t3 t4 tf b0 b1 b2 b3 b4 bf hB3 hT3 hG3 hr3;obtain⟨t0,t1,t2,t3,t4,tf⟩:=Qc hT5.out;obtain⟨b0,b1,b2,b3,b4,bf⟩:=Qc hB5.out;by_cases h50:x5=0
  ·subst h50;go_wp2_with fail;have wa:IntKind.i64.wrap (ev-(1+x2))=ev-(1+x2):=Yai _ (by omega);have wb:IntKind.i64.wrap (ev-(1+x2)+1)=ev-(1+x2)+1:=Yai _ (by omega);go_region_with (go_at_call 25;refine(qa9 W _ g _ _ (hr5.drewN 1) (by omega)).mono ?_;rintro e w6 ⟨x6,rfl,hx60,hx61,_,hr6,hg6⟩;have hx61:=hx61 (by omega);replace hg6:w5.grownBy w6 (some g):=Vo (qq6 (World.grownBy.refl _ _) 1) hg6;obtain⟨t0',t1',t2',t3',t4',tf'⟩:=Qc (qb7 hT5.out hg6 (by omega));obtain⟨b0',b1',b2',b3',b4',bf'⟩:=Qc (qb7 hB5.out hg6 (by omega)))
   all_goals go_wp2_with fail
   all_goals refine bodyPost_ret (v:=Tk.val ⟨1+x2,1+x2,1+x2+x6,ev,false⟩) (by simp[results,Tryz.results52,go_sem,b0',b1',b2',b3',b4']) rfl ⟨⟨1+x2,1+x2,1+x2+x6,ev,false⟩,_,rfl,by simp only[Sm];omega,by simp[vld];omega,?_,(hr6.set (a:=⟨w2.heap.size,2,none⟩) (by simp;omega) (by have:=h.below.size;simp;omega) _).set5 (by omega) h.below.size _ _ _ _ _,qis (qdl (Vo hG5.out hg6) (p:=⟨w2.heap.size,2,none⟩) (by simp;omega) _) (zlr _) _ _ _ _ _⟩
   all_goals omega
  ·have h50:(x5==0)=false:=beq_eq_false_iff_ne.2 h50;go_wp2_with fail;refine bodyPost_ret (v:=Tk.val ⟨1+x2,1+x2,ev,ev,false⟩) (by simp[results,Tryz.results52,go_sem,b0,b1,b2,b3,b4]) rfl ⟨⟨1+x2,1+x2,ev,ev,false⟩,_,rfl,by simp only[Sm];omega,by simp[vld];omega,by omega,hr5.set5 (by omega) h.below.size _ _ _ _ _,qis hG5.out (zlr _) _ _ _ _ _⟩
theorem qu1(W w:World)(g p:Nat)(h:RD W w g p)(hp:p+6≤1099511627776):
  Calls Tryz.prog 52 #[.pointer (some ⟨g,0,none⟩)] w (q26 W w g p 6):=by
 refine(qma W w g p h hp).mono ?_;rintro e w1 ⟨t,q,h1,h2,_,h3⟩;exact⟨t,q,h1,h2,h3⟩
end Go.Proofs.YtmkjmancmiphfaaGreatDoor
