/-
  Tasks read: the reference's l1Need, ParseTask.
  Jobs read and told by the reference.
  Texts of shares: the program's.
  Shares and numbers told by the reference.
-/
import Derived.Test.YtmkjmancmiphfaaGreatDoorRb29
namespace Go.Proofs.YtmkjmancmiphfaaGreatDoor
set_option maxHeartbeats 8000000
set_option maxRecDepth 1000000
open Go.RowKit
theorem qw6(u:Tk):qar [47] (qd9 u)=if u.crit then [num u.low,num u.high] else [num u.low]:=by
 unfold qd9 qiw;cases u.crit with
 |true=>
  have e:num u.low++(if true=true then 47::num u.high else [])=num u.low++(47::[])++num u.high:=by simp
  rw[e,qcr 47 [] _ _ (qd3 47 _ (by decide)),qdm 47 [] _ (qd3 47 _ (by decide))];rfl
 |false=>
  have e:num u.low++(if false=true then 47::num u.high else [])=num u.low:=by simp
  rw[e,qdm 47 [] _ (qd3 47 _ (by decide))];rfl
theorem qrw(u:Tk):(32:UInt8)∉qd9 u:=by
 unfold qd9 qiw;intro h;rw[List.mem_append] at h;rcases h with h|h
 ·exact qd3 32 _ (by decide) h
 ·split at h
  ·simp only[List.mem_cons] at h;rcases h with h|h
   ·revert h;decide
   ·exact qd3 32 _ (by decide) h
  ·simp at h
theorem qw7(u:Tk):qar [32] (qbm u)=if u.due<u.every then [qd9 u,[101,118,101,114,121],num u.every,[98,121],num u.due] else [qd9 u,[101,118,101,114,121],num u.every]:=by
 by_cases h:u.due<u.every
 ·have e:qbm u=qd9 u++(32::[])++([101,118,101,114,121]++(32::[])++(num u.every++(32::[])++([98,121]++(32::[])++num u.due))):=by simp[qbm,qd9,qtn,h]
  rw[e,if_pos h,qcr 32 [] _ _ (qrw u),qcr 32 [] _ _ (by decide),qcr 32 [] _ _ (qd3 32 _ (by decide)),qcr 32 [] _ _ (by decide),qdm 32 [] _ (qd3 32 _ (by decide))]
 ·have e:qbm u=qd9 u++(32::[])++([101,118,101,114,121]++(32::[])++num u.every):=by simp[qbm,qd9,qtn,h]
  rw[e,if_neg h,qcr 32 [] _ _ (qrw u),qcr 32 [] _ _ (by decide),qdm 32 [] _ (qd3 32 _ (by decide))]
theorem qu2(c:UInt8)(s:List UInt8):qar [c] s≠[]:=by
 have:=qim [c] s (by simp);intro e;rw[e] at this;simp at this
theorem q2b(c:UInt8)(x:List UInt8)(h:c∈x): ∃a b,x=a++(c::[])++b∧c∉a:=by
 induction x with
 |nil=>cases h
 |cons d x ih=>
  by_cases e:d=c
  ·exact⟨[],x,by rw[e];rfl,by simp⟩
  ·obtain⟨a,b,hx,ha⟩:=ih (by
    rcases List.mem_cons.1 h with h|h
    ·exact absurd h.symm e
    ·exact h)
   refine⟨d::a,b,by rw[hx];rfl,?_⟩;rintro h;rcases List.mem_cons.1 h with h|h
   ·exact e h.symm
   ·exact ha h
theorem qhh(c:UInt8): ∀(k:Nat) (s:List UInt8),s.length≤k→ ∀x∈qar [c] s,x.length≤s.length:=by
 intro k;induction k with
 |zero=>
  intro s hs x hx;obtain rfl:s=[]:=List.length_eq_zero_iff.1 (by omega);rw[qdm c [] [] (by simp)] at hx;simp at hx;rw[hx];exact zlr _
 |succ k ih=>
  intro s hs x hx;by_cases hc:c∈s
  ·obtain⟨a,b,rfl,ha⟩:=q2b c s hc;rw[qcr c [] a b ha] at hx;simp at hs⊢;rcases List.mem_cons.1 hx with rfl|hx
   ·omega
   ·have:=ih b (by omega) x hx;omega
  ·rw[qdm c [] s hc] at hx;simp at hx;rw[hx];exact zlr _
theorem qf6(c:UInt8)(s:List UInt8):(qar [c] s).length≤s.length+1:=by
 have h:=qim [c] s (by simp);have h1:=Go.Lib.countB_le ⟨[c].toArray⟩ (by rw[Go.Lib.size_eq];simp) _ ⟨s.toArray⟩ (zlr _);rw[Go.Lib.size_eq] at h1;have h1:Go.Lib.countB ⟨s.toArray⟩ ⟨[c].toArray⟩≤s.length:=h1;omega
def q4l(s:List UInt8)(w:World)(e:Ending)(w':World):Prop:= ∃(lo hi:Int) (cr ok:Bool),e=.returned (.tuple #[Tk.val ⟨lo,hi,0,0,cr⟩,.bool ok])∧(∀u,vld u=true→qd9 u=s→ok=true∧lo=u.low∧hi=u.high∧cr=u.crit)∧Below w.heap.size w w'
theorem qw8(s:List UInt8)(w:World)(hl:s.length≤1000000):
  Calls Tryz.prog 154 #[.string ⟨s.toArray⟩] w (q4l s w):=by
 have hle:=qhh 47 _ s (zlr _);have hpn:=fun(u:Tk) (h:qd9 u=s)=>(by rw[←h];exact qw6 u:qar [47] s=if u.crit then [num u.low,num u.high] else [num u.low])
 have hne:=qu2 47 s;go_enter Tryz.func154,Tryz.ntmps154;go_wp2_with fail;refine(qev s 47 _ hl).mono ?_;rintro e w1 ⟨A,cap,rfl,hO,b1⟩;have r1:=(b1.block _ (by simp)).trans (zha w (.cells #[.int .i64 0,.int .i64 0,.int .i64 0,.int .i64 0,.bool false] 58 (0,0)));have B1:=qaa (bal (Below.refl w.heap.size w) _) b1;have hg:w.heap.size<w1.heap.size:=zlt (by simp) b1.size;clear b1;obtain⟨g,hgE⟩: ∃g,w.heap.size=g:=⟨_,rfl⟩;rw[hgE] at r1 hg⊢;generalize qar [47] s=ps at*;cases ps with
 |nil=>exact absurd rfl hne
 |cons a q=>
  obtain⟨b,rfl,hbl,hc⟩:=qi4 hO (by simp);have ca:=hc 0 (by simp);simp only[List.getElem_cons_zero] at ca;have hal:=hle a (by simp);have hlq:(0:Int)<(((a::q).length:Nat):Int):=by simp
  go_wp2_with fail;refine(qd4 a _ (by omega)).mono ?_;rintro e w2 ⟨lo,rfl,hlo,b2⟩;have r2:=bh b2 r1;have B2:=qaa B1 b2;cases q with
  |nil=>
   have t3:=zha w2 (.cells #[.int .i64 lo,.int .i64 lo,.int .i64 0,.int .i64 0,.bool false] 58 (0,0));have b3:=bal (Below.refl w2.heap.size w2) (.cells #[.int .i64 lo,.int .i64 lo,.int .i64 0,.int .i64 0,.bool false] 58 (0,0));have r3:=bh b3 r2;have B3:=qaa B2 b3;go_upto_region 4 with fail;obtain⟨t,htE⟩: ∃t,w2.heap.size=t:=⟨_,rfl⟩;rw[htE] at t3⊢;generalize World.alloc w2 _=w3 at t3 r3 B3⊢;obtain⟨t0,t1,t2,t3',t4,tf⟩:=qaf t3;obtain⟨z0,z1,z2,z3,z4,zf⟩:=qaf r3;have HB:=zhi (show Below w.heap.size w _ from bst (bst (bst (bst (bst B3 (p:=⟨g,0,none⟩) (by rw[←hgE];exact zlr _) (.int .i64 lo)) (p:=⟨g,1,none⟩) (by rw[←hgE];exact zlr _) (.int .i64 lo)) (p:=⟨g,2,none⟩) (by rw[←hgE];exact zlr _) (.int .i64 0)) (p:=⟨g,3,none⟩) (by rw[←hgE];exact zlr _) (.int .i64 0)) (p:=⟨g,4,none⟩) (by rw[←hgE];exact zlr _) (.bool false))
   have HY:Hid (∀u,vld u=true→qd9 u=s→(qez a).isSome=true∧lo=u.low∧lo=u.high∧false=u.crit):=by
    intro u hu hs;have hb:=qcb hu;have hp:=hpn u hs;cases hcr:u.crit with
    |true=>rw[hcr] at hp;simp at hp
    |false=>
     rw[hcr] at hp;simp at hp;have hn:=qhv (n:=u.low) (by omega) (by omega);rw[←hp] at hn;have h1:=hlo _ hn;exact⟨by rw[hn];rfl,h1,by rw[←qv5 hu hcr];exact h1,rfl⟩
   clear hpn hlo hle hgE htE;go_wp2_with fail;refine bodyPost_ret (v:=.tuple #[Tk.val ⟨lo,lo,0,0,false⟩,.bool (qez a).isSome]) (by simp[results,Tryz.results154,go_sem,z0,z1,z2,z3,z4]) rfl ⟨lo,lo,false,_,rfl,HY.out,HB.out⟩
  |cons b' q'=>
   have t3:=zha w2 (.cells #[.int .i64 lo,.int .i64 lo,.int .i64 0,.int .i64 0,.bool false] 58 (0,0));have b3:=bal (Below.refl w2.heap.size w2) (.cells #[.int .i64 lo,.int .i64 lo,.int .i64 0,.int .i64 0,.bool false] 58 (0,0));have r3:=bh b3 r2;have B3:=qaa B2 b3;have htg:g<w2.heap.size:=(bl r2);have cb:=hc 1 (by simp);have hb12:=(b2.trans (b3.mono b2.size)).cell (p:=⟨b,1,none⟩) hbl;rw[cb] at hb12;simp only[List.getElem_cons_succ,List.getElem_cons_zero] at hb12;have hbl':=hle b' (by simp);have hlq1:(1:Int)<(((a::b'::q').length:Nat):Int):=by simp;omega
   have e0:((((a::b'::q').length:Nat):Int)==1)=false:=beq_eq_false_iff_ne.2 (by simp;omega);go_upto_region 4 with fail;obtain⟨t,htE⟩: ∃t,w2.heap.size=t:=⟨_,rfl⟩;rw[htE] at t3 htg⊢;generalize World.alloc w2 _=w3 at t3 r3 B3 hb12⊢;clear ca cb hc b2 b3 r2 B2 B1 r1 htE;go_wp2_with fail;refine(qd4 b' _ (by omega)).mono ?_;rintro e w4 ⟨hi,rfl,hhi,b4⟩;have t4:=bh b4 t3;have r4:=bh b4 r3;have B4:=qaa B3 b4;clear t3 r3 b4 B3 hb12;obtain⟨t0,t1,t2,t3',t4',tf⟩:=qaf t4;have t5:=qc5 t4 (i:=1) (.int .i64 hi);have t6:=qc5 t5 (i:=4) (.bool true);have r5:=(Below.heap_setCell (w4.setCell ⟨t,1,none⟩ (.int .i64 hi)) ⟨t,4,none⟩ (.bool true) g (by simp;omega)).trans ((Below.heap_setCell w4 ⟨t,1,none⟩ (.int .i64 hi) g (by simp;omega)).trans r4);have hwt:w.heap.size≤t:=by omega
   have B5:=bst (bst B4 (p:=⟨t,1,none⟩) hwt (.int .i64 hi)) (p:=⟨t,4,none⟩) hwt (.bool true);go_upto_region 9 with fail;generalize World.setCell (World.setCell w4 _ _) _ _=w5 at t6 r5 B5⊢;clear t0 t1 t2 t3' t4' tf t4 t5 r4 B4;obtain⟨t0,t1,t2,t3',t4',tf⟩:=qaf t6;obtain⟨z0,z1,z2,z3,z4,zf⟩:=qaf r5;have HB:=zhi (show Below w.heap.size w _ from bst (bst (bst (bst (bst B5 (p:=⟨g,0,none⟩) (by rw[←hgE];exact zlr _) (.int .i64 lo)) (p:=⟨g,1,none⟩) (by rw[←hgE];exact zlr _) (.int .i64 hi)) (p:=⟨g,2,none⟩) (by rw[←hgE];exact zlr _) (.int .i64 0)) (p:=⟨g,3,none⟩) (by rw[←hgE];exact zlr _) (.int .i64 0)) (p:=⟨g,4,none⟩) (by rw[←hgE];exact zlr _) (.bool true));obtain⟨ok,hok⟩: ∃ok,((qez a).isSome&&(qez b').isSome&&decide (q'=[]))=ok:=⟨_,rfl⟩
   have HY:Hid (∀u,vld u=true→qd9 u=s→ok=true∧lo=u.low∧hi=u.high∧true=u.crit):=by
    intro u hu hs;have hb:=qcb hu;have hp:=hpn u hs;cases hcr:u.crit with
    |false=>rw[hcr] at hp;simp at hp
    |true=>
     rw[hcr] at hp;simp at hp;obtain⟨p1,p2,p3⟩:=hp;have hn:=qhv (n:=u.low) (by omega) (by omega);rw[←p1] at hn;have hn2:=qhv (n:=u.high) (by omega) (by omega);rw[←p2] at hn2;exact⟨by rw[←hok,hn,hn2,p3];rfl,hlo _ hn,hhi _ hn2,rfl⟩
   have HK:=zhi hok;clear hpn hlo hhi hle hgE hok;cases h1:(qez a).isSome with
   |false=>
    have HO:Hid (ok=false):=by rw[Hid,←HK.out,h1];rfl
    go_wp2_with fail;refine bodyPost_ret (v:=.tuple #[Tk.val ⟨lo,hi,0,0,true⟩,.bool false]) (by simp[results,Tryz.results154,go_sem,z0,z1,z2,z3,z4]) rfl ⟨lo,hi,true,ok,by rw[HO.out],HY.out,HB.out⟩
   |true=>
    cases h2:(qez b').isSome with
    |false=>
     have HO:Hid (ok=false):=by rw[Hid,←HK.out,h1,h2];rfl
     go_wp2_with fail;refine bodyPost_ret (v:=.tuple #[Tk.val ⟨lo,hi,0,0,true⟩,.bool false]) (by simp[results,Tryz.results154,go_sem,z0,z1,z2,z3,z4]) rfl ⟨lo,hi,true,ok,by rw[HO.out],HY.out,HB.out⟩
    |true=>
     cases q' with
     |nil=>
      have HO:Hid (ok=true):=by rw[Hid,←HK.out,h1,h2];rfl
      go_wp2_with fail;refine bodyPost_ret (v:=.tuple #[Tk.val ⟨lo,hi,0,0,true⟩,.bool true]) (by simp[results,Tryz.results154,go_sem,z0,z1,z2,z3,z4]) rfl ⟨lo,hi,true,ok,by rw[HO.out],HY.out,HB.out⟩
     |cons x y=>
      have HO:Hid (ok=false):=by rw[Hid,←HK.out,h1,h2];rfl
      have e2:(((y.length:Int)+1+1+1)==2)=false:=beq_eq_false_iff_ne.2 (by omega);go_wp2_with fail;refine bodyPost_ret (v:=.tuple #[Tk.val ⟨lo,hi,0,0,true⟩,.bool false]) (by simp[results,Tryz.results154,go_sem,z0,z1,z2,z3,z4]) rfl ⟨lo,hi,true,ok,by rw[HO.out],HY.out,HB.out⟩
def qmk(o:Option Tk):Value:=.tuple #[(o.getD ⟨0,0,0,0,false⟩).val,.bool o.isSome]
theorem qyq{s:List UInt8}(h: ∀u,vld u=true→qbm u=s→False):tkO s=none:=by
 cases ht:tkO s with
 |none=>rfl
 |some u=>exact absurd (qi1 ht).2 (fun e=>h u (qi1 ht).1 e)
theorem qh6(s:List UInt8)(w:World)(hl:s.length≤1000000):
  Calls Tryz.prog 93 #[.string ⟨s.toArray⟩] w fun e w'=>e=.returned (qmk (tkO s))∧Below w.heap.size w w':=by
 have hle:=qhh 32 _ s (zlr _);have hpn:=fun(u:Tk) (h:qbm u=s)=>(by rw[←h];exact qw7 u:qar [32] s=if u.due<u.every then [qd9 u,[101,118,101,114,121],num u.every,[98,121],num u.due] else [qd9 u,[101,118,101,114,121],num u.every])
 have hs0:qar [32] s=[]∨(qar [32] s).length=1∨s≠[]:=by
  by_cases h:s=[]
  ·subst h;rw[qdm 32 [] [] (by simp)];exact .inr (.inl rfl)
  ·exact .inr (.inr h)
 go_enter Tryz.func93,Tryz.ntmps93;go_wp2_with fail;refine(qev s 32 _ hl).mono ?_;rintro e w1 ⟨A,cap,rfl,hO,b1⟩;have r1:=(b1.block _ (by simp)).trans (zha w (.cells #[.int .i64 0,.int .i64 0,.int .i64 0,.int .i64 0,.bool false] 58 (0,0)));have B1:=qaa (bal (Below.refl w.heap.size w) _) b1;have hg:w.heap.size<w1.heap.size:=zlt (by simp) b1.size;clear b1;obtain⟨g,hgE⟩: ∃g,w.heap.size=g:=⟨_,rfl⟩;rw[hgE] at r1 hg⊢;have hgw:w.heap.size≤g:=by omega
 clear hgE;obtain⟨z0,z1,z2,z3,z4,zf⟩:=qaf r1;generalize qar [32] s=ps at*;by_cases h35:ps.length=3∨ps.length=5
 case neg=>
  have HN:Hid (tkO s=none):=by
   refine qyq (fun u hu hs=>h35 ?_);rw[hpn u hs];split
   ·exact .inr rfl
   ·exact .inl rfl
  have e1:((ps.length:Int) !=3)=true:=by simp;omega
  have e2:((ps.length:Int) !=5)=true:=by simp;omega
  have HB:=zhi (show Below w.heap.size w _ from bst (bst (bst (bst (bst B1 (p:=⟨g,0,none⟩) hgw (.int .i64 0)) (p:=⟨g,1,none⟩) hgw (.int .i64 0)) (p:=⟨g,2,none⟩) hgw (.int .i64 0)) (p:=⟨g,3,none⟩) hgw (.int .i64 0)) (p:=⟨g,4,none⟩) hgw (.bool false));clear hpn hle hs0 h35;go_wp2_with fail;refine bodyPost_ret (v:=qmk none) (by simp[results,Tryz.results93,go_sem,z0,z1,z2,z3,z4];rfl) rfl ⟨by rw[HN.out],HB.out⟩
 have hp3:3≤ps.length:=by omega
 have hsn:s≠[]:=by
  rcases hs0 with h|h|h
  ·rw[h] at hp3;simp at hp3
  ·omega
  ·exact h
 obtain⟨b,rfl,hbl,hc⟩:=qi4 hO (by omega);have c0:=hc 0 (by omega);have c2:=hc 2 (by omega);have h0l:=hle ps[0] (List.getElem_mem _);have h2l:=hle ps[2] (List.getElem_mem _)
 have g3:((ps.length:Int) !=3)=false∨(((ps.length:Int) !=3)=true∧((ps.length:Int) !=5)=false):=by
  rcases h35 with h|h
  ·exact .inl (by simp[h])
  ·exact .inr ⟨by simp[h],by simp[h]⟩
 have hI0:(0:Int)<(ps.length:Int):=by omega
 have hI2:(2:Int)<(ps.length:Int):=by omega
 have HU:Hid (∀u,vld u=true→qbm u=s→qd9 u=ps[0]∧qez ps[2]=some u.every∧(ps.length=3→u.due=u.every)∧(∀h5:ps.length=5,qez ps[4]=some u.due)):=by
  intro u hu hs;have hb:=qcb hu;have hp:=hpn u hs;have n1:=qhv (n:=u.every) (by omega) (by omega);have n2:=qhv (n:=u.due) (by omega) (by omega);by_cases hd:u.due<u.every
  ·rw[if_pos hd] at hp;subst hp;exact⟨rfl,n1,fun h=>by simp at h,fun _=>n2⟩
  ·rw[if_neg hd] at hp;subst hp;exact⟨rfl,n1,fun _=>by omega,fun h=>by simp at h⟩
 have hc4:=fun(h5:ps.length=5)=>hc 4 (by omega)
 have h4l:=fun(h5:ps.length=5)=>hle ps[4] (List.getElem_mem _)
 clear hpn hle hs0 hc hO;obtain⟨x0,hx0⟩: ∃x,ps[0]=x:=⟨_,rfl⟩;obtain⟨x2,hx2⟩: ∃x,ps[2]=x:=⟨_,rfl⟩;rw[hx0] at c0 h0l;rw[hx2] at c2 h2l;rw[hx0,hx2] at HU;clear hx0 hx2;go_upto_region 2 with fail;go_cut [20] from 13 to 21 (fun v wc=>v=.bool false∧w1=wc)
 case first=>
  rcases g3 with h|⟨h,h'⟩
  ·go_wp2_with fail;go_meet
   exact⟨rfl,rfl⟩
  ·go_wp2_with fail;go_meet
   exact⟨rfl,rfl⟩
 case rest=>
  obtain⟨rfl,rfl⟩:=hcut;clear g3;go_wp2_with fail;refine(qw8 x0 _ (by omega)).mono ?_;rintro e w2 ⟨lo,hi,cr,ok,rfl,hY,b2⟩;have r2:=bh b2 r1;have B2:=qaa B1 b2;have k2:=(b2.cell (p:=⟨b,2,none⟩) hbl).trans c2;have k4:=fun h5=>(b2.cell (p:=⟨b,4,none⟩) hbl).trans (hc4 h5)
  have t3:=zha w2 (.cells #[.int .i64 lo,.int .i64 hi,.int .i64 0,.int .i64 0,.bool cr] 58 (0,0));have b3:=bal (Below.refl w2.heap.size w2) (.cells #[.int .i64 lo,.int .i64 hi,.int .i64 0,.int .i64 0,.bool cr] 58 (0,0));have r3:=bh b3 r2;have hb2:b<w2.heap.size:=zlt hbl b2.size;have k2:=(b3.cell (p:=⟨b,2,none⟩) hb2).trans k2;have k4:=fun h5=>(b3.cell (p:=⟨b,4,none⟩) hb2).trans (k4 h5)
  have B3:=qaa B2 b3;have hgt:g<w2.heap.size:=(bl r2);clear c0 c2 hc4 r1 r2 B1 B2 b3 b2 z0 z1 z2 z3 z4 zf hbl;go_upto_region 5 with fail;obtain⟨t,htE⟩: ∃t,w2.heap.size=t:=⟨_,rfl⟩;rw[htE] at t3 hgt hb2⊢;generalize World.alloc w2 _=w3 at t3 r3 B3 k2 k4⊢;clear htE;go_wp2_with fail;refine(qd4 x2 _ (by omega)).mono ?_;rintro e w4 ⟨ev,rfl,hev,b4⟩;have hb3:b<w3.heap.size:=Nat.lt_trans hb2 (bl t3);have t4:=bh b4 t3;have r4:=bh b4 r3;have B4:=qaa B3 b4;have k4:=fun h5=>(b4.cell (p:=⟨b,4,none⟩) hb3).trans (k4 h5)
  obtain⟨t0,t1,t2,t3',t4',tf⟩:=qaf t4;have t5:=qc5 t4 (i:=3) (.int .i64 ev);have t6:=qc5 t5 (i:=2) (.int .i64 ev);have r6:=(Below.heap_setCell (w4.setCell ⟨t,3,none⟩ (.int .i64 ev)) ⟨t,2,none⟩ (.int .i64 ev) g (by simp;omega)).trans ((Below.heap_setCell w4 ⟨t,3,none⟩ (.int .i64 ev) g (by simp;omega)).trans r4);have hwt:w.heap.size≤t:=by omega
  have B6:=bst (bst B4 (p:=⟨t,3,none⟩) hwt (.int .i64 ev)) (p:=⟨t,2,none⟩) hwt (.int .i64 ev)
  have k6: ∀h5,((w4.setCell ⟨t,3,none⟩ (.int .i64 ev)).setCell ⟨t,2,none⟩ (.int .i64 ev)).cell? ⟨b,4,none⟩=some (.string ⟨(ps[4]'(by have:ps.length=5:=h5;omega)).toArray⟩):=fun h5=>by
   have h1:=((Below.refl t w4).setCell (p:=⟨t,3,none⟩) (zlr _) (.int .i64 ev)).setCell (p:=⟨t,2,none⟩) (zlr _) (.int .i64 ev);exact(h1.cell (p:=⟨b,4,none⟩) hb2).trans (k4 h5)
  go_upto_region 8 with fail;generalize World.setCell (World.setCell w4 _ _) _ _=w6 at t6 r6 B6 k6⊢;clear t0 t1 t2 t3' t4' tf t3 t4 t5 r3 r4 B3 B4 k2 k4 b4
  have hokk: ∀u,vld u=true→qbm u=s→ok=true∧lo=u.low∧hi=u.high∧cr=u.crit∧(qez x2).isSome=true∧ev=u.every:=by
   intro u hu hs;obtain⟨a1,a2,_,_⟩:=HU.out u hu hs;obtain⟨y1,y2,y3,y4⟩:=hY u hu a1;exact⟨y1,y2,y3,y4,by rw[a2];rfl,hev _ a2⟩
  have HOK:=zhi hokk;clear hokk hY hev;generalize(qez x2).isSome=fi at HOK⊢;go_upto_if 42 with fail
  obtain⟨b5,hb5⟩: ∃b5,((ps.length:Int)==5)=b5:=⟨_,rfl⟩;rw[hb5];have HB5:=zhi hb5;clear hb5;go_cut [8,9,10] from 43 to 56 (fun f d9 d10 wc=> ∃(du:Int) (fine:Bool),f=.bool fine∧wc.heap[t]? =some (.cells #[.int .i64 lo,.int .i64 hi,.int .i64 du,.int .i64 ev,.bool cr] 58 (0,0))∧wc.heap[g]? =some (.cells #[.int .i64 0,.int .i64 0,.int .i64 0,.int .i64 0,.bool false] 58 (0,0))∧Hid (∀u,vld u=true→qbm u=s→ok=true∧fine=true∧(⟨lo,hi,du,ev,cr⟩:Tk)=u)∧Below w.heap.size w wc)
  case first=>
   obtain⟨t0,t1,t2,t3',t4',tf⟩:=qaf t6;cases b5 with
   |true=>
    have h5:ps.length=5:=by
     have:=HB5.out;simp at this;omega
    have hI4:(4:Int)<(ps.length:Int):=by omega
    have k4:=k6 h5;have hx4l:=h4l h5;have hd4:=fun u hu hs=>(HU.out u hu hs).2.2.2 h5
    have hlt4:4<ps.length:=by omega
    obtain⟨x4,hx4⟩: ∃x,ps[4]=x:=⟨_,rfl⟩;rw[hx4] at k4 hx4l hd4;have HD4:=zhi hd4;clear hx4 hd4 h5 k6 h4l;go_wp2_with fail;refine(qd4 x4 _ (by omega)).mono ?_;rintro e w7 ⟨dv,rfl,hdv,b7⟩;have t7:=bh b7 t6;have r7:=bh b7 r6;have B7:=qaa B6 b7;clear t0 t1 t2 t3' t4' tf;obtain⟨t0,t1,t2,t3',t4',tf⟩:=qaf t7;have t8:=qc5 t7 (i:=2) (.int .i64 dv);have r8:=(Below.heap_setCell w7 ⟨t,2,none⟩ (.int .i64 dv) g (by simp;omega)).trans r7;have B8:=bst B7 (p:=⟨t,2,none⟩) hwt (.int .i64 dv);obtain⟨gd,hgd⟩: ∃gd,(qez x4).isSome=gd:=⟨_,rfl⟩;rw[hgd]
    have HF:Hid (∀u,vld u=true→qbm u=s→ok=true∧(fi&&gd)=true∧(⟨lo,hi,dv,ev,cr⟩:Tk)=u):=by
     intro u hu hs;obtain⟨y1,y2,y3,y4,y5,y6⟩:=HOK.out u hu hs;have h4:=HD4.out u hu hs;refine⟨y1,by rw[y5,←hgd,h4];rfl,?_⟩;rw[y2,y3,y4,y6,hdv _ h4]
    clear hgd hdv;cases fi with
    |true=>
     go_wp2_with fail;go_meet
     exact⟨dv,gd,rfl,t8,r8,HF,B8⟩
    |false=>
     go_wp2_with fail;go_meet
     exact⟨dv,false,rfl,t8,r8,HF,B8⟩
   |false=>
    have h5:ps.length≠5:=by
     have:=HB5.out;simp at this;omega
    have HF:Hid (∀u,vld u=true→qbm u=s→ok=true∧fi=true∧(⟨lo,hi,ev,ev,cr⟩:Tk)=u):=by
     intro u hu hs;obtain⟨y1,y2,y3,y4,y5,y6⟩:=HOK.out u hu hs;have h3:=(HU.out u hu hs).2.2.1 (by omega);refine⟨y1,y5,?_⟩;rw[y2,y3,y4,y6];cases u
     simp only at h3;rw[h3]
    clear k6 h4l h5;go_wp2_with fail;go_meet
    exact⟨ev,fi,rfl,t6,r6,HF,B6⟩
  case rest=>
   obtain⟨du,fine,rfl,t7,r7,HF,B7⟩:=hcut;clear t6 r6 B6 k6 h4l HOK HU h35;obtain⟨t0,t1,t2,t3',t4',tf⟩:=qaf t7;obtain⟨z0,z1,z2,z3,z4,zf⟩:=qaf r7;have fin0:Hid (∀w',Below w.heap.size w w'→Below w.heap.size w (((((w'.setCell ⟨g,0,none⟩ (.int .i64 0)).setCell ⟨g,1,none⟩ (.int .i64 0)).setCell ⟨g,2,none⟩ (.int .i64 0)).setCell ⟨g,3,none⟩ (.int .i64 0)).setCell ⟨g,4,none⟩ (.bool false))):=fun w' h=>bst (bst (bst (bst (bst h (p:=⟨g,0,none⟩) hgw (.int .i64 0)) (p:=⟨g,1,none⟩) hgw (.int .i64 0)) (p:=⟨g,2,none⟩) hgw (.int .i64 0)) (p:=⟨g,3,none⟩) hgw (.int .i64 0)) (p:=⟨g,4,none⟩) hgw (.bool false)
   cases ok with
   |false=>
    have HN:Hid (tkO s=none):=qyq (fun u hu hs=>by have:=(HF.out u hu hs).1;cases this);go_wp2_with fail;refine bodyPost_ret (v:=qmk none) (by simp[results,Tryz.results93,go_sem,z0,z1,z2,z3,z4];rfl) rfl ⟨by rw[HN.out],fin0.out _ B7⟩
   |true=>
    cases fine with
    |false=>
     have HN:Hid (tkO s=none):=qyq (fun u hu hs=>by have:=(HF.out u hu hs).2.1;cases this);go_wp2_with fail;refine bodyPost_ret (v:=qmk none) (by simp[results,Tryz.results93,go_sem,z0,z1,z2,z3,z4];rfl) rfl ⟨by rw[HN.out],fin0.out _ B7⟩
    |true=>
     go_wp2_with fail;refine(qha ⟨lo,hi,du,ev,cr⟩ _).mono ?_;rintro e w8 ⟨rfl,b8⟩;have t8:=bh b8 t7;have r8:=bh b8 r7;have B8:=qaa B7 b8;clear t0 t1 t2 t3' t4' tf z0 z1 z2 z3 z4 zf t7 r7 B7 b8;obtain⟨t0,t1,t2,t3',t4',tf⟩:=qaf t8;obtain⟨z0,z1,z2,z3,z4,zf⟩:=qaf r8;by_cases hf:qas ⟨lo,hi,du,ev,cr⟩=s
     ·have HT:Hid (tkO s=some ⟨lo,hi,du,ev,cr⟩):=by
       have hv:vld ⟨lo,hi,du,ev,cr⟩=true:=by
        unfold qas at hf;split at hf
        ·assumption
        ·exact absurd hf.symm hsn
       rw[qcz hv] at hf;rw[Hid,←hf];exact q5p hv
      rw[hf];have hq:((ByteArray.mk s.toArray).toList==(ByteArray.mk s.toArray).toList)=true:=beq_self_eq_true _;clear hf;go_wp2_with fail;refine bodyPost_ret (v:=qmk (some ⟨lo,hi,du,ev,cr⟩)) (by simp[results,Tryz.results93,go_sem,z0,z1,z2,z3,z4];rfl) rfl ⟨by rw[HT.out],bst (bst (bst (bst (bst B8 (p:=⟨g,0,none⟩) hgw _) (p:=⟨g,1,none⟩) hgw _) (p:=⟨g,2,none⟩) hgw _) (p:=⟨g,3,none⟩) hgw _) (p:=⟨g,4,none⟩) hgw _⟩
     ·have HN:Hid (tkO s=none):=qyq (fun u hu hs=>by
       have h3:=(HF.out u hu hs).2.2;rw[h3,qcz hu] at hf;exact hf hs)
      have hq:(qas ⟨lo,hi,du,ev,cr⟩==s)=false:=beq_eq_false_iff_ne.2 hf;generalize qas ⟨lo,hi,du,ev,cr⟩=F at hq⊢;clear hf;go_wp2_with fail;refine bodyPost_ret (v:=qmk none) (by simp[results,Tryz.results93,go_sem,z0,z1,z2,z3,z4];rfl) rfl ⟨by rw[HN.out],fin0.out _ B8⟩
theorem qhw(n:Int)(h0:0≤n)(h1:n≤1000000)(w:World):
  Calls Tryz.prog 91 #[.int .i64 n] w fun e w'=>e=.returned (.string ⟨(num n).toArray⟩)∧Below w.heap.size w w':=by
 have K:=qk4 n.toNat (by omega) w;rw[Int.toNat_of_nonneg h0] at K;exact K
theorem qo6(t:Jb)(w:World):
  Calls Tryz.prog 145 #[t.val] w fun e w'=>e=.returned (.bool (qdh t))∧Below w.heap.size w w':=by
 obtain⟨q,m,n⟩:=t;go_enter Tryz.func145,Tryz.ntmps145;go_wp2
 all_goals go_ret
 all_goals refine⟨?_,(Below.refl _ _).alloc (zlr _) _⟩
 all_goals(simp[qdh, *];try omega)
theorem qzu(js:List Jb)(k:Nat)(hk:k<js.length)(h0:k≠0):qhe (js.take (k+1))=qhe (js.take k)++[32]++qgu js[k]:=by
 unfold qhe;rw[List.take_succ_eq_append_getElem hk,List.map_append];exact quj _ _ _ (by simp;omega)
theorem qw9(js:List Jb)(hk:0<js.length):qhe (js.take (0+1))=qgu js[0]:=by
 unfold qhe;rw[List.take_succ_eq_append_getElem hk];simp[Lib.join_one]
theorem qxa{js:List Jb}{k:Nat}(h60:k≤60)(h:(js.take k).all qdh=true):(qhe (js.take k)).length≤3960:=by
 have ht:qe0 (js.take k)=true:=by
  simp only[qe0,Bool.and_eq_true,decide_eq_true_eq];exact⟨h,by rw[List.length_take];omega⟩
 have:=qgv (js.take k);rwa [qbc,if_pos ht] at this
theorem qj2(A:ZA)(js:List Jb)(c:Nat)(w:World)(h:JS w A js)(hm:js.length≤1000000):
  Calls Tryz.prog 81 #[.slice A js.length c] w fun e w'=>e=.returned (.string ⟨(qbc js).toArray⟩)∧Below w.heap.size w w':=by
 go_enter Tryz.func81,Tryz.ntmps81;go_wp2_with fail;go_loopw [3,4] (fun v i wr=> ∃(k:Nat) (TX:List UInt8),i=.int .i64 (k:Int)∧v=.string ⟨TX.toArray⟩∧k≤js.length∧(k=0∨js.length≤60)∧Hid (TX=qhe (js.take k))∧Hid ((js.take k).all qdh=true)∧Below w.heap.size w wr) (fun _ i _=>js.length-(intOf i).toNat)
 case atStart=>exact⟨0,[],rfl,rfl,by omega,.inl rfl,rfl,rfl,br⟩
 case round=>
  obtain⟨k,TX,rfl,rfl,hk,hk60,hT,hA,hb⟩:=hrel
  have hTl:TX.length≤3960:=by
   rw[hT.out];exact qxa (by omega) hA.out
  by_cases h60:js.length≤60
  ·by_cases hlt:k<js.length
   ·have e0:decide ((k:Int)<(js.length:Int))=true:=decide_eq_true (by omega);have e1:decide ((js.length:Int)≤60)=true:=decide_eq_true (by omega);have hkI:(k:Int)<(js.length:Int):=by omega
    obtain⟨b,off,rfl,hbl,hc⟩:=h.keep hb (by omega);obtain⟨c0,c1,c2⟩:=qbg hc k hlt;clear hc;have hnx0:=zhi (fun h0:k=0=>(by subst h0;exact qw9 js hlt:qhe (js.take (k+1))=qgu js[k]));have hnx1:=zhi (fun h0:k≠0=>qzu js k hlt h0)
    have hall:Hid ((js.take (k+1)).all qdh=((js.take k).all qdh&&qdh js[k])):=by
     rw[Hid,List.take_succ_eq_append_getElem hlt,List.all_append];simp
    have hin:Hid (js[k]∈js):=List.getElem_mem hlt;generalize js[k]=t at c0 c1 c2 hnx0 hnx1 hall hin;go_wp2_with fail;refine(qo6 t _).mono ?_;cases ht:qdh t with
    |false=>
     have HF:Hid (qbc js=[]):=by
      have:qe0 js=false:=by
       simp only[qe0,Bool.and_eq_false_iff];exact .inl (List.all_eq_false.2 ⟨t,hin.out,by simp[ht]⟩)
      simp[Hid,qbc,this]
     rintro e w1 ⟨rfl,b1⟩;clear ht;go_wp2_with fail;go_ret;exact⟨by rw[HF.out];rfl,qaa hb b1⟩
    |true=>
     rintro e w1 ⟨rfl,b1⟩;have hA2:Hid ((js.take (k+1)).all qdh=true):=by rw[Hid,hall.out,hA.out,ht];rfl
     obtain⟨v1,v2,v3,v4,v5,v6⟩:=(qda _).1 ht;have l1:=qap t.task (by omega);have l2:=qap t.at_ (by omega);have l3:=qap t.need (by omega);replace c0:=(b1.cell (p:=⟨b,off+k*3,none⟩) hbl).trans c0;replace c1:=(b1.cell (p:=⟨b,off+k*3+1,none⟩) hbl).trans c1;replace c2:=(b1.cell (p:=⟨b,off+k*3+2,none⟩) hbl).trans c2;have hbl1:b<w1.heap.size:=zlt hbl b1.size;have B1:=qaa hb b1;clear ht b1 hin hall hbl hb;by_cases h0:k=0
     ·subst h0
      have hX:Hid (((((TX++num t.task)++[64])++num t.at_)++[58])++num t.need=qhe (js.take (0+1))):=by
       rw[Hid,hnx0.out rfl,hT.out];simp[qhe,qgu,Lib.join_nil]
      simp only[Nat.zero_mul,Nat.add_zero] at c0 c1 c2;go_upto_region 9 with fail;refine wp_region_held (S:=fun w'=>w'.cell? ⟨b,off,none⟩=some (.int .i64 t.task)∧w'.cell? ⟨b,off+1,none⟩=some (.int .i64 t.at_)∧w'.cell? ⟨b,off+2,none⟩=some (.int .i64 t.need)) (by kernel_rfl) ?_;change wpAnyH _ _ _ _ _ _ _ _ (World.drew _);have K0:Below w1.heap.size w1 (World.drew w1):=zdr br;have hSk: ∀{v:World},Below w1.heap.size w1 v→v.cell? ⟨b,off,none⟩=some (.int .i64 t.task)∧v.cell? ⟨b,off+1,none⟩=some (.int .i64 t.at_)∧v.cell? ⟨b,off+2,none⟩=some (.int .i64 t.need):=fun h=>⟨(h.cell (p:=⟨b,off,none⟩) hbl1).trans c0,(h.cell (p:=⟨b,off+1,none⟩) hbl1).trans c1,(h.cell (p:=⟨b,off+2,none⟩) hbl1).trans c2⟩
      have hS0:=hSk K0;clear c0 c1 c2;refine tq 0 26 (.string ⟨TX.toArray⟩) rfl (fun _ _=>rfl) hS0 ?_;refine tq 1 27 (.slice (some ⟨b,off,none⟩) (js.length) c) rfl (fun _ _=>rfl) hS0 ?_;refine tq 2 28 (.int .i64 (0)) rfl (fun _ _=>rfl) hS0 ?_;refine tq 3 29 (.pointer (some ⟨b,off,none⟩)) rfl (fun w _=>by go_simp<;>(first|omega|(simp;omega))) hS0 ?_;refine tq 4 30 (.pointer (some ⟨b,off,none⟩)) rfl (fun w _=>by go_simp) hS0 ?_;refine tq 5 31 (.int .i64 (t.task)) rfl (fun w hS=>by obtain⟨x0,x1,x2⟩:=hS;go_simp) hS0 ?_;refine tq 9 35 (.slice (some ⟨b,off,none⟩) (js.length) c) rfl (fun _ _=>rfl) hS0 ?_;refine tq 10 36 (.int .i64 (0)) rfl (fun _ _=>rfl) hS0 ?_;refine tq 11 37 (.pointer (some ⟨b,off,none⟩)) rfl (fun w _=>by go_simp<;>(first|omega|(simp;omega))) hS0 ?_;refine tq 12 38 (.pointer (some ⟨b,off+1,none⟩)) rfl (fun w _=>by go_simp) hS0 ?_;refine tq 13 39 (.int .i64 (t.at_)) rfl (fun w hS=>by obtain⟨x0,x1,x2⟩:=hS;go_simp) hS0 ?_;refine tq 17 43 (.slice (some ⟨b,off,none⟩) (js.length) c) rfl (fun _ _=>rfl) hS0 ?_;refine tq 18 44 (.int .i64 (0)) rfl (fun _ _=>rfl) hS0 ?_;refine tq 19 45 (.pointer (some ⟨b,off,none⟩)) rfl (fun w _=>by go_simp<;>(first|omega|(simp;omega))) hS0 ?_;refine tq 20 46 (.pointer (some ⟨b,off+2,none⟩)) rfl (fun w _=>by go_simp) hS0 ?_;refine tq 21 47 (.int .i64 (t.need)) rfl (fun w hS=>by obtain⟨x0,x1,x2⟩:=hS;go_simp) hS0 ?_;refine ch 6 32 rfl 91 Tryz.func91 #[.int .i64 t.task] (qhw t.task (by omega) (by omega) _) ?_;rintro e v1 ⟨rfl,bz1⟩;have K1:=qaa K0 bz1;have hS1:=hSk K1;refine⟨_,rfl,hS1,?_⟩;simp only[lsS,lsZ];refine tq 7 33 (.string ⟨(TX++num t.task).toArray⟩) rfl (fun w _=>by go_simp<;>(first|(rw[if_neg (by omega)];simp[qan])|omega)) hS1 ?_;refine tq 8 34 (.string ⟨((TX++num t.task)++[64]).toArray⟩) rfl (fun w _=>by go_simp<;>(first|(rw[if_neg (by omega)];simp[qan])|omega)) hS1 ?_;refine ch 14 40 rfl 91 Tryz.func91 #[.int .i64 t.at_] (qhw t.at_ (by omega) (by omega) _) ?_;rintro e v2 ⟨rfl,bz2⟩;have K2:=qaa K1 bz2;have hS2:=hSk K2;refine⟨_,rfl,hS2,?_⟩;simp only[lsS,lsZ];refine tq 15 41 (.string ⟨(((TX++num t.task)++[64])++num t.at_).toArray⟩) rfl (fun w _=>by go_simp<;>(first|(rw[if_neg (by omega)];simp[qan])|omega)) hS2 ?_;refine tq 16 42 (.string ⟨((((TX++num t.task)++[64])++num t.at_)++[58]).toArray⟩) rfl (fun w _=>by go_simp<;>(first|(rw[if_neg (by omega)];simp[qan])|omega)) hS2 ?_;refine ch 22 48 rfl 91 Tryz.func91 #[.int .i64 t.need] (qhw t.need (by omega) (by omega) _) ?_;rintro e v3 ⟨rfl,bz3⟩;have K3:=qaa K2 bz3;have hS3:=hSk K3;refine⟨_,rfl,hS3,?_⟩;simp only[lsS,lsZ];refine tq 23 49 (.string ⟨(((((TX++num t.task)++[64])++num t.at_)++[58])++num t.need).toArray⟩) rfl (fun w _=>by go_simp<;>(first|(rw[if_neg (by omega)];simp[qan])|omega)) hS3 ?_;refine tq 24 3 (.string ⟨(((((TX++num t.task)++[64])++num t.at_)++[58])++num t.need).toArray⟩) rfl (fun _ _=>rfl) hS3 ?_;refine wpAnyH_done (by kernel_rfl) ?_ _;go_wp2_with fail;go_roundw
      case rel=>exact⟨0+1,_,by go_num,rfl,by omega,.inr h60,hX,hA2,qaa B1 K3⟩
      case measure=>simp[intOf];omega
     ·have hX:Hid ((((((TX++[32])++num t.task)++[64])++num t.at_)++[58])++num t.need=qhe (js.take (k+1))):=by
       rw[Hid,hnx1.out h0,hT.out];simp[qgu]
      have e2:decide ((k:Int)>0)=true:=decide_eq_true (by omega);have e3:(0:Int)<(k:Int):=by omega
      go_upto_region 9 with fail;refine wp_region_held (S:=fun w'=>w'.cell? ⟨b,off+k*3,none⟩=some (.int .i64 t.task)∧w'.cell? ⟨b,off+k*3+1,none⟩=some (.int .i64 t.at_)∧w'.cell? ⟨b,off+k*3+2,none⟩=some (.int .i64 t.need)) (by kernel_rfl) ?_;change wpAnyH _ _ _ _ _ _ _ _ (World.drew _);have K0:Below w1.heap.size w1 (World.drew w1):=zdr br;have hSk: ∀{v:World},Below w1.heap.size w1 v→v.cell? ⟨b,off+k*3,none⟩=some (.int .i64 t.task)∧v.cell? ⟨b,off+k*3+1,none⟩=some (.int .i64 t.at_)∧v.cell? ⟨b,off+k*3+2,none⟩=some (.int .i64 t.need):=fun h=>⟨(h.cell (p:=⟨b,off+k*3,none⟩) hbl1).trans c0,(h.cell (p:=⟨b,off+k*3+1,none⟩) hbl1).trans c1,(h.cell (p:=⟨b,off+k*3+2,none⟩) hbl1).trans c2⟩
      have hS0:=hSk K0;clear c0 c1 c2;refine tq 0 26 (.string ⟨(TX++[32]).toArray⟩) rfl (fun _ _=>rfl) hS0 ?_;refine tq 1 27 (.slice (some ⟨b,off,none⟩) (js.length) c) rfl (fun _ _=>rfl) hS0 ?_;refine tq 2 28 (.int .i64 ((k:Int))) rfl (fun _ _=>rfl) hS0 ?_;refine tq 3 29 (.pointer (some ⟨b,off+k*3,none⟩)) rfl (fun w _=>by go_simp<;>(first|omega|(simp;omega))) hS0 ?_;refine tq 4 30 (.pointer (some ⟨b,off+k*3,none⟩)) rfl (fun w _=>by go_simp) hS0 ?_;refine tq 5 31 (.int .i64 (t.task)) rfl (fun w hS=>by obtain⟨x0,x1,x2⟩:=hS;go_simp) hS0 ?_;refine tq 9 35 (.slice (some ⟨b,off,none⟩) (js.length) c) rfl (fun _ _=>rfl) hS0 ?_;refine tq 10 36 (.int .i64 ((k:Int))) rfl (fun _ _=>rfl) hS0 ?_;refine tq 11 37 (.pointer (some ⟨b,off+k*3,none⟩)) rfl (fun w _=>by go_simp<;>(first|omega|(simp;omega))) hS0 ?_;refine tq 12 38 (.pointer (some ⟨b,off+k*3+1,none⟩)) rfl (fun w _=>by go_simp) hS0 ?_;refine tq 13 39 (.int .i64 (t.at_)) rfl (fun w hS=>by obtain⟨x0,x1,x2⟩:=hS;go_simp) hS0 ?_;refine tq 17 43 (.slice (some ⟨b,off,none⟩) (js.length) c) rfl (fun _ _=>rfl) hS0 ?_;refine tq 18 44 (.int .i64 ((k:Int))) rfl (fun _ _=>rfl) hS0 ?_;refine tq 19 45 (.pointer (some ⟨b,off+k*3,none⟩)) rfl (fun w _=>by go_simp<;>(first|omega|(simp;omega))) hS0 ?_;refine tq 20 46 (.pointer (some ⟨b,off+k*3+2,none⟩)) rfl (fun w _=>by go_simp) hS0 ?_;refine tq 21 47 (.int .i64 (t.need)) rfl (fun w hS=>by obtain⟨x0,x1,x2⟩:=hS;go_simp) hS0 ?_;refine ch 6 32 rfl 91 Tryz.func91 #[.int .i64 t.task] (qhw t.task (by omega) (by omega) _) ?_;rintro e v1 ⟨rfl,bz1⟩;have K1:=qaa K0 bz1;have hS1:=hSk K1;refine⟨_,rfl,hS1,?_⟩;simp only[lsS,lsZ];refine tq 7 33 (.string ⟨((TX++[32])++num t.task).toArray⟩) rfl (fun w _=>by go_simp<;>(first|(rw[if_neg (by omega)];simp[qan])|omega)) hS1 ?_;refine tq 8 34 (.string ⟨(((TX++[32])++num t.task)++[64]).toArray⟩) rfl (fun w _=>by go_simp<;>(first|(rw[if_neg (by omega)];simp[qan])|omega)) hS1 ?_;refine ch 14 40 rfl 91 Tryz.func91 #[.int .i64 t.at_] (qhw t.at_ (by omega) (by omega) _) ?_;rintro e v2 ⟨rfl,bz2⟩;have K2:=qaa K1 bz2;have hS2:=hSk K2;refine⟨_,rfl,hS2,?_⟩;simp only[lsS,lsZ];refine tq 15 41 (.string ⟨((((TX++[32])++num t.task)++[64])++num t.at_).toArray⟩) rfl (fun w _=>by go_simp<;>(first|(rw[if_neg (by omega)];simp[qan])|omega)) hS2 ?_;refine tq 16 42 (.string ⟨(((((TX++[32])++num t.task)++[64])++num t.at_)++[58]).toArray⟩) rfl (fun w _=>by go_simp<;>(first|(rw[if_neg (by omega)];simp[qan])|omega)) hS2 ?_;refine ch 22 48 rfl 91 Tryz.func91 #[.int .i64 t.need] (qhw t.need (by omega) (by omega) _) ?_;rintro e v3 ⟨rfl,bz3⟩;have K3:=qaa K2 bz3;have hS3:=hSk K3;refine⟨_,rfl,hS3,?_⟩;simp only[lsS,lsZ];refine tq 23 49 (.string ⟨((((((TX++[32])++num t.task)++[64])++num t.at_)++[58])++num t.need).toArray⟩) rfl (fun w _=>by go_simp<;>(first|(rw[if_neg (by omega)];simp[qan])|omega)) hS3 ?_;refine tq 24 3 (.string ⟨((((((TX++[32])++num t.task)++[64])++num t.at_)++[58])++num t.need).toArray⟩) rfl (fun _ _=>rfl) hS3 ?_;refine wpAnyH_done (by kernel_rfl) ?_ _;go_wp2_with fail;go_roundw
      case rel=>exact⟨k+1,_,by go_num,rfl,by omega,.inr h60,hX,hA2,qaa B1 K3⟩
      case measure=>simp[intOf];omega
   ·obtain rfl:k=js.length:=by omega
    have HF:Hid (qbc js=TX):=by
     have h1:=hA.out;rw[List.take_length] at h1
     have h2:qe0 js=true:=by
      simp only[qe0,Bool.and_eq_true,decide_eq_true_eq];exact⟨h1,h60⟩
     rw[Hid,qbc,if_pos h2,hT.out,List.take_length]
    go_wp2_with fail;go_ret;exact⟨by rw[HF.out];rfl,hb⟩
  ·have hk0:k=0:=by omega
   subst hk0
   have HF:Hid (qbc js=TX):=by
    have:qe0 js=false:=by
     simp only[qe0,Bool.and_eq_false_iff];exact .inr (decide_eq_false h60)
    rw[Hid,hT.out,qbc,this];rfl
   have e1:decide ((js.length:Int)≤60)=false:=decide_eq_false (by omega);have e4: ¬(js.length:Int)≤60:=by omega
   go_wp2_with fail;all_goals go_ret
   all_goals exact⟨by rw[HF.out];rfl,hb⟩
def qbi(r:Rat):List UInt8:=num r.num++(if r.den=1 then [] else 47::num (r.den:Int))
theorem qct(r:Rat)(h:RIn r):(qbi r).length≤43:=by
 unfold RIn at h;have h1:=qap r.num (by omega);have h2:=qap (r.den:Int) (by omega);unfold qbi;split<;>simp<;>omega
theorem qeo{B:Nat}(r:Rat)(h:RIn r)(w:World)(hM:Mx B w)(hB:B≤w.heap.size):
  Calls Tryz.prog 128 #[rv r] w fun e w'=>e=.returned (.string ⟨(qbi r).toArray⟩)∧Below w.heap.size w w':=by
 obtain⟨a0,a1,a2⟩:=id h;have l1:=qap r.num (by omega);have l2:=qap (r.den:Int) (by omega);by_cases hd:r.den=1
 ·have hT:Hid (qbi r=num r.num):=by simp[Hid,qbi,hd]
  have HD:=zhi hd;clear hd;go_enter Tryz.func128,Tryz.ntmps128;go_wp2_with fail;refine(qgz r _ h).mono ?_;rintro e w1 ⟨rfl,b1⟩;have hN:w1.heap[w.heap.size]? =some (.cells #[.int .i64 r.num,.int .i64 (r.den:Int)] 54 (0,0)):=(b1.block w.heap.size (by simp)).trans (zha w _);obtain⟨k0,k1,_⟩:=qak hN;have b:=qaa (bal (Below.refl w.heap.size w) _) b1;have hlt:w.heap.size<w1.heap.size:=zlt (by simp) b1.size;clear hN b1;go_wp2_with fail;refine(qdg (hM.keep (b.mono hB)) r.num a0 a1).mono ?_;rintro e w2 ⟨rfl,b2⟩;have k1:=(b2.cell (p:=⟨w.heap.size,1,none⟩) hlt).trans k1;rw[HD.out] at k1;clear k0;go_wp2_with fail;go_ret;exact⟨by rw[hT.out];rfl,qaa b b2⟩
 ·have hT:Hid (qbi r=num r.num++([47]++num (r.den:Int))):=by simp[Hid,qbi,hd]
  have hne:((r.den:Int) !=1)=true:=by rw[bne_iff_ne];omega
  go_enter Tryz.func128,Tryz.ntmps128;go_wp2_with fail;refine(qgz r _ h).mono ?_;rintro e w1 ⟨rfl,b1⟩;have hN:w1.heap[w.heap.size]? =some (.cells #[.int .i64 r.num,.int .i64 (r.den:Int)] 54 (0,0)):=(b1.block w.heap.size (by simp)).trans (zha w _);obtain⟨k0,k1,_⟩:=qak hN;have b:=qaa (bal (Below.refl w.heap.size w) _) b1;have hlt:w.heap.size<w1.heap.size:=zlt (by simp) b1.size;clear hN b1;go_wp2_with fail;refine(qdg (hM.keep (b.mono hB)) r.num a0 a1).mono ?_;rintro e w2 ⟨rfl,b2⟩;have k1:=(b2.cell (p:=⟨w.heap.size,1,none⟩) hlt).trans k1;have hlt2:w.heap.size<w2.heap.size:=zlt hlt b2.size;have B2:=qaa b b2;clear k0;go_wp2_with fail;refine(qdg (hM.keep (B2.mono hB)) (r.den:Int) (by omega) (by omega)).mono ?_;rintro e w3 ⟨rfl,b3⟩;go_wp2_with fail;go_ret;refine⟨?_,qaa B2 b3⟩;rw[hT.out];simp only[←qan];rfl
theorem qep(n:Int)(h0:0≤n)(h1:n≤9223372036854775807)(w:World):
  Calls Tryz.prog 91 #[.int .i64 n] w fun e w'=>e=.returned (.string ⟨(num n).toArray⟩)∧Below w.heap.size w w':=by
 have K:=qk4 n.toNat (by omega) w;rw[Int.toNat_of_nonneg h0] at K;exact K
theorem qeq(r:Rat)(hR:RIn r)(w:World):
  Calls Tryz.prog 89 #[rv r] w fun e w'=>e=.returned (.string ⟨(qbi r).toArray⟩)∧Below w.heap.size w w':=by
 obtain⟨r0,r1,r2⟩:=hR;have r3:=r.den_pos;have l1:=qap r.num (by omega);have l2:=qap (r.den:Int) (by omega);have a1:=zha w (.cells #[.int .i64 r.num,.int .i64 (r.den:Int)] 54 (0,0));have ba:=bal (Below.refl w.heap.size w) (.cells #[.int .i64 r.num,.int .i64 (r.den:Int)] 54 (0,0));go_enter Tryz.func89,Tryz.ntmps89;go_wp2_with fail;refine(qes r _ ⟨r0,r1,r2⟩).mono ?_;rintro e w1 ⟨rfl,b1⟩;have h1:=(b1.block w.heap.size (by simp)).trans a1;have B1:=qaa ba b1;generalize w.heap.size=g at h1⊢;obtain⟨z0,z1,zf⟩:=qak h1;have hg:g<w1.heap.size:=(bl h1);clear a1 ba b1;by_cases hd:r.den=1
 ·have HX:Hid (qbi r=num r.num):=by simp[Hid,qbi,hd]
  have e1:((r.den:Int)==1)=true:=by simp[hd]
  have e2:(r.den:Int)=1:=by omega
  clear hd;go_wp2_with fail;refine(qep r.num (by omega) (by omega) _).mono ?_;rintro e w2 ⟨rfl,b2⟩;go_wp2_with fail;go_ret;rw[HX.out];exact⟨rfl,qaa B1 b2⟩
 ·have HX:Hid (qbi r=(num r.num++[47])++num (r.den:Int)):=by simp[Hid,qbi,hd]
  have e1:((r.den:Int)==1)=false:=by simp;omega
  clear hd;go_upto_region 5 with fail;refine wp_region_held (S:=fun w'=>w'.heap[g]? =some (.cells #[.int .i64 r.num,.int .i64 (r.den:Int)] 54 (0,0))) (by kernel_rfl) ?_;change wpAnyH _ _ _ _ _ _ _ _ (World.drew _);have K0:Below w1.heap.size w1 (World.drew w1):=zdr br;have hSk: ∀{v:World},Below w1.heap.size w1 v→v.heap[g]? =some (.cells #[.int .i64 r.num,.int .i64 (r.den:Int)] 54 (0,0)):=fun h=>(h.block g hg).trans h1
  have hS0:=hSk K0;clear z0 z1 zf;refine tq 0 12 (.pointer (some ⟨g,0,none⟩)) rfl (fun w _=>by go_simp) hS0 ?_;refine tq 1 13 (.int .i64 (r.num)) rfl (fun w hS=>by obtain⟨x0,x1,xf⟩:=qak hS;go_simp) hS0 ?_;refine tq 4 16 (.pointer (some ⟨g,1,none⟩)) rfl (fun w _=>by go_simp) hS0 ?_;refine tq 5 17 (.int .i64 ((r.den:Int))) rfl (fun w hS=>by obtain⟨x0,x1,xf⟩:=qak hS;go_simp) hS0 ?_;refine ch 2 14 rfl 91 Tryz.func91 #[.int .i64 (r.num)] (qep (r.num) (by omega) (by omega) _) ?_;rintro e v1 ⟨rfl,bz1⟩;have K1:=qaa K0 bz1;have hS1:=hSk K1;refine⟨_,rfl,hS1,?_⟩;simp only[lsS,lsZ];refine tq 3 15 (.string ⟨(num (r.num)++[47]).toArray⟩) rfl (fun w _=>by go_simp<;>(first|(rw[if_neg (by omega)];simp[qan])|omega)) hS1 ?_;refine ch 6 18 rfl 91 Tryz.func91 #[.int .i64 ((r.den:Int))] (qep ((r.den:Int)) (by omega) (by omega) _) ?_;rintro e v2 ⟨rfl,bz2⟩;have K2:=qaa K1 bz2;have hS2:=hSk K2;refine⟨_,rfl,hS2,?_⟩;simp only[lsS,lsZ];refine tq 7 19 (.string ⟨((num (r.num)++[47])++num ((r.den:Int))).toArray⟩) rfl (fun w _=>by go_simp<;>(first|(rw[if_neg (by omega)];simp[qan])|omega)) hS2 ?_;refine tq 8 2 (.string ⟨((num (r.num)++[47])++num ((r.den:Int))).toArray⟩) rfl (fun _ _=>rfl) hS2 ?_;refine wpAnyH_done (by kernel_rfl) ?_ _;go_wp2_with fail;go_ret;rw[HX.out];exact⟨rfl,qaa B1 K2⟩
theorem qhi(hd:List UInt8)(T:ZA)(n d:Nat)(xs:List Int)(w:World)(hn:xs.length=n)(ht:IS w T xs)(hl:n≤300)(hh:hd.length≤1000)(hok: ∀t∈xs,0≤t∧t≤1000000000):
  Calls Tryz.prog 207 #[.string ⟨hd.toArray⟩,.slice T n d] w fun e w'=>e=.returned (.string ⟨((hd++qc9 xs)++[10]).toArray⟩)∧Below w.heap.size w w':=by
 go_enter Tryz.func207,Tryz.ntmps207;go_wp2_with fail;go_loopg [5,6] n (fun gg v i wr=> ∃(k:Nat) (P:List UInt8),gg+k=n∧i=.int .i64 (k:Int)∧v=.string ⟨P.toArray⟩∧P.length≤10000∧Hid (P=hd++qc9 (xs.take k))∧Below w.heap.size w wr)
 case atStart=>exact⟨0,hd,by omega,rfl,rfl,by omega,by simp[Hid,qc9],br⟩
 case round=>
  obtain⟨k,P,hgk,rfl,rfl,hPl,hP,hbr⟩:=hrel;by_cases hkl:k<n
  ·have e0:decide ((k:Int)<(n:Int))=true:=decide_eq_true (by omega);have hkI:(k:Int)<(n:Int):=by omega
   have hkl2:k<xs.length:=by omega
   obtain⟨b,off,rfl,hbl,hc⟩:=(ht.keep hbr) (by omega);have hc0:=hc k xs[k] (by simp[hkl2]);have ho:=hok xs[k] (List.getElem_mem hkl2);have hst:xs.take (k+1)=xs.take k++[xs[k]]:=by rw[List.take_succ_eq_append_getElem hkl2]
   have htl:(hd++qc9 (xs.take (k+1))).length≤10000:=by
    have:=qd2 (xs.take (k+1)) (fun n hn=>(hok n (List.mem_of_mem_take hn)).2);rw[List.length_take] at this;rw[List.length_append];omega
   have hTS:=qrm (xs.take k) xs[k];rw[←hst] at hTS;clear hst hc;generalize xs[k]=t at hc0 ho hTS
   have HT:Hid ((P++[32])++num t=hd++qc9 (xs.take (k+1))):=by
    rw[Hid,hTS,hP.out];simp
   have HTl:Hid (((P++[32])++num t).length≤10000):=by rw[Hid,HT.out];exact htl
   have hnl:=qap t (by omega);clear hTS htl;go_wp2_with fail;refine(qep t (by omega) (by omega) _).mono ?_;rintro e w4 ⟨rfl,b4⟩;go_wp2_with fail;go_roundg (gk-1)
   case measure=>omega
   case rel=>exact⟨k+1,(P++[32])++num t,by omega,by go_num,by rw[←qan,←qan],HTl.out,HT,qaa hbr b4⟩
  ·obtain rfl:k=n:=by omega
   have e0:decide ((k:Int)<(k:Int))=false:=decide_eq_false (by omega);have htk:xs.take k=xs:=List.take_of_length_le (by omega);rw[htk] at hP;go_wp2_with fail;go_ret;exact⟨by rw[←hP.out,←qan];rfl,hbr⟩
end Go.Proofs.YtmkjmancmiphfaaGreatDoor
