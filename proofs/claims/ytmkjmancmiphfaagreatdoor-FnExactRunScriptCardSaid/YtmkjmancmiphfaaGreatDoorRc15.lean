/-
  Shares, the reference's: l1Gcd, MakeShare, ShareValid, l2Add, CompareShares.
  l2Add, the reference's sum of shares.
-/
import Derived.Test.YtmkjmancmiphfaaGreatDoorRc09
namespace Go.Proofs.YtmkjmancmiphfaaGreatDoor
set_option maxHeartbeats 8000000
set_option maxRecDepth 1000000
open Go.RowKit
theorem qiy(a b:Nat)(w:World)(ha:a≤4611686018427387904)(hb:b≤4611686018427387904):
  Calls Tryz.prog 111 #[.int .i64 (a:Int),.int .i64 (b:Int)] w fun e w'=>e=.returned (.int .i64 ((Nat.gcd a b:Nat):Int))∧Below w.heap.size w w':=by
 go_enter Tryz.func111,Tryz.ntmps111;go_wp2_with fail;go_loopw [0,1] (fun u v wr=> ∃x y:Nat,u=.int .i64 (x:Int)∧v=.int .i64 (y:Int)∧Hid (Nat.gcd x y=Nat.gcd a b)∧x≤4611686018427387904∧y≤4611686018427387904∧Below w.heap.size w wr) (fun _ v _=>(intOf v).toNat)
 case atStart=>exact⟨a,b,rfl,rfl,rfl,ha,hb,br⟩
 case round=>
  obtain⟨x,y,rfl,rfl,hg,hx,hy,hbl⟩:=hrel;by_cases h0:y=0
  ·subst h0;go_wp2_with fail;go_ret;have:=hg.out;rw[Nat.gcd_zero_right] at this;exact⟨by rw[←this];rfl,hbl⟩
  ·have hne:((y:Int) !=0)=true:=by rw[Ydm];omega
   have hlt:=Nat.mod_lt x (show 0<y by omega);have hz:((y:Int)==0)=false:=beq_eq_false_iff_ne.2 (by omega);have h0':0<y:=by omega
   go_wp2_with fail;go_roundw
   case rel=>exact⟨y,x % y,rfl,by go_num,by rw[Hid,qwt];exact hg,hy,by omega,hbl⟩
   case measure=>simp[intOf];omega
theorem qnm(x y:Int)(w:World)(hx:0≤x)(hy:0≤y)(ha:x≤4611686018427387904)(hb:y≤4611686018427387904):
  Calls Tryz.prog 111 #[.int .i64 x,.int .i64 y] w fun e w'=>e=.returned (.int .i64 ((Nat.gcd x.toNat y.toNat:Nat):Int))∧Below w.heap.size w w':=by
 obtain⟨n,rfl⟩: ∃k:Nat,x=(k:Int):=⟨x.toNat,(Yay hx).symm⟩;obtain⟨d,rfl⟩: ∃k:Nat,y=(k:Int):=⟨y.toNat,(Yay hy).symm⟩;simpa using qiy n d w (by omega) (by omega)
theorem qgm(n d:Int)(w:World):
  Calls Tryz.prog 112 #[.int .i64 n,.int .i64 d] w (qwu n d w):=by
 by_cases h0:0≤n
 case neg=>
  go_enter Tryz.func112,Tryz.ntmps112;go_wp2_with fail;exact bodyPost_ret (v:=.tuple #[sv 0 0,.bool false]) (by simp[results,Tryz.results112,go_sem]) rfl (.inr ⟨by simp[qsn];omega,rfl,bal br _⟩)
 by_cases h1:n≤1000000000
 case neg=>
  go_enter Tryz.func112,Tryz.ntmps112;go_wp2_with fail;exact bodyPost_ret (v:=.tuple #[sv 0 0,.bool false]) (by simp[results,Tryz.results112,go_sem]) rfl (.inr ⟨by simp[qsn];omega,rfl,bal br _⟩)
 by_cases h2:1≤d
 case neg=>
  go_enter Tryz.func112,Tryz.ntmps112;go_wp2_with fail;exact bodyPost_ret (v:=.tuple #[sv 0 0,.bool false]) (by simp[results,Tryz.results112,go_sem]) rfl (.inr ⟨by simp[qsn];omega,rfl,bal br _⟩)
 by_cases h3:d≤1000000000
 case neg=>
  go_enter Tryz.func112,Tryz.ntmps112;go_wp2_with fail;exact bodyPost_ret (v:=.tuple #[sv 0 0,.bool false]) (by simp[results,Tryz.results112,go_sem]) rfl (.inr ⟨by simp[qsn];omega,rfl,bal br _⟩)
 obtain⟨n,rfl⟩: ∃k:Nat,n=(k:Int):=⟨n.toNat,(Yay h0).symm⟩;obtain⟨d,rfl⟩: ∃k:Nat,d=(k:Int):=⟨d.toNat,(Yay (by omega)).symm⟩;have hgpos:0<Nat.gcd d n:=Ydj _ (by omega);have hgle:Nat.gcd d n≤d:=Ycm (by omega) (Nat.gcd_dvd_left _ _);have e1:(mkRat (n:Int) d).num=(n:Int)/((Nat.gcd d n:Nat):Int):=by rw[qgr _ _ (by omega),Ydu];simp
 have e2:(((mkRat (n:Int) d).den:Nat):Int)=(d:Int)/((Nat.gcd d n:Nat):Int):=by rw[qgs _ _ (by omega),Ydu];simp
 have hne:(((Nat.gcd d n:Nat):Int)==0)=false:=beq_eq_false_iff_ne.2 (by omega);have E1:=zhi e1;have E2:=zhi e2;clear e1 e2;go_enter Tryz.func112,Tryz.ntmps112;go_wp2_with fail;refine(qiy d n _ (by omega) (by omega)).mono ?_;rintro e w1 ⟨rfl,b1⟩;generalize Nat.gcd d n=c at*;have hB:w1.heap[w.heap.size]? =some (.cells #[.int .i64 0,.int .i64 0] 54 (0,0)):=(b1.block _ (by simp)).trans (zha w _);have k0:w1.cell? ⟨w.heap.size,0,none⟩=some (.int .i64 0):=by rw[Ybf w1 _ 0 _ _ _ hB];rfl
 have k1:w1.cell? ⟨w.heap.size,1,none⟩=some (.int .i64 0):=by rw[Ybf w1 _ 1 _ _ _ hB];rfl
 have kf: ∀i,w1.frozen? ⟨w.heap.size,i,none⟩=false:=fun i=>frozen_of_row w1 _ i _ _ hB
 clear hB;have hq1:IntKind.i64.wrap ((n:Int).tdiv (c:Int))=(n:Int)/(c:Int):=IntWalk.i64_quo _ _ (by omega);have hq2:IntKind.i64.wrap ((d:Int).tdiv (c:Int))=(d:Int)/(c:Int):=IntWalk.i64_quo _ _ (by omega);go_wp2_with fail;go_region
 go_wp2_with fail;have q1:0≤(n:Int)/(c:Int)∧(n:Int)/(c:Int)≤n:=⟨Ydv (by omega) (by omega),Int.ediv_le_self _ (by omega)⟩;have q2:0≤(d:Int)/(c:Int)∧(d:Int)/(c:Int)≤d:=⟨Ydv (by omega) (by omega),Int.ediv_le_self _ (by omega)⟩;have p1:wrap64 ((n:Int)/(c:Int))=(n:Int)/(c:Int):=Ycf _ (by omega);have p2:wrap64 ((d:Int)/(c:Int))=(d:Int)/(c:Int):=Ycf _ (by omega);refine bodyPost_ret (v:=.tuple #[sv ((n:Int)/(c:Int)) ((d:Int)/(c:Int)),.bool true]) (by simp[results,Tryz.results112,go_sem,k0,k1,p1,p2]) rfl (.inl ⟨by simp[qsn];omega,?_,?_⟩)
 ·rw[←E1.out,←E2.out];rfl
 ·exact(bst (bst (Qa (bal br _) b1) (zlr _) _) (zlr _) _).drew
theorem qc8(r:Rat)(w:World)(h:RIn r):
  Calls Tryz.prog 152 #[rv r] w fun e w'=>e=.returned (.bool true)∧Below w.heap.size w w':=by
 have hq:=fun(w:World)=>qka r.num r.den w
 go_enter Tryz.func152,Tryz.ntmps152;go_wp2_with fail;refine(qgm r.num r.den _).mono ?_;rintro e w1 (⟨_,rfl,b1⟩|⟨hf,_,_⟩)
 ·rw[Yam,Rat.mkRat_self];have hB:w1.heap[w.heap.size]? =some (.cells #[.int .i64 r.num,.int .i64 (r.den:Int)] 54 (0,0)):=(b1.block _ (by simp)).trans (zha w _);have hs:w.heap.size<w1.heap.size:=by have:=b1.size;simp at this;omega
  have k0:w1.cell? ⟨w.heap.size,0,none⟩=some (.int .i64 r.num):=by rw[Ybf w1 _ 0 _ _ _ hB];rfl
  have k1:w1.cell? ⟨w.heap.size,1,none⟩=some (.int .i64 (r.den:Int)):=by rw[Ybf w1 _ 1 _ _ _ hB];rfl
  clear hB;go_wp2_with fail;go_ret;exact⟨rfl,bal (Qa (bal br _) b1) _⟩
 ·rw[qq5 h] at hf;cases hf
def q5z(a b:Rat):Int:=if a.num*(b.den:Int)<b.num*(a.den:Int) then-1 else if b.num*(a.den:Int)<a.num*(b.den:Int) then 1 else 0
theorem qkp(a b:Rat)(w:World)(ha:RIn a)(hb:RIn b):
  Calls Tryz.prog 110 #[rv a,rv b] w fun e w'=>e=.returned (.int .i64 (q5z a b))∧Below w.heap.size w w':=by
 obtain⟨a0,a1,a2,a3⟩:=qcb ha;obtain⟨b0,b1,b2,b3⟩:=qcb hb;have m1:=qbp a0 a1 (show 0≤(b.den:Int) by omega) b3 (by omega);have m2:=qbp b0 b1 (show 0≤(a.den:Int) by omega) a3 (by omega);obtain⟨m10,m11⟩:=m1;obtain⟨m20,m21⟩:=m2;have hc:Hid (q5z a b=if a.num*(b.den:Int)<b.num*(a.den:Int) then-1 else if b.num*(a.den:Int)<a.num*(b.den:Int) then 1 else 0):=rfl;go_enter Tryz.func110,Tryz.ntmps110;go_wp2_with fail;refine(qc8 a _ ha).mono ?_;rintro e w1 ⟨rfl,c1⟩;have hz1:=c1.size;simp only[Yah] at hz1;obtain⟨q0,q1⟩:=q0c w (.cells #[.int .i64 a.num,.int .i64 (a.den:Int)] 54) (.cells #[.int .i64 b.num,.int .i64 (b.den:Int)] 54);have q0:=(c1.block w.heap.size (by simp;omega)).trans q0;have q1:=(c1.block (w.heap.size+1) (by simp)).trans q1;obtain⟨u0,u1,uf⟩:=Qk q0;obtain⟨v0,v1,vf⟩:=Qk q1;have Q0:=zhi q0;have Q1:=zhi q1;clear q0 q1;go_wp2_with fail;refine(qc8 b _ hb).mono ?_;rintro e w2 ⟨rfl,c2⟩;have q0:=(c2.block w.heap.size (by omega)).trans Q0.out;have q1:=(c2.block (w.heap.size+1) (by omega)).trans Q1.out;clear u0 u1 uf v0 v1 vf Q0 Q1;obtain⟨u0,u1,uf⟩:=Qk q0;obtain⟨v0,v1,vf⟩:=Qk q1;clear q0 q1;have B2:=Qa (Qa (bal (bal (Below.refl w.heap.size w) _) _) c1) c2;by_cases h1:a.num*(b.den:Int)<b.num*(a.den:Int)
 ·have hv:Hid (q5z a b= -1):=by rw[Hid,hc.out,Yav h1]
  go_wp2_with fail;go_ret;exact⟨by rw[hv.out];rfl,B2⟩
 ·by_cases h2:b.num*(a.den:Int)<a.num*(b.den:Int)
  ·have hv:Hid (q5z a b=1):=by rw[Hid,hc.out,Yaq h1,Yav h2]
   go_wp2_with fail;go_ret;exact⟨by rw[hv.out];rfl,B2⟩
  ·have hv:Hid (q5z a b=0):=by rw[Hid,hc.out,Yaq h1,Yaq h2]
   go_wp2_with fail;go_ret;exact⟨by rw[hv.out];rfl,B2⟩
theorem q0o(a b:Rat): ∃p q g:Nat,g=Nat.gcd a.den b.den∧0<g∧a.den=p*g∧b.den=q*g∧0<p∧0<q:=by
 have hg:0<Nat.gcd a.den b.den:=Ydj _ a.den_pos;obtain⟨p,hp⟩:=Nat.gcd_dvd_left a.den b.den;obtain⟨q,hq⟩:=Nat.gcd_dvd_right a.den b.den;refine⟨p,q,_,rfl,hg,by rw[Yct];exact hp,by rw[Yct];exact hq,?_,?_⟩
 ·rcases Nat.eq_zero_or_pos p with h|h
  ·rw[h,Nat.mul_zero] at hp;have:=a.den_pos;omega
  ·exact h
 ·rcases Nat.eq_zero_or_pos q with h|h
  ·rw[h,Nat.mul_zero] at hq;have:=b.den_pos;omega
  ·exact h
theorem q7e{a b:Rat}{p q g:Nat}(hp:a.den=p*g)(hq:b.den=q*g)(hg:0<g)(_h0:0<p)(_h1:0<q):a+b=mkRat (a.num*q+b.num*p) (p*b.den):=by
 rw[←qzn]
 have e1:a.num*(b.den:Int)+b.num*(a.den:Int)=(a.num*q+b.num*p)*(g:Int):=by
  rw[hp,hq,Ybr,Ybr,Int.add_mul];ac_rfl
 have e2:a.den*b.den=p*b.den*g:=by
  rw[hp];ac_rfl
 rw[e1,e2,Rat.mkRat_mul_right (by omega)]
theorem qb8(r:Rat)(w:World)(h:RIn r):
  Calls Tryz.prog 112 #[.int .i64 r.num,.int .i64 (r.den:Int)] w fun e w'=>e=.returned (.tuple #[rv r,.bool true])∧Below w.heap.size w w':=by
 refine(qgm r.num r.den w).mono ?_;rintro e w1 (⟨_,rfl,b1⟩|⟨hf,_,_⟩)
 ·rw[Yam,Rat.mkRat_self];exact⟨rfl,b1⟩
 ·rw[qq5 h] at hf;cases hf
theorem q0p{D:Nat}(h:(D:Int)≤1000000000*1000000000+1000000000*1000000000):D≤4611686018427387904:=by omega
theorem qb3(a b:Rat)(w:World)(ha:RIn a)(hb:RIn b)(hs:RIn (a+b)):
  Calls Tryz.prog 109 #[rv a,rv b] w fun e w'=>e=.returned (.tuple #[rv (a+b),.bool true])∧Below w.heap.size w w':=by
 obtain⟨p,q,g,hg,g0,hp,hq,p0,q0⟩:=q0o a b;have hab:=q7e hp hq g0 p0 q0;obtain⟨a0,a1,a2,a3⟩:=qcb ha;obtain⟨b0,b1,b2,b3⟩:=qcb hb;have hple:p≤a.den:=by rw[hp];exact Nat.le_mul_of_pos_right _ g0
 have hqle:q≤b.den:=by rw[hq];exact Nat.le_mul_of_pos_right _ g0
 have hgle:g≤a.den:=by rw[hp];exact Nat.le_mul_of_pos_left _ p0
 have d1:(a.den:Int).tdiv (g:Int)=(p:Int):=by
  rw[hp,Ybr,Int.mul_tdiv_cancel _ (by omega)]
 have d2:(b.den:Int).tdiv (g:Int)=(q:Int):=by
  rw[hq,Ybr,Int.mul_tdiv_cancel _ (by omega)]
 have m1:=qbp (show 0≤(p:Int) by omega) (show(p:Int)≤1000000000 by omega) (show 0≤(b.den:Int) by omega) b3 (by omega);have m2:=qbp a0 a1 (show 0≤(q:Int) by omega) (show(q:Int)≤1000000000 by omega) (by omega);have m3:=qbp b0 b1 (show 0≤(p:Int) by omega) (show(p:Int)≤1000000000 by omega) (by omega);have m4:1≤(p:Int)*(b.den:Int):=by have:=Int.mul_pos (show(0:Int)<p by omega) (show(0:Int)<b.den by omega);omega
 obtain⟨D,hD⟩: ∃D:Nat,(p:Int)*(b.den:Int)=(D:Int):=⟨p*b.den,by rw[Ybr]⟩;obtain⟨N,hN⟩: ∃N:Nat,a.num*(q:Int)+b.num*(p:Int)=(N:Int):=⟨(a.num*(q:Int)+b.num*(p:Int)).toNat,by omega⟩;have hDn:p*b.den=D:=by have:((p*b.den:Nat):Int)=(D:Int):=(by rw[Ybr,hD]);exact_mod_cast this
 rw[hN,hDn] at hab;have hD0:D≠0:=by omega
 have hh:0<Nat.gcd D N:=Ydj _ (by omega);have hhle:Nat.gcd D N≤D:=Ycm (by omega) (Nat.gcd_dvd_left _ _);have e1:(a+b).num=(N:Int)/((Nat.gcd D N:Nat):Int):=by rw[hab,qgr _ _ hD0,Ydu];simp
 have e2:(((a+b).den:Nat):Int)=(D:Int)/((Nat.gcd D N:Nat):Int):=by rw[hab,qgs _ _ hD0,Ydu];simp
 have f1:(N:Int).tdiv ((Nat.gcd D N:Nat):Int)=(a+b).num:=by rw[e1,Yby (by omega)]
 have f2:(D:Int).tdiv ((Nat.gcd D N:Nat):Int)=((a+b).den:Int):=by rw[e2,Yby (by omega)]
 have G:=qiy a.den b.den;rw[←hg] at G;have G2:=qiy D N;generalize hgd:Nat.gcd D N=h at*;obtain⟨s0,s1,s2,s3⟩:=qcb hs;have hne:((g:Int)==0)=false:=beq_eq_false_iff_ne.2 (by omega);have hne2:((h:Int)==0)=false:=beq_eq_false_iff_ne.2 (by omega);have w1:wrap64 ((a.den:Int)/(g:Int))=(p:Int):=by rw[←Yby (by omega),d1];exact Ycf _ (by omega)
 have w2:wrap64 ((b.den:Int)/(g:Int))=(q:Int):=by rw[←Yby (by omega),d2];exact Ycf _ (by omega)
 have w3:wrap64 ((p:Int)*(b.den:Int))=(D:Int):=by rw[hD];exact Ycf _ (by omega)
 have w4:wrap64 (a.num*(q:Int))=a.num*(q:Int):=Ycf _ (by omega);have w5:wrap64 (b.num*(p:Int))=b.num*(p:Int):=Ycf _ (by omega);have w6:wrap64 (a.num*(q:Int)+b.num*(p:Int))=(N:Int):=by rw[hN];exact Ycf _ (by omega)
 have w7:IntKind.i64.wrap ((N:Int).tdiv (h:Int))=(a+b).num:=by rw[f1];exact Yai _ (by omega)
 have w8:IntKind.i64.wrap ((D:Int).tdiv (h:Int))=((a+b).den:Int):=by rw[f2];exact Yai _ (by omega)
 have hNm:N≤4611686018427387904:=q0p (by rw[←hN];exact Int.add_le_add m2.2 m3.2);have hDm:D≤4611686018427387904:=q0p (by rw[←hD];exact Int.le_trans m1.2 (by decide))
 have G3: ∀w:World,Calls Tryz.prog 111 #[.int .i64 ((p:Int)*(b.den:Int)),.int .i64 (a.num*(q:Int)+b.num*(p:Int))] w fun e w'=>e=.returned (.int .i64 ((h:Nat):Int))∧Below w.heap.size w w':=fun w=>by
  rw[hD,hN];exact G2 w hDm hNm
 rw[←hN] at w7;rw[←hD] at w8;have hM:=fun(w:World)=>qb8 (a+b) w hs
 generalize a+b=r at*;have W1:=zhi w1;have W2:=zhi w2;have W3:=zhi w3;have W4:=zhi w4;have W5:=zhi w5;have W6:=zhi w6;have W7:=zhi w7;have W8:=zhi w8;have G:=zhi G;have G2:=zhi G3;have HM:=zhi hM;clear G3 w1 w2 w3 w4 w5 w6 w7 w8 hM e1 e2 f1 f2 hab hD hN hDn hgd d1 d2 hp hq hg;have hx1:=a.den_pos;go_enter Tryz.func109,Tryz.ntmps109;go_wp2_with fail;refine(G.out _ (by omega) (by omega)).mono ?_;rintro e w1 ⟨rfl,c1⟩;have hz1:=c1.size;simp only[Yah] at hz1;obtain⟨hA0,hB0,hC0⟩:=q5g w (.cells #[.int .i64 a.num,.int .i64 (a.den:Int)] 54) (.cells #[.int .i64 b.num,.int .i64 (b.den:Int)] 54) (.cells #[.int .i64 0,.int .i64 0] 54);have hA1:=(c1.block w.heap.size (by simp;omega)).trans hA0;have hB1:=(c1.block (w.heap.size+1) (by simp)).trans hB0;have hC1:=zhi ((c1.block (w.heap.size+1+1) (by simp)).trans hC0);clear hA0 hB0 hC0;obtain⟨u0,u1,uf⟩:=Qk hA1;obtain⟨v0,v1,vf⟩:=Qk hB1;clear hA1 hB1;go_wp2_with fail;have x1:=W1.out;have x3:=W3.out;go_quiet (fail)
 go_wp2_with fail;clear x3;have x2:=W2.out;have x4:=W4.out;have x5:=W5.out;have x6:=W6.out;go_quiet (fail)
 go_wp2_with fail;clear x1 x2 x4 x5 x6;refine(G2.out _).mono ?_;rintro e w2 ⟨rfl,c2⟩;have hz2:w1.heap.size≤w2.heap.size:=c2.size;have hC2:=zhi ((c2.block (w.heap.size+1+1) (by show w.heap.size+1+1<w1.heap.size;omega)).trans hC1.out);clear u0 u1 uf v0 v1 vf;have B2:=Qa (bdr (Qa (bal (bal (bal (Below.refl w.heap.size w) _) _) _) c1) _) c2;go_wp2_with fail;have x7:=W7.out;have x8:=W8.out
 go_region_with (first
  |(go_at_call 112;refine(HM.out _).mono ?_;rintro e w3 ⟨rfl,c3⟩;have hC3:=(c3.block (w.heap.size+1+1) (by show w.heap.size+1+1<w2.heap.size;omega)).trans hC2.out;obtain⟨y0,y1,yf⟩:=Qk hC3;have hz3:=c3.size;have B3:=Qa (zdr B2) c3;clear hC3))
 all_goals clear x7 x8
 all_goals go_wp2_with fail
 all_goals
  refine bodyPost_ret (v:=.tuple #[rv r,.bool true]) (by simp[results,Tryz.results109,go_sem,y0,y1]) rfl ⟨rfl,?_⟩;exact bst (bst B3 (p:=⟨w.heap.size+1+1,0,none⟩) (by show w.heap.size≤w.heap.size+1+1;omega) _) (p:=⟨w.heap.size+1+1,1,none⟩) (by show w.heap.size≤w.heap.size+1+1;omega) _
end Go.Proofs.YtmkjmancmiphfaaGreatDoor
